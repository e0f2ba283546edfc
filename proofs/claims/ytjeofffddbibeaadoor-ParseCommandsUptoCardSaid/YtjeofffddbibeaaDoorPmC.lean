/-
 Part 3 of what the row stands on,put together by a program: ParS,ParK,NameM,ExprR,PBkC,PParseTellsx4,PParseTellsx5,PParseTellsx6.
-/
import Derived.Lib.Bytealg
import Derived.Shelf.Strings.SlTrimAscii
import Derived.ShutString
import Derived.Test.YtjeofffddbibeaaDoorPmB
set_option linter.unusedVariables false
set_option linter.unusedSimpArgs false
section
namespace Go.Proofs.YtjeofffddbibeaaDoor.Pa
open Go Go.RowKit PParseTells Ex YtjeofffddbibeaaDoorW.PrintWords YtjeofffddbibeaaDoorW.PrintLast YtjeofffddbibeaaDoorW.PrintMore
def lets (s : ByteArray) : List Int:=s.data.toList.map fun b => (b.toNat : Int)
def okL : List Int → Bool
 | [] => true
 | l :: ls => if l = 101 then ls.isEmpty else (l == 110 || l == 105 || l == 114 || l == 61) && okL ls
theorem shapes_ok : ∀ q ∈ shapeL,okL (lets q.1) = true ∧ q.1.size ≤ 10 ∧ ∀ b ∈ q.1.data.toList,b.toNat < 128:=by decide +kernel
theorem shF_mem (s : ByteArray) : ∀ l : List (ByteArray × ByteArray),(∀ q ∈ l,okL (lets q.1) = true ∧ q.1.size ≤ 10 ∧ ∀ b ∈ q.1.data.toList,b.toNat < 128) → okL (lets (shF l s).1) = true ∧ (shF l s).1.size ≤ 10 ∧ ∀ b ∈ (shF l s).1.data.toList,b.toNat < 128
 | [],_ => by
  rw [shF]
  exact ⟨rfl,by decide,by decide⟩
 | q :: r,h => by
  rw [shF]
  split
  · exact h q (by simp)
  · exact shF_mem s r (fun q' hq' => h q' (by simp [hq']))
theorem eB (s : ByteArray) : okL (lets (shapeF s).1) = true ∧ (shapeF s).1.size ≤ 10 ∧ ∀ b ∈ (shapeF s).1.data.toList,b.toNat < 128:=shF_mem s shapeL shapes_ok
def turn (W : World) (k : Nat) (o : Obj) : World:={ W with heap:=W.heap.setIfInBounds k o }
theorem zWC {P : Program} (W : World) (gi : Nat) (s : ByteArray) (pos : Nat) (ty : TypeId) (hW : W.heap[gi]? = some (.stringIter s pos)) (h : pos < s.size) (ha : (s[pos]'h).toNat < 128) :
  (Instr.next (.pointer (some ⟨gi,0,none⟩)) true ty).run P W = .ok (.tuple #[.bool true,.int .i64 pos,.int .i32 (s[pos]'h).toNat]) (turn W gi (.stringIter s (pos + 1))):=by
 have hlt:=wT hW
 simp only [Instr.next,getObj,setObj,Sem.run_bind,Sem.run,hW,Result.andThen,h,if_true,decode_ascii s pos h ha]
 simp [goInt,Sem.run,turn,hlt]
theorem zWF {P : Program} (W : World) (gi : Nat) (s : ByteArray) (pos : Nat) (ty : TypeId) (hW : W.heap[gi]? = some (.stringIter s pos)) (h : ¬ pos < s.size) :
  (Instr.next (.pointer (some ⟨gi,0,none⟩)) true ty).run P W = .ok (.tuple #[.bool false]) W:=by
 simp [Instr.next,getObj,Sem.run,hW,h]
section
variable {w W : World}
theorem kY (W : World) (k : Nat) (o : Obj) : (turn W k o).heap.size = W.heap.size:=by simp [turn]
theorem dN (W : World) (k : Nat) (o : Obj) : Kept W (turn W k o) (fun i => i = k):=⟨by rw [kY]; exact Nat.le_refl _,fun i hi hn => by
 show (W.heap.setIfInBounds k o)[i]? = _
 rw [Array.getElem?_setIfInBounds_ne (fun h => hn h.symm)]⟩
theorem zWL {n : Nat} (h : Below n w W) {k : Nat} (hk : n ≤ k) (o : Obj) : Below n w (turn W k o) :=
 h.trans ⟨rfl,rfl,rfl,by rw [kY]; exact Nat.le_refl _,fun i hi => by
  show (W.heap.setIfInBounds k o)[i]? = _
  rw [Array.getElem?_setIfInBounds_ne (by omega)]⟩
theorem turn_new (W : World) (k : Nat) (o o' : Obj) (h : W.heap[k]? = some o') : (turn W k o).heap[k]? = some o:=by
 have:=wT h
 simp [turn,this]
end
def foldF : List Int → Cmd → List Tok → Int → Cmd × List Tok × Int
 | [],c,L,_ => (c,L,0)
 | l :: ls,c,L,p => if (partF l c L p).2.2.2 ≠ 0 then ((partF l c L p).1,(partF l c L p).2.1,(partF l c L p).2.2.2) else foldF ls (partF l c L p).1 (partF l c L p).2.1 (partF l c L p).2.2.1
abbrev zC : Cmd:=⟨nil8,[],[],0,0,false,false,zX⟩
abbrev wC (s : ByteArray) : Cmd:=⟨s,[],[],0,0,false,false,zX⟩
def endC (a : Int) (R : Cmd × List Tok × Int) : Cmd × Int × Int:=if (placeF a R.2.1 R.2.2).2 ≠ 0 then (zC,(placeF a R.2.1 R.2.2).1,(placeF a R.2.1 R.2.2).2) else (R.1,(placeF a R.2.1 R.2.2).1,0)
def parseC : List Tok → Cmd × Int × Int
 | [] => (zC,0,110)
 | t :: r => if t.f0 ≠ 1 then (zC,0,110) else if (shapeF t.f1).2 = false then (zC,0,110) else endC ((r.length : Int) + 1) (foldF (lets (shapeF t.f1).1) (wC t.f1) r 0)
section
variable {w0 w W W2 : World} {g b B : Nat} {a : Int} {L L2 : List Tok} {p p2 : Int} {c : Cmd} {vN vM v2 v3 : Value}
theorem PaSt.away (h : PaSt w0 W g b B a L p c vN vM v2 v3) {j : Nat} (hj : b < j) (hB : j < B) (hk : Kept W W2 (At j)) (hb : Below w0.heap.size w0 W2) : PaSt w0 W2 g b B a L p c vN vM v2 v3:=by
 have h1:=h.gb
 have h2:=h.bB
 exact ⟨h.isp.mv hk hb (by show ¬ (g = j); omega),uO h.box hk (fun hs => by have : b = j:=hs; omega),R_at h.names hk hB,R_at h.nums hk hB,M_at h.expr hk hB,h1,h2⟩
abbrev cmdV (c : Cmd) (vN vM v2 v3 : Value) : Value:=.agg (cCells c vN vM v2 v3)
def GivesC (w w' : World) (c : Cmd) (vN vM v2 v3 : Value) : Prop:=kT.R TS w' w.heap.size (fun _ => True) vN c.names ∧ kI.R 2 w' w.heap.size (fun _ => True) vM c.nums ∧ kX.M w' w.heap.size (fun _ => True) c.x [.int .u8 c.x.f0,.string c.x.f1,v2,v3]
theorem lM (w w' : World) : GivesC w w' zC sN sN sN sN:=⟨Kd.R_nil _ _ _ _ _,Kd.R_nil _ _ _ _ _,rJ _ _ _ zX (Kd.R_nil _ _ _ _ _) (Kd.R_nil _ _ _ _ _)⟩
theorem PaSt.givesC (h : PaSt w0 W g b B a L p c vN vM v2 v3) {j : Nat} (hj : j < B) (hk : Kept W W2 (At j)) (hw : w.heap.size ≤ B) : GivesC w W2 c vN vM v2 v3 :=
 ⟨Kd.R_lower (R_at h.names hk hj) hw,Kd.R_lower (R_at h.nums hk hj) hw,kX.M_lower hw (M_at h.expr hk hj)⟩
theorem PaSt.slices (h : PaSt w0 W g b B a L p c vN vM v2 v3) : ∃ A0 n0 c0 A1 n1 c1 A2 n2 c2 A3 n3 c3,vN = .slice A0 n0 c0 ∧ vM = .slice A1 n1 c1 ∧ v2 = .slice A2 n2 c2 ∧ v3 = .slice A3 n3 c3:=by
 obtain ⟨A0,c0,e0⟩:=Kd.R_slice h.names
 obtain ⟨A1,c1,e1⟩:=Kd.R_slice h.nums
 obtain ⟨u2,u3,he,h2,h3⟩:=gX h.expr
 simp only [List.cons.injEq,true_and,and_true] at he
 obtain ⟨rfl,rfl⟩:=he
 obtain ⟨A2,c2,e2⟩:=Kd.R_slice h2
 obtain ⟨A3,c3,e3⟩:=Kd.R_slice h3
 exact ⟨A0,_,c0,A1,_,c1,A2,_,c2,A3,_,c3,e0,e1,e2,e3⟩
end
theorem zWN (w0 w : World) (hC : Cal w0) (g b B : Nat) (a : Int) (L : List Tok) (p : Int) (p0 : 0 ≤ p) (p1 : p ≤ 2000) (c : Cmd) (vN vM v2 v3 : Value) (h : PaSt w0 w g b B a L p c vN vM v2 v3) (hB : B ≤ w.heap.size) (hn : c.names.length ≤ 100) (hm : c.nums.length ≤ 100)
  (l : Int) (hl : l = 101 ∨ (l = 110 ∨ l = 105 ∨ l = 114 ∨ l = 61) ∧ c.x = zX ∧ v2 = sN ∧ v3 = sN) :
  Calls Tryd.prog 68 #[.pointer (some ⟨g,0,none⟩),.pointer (some ⟨b,0,none⟩),.int .i32 l] w fun e w' => ∃ vN' vM' v2' v3',e = .returned (.int .i64 (partF l c L p).2.2.2) ∧ PaSt w0 w' g b B a (partF l c L p).2.1 (partF l c L p).2.2.1 (partF l c L p).1 vN' vM' v2' v3' ∧ Kept w w' (Pt g b B) ∧ (l = 101 ∨ (partF l c L p).1.x = zX ∧ v2' = sN ∧ v3' = sN):=by
 rcases hl with rfl|⟨hl,hx,rfl,rfl⟩
 ·
  refine (part_expr w0 w hC g b B a L p p0 p1 c vN vM v2 v3 h hB).mono ?_
  rintro e w' ⟨q1,q2,q3,q4,h1,h2,h3⟩
  exact ⟨q1,q2,q3,q4,h1,h2,h3,.inl rfl⟩
 ·
  have fin : ∀ l,(partF l c L p).1.x = zX → ∀ e w',PartQ w0 w g b B a (partF l c L p) e w' → ∃ vN' vM' v2' v3',e = .returned (.int .i64 (partF l c L p).2.2.2) ∧ PaSt w0 w' g b B a (partF l c L p).2.1 (partF l c L p).2.2.1 (partF l c L p).1 vN' vM' v2' v3' ∧ Kept w w' (Pt g b B) ∧ (l = 101 ∨ (partF l c L p).1.x = zX ∧ v2' = sN ∧ v3' = sN):=by
   rintro l hz e w' ⟨q1,q2,q3,q4,h1,h2,h3,h4⟩
   exact ⟨q1,q2,q3,q4,h1,h2,h4,.inr ⟨hz,h3 hz⟩⟩
  rcases hl with rfl|rfl|rfl|rfl
  · exact (part_name w0 w g b B a L p c vN vM h hx hB hn).mono (fin 110 hx)
  · exact (part_num w0 w g b B a L p c vN vM h hx hB hm).mono (fin 105 hx)
  · exact (part_range w0 w g b B a L p c vN vM h hx).mono (fin 114 hx)
  · exact (part_mark w0 w g b B a L p c vN vM h hx).mono (fin 61 hx)
theorem cG (l : Int) (c : Cmd) (L : List Tok) (p : Int) (p0 : 0 ≤ p) (p1 : p ≤ 2000) : (partF l c L p).1.names.length ≤ c.names.length + 1 ∧ (partF l c L p).1.nums.length ≤ c.nums.length + 1 ∧ ((partF l c L p).2.2.2 = 0 → 0 ≤ (partF l c L p).2.2.1 ∧ (partF l c L p).2.2.1 ≤ 2000):=by
 have hG:=eA 40 p L p0 p1
 unfold partF
 split
 · exact ⟨by simp,by simp,fun _ => ⟨p0,p1⟩⟩
 ·
  split
  · exact ⟨by simp,by simp,fun _ => ⟨p0,p1⟩⟩
  ·
   split
   · exact ⟨by simp,by simp,fun _ => ⟨p0,p1⟩⟩
   ·
    split
    · exact ⟨by simp,by simp,fun h => ⟨Int.le_trans p0 hG.p0,hG.ok h⟩⟩
    · exact ⟨by simp,by simp,fun _ => ⟨p0,p1⟩⟩
structure CmRel (w W : World) (g : Nat) (a : Int) (s : ByteArray) (R : Cmd × List Tok × Int) (k : Nat) (c : Cmd) (L : List Tok) (p : Int) (vN vM v2 v3 : Value) : Prop where
 k1 : k ≤ s.size
 p0 : 0 ≤ p
 p1 : p ≤ 2000
 nn : c.names.length ≤ k
 nm : c.nums.length ≤ k
 ok : okL ((lets s).drop k) = true
 xz : (lets s).drop k = [] ∨ c.x = zX ∧ v2 = sN ∧ v3 = sN
 fold : foldF ((lets s).drop k) c L p = R
 st : PaSt w W g (g + 1) (g + 1 + 1 + 1) a L p c vN vM v2 v3
 it : W.heap[g + 1 + 1]? = some (.stringIter s k)
 zero : W.heap[w.heap.size]? = some (.cells (cCells zC sN sN sN sN) TC (0,0))
 sz : g + 1 + 1 + 1 ≤ W.heap.size
 lg : w.heap.size < g
theorem lets_at (s : ByteArray) (k : Nat) (h : k < s.size) : (lets s).drop k = ((s[k]'h).toNat : Int) :: (lets s).drop (k + 1):=by
 have hl : k < (lets s).length:=by unfold lets; rw [List.length_map,Array.length_toList]; exact h
 rw [List.drop_eq_getElem_cons hl]
 have e : (lets s)[k] = ((s[k]'h).toNat : Int):=by
  simp only [lets,List.getElem_map]
  rfl
 rw [e]
theorem okL_cons {l : Int} {ls : List Int} (h : okL (l :: ls) = true) : (l = 101 ∧ ls = []) ∨ ((l = 110 ∨ l = 105 ∨ l = 114 ∨ l = 61) ∧ l ≠ 101 ∧ okL ls = true):=by
 rw [okL] at h
 split at h
 ·
  rename_i hl
  exact .inl ⟨hl,by simpa using h⟩
 ·
  rename_i hl
  simp only [Bool.and_eq_true,Bool.or_eq_true,beq_iff_eq] at h
  exact .inr ⟨by omega,hl,h.2⟩
end Go.Proofs.YtjeofffddbibeaaDoor.Pa
end

section
namespace Go.Proofs.YtjeofffddbibeaaDoor.Ex
open Go
def digitB (b : UInt8) : Bool:=decide (48 ≤ b.toNat) && decide (b.toNat ≤ 57)
def alphaB (b : UInt8) : Bool:=decide (b.toNat = 95) || (decide (97 ≤ b.toNat) && decide (b.toNat ≤ 122)) || (decide (65 ≤ b.toNat) && decide (b.toNat ≤ 90))
def letterB (b : UInt8) : Bool:=alphaB b || digitB b
def nameL : List UInt8 → Bool
 | [] => false
 | b :: l => decide (l.length < 30) && alphaB b && l.all letterB
def nameB (s : ByteArray) : Bool:=nameL s.data.toList
open Go Go.RowKit PParseTells YtjeofffddbibeaaDoorW.PrintWords YtjeofffddbibeaaDoorW.PrintLast YtjeofffddbibeaaDoorW.PrintMore
theorem toList_data (s : ByteArray) : s.toList = s.data.toList:=Lib.toList_data s
theorem empty_iff (s : ByteArray) : s.toList.isEmpty = true ↔ s.data.toList = []:=by
 rw [toList_data,List.isEmpty_iff]
def rightB (x : X) : Bool :=
 decide (x.f0 ≤ 12) && decide ((x.f2.length : Int) = numsOf x.f0) && decide ((x.f3.length : Int) = argsOf x.f0) && (if x.f0 = 0 then nameB x.f1 else x.f1.toList.isEmpty)
mutual
def allR : X → Bool
 | ⟨o,n,ns,xs⟩ => rightB ⟨o,n,ns,xs⟩ && allRL xs
def allRL : List X → Bool
 | [] => true
 | y :: ys => allR y && allRL ys
end
theorem iD (x : X) : allR x = (rightB x && allRL x.f3):=by cases x; rw [allR]
theorem bZ (y : X) (ys : List X) : allRL (y :: ys) = (allR y && allRL ys):=by rw [allRL]
theorem cB : allRL [] = true:=by rw [allRL]
def RightB (x : X) : Bool:=allR x && decide (dep x ≤ 40) && decide (cnt x ≤ 2000)
end Go.Proofs.YtjeofffddbibeaaDoor.Ex
end

section
namespace Go.Proofs.YtjeofffddbibeaaDoor.PParseTells
open Go.RowKit YtjeofffddbibeaaDoorW.PrintWords YtjeofffddbibeaaDoorW.PrintLast YtjeofffddbibeaaDoorW.PrintMore
attribute [local go_sem] tH tM tG tL tK tJ tN tI
mutual
def uL.l0 : Nat → Int → Int → Int → ByteArray → List Int → List (S25) → Option (Int)
 | 0,_,_,_,_,_,_ => none
 | k + 1,x3,x4,mW,mV,pN,sF => if x4 < (sF.length : Int) then (if 0 ≤ x4 then ((uL.f k ((yY sF x4).f0) ((yY sF x4).f1) ((yY sF x4).f2) ((yY sF x4).f3)).bind fun t103 => (uL.l0 k (wrap64 (x3 + t103)) (wrap64 (x4 + 1)) mW mV pN sF)) else (none)) else (some x3)
def uL.f : Nat → Int → ByteArray → List Int → List (S25) → Option (Int)
 | 0,_,_,_,_ => none
 | k + 1,zT,zB,zW,zL => uL.l0 k 1 0 zT zB zW zL
end
set_option maxHeartbeats 8000000 in
set_option maxRecDepth 100000 in
theorem uL.calls (k : Nat) : ∀ (zT : Int) (zB : ByteArray) (yR : Option Addr) (yS : Nat) (zW : List Int) (xK : Option Addr) (xR : Nat) (zL : List (S25)) (r : Int) (w : World) (uW : Kd.C (Kd.int .i64) w yR zW.length zW) (uV : zW.length ≤ yS) (tF : Kd.C k25 w xK zL.length zL) (tE : zL.length ≤ xR) (h : uL.f k zT zB zW zL = some r),
  Calls Tryd.prog 23 #[.agg #[.int .u8 zT,.string zB,.slice yR zW.length yS,.slice xK zL.length xR]] w fun e w' => e = .returned (.int .i64 r) ∧ Below w.heap.size w w':=by
 induction k using Nat.strongRecOn with
 | _ k ih =>
 intro zT zB yR yS zW xK xR zL r w uW uV tF tE h
 cases k with
 | zero => exact absurd h (by simp [uL.f])
 | succ k =>
 simp only [uL.f] at h
 have hu25:=Tryd.underlying25
 have tA:=zZ.mk uW
 have rX:=zZ.mk uV
 clear uW uV
 have sV:=zZ.mk tF
 have qP:=zZ.mk tE
 clear tF tE
 have HB:=zZ.mk (Below.refl w.heap.size w)
 have H : (uL.l0 k 1 0 zT zB zW zL) = some r:=h
 clear h
 have H':=zZ.mk H
 clear H
 go_enter Tryd.func23,Tryd.ntmps23
 go_wp2_with (first|((with_reducible refine uU (N:=1) rfl ?_); refine tY ?hg (N:=1) ?hd (cs:=#[.int .u8 zT,.string zB,.slice yR zW.length yS,.slice xK zL.length xR]) (t:=25) ?hr ?_; (case hd => rfl); (case hg => rfl); (case hr => first|(go_simp; done)|(go_simp; rfl)); intro vJ hg w2 hbox hb; have zS:=zZ.mk (xW (by repeat (first|(with_reducible first|exact HB.out|apply zY|apply zV|apply zU)|exact HB.out)) hb); have zO:=zZ.mk (hbox); have zI:=zZ.mk ((by rw [hg]; exact (xS (by repeat (first|(with_reducible first|exact HB.out|apply zY|apply zV|apply zU)|exact HB.out))) : w.heap.size ≤ vJ)); have xV:=zZ.mk ((by rw [hg]; exact (xS (by repeat (first|(with_reducible first|exact HB.out|apply zY|apply zV|apply zU)|exact HB.out))) : w.heap.size ≤ vJ)); clear HB; have HB:=zS; have xQ:=zO; have zTL:=zI; have tD:=xV; clear zS zO zI xV; clear hb hbox hg))
 go_loopg [3,4] k (fun kq v3 v4 w' => ∃ (wN : Int) (zD : Int),v3 = .int .i64 wN ∧ v4 = .int .i64 zD ∧ zZ (uL.l0 kq wN zD zT zB zW zL = some r) ∧ zZ (kq ≤ k) ∧ zZ (w'.heap[vJ]? = some (.cells #[.int .u8 zT,.string zB,(.slice yR zW.length yS),(.slice xK zL.length xR)] 25 (0,0))) ∧ zZ (Below w.heap.size w w'))
 case atStart => exact ⟨(1),(0),(by first|rfl|(simp;done)|(simp [*];done)),(by first|rfl|(simp;done)|(simp [*];done)),H',⟨Nat.le_refl _⟩,⟨by (with_reducible repeat (first|apply zN|apply zM|apply zR)); exact xQ.out⟩,⟨by repeat (first|(with_reducible first|exact HB.out|apply zY|apply zV|apply zU|refine zQ ?_ tD.out)|exact HB.out)⟩⟩
 case round =>
  clear H'
  try clear c2
  try clear p2
  obtain ⟨wN,zD,rfl,rfl,HA,HK1,xQ,HB⟩:=hrel
  cases gk with
  | zero => exact absurd HA.out (by simp [uL.l0])
  | succ k1 =>
   have H:=HA.out
   clear HA
   simp only [uL.l0] at H
   by_cases c3 : zD < (zL.length : Int)
   ·
    rw [if_pos c3] at H
    have c3b0 : decide (zD < (zL.length : Int)) = true:=decide_eq_true c3
    clear c3
    by_cases c4 : 0 ≤ zD
    ·
     rw [if_pos c4] at H
     have c4b0 : decide (0 ≤ zD) = true:=decide_eq_true c4
     clear c4
     replace H:=Option.bind_eq_some_iff.mp H
     obtain ⟨t103,A50,H⟩:=H
     replace H : (uL.l0 k1 (wrap64 (wN + t103)) (wrap64 (zD + 1)) zT zB zW zL) = some r:=H
     have A5:=zZ.mk A50
     clear A50
     have H':=zZ.mk H
     clear H
     obtain ⟨hcz6_0,hcz6_1,hcz6_2,hcz6_3⟩:=kc4 xQ.out
     have p102 : 0 ≤ (zD : Int):=of_decide_eq_true (by first|(with_reducible assumption)|assumption)
     have q102 : zD < (zL.length : Int):=of_decide_eq_true (by first|(with_reducible assumption)|assumption)
     obtain ⟨ad102,zTK,zTJ,zTI,zTH,e102,bT,bS,bR,bQ,zVZ,zVY,zVX,zVW⟩:=rK sV.out zD p102 q102
     cases e102
     replace bT:=(HB.out.cell (World.block_lt_of_cell? w _ bT)).trans bT
     replace bS:=(HB.out.cell (World.block_lt_of_cell? w _ bS)).trans bS
     replace bR:=(HB.out.cell (World.block_lt_of_cell? w _ bR)).trans bR
     replace bQ:=(HB.out.cell (World.block_lt_of_cell? w _ bQ)).trans bQ
     have zTG:=zZ.mk zVY
     have zTF:=zZ.mk zVZ
     clear zVY zVZ
     have zTE:=zZ.mk zVW
     have zTD:=zZ.mk zVX
     clear zVW zVX
     replace p102:=eq_true p102
     replace q102:=eq_true q102
     go_wp2_with (first|((with_reducible refine yD (f:=23) rfl ?_); refine yE (some 18) rfl rfl Tryd.func23 (by kernel_rfl) rfl #[.agg #[.int .u8 ((yY zL zD).f0),.string ((yY zL zD).f1),.slice zTK ((yY zL zD).f2).length zTJ,.slice zTI ((yY zL zD).f3).length zTH]] rfl (by (try simp only [List.map_toArray,List.map_cons,List.map_nil]); first|done|rfl|(simp only [List.length_drop,List.length_take]; rfl)) ?_; (with_reducible refine (ih k1 (by have:=HK1.out; omega) ((yY zL zD).f0) ((yY zL zD).f1) _ _ ((yY zL zD).f2) _ _ ((yY zL zD).f3) t103 _ ?side1 ?side2 ?side3 ?side4 A5.out).mono ?_); (case side1 => repeat (first|exact (Kd.C_below zTG.out HB.out)|(with_reducible refine Kd.C_alloc ?_ _)|(with_reducible refine Kd.C_drewN ?_ _)|(with_reducible refine Kd.C_drew ?_))); (case side2 => exact zTF.out); (case side3 => repeat (first|exact (Kd.C_below zTE.out HB.out)|(with_reducible refine Kd.C_alloc ?_ _)|(with_reducible refine Kd.C_drewN ?_ _)|(with_reducible refine Kd.C_drew ?_))); (case side4 => exact zTD.out); rintro e w7 ⟨rfl,hb⟩; refine ⟨_,rfl,?_⟩; have zS:=zZ.mk (xX (g:=vJ) (o:=.cells #[.int .u8 zT,.string zB,.slice yR zW.length yS,.slice (some ad102) zL.length xR] 25 (0,0)) (by (with_reducible repeat (first|apply zN|apply zM|apply zR)); exact xQ.out) hb); have zO:=zZ.mk (xW (by repeat (first|(with_reducible first|exact HB.out|apply zY|apply zV|apply zU|refine zQ ?_ tD.out)|exact HB.out)) hb); clear xQ; clear HB; have xQ:=zS; have HB:=zO; clear zS zO; (try clear hb); (try clear hb2); (try clear hk); (try clear hi)))
     go_roundg k1
     case measure => have:=HK1.out; omega
     case rel => exact ⟨(wrap64 (wN + t103)),(wrap64 (zD + 1)),(by first|rfl|(simp;done)|(simp [*];done)),(by first|rfl|(simp;done)|(simp [*];done)),H',⟨by have:=HK1.out; omega⟩,⟨by (with_reducible repeat (first|apply zN|apply zM|apply zR)); exact xQ.out⟩,⟨by repeat (first|(with_reducible first|exact HB.out|apply zY|apply zV|apply zU|refine zQ ?_ tD.out)|exact HB.out)⟩⟩
    ·
     rw [if_neg c4] at H
     exact absurd H (by simp)
   ·
    rw [if_neg c3] at H
    have c3b0 : decide (zD < (zL.length : Int)) = false:=decide_eq_false c3
    clear c3
    obtain rfl:=Option.some.inj H
    obtain ⟨zTC,zTB,zTA,zSZ⟩:=kc4 xQ.out
    go_wp2
    go_ret
    exact ⟨by first|rfl|(simp [yG,yF] <;> rfl)|(simp [*,yG,yF] <;> rfl),by repeat (first|(with_reducible first|exact HB.out|apply zY|apply zV|apply zU|refine zQ ?_ tD.out)|exact HB.out)⟩
mutual
def uQ.l0 : Nat → Int → Int → Int → ByteArray → List Int → List (S25) → Option (Int)
 | 0,_,_,_,_,_,_ => none
 | k + 1,x3,x4,zVV,zVU,zVT,lL => if x4 < (lL.length : Int) then (if 0 ≤ x4 then ((uQ.f k ((yY lL x4).f0) ((yY lL x4).f1) ((yY lL x4).f2) ((yY lL x4).f3)).bind fun t106 => (if t106 > x3 then (uQ.l0 k t106 (wrap64 (x4 + 1)) zVV zVU zVT lL) else (uQ.l0 k x3 (wrap64 (x4 + 1)) zVV zVU zVT lL))) else (none)) else (some (wrap64 (x3 + 1)))
def uQ.f : Nat → Int → ByteArray → List Int → List (S25) → Option (Int)
 | 0,_,_,_,_ => none
 | k + 1,zT,zB,zW,zL => uQ.l0 k 0 0 zT zB zW zL
end
set_option maxHeartbeats 8000000 in
set_option maxRecDepth 100000 in
theorem uQ.calls (k : Nat) : ∀ (zT : Int) (zB : ByteArray) (yR : Option Addr) (yS : Nat) (zW : List Int) (xK : Option Addr) (xR : Nat) (zL : List (S25)) (r : Int) (w : World) (uW : Kd.C (Kd.int .i64) w yR zW.length zW) (uV : zW.length ≤ yS) (tF : Kd.C k25 w xK zL.length zL) (tE : zL.length ≤ xR) (h : uQ.f k zT zB zW zL = some r),
  Calls Tryd.prog 25 #[.agg #[.int .u8 zT,.string zB,.slice yR zW.length yS,.slice xK zL.length xR]] w fun e w' => e = .returned (.int .i64 r) ∧ Below w.heap.size w w':=by
 induction k using Nat.strongRecOn with
 | _ k ih =>
 intro zT zB yR yS zW xK xR zL r w uW uV tF tE h
 cases k with
 | zero => exact absurd h (by simp [uQ.f])
 | succ k =>
 simp only [uQ.f] at h
 have hu25:=Tryd.underlying25
 have tA:=zZ.mk uW
 have rX:=zZ.mk uV
 clear uW uV
 have sV:=zZ.mk tF
 have qP:=zZ.mk tE
 clear tF tE
 have HB:=zZ.mk (Below.refl w.heap.size w)
 have H : (uQ.l0 k 0 0 zT zB zW zL) = some r:=h
 clear h
 have H':=zZ.mk H
 clear H
 go_enter Tryd.func25,Tryd.ntmps25
 go_wp2_with (first|((with_reducible refine uU (N:=1) rfl ?_); refine tY ?hg (N:=1) ?hd (cs:=#[.int .u8 zT,.string zB,.slice yR zW.length yS,.slice xK zL.length xR]) (t:=25) ?hr ?_; (case hd => rfl); (case hg => rfl); (case hr => first|(go_simp; done)|(go_simp; rfl)); intro gL hg w2 hbox hb; have zS:=zZ.mk (xW (by repeat (first|(with_reducible first|exact HB.out|apply zY|apply zV|apply zU)|exact HB.out)) hb); have zO:=zZ.mk (hbox); have zI:=zZ.mk ((by rw [hg]; exact (xS (by repeat (first|(with_reducible first|exact HB.out|apply zY|apply zV|apply zU)|exact HB.out))) : w.heap.size ≤ gL)); have xV:=zZ.mk ((by rw [hg]; exact (xS (by repeat (first|(with_reducible first|exact HB.out|apply zY|apply zV|apply zU)|exact HB.out))) : w.heap.size ≤ gL)); clear HB; have HB:=zS; have rI:=zO; have GW104:=zI; have kO:=xV; clear zS zO zI xV; clear hb hbox hg))
 go_loopg [3,4] k (fun kq v3 v4 w' => ∃ (wN : Int) (zD : Int),v3 = .int .i64 wN ∧ v4 = .int .i64 zD ∧ zZ (uQ.l0 kq wN zD zT zB zW zL = some r) ∧ zZ (kq ≤ k) ∧ zZ (w'.heap[gL]? = some (.cells #[.int .u8 zT,.string zB,(.slice yR zW.length yS),(.slice xK zL.length xR)] 25 (0,0))) ∧ zZ (Below w.heap.size w w'))
 case atStart => exact ⟨(0),(0),(by first|rfl|(simp;done)|(simp [*];done)),(by first|rfl|(simp;done)|(simp [*];done)),H',⟨Nat.le_refl _⟩,⟨by (with_reducible repeat (first|apply zN|apply zM|apply zR)); exact rI.out⟩,⟨by repeat (first|(with_reducible first|exact HB.out|apply zY|apply zV|apply zU|refine zQ ?_ kO.out)|exact HB.out)⟩⟩
 case round =>
  clear H'
  try clear c2
  try clear p2
  obtain ⟨wN,zD,rfl,rfl,HA,HK1,rI,HB⟩:=hrel
  cases gk with
  | zero => exact absurd HA.out (by simp [uQ.l0])
  | succ k1 =>
   have H:=HA.out
   clear HA
   simp only [uQ.l0] at H
   by_cases c3 : zD < (zL.length : Int)
   ·
    rw [if_pos c3] at H
    have c3b0 : decide (zD < (zL.length : Int)) = true:=decide_eq_true c3
    clear c3
    by_cases c4 : 0 ≤ zD
    ·
     rw [if_pos c4] at H
     have c4b0 : decide (0 ≤ zD) = true:=decide_eq_true c4
     clear c4
     replace H:=Option.bind_eq_some_iff.mp H
     obtain ⟨t106,A50,H⟩:=H
     replace H : (if t106 > wN then (uQ.l0 k1 t106 (wrap64 (zD + 1)) zT zB zW zL) else (uQ.l0 k1 wN (wrap64 (zD + 1)) zT zB zW zL)) = some r:=H
     have A5:=zZ.mk A50
     clear A50
     by_cases c6 : t106 > wN
     ·
      rw [if_pos c6] at H
      have c6b0 : decide (wN < t106) = true:=decide_eq_true c6
      clear c6
      have H':=zZ.mk H
      clear H
      obtain ⟨bP,bO,bN,bM⟩:=kc4 rI.out
      have p105 : 0 ≤ (zD : Int):=of_decide_eq_true (by first|(with_reducible assumption)|assumption)
      have q105 : zD < (zL.length : Int):=of_decide_eq_true (by first|(with_reducible assumption)|assumption)
      obtain ⟨ad105,oJ,oI,oH,oG,e105,sP,sO,sM,sL,qO,qN,qM,qL⟩:=rK sV.out zD p105 q105
      cases e105
      replace sP:=(HB.out.cell (World.block_lt_of_cell? w _ sP)).trans sP
      replace sO:=(HB.out.cell (World.block_lt_of_cell? w _ sO)).trans sO
      replace sM:=(HB.out.cell (World.block_lt_of_cell? w _ sM)).trans sM
      replace sL:=(HB.out.cell (World.block_lt_of_cell? w _ sL)).trans sL
      have oF:=zZ.mk qN
      have lK:=zZ.mk qO
      clear qN qO
      have oE:=zZ.mk qL
      have lJ:=zZ.mk qM
      clear qL qM
      replace p105:=eq_true p105
      replace q105:=eq_true q105
      go_wp2_with (first|((with_reducible refine yD (f:=25) rfl ?_); refine yE (some 18) rfl rfl Tryd.func25 (by kernel_rfl) rfl #[.agg #[.int .u8 ((yY zL zD).f0),.string ((yY zL zD).f1),.slice oJ ((yY zL zD).f2).length oI,.slice oH ((yY zL zD).f3).length oG]] rfl (by (try simp only [List.map_toArray,List.map_cons,List.map_nil]); first|done|rfl|(simp only [List.length_drop,List.length_take]; rfl)) ?_; (with_reducible refine (ih k1 (by have:=HK1.out; omega) ((yY zL zD).f0) ((yY zL zD).f1) _ _ ((yY zL zD).f2) _ _ ((yY zL zD).f3) t106 _ ?side1 ?side2 ?side3 ?side4 A5.out).mono ?_); (case side1 => repeat (first|exact (Kd.C_below oF.out HB.out)|(with_reducible refine Kd.C_alloc ?_ _)|(with_reducible refine Kd.C_drewN ?_ _)|(with_reducible refine Kd.C_drew ?_))); (case side2 => exact lK.out); (case side3 => repeat (first|exact (Kd.C_below oE.out HB.out)|(with_reducible refine Kd.C_alloc ?_ _)|(with_reducible refine Kd.C_drewN ?_ _)|(with_reducible refine Kd.C_drew ?_))); (case side4 => exact lJ.out); rintro e w8 ⟨rfl,hb⟩; refine ⟨_,rfl,?_⟩; have zS:=zZ.mk (xX (g:=gL) (o:=.cells #[.int .u8 zT,.string zB,.slice yR zW.length yS,.slice (some ad105) zL.length xR] 25 (0,0)) (by (with_reducible repeat (first|apply zN|apply zM|apply zR)); exact rI.out) hb); have zO:=zZ.mk (xW (by repeat (first|(with_reducible first|exact HB.out|apply zY|apply zV|apply zU|refine zQ ?_ kO.out)|exact HB.out)) hb); clear rI; clear HB; have rI:=zS; have HB:=zO; clear zS zO; (try clear hb); (try clear hb2); (try clear hk); (try clear hi)))
      go_roundg k1
      case measure => have:=HK1.out; omega
      case rel => exact ⟨(t106),(wrap64 (zD + 1)),(by first|rfl|(simp;done)|(simp [*];done)),(by first|rfl|(simp;done)|(simp [*];done)),H',⟨by have:=HK1.out; omega⟩,⟨by (with_reducible repeat (first|apply zN|apply zM|apply zR)); exact rI.out⟩,⟨by repeat (first|(with_reducible first|exact HB.out|apply zY|apply zV|apply zU|refine zQ ?_ kO.out)|exact HB.out)⟩⟩
     ·
      rw [if_neg c6] at H
      have c6b0 : decide (wN < t106) = false:=decide_eq_false c6
      clear c6
      have H':=zZ.mk H
      clear H
      obtain ⟨pM,pL,pK,dL⟩:=kc4 rI.out
      have p105 : 0 ≤ (zD : Int):=of_decide_eq_true (by first|(with_reducible assumption)|assumption)
      have q105 : zD < (zL.length : Int):=of_decide_eq_true (by first|(with_reducible assumption)|assumption)
      obtain ⟨ad105,oJ,oI,oH,oG,e105,sP,sO,sM,sL,qO,qN,qM,qL⟩:=rK sV.out zD p105 q105
      cases e105
      replace sP:=(HB.out.cell (World.block_lt_of_cell? w _ sP)).trans sP
      replace sO:=(HB.out.cell (World.block_lt_of_cell? w _ sO)).trans sO
      replace sM:=(HB.out.cell (World.block_lt_of_cell? w _ sM)).trans sM
      replace sL:=(HB.out.cell (World.block_lt_of_cell? w _ sL)).trans sL
      have oF:=zZ.mk qN
      have lK:=zZ.mk qO
      clear qN qO
      have oE:=zZ.mk qL
      have lJ:=zZ.mk qM
      clear qL qM
      replace p105:=eq_true p105
      replace q105:=eq_true q105
      go_wp2_with (first|((with_reducible refine yD (f:=25) rfl ?_); refine yE (some 18) rfl rfl Tryd.func25 (by kernel_rfl) rfl #[.agg #[.int .u8 ((yY zL zD).f0),.string ((yY zL zD).f1),.slice oJ ((yY zL zD).f2).length oI,.slice oH ((yY zL zD).f3).length oG]] rfl (by (try simp only [List.map_toArray,List.map_cons,List.map_nil]); first|done|rfl|(simp only [List.length_drop,List.length_take]; rfl)) ?_; (with_reducible refine (ih k1 (by have:=HK1.out; omega) ((yY zL zD).f0) ((yY zL zD).f1) _ _ ((yY zL zD).f2) _ _ ((yY zL zD).f3) t106 _ ?side1 ?side2 ?side3 ?side4 A5.out).mono ?_); (case side1 => repeat (first|exact (Kd.C_below oF.out HB.out)|(with_reducible refine Kd.C_alloc ?_ _)|(with_reducible refine Kd.C_drewN ?_ _)|(with_reducible refine Kd.C_drew ?_))); (case side2 => exact lK.out); (case side3 => repeat (first|exact (Kd.C_below oE.out HB.out)|(with_reducible refine Kd.C_alloc ?_ _)|(with_reducible refine Kd.C_drewN ?_ _)|(with_reducible refine Kd.C_drew ?_))); (case side4 => exact lJ.out); rintro e w10 ⟨rfl,hb⟩; refine ⟨_,rfl,?_⟩; have zS:=zZ.mk (xX (g:=gL) (o:=.cells #[.int .u8 zT,.string zB,.slice yR zW.length yS,.slice (some ad105) zL.length xR] 25 (0,0)) (by (with_reducible repeat (first|apply zN|apply zM|apply zR)); exact rI.out) hb); have zO:=zZ.mk (xW (by repeat (first|(with_reducible first|exact HB.out|apply zY|apply zV|apply zU|refine zQ ?_ kO.out)|exact HB.out)) hb); clear rI; clear HB; have rI:=zS; have HB:=zO; clear zS zO; (try clear hb); (try clear hb2); (try clear hk); (try clear hi)))
      go_roundg k1
      case measure => have:=HK1.out; omega
      case rel => exact ⟨(wN),(wrap64 (zD + 1)),(by first|rfl|(simp;done)|(simp [*];done)),(by first|rfl|(simp;done)|(simp [*];done)),H',⟨by have:=HK1.out; omega⟩,⟨by (with_reducible repeat (first|apply zN|apply zM|apply zR)); exact rI.out⟩,⟨by repeat (first|(with_reducible first|exact HB.out|apply zY|apply zV|apply zU|refine zQ ?_ kO.out)|exact HB.out)⟩⟩
    ·
     rw [if_neg c4] at H
     exact absurd H (by simp)
   ·
    rw [if_neg c3] at H
    have c3b0 : decide (zD < (zL.length : Int)) = false:=decide_eq_false c3
    clear c3
    obtain rfl:=Option.some.inj H
    obtain ⟨oD,oC,oB,oA⟩:=kc4 rI.out
    go_wp2
    go_ret
    exact ⟨by first|rfl|(simp [yG,yF] <;> rfl)|(simp [*,yG,yF] <;> rfl),by repeat (first|(with_reducible first|exact HB.out|apply zY|apply zV|apply zU|refine zQ ?_ kO.out)|exact HB.out)⟩
end Go.Proofs.YtjeofffddbibeaaDoor.PParseTells
end

section
namespace Go.Proofs.YtjeofffddbibeaaDoor.PParseTells
open Go.RowKit YtjeofffddbibeaaDoorW.PrintWords YtjeofffddbibeaaDoorW.PrintLast YtjeofffddbibeaaDoorW.PrintMore
attribute [local go_sem] tH tM tG tL tK tJ tN tI
mutual
def wM.j0 : Nat → ByteArray → Bool → Option (Bool)
 | 0,_,_ => none
 | k + 1,x0,x22 => if x22 = true then (some false) else (wM.l0 k x0 0)
def wM.l0 : Nat → ByteArray → Int → Option (Bool)
 | 0,_,_ => none
 | k + 1,x0,x3 => if x3 < (x0.size : Int) then (if 0 ≤ x3 then (if (bt x0 x3) = 95 then (wM.l0 k x0 (wrap64 (x3 + 1))) else (if (bt x0 x3) < 48 then (if (bt x0 x3) < 97 then (if (bt x0 x3) < 65 then (some false) else (if (bt x0 x3) > 90 then (some false) else (wM.l0 k x0 (wrap64 (x3 + 1))))) else (if (bt x0 x3) > 122 then (if (bt x0 x3) < 65 then (some false) else (if (bt x0 x3) > 90 then (some false) else (wM.l0 k x0 (wrap64 (x3 + 1))))) else (wM.l0 k x0 (wrap64 (x3 + 1))))) else (if (bt x0 x3) > 57 then (if (bt x0 x3) < 97 then (if (bt x0 x3) < 65 then (some false) else (if (bt x0 x3) > 90 then (some false) else (wM.l0 k x0 (wrap64 (x3 + 1))))) else (if (bt x0 x3) > 122 then (if (bt x0 x3) < 65 then (some false) else (if (bt x0 x3) > 90 then (some false) else (wM.l0 k x0 (wrap64 (x3 + 1))))) else (wM.l0 k x0 (wrap64 (x3 + 1))))) else (wM.l0 k x0 (wrap64 (x3 + 1)))))) else (none)) else (some true)
end
def wM.f (k : Nat) (a0 : ByteArray) : Option (Bool):=if (a0.size : Int) < 1 then (wM.j0 k a0 true) else (if (a0.size : Int) > 30 then (wM.j0 k a0 true) else (if 0 < (a0.size : Int) then (if (bt a0 0) ≥ 48 then (wM.j0 k a0 (decide ((bt a0 0) ≤ 57))) else (wM.j0 k a0 false)) else (none)))
set_option maxHeartbeats 8000000 in
set_option maxRecDepth 100000 in
theorem wM.calls (k : Nat) (a0 : ByteArray) (r : Bool) (w : World) (h : wM.f k a0 = some r) :
  Calls Tryd.prog 74 #[.string a0] w fun e w' => e = .returned (.bool r) ∧ Drawn0 w w':=by
 have H : (if (a0.size : Int) < 1 then (wM.j0 k a0 true) else (if (a0.size : Int) > 30 then (wM.j0 k a0 true) else (if 0 < (a0.size : Int) then (if (bt a0 0) ≥ 48 then (wM.j0 k a0 (decide ((bt a0 0) ≤ 57))) else (wM.j0 k a0 false)) else (none)))) = some r:=h
 clear h
 have HC2:=zZ.mk H
 clear H
 go_enter Tryd.func74,Tryd.ntmps74
 go_upto_region 1 with (fail)
 go_cut [22] (fun v22 wc => ∃ (kq : Nat) (dK : Bool),v22 = .bool dK ∧ zZ (wM.j0 kq a0 dK = some r) ∧ zZ (kq ≤ k) ∧ Drawn0 w wc)
 case first =>
  have H:=HC2.out
  clear HC2
  by_cases c3 : (a0.size : Int) < 1
  ·
   rw [if_pos c3] at H
   have c3b0 : decide ((a0.size : Int) < 1) = true:=decide_eq_true c3
   have c3b1 : decide (a0.size < 1) = true:=decide_eq_true (by omega)
   clear c3
   (first|rw [c3b0]|(simp only [yV,yU]; rw [c3b0])|skip)
   have H':=zZ.mk H
   clear H
   go_wp2
   go_meet
   case rel => exact ⟨_,(true),(by first|rfl|(simp;done)|(simp [*];done)),H',⟨by first|omega|exact Nat.le_refl _⟩,by repeat (first|exact Drawn0.refl _|apply Drawn0.step)⟩
  ·
   rw [if_neg c3] at H
   have c3b0 : decide ((a0.size : Int) < 1) = false:=decide_eq_false c3
   have c3b1 : decide (a0.size < 1) = false:=decide_eq_false (by omega)
   clear c3
   (first|rw [c3b0]|(simp only [yV,yU]; rw [c3b0])|skip)
   by_cases c4 : (a0.size : Int) > 30
   ·
    rw [if_pos c4] at H
    have c4b0 : decide (30 < (a0.size : Int)) = true:=decide_eq_true c4
    have c4b1 : decide (30 < a0.size) = true:=decide_eq_true (by omega)
    clear c4
    have H':=zZ.mk H
    clear H
    go_wp2
    go_meet
    case rel => exact ⟨_,(true),(by first|rfl|(simp;done)|(simp [*];done)),H',⟨by first|omega|exact Nat.le_refl _⟩,by repeat (first|exact Drawn0.refl _|apply Drawn0.step)⟩
   ·
    rw [if_neg c4] at H
    have c4b0 : decide (30 < (a0.size : Int)) = false:=decide_eq_false c4
    have c4b1 : decide (30 < a0.size) = false:=decide_eq_false (by omega)
    clear c4
    by_cases c5 : 0 < (a0.size : Int)
    ·
     rw [if_pos c5] at H
     have c5b0 : decide (0 < (a0.size : Int)) = true:=decide_eq_true c5
     have c5b1 : decide (0 < a0.size) = true:=decide_eq_true (by omega)
     clear c5
     by_cases c7 : (bt a0 0) ≥ 48
     ·
      rw [if_pos c7] at H
      have c7b0 : decide (48 ≤ (bt a0 0)) = true:=decide_eq_true c7
      clear c7
      have H':=zZ.mk H
      clear H
      have p6 : 0 ≤ (0 : Int):=(by omega)
      have q6 : 0 < a0.size:=(by have : (0 : Int) < (a0.size : Int):=of_decide_eq_true (by first|(with_reducible assumption)|assumption); omega)
      have hx6 : ∀ h : 0 < a0.size,((a0[0]'h).toNat : Int) = bt a0 0:=xG a0 0
      clear p6
      have qi6 : (0 < (a0.size : Int)) = True:=eq_true (of_decide_eq_true (by first|(with_reducible assumption)|assumption))
      replace q6:=eq_true q6
      have p8 : 0 ≤ (0 : Int):=(by omega)
      have q8 : 0 < a0.size:=(by have : (0 : Int) < (a0.size : Int):=of_decide_eq_true (by first|(with_reducible assumption)|assumption); omega)
      have hx8 : ∀ h : 0 < a0.size,((a0[0]'h).toNat : Int) = bt a0 0:=xG a0 0
      clear p8
      have qi8 : (0 < (a0.size : Int)) = True:=eq_true (of_decide_eq_true (by first|(with_reducible assumption)|assumption))
      replace q8:=eq_true q8
      go_wp2
      go_meet
      case rel => exact ⟨_,(decide ((bt a0 0) ≤ 57)),(by first|rfl|(simp;done)|(simp [*];done)),H',⟨by first|omega|exact Nat.le_refl _⟩,by repeat (first|exact Drawn0.refl _|apply Drawn0.step)⟩
     ·
      rw [if_neg c7] at H
      have c7b0 : decide (48 ≤ (bt a0 0)) = false:=decide_eq_false c7
      clear c7
      have H':=zZ.mk H
      clear H
      have p6 : 0 ≤ (0 : Int):=(by omega)
      have q6 : 0 < a0.size:=(by have : (0 : Int) < (a0.size : Int):=of_decide_eq_true (by first|(with_reducible assumption)|assumption); omega)
      have hx6 : ∀ h : 0 < a0.size,((a0[0]'h).toNat : Int) = bt a0 0:=xG a0 0
      clear p6
      have qi6 : (0 < (a0.size : Int)) = True:=eq_true (of_decide_eq_true (by first|(with_reducible assumption)|assumption))
      replace q6:=eq_true q6
      go_wp2
      go_meet
      case rel => exact ⟨_,(false),(by first|rfl|(simp;done)|(simp [*];done)),H',⟨by first|omega|exact Nat.le_refl _⟩,by repeat (first|exact Drawn0.refl _|apply Drawn0.step)⟩
    ·
     rw [if_neg c5] at H
     exact absurd H (by simp)
 case rest =>
  clear HC2
  try clear p2
  try clear c3
  try clear c3b0
  try clear c3b1
  try clear c4
  try clear c4b0
  try clear c4b1
  try clear c5
  try clear c5b0
  try clear c5b1
  try clear p6 p6
  try clear q6 q6
  try clear hx6
  try clear qi6
  try clear c7
  try clear c7b0
  try clear p8 p8
  try clear q8 q8
  try clear hx8
  try clear qi8
  obtain ⟨kq,dK,rfl,HA,HJ1,⟨mc1,rfl⟩⟩:=hcut
  cases kq with
  | zero => exact absurd HA.out (by simp [wM.j0])
  | succ kj1 =>
   have H:=HA.out
   clear HA
   simp only [wM.j0] at H
   by_cases c9 : dK = true
   ·
    subst c9
    have H1 : (some false) = some r:=by rw [if_pos rfl] at H; exact H
    clear H
    have H:=H1
    clear H1
    obtain rfl:=Option.some.inj H
    go_wp2
    go_ret
    exact ⟨by first|rfl|(simp; done)|(simp [*]; done),by repeat (first|exact Drawn0.refl _|apply Drawn0.step)⟩
   ·
    replace c9:=Bool.eq_false_iff.mpr c9
    subst c9
    have H1 : (wM.l0 kj1 a0 0) = some r:=by rw [if_neg (show ¬ (false = true) by decide)] at H; exact H
    clear H
    have H:=H1
    clear H1
    have H':=zZ.mk H
    clear H
    go_wp2
    go_loopg [3] kj1 (fun kq v3 w' => ∃ (yQ : Int),v3 = .int .i64 yQ ∧ zZ (wM.l0 kq a0 yQ = some r) ∧ zZ (kq ≤ kj1) ∧ Drawn0 w w')
    case atStart => exact ⟨(0),(by first|rfl|(simp;done)|(simp [*];done)),H',⟨Nat.le_refl _⟩,by repeat (first|exact Drawn0.refl _|apply Drawn0.step)⟩
    case round =>
     clear H'
     try clear c1
     try clear p2 p2
     try clear c3
     try clear c3b0
     try clear c3b1
     try clear c4
     try clear c4b0
     try clear c4b1
     try clear c5
     try clear c5b0
     try clear c5b1
     try clear p6 p6
     try clear q6 q6
     try clear hx6
     try clear qi6
     try clear c7
     try clear c7b0
     try clear p8 p8
     try clear q8 q8
     try clear hx8
     try clear qi8
     try clear c9
     obtain ⟨yQ,rfl,HA,HK2,⟨m2,rfl⟩⟩:=hrel
     cases gk with
     | zero => exact absurd HA.out (by simp [wM.l0])
     | succ k2 =>
      have H:=HA.out
      clear HA
      simp only [wM.l0] at H
      by_cases c10 : yQ < (a0.size : Int)
      ·
       rw [if_pos c10] at H
       have c10b0 : decide (yQ < (a0.size : Int)) = true:=decide_eq_true c10
       clear c10
       by_cases c11 : 0 ≤ yQ
       ·
        rw [if_pos c11] at H
        have c11b0 : decide (0 ≤ yQ) = true:=decide_eq_true c11
        clear c11
        by_cases c13 : (bt a0 yQ) = 95
        ·
         rw [if_pos c13] at H
         have c13b0 : ((bt a0 yQ) == 95) = true:=beq_iff_eq.mpr c13
         have c13b1 : ((bt a0 yQ) != 95) = false:=bne_eq_false_iff_eq.mpr c13
         clear c13
         have H':=zZ.mk H
         clear H
         have p12 : 0 ≤ (yQ : Int):=of_decide_eq_true (by first|(with_reducible assumption)|assumption)
         have q12 : yQ < (a0.size : Int):=of_decide_eq_true (by first|(with_reducible assumption)|assumption)
         have hx12:=xG a0 yQ
         replace p12:=eq_true p12
         replace q12:=eq_true q12
         go_wp2
         go_roundg k2
         case measure => have:=HJ1.out; have:=HK2.out; omega
         case rel => exact ⟨(wrap64 (yQ + 1)),(by first|rfl|(simp;done)|(simp [*];done)),H',⟨by have:=HJ1.out; have:=HK2.out; omega⟩,by repeat (first|exact Drawn0.refl _|apply Drawn0.step)⟩
        ·
         rw [if_neg c13] at H
         have c13b0 : ((bt a0 yQ) == 95) = false:=beq_eq_false_iff_ne.mpr c13
         have c13b1 : ((bt a0 yQ) != 95) = true:=bne_iff_ne.mpr c13
         by_cases c14 : (bt a0 yQ) < 48
         ·
          rw [if_pos c14] at H
          have c14b0 : decide ((bt a0 yQ) < 48) = true:=decide_eq_true c14
          clear c14
          by_cases c15 : (bt a0 yQ) < 97
          ·
           rw [if_pos c15] at H
           have c15b0 : decide ((bt a0 yQ) < 97) = true:=decide_eq_true c15
           clear c15
           by_cases c16 : (bt a0 yQ) < 65
           ·
            rw [if_pos c16] at H
            have c16b0 : decide ((bt a0 yQ) < 65) = true:=decide_eq_true c16
            clear c16
            obtain rfl:=Option.some.inj H
            have p12 : 0 ≤ (yQ : Int):=of_decide_eq_true (by first|(with_reducible assumption)|assumption)
            have q12 : yQ < (a0.size : Int):=of_decide_eq_true (by first|(with_reducible assumption)|assumption)
            have hx12:=xG a0 yQ
            replace p12:=eq_true p12
            replace q12:=eq_true q12
            go_wp2
            go_ret
            exact ⟨by first|rfl|(simp; done)|(simp [*]; done),by repeat (first|exact Drawn0.refl _|apply Drawn0.step)⟩
           ·
            rw [if_neg c16] at H
            have c16b0 : decide ((bt a0 yQ) < 65) = false:=decide_eq_false c16
            clear c16
            by_cases c17 : (bt a0 yQ) > 90
            ·
             rw [if_pos c17] at H
             have c17b0 : decide (90 < (bt a0 yQ)) = true:=decide_eq_true c17
             clear c17
             obtain rfl:=Option.some.inj H
             have p12 : 0 ≤ (yQ : Int):=of_decide_eq_true (by first|(with_reducible assumption)|assumption)
             have q12 : yQ < (a0.size : Int):=of_decide_eq_true (by first|(with_reducible assumption)|assumption)
             have hx12:=xG a0 yQ
             replace p12:=eq_true p12
             replace q12:=eq_true q12
             go_wp2
             go_ret
             exact ⟨by first|rfl|(simp; done)|(simp [*]; done),by repeat (first|exact Drawn0.refl _|apply Drawn0.step)⟩
            ·
             rw [if_neg c17] at H
             have c17b0 : decide (90 < (bt a0 yQ)) = false:=decide_eq_false c17
             clear c17
             have H':=zZ.mk H
             clear H
             have p12 : 0 ≤ (yQ : Int):=of_decide_eq_true (by first|(with_reducible assumption)|assumption)
             have q12 : yQ < (a0.size : Int):=of_decide_eq_true (by first|(with_reducible assumption)|assumption)
             have hx12:=xG a0 yQ
             replace p12:=eq_true p12
             replace q12:=eq_true q12
             go_wp2
             go_roundg k2
             case measure => have:=HJ1.out; have:=HK2.out; omega
             case rel => exact ⟨(wrap64 (yQ + 1)),(by first|rfl|(simp;done)|(simp [*];done)),H',⟨by have:=HJ1.out; have:=HK2.out; omega⟩,by repeat (first|exact Drawn0.refl _|apply Drawn0.step)⟩
          ·
           rw [if_neg c15] at H
           have c15b0 : decide ((bt a0 yQ) < 97) = false:=decide_eq_false c15
           clear c15
           by_cases c18 : (bt a0 yQ) > 122
           ·
            rw [if_pos c18] at H
            have c18b0 : decide (122 < (bt a0 yQ)) = true:=decide_eq_true c18
            clear c18
            by_cases c19 : (bt a0 yQ) < 65
            ·
             rw [if_pos c19] at H
             have c19b0 : decide ((bt a0 yQ) < 65) = true:=decide_eq_true c19
             clear c19
             obtain rfl:=Option.some.inj H
             have p12 : 0 ≤ (yQ : Int):=of_decide_eq_true (by first|(with_reducible assumption)|assumption)
             have q12 : yQ < (a0.size : Int):=of_decide_eq_true (by first|(with_reducible assumption)|assumption)
             have hx12:=xG a0 yQ
             replace p12:=eq_true p12
             replace q12:=eq_true q12
             go_wp2
             go_ret
             exact ⟨by first|rfl|(simp; done)|(simp [*]; done),by repeat (first|exact Drawn0.refl _|apply Drawn0.step)⟩
            ·
             rw [if_neg c19] at H
             have c19b0 : decide ((bt a0 yQ) < 65) = false:=decide_eq_false c19
             clear c19
             by_cases c20 : (bt a0 yQ) > 90
             ·
              rw [if_pos c20] at H
              have c20b0 : decide (90 < (bt a0 yQ)) = true:=decide_eq_true c20
              clear c20
              obtain rfl:=Option.some.inj H
              have p12 : 0 ≤ (yQ : Int):=of_decide_eq_true (by first|(with_reducible assumption)|assumption)
              have q12 : yQ < (a0.size : Int):=of_decide_eq_true (by first|(with_reducible assumption)|assumption)
              have hx12:=xG a0 yQ
              replace p12:=eq_true p12
              replace q12:=eq_true q12
              go_wp2
              go_ret
              exact ⟨by first|rfl|(simp; done)|(simp [*]; done),by repeat (first|exact Drawn0.refl _|apply Drawn0.step)⟩
             ·
              rw [if_neg c20] at H
              have c20b0 : decide (90 < (bt a0 yQ)) = false:=decide_eq_false c20
              clear c20
              have H':=zZ.mk H
              clear H
              have p12 : 0 ≤ (yQ : Int):=of_decide_eq_true (by first|(with_reducible assumption)|assumption)
              have q12 : yQ < (a0.size : Int):=of_decide_eq_true (by first|(with_reducible assumption)|assumption)
              have hx12:=xG a0 yQ
              replace p12:=eq_true p12
              replace q12:=eq_true q12
              go_wp2
              go_roundg k2
              case measure => have:=HJ1.out; have:=HK2.out; omega
              case rel => exact ⟨(wrap64 (yQ + 1)),(by first|rfl|(simp;done)|(simp [*];done)),H',⟨by have:=HJ1.out; have:=HK2.out; omega⟩,by repeat (first|exact Drawn0.refl _|apply Drawn0.step)⟩
           ·
            rw [if_neg c18] at H
            have c18b0 : decide (122 < (bt a0 yQ)) = false:=decide_eq_false c18
            clear c18
            have H':=zZ.mk H
            clear H
            have p12 : 0 ≤ (yQ : Int):=of_decide_eq_true (by first|(with_reducible assumption)|assumption)
            have q12 : yQ < (a0.size : Int):=of_decide_eq_true (by first|(with_reducible assumption)|assumption)
            have hx12:=xG a0 yQ
            replace p12:=eq_true p12
            replace q12:=eq_true q12
            go_wp2
            go_roundg k2
            case measure => have:=HJ1.out; have:=HK2.out; omega
            case rel => exact ⟨(wrap64 (yQ + 1)),(by first|rfl|(simp;done)|(simp [*];done)),H',⟨by have:=HJ1.out; have:=HK2.out; omega⟩,by repeat (first|exact Drawn0.refl _|apply Drawn0.step)⟩
         ·
          rw [if_neg c14] at H
          have c14b0 : decide ((bt a0 yQ) < 48) = false:=decide_eq_false c14
          clear c14
          by_cases c21 : (bt a0 yQ) > 57
          ·
           rw [if_pos c21] at H
           have c21b0 : decide (57 < (bt a0 yQ)) = true:=decide_eq_true c21
           clear c21
           by_cases c22 : (bt a0 yQ) < 97
           ·
            rw [if_pos c22] at H
            have c22b0 : decide ((bt a0 yQ) < 97) = true:=decide_eq_true c22
            clear c22
            by_cases c23 : (bt a0 yQ) < 65
            ·
             rw [if_pos c23] at H
             have c23b0 : decide ((bt a0 yQ) < 65) = true:=decide_eq_true c23
             clear c23
             obtain rfl:=Option.some.inj H
             have p12 : 0 ≤ (yQ : Int):=of_decide_eq_true (by first|(with_reducible assumption)|assumption)
             have q12 : yQ < (a0.size : Int):=of_decide_eq_true (by first|(with_reducible assumption)|assumption)
             have hx12:=xG a0 yQ
             replace p12:=eq_true p12
             replace q12:=eq_true q12
             go_wp2
             go_ret
             exact ⟨by first|rfl|(simp; done)|(simp [*]; done),by repeat (first|exact Drawn0.refl _|apply Drawn0.step)⟩
            ·
             rw [if_neg c23] at H
             have c23b0 : decide ((bt a0 yQ) < 65) = false:=decide_eq_false c23
             clear c23
             by_cases c24 : (bt a0 yQ) > 90
             ·
              rw [if_pos c24] at H
              have c24b0 : decide (90 < (bt a0 yQ)) = true:=decide_eq_true c24
              clear c24
              obtain rfl:=Option.some.inj H
              have p12 : 0 ≤ (yQ : Int):=of_decide_eq_true (by first|(with_reducible assumption)|assumption)
              have q12 : yQ < (a0.size : Int):=of_decide_eq_true (by first|(with_reducible assumption)|assumption)
              have hx12:=xG a0 yQ
              replace p12:=eq_true p12
              replace q12:=eq_true q12
              go_wp2
              go_ret
              exact ⟨by first|rfl|(simp; done)|(simp [*]; done),by repeat (first|exact Drawn0.refl _|apply Drawn0.step)⟩
             ·
              rw [if_neg c24] at H
              have c24b0 : decide (90 < (bt a0 yQ)) = false:=decide_eq_false c24
              clear c24
              have H':=zZ.mk H
              clear H
              have p12 : 0 ≤ (yQ : Int):=of_decide_eq_true (by first|(with_reducible assumption)|assumption)
              have q12 : yQ < (a0.size : Int):=of_decide_eq_true (by first|(with_reducible assumption)|assumption)
              have hx12:=xG a0 yQ
              replace p12:=eq_true p12
              replace q12:=eq_true q12
              go_wp2
              go_roundg k2
              case measure => have:=HJ1.out; have:=HK2.out; omega
              case rel => exact ⟨(wrap64 (yQ + 1)),(by first|rfl|(simp;done)|(simp [*];done)),H',⟨by have:=HJ1.out; have:=HK2.out; omega⟩,by repeat (first|exact Drawn0.refl _|apply Drawn0.step)⟩
           ·
            rw [if_neg c22] at H
            have c22b0 : decide ((bt a0 yQ) < 97) = false:=decide_eq_false c22
            clear c22
            by_cases c25 : (bt a0 yQ) > 122
            ·
             rw [if_pos c25] at H
             have c25b0 : decide (122 < (bt a0 yQ)) = true:=decide_eq_true c25
             clear c25
             by_cases c26 : (bt a0 yQ) < 65
             ·
              rw [if_pos c26] at H
              have c26b0 : decide ((bt a0 yQ) < 65) = true:=decide_eq_true c26
              clear c26
              obtain rfl:=Option.some.inj H
              have p12 : 0 ≤ (yQ : Int):=of_decide_eq_true (by first|(with_reducible assumption)|assumption)
              have q12 : yQ < (a0.size : Int):=of_decide_eq_true (by first|(with_reducible assumption)|assumption)
              have hx12:=xG a0 yQ
              replace p12:=eq_true p12
              replace q12:=eq_true q12
              go_wp2
              go_ret
              exact ⟨by first|rfl|(simp; done)|(simp [*]; done),by repeat (first|exact Drawn0.refl _|apply Drawn0.step)⟩
             ·
              rw [if_neg c26] at H
              have c26b0 : decide ((bt a0 yQ) < 65) = false:=decide_eq_false c26
              clear c26
              by_cases c27 : (bt a0 yQ) > 90
              ·
               rw [if_pos c27] at H
               have c27b0 : decide (90 < (bt a0 yQ)) = true:=decide_eq_true c27
               clear c27
               obtain rfl:=Option.some.inj H
               have p12 : 0 ≤ (yQ : Int):=of_decide_eq_true (by first|(with_reducible assumption)|assumption)
               have q12 : yQ < (a0.size : Int):=of_decide_eq_true (by first|(with_reducible assumption)|assumption)
               have hx12:=xG a0 yQ
               replace p12:=eq_true p12
               replace q12:=eq_true q12
               go_wp2
               go_ret
               exact ⟨by first|rfl|(simp; done)|(simp [*]; done),by repeat (first|exact Drawn0.refl _|apply Drawn0.step)⟩
              ·
               rw [if_neg c27] at H
               have c27b0 : decide (90 < (bt a0 yQ)) = false:=decide_eq_false c27
               clear c27
               have H':=zZ.mk H
               clear H
               have p12 : 0 ≤ (yQ : Int):=of_decide_eq_true (by first|(with_reducible assumption)|assumption)
               have q12 : yQ < (a0.size : Int):=of_decide_eq_true (by first|(with_reducible assumption)|assumption)
               have hx12:=xG a0 yQ
               replace p12:=eq_true p12
               replace q12:=eq_true q12
               go_wp2
               go_roundg k2
               case measure => have:=HJ1.out; have:=HK2.out; omega
               case rel => exact ⟨(wrap64 (yQ + 1)),(by first|rfl|(simp;done)|(simp [*];done)),H',⟨by have:=HJ1.out; have:=HK2.out; omega⟩,by repeat (first|exact Drawn0.refl _|apply Drawn0.step)⟩
            ·
             rw [if_neg c25] at H
             have c25b0 : decide (122 < (bt a0 yQ)) = false:=decide_eq_false c25
             clear c25
             have H':=zZ.mk H
             clear H
             have p12 : 0 ≤ (yQ : Int):=of_decide_eq_true (by first|(with_reducible assumption)|assumption)
             have q12 : yQ < (a0.size : Int):=of_decide_eq_true (by first|(with_reducible assumption)|assumption)
             have hx12:=xG a0 yQ
             replace p12:=eq_true p12
             replace q12:=eq_true q12
             go_wp2
             go_roundg k2
             case measure => have:=HJ1.out; have:=HK2.out; omega
             case rel => exact ⟨(wrap64 (yQ + 1)),(by first|rfl|(simp;done)|(simp [*];done)),H',⟨by have:=HJ1.out; have:=HK2.out; omega⟩,by repeat (first|exact Drawn0.refl _|apply Drawn0.step)⟩
          ·
           rw [if_neg c21] at H
           have c21b0 : decide (57 < (bt a0 yQ)) = false:=decide_eq_false c21
           clear c21
           have H':=zZ.mk H
           clear H
           have p12 : 0 ≤ (yQ : Int):=of_decide_eq_true (by first|(with_reducible assumption)|assumption)
           have q12 : yQ < (a0.size : Int):=of_decide_eq_true (by first|(with_reducible assumption)|assumption)
           have hx12:=xG a0 yQ
           replace p12:=eq_true p12
           replace q12:=eq_true q12
           go_wp2
           go_roundg k2
           case measure => have:=HJ1.out; have:=HK2.out; omega
           case rel => exact ⟨(wrap64 (yQ + 1)),(by first|rfl|(simp;done)|(simp [*];done)),H',⟨by have:=HJ1.out; have:=HK2.out; omega⟩,by repeat (first|exact Drawn0.refl _|apply Drawn0.step)⟩
       ·
        rw [if_neg c11] at H
        exact absurd H (by simp)
      ·
       rw [if_neg c10] at H
       have c10b0 : decide (yQ < (a0.size : Int)) = false:=decide_eq_false c10
       clear c10
       obtain rfl:=Option.some.inj H
       go_wp2
       go_ret
       exact ⟨by first|rfl|(simp; done)|(simp [*]; done),by repeat (first|exact Drawn0.refl _|apply Drawn0.step)⟩
def lP.f (a0 : Int) : Option (Bool):=if a0 = 40 then (some true) else (if a0 = 41 then (some true) else (if a0 = 44 then (some true) else (if a0 = 61 then (some true) else (if a0 = 58 then (some true) else (if a0 = 91 then (some true) else (some (a0 == 93)))))))
set_option maxHeartbeats 8000000 in
set_option maxRecDepth 100000 in
theorem lP.calls (a0 : Int) (r : Bool) (w : World) (h : lP.f a0 = some r) :
  Calls Tryd.prog 106 #[.int .u8 a0] w fun e w' => e = .returned (.bool r) ∧ Drawn0 w w':=by
 have H : (if a0 = 40 then (some true) else (if a0 = 41 then (some true) else (if a0 = 44 then (some true) else (if a0 = 61 then (some true) else (if a0 = 58 then (some true) else (if a0 = 91 then (some true) else (some (a0 == 93)))))))) = some r:=h
 clear h
 by_cases c2 : a0 = 40
 ·
  rw [if_pos c2] at H
  have c2b0 : (a0 == 40) = true:=beq_iff_eq.mpr c2
  have c2b1 : (a0 != 40) = false:=bne_eq_false_iff_eq.mpr c2
  clear c2
  obtain rfl:=Option.some.inj H
  go_enter Tryd.func106,Tryd.ntmps106
  go_wp2
  go_ret
  exact ⟨by first|rfl|(simp; done)|(simp [*]; done),by repeat (first|exact Drawn0.refl _|apply Drawn0.step)⟩
 ·
  rw [if_neg c2] at H
  have c2b0 : (a0 == 40) = false:=beq_eq_false_iff_ne.mpr c2
  have c2b1 : (a0 != 40) = true:=bne_iff_ne.mpr c2
  by_cases c3 : a0 = 41
  ·
   rw [if_pos c3] at H
   have c3b0 : (a0 == 41) = true:=beq_iff_eq.mpr c3
   have c3b1 : (a0 != 41) = false:=bne_eq_false_iff_eq.mpr c3
   clear c3
   obtain rfl:=Option.some.inj H
   go_enter Tryd.func106,Tryd.ntmps106
   go_wp2
   go_ret
   exact ⟨by first|rfl|(simp; done)|(simp [*]; done),by repeat (first|exact Drawn0.refl _|apply Drawn0.step)⟩
  ·
   rw [if_neg c3] at H
   have c3b0 : (a0 == 41) = false:=beq_eq_false_iff_ne.mpr c3
   have c3b1 : (a0 != 41) = true:=bne_iff_ne.mpr c3
   by_cases c4 : a0 = 44
   ·
    rw [if_pos c4] at H
    have c4b0 : (a0 == 44) = true:=beq_iff_eq.mpr c4
    have c4b1 : (a0 != 44) = false:=bne_eq_false_iff_eq.mpr c4
    clear c4
    obtain rfl:=Option.some.inj H
    go_enter Tryd.func106,Tryd.ntmps106
    go_wp2
    go_ret
    exact ⟨by first|rfl|(simp; done)|(simp [*]; done),by repeat (first|exact Drawn0.refl _|apply Drawn0.step)⟩
   ·
    rw [if_neg c4] at H
    have c4b0 : (a0 == 44) = false:=beq_eq_false_iff_ne.mpr c4
    have c4b1 : (a0 != 44) = true:=bne_iff_ne.mpr c4
    by_cases c5 : a0 = 61
    ·
     rw [if_pos c5] at H
     have c5b0 : (a0 == 61) = true:=beq_iff_eq.mpr c5
     have c5b1 : (a0 != 61) = false:=bne_eq_false_iff_eq.mpr c5
     clear c5
     obtain rfl:=Option.some.inj H
     go_enter Tryd.func106,Tryd.ntmps106
     go_wp2
     go_ret
     exact ⟨by first|rfl|(simp; done)|(simp [*]; done),by repeat (first|exact Drawn0.refl _|apply Drawn0.step)⟩
    ·
     rw [if_neg c5] at H
     have c5b0 : (a0 == 61) = false:=beq_eq_false_iff_ne.mpr c5
     have c5b1 : (a0 != 61) = true:=bne_iff_ne.mpr c5
     by_cases c6 : a0 = 58
     ·
      rw [if_pos c6] at H
      have c6b0 : (a0 == 58) = true:=beq_iff_eq.mpr c6
      have c6b1 : (a0 != 58) = false:=bne_eq_false_iff_eq.mpr c6
      clear c6
      obtain rfl:=Option.some.inj H
      go_enter Tryd.func106,Tryd.ntmps106
      go_wp2
      go_ret
      exact ⟨by first|rfl|(simp; done)|(simp [*]; done),by repeat (first|exact Drawn0.refl _|apply Drawn0.step)⟩
     ·
      rw [if_neg c6] at H
      have c6b0 : (a0 == 58) = false:=beq_eq_false_iff_ne.mpr c6
      have c6b1 : (a0 != 58) = true:=bne_iff_ne.mpr c6
      by_cases c7 : a0 = 91
      ·
       rw [if_pos c7] at H
       have c7b0 : (a0 == 91) = true:=beq_iff_eq.mpr c7
       have c7b1 : (a0 != 91) = false:=bne_eq_false_iff_eq.mpr c7
       clear c7
       obtain rfl:=Option.some.inj H
       go_enter Tryd.func106,Tryd.ntmps106
       go_wp2
       go_ret
       exact ⟨by first|rfl|(simp; done)|(simp [*]; done),by repeat (first|exact Drawn0.refl _|apply Drawn0.step)⟩
      ·
       rw [if_neg c7] at H
       have c7b0 : (a0 == 91) = false:=beq_eq_false_iff_ne.mpr c7
       have c7b1 : (a0 != 91) = true:=bne_iff_ne.mpr c7
       obtain rfl:=Option.some.inj H
       go_enter Tryd.func106,Tryd.ntmps106
       go_wp2
       go_ret
       exact ⟨by first|rfl|(simp; done)|(simp [*]; done),by repeat (first|exact Drawn0.refl _|apply Drawn0.step)⟩
def pR.f (a0 : Int) : Option (Bool):=if a0 = 95 then (some true) else (if a0 ≥ 48 then (if a0 ≤ 57 then (some true) else (if a0 ≥ 97 then (if a0 ≤ 122 then (some true) else (if a0 ≥ 65 then (some (decide (a0 ≤ 90))) else (some false))) else (if a0 ≥ 65 then (some (decide (a0 ≤ 90))) else (some false)))) else (if a0 ≥ 97 then (if a0 ≤ 122 then (some true) else (if a0 ≥ 65 then (some (decide (a0 ≤ 90))) else (some false))) else (if a0 ≥ 65 then (some (decide (a0 ≤ 90))) else (some false))))
set_option maxHeartbeats 8000000 in
set_option maxRecDepth 100000 in
theorem pR.calls (a0 : Int) (r : Bool) (w : World) (h : pR.f a0 = some r) :
  Calls Tryd.prog 107 #[.int .u8 a0] w fun e w' => e = .returned (.bool r) ∧ Drawn0 w w':=by
 have H : (if a0 = 95 then (some true) else (if a0 ≥ 48 then (if a0 ≤ 57 then (some true) else (if a0 ≥ 97 then (if a0 ≤ 122 then (some true) else (if a0 ≥ 65 then (some (decide (a0 ≤ 90))) else (some false))) else (if a0 ≥ 65 then (some (decide (a0 ≤ 90))) else (some false)))) else (if a0 ≥ 97 then (if a0 ≤ 122 then (some true) else (if a0 ≥ 65 then (some (decide (a0 ≤ 90))) else (some false))) else (if a0 ≥ 65 then (some (decide (a0 ≤ 90))) else (some false))))) = some r:=h
 clear h
 by_cases c2 : a0 = 95
 ·
  rw [if_pos c2] at H
  have c2b0 : (a0 == 95) = true:=beq_iff_eq.mpr c2
  have c2b1 : (a0 != 95) = false:=bne_eq_false_iff_eq.mpr c2
  clear c2
  obtain rfl:=Option.some.inj H
  go_enter Tryd.func107,Tryd.ntmps107
  go_wp2
  go_ret
  exact ⟨by first|rfl|(simp; done)|(simp [*]; done),by repeat (first|exact Drawn0.refl _|apply Drawn0.step)⟩
 ·
  rw [if_neg c2] at H
  have c2b0 : (a0 == 95) = false:=beq_eq_false_iff_ne.mpr c2
  have c2b1 : (a0 != 95) = true:=bne_iff_ne.mpr c2
  by_cases c3 : a0 ≥ 48
  ·
   rw [if_pos c3] at H
   have c3b0 : decide (48 ≤ a0) = true:=decide_eq_true c3
   clear c3
   by_cases c4 : a0 ≤ 57
   ·
    rw [if_pos c4] at H
    have c4b0 : decide (a0 ≤ 57) = true:=decide_eq_true c4
    clear c4
    obtain rfl:=Option.some.inj H
    go_enter Tryd.func107,Tryd.ntmps107
    go_wp2
    go_ret
    exact ⟨by first|rfl|(simp; done)|(simp [*]; done),by repeat (first|exact Drawn0.refl _|apply Drawn0.step)⟩
   ·
    rw [if_neg c4] at H
    have c4b0 : decide (a0 ≤ 57) = false:=decide_eq_false c4
    clear c4
    by_cases c5 : a0 ≥ 97
    ·
     rw [if_pos c5] at H
     have c5b0 : decide (97 ≤ a0) = true:=decide_eq_true c5
     clear c5
     by_cases c6 : a0 ≤ 122
     ·
      rw [if_pos c6] at H
      have c6b0 : decide (a0 ≤ 122) = true:=decide_eq_true c6
      clear c6
      obtain rfl:=Option.some.inj H
      go_enter Tryd.func107,Tryd.ntmps107
      go_wp2
      go_ret
      exact ⟨by first|rfl|(simp; done)|(simp [*]; done),by repeat (first|exact Drawn0.refl _|apply Drawn0.step)⟩
     ·
      rw [if_neg c6] at H
      have c6b0 : decide (a0 ≤ 122) = false:=decide_eq_false c6
      clear c6
      by_cases c7 : a0 ≥ 65
      ·
       rw [if_pos c7] at H
       have c7b0 : decide (65 ≤ a0) = true:=decide_eq_true c7
       clear c7
       obtain rfl:=Option.some.inj H
       go_enter Tryd.func107,Tryd.ntmps107
       go_wp2
       go_ret
       exact ⟨by first|rfl|(simp; done)|(simp [*]; done),by repeat (first|exact Drawn0.refl _|apply Drawn0.step)⟩
      ·
       rw [if_neg c7] at H
       have c7b0 : decide (65 ≤ a0) = false:=decide_eq_false c7
       clear c7
       obtain rfl:=Option.some.inj H
       go_enter Tryd.func107,Tryd.ntmps107
       go_wp2
       go_ret
       exact ⟨by first|rfl|(simp; done)|(simp [*]; done),by repeat (first|exact Drawn0.refl _|apply Drawn0.step)⟩
    ·
     rw [if_neg c5] at H
     have c5b0 : decide (97 ≤ a0) = false:=decide_eq_false c5
     clear c5
     by_cases c8 : a0 ≥ 65
     ·
      rw [if_pos c8] at H
      have c8b0 : decide (65 ≤ a0) = true:=decide_eq_true c8
      clear c8
      obtain rfl:=Option.some.inj H
      go_enter Tryd.func107,Tryd.ntmps107
      go_wp2
      go_ret
      exact ⟨by first|rfl|(simp; done)|(simp [*]; done),by repeat (first|exact Drawn0.refl _|apply Drawn0.step)⟩
     ·
      rw [if_neg c8] at H
      have c8b0 : decide (65 ≤ a0) = false:=decide_eq_false c8
      clear c8
      obtain rfl:=Option.some.inj H
      go_enter Tryd.func107,Tryd.ntmps107
      go_wp2
      go_ret
      exact ⟨by first|rfl|(simp; done)|(simp [*]; done),by repeat (first|exact Drawn0.refl _|apply Drawn0.step)⟩
  ·
   rw [if_neg c3] at H
   have c3b0 : decide (48 ≤ a0) = false:=decide_eq_false c3
   clear c3
   by_cases c9 : a0 ≥ 97
   ·
    rw [if_pos c9] at H
    have c9b0 : decide (97 ≤ a0) = true:=decide_eq_true c9
    clear c9
    by_cases c10 : a0 ≤ 122
    ·
     rw [if_pos c10] at H
     have c10b0 : decide (a0 ≤ 122) = true:=decide_eq_true c10
     clear c10
     obtain rfl:=Option.some.inj H
     go_enter Tryd.func107,Tryd.ntmps107
     go_wp2
     go_ret
     exact ⟨by first|rfl|(simp; done)|(simp [*]; done),by repeat (first|exact Drawn0.refl _|apply Drawn0.step)⟩
    ·
     rw [if_neg c10] at H
     have c10b0 : decide (a0 ≤ 122) = false:=decide_eq_false c10
     clear c10
     by_cases c11 : a0 ≥ 65
     ·
      rw [if_pos c11] at H
      have c11b0 : decide (65 ≤ a0) = true:=decide_eq_true c11
      clear c11
      obtain rfl:=Option.some.inj H
      go_enter Tryd.func107,Tryd.ntmps107
      go_wp2
      go_ret
      exact ⟨by first|rfl|(simp; done)|(simp [*]; done),by repeat (first|exact Drawn0.refl _|apply Drawn0.step)⟩
     ·
      rw [if_neg c11] at H
      have c11b0 : decide (65 ≤ a0) = false:=decide_eq_false c11
      clear c11
      obtain rfl:=Option.some.inj H
      go_enter Tryd.func107,Tryd.ntmps107
      go_wp2
      go_ret
      exact ⟨by first|rfl|(simp; done)|(simp [*]; done),by repeat (first|exact Drawn0.refl _|apply Drawn0.step)⟩
   ·
    rw [if_neg c9] at H
    have c9b0 : decide (97 ≤ a0) = false:=decide_eq_false c9
    clear c9
    by_cases c12 : a0 ≥ 65
    ·
     rw [if_pos c12] at H
     have c12b0 : decide (65 ≤ a0) = true:=decide_eq_true c12
     clear c12
     obtain rfl:=Option.some.inj H
     go_enter Tryd.func107,Tryd.ntmps107
     go_wp2
     go_ret
     exact ⟨by first|rfl|(simp; done)|(simp [*]; done),by repeat (first|exact Drawn0.refl _|apply Drawn0.step)⟩
    ·
     rw [if_neg c12] at H
     have c12b0 : decide (65 ≤ a0) = false:=decide_eq_false c12
     clear c12
     obtain rfl:=Option.some.inj H
     go_enter Tryd.func107,Tryd.ntmps107
     go_wp2
     go_ret
     exact ⟨by first|rfl|(simp; done)|(simp [*]; done),by repeat (first|exact Drawn0.refl _|apply Drawn0.step)⟩
def rB.l0 : Nat → ByteArray → Int → Int → Option (Int)
 | 0,_,_,_ => none
 | k + 1,x0,x3,x4 => if x4 < (x0.size : Int) then (if 0 ≤ x4 then (if (bt x0 x4) < 48 then (some (-1)) else (if (bt x0 x4) > 57 then (some (-1)) else (rB.l0 k x0 (wrap64 ((wrap64 (x3 * 10)) + (((bt x0 x4) - 48) % 256))) (wrap64 (x4 + 1))))) else (none)) else (some x3)
def rB.f (k : Nat) (a0 : ByteArray) : Option (Int):=rB.l0 k a0 0 0
set_option maxHeartbeats 8000000 in
set_option maxRecDepth 100000 in
theorem rB.calls (k : Nat) (a0 : ByteArray) (r : Int) (w : World) (h : rB.f k a0 = some r) :
  Calls Tryd.prog 122 #[.string a0] w fun e w' => e = .returned (.int .i64 r) ∧ Drawn0 w w':=by
 have H : (rB.l0 k a0 0 0) = some r:=h
 clear h
 have H':=zZ.mk H
 clear H
 go_enter Tryd.func122,Tryd.ntmps122
 go_wp2
 go_loopg [3,4] k (fun kq v3 v4 w' => ∃ (wN : Int) (zD : Int),v3 = .int .i64 wN ∧ v4 = .int .i64 zD ∧ zZ (rB.l0 kq a0 wN zD = some r) ∧ zZ (kq ≤ k) ∧ Drawn0 w w')
 case atStart => exact ⟨(0),(0),(by first|rfl|(simp;done)|(simp [*];done)),(by first|rfl|(simp;done)|(simp [*];done)),H',⟨Nat.le_refl _⟩,by repeat (first|exact Drawn0.refl _|apply Drawn0.step)⟩
 case round =>
  clear H'
  try clear c1
  obtain ⟨wN,zD,rfl,rfl,HA,HK1,⟨m1,rfl⟩⟩:=hrel
  cases gk with
  | zero => exact absurd HA.out (by simp [rB.l0])
  | succ k1 =>
   have H:=HA.out
   clear HA
   simp only [rB.l0] at H
   by_cases c2 : zD < (a0.size : Int)
   ·
    rw [if_pos c2] at H
    have c2b0 : decide (zD < (a0.size : Int)) = true:=decide_eq_true c2
    clear c2
    by_cases c3 : 0 ≤ zD
    ·
     rw [if_pos c3] at H
     have c3b0 : decide (0 ≤ zD) = true:=decide_eq_true c3
     clear c3
     by_cases c5 : (bt a0 zD) < 48
     ·
      rw [if_pos c5] at H
      have c5b0 : decide ((bt a0 zD) < 48) = true:=decide_eq_true c5
      clear c5
      obtain rfl:=Option.some.inj H
      have p4 : 0 ≤ (zD : Int):=of_decide_eq_true (by first|(with_reducible assumption)|assumption)
      have q4 : zD < (a0.size : Int):=of_decide_eq_true (by first|(with_reducible assumption)|assumption)
      have hx4:=xG a0 zD
      replace p4:=eq_true p4
      replace q4:=eq_true q4
      go_wp2
      go_ret
      exact ⟨by first|rfl|(simp; done)|(simp [*]; done),by repeat (first|exact Drawn0.refl _|apply Drawn0.step)⟩
     ·
      rw [if_neg c5] at H
      have c5b0 : decide ((bt a0 zD) < 48) = false:=decide_eq_false c5
      clear c5
      by_cases c7 : (bt a0 zD) > 57
      ·
       rw [if_pos c7] at H
       have c7b0 : decide (57 < (bt a0 zD)) = true:=decide_eq_true c7
       clear c7
       obtain rfl:=Option.some.inj H
       have p4 : 0 ≤ (zD : Int):=of_decide_eq_true (by first|(with_reducible assumption)|assumption)
       have q4 : zD < (a0.size : Int):=of_decide_eq_true (by first|(with_reducible assumption)|assumption)
       have hx4:=xG a0 zD
       replace p4:=eq_true p4
       replace q4:=eq_true q4
       have p6 : 0 ≤ (zD : Int):=of_decide_eq_true (by first|(with_reducible assumption)|assumption)
       have q6 : zD < (a0.size : Int):=of_decide_eq_true (by first|(with_reducible assumption)|assumption)
       have hx6:=xG a0 zD
       replace p6:=eq_true p6
       replace q6:=eq_true q6
       go_wp2
       go_ret
       exact ⟨by first|rfl|(simp; done)|(simp [*]; done),by repeat (first|exact Drawn0.refl _|apply Drawn0.step)⟩
      ·
       rw [if_neg c7] at H
       have c7b0 : decide (57 < (bt a0 zD)) = false:=decide_eq_false c7
       clear c7
       have H':=zZ.mk H
       clear H
       have p4 : 0 ≤ (zD : Int):=of_decide_eq_true (by first|(with_reducible assumption)|assumption)
       have q4 : zD < (a0.size : Int):=of_decide_eq_true (by first|(with_reducible assumption)|assumption)
       have hx4:=xG a0 zD
       replace p4:=eq_true p4
       replace q4:=eq_true q4
       have p6 : 0 ≤ (zD : Int):=of_decide_eq_true (by first|(with_reducible assumption)|assumption)
       have q6 : zD < (a0.size : Int):=of_decide_eq_true (by first|(with_reducible assumption)|assumption)
       have hx6:=xG a0 zD
       replace p6:=eq_true p6
       replace q6:=eq_true q6
       have p8 : 0 ≤ (zD : Int):=of_decide_eq_true (by first|(with_reducible assumption)|assumption)
       have q8 : zD < (a0.size : Int):=of_decide_eq_true (by first|(with_reducible assumption)|assumption)
       have hx8:=xG a0 zD
       replace p8:=eq_true p8
       replace q8:=eq_true q8
       go_wp2
       go_roundg k1
       case measure => have:=HK1.out; omega
       case rel => exact ⟨(wrap64 ((wrap64 (wN * 10)) + (((bt a0 zD) - 48) % 256))),(wrap64 (zD + 1)),(by first|rfl|(simp;done)|(simp [*];done)),(by first|rfl|(simp;done)|(simp [*];done)),H',⟨by have:=HK1.out; omega⟩,by repeat (first|exact Drawn0.refl _|apply Drawn0.step)⟩
    ·
     rw [if_neg c3] at H
     exact absurd H (by simp)
   ·
    rw [if_neg c2] at H
    have c2b0 : decide (zD < (a0.size : Int)) = false:=decide_eq_false c2
    clear c2
    obtain rfl:=Option.some.inj H
    go_wp2
    go_ret
    exact ⟨by first|rfl|(simp; done)|(simp [*]; done),by repeat (first|exact Drawn0.refl _|apply Drawn0.step)⟩
end Go.Proofs.YtjeofffddbibeaaDoor.PParseTells
end

section
namespace Go.Proofs.YtjeofffddbibeaaDoor.PParseTells
open Go.RowKit YtjeofffddbibeaaDoorW.PrintWords YtjeofffddbibeaaDoorW.PrintLast YtjeofffddbibeaaDoorW.PrintMore
attribute [local go_sem] tH tM tG tL tK tJ tN tI
def pP.f (a0 : Int) : Option (Bool):=if (Int.tmod a0 400) = 0 then (some true) else (if (Int.tmod a0 4) = 0 then (some ((Int.tmod a0 100) != 0)) else (some false))
set_option maxHeartbeats 8000000 in
set_option maxRecDepth 100000 in
theorem pP.calls (a0 : Int) (r : Bool) (w : World) (h : pP.f a0 = some r) :
  Calls Tryd.prog 137 #[.int .i64 a0] w fun e w' => e = .returned (.bool r) ∧ Drawn0 w w':=by
 have H : (if (Int.tmod a0 400) = 0 then (some true) else (if (Int.tmod a0 4) = 0 then (some ((Int.tmod a0 100) != 0)) else (some false))) = some r:=h
 clear h
 by_cases c2 : (Int.tmod a0 400) = 0
 ·
  rw [if_pos c2] at H
  have c2b0 : ((Int.tmod a0 400) == 0) = true:=beq_iff_eq.mpr c2
  have c2b1 : ((Int.tmod a0 400) != 0) = false:=bne_eq_false_iff_eq.mpr c2
  clear c2
  obtain rfl:=Option.some.inj H
  go_enter Tryd.func137,Tryd.ntmps137
  go_wp2
  go_ret
  exact ⟨by first|rfl|(simp; done)|(simp [*]; done),by repeat (first|exact Drawn0.refl _|apply Drawn0.step)⟩
 ·
  rw [if_neg c2] at H
  have c2b0 : ((Int.tmod a0 400) == 0) = false:=beq_eq_false_iff_ne.mpr c2
  have c2b1 : ((Int.tmod a0 400) != 0) = true:=bne_iff_ne.mpr c2
  by_cases c3 : (Int.tmod a0 4) = 0
  ·
   rw [if_pos c3] at H
   have c3b0 : ((Int.tmod a0 4) == 0) = true:=beq_iff_eq.mpr c3
   have c3b1 : ((Int.tmod a0 4) != 0) = false:=bne_eq_false_iff_eq.mpr c3
   clear c3
   obtain rfl:=Option.some.inj H
   go_enter Tryd.func137,Tryd.ntmps137
   go_wp2
   go_ret
   exact ⟨by first|rfl|(simp; done)|(simp [*]; done),by repeat (first|exact Drawn0.refl _|apply Drawn0.step)⟩
  ·
   rw [if_neg c3] at H
   have c3b0 : ((Int.tmod a0 4) == 0) = false:=beq_eq_false_iff_ne.mpr c3
   have c3b1 : ((Int.tmod a0 4) != 0) = true:=bne_iff_ne.mpr c3
   obtain rfl:=Option.some.inj H
   go_enter Tryd.func137,Tryd.ntmps137
   go_wp2
   go_ret
   exact ⟨by first|rfl|(simp; done)|(simp [*]; done),by repeat (first|exact Drawn0.refl _|apply Drawn0.step)⟩
def uD.j0 : Nat → Int → Bool → Option (Int)
 | 0,_,_ => none
 | k + 1,x5,x10 => if x10 = true then (some 30) else (if x5 = 1 then (some 31) else (if x5 = 3 then (some 31) else (if x5 = 5 then (some 31) else (if x5 = 7 then (some 31) else (if x5 = 8 then (some 31) else (if x5 = 10 then (some 31) else (if x5 = 12 then (some 31) else (some 0))))))))
def uD.f (k : Nat) (a0 : Int) (a1 : Int) : Option (Int):=if a1 = 2 then ((pP.f a0).bind fun t147 => (if t147 = true then (some 29) else (some 28))) else (if a1 = 4 then (uD.j0 k a1 (a1 == 4)) else (if a1 = 6 then (uD.j0 k a1 (a1 == 6)) else (if a1 = 9 then (uD.j0 k a1 (a1 == 9)) else (uD.j0 k a1 (a1 == 11)))))
set_option maxHeartbeats 8000000 in
set_option maxRecDepth 100000 in
theorem uD.calls (k : Nat) (a0 : Int) (a1 : Int) (r : Int) (w : World) (h : uD.f k a0 a1 = some r) :
  Calls Tryd.prog 129 #[.int .i64 a0,.int .i64 a1] w fun e w' => e = .returned (.int .i64 r) ∧ Drawn0 w w':=by
 have H : (if a1 = 2 then ((pP.f a0).bind fun t147 => (if t147 = true then (some 29) else (some 28))) else (if a1 = 4 then (uD.j0 k a1 (a1 == 4)) else (if a1 = 6 then (uD.j0 k a1 (a1 == 6)) else (if a1 = 9 then (uD.j0 k a1 (a1 == 9)) else (uD.j0 k a1 (a1 == 11)))))) = some r:=h
 clear h
 by_cases c3 : a1 = 2
 ·
  rw [if_pos c3] at H
  have c3b0 : (a1 == 2) = true:=beq_iff_eq.mpr c3
  have c3b1 : (a1 != 2) = false:=bne_eq_false_iff_eq.mpr c3
  clear c3
  replace H:=Option.bind_eq_some_iff.mp H
  obtain ⟨t147,A40,H⟩:=H
  replace H : (if t147 = true then (some 29) else (some 28)) = some r:=H
  have A4:=zZ.mk A40
  clear A40
  by_cases c5 : t147 = true
  ·
   subst c5
   have H1 : (some 29) = some r:=by rw [if_pos rfl] at H; exact H
   clear H
   have H:=H1
   clear H1
   obtain rfl:=Option.some.inj H
   go_enter Tryd.func129,Tryd.ntmps129
   go_wp2_with (first|((with_reducible refine yD (f:=137) rfl ?_); refine yE (some 9) rfl rfl Tryd.func137 (by kernel_rfl) rfl #[.int .i64 a0] rfl (by (try simp only [List.map_toArray,List.map_cons,List.map_nil]); first|done|rfl|(simp only [List.length_drop,List.length_take]; rfl)) ?_; (with_reducible refine (pP.calls a0 true _ A4.out).mono ?_); rintro e w' ⟨rfl,⟨nd,rfl⟩⟩; refine ⟨_,rfl,?_⟩))
   go_ret
   exact ⟨by first|rfl|(simp; done)|(simp [*]; done),by repeat (first|exact Drawn0.refl _|apply Drawn0.step)⟩
  ·
   replace c5:=Bool.eq_false_iff.mpr c5
   subst c5
   have H1 : (some 28) = some r:=by rw [if_neg (show ¬ (false = true) by decide)] at H; exact H
   clear H
   have H:=H1
   clear H1
   obtain rfl:=Option.some.inj H
   go_enter Tryd.func129,Tryd.ntmps129
   go_wp2_with (first|((with_reducible refine yD (f:=137) rfl ?_); refine yE (some 9) rfl rfl Tryd.func137 (by kernel_rfl) rfl #[.int .i64 a0] rfl (by (try simp only [List.map_toArray,List.map_cons,List.map_nil]); first|done|rfl|(simp only [List.length_drop,List.length_take]; rfl)) ?_; (with_reducible refine (pP.calls a0 false _ A4.out).mono ?_); rintro e w' ⟨rfl,⟨nd,rfl⟩⟩; refine ⟨_,rfl,?_⟩))
   go_ret
   exact ⟨by first|rfl|(simp; done)|(simp [*]; done),by repeat (first|exact Drawn0.refl _|apply Drawn0.step)⟩
 ·
  rw [if_neg c3] at H
  have c3b0 : (a1 == 2) = false:=beq_eq_false_iff_ne.mpr c3
  have c3b1 : (a1 != 2) = true:=bne_iff_ne.mpr c3
  have HC6:=zZ.mk H
  clear H
  go_enter Tryd.func129,Tryd.ntmps129
  go_upto_if 10 with (fail)
  go_cut [10] (fun v10 wc => ∃ (kq : Nat) (uC : Bool),v10 = .bool uC ∧ zZ (uD.j0 kq a1 uC = some r) ∧ zZ (kq ≤ k) ∧ Drawn0 w wc)
  case first =>
   have H:=HC6.out
   clear HC6
   by_cases c7 : a1 = 4
   ·
    rw [if_pos c7] at H
    have c7b0 : (a1 == 4) = true:=beq_iff_eq.mpr c7
    have c7b1 : (a1 != 4) = false:=bne_eq_false_iff_eq.mpr c7
    clear c7
    (first|rw [c7b0]|(simp only [yV,yU]; rw [c7b0])|skip)
    have H':=zZ.mk H
    clear H
    go_wp2
    go_meet
    case rel => exact ⟨_,((a1 == 4)),(by first|rfl|(simp;done)|(simp [*];done)),H',⟨by first|omega|exact Nat.le_refl _⟩,by repeat (first|exact Drawn0.refl _|apply Drawn0.step)⟩
   ·
    rw [if_neg c7] at H
    have c7b0 : (a1 == 4) = false:=beq_eq_false_iff_ne.mpr c7
    have c7b1 : (a1 != 4) = true:=bne_iff_ne.mpr c7
    (first|rw [c7b0]|(simp only [yV,yU]; rw [c7b0])|skip)
    by_cases c8 : a1 = 6
    ·
     rw [if_pos c8] at H
     have c8b0 : (a1 == 6) = true:=beq_iff_eq.mpr c8
     have c8b1 : (a1 != 6) = false:=bne_eq_false_iff_eq.mpr c8
     clear c8
     have H':=zZ.mk H
     clear H
     go_wp2
     go_meet
     case rel => exact ⟨_,((a1 == 6)),(by first|rfl|(simp;done)|(simp [*];done)),H',⟨by first|omega|exact Nat.le_refl _⟩,by repeat (first|exact Drawn0.refl _|apply Drawn0.step)⟩
    ·
     rw [if_neg c8] at H
     have c8b0 : (a1 == 6) = false:=beq_eq_false_iff_ne.mpr c8
     have c8b1 : (a1 != 6) = true:=bne_iff_ne.mpr c8
     by_cases c9 : a1 = 9
     ·
      rw [if_pos c9] at H
      have c9b0 : (a1 == 9) = true:=beq_iff_eq.mpr c9
      have c9b1 : (a1 != 9) = false:=bne_eq_false_iff_eq.mpr c9
      clear c9
      have H':=zZ.mk H
      clear H
      go_wp2
      go_meet
      case rel => exact ⟨_,((a1 == 9)),(by first|rfl|(simp;done)|(simp [*];done)),H',⟨by first|omega|exact Nat.le_refl _⟩,by repeat (first|exact Drawn0.refl _|apply Drawn0.step)⟩
     ·
      rw [if_neg c9] at H
      have c9b0 : (a1 == 9) = false:=beq_eq_false_iff_ne.mpr c9
      have c9b1 : (a1 != 9) = true:=bne_iff_ne.mpr c9
      have H':=zZ.mk H
      clear H
      go_wp2
      go_meet
      case rel => exact ⟨_,((a1 == 11)),(by first|rfl|(simp;done)|(simp [*];done)),H',⟨by first|omega|exact Nat.le_refl _⟩,by repeat (first|exact Drawn0.refl _|apply Drawn0.step)⟩
  case rest =>
   clear HC6
   try clear c1
   try clear p2
   try clear c3
   try clear c3b0
   try clear c3b1
   try clear c5
   try clear c7
   try clear c7b0
   try clear c7b1
   try clear c8
   try clear c8b0
   try clear c8b1
   try clear c9
   try clear c9b0
   try clear c9b1
   obtain ⟨kq,uC,rfl,HA,HJ5,⟨mc5,rfl⟩⟩:=hcut
   cases kq with
   | zero => exact absurd HA.out (by simp [uD.j0])
   | succ kj5 =>
    have H:=HA.out
    clear HA
    simp only [uD.j0] at H
    by_cases c10 : uC = true
    ·
     subst c10
     have H1 : (some 30) = some r:=by rw [if_pos rfl] at H; exact H
     clear H
     have H:=H1
     clear H1
     obtain rfl:=Option.some.inj H
     go_wp2
     go_ret
     exact ⟨by first|rfl|(simp; done)|(simp [*]; done),by repeat (first|exact Drawn0.refl _|apply Drawn0.step)⟩
    ·
     replace c10:=Bool.eq_false_iff.mpr c10
     subst c10
     have H1 : (if a1 = 1 then (some 31) else (if a1 = 3 then (some 31) else (if a1 = 5 then (some 31) else (if a1 = 7 then (some 31) else (if a1 = 8 then (some 31) else (if a1 = 10 then (some 31) else (if a1 = 12 then (some 31) else (some 0)))))))) = some r:=by rw [if_neg (show ¬ (false = true) by decide)] at H; exact H
     clear H
     have H:=H1
     clear H1
     by_cases c11 : a1 = 1
     ·
      rw [if_pos c11] at H
      have c11b0 : (a1 == 1) = true:=beq_iff_eq.mpr c11
      have c11b1 : (a1 != 1) = false:=bne_eq_false_iff_eq.mpr c11
      clear c11
      obtain rfl:=Option.some.inj H
      go_wp2
      go_ret
      exact ⟨by first|rfl|(simp; done)|(simp [*]; done),by repeat (first|exact Drawn0.refl _|apply Drawn0.step)⟩
     ·
      rw [if_neg c11] at H
      have c11b0 : (a1 == 1) = false:=beq_eq_false_iff_ne.mpr c11
      have c11b1 : (a1 != 1) = true:=bne_iff_ne.mpr c11
      by_cases c12 : a1 = 3
      ·
       rw [if_pos c12] at H
       have c12b0 : (a1 == 3) = true:=beq_iff_eq.mpr c12
       have c12b1 : (a1 != 3) = false:=bne_eq_false_iff_eq.mpr c12
       clear c12
       obtain rfl:=Option.some.inj H
       go_wp2
       go_ret
       exact ⟨by first|rfl|(simp; done)|(simp [*]; done),by repeat (first|exact Drawn0.refl _|apply Drawn0.step)⟩
      ·
       rw [if_neg c12] at H
       have c12b0 : (a1 == 3) = false:=beq_eq_false_iff_ne.mpr c12
       have c12b1 : (a1 != 3) = true:=bne_iff_ne.mpr c12
       by_cases c13 : a1 = 5
       ·
        rw [if_pos c13] at H
        have c13b0 : (a1 == 5) = true:=beq_iff_eq.mpr c13
        have c13b1 : (a1 != 5) = false:=bne_eq_false_iff_eq.mpr c13
        clear c13
        obtain rfl:=Option.some.inj H
        go_wp2
        go_ret
        exact ⟨by first|rfl|(simp; done)|(simp [*]; done),by repeat (first|exact Drawn0.refl _|apply Drawn0.step)⟩
       ·
        rw [if_neg c13] at H
        have c13b0 : (a1 == 5) = false:=beq_eq_false_iff_ne.mpr c13
        have c13b1 : (a1 != 5) = true:=bne_iff_ne.mpr c13
        by_cases c14 : a1 = 7
        ·
         rw [if_pos c14] at H
         have c14b0 : (a1 == 7) = true:=beq_iff_eq.mpr c14
         have c14b1 : (a1 != 7) = false:=bne_eq_false_iff_eq.mpr c14
         clear c14
         obtain rfl:=Option.some.inj H
         go_wp2
         go_ret
         exact ⟨by first|rfl|(simp; done)|(simp [*]; done),by repeat (first|exact Drawn0.refl _|apply Drawn0.step)⟩
        ·
         rw [if_neg c14] at H
         have c14b0 : (a1 == 7) = false:=beq_eq_false_iff_ne.mpr c14
         have c14b1 : (a1 != 7) = true:=bne_iff_ne.mpr c14
         by_cases c15 : a1 = 8
         ·
          rw [if_pos c15] at H
          have c15b0 : (a1 == 8) = true:=beq_iff_eq.mpr c15
          have c15b1 : (a1 != 8) = false:=bne_eq_false_iff_eq.mpr c15
          clear c15
          obtain rfl:=Option.some.inj H
          go_wp2
          go_ret
          exact ⟨by first|rfl|(simp; done)|(simp [*]; done),by repeat (first|exact Drawn0.refl _|apply Drawn0.step)⟩
         ·
          rw [if_neg c15] at H
          have c15b0 : (a1 == 8) = false:=beq_eq_false_iff_ne.mpr c15
          have c15b1 : (a1 != 8) = true:=bne_iff_ne.mpr c15
          by_cases c16 : a1 = 10
          ·
           rw [if_pos c16] at H
           have c16b0 : (a1 == 10) = true:=beq_iff_eq.mpr c16
           have c16b1 : (a1 != 10) = false:=bne_eq_false_iff_eq.mpr c16
           clear c16
           obtain rfl:=Option.some.inj H
           go_wp2
           go_ret
           exact ⟨by first|rfl|(simp; done)|(simp [*]; done),by repeat (first|exact Drawn0.refl _|apply Drawn0.step)⟩
          ·
           rw [if_neg c16] at H
           have c16b0 : (a1 == 10) = false:=beq_eq_false_iff_ne.mpr c16
           have c16b1 : (a1 != 10) = true:=bne_iff_ne.mpr c16
           by_cases c17 : a1 = 12
           ·
            rw [if_pos c17] at H
            have c17b0 : (a1 == 12) = true:=beq_iff_eq.mpr c17
            have c17b1 : (a1 != 12) = false:=bne_eq_false_iff_eq.mpr c17
            clear c17
            obtain rfl:=Option.some.inj H
            go_wp2
            go_ret
            exact ⟨by first|rfl|(simp; done)|(simp [*]; done),by repeat (first|exact Drawn0.refl _|apply Drawn0.step)⟩
           ·
            rw [if_neg c17] at H
            have c17b0 : (a1 == 12) = false:=beq_eq_false_iff_ne.mpr c17
            have c17b1 : (a1 != 12) = true:=bne_iff_ne.mpr c17
            obtain rfl:=Option.some.inj H
            go_wp2
            go_ret
            exact ⟨by first|rfl|(simp; done)|(simp [*]; done),by repeat (first|exact Drawn0.refl _|apply Drawn0.step)⟩
def kZ.f (a0 : Int) : Option (Int):=(pP.f a0).bind fun t148 => (if t148 = true then (some 366) else (some 365))
set_option maxHeartbeats 8000000 in
set_option maxRecDepth 100000 in
theorem kZ.calls (a0 : Int) (r : Int) (w : World) (h : kZ.f a0 = some r) :
  Calls Tryd.prog 138 #[.int .i64 a0] w fun e w' => e = .returned (.int .i64 r) ∧ Drawn0 w w':=by
 have H : ((pP.f a0).bind fun t148 => (if t148 = true then (some 366) else (some 365))) = some r:=h
 clear h
 replace H:=Option.bind_eq_some_iff.mp H
 obtain ⟨t148,A20,H⟩:=H
 replace H : (if t148 = true then (some 366) else (some 365)) = some r:=H
 have A2:=zZ.mk A20
 clear A20
 by_cases c3 : t148 = true
 ·
  subst c3
  have H1 : (some 366) = some r:=by rw [if_pos rfl] at H; exact H
  clear H
  have H:=H1
  clear H1
  obtain rfl:=Option.some.inj H
  go_enter Tryd.func138,Tryd.ntmps138
  go_wp2_with (first|((with_reducible refine yD (f:=137) rfl ?_); refine yE (some 4) rfl rfl Tryd.func137 (by kernel_rfl) rfl #[.int .i64 a0] rfl (by (try simp only [List.map_toArray,List.map_cons,List.map_nil]); first|done|rfl|(simp only [List.length_drop,List.length_take]; rfl)) ?_; (with_reducible refine (pP.calls a0 true _ A2.out).mono ?_); rintro e w' ⟨rfl,⟨nd,rfl⟩⟩; refine ⟨_,rfl,?_⟩))
  go_ret
  exact ⟨by first|rfl|(simp; done)|(simp [*]; done),by repeat (first|exact Drawn0.refl _|apply Drawn0.step)⟩
 ·
  replace c3:=Bool.eq_false_iff.mpr c3
  subst c3
  have H1 : (some 365) = some r:=by rw [if_neg (show ¬ (false = true) by decide)] at H; exact H
  clear H
  have H:=H1
  clear H1
  obtain rfl:=Option.some.inj H
  go_enter Tryd.func138,Tryd.ntmps138
  go_wp2_with (first|((with_reducible refine yD (f:=137) rfl ?_); refine yE (some 4) rfl rfl Tryd.func137 (by kernel_rfl) rfl #[.int .i64 a0] rfl (by (try simp only [List.map_toArray,List.map_cons,List.map_nil]); first|done|rfl|(simp only [List.length_drop,List.length_take]; rfl)) ?_; (with_reducible refine (pP.calls a0 false _ A2.out).mono ?_); rintro e w' ⟨rfl,⟨nd,rfl⟩⟩; refine ⟨_,rfl,?_⟩))
  go_ret
  exact ⟨by first|rfl|(simp; done)|(simp [*]; done),by repeat (first|exact Drawn0.refl _|apply Drawn0.step)⟩
mutual
def wB.l0 : Nat → Int → Int → Int → Option (Int)
 | 0,_,_,_ => none
 | k + 1,x0,x3,x4 => if (wrap64 (x4 + 400)) ≤ x0 then (wB.l0 k x0 (wrap64 (x3 + 146097)) (wrap64 (x4 + 400))) else (wB.l1 k x0 x3 x4)
def wB.l1 : Nat → Int → Int → Int → Option (Int)
 | 0,_,_,_ => none
 | k + 1,x0,x3,x4 => if (wrap64 (x4 - 400)) ≥ x0 then (wB.l1 k x0 (wrap64 (x3 - 146097)) (wrap64 (x4 - 400))) else (wB.l2 k x0 x3 x4)
def wB.l2 : Nat → Int → Int → Int → Option (Int)
 | 0,_,_,_ => none
 | k + 1,x0,x3,x4 => if x4 < x0 then ((kZ.f x4).bind fun t149 => (wB.l2 k x0 (wrap64 (x3 + t149)) (wrap64 (x4 + 1)))) else (wB.l3 k x0 x3 x4)
def wB.l3 : Nat → Int → Int → Int → Option (Int)
 | 0,_,_,_ => none
 | k + 1,x0,x3,x4 => if x4 > x0 then ((kZ.f (wrap64 (x4 - 1))).bind fun t150 => (wB.l3 k x0 (wrap64 (x3 - t150)) (wrap64 (x4 - 1)))) else (some x3)
end
def wB.f (k : Nat) (a0 : Int) : Option (Int):=wB.l0 k a0 0 1970
set_option maxHeartbeats 8000000 in
set_option maxRecDepth 100000 in
theorem wB.calls (k : Nat) (a0 : Int) (r : Int) (w : World) (h : wB.f k a0 = some r) :
  Calls Tryd.prog 130 #[.int .i64 a0] w fun e w' => e = .returned (.int .i64 r) ∧ Drawn0 w w':=by
 have H : (wB.l0 k a0 0 1970) = some r:=h
 clear h
 have H':=zZ.mk H
 clear H
 go_enter Tryd.func130,Tryd.ntmps130
 go_wp2
 go_loopg [3,4] k (fun kq v3 v4 w' => ∃ (wN : Int) (zD : Int),v3 = .int .i64 wN ∧ v4 = .int .i64 zD ∧ zZ (wB.l0 kq a0 wN zD = some r) ∧ zZ (kq ≤ k) ∧ Drawn0 w w')
 case atStart => exact ⟨(0),(1970),(by first|rfl|(simp;done)|(simp [*];done)),(by first|rfl|(simp;done)|(simp [*];done)),H',⟨Nat.le_refl _⟩,by repeat (first|exact Drawn0.refl _|apply Drawn0.step)⟩
 case round =>
  clear H'
  try clear c1
  obtain ⟨wN,zD,rfl,rfl,HA,HK1,⟨m1,rfl⟩⟩:=hrel
  cases gk with
  | zero => exact absurd HA.out (by simp [wB.l0])
  | succ k1 =>
   have H:=HA.out
   clear HA
   simp only [wB.l0] at H
   by_cases c2 : (wrap64 (zD + 400)) ≤ a0
   ·
    rw [if_pos c2] at H
    have c2b0 : decide ((wrap64 (zD + 400)) ≤ a0) = true:=decide_eq_true c2
    clear c2
    have H':=zZ.mk H
    clear H
    go_wp2
    go_roundg k1
    case measure => have:=HK1.out; omega
    case rel => exact ⟨(wrap64 (wN + 146097)),(wrap64 (zD + 400)),(by first|rfl|(simp;done)|(simp [*];done)),(by first|rfl|(simp;done)|(simp [*];done)),H',⟨by have:=HK1.out; omega⟩,by repeat (first|exact Drawn0.refl _|apply Drawn0.step)⟩
   ·
    rw [if_neg c2] at H
    have c2b0 : decide ((wrap64 (zD + 400)) ≤ a0) = false:=decide_eq_false c2
    clear c2
    have H':=zZ.mk H
    clear H
    go_wp2
    go_loopg [3,4] k1 (fun kq v3 v4 w' => ∃ (yQ : Int) (yT : Int),v3 = .int .i64 yQ ∧ v4 = .int .i64 yT ∧ zZ (wB.l1 kq a0 yQ yT = some r) ∧ zZ (kq ≤ k1) ∧ Drawn0 w w')
    case atStart => exact ⟨(wN),(zD),(by first|rfl|(simp;done)|(simp [*];done)),(by first|rfl|(simp;done)|(simp [*];done)),H',⟨Nat.le_refl _⟩,by repeat (first|exact Drawn0.refl _|apply Drawn0.step)⟩
    case round =>
     clear H'
     try clear c1
     try clear c2
     try clear c2b0
     try clear p2
     obtain ⟨yQ,yT,rfl,rfl,HA,HK2,⟨m2,rfl⟩⟩:=hrel
     cases gk with
     | zero => exact absurd HA.out (by simp [wB.l1])
     | succ k2 =>
      have H:=HA.out
      clear HA
      simp only [wB.l1] at H
      by_cases c3 : (wrap64 (yT - 400)) ≥ a0
      ·
       rw [if_pos c3] at H
       have c3b0 : decide (a0 ≤ (wrap64 (yT - 400))) = true:=decide_eq_true c3
       clear c3
       have H':=zZ.mk H
       clear H
       go_wp2
       go_roundg k2
       case measure => have:=HK1.out; have:=HK2.out; omega
       case rel => exact ⟨(wrap64 (yQ - 146097)),(wrap64 (yT - 400)),(by first|rfl|(simp;done)|(simp [*];done)),(by first|rfl|(simp;done)|(simp [*];done)),H',⟨by have:=HK1.out; have:=HK2.out; omega⟩,by repeat (first|exact Drawn0.refl _|apply Drawn0.step)⟩
      ·
       rw [if_neg c3] at H
       have c3b0 : decide (a0 ≤ (wrap64 (yT - 400))) = false:=decide_eq_false c3
       clear c3
       have H':=zZ.mk H
       clear H
       go_wp2
       go_loopg [3,4] k2 (fun kq v3 v4 w' => ∃ (kN : Int) (qK : Int),v3 = .int .i64 kN ∧ v4 = .int .i64 qK ∧ zZ (wB.l2 kq a0 kN qK = some r) ∧ zZ (kq ≤ k2) ∧ Drawn0 w w')
       case atStart => exact ⟨(yQ),(yT),(by first|rfl|(simp;done)|(simp [*];done)),(by first|rfl|(simp;done)|(simp [*];done)),H',⟨Nat.le_refl _⟩,by repeat (first|exact Drawn0.refl _|apply Drawn0.step)⟩
       case round =>
        clear H'
        try clear c1
        try clear c2
        try clear c2b0
        try clear p2 p2
        try clear c3
        try clear c3b0
        obtain ⟨kN,qK,rfl,rfl,HA,HK3,⟨m3,rfl⟩⟩:=hrel
        cases gk with
        | zero => exact absurd HA.out (by simp [wB.l2])
        | succ k3 =>
         have H:=HA.out
         clear HA
         simp only [wB.l2] at H
         by_cases c4 : qK < a0
         ·
          rw [if_pos c4] at H
          have c4b0 : decide (qK < a0) = true:=decide_eq_true c4
          clear c4
          replace H:=Option.bind_eq_some_iff.mp H
          obtain ⟨t149,A50,H⟩:=H
          replace H : (wB.l2 k3 a0 (wrap64 (kN + t149)) (wrap64 (qK + 1))) = some r:=H
          have A5:=zZ.mk A50
          clear A50
          have H':=zZ.mk H
          clear H
          go_wp2_with (first|((with_reducible refine yD (f:=138) rfl ?_); refine yE (some 26) rfl rfl Tryd.func138 (by kernel_rfl) rfl #[.int .i64 qK] rfl (by (try simp only [List.map_toArray,List.map_cons,List.map_nil]); first|done|rfl|(simp only [List.length_drop,List.length_take]; rfl)) ?_; (with_reducible refine (kZ.calls qK t149 _ A5.out).mono ?_); rintro e w' ⟨rfl,⟨nd,rfl⟩⟩; refine ⟨_,rfl,?_⟩))
          go_roundg k3
          case measure => have:=HK1.out; have:=HK2.out; have:=HK3.out; omega
          case rel => exact ⟨(wrap64 (kN + t149)),(wrap64 (qK + 1)),(by first|rfl|(simp;done)|(simp [*];done)),(by first|rfl|(simp;done)|(simp [*];done)),H',⟨by have:=HK1.out; have:=HK2.out; have:=HK3.out; omega⟩,by repeat (first|exact Drawn0.refl _|apply Drawn0.step)⟩
         ·
          rw [if_neg c4] at H
          have c4b0 : decide (qK < a0) = false:=decide_eq_false c4
          clear c4
          have H':=zZ.mk H
          clear H
          go_wp2
          go_loopg [3,4] k3 (fun kq v3 v4 w' => ∃ (gK : Int) (pJ : Int),v3 = .int .i64 gK ∧ v4 = .int .i64 pJ ∧ zZ (wB.l3 kq a0 gK pJ = some r) ∧ zZ (kq ≤ k3) ∧ Drawn0 w w')
          case atStart => exact ⟨(kN),(qK),(by first|rfl|(simp;done)|(simp [*];done)),(by first|rfl|(simp;done)|(simp [*];done)),H',⟨Nat.le_refl _⟩,by repeat (first|exact Drawn0.refl _|apply Drawn0.step)⟩
          case round =>
           clear H'
           try clear c1
           try clear c2
           try clear c2b0
           try clear p2 p2
           try clear c3
           try clear c3b0
           try clear c4
           try clear c4b0
           obtain ⟨gK,pJ,rfl,rfl,HA,HK4,⟨m4,rfl⟩⟩:=hrel
           cases gk with
           | zero => exact absurd HA.out (by simp [wB.l3])
           | succ k4 =>
            have H:=HA.out
            clear HA
            simp only [wB.l3] at H
            by_cases c6 : pJ > a0
            ·
             rw [if_pos c6] at H
             have c6b0 : decide (a0 < pJ) = true:=decide_eq_true c6
             clear c6
             replace H:=Option.bind_eq_some_iff.mp H
             obtain ⟨t150,A70,H⟩:=H
             replace H : (wB.l3 k4 a0 (wrap64 (gK - t150)) (wrap64 (pJ - 1))) = some r:=H
             have A7:=zZ.mk A70
             clear A70
             have H':=zZ.mk H
             clear H
             go_wp2_with (first|((with_reducible refine yD (f:=138) rfl ?_); refine yE (some 37) rfl rfl Tryd.func138 (by kernel_rfl) rfl #[.int .i64 (wrap64 (pJ - 1))] rfl (by (try simp only [List.map_toArray,List.map_cons,List.map_nil]); first|done|rfl|(simp only [List.length_drop,List.length_take]; rfl)) ?_; (with_reducible refine (kZ.calls (wrap64 (pJ - 1)) t150 _ A7.out).mono ?_); rintro e w' ⟨rfl,⟨nd,rfl⟩⟩; refine ⟨_,rfl,?_⟩))
             go_roundg k4
             case measure => have:=HK1.out; have:=HK2.out; have:=HK3.out; have:=HK4.out; omega
             case rel => exact ⟨(wrap64 (gK - t150)),(wrap64 (pJ - 1)),(by first|rfl|(simp;done)|(simp [*];done)),(by first|rfl|(simp;done)|(simp [*];done)),H',⟨by have:=HK1.out; have:=HK2.out; have:=HK3.out; have:=HK4.out; omega⟩,by repeat (first|exact Drawn0.refl _|apply Drawn0.step)⟩
            ·
             rw [if_neg c6] at H
             have c6b0 : decide (a0 < pJ) = false:=decide_eq_false c6
             clear c6
             obtain rfl:=Option.some.inj H
             go_wp2
             go_ret
             exact ⟨by first|rfl|(simp; done)|(simp [*]; done),by repeat (first|exact Drawn0.refl _|apply Drawn0.step)⟩
mutual
def vY.j0 : Nat → Int → Int → Int → Bool → Option (Int × Int)
 | 0,_,_,_,_ => none
 | k + 1,x0,x1,x2,x26 => if x26 = true then (some (0,30)) else ((wB.f k x0).bind fun t152 => (vY.l0 k x0 x1 x2 t152 1))
def vY.l0 : Nat → Int → Int → Int → Int → Int → Option (Int × Int)
 | 0,_,_,_,_,_ => none
 | k + 1,x0,x1,x2,x8,x9 => if x9 < x1 then ((uD.f k x0 x9).bind fun t153 => (vY.l0 k x0 x1 x2 (wrap64 (x8 + t153)) (wrap64 (x9 + 1)))) else (some (wrap64 ((wrap64 (x8 + x2)) - 1),0))
end
def vY.f (k : Nat) (a0 : Int) (a1 : Int) (a2 : Int) : Option (Int × Int):=if a0 < (-9999) then (vY.j0 k a0 a1 a2 true) else (if a0 > 9999 then (vY.j0 k a0 a1 a2 true) else (if a2 < 1 then (vY.j0 k a0 a1 a2 true) else ((uD.f k a0 a1).bind fun t151 => (vY.j0 k a0 a1 a2 (decide (a2 > t151))))))
set_option maxHeartbeats 8000000 in
set_option maxRecDepth 100000 in
theorem vY.calls (k : Nat) (a0 : Int) (a1 : Int) (a2 : Int) (r1 : Int) (r2 : Int) (w : World) (h : vY.f k a0 a1 a2 = some (r1,r2)) :
  Calls Tryd.prog 123 #[.int .i64 a0,.int .i64 a1,.int .i64 a2] w fun e w' => e = .returned (.tuple #[.int .i64 r1,.int .i64 r2]) ∧ Drawn0 w w':=by
 have H : (if a0 < (-9999) then (vY.j0 k a0 a1 a2 true) else (if a0 > 9999 then (vY.j0 k a0 a1 a2 true) else (if a2 < 1 then (vY.j0 k a0 a1 a2 true) else ((uD.f k a0 a1).bind fun t151 => (vY.j0 k a0 a1 a2 (decide (a2 > t151))))))) = some (r1,r2):=h
 clear h
 have HC4:=zZ.mk H
 clear H
 go_enter Tryd.func123,Tryd.ntmps123
 go_upto_region 1 with (fail)
 go_cut [26] (fun v26 wc => ∃ (kq : Nat) (dJ : Bool),v26 = .bool dJ ∧ zZ (vY.j0 kq a0 a1 a2 dJ = some (r1,r2)) ∧ zZ (kq ≤ k) ∧ Drawn0 w wc)
 case first =>
  have H:=HC4.out
  clear HC4
  by_cases c5 : a0 < (-9999)
  ·
   rw [if_pos c5] at H
   have c5b0 : decide (a0 < (-9999)) = true:=decide_eq_true c5
   clear c5
   (first|rw [c5b0]|(simp only [yV,yU]; rw [c5b0])|skip)
   have H':=zZ.mk H
   clear H
   go_wp2
   go_meet
   case rel => exact ⟨_,(true),(by first|rfl|(simp;done)|(simp [*];done)),H',⟨by first|omega|exact Nat.le_refl _⟩,by repeat (first|exact Drawn0.refl _|apply Drawn0.step)⟩
  ·
   rw [if_neg c5] at H
   have c5b0 : decide (a0 < (-9999)) = false:=decide_eq_false c5
   clear c5
   (first|rw [c5b0]|(simp only [yV,yU]; rw [c5b0])|skip)
   by_cases c6 : a0 > 9999
   ·
    rw [if_pos c6] at H
    have c6b0 : decide (9999 < a0) = true:=decide_eq_true c6
    clear c6
    have H':=zZ.mk H
    clear H
    go_wp2
    go_meet
    case rel => exact ⟨_,(true),(by first|rfl|(simp;done)|(simp [*];done)),H',⟨by first|omega|exact Nat.le_refl _⟩,by repeat (first|exact Drawn0.refl _|apply Drawn0.step)⟩
   ·
    rw [if_neg c6] at H
    have c6b0 : decide (9999 < a0) = false:=decide_eq_false c6
    clear c6
    by_cases c7 : a2 < 1
    ·
     rw [if_pos c7] at H
     have c7b0 : decide (a2 < 1) = true:=decide_eq_true c7
     clear c7
     have H':=zZ.mk H
     clear H
     go_wp2
     go_meet
     case rel => exact ⟨_,(true),(by first|rfl|(simp;done)|(simp [*];done)),H',⟨by first|omega|exact Nat.le_refl _⟩,by repeat (first|exact Drawn0.refl _|apply Drawn0.step)⟩
    ·
     rw [if_neg c7] at H
     have c7b0 : decide (a2 < 1) = false:=decide_eq_false c7
     clear c7
     replace H:=Option.bind_eq_some_iff.mp H
     obtain ⟨t151,A80,H⟩:=H
     replace H : (vY.j0 k a0 a1 a2 (decide (a2 > t151))) = some (r1,r2):=H
     have A8:=zZ.mk A80
     clear A80
     have H':=zZ.mk H
     clear H
     go_wp2_with (first|(go_at_call 129; (with_reducible refine (uD.calls k a0 a1 t151 _ A8.out).mono ?_); rintro e w' ⟨rfl,⟨nd,rfl⟩⟩))
     go_meet
     case rel => exact ⟨_,(decide (a2 > t151)),(by first|rfl|(simp;done)|(simp [*];done)),H',⟨by first|omega|exact Nat.le_refl _⟩,by repeat (first|exact Drawn0.refl _|apply Drawn0.step)⟩
 case rest =>
  clear HC4
  try clear c1
  try clear p2
  try clear c5
  try clear c5b0
  try clear c6
  try clear c6b0
  try clear c7
  try clear c7b0
  obtain ⟨kq,dJ,rfl,HA,HJ3,⟨mc3,rfl⟩⟩:=hcut
  cases kq with
  | zero => exact absurd HA.out (by simp [vY.j0])
  | succ kj3 =>
   have H:=HA.out
   clear HA
   simp only [vY.j0] at H
   by_cases c9 : dJ = true
   ·
    subst c9
    have H1 : (some (0,30)) = some (r1,r2):=by rw [if_pos rfl] at H; exact H
    clear H
    have H:=H1
    clear H1
    simp only [Option.some.injEq,Prod.mk.injEq] at H
    obtain ⟨rfl,rfl⟩:=H
    go_wp2
    go_ret2
    exact ⟨by first|rfl|(simp; done)|(simp [*]; done),by repeat (first|exact Drawn0.refl _|apply Drawn0.step)⟩
   ·
    replace c9:=Bool.eq_false_iff.mpr c9
    subst c9
    have H1 : ((wB.f kj3 a0).bind fun t152 => (vY.l0 kj3 a0 a1 a2 t152 1)) = some (r1,r2):=by rw [if_neg (show ¬ (false = true) by decide)] at H; exact H
    clear H
    have H:=H1
    clear H1
    replace H:=Option.bind_eq_some_iff.mp H
    obtain ⟨t152,A100,H⟩:=H
    replace H : (vY.l0 kj3 a0 a1 a2 t152 1) = some (r1,r2):=H
    have A10:=zZ.mk A100
    clear A100
    have H':=zZ.mk H
    clear H
    go_wp2_with (first|((with_reducible refine yD (f:=130) rfl ?_); refine yE (some 28) rfl rfl Tryd.func130 (by kernel_rfl) rfl #[.int .i64 a0] rfl (by (try simp only [List.map_toArray,List.map_cons,List.map_nil]); first|done|rfl|(simp only [List.length_drop,List.length_take]; rfl)) ?_; (with_reducible refine (wB.calls kj3 a0 t152 _ A10.out).mono ?_); rintro e w' ⟨rfl,⟨nd,rfl⟩⟩; refine ⟨_,rfl,?_⟩))
    go_loopg [8,9] kj3 (fun kq v8 v9 w' => ∃ (gJ : Int) (pI : Int),v8 = .int .i64 gJ ∧ v9 = .int .i64 pI ∧ zZ (vY.l0 kq a0 a1 a2 gJ pI = some (r1,r2)) ∧ zZ (kq ≤ kj3) ∧ Drawn0 w w')
    case atStart => exact ⟨(t152),(1),(by first|rfl|(simp;done)|(simp [*];done)),(by first|rfl|(simp;done)|(simp [*];done)),H',⟨Nat.le_refl _⟩,by repeat (first|exact Drawn0.refl _|apply Drawn0.step)⟩
    case round =>
     clear H'
     try clear c1
     try clear p2 p2
     try clear c3
     try clear c5
     try clear c5b0
     try clear c6
     try clear c6b0
     try clear c7
     try clear c7b0
     try clear c9
     obtain ⟨gJ,pI,rfl,rfl,HA,HK2,⟨m2,rfl⟩⟩:=hrel
     cases gk with
     | zero => exact absurd HA.out (by simp [vY.l0])
     | succ k2 =>
      have H:=HA.out
      clear HA
      simp only [vY.l0] at H
      by_cases c11 : pI < a1
      ·
       rw [if_pos c11] at H
       have c11b0 : decide (pI < a1) = true:=decide_eq_true c11
       clear c11
       replace H:=Option.bind_eq_some_iff.mp H
       obtain ⟨t153,A120,H⟩:=H
       replace H : (vY.l0 k2 a0 a1 a2 (wrap64 (gJ + t153)) (wrap64 (pI + 1))) = some (r1,r2):=H
       have A12:=zZ.mk A120
       clear A120
       have H':=zZ.mk H
       clear H
       go_wp2_with (first|((with_reducible refine yD (f:=129) rfl ?_); refine yE (some 37) rfl rfl Tryd.func129 (by kernel_rfl) rfl #[.int .i64 a0,.int .i64 pI] rfl (by (try simp only [List.map_toArray,List.map_cons,List.map_nil]); first|done|rfl|(simp only [List.length_drop,List.length_take]; rfl)) ?_; (with_reducible refine (uD.calls k2 a0 pI t153 _ A12.out).mono ?_); rintro e w' ⟨rfl,⟨nd,rfl⟩⟩; refine ⟨_,rfl,?_⟩))
       go_roundg k2
       case measure => have:=HJ3.out; have:=HK2.out; omega
       case rel => exact ⟨(wrap64 (gJ + t153)),(wrap64 (pI + 1)),(by first|rfl|(simp;done)|(simp [*];done)),(by first|rfl|(simp;done)|(simp [*];done)),H',⟨by have:=HJ3.out; have:=HK2.out; omega⟩,by repeat (first|exact Drawn0.refl _|apply Drawn0.step)⟩
      ·
       rw [if_neg c11] at H
       have c11b0 : decide (pI < a1) = false:=decide_eq_false c11
       clear c11
       simp only [Option.some.injEq,Prod.mk.injEq] at H
       obtain ⟨rfl,rfl⟩:=H
       go_wp2
       go_ret2
       exact ⟨by first|rfl|(simp; done)|(simp [*]; done),by repeat (first|exact Drawn0.refl _|apply Drawn0.step)⟩
end Go.Proofs.YtjeofffddbibeaaDoor.PParseTells
end

section
namespace Go.Proofs.YtjeofffddbibeaaDoor.PParseTells
open Go.RowKit YtjeofffddbibeaaDoorW.PrintWords YtjeofffddbibeaaDoorW.PrintLast YtjeofffddbibeaaDoorW.PrintMore
attribute [local go_sem] tH tM tG tL tK tJ tN tI
mutual
def wD.j0 : Nat → Int → Bool → Option (Int × Int × Int × Int)
 | 0,_,_ => none
 | k + 1,x0,x18 => if x18 = true then (some (0,0,0,30)) else (wD.l0 k x0 (-9999) 9999)
def wD.l0 : Nat → Int → Int → Int → Option (Int × Int × Int × Int)
 | 0,_,_,_ => none
 | k + 1,x0,x6,x7 => if x6 < x7 then ((wB.f k (wrap64 (x6 + (wrap64 (Int.tdiv (wrap64 ((wrap64 (x7 - x6)) + 1)) 2))))).bind fun t156 => (if t156 ≤ x0 then (wD.l0 k x0 (wrap64 (x6 + (wrap64 (Int.tdiv (wrap64 ((wrap64 (x7 - x6)) + 1)) 2)))) x7) else (wD.l0 k x0 x6 (wrap64 ((wrap64 (x6 + (wrap64 (Int.tdiv (wrap64 ((wrap64 (x7 - x6)) + 1)) 2)))) - 1))))) else ((wB.f k x6).bind fun t157 => (wD.l1 k x6 (wrap64 (x0 - t157)) 1))
def wD.l1 : Nat → Int → Int → Int → Option (Int × Int × Int × Int)
 | 0,_,_,_ => none
 | k + 1,x6,x9,x10 => (uD.f k x6 x10).bind fun t158 => (if x9 ≥ t158 then ((uD.f k x6 x10).bind fun t159 => (wD.l1 k x6 (wrap64 (x9 - t159)) (wrap64 (x10 + 1)))) else (some (x6,x10,wrap64 (x9 + 1),0)))
end
def wD.f (k : Nat) (a0 : Int) : Option (Int × Int × Int × Int):=(wB.f k (-9999)).bind fun t154 => (if a0 < t154 then (wD.j0 k a0 true) else ((wB.f k 10000).bind fun t155 => (wD.j0 k a0 (decide (a0 ≥ t155)))))
set_option maxHeartbeats 8000000 in
set_option maxRecDepth 100000 in
theorem wD.calls (k : Nat) (a0 : Int) (r1 : Int) (r2 : Int) (r3 : Int) (r4 : Int) (w : World) (h : wD.f k a0 = some (r1,r2,r3,r4)) :
  Calls Tryd.prog 131 #[.int .i64 a0] w fun e w' => e = .returned (.tuple #[.int .i64 r1,.int .i64 r2,.int .i64 r3,.int .i64 r4]) ∧ Drawn0 w w':=by
 have H : ((wB.f k (-9999)).bind fun t154 => (if a0 < t154 then (wD.j0 k a0 true) else ((wB.f k 10000).bind fun t155 => (wD.j0 k a0 (decide (a0 ≥ t155)))))) = some (r1,r2,r3,r4):=h
 clear h
 have HC2:=zZ.mk H
 clear H
 go_enter Tryd.func131,Tryd.ntmps131
 go_upto_region 1 with (fail)
 go_cut [18] (fun v18 wc => ∃ (kq : Nat) (nZ : Bool),v18 = .bool nZ ∧ zZ (wD.j0 kq a0 nZ = some (r1,r2,r3,r4)) ∧ zZ (kq ≤ k) ∧ Drawn0 w wc)
 case first =>
  have H:=HC2.out
  clear HC2
  replace H:=Option.bind_eq_some_iff.mp H
  obtain ⟨t154,A30,H⟩:=H
  replace H : (if a0 < t154 then (wD.j0 k a0 true) else ((wB.f k 10000).bind fun t155 => (wD.j0 k a0 (decide (a0 ≥ t155))))) = some (r1,r2,r3,r4):=H
  have A3:=zZ.mk A30
  clear A30
  by_cases c4 : a0 < t154
  ·
   rw [if_pos c4] at H
   have c4b0 : decide (a0 < t154) = true:=decide_eq_true c4
   clear c4
   (first|rw [c4b0]|(simp only [yV,yU]; rw [c4b0])|skip)
   have H':=zZ.mk H
   clear H
   go_wp2_with (first|((with_reducible refine yD (f:=130) rfl ?_); refine yE (some 12) rfl rfl Tryd.func130 (by kernel_rfl) rfl #[.int .i64 (-9999)] rfl (by (try simp only [List.map_toArray,List.map_cons,List.map_nil]); first|done|rfl|(simp only [List.length_drop,List.length_take]; rfl)) ?_; (with_reducible refine (wB.calls k (-9999) t154 _ A3.out).mono ?_); rintro e w' ⟨rfl,⟨nd,rfl⟩⟩; refine ⟨_,rfl,?_⟩))
   go_meet
   case rel => exact ⟨_,(true),(by first|rfl|(simp;done)|(simp [*];done)),H',⟨by first|omega|exact Nat.le_refl _⟩,by repeat (first|exact Drawn0.refl _|apply Drawn0.step)⟩
  ·
   rw [if_neg c4] at H
   have c4b0 : decide (a0 < t154) = false:=decide_eq_false c4
   clear c4
   (first|rw [c4b0]|(simp only [yV,yU]; rw [c4b0])|skip)
   replace H:=Option.bind_eq_some_iff.mp H
   obtain ⟨t155,A50,H⟩:=H
   replace H : (wD.j0 k a0 (decide (a0 ≥ t155))) = some (r1,r2,r3,r4):=H
   have A5:=zZ.mk A50
   clear A50
   have H':=zZ.mk H
   clear H
   go_wp2_with (first|((with_reducible refine yD (f:=130) rfl ?_); refine yE (some 12) rfl rfl Tryd.func130 (by kernel_rfl) rfl #[.int .i64 (-9999)] rfl (by (try simp only [List.map_toArray,List.map_cons,List.map_nil]); first|done|rfl|(simp only [List.length_drop,List.length_take]; rfl)) ?_; (with_reducible refine (wB.calls k (-9999) t154 _ A3.out).mono ?_); rintro e w' ⟨rfl,⟨nd,rfl⟩⟩; refine ⟨_,rfl,?_⟩)|(go_at_call 130; (with_reducible refine (wB.calls k 10000 t155 _ A5.out).mono ?_); rintro e w' ⟨rfl,⟨nd,rfl⟩⟩))
   go_meet
   case rel => exact ⟨_,(decide (a0 ≥ t155)),(by first|rfl|(simp;done)|(simp [*];done)),H',⟨by first|omega|exact Nat.le_refl _⟩,by repeat (first|exact Drawn0.refl _|apply Drawn0.step)⟩
 case rest =>
  clear HC2
  try clear c1
  try clear p2
  try clear c4
  try clear c4b0
  obtain ⟨kq,nZ,rfl,HA,HJ1,⟨mc1,rfl⟩⟩:=hcut
  cases kq with
  | zero => exact absurd HA.out (by simp [wD.j0])
  | succ kj1 =>
   have H:=HA.out
   clear HA
   simp only [wD.j0] at H
   by_cases c6 : nZ = true
   ·
    subst c6
    have H1 : (some (0,0,0,30)) = some (r1,r2,r3,r4):=by rw [if_pos rfl] at H; exact H
    clear H
    have H:=H1
    clear H1
    simp only [Option.some.injEq,Prod.mk.injEq] at H
    obtain ⟨rfl,rfl,rfl,rfl⟩:=H
    go_wp2
    refine bodyPost_ret (mX (rs:=[.tmp 2,.tmp 3,.tmp 4,.tmp 5]) rfl (by simp) (.tmp (.tmp (.tmp (.tmp .nil))))) rfl ?_
    exact ⟨by first|rfl|(simp; done)|(simp [*]; done),by repeat (first|exact Drawn0.refl _|apply Drawn0.step)⟩
   ·
    replace c6:=Bool.eq_false_iff.mpr c6
    subst c6
    have H1 : (wD.l0 kj1 a0 (-9999) 9999) = some (r1,r2,r3,r4):=by rw [if_neg (show ¬ (false = true) by decide)] at H; exact H
    clear H
    have H:=H1
    clear H1
    have H':=zZ.mk H
    clear H
    go_wp2
    go_loopg [6,7] kj1 (fun kq v6 v7 w' => ∃ (vS : Int) (uH : Int),v6 = .int .i64 vS ∧ v7 = .int .i64 uH ∧ zZ (wD.l0 kq a0 vS uH = some (r1,r2,r3,r4)) ∧ zZ (kq ≤ kj1) ∧ Drawn0 w w')
    case atStart => exact ⟨((-9999)),(9999),(by first|rfl|(simp;done)|(simp [*];done)),(by first|rfl|(simp;done)|(simp [*];done)),H',⟨Nat.le_refl _⟩,by repeat (first|exact Drawn0.refl _|apply Drawn0.step)⟩
    case round =>
     clear H'
     try clear c1
     try clear p2 p2
     try clear c4
     try clear c4b0
     try clear c6
     obtain ⟨vS,uH,rfl,rfl,HA,HK2,⟨m2,rfl⟩⟩:=hrel
     cases gk with
     | zero => exact absurd HA.out (by simp [wD.l0])
     | succ k2 =>
      have H:=HA.out
      clear HA
      simp only [wD.l0] at H
      by_cases c7 : vS < uH
      ·
       rw [if_pos c7] at H
       have c7b0 : decide (vS < uH) = true:=decide_eq_true c7
       clear c7
       replace H:=Option.bind_eq_some_iff.mp H
       obtain ⟨t156,A80,H⟩:=H
       replace H : (if t156 ≤ a0 then (wD.l0 k2 a0 (wrap64 (vS + (wrap64 (Int.tdiv (wrap64 ((wrap64 (uH - vS)) + 1)) 2)))) uH) else (wD.l0 k2 a0 vS (wrap64 ((wrap64 (vS + (wrap64 (Int.tdiv (wrap64 ((wrap64 (uH - vS)) + 1)) 2)))) - 1)))) = some (r1,r2,r3,r4):=H
       have A8:=zZ.mk A80
       clear A80
       by_cases c9 : t156 ≤ a0
       ·
        rw [if_pos c9] at H
        have c9b0 : decide (t156 ≤ a0) = true:=decide_eq_true c9
        clear c9
        have H':=zZ.mk H
        clear H
        go_wp2_with (first|((with_reducible refine yD (f:=130) rfl ?_); refine yE (some 30) rfl rfl Tryd.func130 (by kernel_rfl) rfl #[.int .i64 (wrap64 (vS + (wrap64 (Int.tdiv (wrap64 ((wrap64 (uH - vS)) + 1)) 2))))] rfl (by (try simp only [List.map_toArray,List.map_cons,List.map_nil]); first|done|rfl|(simp only [List.length_drop,List.length_take]; rfl)) ?_; (with_reducible refine (wB.calls k2 (wrap64 (vS + (wrap64 (Int.tdiv (wrap64 ((wrap64 (uH - vS)) + 1)) 2)))) t156 _ A8.out).mono ?_); rintro e w' ⟨rfl,⟨nd,rfl⟩⟩; refine ⟨_,rfl,?_⟩))
        go_roundg k2
        case measure => have:=HJ1.out; have:=HK2.out; omega
        case rel => exact ⟨(wrap64 (vS + (wrap64 (Int.tdiv (wrap64 ((wrap64 (uH - vS)) + 1)) 2)))),(uH),(by first|rfl|(simp;done)|(simp [*];done)),(by first|rfl|(simp;done)|(simp [*];done)),H',⟨by have:=HJ1.out; have:=HK2.out; omega⟩,by repeat (first|exact Drawn0.refl _|apply Drawn0.step)⟩
       ·
        rw [if_neg c9] at H
        have c9b0 : decide (t156 ≤ a0) = false:=decide_eq_false c9
        clear c9
        have H':=zZ.mk H
        clear H
        go_wp2_with (first|((with_reducible refine yD (f:=130) rfl ?_); refine yE (some 30) rfl rfl Tryd.func130 (by kernel_rfl) rfl #[.int .i64 (wrap64 (vS + (wrap64 (Int.tdiv (wrap64 ((wrap64 (uH - vS)) + 1)) 2))))] rfl (by (try simp only [List.map_toArray,List.map_cons,List.map_nil]); first|done|rfl|(simp only [List.length_drop,List.length_take]; rfl)) ?_; (with_reducible refine (wB.calls k2 (wrap64 (vS + (wrap64 (Int.tdiv (wrap64 ((wrap64 (uH - vS)) + 1)) 2)))) t156 _ A8.out).mono ?_); rintro e w' ⟨rfl,⟨nd,rfl⟩⟩; refine ⟨_,rfl,?_⟩))
        go_roundg k2
        case measure => have:=HJ1.out; have:=HK2.out; omega
        case rel => exact ⟨(vS),(wrap64 ((wrap64 (vS + (wrap64 (Int.tdiv (wrap64 ((wrap64 (uH - vS)) + 1)) 2)))) - 1)),(by first|rfl|(simp;done)|(simp [*];done)),(by first|rfl|(simp;done)|(simp [*];done)),H',⟨by have:=HJ1.out; have:=HK2.out; omega⟩,by repeat (first|exact Drawn0.refl _|apply Drawn0.step)⟩
      ·
       rw [if_neg c7] at H
       have c7b0 : decide (vS < uH) = false:=decide_eq_false c7
       clear c7
       replace H:=Option.bind_eq_some_iff.mp H
       obtain ⟨t157,A100,H⟩:=H
       replace H : (wD.l1 k2 vS (wrap64 (a0 - t157)) 1) = some (r1,r2,r3,r4):=H
       have A10:=zZ.mk A100
       clear A100
       have H':=zZ.mk H
       clear H
       go_wp2_with (first|((with_reducible refine yD (f:=130) rfl ?_); refine yE (some 38) rfl rfl Tryd.func130 (by kernel_rfl) rfl #[.int .i64 vS] rfl (by (try simp only [List.map_toArray,List.map_cons,List.map_nil]); first|done|rfl|(simp only [List.length_drop,List.length_take]; rfl)) ?_; (with_reducible refine (wB.calls k2 vS t157 _ A10.out).mono ?_); rintro e w' ⟨rfl,⟨nd,rfl⟩⟩; refine ⟨_,rfl,?_⟩))
       go_loopg [9,10] k2 (fun kq v9 v10 w' => ∃ (qJ : Int) (rW : Int),v9 = .int .i64 qJ ∧ v10 = .int .i64 rW ∧ zZ (wD.l1 kq vS qJ rW = some (r1,r2,r3,r4)) ∧ zZ (kq ≤ k2) ∧ Drawn0 w w')
       case atStart => exact ⟨(wrap64 (a0 - t157)),(1),(by first|rfl|(simp;done)|(simp [*];done)),(by first|rfl|(simp;done)|(simp [*];done)),H',⟨Nat.le_refl _⟩,by repeat (first|exact Drawn0.refl _|apply Drawn0.step)⟩
       case round =>
        clear H'
        try clear c1
        try clear p2 p2
        try clear c4
        try clear c4b0
        try clear c6
        try clear p6
        try clear c7
        try clear c7b0
        try clear c9
        try clear c9b0
        obtain ⟨qJ,rW,rfl,rfl,HA,HK3,⟨m3,rfl⟩⟩:=hrel
        cases gk with
        | zero => exact absurd HA.out (by simp [wD.l1])
        | succ k3 =>
         have H:=HA.out
         clear HA
         simp only [wD.l1] at H
         replace H:=Option.bind_eq_some_iff.mp H
         obtain ⟨t158,A110,H⟩:=H
         replace H : (if qJ ≥ t158 then ((uD.f k3 vS rW).bind fun t159 => (wD.l1 k3 vS (wrap64 (qJ - t159)) (wrap64 (rW + 1)))) else (some (vS,rW,wrap64 (qJ + 1),0))) = some (r1,r2,r3,r4):=H
         have A11:=zZ.mk A110
         clear A110
         by_cases c12 : qJ ≥ t158
         ·
          rw [if_pos c12] at H
          have c12b0 : decide (t158 ≤ qJ) = true:=decide_eq_true c12
          clear c12
          replace H:=Option.bind_eq_some_iff.mp H
          obtain ⟨t159,A130,H⟩:=H
          replace H : (wD.l1 k3 vS (wrap64 (qJ - t159)) (wrap64 (rW + 1))) = some (r1,r2,r3,r4):=H
          have A13:=zZ.mk A130
          clear A130
          have H':=zZ.mk H
          clear H
          go_wp2_with (first|((with_reducible refine yD (f:=129) rfl ?_); refine yE (some 43) rfl rfl Tryd.func129 (by kernel_rfl) rfl #[.int .i64 vS,.int .i64 rW] rfl (by (try simp only [List.map_toArray,List.map_cons,List.map_nil]); first|done|rfl|(simp only [List.length_drop,List.length_take]; rfl)) ?_; (with_reducible refine (uD.calls k3 vS rW t158 _ A11.out).mono ?_); rintro e w' ⟨rfl,⟨nd,rfl⟩⟩; refine ⟨_,rfl,?_⟩)|((with_reducible refine yD (f:=129) rfl ?_); refine yE (some 48) rfl rfl Tryd.func129 (by kernel_rfl) rfl #[.int .i64 vS,.int .i64 rW] rfl (by (try simp only [List.map_toArray,List.map_cons,List.map_nil]); first|done|rfl|(simp only [List.length_drop,List.length_take]; rfl)) ?_; (with_reducible refine (uD.calls k3 vS rW t159 _ A13.out).mono ?_); rintro e w' ⟨rfl,⟨nd,rfl⟩⟩; refine ⟨_,rfl,?_⟩))
          go_roundg k3
          case measure => have:=HJ1.out; have:=HK2.out; have:=HK3.out; omega
          case rel => exact ⟨(wrap64 (qJ - t159)),(wrap64 (rW + 1)),(by first|rfl|(simp;done)|(simp [*];done)),(by first|rfl|(simp;done)|(simp [*];done)),H',⟨by have:=HJ1.out; have:=HK2.out; have:=HK3.out; omega⟩,by repeat (first|exact Drawn0.refl _|apply Drawn0.step)⟩
         ·
          rw [if_neg c12] at H
          have c12b0 : decide (t158 ≤ qJ) = false:=decide_eq_false c12
          clear c12
          simp only [Option.some.injEq,Prod.mk.injEq] at H
          obtain ⟨rfl,rfl,rfl,rfl⟩:=H
          go_wp2_with (first|((with_reducible refine yD (f:=129) rfl ?_); refine yE (some 43) rfl rfl Tryd.func129 (by kernel_rfl) rfl #[.int .i64 vS,.int .i64 rW] rfl (by (try simp only [List.map_toArray,List.map_cons,List.map_nil]); first|done|rfl|(simp only [List.length_drop,List.length_take]; rfl)) ?_; (with_reducible refine (uD.calls k3 vS rW t158 _ A11.out).mono ?_); rintro e w' ⟨rfl,⟨nd,rfl⟩⟩; refine ⟨_,rfl,?_⟩))
          refine bodyPost_ret (mX (rs:=[.tmp 2,.tmp 3,.tmp 4,.tmp 5]) rfl (by simp) (.tmp (.tmp (.tmp (.tmp .nil))))) rfl ?_
          exact ⟨by first|rfl|(simp; done)|(simp [*]; done),by repeat (first|exact Drawn0.refl _|apply Drawn0.step)⟩
def xI.l0 : Nat → Int → Int → ByteArray → Int → Option (ByteArray)
 | 0,_,_,_,_ => none
 | k + 1,x0,x1,x5,x6 => if x6 < x1 then ((some (([(48 + ((Int.tmod x0 10) % 256)) % 256] : List Int) : List Int)).bind fun y160 => (if (strOfNums y160).size + x5.size ≤ 9223372036854775807 then (xI.l0 k (wrap64 (Int.tdiv x0 10)) x1 ((strOfNums y160) ++ x5) (wrap64 (x6 + 1))) else (none))) else (some x5)
def xI.f (k : Nat) (a0 : Int) (a1 : Int) : Option (ByteArray):=xI.l0 k a0 a1 (⟨#[]⟩ : ByteArray) 0
set_option maxHeartbeats 8000000 in
set_option maxRecDepth 100000 in
theorem xI.calls (k : Nat) (a0 : Int) (a1 : Int) (r : ByteArray) (w : World) (h : xI.f k a0 a1 = some r) :
  Calls Tryd.prog 133 #[.int .i64 a0,.int .i64 a1] w fun e w' => e = .returned (.string r) ∧ Below w.heap.size w w':=by
 have HB:=zZ.mk (Below.refl w.heap.size w)
 have H : (xI.l0 k a0 a1 (⟨#[]⟩ : ByteArray) 0) = some r:=h
 clear h
 have H':=zZ.mk H
 clear H
 go_enter Tryd.func133,Tryd.ntmps133
 go_wp2
 go_loopg [0,5,6] k (fun kq v0 v5 v6 w' => ∃ (pH : Int) (yK : ByteArray) (yH : Int),v0 = .int .i64 pH ∧ v5 = .string yK ∧ v6 = .int .i64 yH ∧ zZ (xI.l0 kq pH a1 yK yH = some r) ∧ zZ (kq ≤ k) ∧ zZ (Below w.heap.size w w'))
 case atStart => exact ⟨(a0),((⟨#[]⟩ : ByteArray)),(0),(by first|rfl|(simp;done)|(simp [*];done)),(by first|rfl|(simp;done)|(simp [*];done)),(by first|rfl|(simp;done)|(simp [*];done)),H',⟨Nat.le_refl _⟩,⟨by repeat (first|(with_reducible first|exact HB.out|apply zY|apply zV|apply zU)|exact HB.out)⟩⟩
 case round =>
  clear H'
  try clear c1
  try clear p2
  obtain ⟨pH,yK,yH,rfl,rfl,rfl,HA,HK1,HB⟩:=hrel
  cases gk with
  | zero => exact absurd HA.out (by simp [xI.l0])
  | succ k1 =>
   have H:=HA.out
   clear HA
   simp only [xI.l0] at H
   by_cases c3 : yH < a1
   ·
    rw [if_pos c3] at H
    have c3b0 : decide (yH < a1) = true:=decide_eq_true c3
    clear c3
    obtain ⟨y160,hy160⟩ : ∃ y_ : List Int,y_ = (([(48 + ((Int.tmod pH 10) % 256)) % 256] : List Int)):=⟨_,rfl⟩
    replace H : (if (strOfNums y160).size + yK.size ≤ 9223372036854775807 then (xI.l0 k1 (wrap64 (Int.tdiv pH 10)) a1 ((strOfNums y160) ++ yK) (wrap64 (yH + 1))) else (none)) = some r:=by first|(rw [hy160]; with_reducible exact H)|(have yA:=(Option.bind_some _ _).symm.trans H; rw [hy160]; with_reducible exact yA)|(have yA:=(Option.bind_some _ _).symm.trans H; with_reducible exact yA)|with_reducible exact H|(rw [hy160]; exact H)|exact H
    have Ny160:=zZ.mk hy160
    clear hy160
    by_cases c4 : (strOfNums y160).size + yK.size ≤ 9223372036854775807
    ·
     rw [if_pos c4] at H
     have c4b0:=eq_true c4
     have c4b1 : decide ((strOfNums y160).size + yK.size ≤ 9223372036854775807) = true:=decide_eq_true c4
     try have c4b2 : (9223372036854775807 < (strOfNums y160).size + yK.size) = False:=eq_false (Nat.not_lt.2 c4)
     have H':=zZ.mk H
     clear H
     go_wp2_with (first|((with_reducible refine uU (N:=16) rfl ?_); refine Kd.R_lit (Kd.int .u8) _ 5 ?hg (N:=16) ?hd (xs:=([(48 + ((Int.tmod pH 10) % 256)) % 256] : List Int)) (inner:=[.int .u8 ((48 + ((Int.tmod pH 10) % 256)) % 256)]) (ok:=fun _ => True) (okp:=fun _ => True) ?hr ?hp (fun _ hk => hk) trivial (Below.refl _ _) (Nat.le_refl _) (by simp) ?_; (case hd => rfl); (case hg => rfl); (case hr => first|(go_simp; done)|(go_simp; rfl)); (case hp => exact (Reps.one (show Kd.M (Kd.int .u8) _ _ _ ((48 + ((Int.tmod pH 10) % 256)) % 256) [.int .u8 ((48 + ((Int.tmod pH 10) % 256)) % 256)] from rfl) (Reps.none _ _))); intro v161 w5 ho6 hb hg_ hnew_; clear hg_ hnew_; (first|rw [← Ny160.out] at ho6|(simp only [Int.reduceToNat] at ho6; rw [← Ny160.out] at ho6)); have zS:=zZ.mk (Kd.R_lower ho6 (xS (by repeat (first|(with_reducible first|exact HB.out|apply zY|apply zV|apply zU)|exact HB.out)))); have zO:=zZ.mk (xW (by repeat (first|(with_reducible first|exact HB.out|apply zY|apply zV|apply zU)|exact HB.out)) hb); clear HB; have HO162:=zS; have HB:=zO; clear zS zO; clear hb ho6; have hcv7:=own_string (P:=Tryd.prog) Tryd.underlying40 Tryd.underlying5 Tryd.underlying9 (Kd.own_of_R HO162.out)))
     go_roundg k1
     case measure => have:=HK1.out; omega
     case rel => exact ⟨(wrap64 (Int.tdiv pH 10)),((strOfNums y160) ++ yK),(wrap64 (yH + 1)),(by first|rfl|(simp;done)|(simp [*];done)),(by first|rfl|(simp;done)|(simp [*];done)),(by first|rfl|(simp;done)|(simp [*];done)),H',⟨by have:=HK1.out; omega⟩,⟨by repeat (first|(with_reducible first|exact HB.out|apply zY|apply zV|apply zU)|exact HB.out)⟩⟩
    ·
     rw [if_neg c4] at H
     exact absurd H (by simp)
   ·
    rw [if_neg c3] at H
    have c3b0 : decide (yH < a1) = false:=decide_eq_false c3
    clear c3
    obtain rfl:=Option.some.inj H
    go_wp2
    go_ret
    exact ⟨by first|rfl|(simp [yG,yF] <;> rfl)|(simp [*,yG,yF] <;> rfl),by repeat (first|(with_reducible first|exact HB.out|apply zY|apply zV|apply zU)|exact HB.out)⟩
def uR.f (k : Nat) (a0 : Int) : Option (ByteArray):=if a0 < 0 then ((xI.f k (wrap64 (-a0)) 4).bind fun t163 => (if 1 + t163.size ≤ 9223372036854775807 then (some ((⟨#[45]⟩ : ByteArray) ++ t163)) else (none))) else ((xI.f k a0 4).bind fun t164 => (some t164))
set_option maxHeartbeats 8000000 in
set_option maxRecDepth 100000 in
theorem uR.calls (k : Nat) (a0 : Int) (r : ByteArray) (w : World) (h : uR.f k a0 = some r) :
  Calls Tryd.prog 132 #[.int .i64 a0] w fun e w' => e = .returned (.string r) ∧ Below w.heap.size w w':=by
 have HB:=zZ.mk (Below.refl w.heap.size w)
 have H : (if a0 < 0 then ((xI.f k (wrap64 (-a0)) 4).bind fun t163 => (if 1 + t163.size ≤ 9223372036854775807 then (some ((⟨#[45]⟩ : ByteArray) ++ t163)) else (none))) else ((xI.f k a0 4).bind fun t164 => (some t164))) = some r:=h
 clear h
 by_cases c2 : a0 < 0
 ·
  rw [if_pos c2] at H
  have c2b0 : decide (a0 < 0) = true:=decide_eq_true c2
  clear c2
  replace H:=Option.bind_eq_some_iff.mp H
  obtain ⟨t163,A30,H⟩:=H
  replace H : (if 1 + t163.size ≤ 9223372036854775807 then (some ((⟨#[45]⟩ : ByteArray) ++ t163)) else (none)) = some r:=H
  have A3:=zZ.mk A30
  clear A30
  by_cases c4 : 1 + t163.size ≤ 9223372036854775807
  ·
   rw [if_pos c4] at H
   have c4b0:=eq_true c4
   have c4b1 : decide (1 + t163.size ≤ 9223372036854775807) = true:=decide_eq_true c4
   try have c4b2 : (9223372036854775807 < 1 + t163.size) = False:=eq_false (Nat.not_lt.2 c4)
   obtain rfl:=Option.some.inj H
   go_enter Tryd.func132,Tryd.ntmps132
   go_wp2_with (first|((with_reducible refine yD (f:=133) rfl ?_); refine yE (some 7) rfl rfl Tryd.func133 (by kernel_rfl) rfl #[.int .i64 (wrap64 (-a0)),.int .i64 4] rfl (by (try simp only [List.map_toArray,List.map_cons,List.map_nil]); first|done|rfl|(simp only [List.length_drop,List.length_take]; rfl)) ?_; (with_reducible refine (xI.calls k (wrap64 (-a0)) 4 t163 _ A3.out).mono ?_); rintro e w5 ⟨rfl,hb⟩; refine ⟨_,rfl,?_⟩; have zS:=zZ.mk (xW (by repeat (first|(with_reducible first|exact HB.out|apply zY|apply zV|apply zU)|exact HB.out)) hb); clear HB; have HB:=zS; clear zS; (try clear hb); (try clear hb2); (try clear hk); (try clear hi)))
   go_ret
   exact ⟨by first|rfl|(simp [yG,yF] <;> rfl)|(simp [*,yG,yF] <;> rfl),by repeat (first|(with_reducible first|exact HB.out|apply zY|apply zV|apply zU)|exact HB.out)⟩
  ·
   rw [if_neg c4] at H
   exact absurd H (by simp)
 ·
  rw [if_neg c2] at H
  have c2b0 : decide (a0 < 0) = false:=decide_eq_false c2
  clear c2
  replace H:=Option.bind_eq_some_iff.mp H
  obtain ⟨t164,A60,H⟩:=H
  replace H : (some t164) = some r:=H
  have A6:=zZ.mk A60
  clear A60
  obtain rfl:=Option.some.inj H
  go_enter Tryd.func132,Tryd.ntmps132
  go_wp2_with (first|((with_reducible refine yD (f:=133) rfl ?_); refine yE (some 10) rfl rfl Tryd.func133 (by kernel_rfl) rfl #[.int .i64 a0,.int .i64 4] rfl (by (try simp only [List.map_toArray,List.map_cons,List.map_nil]); first|done|rfl|(simp only [List.length_drop,List.length_take]; rfl)) ?_; (with_reducible refine (xI.calls k a0 4 t164 _ A6.out).mono ?_); rintro e w7 ⟨rfl,hb⟩; refine ⟨_,rfl,?_⟩; have zS:=zZ.mk (xW (by repeat (first|(with_reducible first|exact HB.out|apply zY|apply zV|apply zU)|exact HB.out)) hb); clear HB; have HB:=zS; clear zS; (try clear hb); (try clear hb2); (try clear hk); (try clear hi)))
  go_ret
  exact ⟨by first|rfl|(simp [yG,yF] <;> rfl)|(simp [*,yG,yF] <;> rfl),by repeat (first|(with_reducible first|exact HB.out|apply zY|apply zV|apply zU)|exact HB.out)⟩
def qR.f (k : Nat) (a0 : Int) : Option (Int × Int × Int):=(wD.f k a0).bind fun bt165 => (if bt165.2.2.2 = 0 then ((vY.f k bt165.1 1 1).bind fun bt169 => (some (bt165.1,wrap64 ((wrap64 (a0 - bt169.1)) + 1),0))) else (some (0,0,30)))
set_option maxHeartbeats 8000000 in
set_option maxRecDepth 100000 in
theorem qR.calls (k : Nat) (a0 : Int) (r1 : Int) (r2 : Int) (r3 : Int) (w : World) (h : qR.f k a0 = some (r1,r2,r3)) :
  Calls Tryd.prog 134 #[.int .i64 a0] w fun e w' => e = .returned (.tuple #[.int .i64 r1,.int .i64 r2,.int .i64 r3]) ∧ Drawn0 w w':=by
 have H : ((wD.f k a0).bind fun bt165 => (if bt165.2.2.2 = 0 then ((vY.f k bt165.1 1 1).bind fun bt169 => (some (bt165.1,wrap64 ((wrap64 (a0 - bt169.1)) + 1),0))) else (some (0,0,30)))) = some (r1,r2,r3):=h
 clear h
 replace H:=Option.bind_eq_some_iff.mp H
 obtain ⟨⟨t165,t166,t167,t168⟩,A20,H⟩:=H
 replace H : (if t168 = 0 then ((vY.f k t165 1 1).bind fun bt169 => (some (t165,wrap64 ((wrap64 (a0 - bt169.1)) + 1),0))) else (some (0,0,30))) = some (r1,r2,r3):=H
 have A2:=zZ.mk A20
 clear A20
 by_cases c3 : t168 = 0
 ·
  rw [if_pos c3] at H
  have c3b0 : (t168 == 0) = true:=beq_iff_eq.mpr c3
  have c3b1 : (t168 != 0) = false:=bne_eq_false_iff_eq.mpr c3
  clear c3
  replace H:=Option.bind_eq_some_iff.mp H
  obtain ⟨⟨t169,t170⟩,A40,H⟩:=H
  replace H : (some (t165,wrap64 ((wrap64 (a0 - t169)) + 1),0)) = some (r1,r2,r3):=H
  have A4:=zZ.mk A40
  clear A40
  simp only [Option.some.injEq,Prod.mk.injEq] at H
  obtain ⟨rfl,rfl,rfl⟩:=H
  go_enter Tryd.func134,Tryd.ntmps134
  go_wp2_with (first|((with_reducible refine yD (f:=131) rfl ?_); refine yE (some 13) rfl rfl Tryd.func131 (by kernel_rfl) rfl #[.int .i64 a0] rfl (by (try simp only [List.map_toArray,List.map_cons,List.map_nil]); first|done|rfl|(simp only [List.length_drop,List.length_take]; rfl)) ?_; (with_reducible refine (wD.calls k a0 t165 t166 t167 t168 _ A2.out).mono ?_); rintro e w' ⟨rfl,⟨nd,rfl⟩⟩; refine ⟨_,rfl,?_⟩)|((with_reducible refine yD (f:=123) rfl ?_); refine yE (some 22) rfl rfl Tryd.func123 (by kernel_rfl) rfl #[.int .i64 t165,.int .i64 1,.int .i64 1] rfl (by (try simp only [List.map_toArray,List.map_cons,List.map_nil]); first|done|rfl|(simp only [List.length_drop,List.length_take]; rfl)) ?_; (with_reducible refine (vY.calls k t165 1 1 t169 t170 _ A4.out).mono ?_); rintro e w' ⟨rfl,⟨nd,rfl⟩⟩; refine ⟨_,rfl,?_⟩))
  go_ret3
  exact ⟨by first|rfl|(simp; done)|(simp [*]; done),by repeat (first|exact Drawn0.refl _|apply Drawn0.step)⟩
 ·
  rw [if_neg c3] at H
  have c3b0 : (t168 == 0) = false:=beq_eq_false_iff_ne.mpr c3
  have c3b1 : (t168 != 0) = true:=bne_iff_ne.mpr c3
  simp only [Option.some.injEq,Prod.mk.injEq] at H
  obtain ⟨rfl,rfl,rfl⟩:=H
  go_enter Tryd.func134,Tryd.ntmps134
  go_wp2_with (first|((with_reducible refine yD (f:=131) rfl ?_); refine yE (some 13) rfl rfl Tryd.func131 (by kernel_rfl) rfl #[.int .i64 a0] rfl (by (try simp only [List.map_toArray,List.map_cons,List.map_nil]); first|done|rfl|(simp only [List.length_drop,List.length_take]; rfl)) ?_; (with_reducible refine (wD.calls k a0 t165 t166 t167 t168 _ A2.out).mono ?_); rintro e w' ⟨rfl,⟨nd,rfl⟩⟩; refine ⟨_,rfl,?_⟩))
  go_ret3
  exact ⟨by first|rfl|(simp; done)|(simp [*]; done),by repeat (first|exact Drawn0.refl _|apply Drawn0.step)⟩
def qX.f (a0 : Int) : Option (Bool):=if a0 ≥ (-9999) then (some (decide (a0 ≤ 9999))) else (some false)
set_option maxHeartbeats 8000000 in
set_option maxRecDepth 100000 in
theorem qX.calls (a0 : Int) (r : Bool) (w : World) (h : qX.f a0 = some r) :
  Calls Tryd.prog 139 #[.int .i64 a0] w fun e w' => e = .returned (.bool r) ∧ Drawn0 w w':=by
 have H : (if a0 ≥ (-9999) then (some (decide (a0 ≤ 9999))) else (some false)) = some r:=h
 clear h
 by_cases c2 : a0 ≥ (-9999)
 ·
  rw [if_pos c2] at H
  have c2b0 : decide ((-9999) ≤ a0) = true:=decide_eq_true c2
  clear c2
  obtain rfl:=Option.some.inj H
  go_enter Tryd.func139,Tryd.ntmps139
  go_wp2
  go_ret
  exact ⟨by first|rfl|(simp; done)|(simp [*]; done),by repeat (first|exact Drawn0.refl _|apply Drawn0.step)⟩
 ·
  rw [if_neg c2] at H
  have c2b0 : decide ((-9999) ≤ a0) = false:=decide_eq_false c2
  clear c2
  obtain rfl:=Option.some.inj H
  go_enter Tryd.func139,Tryd.ntmps139
  go_wp2
  go_ret
  exact ⟨by first|rfl|(simp; done)|(simp [*]; done),by repeat (first|exact Drawn0.refl _|apply Drawn0.step)⟩
def sR.f (a0 : Int) : Option (Int):=if (Int.tmod a0 7) < 0 then (some (wrap64 ((Int.tmod (wrap64 ((wrap64 ((Int.tmod a0 7) + 7)) + 3)) 7) + 1))) else (some (wrap64 ((Int.tmod (wrap64 ((Int.tmod a0 7) + 3)) 7) + 1)))
set_option maxHeartbeats 8000000 in
set_option maxRecDepth 100000 in
theorem sR.calls (a0 : Int) (r : Int) (w : World) (h : sR.f a0 = some r) :
  Calls Tryd.prog 141 #[.int .i64 a0] w fun e w' => e = .returned (.int .i64 r) ∧ Drawn0 w w':=by
 have H : (if (Int.tmod a0 7) < 0 then (some (wrap64 ((Int.tmod (wrap64 ((wrap64 ((Int.tmod a0 7) + 7)) + 3)) 7) + 1))) else (some (wrap64 ((Int.tmod (wrap64 ((Int.tmod a0 7) + 3)) 7) + 1)))) = some r:=h
 clear h
 by_cases c2 : (Int.tmod a0 7) < 0
 ·
  rw [if_pos c2] at H
  have c2b0 : decide ((Int.tmod a0 7) < 0) = true:=decide_eq_true c2
  clear c2
  obtain rfl:=Option.some.inj H
  go_enter Tryd.func141,Tryd.ntmps141
  go_wp2
  go_ret
  exact ⟨by first|rfl|(simp; done)|(simp [*]; done),by repeat (first|exact Drawn0.refl _|apply Drawn0.step)⟩
 ·
  rw [if_neg c2] at H
  have c2b0 : decide ((Int.tmod a0 7) < 0) = false:=decide_eq_false c2
  clear c2
  obtain rfl:=Option.some.inj H
  go_enter Tryd.func141,Tryd.ntmps141
  go_wp2
  go_ret
  exact ⟨by first|rfl|(simp; done)|(simp [*]; done),by repeat (first|exact Drawn0.refl _|apply Drawn0.step)⟩
def sX.f (k : Nat) (a0 : Int) : Option (Int):=(qX.f a0).bind fun t171 => (if t171 = true then ((vY.f k a0 1 4).bind fun bt172 => ((sR.f bt172.1).bind fun t174 => (some (wrap64 ((wrap64 (bt172.1 - t174)) + 1))))) else (if a0 > 9999 then ((vY.f k 9999 12 31).bind fun bt175 => ((sR.f (wrap64 (bt175.1 + 4))).bind fun t177 => (some (wrap64 ((wrap64 ((wrap64 (bt175.1 + 4)) - t177)) + 1))))) else ((sR.f 0).bind fun t178 => (some (wrap64 ((wrap64 (-t178)) + 1))))))
set_option maxHeartbeats 8000000 in
set_option maxRecDepth 100000 in
theorem sX.calls (k : Nat) (a0 : Int) (r : Int) (w : World) (h : sX.f k a0 = some r) :
  Calls Tryd.prog 140 #[.int .i64 a0] w fun e w' => e = .returned (.int .i64 r) ∧ Drawn0 w w':=by
 have H : ((qX.f a0).bind fun t171 => (if t171 = true then ((vY.f k a0 1 4).bind fun bt172 => ((sR.f bt172.1).bind fun t174 => (some (wrap64 ((wrap64 (bt172.1 - t174)) + 1))))) else (if a0 > 9999 then ((vY.f k 9999 12 31).bind fun bt175 => ((sR.f (wrap64 (bt175.1 + 4))).bind fun t177 => (some (wrap64 ((wrap64 ((wrap64 (bt175.1 + 4)) - t177)) + 1))))) else ((sR.f 0).bind fun t178 => (some (wrap64 ((wrap64 (-t178)) + 1))))))) = some r:=h
 clear h
 replace H:=Option.bind_eq_some_iff.mp H
 obtain ⟨t171,A20,H⟩:=H
 replace H : (if t171 = true then ((vY.f k a0 1 4).bind fun bt172 => ((sR.f bt172.1).bind fun t174 => (some (wrap64 ((wrap64 (bt172.1 - t174)) + 1))))) else (if a0 > 9999 then ((vY.f k 9999 12 31).bind fun bt175 => ((sR.f (wrap64 (bt175.1 + 4))).bind fun t177 => (some (wrap64 ((wrap64 ((wrap64 (bt175.1 + 4)) - t177)) + 1))))) else ((sR.f 0).bind fun t178 => (some (wrap64 ((wrap64 (-t178)) + 1)))))) = some r:=H
 have A2:=zZ.mk A20
 clear A20
 by_cases c3 : t171 = true
 ·
  subst c3
  have H1 : ((vY.f k a0 1 4).bind fun bt172 => ((sR.f bt172.1).bind fun t174 => (some (wrap64 ((wrap64 (bt172.1 - t174)) + 1))))) = some r:=by rw [if_pos rfl] at H; exact H
  clear H
  have H:=H1
  clear H1
  replace H:=Option.bind_eq_some_iff.mp H
  obtain ⟨⟨t172,t173⟩,A40,H⟩:=H
  replace H : ((sR.f t172).bind fun t174 => (some (wrap64 ((wrap64 (t172 - t174)) + 1)))) = some r:=H
  have A4:=zZ.mk A40
  clear A40
  replace H:=Option.bind_eq_some_iff.mp H
  obtain ⟨t174,A50,H⟩:=H
  replace H : (some (wrap64 ((wrap64 (t172 - t174)) + 1))) = some r:=H
  have A5:=zZ.mk A50
  clear A50
  obtain rfl:=Option.some.inj H
  go_enter Tryd.func140,Tryd.ntmps140
  go_wp2_with (first|((with_reducible refine yD (f:=139) rfl ?_); refine yE (some 5) rfl rfl Tryd.func139 (by kernel_rfl) rfl #[.int .i64 a0] rfl (by (try simp only [List.map_toArray,List.map_cons,List.map_nil]); first|done|rfl|(simp only [List.length_drop,List.length_take]; rfl)) ?_; (with_reducible refine (qX.calls a0 true _ A2.out).mono ?_); rintro e w' ⟨rfl,⟨nd,rfl⟩⟩; refine ⟨_,rfl,?_⟩)|((with_reducible refine yD (f:=123) rfl ?_); refine yE (some 8) rfl rfl Tryd.func123 (by kernel_rfl) rfl #[.int .i64 a0,.int .i64 1,.int .i64 4] rfl (by (try simp only [List.map_toArray,List.map_cons,List.map_nil]); first|done|rfl|(simp only [List.length_drop,List.length_take]; rfl)) ?_; (with_reducible refine (vY.calls k a0 1 4 t172 t173 _ A4.out).mono ?_); rintro e w' ⟨rfl,⟨nd,rfl⟩⟩; refine ⟨_,rfl,?_⟩)|((with_reducible refine yD (f:=141) rfl ?_); refine yE (some 21) rfl rfl Tryd.func141 (by kernel_rfl) rfl #[.int .i64 t172] rfl (by (try simp only [List.map_toArray,List.map_cons,List.map_nil]); first|done|rfl|(simp only [List.length_drop,List.length_take]; rfl)) ?_; (with_reducible refine (sR.calls t172 t174 _ A5.out).mono ?_); rintro e w' ⟨rfl,⟨nd,rfl⟩⟩; refine ⟨_,rfl,?_⟩))
  go_ret
  exact ⟨by first|rfl|(simp; done)|(simp [*]; done),by repeat (first|exact Drawn0.refl _|apply Drawn0.step)⟩
 ·
  replace c3:=Bool.eq_false_iff.mpr c3
  subst c3
  have H1 : (if a0 > 9999 then ((vY.f k 9999 12 31).bind fun bt175 => ((sR.f (wrap64 (bt175.1 + 4))).bind fun t177 => (some (wrap64 ((wrap64 ((wrap64 (bt175.1 + 4)) - t177)) + 1))))) else ((sR.f 0).bind fun t178 => (some (wrap64 ((wrap64 (-t178)) + 1))))) = some r:=by rw [if_neg (show ¬ (false = true) by decide)] at H; exact H
  clear H
  have H:=H1
  clear H1
  by_cases c6 : a0 > 9999
  ·
   rw [if_pos c6] at H
   have c6b0 : decide (9999 < a0) = true:=decide_eq_true c6
   clear c6
   replace H:=Option.bind_eq_some_iff.mp H
   obtain ⟨⟨t175,t176⟩,A70,H⟩:=H
   replace H : ((sR.f (wrap64 (t175 + 4))).bind fun t177 => (some (wrap64 ((wrap64 ((wrap64 (t175 + 4)) - t177)) + 1)))) = some r:=H
   have A7:=zZ.mk A70
   clear A70
   replace H:=Option.bind_eq_some_iff.mp H
   obtain ⟨t177,A80,H⟩:=H
   replace H : (some (wrap64 ((wrap64 ((wrap64 (t175 + 4)) - t177)) + 1))) = some r:=H
   have A8:=zZ.mk A80
   clear A80
   obtain rfl:=Option.some.inj H
   go_enter Tryd.func140,Tryd.ntmps140
   go_wp2_with (first|((with_reducible refine yD (f:=139) rfl ?_); refine yE (some 5) rfl rfl Tryd.func139 (by kernel_rfl) rfl #[.int .i64 a0] rfl (by (try simp only [List.map_toArray,List.map_cons,List.map_nil]); first|done|rfl|(simp only [List.length_drop,List.length_take]; rfl)) ?_; (with_reducible refine (qX.calls a0 false _ A2.out).mono ?_); rintro e w' ⟨rfl,⟨nd,rfl⟩⟩; refine ⟨_,rfl,?_⟩)|((with_reducible refine yD (f:=123) rfl ?_); refine yE (some 14) rfl rfl Tryd.func123 (by kernel_rfl) rfl #[.int .i64 9999,.int .i64 12,.int .i64 31] rfl (by (try simp only [List.map_toArray,List.map_cons,List.map_nil]); first|done|rfl|(simp only [List.length_drop,List.length_take]; rfl)) ?_; (with_reducible refine (vY.calls k 9999 12 31 t175 t176 _ A7.out).mono ?_); rintro e w' ⟨rfl,⟨nd,rfl⟩⟩; refine ⟨_,rfl,?_⟩)|((with_reducible refine yD (f:=141) rfl ?_); refine yE (some 21) rfl rfl Tryd.func141 (by kernel_rfl) rfl #[.int .i64 (wrap64 (t175 + 4))] rfl (by (try simp only [List.map_toArray,List.map_cons,List.map_nil]); first|done|rfl|(simp only [List.length_drop,List.length_take]; rfl)) ?_; (with_reducible refine (sR.calls (wrap64 (t175 + 4)) t177 _ A8.out).mono ?_); rintro e w' ⟨rfl,⟨nd,rfl⟩⟩; refine ⟨_,rfl,?_⟩))
   go_ret
   exact ⟨by first|rfl|(simp; done)|(simp [*]; done),by repeat (first|exact Drawn0.refl _|apply Drawn0.step)⟩
  ·
   rw [if_neg c6] at H
   have c6b0 : decide (9999 < a0) = false:=decide_eq_false c6
   clear c6
   replace H:=Option.bind_eq_some_iff.mp H
   obtain ⟨t178,A90,H⟩:=H
   replace H : (some (wrap64 ((wrap64 (-t178)) + 1))) = some r:=H
   have A9:=zZ.mk A90
   clear A90
   obtain rfl:=Option.some.inj H
   go_enter Tryd.func140,Tryd.ntmps140
   go_wp2_with (first|((with_reducible refine yD (f:=139) rfl ?_); refine yE (some 5) rfl rfl Tryd.func139 (by kernel_rfl) rfl #[.int .i64 a0] rfl (by (try simp only [List.map_toArray,List.map_cons,List.map_nil]); first|done|rfl|(simp only [List.length_drop,List.length_take]; rfl)) ?_; (with_reducible refine (qX.calls a0 false _ A2.out).mono ?_); rintro e w' ⟨rfl,⟨nd,rfl⟩⟩; refine ⟨_,rfl,?_⟩)|((with_reducible refine yD (f:=141) rfl ?_); refine yE (some 21) rfl rfl Tryd.func141 (by kernel_rfl) rfl #[.int .i64 0] rfl (by (try simp only [List.map_toArray,List.map_cons,List.map_nil]); first|done|rfl|(simp only [List.length_drop,List.length_take]; rfl)) ?_; (with_reducible refine (sR.calls 0 t178 _ A9.out).mono ?_); rintro e w' ⟨rfl,⟨nd,rfl⟩⟩; refine ⟨_,rfl,?_⟩))
   go_ret
   exact ⟨by first|rfl|(simp; done)|(simp [*]; done),by repeat (first|exact Drawn0.refl _|apply Drawn0.step)⟩
def vK.l0 : Nat → Int → Int → Int → Option (Int × Int × Int × Int)
 | 0,_,_,_ => none
 | k + 1,x0,x6,x10 => if x10 ≤ (wrap64 (x6 + 1)) then ((qX.f x10).bind fun t183 => (if t183 = true then ((sX.f k x10).bind fun t184 => (if x0 ≥ t184 then ((sX.f k (wrap64 (x10 + 1))).bind fun t185 => (if x0 < t185 then ((sX.f k x10).bind fun t186 => (some (x10,wrap64 ((wrap64 (Int.tdiv (wrap64 (x0 - t186)) 7)) + 1),wrap64 ((Int.tmod (wrap64 (x0 - t186)) 7) + 1),0))) else (vK.l0 k x0 x6 (wrap64 (x10 + 1))))) else (vK.l0 k x0 x6 (wrap64 (x10 + 1))))) else (vK.l0 k x0 x6 (wrap64 (x10 + 1))))) else (some (0,0,0,30))
def vK.f (k : Nat) (a0 : Int) : Option (Int × Int × Int × Int):=(wD.f k a0).bind fun bt179 => (if bt179.2.2.2 = 0 then (vK.l0 k a0 bt179.1 (wrap64 (bt179.1 - 1))) else (some (0,0,0,30)))
set_option maxHeartbeats 8000000 in
set_option maxRecDepth 100000 in
theorem vK.calls (k : Nat) (a0 : Int) (r1 : Int) (r2 : Int) (r3 : Int) (r4 : Int) (w : World) (h : vK.f k a0 = some (r1,r2,r3,r4)) :
  Calls Tryd.prog 135 #[.int .i64 a0] w fun e w' => e = .returned (.tuple #[.int .i64 r1,.int .i64 r2,.int .i64 r3,.int .i64 r4]) ∧ Drawn0 w w':=by
 have H : ((wD.f k a0).bind fun bt179 => (if bt179.2.2.2 = 0 then (vK.l0 k a0 bt179.1 (wrap64 (bt179.1 - 1))) else (some (0,0,0,30)))) = some (r1,r2,r3,r4):=h
 clear h
 replace H:=Option.bind_eq_some_iff.mp H
 obtain ⟨⟨t179,t180,t181,t182⟩,A20,H⟩:=H
 replace H : (if t182 = 0 then (vK.l0 k a0 t179 (wrap64 (t179 - 1))) else (some (0,0,0,30))) = some (r1,r2,r3,r4):=H
 have A2:=zZ.mk A20
 clear A20
 by_cases c3 : t182 = 0
 ·
  rw [if_pos c3] at H
  have c3b0 : (t182 == 0) = true:=beq_iff_eq.mpr c3
  have c3b1 : (t182 != 0) = false:=bne_eq_false_iff_eq.mpr c3
  clear c3
  have H':=zZ.mk H
  clear H
  go_enter Tryd.func135,Tryd.ntmps135
  go_wp2_with (first|((with_reducible refine yD (f:=131) rfl ?_); refine yE (some 14) rfl rfl Tryd.func131 (by kernel_rfl) rfl #[.int .i64 a0] rfl (by (try simp only [List.map_toArray,List.map_cons,List.map_nil]); first|done|rfl|(simp only [List.length_drop,List.length_take]; rfl)) ?_; (with_reducible refine (wD.calls k a0 t179 t180 t181 t182 _ A2.out).mono ?_); rintro e w' ⟨rfl,⟨nd,rfl⟩⟩; refine ⟨_,rfl,?_⟩))
  go_loopg [10] k (fun kq v10 w' => ∃ (wF : Int),v10 = .int .i64 wF ∧ zZ (vK.l0 kq a0 t179 wF = some (r1,r2,r3,r4)) ∧ zZ (kq ≤ k) ∧ Drawn0 w w')
  case atStart => exact ⟨(wrap64 (t179 - 1)),(by first|rfl|(simp;done)|(simp [*];done)),H',⟨Nat.le_refl _⟩,by repeat (first|exact Drawn0.refl _|apply Drawn0.step)⟩
  case round =>
   clear H'
   try clear c1
   try clear p2
   try clear c3
   try clear c3b0
   try clear c3b1
   obtain ⟨wF,rfl,HA,HK1,⟨m1,rfl⟩⟩:=hrel
   cases gk with
   | zero => exact absurd HA.out (by simp [vK.l0])
   | succ k1 =>
    have H:=HA.out
    clear HA
    simp only [vK.l0] at H
    by_cases c4 : wF ≤ (wrap64 (t179 + 1))
    ·
     rw [if_pos c4] at H
     have c4b0 : decide (wF ≤ (wrap64 (t179 + 1))) = true:=decide_eq_true c4
     clear c4
     replace H:=Option.bind_eq_some_iff.mp H
     obtain ⟨t183,A50,H⟩:=H
     replace H : (if t183 = true then ((sX.f k1 wF).bind fun t184 => (if a0 ≥ t184 then ((sX.f k1 (wrap64 (wF + 1))).bind fun t185 => (if a0 < t185 then ((sX.f k1 wF).bind fun t186 => (some (wF,wrap64 ((wrap64 (Int.tdiv (wrap64 (a0 - t186)) 7)) + 1),wrap64 ((Int.tmod (wrap64 (a0 - t186)) 7) + 1),0))) else (vK.l0 k1 a0 t179 (wrap64 (wF + 1))))) else (vK.l0 k1 a0 t179 (wrap64 (wF + 1))))) else (vK.l0 k1 a0 t179 (wrap64 (wF + 1)))) = some (r1,r2,r3,r4):=H
     have A5:=zZ.mk A50
     clear A50
     by_cases c6 : t183 = true
     ·
      subst c6
      have H1 : ((sX.f k1 wF).bind fun t184 => (if a0 ≥ t184 then ((sX.f k1 (wrap64 (wF + 1))).bind fun t185 => (if a0 < t185 then ((sX.f k1 wF).bind fun t186 => (some (wF,wrap64 ((wrap64 (Int.tdiv (wrap64 (a0 - t186)) 7)) + 1),wrap64 ((Int.tmod (wrap64 (a0 - t186)) 7) + 1),0))) else (vK.l0 k1 a0 t179 (wrap64 (wF + 1))))) else (vK.l0 k1 a0 t179 (wrap64 (wF + 1))))) = some (r1,r2,r3,r4):=by rw [if_pos rfl] at H; exact H
      clear H
      have H:=H1
      clear H1
      replace H:=Option.bind_eq_some_iff.mp H
      obtain ⟨t184,A70,H⟩:=H
      replace H : (if a0 ≥ t184 then ((sX.f k1 (wrap64 (wF + 1))).bind fun t185 => (if a0 < t185 then ((sX.f k1 wF).bind fun t186 => (some (wF,wrap64 ((wrap64 (Int.tdiv (wrap64 (a0 - t186)) 7)) + 1),wrap64 ((Int.tmod (wrap64 (a0 - t186)) 7) + 1),0))) else (vK.l0 k1 a0 t179 (wrap64 (wF + 1))))) else (vK.l0 k1 a0 t179 (wrap64 (wF + 1)))) = some (r1,r2,r3,r4):=H
      have A7:=zZ.mk A70
      clear A70
      by_cases c8 : a0 ≥ t184
      ·
       rw [if_pos c8] at H
       have c8b0 : decide (t184 ≤ a0) = true:=decide_eq_true c8
       clear c8
       replace H:=Option.bind_eq_some_iff.mp H
       obtain ⟨t185,A90,H⟩:=H
       replace H : (if a0 < t185 then ((sX.f k1 wF).bind fun t186 => (some (wF,wrap64 ((wrap64 (Int.tdiv (wrap64 (a0 - t186)) 7)) + 1),wrap64 ((Int.tmod (wrap64 (a0 - t186)) 7) + 1),0))) else (vK.l0 k1 a0 t179 (wrap64 (wF + 1)))) = some (r1,r2,r3,r4):=H
       have A9:=zZ.mk A90
       clear A90
       by_cases c10 : a0 < t185
       ·
        rw [if_pos c10] at H
        have c10b0 : decide (a0 < t185) = true:=decide_eq_true c10
        clear c10
        replace H:=Option.bind_eq_some_iff.mp H
        obtain ⟨t186,A110,H⟩:=H
        replace H : (some (wF,wrap64 ((wrap64 (Int.tdiv (wrap64 (a0 - t186)) 7)) + 1),wrap64 ((Int.tmod (wrap64 (a0 - t186)) 7) + 1),0)) = some (r1,r2,r3,r4):=H
        have A11:=zZ.mk A110
        clear A110
        simp only [Option.some.injEq,Prod.mk.injEq] at H
        obtain ⟨rfl,rfl,rfl,rfl⟩:=H
        go_wp2_with (first|((with_reducible refine yD (f:=139) rfl ?_); refine yE (some 30) rfl rfl Tryd.func139 (by kernel_rfl) rfl #[.int .i64 wF] rfl (by (try simp only [List.map_toArray,List.map_cons,List.map_nil]); first|done|rfl|(simp only [List.length_drop,List.length_take]; rfl)) ?_; (with_reducible refine (qX.calls wF true _ A5.out).mono ?_); rintro e w' ⟨rfl,⟨nd,rfl⟩⟩; refine ⟨_,rfl,?_⟩)|(go_at_call 140; (with_reducible refine (sX.calls k1 wF t184 _ A7.out).mono ?_); rintro e w' ⟨rfl,⟨nd,rfl⟩⟩)|(go_at_call 140; (with_reducible refine (sX.calls k1 (wrap64 (wF + 1)) t185 _ A9.out).mono ?_); rintro e w' ⟨rfl,⟨nd,rfl⟩⟩)|((with_reducible refine yD (f:=140) rfl ?_); refine yE (some 46) rfl rfl Tryd.func140 (by kernel_rfl) rfl #[.int .i64 wF] rfl (by (try simp only [List.map_toArray,List.map_cons,List.map_nil]); first|done|rfl|(simp only [List.length_drop,List.length_take]; rfl)) ?_; (with_reducible refine (sX.calls k1 wF t186 _ A11.out).mono ?_); rintro e w' ⟨rfl,⟨nd,rfl⟩⟩; refine ⟨_,rfl,?_⟩))
        refine bodyPost_ret (mX (rs:=[.tmp 2,.tmp 3,.tmp 4,.tmp 5]) rfl (by simp) (.tmp (.tmp (.tmp (.tmp .nil))))) rfl ?_
        exact ⟨by first|rfl|(simp; done)|(simp [*]; done),by repeat (first|exact Drawn0.refl _|apply Drawn0.step)⟩
       ·
        rw [if_neg c10] at H
        have c10b0 : decide (a0 < t185) = false:=decide_eq_false c10
        clear c10
        have H':=zZ.mk H
        clear H
        go_wp2_with (first|((with_reducible refine yD (f:=139) rfl ?_); refine yE (some 30) rfl rfl Tryd.func139 (by kernel_rfl) rfl #[.int .i64 wF] rfl (by (try simp only [List.map_toArray,List.map_cons,List.map_nil]); first|done|rfl|(simp only [List.length_drop,List.length_take]; rfl)) ?_; (with_reducible refine (qX.calls wF true _ A5.out).mono ?_); rintro e w' ⟨rfl,⟨nd,rfl⟩⟩; refine ⟨_,rfl,?_⟩)|(go_at_call 140; (with_reducible refine (sX.calls k1 wF t184 _ A7.out).mono ?_); rintro e w' ⟨rfl,⟨nd,rfl⟩⟩)|(go_at_call 140; (with_reducible refine (sX.calls k1 (wrap64 (wF + 1)) t185 _ A9.out).mono ?_); rintro e w' ⟨rfl,⟨nd,rfl⟩⟩))
        go_roundg k1
        case measure => have:=HK1.out; omega
        case rel => exact ⟨(wrap64 (wF + 1)),(by first|rfl|(simp;done)|(simp [*];done)),H',⟨by have:=HK1.out; omega⟩,by repeat (first|exact Drawn0.refl _|apply Drawn0.step)⟩
      ·
       rw [if_neg c8] at H
       have c8b0 : decide (t184 ≤ a0) = false:=decide_eq_false c8
       clear c8
       have H':=zZ.mk H
       clear H
       go_wp2_with (first|((with_reducible refine yD (f:=139) rfl ?_); refine yE (some 30) rfl rfl Tryd.func139 (by kernel_rfl) rfl #[.int .i64 wF] rfl (by (try simp only [List.map_toArray,List.map_cons,List.map_nil]); first|done|rfl|(simp only [List.length_drop,List.length_take]; rfl)) ?_; (with_reducible refine (qX.calls wF true _ A5.out).mono ?_); rintro e w' ⟨rfl,⟨nd,rfl⟩⟩; refine ⟨_,rfl,?_⟩)|(go_at_call 140; (with_reducible refine (sX.calls k1 wF t184 _ A7.out).mono ?_); rintro e w' ⟨rfl,⟨nd,rfl⟩⟩))
       go_roundg k1
       case measure => have:=HK1.out; omega
       case rel => exact ⟨(wrap64 (wF + 1)),(by first|rfl|(simp;done)|(simp [*];done)),H',⟨by have:=HK1.out; omega⟩,by repeat (first|exact Drawn0.refl _|apply Drawn0.step)⟩
     ·
      replace c6:=Bool.eq_false_iff.mpr c6
      subst c6
      have H1 : (vK.l0 k1 a0 t179 (wrap64 (wF + 1))) = some (r1,r2,r3,r4):=by rw [if_neg (show ¬ (false = true) by decide)] at H; exact H
      clear H
      have H:=H1
      clear H1
      have H':=zZ.mk H
      clear H
      go_wp2_with (first|((with_reducible refine yD (f:=139) rfl ?_); refine yE (some 30) rfl rfl Tryd.func139 (by kernel_rfl) rfl #[.int .i64 wF] rfl (by (try simp only [List.map_toArray,List.map_cons,List.map_nil]); first|done|rfl|(simp only [List.length_drop,List.length_take]; rfl)) ?_; (with_reducible refine (qX.calls wF false _ A5.out).mono ?_); rintro e w' ⟨rfl,⟨nd,rfl⟩⟩; refine ⟨_,rfl,?_⟩))
      go_roundg k1
      case measure => have:=HK1.out; omega
      case rel => exact ⟨(wrap64 (wF + 1)),(by first|rfl|(simp;done)|(simp [*];done)),H',⟨by have:=HK1.out; omega⟩,by repeat (first|exact Drawn0.refl _|apply Drawn0.step)⟩
    ·
     rw [if_neg c4] at H
     have c4b0 : decide (wF ≤ (wrap64 (t179 + 1))) = false:=decide_eq_false c4
     clear c4
     simp only [Option.some.injEq,Prod.mk.injEq] at H
     obtain ⟨rfl,rfl,rfl,rfl⟩:=H
     go_wp2
     refine bodyPost_ret (mX (rs:=[.tmp 2,.tmp 3,.tmp 4,.tmp 5]) rfl (by simp) (.tmp (.tmp (.tmp (.tmp .nil))))) rfl ?_
     exact ⟨by first|rfl|(simp; done)|(simp [*]; done),by repeat (first|exact Drawn0.refl _|apply Drawn0.step)⟩
 ·
  rw [if_neg c3] at H
  have c3b0 : (t182 == 0) = false:=beq_eq_false_iff_ne.mpr c3
  have c3b1 : (t182 != 0) = true:=bne_iff_ne.mpr c3
  simp only [Option.some.injEq,Prod.mk.injEq] at H
  obtain ⟨rfl,rfl,rfl,rfl⟩:=H
  go_enter Tryd.func135,Tryd.ntmps135
  go_wp2_with (first|((with_reducible refine yD (f:=131) rfl ?_); refine yE (some 14) rfl rfl Tryd.func131 (by kernel_rfl) rfl #[.int .i64 a0] rfl (by (try simp only [List.map_toArray,List.map_cons,List.map_nil]); first|done|rfl|(simp only [List.length_drop,List.length_take]; rfl)) ?_; (with_reducible refine (wD.calls k a0 t179 t180 t181 t182 _ A2.out).mono ?_); rintro e w' ⟨rfl,⟨nd,rfl⟩⟩; refine ⟨_,rfl,?_⟩))
  refine bodyPost_ret (mX (rs:=[.tmp 2,.tmp 3,.tmp 4,.tmp 5]) rfl (by simp) (.tmp (.tmp (.tmp (.tmp .nil))))) rfl ?_
  exact ⟨by first|rfl|(simp; done)|(simp [*]; done),by repeat (first|exact Drawn0.refl _|apply Drawn0.step)⟩
end Go.Proofs.YtjeofffddbibeaaDoor.PParseTells
end
