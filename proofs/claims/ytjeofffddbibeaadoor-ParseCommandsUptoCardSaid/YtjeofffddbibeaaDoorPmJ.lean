/-
 Part 10 of what the row stands on,put together by a program: Awb,PdW,Has,PLaid,CmdP.
-/
import Derived.LaidMore
import Derived.Lay
import Derived.OpenShut
import Derived.ProofKit
import Derived.Shelf.Vars
import Derived.SliceStrings
import Derived.Stop.Joined
import Derived.Test.YtjeofffddbibeaaDoorRows
import Derived.Test.YtjeofffddbibeaaDoorPmI
set_option linter.unusedVariables false
set_option linter.unusedSimpArgs false
section
namespace Go.Proofs.YtjeofffddbibeaaDoor.Pa
open Go Go.RowKit PParseTells Ex YtjeofffddbibeaaDoorW.PrintWords YtjeofffddbibeaaDoorW.PrintLast YtjeofffddbibeaaDoorW.PrintMore
structure AwF (w W : World) (b1 b2 b5 b8 b6 : Nat) (A2 : Option Addr) (c2 : Nat) (A3 : Option Addr) (c3 : Nat) (B2 : Option Addr) (d2 : Nat) (B3 : Option Addr) (d3 : Nat) (s1 s2 : Nat) : Prop where
 bx1 : Bx b1 ⟨0,⟨#[100,97,121]⟩,[],[]⟩ none 0 none 0 W
 bx2 : Bx b2 ⟨1,nil8,[3],[⟨0,⟨#[100,97,121]⟩,[],[]⟩]⟩ A2 c2 A3 c3 W
 bx5 : Bx b5 ⟨10,nil8,[],[⟨0,⟨#[97]⟩,[],[]⟩,⟨2,nil8,[-1],[⟨0,⟨#[98]⟩,[],[]⟩]⟩]⟩ B2 d2 B3 d3 W
 bx8 : Bx b8 ⟨10,nil8,[],[⟨0,⟨#[97]⟩,[],[]⟩,⟨2,nil8,[-1],[⟨0,⟨#[98]⟩,[],[]⟩]⟩]⟩ none 0 (some ⟨b6,0,none⟩) 2 W
 r3 : W.heap[s1]? = some (.cells #[.int .i64 3] 2 (0,0))
 rd : W.heap[s2]? = some (.cells #[.int .u8 0,.string ⟨#[100,97,121]⟩,.slice none 0 0,.slice none 0 0] TX (0,0))
 hb : Below w.heap.size w W
theorem tW {W W2 : World} {k : Nat} {o : Obj} (hb : Below W.heap.size W W2) (h : W.heap[k]? = some o) : W2.heap[k]? = some o:=(hb.block k (wT h)).trans h
abbrev xDay : X:=⟨0,⟨#[100,97,121]⟩,[],[]⟩
abbrev xA : X:=⟨0,⟨#[97]⟩,[],[]⟩
abbrev xB : X:=⟨0,⟨#[98]⟩,[],[]⟩
abbrev xSh : X:=⟨2,nil8,[-1],[xB]⟩
abbrev xOne : X:=⟨1,nil8,[3],[xDay]⟩
abbrev xTwo : X:=⟨10,nil8,[],[xA,xSh]⟩
set_option maxHeartbeats 16000000 in
set_option maxRecDepth 100000 in
theorem awake_calls (w : World) (hL : Cal w) : Calls Tryd.prog 31 #[] w fun e w' => e = .returned (.bool true) ∧ Below w.heap.size w w':=by
 have HL:=zZ.mk hL
 clear hL
 go_enter Tryd.func31,Tryd.ntmps31
 go_wp2_with fail
 refine (Named_to ⟨#[100,97,121]⟩ _).mono ?_
 rintro e w1 ⟨rfl,hb1⟩
 have HB:=zZ.mk (zY hb1 (.cells #[.int .u8 xDay.f0,.string xDay.f1,.slice none xDay.f2.length 0,.slice none xDay.f3.length 0] TX))
 have bx1:=zZ.mk (Bx.new (K_named w1 ⟨#[100,97,121]⟩))
 clear hb1
 go_wp2_with fail
 refine (lineE _ _ _ _ ex1_w ex1_p _ ?c1).mono ?_
 case c1 => exact HL.out.l HB.out
 rintro e w2 ⟨A2,c2,A3,c3,rfl,hk2,hb2⟩
 have bx1:=zZ.mk (bx1.out.later hb2)
 have HB:=zZ.mk (xN HB.out HB.out.size hb2)
 have bx2:=zZ.mk (Bx.new hk2)
 have bx1:=zZ.mk (bx1.out.later (zY (Below.refl _ _) (.cells #[.int .u8 xOne.f0,.string xOne.f1,.slice A2 xOne.f2.length c2,.slice A3 xOne.f3.length c3] TX)))
 have HB:=zZ.mk (zY HB.out (.cells #[.int .u8 xOne.f0,.string xOne.f1,.slice A2 xOne.f2.length c2,.slice A3 xOne.f3.length c3] TX))
 clear hk2 hb2
 go_wp2_with fail
 refine (lineE _ _ _ _ ex2_w ex2_p _ ?c2).mono ?_
 case c2 => exact HL.out.l HB.out
 rintro e w3 ⟨B2,d2,B3,d3,rfl,hk3,hb3⟩
 have bx1:=zZ.mk (bx1.out.later hb3)
 have bx2:=zZ.mk (bx2.out.later hb3)
 have HB:=zZ.mk (xN HB.out HB.out.size hb3)
 have bx5:=zZ.mk (Bx.new hk3)
 have bx1:=zZ.mk (bx1.out.later (zY (Below.refl _ _) (.cells #[.int .u8 xTwo.f0,.string xTwo.f1,.slice B2 xTwo.f2.length d2,.slice B3 xTwo.f3.length d3] TX)))
 have bx2:=zZ.mk (bx2.out.later (zY (Below.refl _ _) (.cells #[.int .u8 xTwo.f0,.string xTwo.f1,.slice B2 xTwo.f2.length d2,.slice B3 xTwo.f3.length d3] TX)))
 have HB:=zZ.mk (zY HB.out (.cells #[.int .u8 xTwo.f0,.string xTwo.f1,.slice B2 xTwo.f2.length d2,.slice B3 xTwo.f3.length d3] TX))
 clear hk3 hb3
 go_wp2_with fail
 refine (Named_to ⟨#[97]⟩ _).mono ?_
 rintro e w4 ⟨rfl,hb4⟩
 have bx1:=zZ.mk (bx1.out.later hb4)
 have bx2:=zZ.mk (bx2.out.later hb4)
 have bx5:=zZ.mk (bx5.out.later hb4)
 have HB:=zZ.mk (zY (xN HB.out HB.out.size hb4) (.cells #[.int .i64 (-1)] 2))
 have r1:=zZ.mk (wP w4 (.cells #[.int .i64 (-1)] 2))
 clear hb4
 have bx1:=zZ.mk (bx1.out.later (zY (Below.refl _ _) (.cells #[.int .i64 (-1)] 2)))
 have bx2:=zZ.mk (bx2.out.later (zY (Below.refl _ _) (.cells #[.int .i64 (-1)] 2)))
 have bx5:=zZ.mk (bx5.out.later (zY (Below.refl _ _) (.cells #[.int .i64 (-1)] 2)))
 go_wp2_with fail
 refine (Named_to ⟨#[98]⟩ _).mono ?_
 rintro e w5 ⟨rfl,hb5⟩
 have bx1:=zZ.mk (bx1.out.later hb5)
 have bx2:=zZ.mk (bx2.out.later hb5)
 have bx5:=zZ.mk (bx5.out.later hb5)
 have r1:=zZ.mk (zR (tW hb5 r1.out) (.cells #[.int .u8 0,.string ⟨#[98]⟩,.slice none 0 0,.slice none 0 0] TX))
 have rb:=zZ.mk (wP w5 (.cells #[.int .u8 0,.string ⟨#[98]⟩,.slice none 0 0,.slice none 0 0] TX))
 have HB:=zZ.mk (zY (xN HB.out HB.out.size hb5) (.cells #[.int .u8 0,.string ⟨#[98]⟩,.slice none 0 0,.slice none 0 0] TX))
 clear hb5
 have bx1:=zZ.mk (bx1.out.later (zY (Below.refl _ _) (.cells #[.int .u8 0,.string ⟨#[98]⟩,.slice none 0 0,.slice none 0 0] TX)))
 have bx2:=zZ.mk (bx2.out.later (zY (Below.refl _ _) (.cells #[.int .u8 0,.string ⟨#[98]⟩,.slice none 0 0,.slice none 0 0] TX)))
 have bx5:=zZ.mk (bx5.out.later (zY (Below.refl _ _) (.cells #[.int .u8 0,.string ⟨#[98]⟩,.slice none 0 0,.slice none 0 0] TX)))
 go_wp2_with fail
 refine (Made_to 2 _ 1 1 _ 1 1 _).mono ?_
 rintro e w6 ⟨rfl,hb6⟩
 have bx1:=zZ.mk (bx1.out.later hb6)
 have bx2:=zZ.mk (bx2.out.later hb6)
 have bx5:=zZ.mk (bx5.out.later hb6)
 have hsh:=k25_mk w6 xSh (A2:=some ⟨w4.heap.size,0,none⟩) (c2:=1) (A3:=some ⟨w5.heap.size,0,none⟩) (c3:=1) (Nat.le_refl 1) (rowI (tW hb6 r1.out)) (Nat.le_refl 1) (rowX1 (K_named w6 _) (tW hb6 rb.out))
 have HSH:=zZ.mk hsh
 have rab:=zZ.mk (wP w6 (.cells #[.int .u8 0,.string ⟨#[97]⟩,.slice none 0 0,.slice none 0 0,.int .u8 2,.string nil8,.slice (some ⟨w4.heap.size,0,none⟩) 1 1,.slice (some ⟨w5.heap.size,0,none⟩) 1 1] TX))
 have HB:=zZ.mk (zY (xN HB.out HB.out.size hb6) (.cells #[.int .u8 0,.string ⟨#[97]⟩,.slice none 0 0,.slice none 0 0,.int .u8 2,.string nil8,.slice (some ⟨w4.heap.size,0,none⟩) 1 1,.slice (some ⟨w5.heap.size,0,none⟩) 1 1] TX))
 clear hb6 hsh r1 rb
 have bx1:=zZ.mk (bx1.out.later (zY (Below.refl _ _) (.cells #[.int .u8 0,.string ⟨#[97]⟩,.slice none 0 0,.slice none 0 0,.int .u8 2,.string nil8,.slice (some ⟨w4.heap.size,0,none⟩) 1 1,.slice (some ⟨w5.heap.size,0,none⟩) 1 1] TX)))
 have bx2:=zZ.mk (bx2.out.later (zY (Below.refl _ _) (.cells #[.int .u8 0,.string ⟨#[97]⟩,.slice none 0 0,.slice none 0 0,.int .u8 2,.string nil8,.slice (some ⟨w4.heap.size,0,none⟩) 1 1,.slice (some ⟨w5.heap.size,0,none⟩) 1 1] TX)))
 have bx5:=zZ.mk (bx5.out.later (zY (Below.refl _ _) (.cells #[.int .u8 0,.string ⟨#[97]⟩,.slice none 0 0,.slice none 0 0,.int .u8 2,.string nil8,.slice (some ⟨w4.heap.size,0,none⟩) 1 1,.slice (some ⟨w5.heap.size,0,none⟩) 1 1] TX)))
 go_wp2_with fail
 refine (Made_to 10 none 0 0 _ 2 2 _).mono ?_
 rintro e w7 ⟨rfl,hb7⟩
 have bx1:=zZ.mk (bx1.out.later hb7)
 have bx2:=zZ.mk (bx2.out.later hb7)
 have bx5:=zZ.mk (bx5.out.later hb7)
 have hwt:=k25_mk w7 xTwo (A2:=none) (c2:=0) (A3:=some ⟨w6.heap.size,0,none⟩) (c3:=2) (Nat.le_refl 0) (Kd.C_nil _ _) (Nat.le_refl 2) (rowX2 (K_named w7 _) (kX.K_below hb7 (kX.K_below (zY (Below.refl _ _) (.cells #[.int .u8 0,.string ⟨#[97]⟩,.slice none 0 0,.slice none 0 0,.int .u8 2,.string nil8,.slice (some ⟨w4.heap.size,0,none⟩) 1 1,.slice (some ⟨w5.heap.size,0,none⟩) 1 1] TX)) HSH.out)) (tW hb7 rab.out))
 have bx8:=zZ.mk (Bx.new hwt)
 have HB:=zZ.mk (zY (xN HB.out HB.out.size hb7) (.cells #[.int .u8 xTwo.f0,.string xTwo.f1,.slice none xTwo.f2.length 0,.slice (some ⟨w6.heap.size,0,none⟩) xTwo.f3.length 2] TX))
 have bx1:=zZ.mk (bx1.out.later (zY (Below.refl _ _) (.cells #[.int .u8 xTwo.f0,.string xTwo.f1,.slice none xTwo.f2.length 0,.slice (some ⟨w6.heap.size,0,none⟩) xTwo.f3.length 2] TX)))
 have bx2:=zZ.mk (bx2.out.later (zY (Below.refl _ _) (.cells #[.int .u8 xTwo.f0,.string xTwo.f1,.slice none xTwo.f2.length 0,.slice (some ⟨w6.heap.size,0,none⟩) xTwo.f3.length 2] TX)))
 have bx5:=zZ.mk (bx5.out.later (zY (Below.refl _ _) (.cells #[.int .u8 xTwo.f0,.string xTwo.f1,.slice none xTwo.f2.length 0,.slice (some ⟨w6.heap.size,0,none⟩) xTwo.f3.length 2] TX)))
 clear hb7 hwt HSH rab
 go_wp2_with fail
 obtain ⟨w8,hw8⟩ : ∃ w8,w8 = w7.alloc (.cells #[.int .u8 10,.string ⟨#[]⟩,.slice none 0 0,.slice (some ⟨w6.heap.size,0,none⟩) 2 2] 25):=⟨_,rfl⟩
 rw [← hw8]
 have bx1:=zZ.mk (show Bx w1.heap.size xDay none 0 none 0 w8 by rw [hw8]; exact bx1.out)
 have bx2:=zZ.mk (show Bx w2.heap.size xOne A2 c2 A3 c3 w8 by rw [hw8]; exact bx2.out)
 have bx5:=zZ.mk (show Bx w3.heap.size xTwo B2 d2 B3 d3 w8 by rw [hw8]; exact bx5.out)
 have bx8:=zZ.mk (show Bx w7.heap.size xTwo none 0 (some ⟨w6.heap.size,0,none⟩) 2 w8 by rw [hw8]; exact bx8.out)
 have HB:=zZ.mk (show Below w.heap.size w w8 by rw [hw8]; exact HB.out)
 clear hw8
 refine oK (n:=29) (S:=fun w' => w'.cell? ⟨w1.heap.size,0,none⟩ = some (.int .u8 0) ∧ w'.cell? ⟨w1.heap.size,1,none⟩ = some (.string ⟨#[100,97,121]⟩) ∧ w'.cell? ⟨w1.heap.size,2,none⟩ = some (.slice none 0 0) ∧ w'.cell? ⟨w1.heap.size,3,none⟩ = some (.slice none 0 0) ∧ w'.cell? ⟨w2.heap.size,0,none⟩ = some (.int .u8 1) ∧ w'.cell? ⟨w2.heap.size,1,none⟩ = some (.string nil8) ∧ w'.cell? ⟨w2.heap.size,2,none⟩ = some (.slice A2 1 c2) ∧ w'.cell? ⟨w2.heap.size,3,none⟩ = some (.slice A3 1 c3) ∧ w'.cell? ⟨w3.heap.size,0,none⟩ = some (.int .u8 10) ∧ w'.cell? ⟨w3.heap.size,1,none⟩ = some (.string nil8) ∧ w'.cell? ⟨w3.heap.size,2,none⟩ = some (.slice B2 0 d2) ∧ w'.cell? ⟨w3.heap.size,3,none⟩ = some (.slice B3 2 d3) ∧ w'.cell? ⟨w7.heap.size,0,none⟩ = some (.int .u8 10) ∧ w'.cell? ⟨w7.heap.size,1,none⟩ = some (.string nil8) ∧ w'.cell? ⟨w7.heap.size,2,none⟩ = some (.slice none 0 0) ∧ w'.cell? ⟨w7.heap.size,3,none⟩ = some (.slice (some ⟨w6.heap.size,0,none⟩) 2 2)) (ds:=[]) #[false,false,false,false,false,false,false,false,false,false,false,false,false,false,false,false,false,false,false,false,false,false,false,false,false,false,false,false,false] (by kernel_rfl) rfl rfl ⟨bx1.out.q0,bx1.out.q1,bx1.out.q2,bx1.out.q3,bx2.out.q0,bx2.out.q1,bx2.out.q2,bx2.out.q3,bx5.out.q0,bx5.out.q1,bx5.out.q2,bx5.out.q3,bx8.out.q0,bx8.out.q1,bx8.out.q2,bx8.out.q3⟩ (fun hHeld => ?_)
 refine xO (i:=0) (N:=some 47) (v:=?_) (a':=?_) #[true,false,false,false,false,false,false,false,false,false,false,false,false,false,false,false,false,false,false,false,false,false,false,false,false,false,false,false,false] rfl rfl (by kernel_rfl) (fun _ _ _ h => h) (Or.inl ⟨by rfl,?_⟩) ?_ ?_
 rotate_left
 ·
  intro w'
  go_simp
  with_reducible rfl
 rotate_left
 ·
  simp only [Act.put,List.setIfInBounds_toArray,List.set_cons_zero,List.set_cons_succ,yV,yU]
  rfl
 refine xO (i:=1) (N:=some 48) (v:=?_) (a':=?_) #[true,true,false,false,false,false,false,false,false,false,false,false,false,false,false,false,false,false,false,false,false,false,false,false,false,false,false,false,false] rfl rfl (by kernel_rfl) (fun _ _ _ h => h) (Or.inl ⟨by rfl,?_⟩) ?_ ?_
 rotate_left
 ·
  intro w'
  go_simp
  with_reducible rfl
 rotate_left
 ·
  simp only [Act.put,List.setIfInBounds_toArray,List.set_cons_zero,List.set_cons_succ,yV,yU]
  rfl
 refine xO (i:=2) (N:=some 49) (v:=?_) (a':=?_) #[true,true,true,false,false,false,false,false,false,false,false,false,false,false,false,false,false,false,false,false,false,false,false,false,false,false,false,false,false] rfl rfl (by kernel_rfl) (fun _ _ _ h => h) (Or.inl ⟨by rfl,?_⟩) ?_ ?_
 rotate_left
 ·
  intro w'
  go_simp
  with_reducible rfl
 rotate_left
 ·
  simp only [Act.put,List.setIfInBounds_toArray,List.set_cons_zero,List.set_cons_succ,yV,yU]
  rfl
 refine xO (i:=3) (N:=some 50) (v:=?_) (a':=?_) #[true,true,true,true,false,false,false,false,false,false,false,false,false,false,false,false,false,false,false,false,false,false,false,false,false,false,false,false,false] rfl rfl (by kernel_rfl) (fun _ _ _ h => h) (Or.inl ⟨by rfl,?_⟩) ?_ ?_
 rotate_left
 ·
  intro w'
  go_simp
  with_reducible rfl
 rotate_left
 ·
  simp only [Act.put,List.setIfInBounds_toArray,List.set_cons_zero,List.set_cons_succ,yV,yU]
  rfl
 refine xO (i:=4) (N:=some 51) (v:=?_) (a':=?_) #[true,true,true,true,true,false,false,false,false,false,false,false,false,false,false,false,false,false,false,false,false,false,false,false,false,false,false,false,false] rfl rfl (by kernel_rfl) (fun _ _ _ h => h) (Or.inl ⟨by rfl,?_⟩) ?_ ?_
 rotate_left
 ·
  intro w'
  go_simp
  with_reducible rfl
 rotate_left
 ·
  simp only [Act.put,List.setIfInBounds_toArray,List.set_cons_zero,List.set_cons_succ,yV,yU]
  rfl
 refine xO (i:=5) (N:=some 52) (v:=?_) (a':=?_) #[true,true,true,true,true,true,false,false,false,false,false,false,false,false,false,false,false,false,false,false,false,false,false,false,false,false,false,false,false] rfl rfl (by kernel_rfl) (fun _ _ _ h => h) (Or.inl ⟨by rfl,?_⟩) ?_ ?_
 rotate_left
 ·
  intro w'
  go_simp
  with_reducible rfl
 rotate_left
 ·
  simp only [Act.put,List.setIfInBounds_toArray,List.set_cons_zero,List.set_cons_succ,yV,yU]
  rfl
 refine xO (i:=6) (N:=some 53) (v:=?_) (a':=?_) #[true,true,true,true,true,true,true,false,false,false,false,false,false,false,false,false,false,false,false,false,false,false,false,false,false,false,false,false,false] rfl rfl (by kernel_rfl) (fun _ _ _ h => h) (Or.inl ⟨by rfl,?_⟩) ?_ ?_
 rotate_left
 ·
  intro w'
  go_simp
  with_reducible rfl
 rotate_left
 ·
  simp only [Act.put,List.setIfInBounds_toArray,List.set_cons_zero,List.set_cons_succ,yV,yU]
  rfl
 refine take_ (i:=7) (N:=some 54) (v:=?_) (a':=?_) #[true,true,true,true,true,true,true,true,false,false,false,false,false,false,false,false,false,false,false,false,false,false,false,false,false,false,false,false,false] rfl rfl (by kernel_rfl) (fun _ _ _ h => h) (Or.inl ⟨by rfl,?_⟩) hHeld ?_ ?_
 rotate_left
 ·
  rintro w' ⟨s0,s1,s2,s3,s4,s5,s6,s7,s8,s9,s10,s11,s12,s13,s14,s15⟩
  go_simp
  with_reducible rfl
 rotate_left
 ·
  simp only [Act.put,List.setIfInBounds_toArray,List.set_cons_zero,List.set_cons_succ,yV,yU]
  rfl
 refine take_ (i:=9) (N:=some 56) (v:=?_) (a':=?_) #[true,true,true,true,true,true,true,true,false,true,false,false,false,false,false,false,false,false,false,false,false,false,false,false,false,false,false,false,false] rfl rfl (by kernel_rfl) (fun _ _ _ h => h) (Or.inl ⟨by rfl,?_⟩) hHeld ?_ ?_
 rotate_left
 ·
  rintro w' ⟨s0,s1,s2,s3,s4,s5,s6,s7,s8,s9,s10,s11,s12,s13,s14,s15⟩
  go_simp
  with_reducible rfl
 rotate_left
 ·
  simp only [Act.put,List.setIfInBounds_toArray,List.set_cons_zero,List.set_cons_succ,yV,yU]
  rfl
 refine join_ (σ:=Nat × Nat) 18 #[true,true,true,true,true,true,true,true,true,true,true,false,false,false,false,false,false,false,false,false,false,false,false,false,false,false,false,false,false] (fun s => [(55,.slice (some ⟨s.1,0,none⟩) 1 1),(57,.slice (some ⟨s.2,0,none⟩) 1 1)]) (fun s w' => AwF w w' w1.heap.size w2.heap.size w3.heap.size w7.heap.size w6.heap.size A2 c2 A3 c3 B2 d2 B3 d3 s.1 s.2) ?_ ?_
 rotate_left
 ·
  intro hCont
  refine two_ (i:=8) (j:=10) (Ni:=some 55) (Nj:=some 57) #[true,true,true,true,true,true,true,true,true,true,false,false,false,false,false,false,false,false,false,false,false,false,false,false,false,false,false,false,false] #[true,true,true,true,true,true,true,true,false,true,true,false,false,false,false,false,false,false,false,false,false,false,false,false,false,false,false,false,false] rfl rfl rfl rfl (by kernel_rfl) (by decide) (by decide) (fun K hK => ?_) (fun K hK => ?_)
  ·
   skip
   refine value_ (w1:=?_) (v:=?_) (by rfl) rfl ?_ ?_
   rotate_left 2
   ·
    go_simp
    constructor
    · rfl
    · rfl
   have bx1a:=zZ.mk (bx1.out.later (zY (qZ (Below.refl _ _)) (.cells #[.int .i64 3] 2)))
   have bx2a:=zZ.mk (bx2.out.later (zY (qZ (Below.refl _ _)) (.cells #[.int .i64 3] 2)))
   have bx5a:=zZ.mk (bx5.out.later (zY (qZ (Below.refl _ _)) (.cells #[.int .i64 3] 2)))
   have bx8a:=zZ.mk (bx8.out.later (zY (qZ (Below.refl _ _)) (.cells #[.int .i64 3] 2)))
   have r3:=zZ.mk (show (w8.drew.alloc (.cells #[.int .i64 3] 2)).heap[w8.heap.size]? = some _ from wP w8.drew (.cells #[.int .i64 3] 2))
   refine hK.out _ _ ⟨bx1a.out.q0,bx1a.out.q1,bx1a.out.q2,bx1a.out.q3,bx2a.out.q0,bx2a.out.q1,bx2a.out.q2,bx2a.out.q3,bx5a.out.q0,bx5a.out.q1,bx5a.out.q2,bx5a.out.q3,bx8a.out.q0,bx8a.out.q1,bx8a.out.q2,bx8a.out.q3⟩ (fun hHeld => ?_)
   clear hK K
   refine sI (a':=?_) ?_ ?_
   rotate_left
   ·
    show Act.put _ (some 55) _ = _
    simp only [Act.put,List.setIfInBounds_toArray,List.set_cons_zero,List.set_cons_succ,yV,yU]
    rfl
   refine one_ (i:=10) (N:=some 57) #[true,true,true,true,true,true,true,true,true,true,true,false,false,false,false,false,false,false,false,false,false,false,false,false,false,false,false,false,false] rfl rfl (by kernel_rfl) (by decide) (fun K hK => ?_)
   refine value_ (w1:=?_) (v:=?_) (by rfl) rfl ?_ ?_
   rotate_left 2
   ·
    go_simp
    constructor
    · rfl
    · rfl
   have bx1b:=zZ.mk (bx1a.out.later (zY (Below.refl _ _) (.cells #[.int .u8 0,.string ⟨#[100,97,121]⟩,.slice none 0 0,.slice none 0 0] TX)))
   have bx2b:=zZ.mk (bx2a.out.later (zY (Below.refl _ _) (.cells #[.int .u8 0,.string ⟨#[100,97,121]⟩,.slice none 0 0,.slice none 0 0] TX)))
   have bx5b:=zZ.mk (bx5a.out.later (zY (Below.refl _ _) (.cells #[.int .u8 0,.string ⟨#[100,97,121]⟩,.slice none 0 0,.slice none 0 0] TX)))
   have bx8b:=zZ.mk (bx8a.out.later (zY (Below.refl _ _) (.cells #[.int .u8 0,.string ⟨#[100,97,121]⟩,.slice none 0 0,.slice none 0 0] TX)))
   have r3:=zZ.mk (zR r3.out (.cells #[.int .u8 0,.string ⟨#[100,97,121]⟩,.slice none 0 0,.slice none 0 0] TX))
   have hnew:=wP (w8.drew.alloc (.cells #[.int .i64 3] 2)) (.cells #[.int .u8 0,.string ⟨#[100,97,121]⟩,.slice none 0 0,.slice none 0 0] TX)
   rw [show ((w8.drew.alloc (.cells #[.int .i64 3] 2))).heap.size = w8.heap.size + 1 from Array.size_push ..] at hnew
   have rd:=zZ.mk hnew
   clear hnew
   refine hK.out _ _ ⟨bx1b.out.q0,bx1b.out.q1,bx1b.out.q2,bx1b.out.q3,bx2b.out.q0,bx2b.out.q1,bx2b.out.q2,bx2b.out.q3,bx5b.out.q0,bx5b.out.q1,bx5b.out.q2,bx5b.out.q3,bx8b.out.q0,bx8b.out.q1,bx8b.out.q2,bx8b.out.q3⟩ (fun hHeld => ?_)
   clear hK K
   refine sI (a':=?_) ?_ ?_
   rotate_left
   ·
    show Act.put _ (some 57) _ = _
    simp only [Act.put,List.setIfInBounds_toArray,List.set_cons_zero,List.set_cons_succ,yV,yU]
    rfl
   exact sI (by first|rfl|(simp only [putAll,Act.put,List.setIfInBounds_toArray,List.set_cons_zero,List.set_cons_succ]; done)|(simp only [putAll,Act.put,List.setIfInBounds_toArray,List.set_cons_zero,List.set_cons_succ]; rfl)) (hCont ⟨_,_⟩ _ (show AwF w ((w8.drew.alloc (.cells #[.int .i64 3] 2)).alloc (.cells #[.int .u8 0,.string ⟨#[100,97,121]⟩,.slice none 0 0,.slice none 0 0] TX)) _ _ _ _ _ _ _ _ _ _ _ _ _ _ _ from ⟨bx1b.out,bx2b.out,bx5b.out,bx8b.out,r3.out,rd.out,zY (zY (qZ HB.out) _) _⟩))
  ·
   skip
   refine value_ (w1:=?_) (v:=?_) (by rfl) rfl ?_ ?_
   rotate_left 2
   ·
    go_simp
    constructor
    · rfl
    · rfl
   have bx1a:=zZ.mk (bx1.out.later (zY (qZ (Below.refl _ _)) (.cells #[.int .u8 0,.string ⟨#[100,97,121]⟩,.slice none 0 0,.slice none 0 0] TX)))
   have bx2a:=zZ.mk (bx2.out.later (zY (qZ (Below.refl _ _)) (.cells #[.int .u8 0,.string ⟨#[100,97,121]⟩,.slice none 0 0,.slice none 0 0] TX)))
   have bx5a:=zZ.mk (bx5.out.later (zY (qZ (Below.refl _ _)) (.cells #[.int .u8 0,.string ⟨#[100,97,121]⟩,.slice none 0 0,.slice none 0 0] TX)))
   have bx8a:=zZ.mk (bx8.out.later (zY (qZ (Below.refl _ _)) (.cells #[.int .u8 0,.string ⟨#[100,97,121]⟩,.slice none 0 0,.slice none 0 0] TX)))
   have rd:=zZ.mk (show (w8.drew.alloc (.cells #[.int .u8 0,.string ⟨#[100,97,121]⟩,.slice none 0 0,.slice none 0 0] TX)).heap[w8.heap.size]? = some _ from wP w8.drew (.cells #[.int .u8 0,.string ⟨#[100,97,121]⟩,.slice none 0 0,.slice none 0 0] TX))
   refine hK.out _ _ ⟨bx1a.out.q0,bx1a.out.q1,bx1a.out.q2,bx1a.out.q3,bx2a.out.q0,bx2a.out.q1,bx2a.out.q2,bx2a.out.q3,bx5a.out.q0,bx5a.out.q1,bx5a.out.q2,bx5a.out.q3,bx8a.out.q0,bx8a.out.q1,bx8a.out.q2,bx8a.out.q3⟩ (fun hHeld => ?_)
   clear hK K
   refine sI (a':=?_) ?_ ?_
   rotate_left
   ·
    show Act.put _ (some 57) _ = _
    simp only [Act.put,List.setIfInBounds_toArray,List.set_cons_zero,List.set_cons_succ,yV,yU]
    rfl
   refine one_ (i:=8) (N:=some 55) #[true,true,true,true,true,true,true,true,true,true,true,false,false,false,false,false,false,false,false,false,false,false,false,false,false,false,false,false,false] rfl rfl (by kernel_rfl) (by decide) (fun K hK => ?_)
   refine value_ (w1:=?_) (v:=?_) (by rfl) rfl ?_ ?_
   rotate_left 2
   ·
    go_simp
    constructor
    · rfl
    · rfl
   have bx1b:=zZ.mk (bx1a.out.later (zY (Below.refl _ _) (.cells #[.int .i64 3] 2)))
   have bx2b:=zZ.mk (bx2a.out.later (zY (Below.refl _ _) (.cells #[.int .i64 3] 2)))
   have bx5b:=zZ.mk (bx5a.out.later (zY (Below.refl _ _) (.cells #[.int .i64 3] 2)))
   have bx8b:=zZ.mk (bx8a.out.later (zY (Below.refl _ _) (.cells #[.int .i64 3] 2)))
   have rd:=zZ.mk (zR rd.out (.cells #[.int .i64 3] 2))
   have hnew:=wP (w8.drew.alloc (.cells #[.int .u8 0,.string ⟨#[100,97,121]⟩,.slice none 0 0,.slice none 0 0] TX)) (.cells #[.int .i64 3] 2)
   rw [show ((w8.drew.alloc (.cells #[.int .u8 0,.string ⟨#[100,97,121]⟩,.slice none 0 0,.slice none 0 0] TX))).heap.size = w8.heap.size + 1 from Array.size_push ..] at hnew
   have r3:=zZ.mk hnew
   clear hnew
   refine hK.out _ _ ⟨bx1b.out.q0,bx1b.out.q1,bx1b.out.q2,bx1b.out.q3,bx2b.out.q0,bx2b.out.q1,bx2b.out.q2,bx2b.out.q3,bx5b.out.q0,bx5b.out.q1,bx5b.out.q2,bx5b.out.q3,bx8b.out.q0,bx8b.out.q1,bx8b.out.q2,bx8b.out.q3⟩ (fun hHeld => ?_)
   clear hK K
   refine sI (a':=?_) ?_ ?_
   rotate_left
   ·
    show Act.put _ (some 55) _ = _
    simp only [Act.put,List.setIfInBounds_toArray,List.set_cons_zero,List.set_cons_succ,yV,yU]
    rfl
   exact sI (by first|rfl|(simp only [putAll,Act.put,List.setIfInBounds_toArray,List.set_cons_zero,List.set_cons_succ]; done)|(simp only [putAll,Act.put,List.setIfInBounds_toArray,List.set_cons_zero,List.set_cons_succ]; rfl)) (hCont ⟨_,_⟩ _ (show AwF w ((w8.drew.alloc (.cells #[.int .u8 0,.string ⟨#[100,97,121]⟩,.slice none 0 0,.slice none 0 0] TX)).alloc (.cells #[.int .i64 3] 2)) _ _ _ _ _ _ _ _ _ _ _ _ _ _ _ from ⟨bx1b.out,bx2b.out,bx5b.out,bx8b.out,r3.out,rd.out,zY (zY (qZ HB.out) _) _⟩))
 rintro ⟨s1,s2⟩ w8 hF
 have HF:=zZ.mk hF
 clear hF
 clear bx1 bx2 bx5 bx8 HB
 have bx1b:=zZ.mk HF.out.bx1
 have bx2b:=zZ.mk HF.out.bx2
 have bx5b:=zZ.mk HF.out.bx5
 have bx8b:=zZ.mk HF.out.bx8
 have hHeld : w8.cell? ⟨w1.heap.size,0,none⟩ = some (.int .u8 0) ∧ w8.cell? ⟨w1.heap.size,1,none⟩ = some (.string ⟨#[100,97,121]⟩) ∧ w8.cell? ⟨w1.heap.size,2,none⟩ = some (.slice none 0 0) ∧ w8.cell? ⟨w1.heap.size,3,none⟩ = some (.slice none 0 0) ∧ w8.cell? ⟨w2.heap.size,0,none⟩ = some (.int .u8 1) ∧ w8.cell? ⟨w2.heap.size,1,none⟩ = some (.string nil8) ∧ w8.cell? ⟨w2.heap.size,2,none⟩ = some (.slice A2 1 c2) ∧ w8.cell? ⟨w2.heap.size,3,none⟩ = some (.slice A3 1 c3) ∧ w8.cell? ⟨w3.heap.size,0,none⟩ = some (.int .u8 10) ∧ w8.cell? ⟨w3.heap.size,1,none⟩ = some (.string nil8) ∧ w8.cell? ⟨w3.heap.size,2,none⟩ = some (.slice B2 0 d2) ∧ w8.cell? ⟨w3.heap.size,3,none⟩ = some (.slice B3 2 d3) ∧ w8.cell? ⟨w7.heap.size,0,none⟩ = some (.int .u8 10) ∧ w8.cell? ⟨w7.heap.size,1,none⟩ = some (.string nil8) ∧ w8.cell? ⟨w7.heap.size,2,none⟩ = some (.slice none 0 0) ∧ w8.cell? ⟨w7.heap.size,3,none⟩ = some (.slice (some ⟨w6.heap.size,0,none⟩) 2 2):=⟨bx1b.out.q0,bx1b.out.q1,bx1b.out.q2,bx1b.out.q3,bx2b.out.q0,bx2b.out.q1,bx2b.out.q2,bx2b.out.q3,bx5b.out.q0,bx5b.out.q1,bx5b.out.q2,bx5b.out.q3,bx8b.out.q0,bx8b.out.q1,bx8b.out.q2,bx8b.out.q3⟩
 refine sI (a':=?_) ?_ ?_
 rotate_left
 ·
  simp only [putAll,Act.put,List.setIfInBounds_toArray,List.set_cons_zero,List.set_cons_succ]
  rfl
 refine one_ (i:=11) (N:=some 58) #[true,true,true,true,true,true,true,true,true,true,true,true,false,false,false,false,false,false,false,false,false,false,false,false,false,false,false,false,false] rfl rfl (by kernel_rfl) (by decide) (fun K hK => ?_)
 refine goes_ Tryd.func14 (by kernel_rfl) rfl #[.int .u8 1,.slice (some ⟨s1,0,none⟩) 1 1,.slice (some ⟨s2,0,none⟩) 1 1] (by rfl) rfl rfl (by simp only [List.map_toArray,List.map_cons,List.map_nil]; rfl) ?_
 with_reducible refine (Made_to 1 (some ⟨s1,0,none⟩) 1 1 (some ⟨s2,0,none⟩) 1 1 _).mono ?_
 rintro e w9 ⟨rfl,hb9⟩
 refine ⟨_,rfl,?_⟩
 have HK1:=zZ.mk (k25_mk w9 xOne (A2:=some ⟨s1,0,none⟩) (c2:=1) (A3:=some ⟨s2,0,none⟩) (c3:=1) (Nat.le_refl 1) (rowI (tW hb9 HF.out.r3)) (Nat.le_refl 1) (rowX1 (K_named w9 _) (tW hb9 HF.out.rd)))
 have bx1c:=zZ.mk (bx1b.out.later hb9)
 have bx2c:=zZ.mk (bx2b.out.later hb9)
 have bx5c:=zZ.mk (bx5b.out.later hb9)
 have bx8c:=zZ.mk (bx8b.out.later hb9)
 have HB9:=zZ.mk (xN HF.out.hb HF.out.hb.size hb9)
 clear hb9
 refine hK.out _ _ ⟨bx1c.out.q0,bx1c.out.q1,bx1c.out.q2,bx1c.out.q3,bx2c.out.q0,bx2c.out.q1,bx2c.out.q2,bx2c.out.q3,bx5c.out.q0,bx5c.out.q1,bx5c.out.q2,bx5c.out.q3,bx8c.out.q0,bx8c.out.q1,bx8c.out.q2,bx8c.out.q3⟩ (fun hHeld => ?_)
 clear hK K
 refine sI (a':=?_) ?_ ?_
 rotate_left
 ·
  show Act.put _ (some 58) _ = _
  simp only [Act.put,List.setIfInBounds_toArray,List.set_cons_zero,List.set_cons_succ,yV,yU]
  rfl
 refine one_ (i:=12) (N:=some 59) #[true,true,true,true,true,true,true,true,true,true,true,true,true,false,false,false,false,false,false,false,false,false,false,false,false,false,false,false,false] rfl rfl (by kernel_rfl) (by decide) (fun K hK => ?_)
 refine goes_ Tryd.func28 (by kernel_rfl) rfl #[.agg #[.int .u8 1,.string nil8,.slice A2 1 c2,.slice A3 1 c3],.agg #[.int .u8 1,.string nil8,.slice (some ⟨s1,0,none⟩) 1 1,.slice (some ⟨s2,0,none⟩) 1 1]] (by rfl) rfl rfl (by simp only [List.map_toArray,List.map_cons,List.map_nil]; rfl) ?_
 refine (same_k xOne A2 c2 A3 c3 (some ⟨s1,0,none⟩) 1 (some ⟨s2,0,none⟩) 1 w9 bx2c.out.K HK1.out).mono ?_
 rintro e w10 ⟨rfl,hb10⟩
 refine ⟨_,rfl,?_⟩
 have bx1d:=zZ.mk (bx1c.out.later hb10)
 have bx2d:=zZ.mk (bx2c.out.later hb10)
 have bx5d:=zZ.mk (bx5c.out.later hb10)
 have bx8d:=zZ.mk (bx8c.out.later hb10)
 have HB10:=zZ.mk (xN HB9.out HB9.out.size hb10)
 clear hb10
 refine hK.out _ _ ⟨bx1d.out.q0,bx1d.out.q1,bx1d.out.q2,bx1d.out.q3,bx2d.out.q0,bx2d.out.q1,bx2d.out.q2,bx2d.out.q3,bx5d.out.q0,bx5d.out.q1,bx5d.out.q2,bx5d.out.q3,bx8d.out.q0,bx8d.out.q1,bx8d.out.q2,bx8d.out.q3⟩ (fun hHeld => ?_)
 clear hK K
 refine sI (a':=?_) ?_ ?_
 rotate_left
 ·
  show Act.put _ (some 59) _ = _
  simp only [Act.put,List.setIfInBounds_toArray,List.set_cons_zero,List.set_cons_succ,yV,yU]
  rfl
 refine xO (i:=13) (N:=some 60) (v:=?_) (a':=?_) #[true,true,true,true,true,true,true,true,true,true,true,true,true,true,false,false,false,false,false,false,false,false,false,false,false,false,false,false,false] rfl rfl (by kernel_rfl) (fun _ _ _ h => h) (Or.inl ⟨by rfl,?_⟩) ?_ ?_
 rotate_left
 ·
  intro w'
  go_simp
  with_reducible rfl
 rotate_left
 ·
  simp only [Act.put,List.setIfInBounds_toArray,List.set_cons_zero,List.set_cons_succ,yV,yU]
  rfl
 refine xO (i:=14) (N:=some 61) (v:=?_) (a':=?_) #[true,true,true,true,true,true,true,true,true,true,true,true,true,true,true,false,false,false,false,false,false,false,false,false,false,false,false,false,false] rfl rfl (by kernel_rfl) (fun _ _ _ h => h) (Or.inl ⟨by rfl,?_⟩) ?_ ?_
 rotate_left
 ·
  intro w'
  go_simp
  with_reducible rfl
 rotate_left
 ·
  simp only [Act.put,List.setIfInBounds_toArray,List.set_cons_zero,List.set_cons_succ,yV,yU]
  rfl
 refine xO (i:=15) (N:=some 62) (v:=?_) (a':=?_) #[true,true,true,true,true,true,true,true,true,true,true,true,true,true,true,true,false,false,false,false,false,false,false,false,false,false,false,false,false] rfl rfl (by kernel_rfl) (fun _ _ _ h => h) (Or.inl ⟨by rfl,?_⟩) ?_ ?_
 rotate_left
 ·
  intro w'
  go_simp
  with_reducible rfl
 rotate_left
 ·
  simp only [Act.put,List.setIfInBounds_toArray,List.set_cons_zero,List.set_cons_succ,yV,yU]
  rfl
 refine xO (i:=16) (N:=some 63) (v:=?_) (a':=?_) #[true,true,true,true,true,true,true,true,true,true,true,true,true,true,true,true,true,false,false,false,false,false,false,false,false,false,false,false,false] rfl rfl (by kernel_rfl) (fun _ _ _ h => h) (Or.inl ⟨by rfl,?_⟩) ?_ ?_
 rotate_left
 ·
  intro w'
  go_simp
  with_reducible rfl
 rotate_left
 ·
  simp only [Act.put,List.setIfInBounds_toArray,List.set_cons_zero,List.set_cons_succ,yV,yU]
  rfl
 refine xO (i:=17) (N:=some 64) (v:=?_) (a':=?_) #[true,true,true,true,true,true,true,true,true,true,true,true,true,true,true,true,true,true,false,false,false,false,false,false,false,false,false,false,false] rfl rfl (by kernel_rfl) (fun _ _ _ h => h) (Or.inl ⟨by rfl,?_⟩) ?_ ?_
 rotate_left
 ·
  intro w'
  go_simp
  with_reducible rfl
 rotate_left
 ·
  simp only [Act.put,List.setIfInBounds_toArray,List.set_cons_zero,List.set_cons_succ,yV,yU]
  rfl
 refine xO (i:=18) (N:=some 65) (v:=?_) (a':=?_) #[true,true,true,true,true,true,true,true,true,true,true,true,true,true,true,true,true,true,true,false,false,false,false,false,false,false,false,false,false] rfl rfl (by kernel_rfl) (fun _ _ _ h => h) (Or.inl ⟨by rfl,?_⟩) ?_ ?_
 rotate_left
 ·
  intro w'
  go_simp
  with_reducible rfl
 rotate_left
 ·
  simp only [Act.put,List.setIfInBounds_toArray,List.set_cons_zero,List.set_cons_succ,yV,yU]
  rfl
 refine xO (i:=19) (N:=some 66) (v:=?_) (a':=?_) #[true,true,true,true,true,true,true,true,true,true,true,true,true,true,true,true,true,true,true,true,false,false,false,false,false,false,false,false,false] rfl rfl (by kernel_rfl) (fun _ _ _ h => h) (Or.inl ⟨by rfl,?_⟩) ?_ ?_
 rotate_left
 ·
  intro w'
  go_simp
  with_reducible rfl
 rotate_left
 ·
  simp only [Act.put,List.setIfInBounds_toArray,List.set_cons_zero,List.set_cons_succ,yV,yU]
  rfl
 refine xO (i:=20) (N:=some 67) (v:=?_) (a':=?_) #[true,true,true,true,true,true,true,true,true,true,true,true,true,true,true,true,true,true,true,true,true,false,false,false,false,false,false,false,false] rfl rfl (by kernel_rfl) (fun _ _ _ h => h) (Or.inl ⟨by rfl,?_⟩) ?_ ?_
 rotate_left
 ·
  intro w'
  go_simp
  with_reducible rfl
 rotate_left
 ·
  simp only [Act.put,List.setIfInBounds_toArray,List.set_cons_zero,List.set_cons_succ,yV,yU]
  rfl
 refine xO (i:=21) (N:=some 68) (v:=?_) (a':=?_) #[true,true,true,true,true,true,true,true,true,true,true,true,true,true,true,true,true,true,true,true,true,true,false,false,false,false,false,false,false] rfl rfl (by kernel_rfl) (fun _ _ _ h => h) (Or.inl ⟨by rfl,?_⟩) ?_ ?_
 rotate_left
 ·
  intro w'
  go_simp
  with_reducible rfl
 rotate_left
 ·
  simp only [Act.put,List.setIfInBounds_toArray,List.set_cons_zero,List.set_cons_succ,yV,yU]
  rfl
 refine xO (i:=22) (N:=some 69) (v:=?_) (a':=?_) #[true,true,true,true,true,true,true,true,true,true,true,true,true,true,true,true,true,true,true,true,true,true,true,false,false,false,false,false,false] rfl rfl (by kernel_rfl) (fun _ _ _ h => h) (Or.inl ⟨by rfl,?_⟩) ?_ ?_
 rotate_left
 ·
  intro w'
  go_simp
  with_reducible rfl
 rotate_left
 ·
  simp only [Act.put,List.setIfInBounds_toArray,List.set_cons_zero,List.set_cons_succ,yV,yU]
  rfl
 refine xO (i:=23) (N:=some 70) (v:=?_) (a':=?_) #[true,true,true,true,true,true,true,true,true,true,true,true,true,true,true,true,true,true,true,true,true,true,true,true,false,false,false,false,false] rfl rfl (by kernel_rfl) (fun _ _ _ h => h) (Or.inl ⟨by rfl,?_⟩) ?_ ?_
 rotate_left
 ·
  intro w'
  go_simp
  with_reducible rfl
 rotate_left
 ·
  simp only [Act.put,List.setIfInBounds_toArray,List.set_cons_zero,List.set_cons_succ,yV,yU]
  rfl
 refine take_ (i:=24) (N:=some 71) (v:=?_) (a':=?_) #[true,true,true,true,true,true,true,true,true,true,true,true,true,true,true,true,true,true,true,true,true,true,true,true,true,false,false,false,false] rfl rfl (by kernel_rfl) (fun _ _ _ h => h) (Or.inl ⟨by rfl,?_⟩) hHeld ?_ ?_
 rotate_left
 ·
  rintro w' ⟨s0,s1,s2,s3,s4,s5,s6,s7,s8,s9,s10,s11,s12,s13,s14,s15⟩
  go_simp
  with_reducible rfl
 rotate_left
 ·
  simp only [Act.put,List.setIfInBounds_toArray,List.set_cons_zero,List.set_cons_succ,yV,yU]
  rfl
 refine take_ (i:=25) (N:=some 72) (v:=?_) (a':=?_) #[true,true,true,true,true,true,true,true,true,true,true,true,true,true,true,true,true,true,true,true,true,true,true,true,true,true,false,false,false] rfl rfl (by kernel_rfl) (fun _ _ _ h => h) (Or.inl ⟨by rfl,?_⟩) hHeld ?_ ?_
 rotate_left
 ·
  rintro w' ⟨s0,s1,s2,s3,s4,s5,s6,s7,s8,s9,s10,s11,s12,s13,s14,s15⟩
  go_simp
  with_reducible rfl
 rotate_left
 ·
  simp only [Act.put,List.setIfInBounds_toArray,List.set_cons_zero,List.set_cons_succ,yV,yU]
  rfl
 refine one_ (i:=26) (N:=some 73) #[true,true,true,true,true,true,true,true,true,true,true,true,true,true,true,true,true,true,true,true,true,true,true,true,true,true,true,false,false] rfl rfl (by kernel_rfl) (by decide) (fun K hK => ?_)
 refine goes_ Tryd.func28 (by kernel_rfl) rfl #[.agg #[.int .u8 10,.string nil8,.slice B2 0 d2,.slice B3 2 d3],.agg #[.int .u8 10,.string nil8,.slice none 0 0,.slice (some ⟨w6.heap.size,0,none⟩) 2 2]] (by rfl) rfl rfl (by simp only [List.map_toArray,List.map_cons,List.map_nil]; rfl) ?_
 refine (same_k xTwo B2 d2 B3 d3 none 0 (some ⟨w6.heap.size,0,none⟩) 2 w10 bx5d.out.K bx8d.out.K).mono ?_
 rintro e w11 ⟨rfl,hb11⟩
 refine ⟨_,rfl,?_⟩
 have HB11:=zZ.mk (xN HB10.out HB10.out.size hb11)
 have bx1e:=zZ.mk (bx1d.out.later hb11)
 have bx2e:=zZ.mk (bx2d.out.later hb11)
 have bx5e:=zZ.mk (bx5d.out.later hb11)
 have bx8e:=zZ.mk (bx8d.out.later hb11)
 clear hb11
 refine hK.out _ _ ⟨bx1e.out.q0,bx1e.out.q1,bx1e.out.q2,bx1e.out.q3,bx2e.out.q0,bx2e.out.q1,bx2e.out.q2,bx2e.out.q3,bx5e.out.q0,bx5e.out.q1,bx5e.out.q2,bx5e.out.q3,bx8e.out.q0,bx8e.out.q1,bx8e.out.q2,bx8e.out.q3⟩ (fun hHeld => ?_)
 clear hK K
 refine sI (a':=?_) ?_ ?_
 rotate_left
 ·
  show Act.put _ (some 73) _ = _
  simp only [Act.put,List.setIfInBounds_toArray,List.set_cons_zero,List.set_cons_succ,yV,yU]
  rfl
 refine xO (i:=27) (N:=some 74) (v:=?_) (a':=?_) #[true,true,true,true,true,true,true,true,true,true,true,true,true,true,true,true,true,true,true,true,true,true,true,true,true,true,true,true,false] rfl rfl (by kernel_rfl) (fun _ _ _ h => h) (Or.inl ⟨by rfl,?_⟩) ?_ ?_
 rotate_left
 ·
  intro w'
  go_simp
  with_reducible rfl
 rotate_left
 ·
  simp only [Act.put,List.setIfInBounds_toArray,List.set_cons_zero,List.set_cons_succ,yV,yU]
  rfl
 refine xO (i:=28) (N:=some 75) (v:=?_) (a':=?_) #[true,true,true,true,true,true,true,true,true,true,true,true,true,true,true,true,true,true,true,true,true,true,true,true,true,true,true,true,true] rfl rfl (by kernel_rfl) (fun _ _ _ h => h) (Or.inl ⟨by rfl,?_⟩) ?_ ?_
 rotate_left
 ·
  intro w'
  go_simp
  with_reducible rfl
 rotate_left
 ·
  simp only [Act.put,List.setIfInBounds_toArray,List.set_cons_zero,List.set_cons_succ,yV,yU]
  rfl
 refine done_ (by kernel_rfl) ?_

 clear bx1b bx2b bx5b bx8b bx1c bx2c bx5c bx8c bx1d bx2d bx5d bx8d bx1e bx2e bx5e bx8e HK1 HB9 HB10 HF hHeld
 have HB:=HB11
 clear HB11
 go_wp2_with fail
 refine wp_loop_rounds 5 ?_
 rw [rounds_succ]
 go_wp2_with fail
 refine (lineE _ _ _ _ ex3_w ex3_p _ ?k0).mono ?_
 case k0 => exact HL.out.l (zY (zY HB.out (.cells #[.string ⟨#[103,114,111,117,112,40,100,97,121,41]⟩,.int .i64 2,.string ⟨#[103,114,111,117,112,40,51,44,32,100,97,121]⟩,.int .i64 5,.string ⟨#[97,32,98]⟩,.int .i64 1,.string ⟨#[]⟩,.int .i64 0] 84)) (.cells #[.string ⟨#[103,114,111,117,112,40,100,97,121,41]⟩,.int .i64 2] 84))
 rintro e w12 ⟨F2,g2,F3,g3,rfl,hk,hb⟩
 have HB:=zZ.mk (xN (zY (zY HB.out (.cells #[.string ⟨#[103,114,111,117,112,40,100,97,121,41]⟩,.int .i64 2,.string ⟨#[103,114,111,117,112,40,51,44,32,100,97,121]⟩,.int .i64 5,.string ⟨#[97,32,98]⟩,.int .i64 1,.string ⟨#[]⟩,.int .i64 0] 84)) (.cells #[.string ⟨#[103,114,111,117,112,40,100,97,121,41]⟩,.int .i64 2] 84)) (zY (zY HB.out (.cells #[.string ⟨#[103,114,111,117,112,40,100,97,121,41]⟩,.int .i64 2,.string ⟨#[103,114,111,117,112,40,51,44,32,100,97,121]⟩,.int .i64 5,.string ⟨#[97,32,98]⟩,.int .i64 1,.string ⟨#[]⟩,.int .i64 0] 84)) (.cells #[.string ⟨#[103,114,111,117,112,40,100,97,121,41]⟩,.int .i64 2] 84)).size hb)
 have hbox:=tW hb (wP (w11.alloc (.cells #[.string ⟨#[103,114,111,117,112,40,100,97,121,41]⟩,.int .i64 2,.string ⟨#[103,114,111,117,112,40,51,44,32,100,97,121]⟩,.int .i64 5,.string ⟨#[97,32,98]⟩,.int .i64 1,.string ⟨#[]⟩,.int .i64 0] 84)) (.cells #[.string ⟨#[103,114,111,117,112,40,100,97,121,41]⟩,.int .i64 2] 84))
 rw [show ((w11.alloc (.cells #[.string ⟨#[103,114,111,117,112,40,100,97,121,41]⟩,.int .i64 2,.string ⟨#[103,114,111,117,112,40,51,44,32,100,97,121]⟩,.int .i64 5,.string ⟨#[97,32,98]⟩,.int .i64 1,.string ⟨#[]⟩,.int .i64 0] 84))).heap.size = w11.heap.size + 1 from Array.size_push ..] at hbox
 have row:=zZ.mk (tW hb (zR (wP w11 (.cells #[.string ⟨#[103,114,111,117,112,40,100,97,121,41]⟩,.int .i64 2,.string ⟨#[103,114,111,117,112,40,51,44,32,100,97,121]⟩,.int .i64 5,.string ⟨#[97,32,98]⟩,.int .i64 1,.string ⟨#[]⟩,.int .i64 0] 84)) (.cells #[.string ⟨#[103,114,111,117,112,40,100,97,121,41]⟩,.int .i64 2] 84)))
 have cb : w12.cell? ⟨w11.heap.size + 1,1,none⟩ = some (.int .i64 2):=(zK hbox 1).trans rfl
 have c0 : w12.cell? ⟨w11.heap.size,2,none⟩ = some (.string ⟨#[103,114,111,117,112,40,51,44,32,100,97,121]⟩):=(zK row.out 2).trans rfl
 have c1 : w12.cell? ⟨w11.heap.size,3,none⟩ = some (.int .i64 5):=(zK row.out 3).trans rfl
 have ltr : w11.heap.size < w12.heap.size:=wT row.out
 have ltn : ¬ (w11.heap.size = w12.heap.size):=by omega
 have ltb : w11.heap.size + 1 < w12.heap.size:=wT hbox
 have ltm : ¬ (w11.heap.size + 1 = w12.heap.size):=by omega
 clear hbox hk hb
 go_wp2_with fail
 rw [rounds_succ]
 clear cb ltb ltm
 go_wp2_with fail
 clear c0 c1
 clear ltr ltn
 obtain ⟨E2,hE2⟩ : ∃ E2,E2 = F2:=⟨_,rfl⟩
 obtain ⟨E3,hE3⟩ : ∃ E3,E3 = F3:=⟨_,rfl⟩
 obtain ⟨f2,hf2⟩ : ∃ f2,f2 = g2:=⟨_,rfl⟩
 obtain ⟨f3,hf3⟩ : ∃ f3,f3 = g3:=⟨_,rfl⟩
 subst hE2
 subst hE3
 subst hf2
 subst hf3
 refine (lineE _ _ _ _ ex4_w ex4_p _ ?k1).mono ?_
 case k1 => exact HL.out.l (zY (zY HB.out (.cells #[.int .u8 0,.string ⟨#[]⟩,.slice E2 0 f2,.slice E3 0 f3] TX)) (.cells #[.string ⟨#[103,114,111,117,112,40,51,44,32,100,97,121]⟩,.int .i64 5] 84))
 rintro e w13 ⟨F2,g2,F3,g3,rfl,hk,hb⟩
 have HB:=zZ.mk (xN (zY (zY HB.out (.cells #[.int .u8 0,.string ⟨#[]⟩,.slice E2 0 f2,.slice E3 0 f3] TX)) (.cells #[.string ⟨#[103,114,111,117,112,40,51,44,32,100,97,121]⟩,.int .i64 5] 84)) (zY (zY HB.out (.cells #[.int .u8 0,.string ⟨#[]⟩,.slice E2 0 f2,.slice E3 0 f3] TX)) (.cells #[.string ⟨#[103,114,111,117,112,40,51,44,32,100,97,121]⟩,.int .i64 5] 84)).size hb)
 have hbox:=tW hb (wP (w12.alloc (.cells #[.int .u8 0,.string ⟨#[]⟩,.slice E2 0 f2,.slice E3 0 f3] TX)) (.cells #[.string ⟨#[103,114,111,117,112,40,51,44,32,100,97,121]⟩,.int .i64 5] 84))
 rw [show ((w12.alloc (.cells #[.int .u8 0,.string ⟨#[]⟩,.slice E2 0 f2,.slice E3 0 f3] TX))).heap.size = w12.heap.size + 1 from Array.size_push ..] at hbox
 have row:=zZ.mk (tW hb (zR (zR row.out (.cells #[.int .u8 0,.string ⟨#[]⟩,.slice E2 0 f2,.slice E3 0 f3] TX)) (.cells #[.string ⟨#[103,114,111,117,112,40,51,44,32,100,97,121]⟩,.int .i64 5] 84)))
 have cb : w13.cell? ⟨w12.heap.size + 1,1,none⟩ = some (.int .i64 5):=(zK hbox 1).trans rfl
 have c0 : w13.cell? ⟨w11.heap.size,4,none⟩ = some (.string ⟨#[97,32,98]⟩):=(zK row.out 4).trans rfl
 have c1 : w13.cell? ⟨w11.heap.size,5,none⟩ = some (.int .i64 1):=(zK row.out 5).trans rfl
 have ltr : w11.heap.size < w13.heap.size:=wT row.out
 have ltn : ¬ (w11.heap.size = w13.heap.size):=by omega
 have ltb : w12.heap.size + 1 < w13.heap.size:=wT hbox
 have ltm : ¬ (w12.heap.size + 1 = w13.heap.size):=by omega
 clear hbox hk hb
 go_wp2_with fail
 rw [rounds_succ]
 clear cb ltb ltm
 go_wp2_with fail
 clear c0 c1
 clear ltr ltn
 obtain ⟨E2,hE2⟩ : ∃ E2,E2 = F2:=⟨_,rfl⟩
 obtain ⟨E3,hE3⟩ : ∃ E3,E3 = F3:=⟨_,rfl⟩
 obtain ⟨f2,hf2⟩ : ∃ f2,f2 = g2:=⟨_,rfl⟩
 obtain ⟨f3,hf3⟩ : ∃ f3,f3 = g3:=⟨_,rfl⟩
 subst hE2
 subst hE3
 subst hf2
 subst hf3
 refine (lineE _ _ _ _ ex5_w ex5_p _ ?k2).mono ?_
 case k2 => exact HL.out.l (zY (zY HB.out (.cells #[.int .u8 0,.string ⟨#[]⟩,.slice E2 0 f2,.slice E3 0 f3] TX)) (.cells #[.string ⟨#[97,32,98]⟩,.int .i64 1] 84))
 rintro e w14 ⟨F2,g2,F3,g3,rfl,hk,hb⟩
 have HB:=zZ.mk (xN (zY (zY HB.out (.cells #[.int .u8 0,.string ⟨#[]⟩,.slice E2 0 f2,.slice E3 0 f3] TX)) (.cells #[.string ⟨#[97,32,98]⟩,.int .i64 1] 84)) (zY (zY HB.out (.cells #[.int .u8 0,.string ⟨#[]⟩,.slice E2 0 f2,.slice E3 0 f3] TX)) (.cells #[.string ⟨#[97,32,98]⟩,.int .i64 1] 84)).size hb)
 have hbox:=tW hb (wP (w13.alloc (.cells #[.int .u8 0,.string ⟨#[]⟩,.slice E2 0 f2,.slice E3 0 f3] TX)) (.cells #[.string ⟨#[97,32,98]⟩,.int .i64 1] 84))
 rw [show ((w13.alloc (.cells #[.int .u8 0,.string ⟨#[]⟩,.slice E2 0 f2,.slice E3 0 f3] TX))).heap.size = w13.heap.size + 1 from Array.size_push ..] at hbox
 have row:=zZ.mk (tW hb (zR (zR row.out (.cells #[.int .u8 0,.string ⟨#[]⟩,.slice E2 0 f2,.slice E3 0 f3] TX)) (.cells #[.string ⟨#[97,32,98]⟩,.int .i64 1] 84)))
 have cb : w14.cell? ⟨w13.heap.size + 1,1,none⟩ = some (.int .i64 1):=(zK hbox 1).trans rfl
 have c0 : w14.cell? ⟨w11.heap.size,6,none⟩ = some (.string ⟨#[]⟩):=(zK row.out 6).trans rfl
 have c1 : w14.cell? ⟨w11.heap.size,7,none⟩ = some (.int .i64 0):=(zK row.out 7).trans rfl
 have ltr : w11.heap.size < w14.heap.size:=wT row.out
 have ltn : ¬ (w11.heap.size = w14.heap.size):=by omega
 have ltb : w13.heap.size + 1 < w14.heap.size:=wT hbox
 have ltm : ¬ (w13.heap.size + 1 = w14.heap.size):=by omega
 clear hbox hk hb
 go_wp2_with fail
 rw [rounds_succ]
 clear cb ltb ltm
 go_wp2_with fail
 clear c0 c1
 clear ltr ltn
 obtain ⟨E2,hE2⟩ : ∃ E2,E2 = F2:=⟨_,rfl⟩
 obtain ⟨E3,hE3⟩ : ∃ E3,E3 = F3:=⟨_,rfl⟩
 obtain ⟨f2,hf2⟩ : ∃ f2,f2 = g2:=⟨_,rfl⟩
 obtain ⟨f3,hf3⟩ : ∃ f3,f3 = g3:=⟨_,rfl⟩
 subst hE2
 subst hE3
 subst hf2
 subst hf3
 refine (lineE _ _ _ _ ex6_w ex6_p _ ?k3).mono ?_
 case k3 => exact HL.out.l (zY (zY HB.out (.cells #[.int .u8 0,.string ⟨#[]⟩,.slice E2 0 f2,.slice E3 0 f3] TX)) (.cells #[.string ⟨#[]⟩,.int .i64 0] 84))
 rintro e w15 ⟨F2,g2,F3,g3,rfl,hk,hb⟩
 have HB:=zZ.mk (xN (zY (zY HB.out (.cells #[.int .u8 0,.string ⟨#[]⟩,.slice E2 0 f2,.slice E3 0 f3] TX)) (.cells #[.string ⟨#[]⟩,.int .i64 0] 84)) (zY (zY HB.out (.cells #[.int .u8 0,.string ⟨#[]⟩,.slice E2 0 f2,.slice E3 0 f3] TX)) (.cells #[.string ⟨#[]⟩,.int .i64 0] 84)).size hb)
 have hbox:=tW hb (wP (w14.alloc (.cells #[.int .u8 0,.string ⟨#[]⟩,.slice E2 0 f2,.slice E3 0 f3] TX)) (.cells #[.string ⟨#[]⟩,.int .i64 0] 84))
 rw [show ((w14.alloc (.cells #[.int .u8 0,.string ⟨#[]⟩,.slice E2 0 f2,.slice E3 0 f3] TX))).heap.size = w14.heap.size + 1 from Array.size_push ..] at hbox
 have row:=zZ.mk (tW hb (zR (zR row.out (.cells #[.int .u8 0,.string ⟨#[]⟩,.slice E2 0 f2,.slice E3 0 f3] TX)) (.cells #[.string ⟨#[]⟩,.int .i64 0] 84)))
 have cb : w15.cell? ⟨w14.heap.size + 1,1,none⟩ = some (.int .i64 0):=(zK hbox 1).trans rfl
 have ltr : w11.heap.size < w15.heap.size:=wT row.out
 have ltn : ¬ (w11.heap.size = w15.heap.size):=by omega
 have ltb : w14.heap.size + 1 < w15.heap.size:=wT hbox
 have ltm : ¬ (w14.heap.size + 1 = w15.heap.size):=by omega
 clear hbox hk hb
 go_wp2_with fail
 rw [rounds_succ]
 clear cb ltb ltm
 go_wp2_with fail
 clear ltr ltn
 obtain ⟨E2,hE2⟩ : ∃ E2,E2 = F2:=⟨_,rfl⟩
 obtain ⟨E3,hE3⟩ : ∃ E3,E3 = F3:=⟨_,rfl⟩
 obtain ⟨f2,hf2⟩ : ∃ f2,f2 = g2:=⟨_,rfl⟩
 obtain ⟨f3,hf3⟩ : ∃ f3,f3 = g3:=⟨_,rfl⟩
 subst hE2
 subst hE3
 subst hf2
 subst hf3
 refine (lineE _ _ _ _ ex7_w ex7_p _ ?k7).mono ?_
 case k7 => exact HL.out.l (zY HB.out (.cells #[.int .u8 0,.string ⟨#[]⟩,.slice E2 0 f2,.slice E3 0 f3] TX))
 rintro e w16 ⟨G2,h2,G3,h3,rfl,hk,hb⟩
 have HB:=zZ.mk (xN (zY HB.out (.cells #[.int .u8 0,.string ⟨#[]⟩,.slice E2 0 f2,.slice E3 0 f3] TX)) (zY HB.out (.cells #[.int .u8 0,.string ⟨#[]⟩,.slice E2 0 f2,.slice E3 0 f3] TX)).size hb)
 have b14:=zZ.mk (wP w16 (.cells #[.int .u8 0,.string ⟨#[103,114,111,117,112]⟩,.slice G2 0 h2,.slice G3 0 h3] TX))
 clear hk hb row
 go_wp2_with fail
 refine (lineC _ _ _ _ cm1_w cm1_p _ ?m1).mono ?_
 case m1 => exact HL.out.l (zY HB.out (.cells #[.int .u8 0,.string ⟨#[103,114,111,117,112]⟩,.slice G2 0 h2,.slice G3 0 h3] TX))
 rintro e w17 ⟨AN1,cN1,AM1,nM1,cM1,P1,p1,q1,R1,r1,t1,rfl,hl1,hN1,hb⟩
 have HB:=zZ.mk (xN (zY HB.out (.cells #[.int .u8 0,.string ⟨#[103,114,111,117,112]⟩,.slice G2 0 h2,.slice G3 0 h3] TX)) (zY HB.out (.cells #[.int .u8 0,.string ⟨#[103,114,111,117,112]⟩,.slice G2 0 h2,.slice G3 0 h3] TX)).size hb)
 have b14:=zZ.mk (zR (tW hb b14.out) (.cells #[.string ⟨#[98,111,117,110,100]⟩,.slice AN1 3 cN1,.slice AM1 nM1 cM1,.int .i64 1,.int .i64 0,.bool true,.bool false,.int .u8 0,.string ⟨#[]⟩,.slice P1 p1 q1,.slice R1 r1 t1] TC))
 have b17:=zZ.mk (wP w17 (.cells #[.string ⟨#[98,111,117,110,100]⟩,.slice AN1 3 cN1,.slice AM1 nM1 cM1,.int .i64 1,.int .i64 0,.bool true,.bool false,.int .u8 0,.string ⟨#[]⟩,.slice P1 p1 q1,.slice R1 r1 t1] TC))
 have HN:=zZ.mk (Kd.C_below hN1 (zY (Below.refl _ _) (.cells #[.string ⟨#[98,111,117,110,100]⟩,.slice AN1 3 cN1,.slice AM1 nM1 cM1,.int .i64 1,.int .i64 0,.bool true,.bool false,.int .u8 0,.string ⟨#[]⟩,.slice P1 p1 q1,.slice R1 r1 t1] TC)))
 have HL1:=zZ.mk hl1
 clear hb hN1 hl1
 go_wp2_with fail
 refine (lineC _ _ _ _ cm2_w cm2_p _ ?m2).mono ?_
 case m2 => exact HL.out.l (zY HB.out (.cells #[.string ⟨#[98,111,117,110,100]⟩,.slice AN1 3 cN1,.slice AM1 nM1 cM1,.int .i64 1,.int .i64 0,.bool true,.bool false,.int .u8 0,.string ⟨#[]⟩,.slice P1 p1 q1,.slice R1 r1 t1] TC))
 rintro e w18 ⟨AN2,cN2,AM2,nM2,cM2,P2,p2,q2,R2,r2,t2,rfl,hl2,hN2,hb⟩
 have HB:=zZ.mk (xN (zY HB.out (.cells #[.string ⟨#[98,111,117,110,100]⟩,.slice AN1 3 cN1,.slice AM1 nM1 cM1,.int .i64 1,.int .i64 0,.bool true,.bool false,.int .u8 0,.string ⟨#[]⟩,.slice P1 p1 q1,.slice R1 r1 t1] TC)) (zY HB.out (.cells #[.string ⟨#[98,111,117,110,100]⟩,.slice AN1 3 cN1,.slice AM1 nM1 cM1,.int .i64 1,.int .i64 0,.bool true,.bool false,.int .u8 0,.string ⟨#[]⟩,.slice P1 p1 q1,.slice R1 r1 t1] TC)).size hb)
 have b14:=zZ.mk (zR (tW hb b14.out) (.cells #[.string ⟨#[100,101,102,105,110,101]⟩,.slice AN2 1 cN2,.slice AM2 nM2 cM2,.int .i64 0,.int .i64 0,.bool false,.bool false,.int .u8 0,.string ⟨#[98]⟩,.slice P2 p2 q2,.slice R2 r2 t2] TC))
 have b17:=zZ.mk (zR (tW hb b17.out) (.cells #[.string ⟨#[100,101,102,105,110,101]⟩,.slice AN2 1 cN2,.slice AM2 nM2 cM2,.int .i64 0,.int .i64 0,.bool false,.bool false,.int .u8 0,.string ⟨#[98]⟩,.slice P2 p2 q2,.slice R2 r2 t2] TC))
 have b20:=zZ.mk (wP w18 (.cells #[.string ⟨#[100,101,102,105,110,101]⟩,.slice AN2 1 cN2,.slice AM2 nM2 cM2,.int .i64 0,.int .i64 0,.bool false,.bool false,.int .u8 0,.string ⟨#[98]⟩,.slice P2 p2 q2,.slice R2 r2 t2] TC))
 have HN:=zZ.mk (Kd.C_below (Kd.C_below HN.out hb) (zY (Below.refl _ _) (.cells #[.string ⟨#[100,101,102,105,110,101]⟩,.slice AN2 1 cN2,.slice AM2 nM2 cM2,.int .i64 0,.int .i64 0,.bool false,.bool false,.int .u8 0,.string ⟨#[98]⟩,.slice P2 p2 q2,.slice R2 r2 t2] TC)))
 clear hb hN2 hl2
 go_wp2_with fail
 refine (lineC _ _ _ _ cm3_w cm3_p _ ?m3).mono ?_
 case m3 => exact HL.out.l (zY HB.out (.cells #[.string ⟨#[100,101,102,105,110,101]⟩,.slice AN2 1 cN2,.slice AM2 nM2 cM2,.int .i64 0,.int .i64 0,.bool false,.bool false,.int .u8 0,.string ⟨#[98]⟩,.slice P2 p2 q2,.slice R2 r2 t2] TC))
 rintro e w19 ⟨AN3,cN3,AM3,nM3,cM3,P3,p3,q3,R3,r3,t3,rfl,hl3,hN3,hb⟩
 have HB:=zZ.mk (xN (zY HB.out (.cells #[.string ⟨#[100,101,102,105,110,101]⟩,.slice AN2 1 cN2,.slice AM2 nM2 cM2,.int .i64 0,.int .i64 0,.bool false,.bool false,.int .u8 0,.string ⟨#[98]⟩,.slice P2 p2 q2,.slice R2 r2 t2] TC)) (zY HB.out (.cells #[.string ⟨#[100,101,102,105,110,101]⟩,.slice AN2 1 cN2,.slice AM2 nM2 cM2,.int .i64 0,.int .i64 0,.bool false,.bool false,.int .u8 0,.string ⟨#[98]⟩,.slice P2 p2 q2,.slice R2 r2 t2] TC)).size hb)
 have b14:=zZ.mk (zR (tW hb b14.out) (.cells #[.string ⟨#[]⟩,.slice AN3 0 cN3,.slice AM3 nM3 cM3,.int .i64 0,.int .i64 0,.bool false,.bool false,.int .u8 0,.string ⟨#[]⟩,.slice P3 p3 q3,.slice R3 r3 t3] TC))
 have b17:=zZ.mk (zR (tW hb b17.out) (.cells #[.string ⟨#[]⟩,.slice AN3 0 cN3,.slice AM3 nM3 cM3,.int .i64 0,.int .i64 0,.bool false,.bool false,.int .u8 0,.string ⟨#[]⟩,.slice P3 p3 q3,.slice R3 r3 t3] TC))
 have b20:=zZ.mk (zR (tW hb b20.out) (.cells #[.string ⟨#[]⟩,.slice AN3 0 cN3,.slice AM3 nM3 cM3,.int .i64 0,.int .i64 0,.bool false,.bool false,.int .u8 0,.string ⟨#[]⟩,.slice P3 p3 q3,.slice R3 r3 t3] TC))
 have HN:=zZ.mk (Kd.C_below (Kd.C_below HN.out hb) (zY (Below.refl _ _) (.cells #[.string ⟨#[]⟩,.slice AN3 0 cN3,.slice AM3 nM3 cM3,.int .i64 0,.int .i64 0,.bool false,.bool false,.int .u8 0,.string ⟨#[]⟩,.slice P3 p3 q3,.slice R3 r3 t3] TC)))
 clear hb hN3 hl3
 go_wp2_with fail
 refine (lineC _ _ _ _ cm4_w cm4_p _ ?m4).mono ?_
 case m4 => exact HL.out.l (zY HB.out (.cells #[.string ⟨#[]⟩,.slice AN3 0 cN3,.slice AM3 nM3 cM3,.int .i64 0,.int .i64 0,.bool false,.bool false,.int .u8 0,.string ⟨#[]⟩,.slice P3 p3 q3,.slice R3 r3 t3] TC))
 rintro e w20 ⟨AN4,cN4,AM4,nM4,cM4,P4,p4,q4,R4,r4,t4,rfl,hl4,hN4,hb⟩
 have HB:=zZ.mk (xN (zY HB.out (.cells #[.string ⟨#[]⟩,.slice AN3 0 cN3,.slice AM3 nM3 cM3,.int .i64 0,.int .i64 0,.bool false,.bool false,.int .u8 0,.string ⟨#[]⟩,.slice P3 p3 q3,.slice R3 r3 t3] TC)) (zY HB.out (.cells #[.string ⟨#[]⟩,.slice AN3 0 cN3,.slice AM3 nM3 cM3,.int .i64 0,.int .i64 0,.bool false,.bool false,.int .u8 0,.string ⟨#[]⟩,.slice P3 p3 q3,.slice R3 r3 t3] TC)).size hb)
 have b14:=tW hb b14.out
 have b17:=tW hb b17.out
 have b20:=tW hb b20.out
 have HN:=zZ.mk (Kd.C_below HN.out hb)
 clear hb hN4 hl4
 have e0 : w20.cell? ⟨w16.heap.size,1,none⟩ = some (.string ⟨#[103,114,111,117,112]⟩):=(zK b14 1).trans rfl
 have e1 : w20.cell? ⟨w17.heap.size,1,none⟩ = some (.slice AN1 3 cN1):=(zK b17 1).trans rfl
 have e3 : w20.cell? ⟨w17.heap.size,3,none⟩ = some (.int .i64 1):=(zK b17 3).trans rfl
 have e4 : w20.cell? ⟨w17.heap.size,4,none⟩ = some (.int .i64 0):=(zK b17 4).trans rfl
 have e5 : w20.cell? ⟨w17.heap.size,5,none⟩ = some (.bool true):=(zK b17 5).trans rfl
 have e6 : w20.cell? ⟨w17.heap.size,6,none⟩ = some (.bool false):=(zK b17 6).trans rfl
 have e7 : w20.cell? ⟨w18.heap.size,1,none⟩ = some (.slice AN2 1 cN2):=(zK b20 1).trans rfl
 have e8 : w20.cell? ⟨w18.heap.size,8,none⟩ = some (.string ⟨#[98]⟩):=(zK b20 8).trans rfl
 have l16:=wT b14
 have l17:=wT b17
 have l18:=wT b20
 have n16 : ¬ (w16.heap.size = w20.heap.size):=by omega
 have n17 : ¬ (w17.heap.size = w20.heap.size):=by omega
 have n18 : ¬ (w18.heap.size = w20.heap.size):=by omega
 clear b14 b17 b20
 have CT : ∀ (A1 : Option Addr) (c1 : Nat) (W : World),kT.C W AN1 3 [⟨#[120]⟩,⟨#[121]⟩,⟨#[100,97,121]⟩] → kT.C W A1 3 [⟨#[120]⟩,⟨#[121]⟩,⟨#[100,97,121]⟩] → 3 ≤ c1 → Calls Tryd.prog 15 #[.slice AN1 3 cN1,.slice A1 3 c1] W fun e w' => e = .returned (.bool true) ∧ Drawn0 W w' :=
  fun A1 c1 W h1 h2 h3 => pQ.calls 9 AN1 cN1 [⟨#[120]⟩,⟨#[121]⟩,⟨#[100,97,121]⟩] A1 c1 [⟨#[120]⟩,⟨#[121]⟩,⟨#[100,97,121]⟩] true W h1 HL1.out h2 h3 (by decide +kernel)
 go_wp2_with fail
 refine (CT _ _ _ ?x1 ?x2 ?x3).mono ?_
 case x1 => exact Kd.C_below (Kd.C_below HN.out (zY (Below.refl _ _) (.cells #[.string ⟨#[]⟩,.slice AN4 0 cN4,.slice AM4 nM4 cM4,.int .i64 0,.int .i64 0,.bool false,.bool false,.int .u8 0,.string ⟨#[]⟩,.slice P4 p4 q4,.slice R4 r4 t4] TC))) (zY (Below.refl _ _) (.cells #[.string ⟨#[120]⟩,.string ⟨#[121]⟩,.string ⟨#[100,97,121]⟩] TS))
 case x2 =>
  have hns:=wP (w20.alloc (.cells #[.string ⟨#[]⟩,.slice AN4 0 cN4,.slice AM4 nM4 cM4,.int .i64 0,.int .i64 0,.bool false,.bool false,.int .u8 0,.string ⟨#[]⟩,.slice P4 p4 q4,.slice R4 r4 t4] TC)) (.cells #[.string ⟨#[120]⟩,.string ⟨#[121]⟩,.string ⟨#[100,97,121]⟩] TS)
  rw [show (w20.alloc (.cells #[.string ⟨#[]⟩,.slice AN4 0 cN4,.slice AM4 nM4 cM4,.int .i64 0,.int .i64 0,.bool false,.bool false,.int .u8 0,.string ⟨#[]⟩,.slice P4 p4 q4,.slice R4 r4 t4] TC)).heap.size = w20.heap.size + 1 from Array.size_push ..] at hns
  exact rowS (l:=[⟨#[120]⟩,⟨#[121]⟩,⟨#[100,97,121]⟩]) (by decide) hns
 case x3 => exact Nat.le_refl 3
 rintro e w21 ⟨rfl,⟨m,rfl⟩⟩
 clear CT HN HL1
 go_wp2
 go_ret
 exact ⟨rfl,zV (zY (zY HB.out _) _) m⟩
theorem gW : (Tryd.prog.info? 61).map (fun i => (i.zero,i.size,i.bytes)) = some (some (.agg #[.int .u8 0,.string nil8,.int .i64 0]),3,32):=by kernel_rfl
theorem info_tok7 : (Tryd.prog.info? 61).map (·.size) = some 3:=by kernel_rfl
theorem cut_last (A : Option Addr) (n M c : Nat) (h : n = M + 1) (hc : n ≤ c) : ∀ W : World,(Instr.slice 43 (.slice A n c) none (some (.int .i64 ((n : Int) - 1))) none).run Tryd.prog W = .ok (.slice A M c) W:=by
 obtain ⟨i,hi,_⟩:=Option.map_eq_some_iff.1 gW
 have:=cut_to 43 61 .i64 Tryd.underlying43 hi A n c ((n : Int) - 1) (by omega) (by omega) hc
 rwa [show ((n : Int) - 1).toNat = M by omega] at this
theorem cut_first (A : Option Addr) (n M c : Nat) (h : n = M + 1) : ∀ W : World,(Instr.slice 43 (.slice A n c) (some (.int .i64 1)) none none).run Tryd.prog W = .ok (.slice (if c = 1 then A else A.map (·.add 3)) M (c - 1)) W:=by
 obtain ⟨i,hi,hs⟩:=Option.map_eq_some_iff.1 info_tok7
 have:=cut_from 43 61 .i64 Tryd.underlying43 hi 3 hs A n c 1 (by omega) (by omega)
 rw [show n - (1 : Int).toNat = M by omega] at this
 exact this
theorem lit1_R (W : World) (base : Nat) (hb : base ≤ W.heap.size) (s : ByteArray) (n : Nat) (hn : n = W.heap.size) :
  Kd.R k61 61 (W.alloc (.cells #[.int .u8 1,.string s,.int .i64 0] 61)) base (fun _ => True) (.slice (some ⟨n,0,none⟩) 1 1) [wTok s]:=by
 subst hn
 have hr : ∀ ok,Reps (k61.M (W.alloc (.cells #[.int .u8 1,.string s,.int .i64 0] 61)) base ok) 3 [wTok s] [.int .u8 1,.string s,.int .i64 0]:=fun ok =>
  ((Reps.none _ _).snoc (uE _ _ ok (wTok s)) rfl)
 exact ⟨fun _ _ => trivial,OwnRow.lit W base (hr _) hb (by simp)⟩
theorem shape_parse {s : ByteArray} {r : List Tok} {C : Cmd} {a : Int} (h : parseC (wTok s :: r) = (C,a,0)) : nameB s = true:=by
 have e : parseC (wTok s :: r) = if (wTok s).f0 ≠ 1 then (zC,0,110) else if (shapeF s).2 = false then (zC,0,110) else endC ((r.length : Int) + 1) (foldF (lets (shapeF s).1) (wC s) r 0):=rfl
 rw [e,if_neg (by simp)] at h
 by_cases h2 : (shapeF s).2 = false
 ·
  rw [if_pos h2] at h
  have h3:=congrArg (fun q => q.2.2) h
  cases h3
 ·
  have h3 : (shapeF s).2 = true:=by simpa using h2
  have hw : ∀ q ∈ shapeL,nameB q.2 = true:=by decide +kernel
  unfold shapeF at h3
  rcases gT s shapeL with h|⟨q,hq,h,he⟩
  · rw [h] at h3; cases h3
  · rw [← oL.1 (eq_of_beq he)]; exact hw q hq
set_option maxHeartbeats 64000000 in
set_option maxRecDepth 100000 in
theorem zTW (c : Cmd) (A1 : Option Addr) (c1 : Nat) (A2 : Option Addr) (c2 : Nat) (A3 : Option Addr) (c3 : Nat) (A4 : Option Addr) (c4 : Nat) (s : ByteArray) (hs : s.size ≤ 1048576) (w : World) (hL : Cal w) (hc : HasC w c A1 c1 A2 c2 A3 c3 A4 c4) (hcn : cnt c.x ≤ 1048576) :
  Calls Tryd.prog 9 #[.agg (cmA c A1 c1 A2 c2 A3 c3 A4 c4),.string s] w fun e w' => e = .returned (.bool true) ∧ Below w.heap.size w w':=by
 have HL:=fun W (h : Below w.heap.size w W) => hL.l h
 have AW:=fun W (h : Below w.heap.size w W) => zZ.mk (awake_calls W (HL W h))
 have CR:=fun W (h : Below w.heap.size w W) => zZ.mk (zTQ c A1 c1 A2 c2 A3 c3 A4 c4 W (hc.below h) hcn)
 have CC:=fun W (h : Below w.heap.size w W) => zZ.mk (zTU c.x A3 c3 A4 c4 W (hc.has.below h) hcn)
 by_cases hR : rightC c = true
 case neg =>
  have hR' : rightC c = false:=by simpa using hR
  rw [hR'] at CR
  clear CC hR hR' hc hL HL hcn
  unfold cmA at *
  obtain ⟨wd,NS,ms,lo,hi,hl,hh,⟨o,nm,os,xs⟩⟩:=c
  dsimp only at *
  generalize NS.length = N1 at *
  generalize ms.length = N2 at *
  generalize os.length = n3 at *
  generalize xs.length = n4 at *
  have hk0 : (w.alloc (cmO wd A1 N1 c1 A2 N2 c2 lo hi hl hh o nm A3 n3 c3 A4 n4 c4)).heap[w.heap.size]? = some (cmO wd A1 N1 c1 A2 N2 c2 lo hi hl hh o nm A3 n3 c3 A4 n4 c4):=wP w (cmO wd A1 N1 c1 A2 N2 c2 lo hi hl hh o nm A3 n3 c3 A4 n4 c4)
  have HB1:=zZ.mk (show Below w.heap.size w (w.alloc (cmO wd A1 N1 c1 A2 N2 c2 lo hi hl hh o nm A3 n3 c3 A4 n4 c4)) from zY (Below.refl _ _) _)
  have HY1:=zZ.mk hk0
  clear hk0
  obtain ⟨y0,y1,y2,y3,y4,y5,y6,y7,y8,y9,y10⟩:=cellsC HY1.out
  go_enter Tryd.func9,Tryd.ntmps9
  go_wp2_with fail
  refine ((CR _ HB1.out).out).mono ?_
  rintro e w2 ⟨rfl,hb⟩
  have HB2:=zZ.mk (xN HB1.out HB1.out.size hb)
  have HY2:=zZ.mk (xX HY1.out hb)
  clear hb HY1 CR
  clear y0 y1 y2 y3 y4 y5 y6 y7 y8 y9 y10
  obtain ⟨y0,y1,y2,y3,y4,y5,y6,y7,y8,y9,y10⟩:=cellsC HY2.out
  go_wp2_with fail
  (with_reducible refine (AW _ HB2.out).out.mono ?_)
  rintro e wf ⟨rfl,hb⟩
  have HF:=zZ.mk (xN HB2.out HB2.out.size hb)
  clear hb
  go_wp2
  go_ret
  exact ⟨rfl,HF.out⟩
 have hO : Ok c:=⟨⟨hc.ints,hc.lo64,hc.hi64⟩,hc.has.wf,hR⟩
 have hx:=hO.x
 rw [hR] at CR
 have hg:=wordsC_good hO.i hO.wf hR
 have hpw:=parse_words hO.wf hR
 have hpos : 0 < (wordsC c).length:=by unfold wordsC; simp
 have hle:=wordsC_le hO.wf hR
 obtain ⟨n,hn⟩ : ∃ n,(wordsC c).length = n:=⟨_,rfl⟩
 obtain ⟨M,hM⟩ : ∃ M,(wordsC c).tail.length = M:=⟨_,rfl⟩
 have hnM : n = M + 1:=by have:=List.length_tail (l:=wordsC c); omega
 have hM2 : ((wordsC c).take M).length = M:=by rw [List.length_take]; omega
 have hn4 : (wTok s :: (wordsC c).tail).length = n:=by rw [List.length_cons]; omega
 have CT:=fun W (h : Below w.heap.size w W) => zZ.mk (Told_calls c hR A1 c1 A2 c2 A3 c3 A4 c4 W (hc.below h) n hn)
 have CS:=fun D E1 f1 E2 f2 E3 f3 E4 f4 W (h : Below w.heap.size w W) hz => zZ.mk (same_calls c A1 c1 A2 c2 A3 c3 A4 c4 D E1 f1 E2 f2 E3 f3 E4 f4 W (hc.below h) hz)
 have CS0:=CS c
 rw [gU c] at CS0
 have CP1:=fun B d W (h : Below w.heap.size w W) hK hd => zZ.mk (dR (wordsC c) c (-1) 0 hpw (fun _ => hg) B n d W hn hK hd (HL W h))
 obtain ⟨F,fa,fg,hF⟩ : ∃ F a g,parseC (wordsC c).tail = (F,a,g):=⟨_,_,_,rfl⟩
 have CP2:=fun B d W (h : Below w.heap.size w W) hK hd => zZ.mk (dR (wordsC c).tail F fa fg hF (fun _ t ht => hg t (List.mem_of_mem_tail ht)) B M d W hM hK hd (HL W h))
 obtain ⟨H,ha,hgx,hH⟩ : ∃ F a g,parseC ((wordsC c).take M) = (F,a,g):=⟨_,_,_,rfl⟩
 have CP3:=fun B d W (h : Below w.heap.size w W) hK hd => zZ.mk (dR ((wordsC c).take M) H ha hgx hH (fun _ t ht => hg t (List.mem_of_mem_take ht)) B M d W hM2 hK hd (HL W h))
 obtain ⟨O,oa,og,hOO⟩ : ∃ F a g,parseC (wTok s :: (wordsC c).tail) = (F,a,g):=⟨_,_,_,rfl⟩
 have CP4:=fun B d W (h : Below w.heap.size w W) hK hd => zZ.mk (dR (wTok s :: (wordsC c).tail) O oa og hOO (fun h0 t ht => by
  subst h0
  rcases List.mem_cons.1 ht with ht|ht
  · rw [ht]; exact good_w (shape_parse hOO)
  · exact hg t (List.mem_of_mem_tail ht)) B n d W hn4 hK hd (HL W h))
 have PF:=zZ.mk (fun (h : fg = 0) => sameC_no (c:=c) (d:=F) (fun e => less_first (c:=c) (C:=F) (a:=fa) (by rw [hF,h]) e.symm))
 have PH:=zZ.mk (fun (h : hgx = 0) => sameC_no (c:=c) (d:=H) (fun e => less_last (c:=c) (C:=H) (a:=ha) (by rw [hn,show n - 1 = M by omega,hH,h]) e.symm))
 have PO:=zZ.mk (fun (h : s = c.word) => show O = c ∧ og = 0 by
  rw [h,← zXB c,hpw] at hOO
  simp only [Prod.mk.injEq] at hOO
  exact ⟨hOO.1.symm,hOO.2.2.symm⟩)
 have PW:=zZ.mk (fun (h : og = 0) => show O.word = s from other_word (C:=O) (a:=oa) (by rw [hOO,h]))
 have K0:=zZ.mk (zXB c)
 obtain ⟨WC,hWC⟩ : ∃ L,L = wordsC c:=⟨_,rfl⟩
 rw [← hWC] at CT CP1 CP2 CP3 CP4 hM hM2 hn hn4 K0 hg hle
 have SF:=CS F
 have SH:=CS H
 have SO:=CS O
 obtain ⟨K,hK⟩ : ∃ K,K = cnt c.x:=⟨_,rfl⟩
 rw [← hK] at CC hx
 have g1 : ¬ (2000 : Int) < (K : Int):=by omega
 have g2 : decide ((2000 : Int) < (K : Int)) = false:=decide_eq_false g1
 have HnM:=zZ.mk hnM
 have MB:=zZ.mk (show M ≤ 300001 by omega)
 have HM:=zZ.mk hM
 have Hn:=zZ.mk hn
 have Hn4:=zZ.mk hn4
 have BN:=zZ.mk (show WC.length ≤ 9223372036854775807 ∨ True from .inr trivial)
 clear hc hL HL hcn hx hle hg hpw hpos hK hWC hF hH hOO CS hO hR hn hM hM2 hn4 BN K0 hnM
 unfold cmA agg at *
 obtain ⟨wd,NS,ms,lo,hi,hl,hh,⟨o,nm,os,xs⟩⟩:=c
 obtain ⟨fw,fNS,fms,flo,fhi,fhl,fhh,⟨fo,fnm,fos,fxs⟩⟩:=F
 obtain ⟨vw,vNS,vms,vlo,vhi,vhl,vhh,⟨vo,vnm,vos,vxs⟩⟩:=H
 obtain ⟨kw,kNS,kms,klo,khi,khl,khh,⟨ko,knm,kos,kxs⟩⟩:=O
 dsimp only at *
 generalize NS.length = N1 at *
 generalize ms.length = N2 at *
 generalize os.length = n3 at *
 generalize xs.length = n4 at *
 generalize fNS.length = fN1 at *
 generalize fms.length = fN2 at *
 generalize fos.length = fn3 at *
 generalize fxs.length = fn4 at *
 generalize vNS.length = vN1 at *
 generalize vms.length = vN2 at *
 generalize vos.length = vn3 at *
 generalize vxs.length = vn4 at *
 generalize kNS.length = kN1 at *
 generalize kms.length = kN2 at *
 generalize kos.length = kn3 at *
 generalize kxs.length = kn4 at *
 have hk0 : (w.alloc (cmO wd A1 N1 c1 A2 N2 c2 lo hi hl hh o nm A3 n3 c3 A4 n4 c4)).heap[w.heap.size]? = some (cmO wd A1 N1 c1 A2 N2 c2 lo hi hl hh o nm A3 n3 c3 A4 n4 c4):=wP w (cmO wd A1 N1 c1 A2 N2 c2 lo hi hl hh o nm A3 n3 c3 A4 n4 c4)
 have HB1:=zZ.mk (show Below w.heap.size w (w.alloc (cmO wd A1 N1 c1 A2 N2 c2 lo hi hl hh o nm A3 n3 c3 A4 n4 c4)) from zY (Below.refl _ _) _)
 have HY1:=zZ.mk hk0
 clear hk0
 obtain ⟨y0,y1,y2,y3,y4,y5,y6,y7,y8,y9,y10⟩:=cellsC HY1.out
 go_enter Tryd.func9,Tryd.ntmps9
 go_wp2_with fail
 refine ((CR _ HB1.out).out).mono ?_
 rintro e w2 ⟨rfl,hb⟩
 have HB2:=zZ.mk (xN HB1.out HB1.out.size hb)
 have HY2:=zZ.mk (xX HY1.out hb)
 clear hb HY1 CR
 clear y0 y1 y2 y3 y4 y5 y6 y7 y8 y9 y10
 obtain ⟨y0,y1,y2,y3,y4,y5,y6,y7,y8,y9,y10⟩:=cellsC HY2.out
 go_wp2_with fail
 refine ((CC _ HB2.out).out).mono ?_
 rintro e w3 ⟨rfl,hb⟩
 have HB3:=zZ.mk (xN HB2.out HB2.out.size hb)
 have HY3:=zZ.mk (xX HY2.out hb)
 clear hb HY2 CC
 clear y0 y1 y2 y3 y4 y5 y6 y7 y8 y9 y10
 obtain ⟨y0,y1,y2,y3,y4,y5,y6,y7,y8,y9,y10⟩:=cellsC HY3.out
 go_wp2_with fail
 refine ((CT _ HB3.out).out).mono ?_
 rintro e w4 ⟨B,d,rfl,hd,hK,hb⟩
 have KT:=zZ.mk hK
 have HD:=zZ.mk hd
 clear hK hd
 have HB4:=zZ.mk (xN HB3.out HB3.out.size hb)
 have HY4:=zZ.mk (xX HY3.out hb)
 clear hb HY3 CT
 clear y0 y1 y2 y3 y4 y5 y6 y7 y8 y9 y10
 obtain ⟨y0,y1,y2,y3,y4,y5,y6,y7,y8,y9,y10⟩:=cellsC HY4.out
 go_wp2_with fail
 (with_reducible refine (CP1 _ _ _ HB4.out KT.out HD.out).out.mono ?_)
 rintro e w5x ⟨E1,Ec1,E2,Ec2,E3,Ec3,E4,Ec4,rfl,hz,hb⟩
 have hbA : Below w5x.heap.size w5x (w5x.alloc (cmO wd E1 N1 Ec1 E2 N2 Ec2 lo hi hl hh o nm E3 n3 Ec3 E4 n4 Ec4)):=zY (Below.refl _ _) _
 have HB5x:=zZ.mk (xN HB4.out HB4.out.size hb)
 have HB5:=zZ.mk (xN HB5x.out HB5x.out.size hbA)
 have HY5:=zZ.mk (xX (xX HY4.out hb) hbA)
 have QE:=zZ.mk (wP w5x (cmO wd E1 N1 Ec1 E2 N2 Ec2 lo hi hl hh o nm E3 n3 Ec3 E4 n4 Ec4))
 have GE:=zZ.mk (fun h0 => (hz h0).below hbA)
 have KT:=zZ.mk (Kd.C_below (Kd.C_below KT.out hb) hbA)
 clear hb hbA hz HY4 CP1 HB5x
 clear y0 y1 y2 y3 y4 y5 y6 y7 y8 y9 y10
 obtain ⟨y0,y1,y2,y3,y4,y5,y6,y7,y8,y9,y10⟩:=cellsC HY5.out
 obtain ⟨q0,q1,q2,q3,q4,q5,q6,q7,q8,q9,q10⟩:=cellsC QE.out
 go_wp2_with fail
 (with_reducible refine (CS0 _ _ _ _ _ _ _ _ _ HB5.out (GE.out (by trivial))).out.mono ?_)
 rintro e w6 ⟨rfl,hb⟩
 clear q0 q1 q2 q3 q4 q5 q6 q7 q8 q9 q10
 have HB6:=zZ.mk (xN HB5.out HB5.out.size hb)
 have HY6:=zZ.mk (xX HY5.out hb)
 have KT:=zZ.mk (Kd.C_below KT.out hb)
 clear hb HY5 CS0 QE GE
 clear y0 y1 y2 y3 y4 y5 y6 y7 y8 y9 y10
 obtain ⟨y0,y1,y2,y3,y4,y5,y6,y7,y8,y9,y10⟩:=cellsC HY6.out
 have BNd:=zZ.mk (Kd.C_max KT.out)
 have cr1:=cut_first B n M d HnM.out
 have cw0 : wrap64 ((n : Int) - 1) = (M : Int):=by have:=HnM.out; have:=BNd.out; rw [Ex.w64 (by omega) (by omega)]; omega
 have cr2 : ∀ W : World,(Instr.slice 43 (.slice B n d) none (some (.int .i64 (M : Int))) none).run Tryd.prog W = .ok (.slice B M d) W:=fun W => by
  have h:=cut_last B n M d HnM.out HD.out W
  rwa [show ((n : Int) - 1) = (M : Int) by have:=HnM.out; omega] at h
 have kr1 : Kd.C k61 w6 (if d = 1 then B else B.map (·.add 3)) M WC.tail:=by
  have h:=Kd.C_drop (m:=1) (xs:=WC) (by rw [Hn.out]; exact KT.out) (by rw [Hn.out]; have:=HnM.out; omega) (by rw [Hn.out]; exact HD.out)
  rw [List.drop_one,HM.out] at h
  exact h
 have kr2 : Kd.C k61 w6 B M (WC.take M):=by
  have h:=Kd.C_take (m:=M) (xs:=WC) (by rw [Hn.out]; exact KT.out) (by rw [Hn.out]; have:=HnM.out; omega)
  rwa [show (WC.take M).length = M by rw [List.length_take,Hn.out]; have:=HnM.out; omega] at h
 obtain ⟨B2,hB2⟩ : ∃ B2,B2 = (if d = 1 then B else B.map (·.add 3)):=⟨_,rfl⟩
 rw [← hB2] at cr1 kr1
 have K1:=zZ.mk kr1
 have K2:=zZ.mk kr2
 have d1 : M ≤ d - 1:=by have:=HnM.out; have:=HD.out; omega
 have d2 : M ≤ d:=by have:=HnM.out; have:=HD.out; omega
 have D1:=zZ.mk d1
 have D2:=zZ.mk d2
 clear kr1 kr2 hB2 KT d1 d2
 go_wp2_with fail
 (with_reducible refine (CP2 _ _ _ HB6.out K1.out D1.out).out.mono ?_)
 rintro e w7x ⟨U1,Uc1,U2,Uc2,U3,Uc3,U4,Uc4,rfl,hz,hb⟩
 have hbA : Below w7x.heap.size w7x (w7x.alloc (cmO fw U1 fN1 Uc1 U2 fN2 Uc2 flo fhi fhl fhh fo fnm U3 fn3 Uc3 U4 fn4 Uc4)):=zY (Below.refl _ _) _
 have HB7x:=zZ.mk (xN HB6.out HB6.out.size hb)
 have HB7:=zZ.mk (xN HB7x.out HB7x.out.size hbA)
 have HY7:=zZ.mk (xX (xX HY6.out hb) hbA)
 have QU:=zZ.mk (wP w7x (cmO fw U1 fN1 Uc1 U2 fN2 Uc2 flo fhi fhl fhh fo fnm U3 fn3 Uc3 U4 fn4 Uc4))
 have GU:=zZ.mk (fun h0 => (hz h0).below hbA)
 have K1:=zZ.mk (Kd.C_below (Kd.C_below K1.out hb) hbA)
 have K2:=zZ.mk (Kd.C_below (Kd.C_below K2.out hb) hbA)
 clear hb hbA hz HY6 CP2 HB7x
 clear y0 y1 y2 y3 y4 y5 y6 y7 y8 y9 y10
 obtain ⟨y0,y1,y2,y3,y4,y5,y6,y7,y8,y9,y10⟩:=cellsC HY7.out
 go_wp2_with fail
 (with_reducible refine (CP3 _ _ _ HB7.out K2.out D2.out).out.mono ?_)
 rintro e w8x ⟨V1,Vc1,V2,Vc2,V3,Vc3,V4,Vc4,rfl,hz,hb⟩
 have hbA : Below w8x.heap.size w8x (w8x.alloc (cmO vw V1 vN1 Vc1 V2 vN2 Vc2 vlo vhi vhl vhh vo vnm V3 vn3 Vc3 V4 vn4 Vc4)):=zY (Below.refl _ _) _
 have HB8x:=zZ.mk (xN HB7.out HB7.out.size hb)
 have HB8:=zZ.mk (xN HB8x.out HB8x.out.size hbA)
 have HY8:=zZ.mk (xX (xX HY7.out hb) hbA)
 have QV:=zZ.mk (wP w8x (cmO vw V1 vN1 Vc1 V2 vN2 Vc2 vlo vhi vhl vhh vo vnm V3 vn3 Vc3 V4 vn4 Vc4))
 have GV:=zZ.mk (fun h0 => (hz h0).below hbA)
 have K1:=zZ.mk (Kd.C_below (Kd.C_below K1.out hb) hbA)
 have QU:=zZ.mk (xX (xX QU.out hb) hbA)
 have GU:=zZ.mk (fun h0 => ((GU.out h0).below hb).below hbA)
 clear hb hbA hz HY7 CP3 HB8x
 clear y0 y1 y2 y3 y4 y5 y6 y7 y8 y9 y10
 obtain ⟨y0,y1,y2,y3,y4,y5,y6,y7,y8,y9,y10⟩:=cellsC HY8.out
 clear cr2 K2 cw0
 by_cases hf : fg = 0
 case neg =>
  have t1 : (fg == 0) = false:=beq_eq_false_iff_ne.2 hf
  clear SF PF GU QU
  by_cases hh0 : hgx = 0
  case neg =>
   have t2 : (hgx == 0) = false:=beq_eq_false_iff_ne.2 hh0
   clear SH PH GV QV
   clear y0 y1 y2 y3 y4 y5 y6 y7 y8 y9 y10
   go_wp2_with (first|((with_reducible refine uX (b:=.append) (xs:=#[.tmp 84,.tmp 86]) rfl ?_); at_builtin; refine Kd.R_append_rows k61 (w0:=(w8x.alloc (cmO vw V1 vN1 Vc1 V2 vN2 Vc2 vlo vhi vhl vhh vo vnm V3 vn3 Vc3 V4 vn4 Vc4))) (w8x.alloc (cmO vw V1 vN1 Vc1 V2 vN2 Vc2 vlo vhi vhl vhh vo vnm V3 vn3 Vc3 V4 vn4 Vc4)).heap.size (by rfl) (.tmp 84) (.tmp 86) 43 61 (.agg #[.int .u8 0,.string nil8,.int .i64 0]) 32 (by rfl) Tryd.underlying43 gW (by rfl) (by decide) (by omega) (.slice (some ⟨_,0,none⟩) 1 1) [wTok s] WC.tail B2 M (d - 1) (fun _ => True) (fun _ => False) (by rfl) (by rfl) (by exact lit1_R _ _ (Nat.le_refl _) s _ (by first|rfl|exact (Array.size_push ..).symm)) (Kd.C_below K1.out (zY (Below.refl _ _) _)) (fun y cs hk => by rw [gQ hk]; exact uE _ _ _ y) (fun _ hk => hk.elim) (fun _ _ => trivial) (by exact zY (Below.refl _ _) _) (by exact (zY (Below.refl (w8x.alloc (cmO vw V1 vN1 Vc1 V2 vN2 Vc2 vlo vhi vhl vhh vo vnm V3 vn3 Vc3 V4 vn4 Vc4)).heap.size (w8x.alloc (cmO vw V1 vN1 Vc1 V2 vN2 Vc2 vlo vhi vhl vhh vo vnm V3 vn3 Vc3 V4 vn4 Vc4))) _).size) (by rw [List.length_singleton]; have:=MB.out; omega) ?_; intro v1 wa ho hb hg hat; have ho:=zZ.mk (show Kd.R k61 61 wa (w8x.alloc (cmO vw V1 vN1 Vc1 V2 vN2 Vc2 vlo vhi vhl vhh vo vnm V3 vn3 Vc3 V4 vn4 Vc4)).heap.size (fun _ => True) v1 (wTok s :: WC.tail) from ho); obtain ⟨B9,d9,rfl,hd9,hCC⟩:=Kd.R_reads ho.out; rw [Hn4.out] at hd9 hCC ⊢; have KA:=zZ.mk hCC; have DA:=zZ.mk hd9; have HBa:=zZ.mk (xN HB8.out HB8.out.size hb); have HYa:=zZ.mk (xX HY8.out hb); clear ho hb hg hat hCC hd9 HY8))
   obtain ⟨y0,y1,y2,y3,y4,y5,y6,y7,y8,y9,y10⟩:=cellsC HYa.out
   clear cr1 K1
   go_wp2_with fail
   (with_reducible refine (CP4 _ _ _ HBa.out KA.out DA.out).out.mono ?_)
   rintro e wcx ⟨P1,Pc1,P2,Pc2,P3,Pc3,P4,Pc4,rfl,hz,hb⟩
   have hbA : Below wcx.heap.size wcx (wcx.alloc (cmO kw P1 kN1 Pc1 P2 kN2 Pc2 klo khi khl khh ko knm P3 kn3 Pc3 P4 kn4 Pc4)):=zY (Below.refl _ _) _
   have HBcx:=zZ.mk (xN HBa.out HBa.out.size hb)
   have HBc:=zZ.mk (xN HBcx.out HBcx.out.size hbA)
   have HYc:=zZ.mk (xX (xX HYa.out hb) hbA)
   have QP:=zZ.mk (wP wcx (cmO kw P1 kN1 Pc1 P2 kN2 Pc2 klo khi khl khh ko knm P3 kn3 Pc3 P4 kn4 Pc4))
   have GP:=zZ.mk (fun h0 => (hz h0).below hbA)
   clear hb hbA hz HYa CP4 HBcx
   clear y0 y1 y2 y3 y4 y5 y6 y7 y8 y9 y10
   obtain ⟨y0,y1,y2,y3,y4,y5,y6,y7,y8,y9,y10⟩:=cellsC HYc.out
   by_cases hw : s = wd
   ·
    have e6 : (s.toList == wd.toList) = true:=beq_iff_eq.2 (by rw [hw])
    obtain ⟨p1,p2⟩:=PO.out hw
    subst p2
    have e7:=congrArg (sameC ⟨wd,NS,ms,lo,hi,hl,hh,⟨o,nm,os,xs⟩⟩) p1
    rw [gU] at e7
    simp only [e7] at SO
    clear hw e7 p1 PO PW
    obtain ⟨q0,q1,q2,q3,q4,q5,q6,q7,q8,q9,q10⟩:=cellsC QP.out
    go_wp2_with fail
    (with_reducible refine (SO _ _ _ _ _ _ _ _ _ HBc.out (GP.out (by trivial))).out.mono ?_)
    rintro e wd1 ⟨rfl,hb⟩
    have HBd:=zZ.mk (xN HBc.out HBc.out.size hb)
    clear hb SO QP GP HYc y0 y1 y2 y3 y4 y5 y6 y7 y8 y9 y10 q0 q1 q2 q3 q4 q5 q6 q7 q8 q9 q10
    go_wp2_with fail
    (with_reducible refine (AW _ HBd.out).out.mono ?_)
    rintro e wf ⟨rfl,hb⟩
    have HF:=zZ.mk (xN HBd.out HBd.out.size hb)
    clear hb
    go_wp2
    go_ret
    exact ⟨rfl,HF.out⟩
   have e6 : (s.toList == wd.toList) = false:=beq_eq_false_iff_ne.2 (fun h => hw (oL.1 h))
   clear SO PO
   by_cases hog : og = 0
   case neg =>
    have e8 : (og == 0) = false:=beq_eq_false_iff_ne.2 hog
    clear PW GP QP HYc
    go_wp2_with fail
    (with_reducible refine (AW _ HBc.out).out.mono ?_)
    rintro e wf ⟨rfl,hb⟩
    have HF:=zZ.mk (xN HBc.out HBc.out.size hb)
    clear hb
    go_wp2
    go_ret
    exact ⟨rfl,HF.out⟩
   have e9 : (kw.toList == s.toList) = true:=beq_iff_eq.2 (by rw [PW.out hog])
   subst hog
   obtain ⟨q0,q1,q2,q3,q4,q5,q6,q7,q8,q9,q10⟩:=cellsC QP.out
   go_wp2_with fail
   (with_reducible refine (AW _ HBc.out).out.mono ?_)
   rintro e wf ⟨rfl,hb⟩
   have HF:=zZ.mk (xN HBc.out HBc.out.size hb)
   clear hb
   go_wp2
   go_ret
   exact ⟨rfl,HF.out⟩
  have t3:=PH.out hh0
  subst hh0
  simp only [t3] at SH
  clear t3
  obtain ⟨q0,q1,q2,q3,q4,q5,q6,q7,q8,q9,q10⟩:=cellsC QV.out
  go_wp2_with fail
  (with_reducible refine (SH _ _ _ _ _ _ _ _ _ HB8.out (GV.out (by trivial))).out.mono ?_)
  rintro e w9 ⟨rfl,hb⟩
  clear q0 q1 q2 q3 q4 q5 q6 q7 q8 q9 q10
  have HB9:=zZ.mk (xN HB8.out HB8.out.size hb)
  have HY9:=zZ.mk (xX HY8.out hb)
  have K1:=zZ.mk (Kd.C_below K1.out hb)
  clear hb HY8 SH PH QV GV
  clear y0 y1 y2 y3 y4 y5 y6 y7 y8 y9 y10
  obtain ⟨y0,y1,y2,y3,y4,y5,y6,y7,y8,y9,y10⟩:=cellsC HY9.out
  clear y0 y1 y2 y3 y4 y5 y6 y7 y8 y9 y10
  go_wp2_with (first|((with_reducible refine uX (b:=.append) (xs:=#[.tmp 84,.tmp 86]) rfl ?_); at_builtin; refine Kd.R_append_rows k61 (w0:=w9) w9.heap.size (by rfl) (.tmp 84) (.tmp 86) 43 61 (.agg #[.int .u8 0,.string nil8,.int .i64 0]) 32 (by rfl) Tryd.underlying43 gW (by rfl) (by decide) (by omega) (.slice (some ⟨_,0,none⟩) 1 1) [wTok s] WC.tail B2 M (d - 1) (fun _ => True) (fun _ => False) (by rfl) (by rfl) (by exact lit1_R _ _ (Nat.le_refl _) s _ (by first|rfl|exact (Array.size_push ..).symm)) (Kd.C_below K1.out (zY (Below.refl _ _) _)) (fun y cs hk => by rw [gQ hk]; exact uE _ _ _ y) (fun _ hk => hk.elim) (fun _ _ => trivial) (by exact zY (Below.refl _ _) _) (by exact (zY (Below.refl w9.heap.size w9) _).size) (by rw [List.length_singleton]; have:=MB.out; omega) ?_; intro v1 wa ho hb hg hat; have ho:=zZ.mk (show Kd.R k61 61 wa w9.heap.size (fun _ => True) v1 (wTok s :: WC.tail) from ho); obtain ⟨B9,d9,rfl,hd9,hCC⟩:=Kd.R_reads ho.out; rw [Hn4.out] at hd9 hCC ⊢; have KA:=zZ.mk hCC; have DA:=zZ.mk hd9; have HBa:=zZ.mk (xN HB9.out HB9.out.size hb); have HYa:=zZ.mk (xX HY9.out hb); clear ho hb hg hat hCC hd9 HY9))
  obtain ⟨y0,y1,y2,y3,y4,y5,y6,y7,y8,y9,y10⟩:=cellsC HYa.out
  clear cr1 K1
  go_wp2_with fail
  (with_reducible refine (CP4 _ _ _ HBa.out KA.out DA.out).out.mono ?_)
  rintro e wcx ⟨P1,Pc1,P2,Pc2,P3,Pc3,P4,Pc4,rfl,hz,hb⟩
  have hbA : Below wcx.heap.size wcx (wcx.alloc (cmO kw P1 kN1 Pc1 P2 kN2 Pc2 klo khi khl khh ko knm P3 kn3 Pc3 P4 kn4 Pc4)):=zY (Below.refl _ _) _
  have HBcx:=zZ.mk (xN HBa.out HBa.out.size hb)
  have HBc:=zZ.mk (xN HBcx.out HBcx.out.size hbA)
  have HYc:=zZ.mk (xX (xX HYa.out hb) hbA)
  have QP:=zZ.mk (wP wcx (cmO kw P1 kN1 Pc1 P2 kN2 Pc2 klo khi khl khh ko knm P3 kn3 Pc3 P4 kn4 Pc4))
  have GP:=zZ.mk (fun h0 => (hz h0).below hbA)
  clear hb hbA hz HYa CP4 HBcx
  clear y0 y1 y2 y3 y4 y5 y6 y7 y8 y9 y10
  obtain ⟨y0,y1,y2,y3,y4,y5,y6,y7,y8,y9,y10⟩:=cellsC HYc.out
  by_cases hw : s = wd
  ·
   have e6 : (s.toList == wd.toList) = true:=beq_iff_eq.2 (by rw [hw])
   obtain ⟨p1,p2⟩:=PO.out hw
   subst p2
   have e7:=congrArg (sameC ⟨wd,NS,ms,lo,hi,hl,hh,⟨o,nm,os,xs⟩⟩) p1
   rw [gU] at e7
   simp only [e7] at SO
   clear hw e7 p1 PO PW
   obtain ⟨q0,q1,q2,q3,q4,q5,q6,q7,q8,q9,q10⟩:=cellsC QP.out
   go_wp2_with fail
   (with_reducible refine (SO _ _ _ _ _ _ _ _ _ HBc.out (GP.out (by trivial))).out.mono ?_)
   rintro e wd1 ⟨rfl,hb⟩
   have HBd:=zZ.mk (xN HBc.out HBc.out.size hb)
   clear hb SO QP GP HYc y0 y1 y2 y3 y4 y5 y6 y7 y8 y9 y10 q0 q1 q2 q3 q4 q5 q6 q7 q8 q9 q10
   go_wp2_with fail
   (with_reducible refine (AW _ HBd.out).out.mono ?_)
   rintro e wf ⟨rfl,hb⟩
   have HF:=zZ.mk (xN HBd.out HBd.out.size hb)
   clear hb
   go_wp2
   go_ret
   exact ⟨rfl,HF.out⟩
  have e6 : (s.toList == wd.toList) = false:=beq_eq_false_iff_ne.2 (fun h => hw (oL.1 h))
  clear SO PO
  by_cases hog : og = 0
  case neg =>
   have e8 : (og == 0) = false:=beq_eq_false_iff_ne.2 hog
   clear PW GP QP HYc
   go_wp2_with fail
   (with_reducible refine (AW _ HBc.out).out.mono ?_)
   rintro e wf ⟨rfl,hb⟩
   have HF:=zZ.mk (xN HBc.out HBc.out.size hb)
   clear hb
   go_wp2
   go_ret
   exact ⟨rfl,HF.out⟩
  have e9 : (kw.toList == s.toList) = true:=beq_iff_eq.2 (by rw [PW.out hog])
  subst hog
  obtain ⟨q0,q1,q2,q3,q4,q5,q6,q7,q8,q9,q10⟩:=cellsC QP.out
  go_wp2_with fail
  (with_reducible refine (AW _ HBc.out).out.mono ?_)
  rintro e wf ⟨rfl,hb⟩
  have HF:=zZ.mk (xN HBc.out HBc.out.size hb)
  clear hb
  go_wp2
  go_ret
  exact ⟨rfl,HF.out⟩
 have t1:=PF.out hf
 subst hf
 simp only [t1] at SF
 clear t1
 obtain ⟨q0,q1,q2,q3,q4,q5,q6,q7,q8,q9,q10⟩:=cellsC QU.out
 go_wp2_with fail
 (with_reducible refine (SF _ _ _ _ _ _ _ _ _ HB8.out (GU.out (by trivial))).out.mono ?_)
 rintro e w9 ⟨rfl,hb⟩
 clear q0 q1 q2 q3 q4 q5 q6 q7 q8 q9 q10
 have HB9:=zZ.mk (xN HB8.out HB8.out.size hb)
 have HY9:=zZ.mk (xX HY8.out hb)
 have K1:=zZ.mk (Kd.C_below K1.out hb)
 have QV:=zZ.mk (xX QV.out hb)
 have GV:=zZ.mk (fun h => (GV.out h).below hb)
 clear hb HY8 SF PF QU GU
 clear y0 y1 y2 y3 y4 y5 y6 y7 y8 y9 y10
 obtain ⟨y0,y1,y2,y3,y4,y5,y6,y7,y8,y9,y10⟩:=cellsC HY9.out
 by_cases hh0 : hgx = 0
 case neg =>
  have t2 : (hgx == 0) = false:=beq_eq_false_iff_ne.2 hh0
  clear SH PH GV QV
  clear y0 y1 y2 y3 y4 y5 y6 y7 y8 y9 y10
  go_wp2_with (first|((with_reducible refine uX (b:=.append) (xs:=#[.tmp 84,.tmp 86]) rfl ?_); at_builtin; refine Kd.R_append_rows k61 (w0:=w9) w9.heap.size (by rfl) (.tmp 84) (.tmp 86) 43 61 (.agg #[.int .u8 0,.string nil8,.int .i64 0]) 32 (by rfl) Tryd.underlying43 gW (by rfl) (by decide) (by omega) (.slice (some ⟨_,0,none⟩) 1 1) [wTok s] WC.tail B2 M (d - 1) (fun _ => True) (fun _ => False) (by rfl) (by rfl) (by exact lit1_R _ _ (Nat.le_refl _) s _ (by first|rfl|exact (Array.size_push ..).symm)) (Kd.C_below K1.out (zY (Below.refl _ _) _)) (fun y cs hk => by rw [gQ hk]; exact uE _ _ _ y) (fun _ hk => hk.elim) (fun _ _ => trivial) (by exact zY (Below.refl _ _) _) (by exact (zY (Below.refl w9.heap.size w9) _).size) (by rw [List.length_singleton]; have:=MB.out; omega) ?_; intro v1 wa ho hb hg hat; have ho:=zZ.mk (show Kd.R k61 61 wa w9.heap.size (fun _ => True) v1 (wTok s :: WC.tail) from ho); obtain ⟨B9,d9,rfl,hd9,hCC⟩:=Kd.R_reads ho.out; rw [Hn4.out] at hd9 hCC ⊢; have KA:=zZ.mk hCC; have DA:=zZ.mk hd9; have HBa:=zZ.mk (xN HB9.out HB9.out.size hb); have HYa:=zZ.mk (xX HY9.out hb); clear ho hb hg hat hCC hd9 HY9))
  obtain ⟨y0,y1,y2,y3,y4,y5,y6,y7,y8,y9,y10⟩:=cellsC HYa.out
  clear cr1 K1
  go_wp2_with fail
  (with_reducible refine (CP4 _ _ _ HBa.out KA.out DA.out).out.mono ?_)
  rintro e wcx ⟨P1,Pc1,P2,Pc2,P3,Pc3,P4,Pc4,rfl,hz,hb⟩
  have hbA : Below wcx.heap.size wcx (wcx.alloc (cmO kw P1 kN1 Pc1 P2 kN2 Pc2 klo khi khl khh ko knm P3 kn3 Pc3 P4 kn4 Pc4)):=zY (Below.refl _ _) _
  have HBcx:=zZ.mk (xN HBa.out HBa.out.size hb)
  have HBc:=zZ.mk (xN HBcx.out HBcx.out.size hbA)
  have HYc:=zZ.mk (xX (xX HYa.out hb) hbA)
  have QP:=zZ.mk (wP wcx (cmO kw P1 kN1 Pc1 P2 kN2 Pc2 klo khi khl khh ko knm P3 kn3 Pc3 P4 kn4 Pc4))
  have GP:=zZ.mk (fun h0 => (hz h0).below hbA)
  clear hb hbA hz HYa CP4 HBcx
  clear y0 y1 y2 y3 y4 y5 y6 y7 y8 y9 y10
  obtain ⟨y0,y1,y2,y3,y4,y5,y6,y7,y8,y9,y10⟩:=cellsC HYc.out
  by_cases hw : s = wd
  ·
   have e6 : (s.toList == wd.toList) = true:=beq_iff_eq.2 (by rw [hw])
   obtain ⟨p1,p2⟩:=PO.out hw
   subst p2
   have e7:=congrArg (sameC ⟨wd,NS,ms,lo,hi,hl,hh,⟨o,nm,os,xs⟩⟩) p1
   rw [gU] at e7
   simp only [e7] at SO
   clear hw e7 p1 PO PW
   obtain ⟨q0,q1,q2,q3,q4,q5,q6,q7,q8,q9,q10⟩:=cellsC QP.out
   go_wp2_with fail
   (with_reducible refine (SO _ _ _ _ _ _ _ _ _ HBc.out (GP.out (by trivial))).out.mono ?_)
   rintro e wd1 ⟨rfl,hb⟩
   have HBd:=zZ.mk (xN HBc.out HBc.out.size hb)
   clear hb SO QP GP HYc y0 y1 y2 y3 y4 y5 y6 y7 y8 y9 y10 q0 q1 q2 q3 q4 q5 q6 q7 q8 q9 q10
   go_wp2_with fail
   (with_reducible refine (AW _ HBd.out).out.mono ?_)
   rintro e wf ⟨rfl,hb⟩
   have HF:=zZ.mk (xN HBd.out HBd.out.size hb)
   clear hb
   go_wp2
   go_ret
   exact ⟨rfl,HF.out⟩
  have e6 : (s.toList == wd.toList) = false:=beq_eq_false_iff_ne.2 (fun h => hw (oL.1 h))
  clear SO PO
  by_cases hog : og = 0
  case neg =>
   have e8 : (og == 0) = false:=beq_eq_false_iff_ne.2 hog
   clear PW GP QP HYc
   go_wp2_with fail
   (with_reducible refine (AW _ HBc.out).out.mono ?_)
   rintro e wf ⟨rfl,hb⟩
   have HF:=zZ.mk (xN HBc.out HBc.out.size hb)
   clear hb
   go_wp2
   go_ret
   exact ⟨rfl,HF.out⟩
  have e9 : (kw.toList == s.toList) = true:=beq_iff_eq.2 (by rw [PW.out hog])
  subst hog
  obtain ⟨q0,q1,q2,q3,q4,q5,q6,q7,q8,q9,q10⟩:=cellsC QP.out
  go_wp2_with fail
  (with_reducible refine (AW _ HBc.out).out.mono ?_)
  rintro e wf ⟨rfl,hb⟩
  have HF:=zZ.mk (xN HBc.out HBc.out.size hb)
  clear hb
  go_wp2
  go_ret
  exact ⟨rfl,HF.out⟩
 have t3:=PH.out hh0
 subst hh0
 simp only [t3] at SH
 clear t3
 obtain ⟨q0,q1,q2,q3,q4,q5,q6,q7,q8,q9,q10⟩:=cellsC QV.out
 go_wp2_with fail
 (with_reducible refine (SH _ _ _ _ _ _ _ _ _ HB9.out (GV.out (by trivial))).out.mono ?_)
 rintro e wb ⟨rfl,hb⟩
 clear q0 q1 q2 q3 q4 q5 q6 q7 q8 q9 q10
 have HBb:=zZ.mk (xN HB9.out HB9.out.size hb)
 have HYb:=zZ.mk (xX HY9.out hb)
 have K1:=zZ.mk (Kd.C_below K1.out hb)
 clear hb HY9 SH PH QV GV
 clear y0 y1 y2 y3 y4 y5 y6 y7 y8 y9 y10
 obtain ⟨y0,y1,y2,y3,y4,y5,y6,y7,y8,y9,y10⟩:=cellsC HYb.out
 clear y0 y1 y2 y3 y4 y5 y6 y7 y8 y9 y10
 go_wp2_with (first|((with_reducible refine uX (b:=.append) (xs:=#[.tmp 84,.tmp 86]) rfl ?_); at_builtin; refine Kd.R_append_rows k61 (w0:=wb) wb.heap.size (by rfl) (.tmp 84) (.tmp 86) 43 61 (.agg #[.int .u8 0,.string nil8,.int .i64 0]) 32 (by rfl) Tryd.underlying43 gW (by rfl) (by decide) (by omega) (.slice (some ⟨_,0,none⟩) 1 1) [wTok s] WC.tail B2 M (d - 1) (fun _ => True) (fun _ => False) (by rfl) (by rfl) (by exact lit1_R _ _ (Nat.le_refl _) s _ (by first|rfl|exact (Array.size_push ..).symm)) (Kd.C_below K1.out (zY (Below.refl _ _) _)) (fun y cs hk => by rw [gQ hk]; exact uE _ _ _ y) (fun _ hk => hk.elim) (fun _ _ => trivial) (by exact zY (Below.refl _ _) _) (by exact (zY (Below.refl wb.heap.size wb) _).size) (by rw [List.length_singleton]; have:=MB.out; omega) ?_; intro v1 wa ho hb hg hat; have ho:=zZ.mk (show Kd.R k61 61 wa wb.heap.size (fun _ => True) v1 (wTok s :: WC.tail) from ho); obtain ⟨B9,d9,rfl,hd9,hCC⟩:=Kd.R_reads ho.out; rw [Hn4.out] at hd9 hCC ⊢; have KA:=zZ.mk hCC; have DA:=zZ.mk hd9; have HBa:=zZ.mk (xN HBb.out HBb.out.size hb); have HYa:=zZ.mk (xX HYb.out hb); clear ho hb hg hat hCC hd9 HYb))
 obtain ⟨y0,y1,y2,y3,y4,y5,y6,y7,y8,y9,y10⟩:=cellsC HYa.out
 clear cr1 K1
 go_wp2_with fail
 (with_reducible refine (CP4 _ _ _ HBa.out KA.out DA.out).out.mono ?_)
 rintro e wcx ⟨P1,Pc1,P2,Pc2,P3,Pc3,P4,Pc4,rfl,hz,hb⟩
 have hbA : Below wcx.heap.size wcx (wcx.alloc (cmO kw P1 kN1 Pc1 P2 kN2 Pc2 klo khi khl khh ko knm P3 kn3 Pc3 P4 kn4 Pc4)):=zY (Below.refl _ _) _
 have HBcx:=zZ.mk (xN HBa.out HBa.out.size hb)
 have HBc:=zZ.mk (xN HBcx.out HBcx.out.size hbA)
 have HYc:=zZ.mk (xX (xX HYa.out hb) hbA)
 have QP:=zZ.mk (wP wcx (cmO kw P1 kN1 Pc1 P2 kN2 Pc2 klo khi khl khh ko knm P3 kn3 Pc3 P4 kn4 Pc4))
 have GP:=zZ.mk (fun h0 => (hz h0).below hbA)
 clear hb hbA hz HYa CP4 HBcx
 clear y0 y1 y2 y3 y4 y5 y6 y7 y8 y9 y10
 obtain ⟨y0,y1,y2,y3,y4,y5,y6,y7,y8,y9,y10⟩:=cellsC HYc.out
 by_cases hw : s = wd
 ·
  have e6 : (s.toList == wd.toList) = true:=beq_iff_eq.2 (by rw [hw])
  obtain ⟨p1,p2⟩:=PO.out hw
  subst p2
  have e7:=congrArg (sameC ⟨wd,NS,ms,lo,hi,hl,hh,⟨o,nm,os,xs⟩⟩) p1
  rw [gU] at e7
  simp only [e7] at SO
  clear hw e7 p1 PO PW
  obtain ⟨q0,q1,q2,q3,q4,q5,q6,q7,q8,q9,q10⟩:=cellsC QP.out
  go_wp2_with fail
  (with_reducible refine (SO _ _ _ _ _ _ _ _ _ HBc.out (GP.out (by trivial))).out.mono ?_)
  rintro e wd1 ⟨rfl,hb⟩
  have HBd:=zZ.mk (xN HBc.out HBc.out.size hb)
  clear hb SO QP GP HYc y0 y1 y2 y3 y4 y5 y6 y7 y8 y9 y10 q0 q1 q2 q3 q4 q5 q6 q7 q8 q9 q10
  go_wp2_with fail
  (with_reducible refine (AW _ HBd.out).out.mono ?_)
  rintro e wf ⟨rfl,hb⟩
  have HF:=zZ.mk (xN HBd.out HBd.out.size hb)
  clear hb
  go_wp2
  go_ret
  exact ⟨rfl,HF.out⟩
 have e6 : (s.toList == wd.toList) = false:=beq_eq_false_iff_ne.2 (fun h => hw (oL.1 h))
 clear SO PO
 by_cases hog : og = 0
 case neg =>
  have e8 : (og == 0) = false:=beq_eq_false_iff_ne.2 hog
  clear PW GP QP HYc
  go_wp2_with fail
  (with_reducible refine (AW _ HBc.out).out.mono ?_)
  rintro e wf ⟨rfl,hb⟩
  have HF:=zZ.mk (xN HBc.out HBc.out.size hb)
  clear hb
  go_wp2
  go_ret
  exact ⟨rfl,HF.out⟩
 have e9 : (kw.toList == s.toList) = true:=beq_iff_eq.2 (by rw [PW.out hog])
 subst hog
 obtain ⟨q0,q1,q2,q3,q4,q5,q6,q7,q8,q9,q10⟩:=cellsC QP.out
 go_wp2_with fail
 (with_reducible refine (AW _ HBc.out).out.mono ?_)
 rintro e wf ⟨rfl,hb⟩
 have HF:=zZ.mk (xN HBc.out HBc.out.size hb)
 clear hb
 go_wp2
 go_ret
 exact ⟨rfl,HF.out⟩
end Go.Proofs.YtjeofffddbibeaaDoor.Pa
end

section
namespace Go.Proofs.YtjeofffddbibeaaDoor.Ex
open Go Go.RowKit Go.ChangeShapes Go.WideShapes Go.ChangeAt PParseTells YtjeofffddbibeaaDoorW.PrintWords YtjeofffddbibeaaDoorW.PrintLast YtjeofffddbibeaaDoorW.PrintMore
theorem cO : Tryd.prog.cellsOf 25 = 4:=by kernel_rfl
theorem cells_byte : Tryd.prog.cellsOf 5 = 1:=by kernel_rfl
theorem bY : Tryd.prog.cellsOf 2 = 1:=by kernel_rfl
theorem bU : Tryd.prog.cellsOf 9 = 1:=by kernel_rfl
theorem bX : Tryd.prog.cellsOf 22 = 1:=by kernel_rfl
theorem cells_args : Tryd.prog.cellsOf 23 = 1:=by kernel_rfl
theorem qV {H : Type} (d : DataW H) (r : List (DataW H)) : Rows.uptoBulkAll (d :: r) = Rows.uptoBulk d + Rows.uptoBulkAll r:=by rw [Rows.uptoBulkAll]
theorem iA {H : Type} : Rows.uptoBulkAll ([] : List (DataW H)) = 0:=by rw [Rows.uptoBulkAll]
theorem bulk_agg {H : Type} (l : List (DataW H)) : Rows.uptoBulk (.agg l) = Rows.uptoBulkAll l + 1:=by rw [Rows.uptoBulk]
theorem dO {H : Type} (l r : List (DataW H)) : Rows.uptoBulk (.slice l r) = Rows.uptoBulkAll l + Rows.uptoBulkAll r + 1:=by rw [Rows.uptoBulk]
theorem dS {H : Type} (l : List UInt8) : Rows.uptoBulk (.lit (.string l) : DataW H) = l.length + 1:=by rw [Rows.uptoBulk]
theorem bulk_app {H : Type} (l r : List (DataW H)) : Rows.uptoBulkAll (l ++ r) = Rows.uptoBulkAll l + Rows.uptoBulkAll r:=by
 induction l with
 | nil => rw [List.nil_append,iA]; omega
 | cons d l ih => rw [List.cons_append,qV,qV,ih]; omega
theorem cntL_app (l r : List X) : cntL (l ++ r) = cntL l + cntL r:=by
 induction l with
 | nil => rw [List.nil_append,rY]; omega
 | cons d l ih => rw [List.cons_append,rL,rL,ih]; omega
theorem bulk_mem {H : Type} {l : List (DataW H)} {d : DataW H} (h : d ∈ l) : Rows.uptoBulk d ≤ Rows.uptoBulkAll l:=by
 induction l with
 | nil => cases h
 | cons e l ih =>
  rw [qV]
  rcases List.mem_cons.1 h with rfl|h
  · omega
  · have:=ih h; omega
section
variable {H : Type} {enc : TypeId × Value → H} {w : World} {base : Nat}
theorem zWE {fuel : Nat} {cs : List Value} {y : DataW H × List MemPlace} (h : DataW.trod enc Tryd.prog w base (fun _ => true) true fuel 22 cs = some y) :
  ∃ A c,∃ ns : List Int,cs = [.slice A ns.length c] ∧ ns.length ≤ c ∧ kI.C w A ns.length ns ∧ ∀ k ∈ ns,-9223372036854775808 ≤ k ∧ k ≤ 9223372036854775807:=by
 rcases open_ints Tryd.underlying22 Tryd.underlying2 bY h with ⟨rfl,rfl⟩|⟨a,len,cap,zs,rfl,hb,hl,hm,hz,rfl,hc,hw⟩
 · exact ⟨none,0,[],rfl,Nat.le_refl _,Kd.C_nil _ _,fun _ h => by cases h⟩
 ·
  have hz' : zs.length = cap:=by simpa using hz
  have hlen : (zs.take len).length = len:=by rw [List.length_take]; omega
  refine ⟨some a,cap,zs.take len,by rw [hlen],by omega,?_,fun k hk => ?_⟩
  ·
   rw [hlen]
   refine Kd.C_of_reads (enc:=Value.int .i64) (d:=(0 : Int)) (h1:=fun _ => rfl) ⟨hlen,by unfold maxLen at hm; omega,fun _ => ⟨a,rfl,fun j hj => ?_⟩⟩
   rw [hc j (by omega)]
   simp only [List.getD_eq_getElem?_getD]
   rw [List.getElem?_take_of_lt hj]
  ·
   have:=bounds_i64 (hw k (List.mem_of_mem_take hk))
   exact this
set_option maxRecDepth 100000 in
theorem has_of_trod (N : Nat) : ∀ (fuel : Nat),fuel ≤ N → ∀ (cs : List Value) (y : DataW H × List MemPlace),DataW.trod enc Tryd.prog w base (fun _ => true) true fuel 25 cs = some y → Rows.uptoBulk y.1 ≤ 1048576 →
  ∃ x A2 c2 A3 c3,cs = [.int .u8 x.f0,.string x.f1,.slice A2 x.f2.length c2,.slice A3 x.f3.length c3] ∧ Has w x A2 c2 A3 c3 ∧ cnt x ≤ Rows.uptoBulk y.1:=by
 induction N with
 | zero =>
  intro fuel hf cs y h
  obtain rfl : fuel = 0:=by omega
  simp [DataW.trod] at h
 | succ N ih =>
  intro fuel hf cs y h hbulk
  obtain ⟨xs,n,rfl,rfl,hlen,hsz,hall⟩:=DataW.trod_struct Tryd.underlying25 h
  rw [cO] at hlen
  match cs,hlen with
  | [v0,v1,v2,v3],_ =>
  match xs,hsz with
  | [y0,y1,y2,y3],_ =>
  have e0 : DataW.trod enc Tryd.prog w base (fun _ => true) true n 5 (([v0,v1,v2,v3].drop 0).take (Tryd.prog.cellsOf 5)) = some y0:=hall 0 _ rfl
  have e1 : DataW.trod enc Tryd.prog w base (fun _ => true) true n 9 (([v0,v1,v2,v3].drop 1).take (Tryd.prog.cellsOf 9)) = some y1:=hall 1 _ rfl
  have e2 : DataW.trod enc Tryd.prog w base (fun _ => true) true n 22 (([v0,v1,v2,v3].drop 2).take (Tryd.prog.cellsOf 22)) = some y2:=hall 2 _ rfl
  have e3 : DataW.trod enc Tryd.prog w base (fun _ => true) true n 23 (([v0,v1,v2,v3].drop 3).take (Tryd.prog.cellsOf 23)) = some y3:=hall 3 _ rfl
  rw [cells_byte] at e0
  rw [bU] at e1
  rw [bX] at e2
  rw [cells_args] at e3
  obtain ⟨o,h0,rfl,hw0⟩:=DataW.trod_int Tryd.underlying5 e0
  obtain ⟨s,h1,rfl,hs⟩:=DataW.trod_string Tryd.underlying9 e1
  obtain ⟨A2,c2,ns,h2,hl2,hC2,hb2⟩:=zWE e2
  obtain rfl : v0 = .int .u8 o:=by simpa using h0
  obtain rfl : v1 = .string s:=by simpa using h1
  obtain rfl : v2 = .slice A2 ns.length c2:=by simpa using h2
  have hbl : Rows.uptoBulk y3.1 ≤ 1048576 ∧ s.data.toList.length ≤ 1048576 ∧ Rows.uptoBulk y3.1 + 1 ≤ Rows.uptoBulk (DataW.agg (List.map (fun x => x.1) [(DataW.lit (Lit.int .u8 o),[]),(DataW.lit (Lit.string s.data.toList),[]),y2,y3])):=by
   simp only [List.map_cons,List.map_nil,bulk_agg,qV,iA,dS] at hbulk ⊢
   omega
  have hop:=bounds_u8 hw0
  have hss : s.size ≤ 140737488351232:=by
   have h1 : s.size = s.data.toList.length:=by simp
   omega
  rcases DataW.trod_slice Tryd.underlying23 e3 with ⟨h3,rfl⟩|⟨a,len,cap,elems,rest,n',rfl,h3,rfl,hb,hl,hm,hle,hel,_,_⟩
  ·
   obtain rfl : v3 = .slice none 0 0:=by simpa using h3
   refine ⟨⟨o,s,ns,[]⟩,A2,c2,none,0,rfl,⟨(Wf_eq _).2 ⟨hop,hss,hb2,WfL_of (fun _ h => by cases h)⟩,hl2,hC2,Nat.le_refl 0,Kd.C_nil _ _⟩,?_⟩
   rw [sW]
   show 1 + cntL [] ≤ _
   rw [rY]
   exact Nat.le_trans (by omega) hbl.2.2
  ·
   obtain rfl : v3 = .slice (some a) len cap:=by simpa using h3
   rw [cO] at hel
   have hbe : ∀ e ∈ elems,Rows.uptoBulk e.1 ≤ 1048576:=fun e he => by
    have h1:=bulk_mem (List.mem_map_of_mem (f:=fun x : DataW H × List MemPlace => x.1) he)
    have h2:=hbl.1
    rw [dO] at h2
    omega
   -- each argument
   have each : ∀ i,∀ hi : i < elems.length,∃ x B2 d2 B3 d3,w.cells? base (a.add (i * 4)) 4 = some [.int .u8 x.f0,.string x.f1,.slice B2 x.f2.length d2,.slice B3 x.f3.length d3] ∧ Has w x B2 d2 B3 d3 ∧ cnt x ≤ Rows.uptoBulk elems[i].1:=by
    intro i hi
    have h1:=hel i (by omega)
    rw [List.getElem?_eq_getElem hi] at h1
    obtain ⟨cs',h2,h4⟩:=Option.bind_eq_some_iff.1 h1
    obtain ⟨x,B2,d2,B3,d3,rfl,hx,hc⟩:=ih n' (by omega) cs' elems[i] h4 (hbe _ (List.getElem_mem hi))
    exact ⟨x,B2,d2,B3,d3,h2,hx,hc⟩
   have rows : ∀ k,k ≤ elems.length → ∃ ys : List X,ys.length = k ∧ cntL ys ≤ Rows.uptoBulkAll ((elems.take k).map (fun x => x.1)) ∧ ∀ i,∀ hi : i < ys.length,∃ B2 d2 B3 d3,w.cells? base (a.add (i * 4)) 4 = some [.int .u8 ys[i].f0,.string ys[i].f1,.slice B2 ys[i].f2.length d2,.slice B3 ys[i].f3.length d3] ∧ Has w ys[i] B2 d2 B3 d3:=by
    intro k
    induction k with
    | zero => intro _; exact ⟨[],rfl,by rw [rY]; exact Nat.zero_le _,fun i hi => by simp at hi⟩
    | succ k ihk =>
     intro hk
     obtain ⟨ys,hyl,hyc,hy⟩:=ihk (by omega)
     obtain ⟨x,B2,d2,B3,d3,hx1,hx2,hx3⟩:=each k (by omega)
     refine ⟨ys ++ [x],by simp [hyl],?_,?_⟩
     ·
      rw [List.take_add_one,List.getElem?_eq_getElem (by omega),List.map_append,cntL_app,bulk_app]
      rw [rL,rY]
      show _ ≤ _ + Rows.uptoBulkAll [elems[k].1]
      rw [qV,iA]
      omega
     ·
      intro i hi
      rw [List.length_append] at hi
      simp only [List.length_cons,List.length_nil] at hi
      by_cases hik : i < ys.length
      ·
       rw [List.getElem_append_left hik]
       exact hy i hik
      ·
       obtain rfl : i = ys.length:=by omega
       rw [List.getElem_concat_length rfl]
       rw [hyl]
       exact ⟨B2,d2,B3,d3,hx1,hx2⟩
   obtain ⟨ys,hyl,hyc,hy⟩:=rows elems.length (Nat.le_refl _)
   rw [List.take_length] at hyc
   have hyl' : ys.length = len:=by omega
   subst hyl'
   refine ⟨⟨o,s,ns,ys⟩,A2,c2,some a,cap,rfl,⟨(Wf_eq _).2 ⟨hop,hss,hb2,WfL_of (fun z hz => ?_)⟩,hl2,hC2,hl,?_⟩,?_⟩
   ·
    obtain ⟨i,hi,rfl⟩:=List.getElem_of_mem hz
    obtain ⟨B2,d2,B3,d3,_,hx⟩:=hy i hi
    exact hx.wf
   ·
    refine ⟨rfl,by show ys.length ≤ 9223372036854775807; unfold maxLen at hm; omega,fun _ => ⟨a,rfl,?_⟩⟩
    intro j p hj
    obtain ⟨hjl,rfl⟩:=List.getElem?_eq_some_iff.1 hj
    obtain ⟨B2,d2,B3,d3,hc,hx⟩:=hy j hjl
    refine ⟨_,rfl,k25_mk w ys[j] hx.l2 hx.C2 hx.l3 hx.C3,?_⟩
    intro i u hu
    obtain ⟨_,hl4,hcell⟩:=World.cells?_some hc
    have hi : i < 4:=by
     have:=(List.getElem?_eq_some_iff.1 hu).1
     simpa using this
    have h5:=hcell i hi
    rw [hu] at h5
    have h6 : (a.add (j * 4)).add i = a.add (j * 4 + i):=by first|exact Addr.add_add a _ _|exact Go.Addr.add_add a _ _|(unfold Addr.add; repeat' split <;> simp_all <;> omega)
    rw [h6] at h5
    exact h5
   ·
    rw [sW]
    show 1 + cntL ys ≤ _
    have h2:=hbl.2.2
    rw [dO] at h2
    exact Nat.le_trans (by omega) h2
end
end Go.Proofs.YtjeofffddbibeaaDoor.Ex
end

section
namespace Go.Proofs.YtjeofffddbibeaaDoor.PLaid
open Go Go.ChangeShapes Go.WideShapes Go.ChangeAt Go.RowKit PParseTells YtjeofffddbibeaaDoorW.PrintWords YtjeofffddbibeaaDoorW.PrintLast YtjeofffddbibeaaDoorW.PrintMore
theorem own : ownKnob Tryd.prog.godebug = none:=by kernel_rfl
abbrev laidL : List (String × DataW Unit):=[("unicode.White_Space",Rows.laid_unicode_White_Space),("strings.asciiSpace",Rows.laid_strings_asciiSpace)]
theorem gSpace : Tryd.prog.globalNamed "strings.asciiSpace" = some 0:=by kernel_rfl
theorem tSpace : (Tryd.prog.globals[0]?).map (·.type) = some 116:=by kernel_rfl
set_option maxRecDepth 100000 in
theorem door_met (os : Os) (args : Array Value) : laidMetH Tryd.prog laidL ((World.laidAll Tryd.prog os laidL).forCall (fun _ _ => 0) ⟨#[],args,[]⟩).memory:=by
 rw [MakeChecks.laidMetH_plain _ _ _ (by kernel_rfl)]
 exact laidMet_laidAll _ (by kernel_rfl) (by kernel_rfl)
theorem spaceData : (Rows.laid_strings_asciiSpace : DataW Unit) = Lib.tabData .u8 Lib.asciiSpaceTab:=by kernel_rfl
set_option maxRecDepth 100000 in
theorem cal_of {W : World} (h : laidMetH Tryd.prog laidL W) (hs : W.ShapedOpen Tryd.prog) : Pa.Cal W:=by
 rw [MakeChecks.laidMetH_plain _ _ _ (by kernel_rfl)] at h
 obtain ⟨ps,hv,_⟩:=h
 obtain ⟨_,_,_,_,_,q1,_,_,_,_,hv,_⟩:=hv
 obtain ⟨g3,t3,cs3,f3,p3,q3,hg3,ht3,hv3,hd3,_,_⟩:=hv
 refine ⟨?_,?_⟩
 ·
  obtain rfl:=Option.some.inj (gSpace.symm.trans hg3)
  obtain rfl:=Option.some.inj (tSpace.symm.trans ht3)
  unfold Lib.TabIs
  rw [spaceData] at hd3
  rw [hv3,← Lib.cells_of_tab Tryd.underlying116 Tryd.underlying5 (by kernel_rfl) (by kernel_rfl) hd3]
 · exact cell_of_shapedOpen_int (P:=Tryd.prog) (g:=2) (t:=3) (zero:=#[.int .i64 0]) hs (of_decide_eq_true (by kernel_rfl)) (by kernel_rfl) rfl (by kernel_rfl) (by kernel_rfl) Tryd.underlying3
section
variable {H : Type} {enc : TypeId × Value → H} {w : World} {base : Nat}
end
end Go.Proofs.YtjeofffddbibeaaDoor.PLaid
end

section
namespace Go.Proofs.YtjeofffddbibeaaDoor.Pa
open Go Go.RowKit Go.ChangeShapes Go.WideShapes Go.ChangeAt PParseTells Ex YtjeofffddbibeaaDoorW.PrintWords YtjeofffddbibeaaDoorW.PrintLast YtjeofffddbibeaaDoorW.PrintMore
theorem cells_cmd : Tryd.prog.cellsOf 54 = 11:=by kernel_rfl
theorem cells_range : Tryd.prog.cellsOf 52 = 4:=by kernel_rfl
theorem cells_bool : Tryd.prog.cellsOf 4 = 1:=by kernel_rfl
theorem cells_strs : Tryd.prog.cellsOf 28 = 1:=by kernel_rfl
theorem bulk_lits {H : Type} (zs : List Int) (k : IntKind) : Rows.uptoBulkAll (lits k zs : List (DataW H)) = zs.length:=by
 induction zs with
 | nil => rfl
 | cons z zs ih =>
  show Rows.uptoBulkAll (DataW.lit (Lit.int k z) :: lits k zs) = _
  rw [qV,ih,List.length_cons,Rows.uptoBulk]
  · omega
  · intro b h; cases h
section
variable {H : Type} {enc : TypeId × Value → H} {w : World} {base : Nat}
theorem nums_bulk {fuel : Nat} {A : Option Addr} {n c : Nat} {y : DataW H × List MemPlace} (h : DataW.trod enc Tryd.prog w base (fun _ => true) true fuel 22 [.slice A n c] = some y) : n ≤ Rows.uptoBulk y.1:=by
 rcases open_ints Tryd.underlying22 Tryd.underlying2 bY h with ⟨h1,rfl⟩|⟨a,len,cap,zs,h1,hb,hl,hm,hz,rfl,hc,hw⟩
 ·
  have h1:=List.head_eq_of_cons_eq h1
  injection h1 with h1 h2 h3
  subst h2
  exact Nat.zero_le _
 ·
  have h1:=List.head_eq_of_cons_eq h1
  injection h1 with h1 h2 h3
  subst h2
  have hz' : zs.length = cap:=by simpa using hz
  show n ≤ Rows.uptoBulk (.slice (lits .i64 (zs.take n)) (lits .i64 (zs.drop n)))
  rw [dO,bulk_lits,List.length_take]
  omega
set_option maxRecDepth 100000 in
theorem expr_nums {fuel : Nat} {o : Int} {s : ByteArray} {A2 : Option Addr} {n2 c2 : Nat} {v3 : Value} {y : DataW H × List MemPlace} (h : DataW.trod enc Tryd.prog w base (fun _ => true) true fuel 25 [.int .u8 o,.string s,.slice A2 n2 c2,v3] = some y) : n2 ≤ Rows.uptoBulk y.1:=by
 obtain ⟨xs,n,rfl,rfl,hlen,hsz,hall⟩:=DataW.trod_struct Tryd.underlying25 h
 match xs,hsz with
 | [y0,y1,y2,y3],_ =>
 have e2 : DataW.trod enc Tryd.prog w base (fun _ => true) true n 22 (([Value.int .u8 o,.string s,.slice A2 n2 c2,v3].drop 2).take (Tryd.prog.cellsOf 22)) = some y2:=hall 2 _ rfl
 rw [bX] at e2
 have:=nums_bulk e2
 show n2 ≤ Rows.uptoBulk (DataW.agg [y0.1,y1.1,y2.1,y3.1])
 rw [bulk_agg,qV,qV,qV]
 omega
theorem strs_mem {ss : List ByteArray} {s : ByteArray} (h : s ∈ ss) : s.data.toList.length + 1 ≤ Rows.uptoBulkAll (strs ss : List (DataW H)):=by
 have h1 : (DataW.lit (Lit.string s.data.toList) : DataW H) ∈ (strs ss : List (DataW H)):=List.mem_map_of_mem (f:=fun s : ByteArray => (DataW.lit (Lit.string s.data.toList) : DataW H)) h
 have h2:=bulk_mem h1
 rw [dS] at h2
 exact h2
theorem names_of_trod {fuel : Nat} {cs : List Value} {y : DataW H × List MemPlace} (h : DataW.trod enc Tryd.prog w base (fun _ => true) true fuel 28 cs = some y) (hb : Rows.uptoBulk y.1 ≤ 1048576) :
  ∃ A c,∃ ss : List ByteArray,cs = [.slice A ss.length c] ∧ ss.length ≤ c ∧ kS.C w A ss.length ss ∧ ∀ s ∈ ss,s.size ≤ 140737488351232:=by
 rcases open_strings Tryd.underlying28 Tryd.underlying9 bU h with ⟨rfl,rfl⟩|⟨a,len,cap,zs,rfl,hb0,hl,hm,hz,rfl,hc,hw⟩
 · exact ⟨none,0,[],rfl,Nat.le_refl _,Kd.C_nil _ _,fun _ h => by cases h⟩
 ·
  have hz' : zs.length = cap:=by simpa using hz
  have hlen : (zs.take len).length = len:=by rw [List.length_take]; omega
  refine ⟨some a,cap,zs.take len,by rw [hlen],by omega,?_,fun s hs => ?_⟩
  ·
   rw [hlen]
   refine ⟨hlen,by unfold maxLen at hm; omega,fun _ => ⟨a,rfl,?_⟩⟩
   intro j p hj
   obtain ⟨hjl,rfl⟩:=List.getElem?_eq_some_iff.1 hj
   refine ⟨[.string (zs.take len)[j]],rfl,rfl,?_⟩
   intro i u hu
   match i,hu with
   | 0,hu =>
    cases hu
    have h1:=hc j (by omega)
    rw [List.getD_eq_getElem?_getD,List.getElem?_eq_getElem (by omega)] at h1
    rw [List.getElem_take]
    rw [show j * kS.sz + 0 = j by show j * 1 + 0 = j; omega]
    exact h1
  ·
   have h1:=strs_mem (H:=H) hs
   rw [dO] at hb
   have h2 : s.size = s.data.toList.length:=by simp
   omega
set_option maxRecDepth 100000 in
theorem cmd_of_trod {fuel : Nat} {cs : List Value} {y : DataW H × List MemPlace} (h : DataW.trod enc Tryd.prog w base (fun _ => true) true fuel 54 cs = some y) (hbulk : Rows.uptoBulk y.1 ≤ 1048576) :
  ∃ a : Cmd,∃ A1 c1 A2 c2 A3 c3 A4 c4,cs = [.string a.word,.slice A1 a.names.length c1,.slice A2 a.nums.length c2,.int .i64 a.lo,.int .i64 a.hi,.bool a.hl,.bool a.hh,.int .u8 a.x.f0,.string a.x.f1,.slice A3 a.x.f2.length c3,.slice A4 a.x.f3.length c4] ∧
   HasC w a A1 c1 A2 c2 A3 c3 A4 c4 ∧ cnt a.x ≤ Rows.uptoBulk y.1 ∧ a.x.f2.length ≤ 1048576 ∧ a.word.size ≤ 1048576:=by
 obtain ⟨xs,n,rfl,rfl,hlen,hsz,hall⟩:=DataW.trod_struct Tryd.underlying54 h
 rw [cells_cmd] at hlen
 match cs,hlen with
 | [v0,v1,v2,v3,v4,v5,v6,v7,v8,v9,v10],_ =>
 match xs,hsz with
 | [y0,y1,y2,y3,y4],_ =>
 have e0 : DataW.trod enc Tryd.prog w base (fun _ => true) true n 9 (([v0,v1,v2,v3,v4,v5,v6,v7,v8,v9,v10].drop 0).take (Tryd.prog.cellsOf 9)) = some y0:=hall 0 _ rfl
 have e1 : DataW.trod enc Tryd.prog w base (fun _ => true) true n 28 (([v0,v1,v2,v3,v4,v5,v6,v7,v8,v9,v10].drop 1).take (Tryd.prog.cellsOf 28)) = some y1:=hall 1 _ rfl
 have e2 : DataW.trod enc Tryd.prog w base (fun _ => true) true n 22 (([v0,v1,v2,v3,v4,v5,v6,v7,v8,v9,v10].drop 2).take (Tryd.prog.cellsOf 22)) = some y2:=hall 2 _ rfl
 have e3 : DataW.trod enc Tryd.prog w base (fun _ => true) true n 52 (([v0,v1,v2,v3,v4,v5,v6,v7,v8,v9,v10].drop 3).take (Tryd.prog.cellsOf 52)) = some y3:=hall 3 _ rfl
 have e4 : DataW.trod enc Tryd.prog w base (fun _ => true) true n 25 (([v0,v1,v2,v3,v4,v5,v6,v7,v8,v9,v10].drop 7).take (Tryd.prog.cellsOf 25)) = some y4:=hall 4 _ rfl
 rw [bU] at e0
 rw [cells_strs] at e1
 rw [bX] at e2
 rw [cells_range] at e3
 rw [cO] at e4
 have hB : Rows.uptoBulk y0.1 + Rows.uptoBulk y1.1 + Rows.uptoBulk y4.1 ≤ Rows.uptoBulk (DataW.agg (List.map (fun x => x.1) [y0,y1,y2,y3,y4])):=by
  simp only [List.map_cons,List.map_nil,bulk_agg,qV,iA]
  omega
 have hB2 : Rows.uptoBulk (DataW.agg (List.map (fun x => x.1) [y0,y1,y2,y3,y4])) ≤ 1048576:=hbulk
 obtain ⟨s,h1,rfl,hs⟩:=DataW.trod_string Tryd.underlying9 e0
 obtain rfl : v0 = .string s:=by simpa using h1
 obtain ⟨A1,c1,NS,h2,hl1,hC1,hz1⟩:=names_of_trod e1 (by omega)
 obtain rfl : v1 = .slice A1 NS.length c1:=by simpa using h2
 obtain ⟨A2,c2,ns,h3,hl2,hC2,hz2⟩:=zWE e2
 obtain rfl : v2 = .slice A2 ns.length c2:=by simpa using h3
 obtain ⟨x,A3,c3,A4,c4,h4,hx,hcx⟩:=has_of_trod n n (Nat.le_refl _) _ _ e4 (by omega)
 have h4 : [v7,v8,v9,v10] = [Value.int .u8 x.f0,.string x.f1,.slice A3 x.f2.length c3,.slice A4 x.f3.length c4]:=h4
 injection h4 with q7 h4
 injection h4 with q8 h4
 injection h4 with q9 h4
 injection h4 with q10 h4
 subst q7 q8 q9 q10
 have hx2:=expr_nums (show DataW.trod enc Tryd.prog w base (fun _ => true) true n 25 [.int .u8 x.f0,.string x.f1,.slice A3 x.f2.length c3,.slice A4 x.f3.length c4] = some y4 from e4)
 obtain ⟨zs,m,_,_,hlen3,hsz3,hall3⟩:=DataW.trod_struct Tryd.underlying52 e3
 match zs,hsz3 with
 | [z0,z1,z2,z3],_ =>
 have r0 : DataW.trod enc Tryd.prog w base (fun _ => true) true m 2 (([v3,v4,v5,v6].drop 0).take (Tryd.prog.cellsOf 2)) = some z0:=hall3 0 _ rfl
 have r1 : DataW.trod enc Tryd.prog w base (fun _ => true) true m 2 (([v3,v4,v5,v6].drop 1).take (Tryd.prog.cellsOf 2)) = some z1:=hall3 1 _ rfl
 have r2 : DataW.trod enc Tryd.prog w base (fun _ => true) true m 4 (([v3,v4,v5,v6].drop 2).take (Tryd.prog.cellsOf 4)) = some z2:=hall3 2 _ rfl
 have r3 : DataW.trod enc Tryd.prog w base (fun _ => true) true m 4 (([v3,v4,v5,v6].drop 3).take (Tryd.prog.cellsOf 4)) = some z3:=hall3 3 _ rfl
 rw [bY] at r0 r1
 rw [cells_bool] at r2 r3
 obtain ⟨lo,k0,rfl,hw0⟩:=DataW.trod_int Tryd.underlying2 r0
 obtain ⟨hg,k1,rfl,hw1⟩:=DataW.trod_int Tryd.underlying2 r1
 obtain ⟨hl,k2,rfl⟩:=DataW.trod_bool Tryd.underlying4 r2
 obtain ⟨hh,k3,rfl⟩:=DataW.trod_bool Tryd.underlying4 r3
 obtain rfl : v3 = .int .i64 lo:=by simpa using k0
 obtain rfl : v4 = .int .i64 hg:=by simpa using k1
 obtain rfl : v5 = .bool hl:=by simpa using k2
 obtain rfl : v6 = .bool hh:=by simpa using k3
 rw [dS] at hB
 have hss : s.size = s.data.toList.length:=by simp
 exact ⟨⟨s,NS,ns,lo,hg,hl,hh,x⟩,A1,c1,A2,c2,A3,c3,A4,c4,rfl,⟨hl1,hC1,hl2,hC2,hx,hz1,hz2,bounds_i64 hw0,bounds_i64 hw1⟩,by show cnt x ≤ Rows.uptoBulk (DataW.agg (List.map (fun x => x.1) [(DataW.lit (Lit.string s.data.toList),[]),y1,y2,y3,y4])); exact Nat.le_trans hcx (by omega),by show x.f2.length ≤ _; omega,by show s.size ≤ _; omega⟩
end
end Go.Proofs.YtjeofffddbibeaaDoor.Pa
end
