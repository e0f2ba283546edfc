/-
  The contract of Read: what a text says.
-/
import Derived.Test.YtnaaagaammimnaaGreatDoorDatR
import Derived.Lib.SplitLaws
import Derived.Laws.EntriesVeiled
namespace Go.Proofs.YtnaaagaammimnaaGreatDoor.Civ
open Go Go.RowKit Go.Proofs.YtnaaagaammimnaaGreatDoor.PDateTells Go.Proofs.YtnaaagaammimnaaGreatDoorW.PrintWords Go.Proofs.YtnaaagaammimnaaGreatDoorW.PrintLast Go.Proofs.YtnaaagaammimnaaGreatDoorW.PrintMore Go.Proofs.YtnaaagaammimnaaGreatDoor.Ex Go.Sort
set_option linter.unusedVariables false
set_option linter.unusedSimpArgs false

section
variable {P : Program} {ops : Array Oper} {Q : Exit → Act → World → Prop}
/-- A call of a function that lies in a variable. -/
theorem goesV_ {oi : Oper} {N : Option Tmp} {a : Act} {w : World} {K : Act → World → Prop} {f : FuncId} {fn : Func} {o : Operand} {aas : Array Operand} {ts : Array TypeId} (hf : P.funcs[f]? = some fn) (hname : (fn.name == "runtime.NumGoroutine") = false) (hb : fn.body.isSome = true) (args : Array Value)
    (ho : a.eval o = .func (.func f) #[] #[]) (hw : Region.wanted oi (yielded ops a.tmps) = true) (hN : oi.dst = N) (hop : oi.op = .call { callee := .value o, args := aas, argTypes := ts }) (hargs : aas.map a.eval = args)
    (h : Calls P f args w fun e w' => ∃ v, e = .returned v ∧ K (a.put N v) w') : if Region.wanted oi (yielded ops a.tmps) = true then Oper.wp P oi a w K Q else K (a.put N undef) w := by
  refine call_ f args hw hN ?_ h
  have he := enters_ hf hname hb args w
  unfold execOp
  simp [hop, resolve, Deferred.ofValue, invoke, ho, hargs, he]
end
abbrev dash : ByteArray := ⟨#[45]⟩
/-- The pieces between the dashes. -/
def pieces (t : ByteArray) : List ByteArray := Lib.splitB dash 0 (Lib.countB t dash) t
theorem pieces_len (t : ByteArray) : (pieces t).length = Lib.countB t dash + 1 := Lib.splitB_all dash (by decide) 0 _ t rfl
/-- What the k-th shape says of what stands behind the year. -/
def shapeF (y : Int) (L : List ByteArray) : Nat → Int × Int
  | 0 => if L.length = 3 then monthsF y (L.getD 1 ⟨#[]⟩) (L.getD 2 ⟨#[]⟩) else (0, 30)
  | 1 => if L.length = 3 then weeksF y (L.getD 1 ⟨#[]⟩) (L.getD 2 ⟨#[]⟩) else (0, 30)
  | _ => if L.length = 2 then daysOfF y (L.getD 1 ⟨#[]⟩) else (0, 30)
def tailF (y : Int) (L : List ByteArray) : Int × Int :=
  if (shapeF y L 0).2 = 0 then ((shapeF y L 0).1, 0) else if (shapeF y L 1).2 = 0 then ((shapeF y L 1).1, 0) else if (shapeF y L 2).2 = 0 then ((shapeF y L 2).1, 0) else (0, 30)
def readL (minus : Bool) (L : List ByteArray) : Int × Int :=
  if (numF (L.getD 0 ⟨#[]⟩) 4).2 = false ∨ (minus = true ∧ (numF (L.getD 0 ⟨#[]⟩) 4).1 = 0) then (0, 30)
  else tailF (if minus = true then -(numF (L.getD 0 ⟨#[]⟩) 4).1 else (numF (L.getD 0 ⟨#[]⟩) 4).1) L
/-- What Read answers. -/
def readF (s : ByteArray) : Int × Int := readL (Lib.hasPrefix s.data.toList [45]) (pieces ⟨(Lib.trimPrefix s.data.toList [45]).toArray⟩)
theorem trim_size (s : ByteArray) : (⟨(Lib.trimPrefix s.data.toList [45]).toArray⟩ : ByteArray).size ≤ s.size := by
  show (Lib.trimPrefix s.data.toList [45]).toArray.size ≤ _
  have hl : s.size = s.data.toList.length := (Array.length_toList).symm
  rw [List.size_toArray, hl]
  unfold Lib.trimPrefix
  split
  · rw [List.length_drop]; omega
  · exact Nat.le_refl _
theorem tail_at {y : Int} {L : List ByteArray} {k : Nat} (hk : k < 3) (hp : ∀ j, j < k → (shapeF y L j).2 ≠ 0) (h : (shapeF y L k).2 = 0) : tailF y L = ((shapeF y L k).1, 0) := by
  unfold tailF
  match k, hk with
  | 0, _ => rw [if_pos h]
  | 1, _ => rw [if_neg (hp 0 (by omega)), if_pos h]
  | 2, _ => rw [if_neg (hp 0 (by omega)), if_neg (hp 1 (by omega)), if_pos h]
theorem tail_none {y : Int} {L : List ByteArray} (hp : ∀ j, j < 3 → (shapeF y L j).2 ≠ 0) : tailF y L = (0, 30) := by
  unfold tailF
  rw [if_neg (hp 0 (by omega)), if_neg (hp 1 (by omega)), if_neg (hp 2 (by omega))]
theorem next_p {y : Int} {L : List ByteArray} {k : Nat} (hp : ∀ j, j < k → (shapeF y L j).2 ≠ 0) (h : (shapeF y L k).2 ≠ 0) : ∀ j, j < k + 1 → (shapeF y L j).2 ≠ 0 := by
  intro j hj
  rcases Nat.lt_or_ge j k with h1 | h1
  · exact hp j h1
  · obtain rfl : j = k := by omega
    exact h
theorem len2 {l : List ByteArray} (h : l.length = 2) : ∃ p q, l = [p, q] := by
  match l, h with
  | [p, q], _ => exact ⟨p, q, rfl⟩
theorem lt_new (w : World) (cs : Array Value) (t : TypeId) : Lt w (w.alloc (.cells cs t)) := (Lt.refl _).a _
set_option maxHeartbeats 16000000 in
set_option maxRecDepth 100000 in
theorem Read_lt (s : ByteArray) (w : World) (hC : Cal w) (hs : s.size < 4294967281) :
    Calls Tryz.prog 21 #[.string s] w fun e w' => e = .returned (.tuple #[.int .i64 (readF s).1, .int .i64 (readF s).2]) ∧ Lt w w' := by
  have CP := Aside0.mk (Tryz.strings_CutPrefix s ⟨#[45]⟩ w)
  have hts := trim_size s
  have e1 : (ByteArray.mk #[45]).data.toList = [45] := rfl
  rw [e1] at CP
  have hr : readF s = readL (Lib.hasPrefix s.data.toList [45]) (pieces ⟨(Lib.trimPrefix s.data.toList [45]).toArray⟩) := rfl
  rw [hr]
  clear hr e1
  generalize Lib.hasPrefix s.data.toList [45] = minus at *
  generalize (⟨(Lib.trimPrefix s.data.toList [45]).toArray⟩ : ByteArray) = t at *
  obtain ⟨ml, hml⟩ := hC.maxl
  have CS := Aside0.mk (Tryz.strings_Split t dash ml w (by omega) hml (by decide))
  have hpl := pieces_len t
  have hpe : Lib.splitB dash 0 (Lib.countB t dash) t = pieces t := rfl
  rw [hpe, ← hpl] at CS
  clear hpe hts hml
  generalize pieces t = L at *
  have hn1 : 1 ≤ L.length := by omega
  clear hpl
  obtain ⟨x0, r, rfl⟩ : ∃ x0 r, L = x0 :: r := by
    cases L with
    | nil => simp at hn1
    | cons a r => exact ⟨a, r, rfl⟩
  have N1 := Aside0.mk (fun w => number_lt x0 4 w (by omega) (by omega))
  have b1 := numF_bd x0 4 (by omega) (by omega)
  have hr : readL minus (x0 :: r) = if (numF x0 4).2 = false ∨ (minus = true ∧ (numF x0 4).1 = 0) then (0, 30) else tailF (if minus = true then -(numF x0 4).1 else (numF x0 4).1) (x0 :: r) := rfl
  rw [hr]
  clear hr
  generalize (numF x0 4).1 = n at *
  generalize (numF x0 4).2 = ok at *
  have HC := Aside0.mk hC
  obtain ⟨wB, hwB⟩ : ∃ wB, wB = w.alloc (.cells ((x0 :: r).map Value.string).toArray 9) := ⟨_, rfl⟩
  have hlB : Lt w wB := by rw [hwB]; exact (Lt.refl _).a _
  obtain ⟨B, hB⟩ : ∃ B, B = w.heap.size := ⟨_, rfl⟩
  have hcells : ∀ j, ∀ hj : j < (x0 :: r).length, wB.cell? ⟨B, j, none⟩ = some (.string (x0 :: r)[j]) := by
    intro j hj
    rw [hwB, hB, World.cell?_alloc_at _ _ _ _ rfl]
    simp only [List.getElem?_toArray, List.getElem?_map, List.getElem?_eq_getElem hj, Option.map_some]
  rw [← hwB, ← hB] at CS
  have c0 : wB.cell? ⟨B, 0, none⟩ = some (.string x0) := hcells 0 (by simp)
  have HCB := Aside0.mk (hC.l hlB)
  have HCE := Aside0.mk hcells
  have HLB := Aside0.mk hlB
  clear hwB hB hlB hcells
  obtain ⟨N, hN⟩ : ∃ N, N = (x0 :: r).length := ⟨_, rfl⟩
  rw [← hN] at CS
  have HN := Aside0.mk (show N = r.length + 1 from hN)
  have hNb : 1 ≤ N := by rw [hN]; exact hn1
  have hNb2 : (1 : Int) ≤ (N : Int) := by omega
  have hNb3 : (0 : Int) < (N : Int) := by omega
  clear hN hn1
  cases ok
  · rw [if_pos (.inl rfl)]
    go_enter Tryz.func21, Tryz.ntmps21
    go_wp2_with fail
    (with_reducible refine CP.out.mono ?_)
    rintro e w0 ⟨rfl, rfl⟩
    go_wp2_with fail
    (with_reducible refine CS.out.mono ?_)
    rintro e w0 ⟨rfl, rfl⟩
    go_wp2_with fail
    (with_reducible refine (N1.out _).mono ?_)
    rintro e w1 ⟨rfl, hl1⟩
    have HL1 := Aside0.mk hl1
    clear hl1
    go_wp2
    go_ret2
    exact ⟨rfl, HLB.out.trans HL1.out⟩
  · cases minus
    · rw [if_neg (by simp), if_neg (by simp)]
      generalize n = y at *
      obtain ⟨⟨T1, T2⟩, hT⟩ : ∃ q, tailF y (x0 :: r) = q := ⟨_, rfl⟩
      rw [hT]
      have HT := Aside0.mk hT
      clear hT
      go_enter Tryz.func21, Tryz.ntmps21
      go_wp2_with fail
      (with_reducible refine CP.out.mono ?_)
      rintro e w0 ⟨rfl, rfl⟩
      go_wp2_with fail
      (with_reducible refine CS.out.mono ?_)
      rintro e w0 ⟨rfl, rfl⟩
      go_wp2_with fail
      (with_reducible refine (N1.out _).mono ?_)
      rintro e w1 ⟨rfl, hl1⟩
      have HL1 := Aside0.mk hl1
      clear hl1
      go_wp2_with fail
      (with_reducible refine (shapes_calls _).mono ?_)
      rintro e w2 ⟨rfl, hw2⟩
      have sc : ∀ j v, (#[.int .i64 2, .func (.func 62) #[] #[], .int .i64 2, .func (.func 63) #[] #[], .int .i64 1, .func (.func 64) #[] #[]] : Array Value)[j]? = some v → w2.cell? ⟨w1.heap.size, j, none⟩ = some v := fun j v h => by
        rw [hw2, World.cell?_alloc_at _ _ _ _ rfl]
        exact h
      have hl2 : Lt w1 w2 := by rw [hw2]; exact (Lt.refl _).a _
      have HSC := Aside0.mk sc
      have HL2 := Aside0.mk hl2
      clear sc hl2 hw2
      generalize w1.heap.size = S0 at *
      go_wp2
      go_loopw [40] (fun i wr => ∃ k, k ≤ 3 ∧ i = .int .i64 (k : Nat) ∧ Lt w2 wr ∧ ∀ j, j < k → (shapeF y (x0 :: r) j).2 ≠ 0) (fun i _ => 3 - (intOf i).toNat)
      case atStart => exact ⟨0, Nat.zero_le _, rfl, Lt.refl _, fun j hj => by omega⟩
      case round =>
        obtain ⟨k, hk, rfl, hlr, hp⟩ := hrel
        have HLR := Aside0.mk hlr
        have HPP := Aside0.mk hp
        clear hlr hp
        rcases (show k = 0 ∨ k = 1 ∨ k = 2 ∨ k = 3 by omega) with rfl | rfl | rfl | rfl
        · have s0 := cell_lt HLR.out (HSC.out 0 _ rfl)
          have s1 := cell_lt HLR.out (HSC.out 1 _ rfl)
          by_cases hN3 : N = 3
          · subst hN3
            have hrl : r.length = 2 := by have := HN.out; omega
            obtain ⟨p, q, rfl⟩ := len2 hrl
            clear hrl
            have hF : shapeF y (x0 :: [p, q]) 0 = monthsF y p q := rfl
            obtain ⟨wv, hwv⟩ : ∃ wv, wv = wr.alloc (.cells #[.int .i64 2, .func (.func 62) #[] #[]] 60) := ⟨_, rfl⟩
            have hlv : Lt wr wv := by rw [hwv]; exact lt_new _ _ _
            have v0' : (wr.alloc (.cells #[.int .i64 2, .func (.func 62) #[] #[]] 60)).cell? ⟨wr.heap.size, 0, none⟩ = some (.int .i64 2) := by rw [World.cell?_alloc_at _ _ _ _ rfl]; rfl
            have v1' : (wr.alloc (.cells #[.int .i64 2, .func (.func 62) #[] #[]] 60)).cell? ⟨wr.heap.size, 1, none⟩ = some (.func (.func 62) #[] #[]) := by rw [World.cell?_alloc_at _ _ _ _ rfl]; rfl
            have v1 := v1'
            rw [← hwv] at v1
            have b1 : wv.drew.cell? ⟨B, 1, none⟩ = some (.string p) := cell_lt (w' := wv) ((HL1.out.trans (HL2.out.trans (HLR.out.trans hlv)))) (HCE.out 1 (by simp))
            have b2 : wv.drew.cell? ⟨B, 1 + 1, none⟩ = some (.string q) := cell_lt (w' := wv) ((HL1.out.trans (HL2.out.trans (HLR.out.trans hlv)))) (HCE.out 2 (by simp))
            have hCv : Cal wv.drew := (HCB.out.l ((HL1.out.trans (HL2.out.trans (HLR.out.trans hlv))))).l (Lt.refl _).d1
            have HLV := Aside0.mk hlv
            obtain ⟨⟨m1, m2⟩, hm⟩ : ∃ z, monthsF y p q = z := ⟨_, rfl⟩
            rw [hm] at hF
            have HF := Aside0.mk hF
            have HM := Aside0.mk hm
            obtain ⟨X, hX⟩ : ∃ X, X = wr.heap.size := ⟨_, rfl⟩
            rw [← hX] at v1
            clear hF hlv hm
            by_cases h0 : m2 = 0
            · have h0' : (m2 == 0) = true := beq_iff_eq.2 h0
              have HH := Aside0.mk h0
              clear h0
              go_wp2_with fail
              rw [← hwv, ← hX]
              clear hwv v0' v1' s0 s1 hX
              refine start_ (n := 11) (S := fun w' => w'.cell? ⟨X, 1, none⟩ = some (.func (.func 62) #[] #[])) (ds := []) #[false, false, false, false, false, false, false, false, false, false, false] (by kernel_rfl) rfl rfl (v1) (fun hHeld => ?_)
              refine pure_ (i := 0) (N := some 51) (v := ?_) (a' := ?_) #[true, false, false, false, false, false, false, false, false, false, false] rfl rfl (by kernel_rfl) (fun _ _ _ h => h) (Or.inl ⟨by rfl, ?_⟩) ?_ ?_
              rotate_left
              · intro w'
                go_simp
                with_reducible rfl
              rotate_left
              · simp only [Act.put, List.setIfInBounds_toArray, List.set_cons_zero, List.set_cons_succ, i64_w, i32_w]
                rfl
              refine pure_ (i := 2) (N := some 53) (v := ?_) (a' := ?_) #[true, false, true, false, false, false, false, false, false, false, false] rfl rfl (by kernel_rfl) (fun _ _ _ h => h) (Or.inl ⟨by rfl, ?_⟩) ?_ ?_
              rotate_left
              · intro w'
                go_simp
                with_reducible rfl
              rotate_left
              · simp only [Act.put, List.setIfInBounds_toArray, List.set_cons_zero, List.set_cons_succ, i64_w, i32_w]
                rfl
              refine pure_ (i := 3) (N := some 54) (v := ?_) (a' := ?_) #[true, false, true, true, false, false, false, false, false, false, false] rfl rfl (by kernel_rfl) (fun _ _ _ h => h) (Or.inl ⟨by rfl, ?_⟩) ?_ ?_
              rotate_left
              · intro w'
                go_simp
                with_reducible rfl
              rotate_left
              · simp only [Act.put, List.setIfInBounds_toArray, List.set_cons_zero, List.set_cons_succ, i64_w, i32_w]
                rfl
              refine pure_ (i := 4) (N := some 55) (v := ?_) (a' := ?_) #[true, false, true, true, true, false, false, false, false, false, false] rfl rfl (by kernel_rfl) (fun _ _ _ h => h) (Or.inl ⟨by rfl, ?_⟩) ?_ ?_
              rotate_left
              · intro w'
                go_simp
                with_reducible rfl
              rotate_left
              · simp only [Act.put, List.setIfInBounds_toArray, List.set_cons_zero, List.set_cons_succ, i64_w, i32_w]
                rfl
              refine take_ (i := 1) (N := some 52) (v := ?_) (a' := ?_) #[true, true, true, true, true, false, false, false, false, false, false] rfl rfl (by kernel_rfl) (fun _ _ _ h => h) (Or.inl ⟨by rfl, ?_⟩) hHeld ?_ ?_
              rotate_left
              · intro w' s0
                go_simp
                with_reducible rfl
              rotate_left
              · simp only [Act.put, List.setIfInBounds_toArray, List.set_cons_zero, List.set_cons_succ, i64_w, i32_w]
                rfl
              refine one_ (i := 5) (N := some 56) #[true, true, true, true, true, true, false, false, false, false, false] rfl rfl (by kernel_rfl) (by decide) (fun K hK => ?_)
              refine goesV_ Tryz.func62 (by kernel_rfl) rfl #[.int .i64 y, .slice (some ⟨B, 1, none⟩) 2 2] (by rfl) (by rfl) rfl rfl (by simp only [List.map_toArray, List.map_cons, List.map_nil]; rfl) ?_
              with_reducible refine (months_lt y ⟨B, 1, none⟩ 2 p q _ hCv b1 b2).mono ?_
              rintro e w3 ⟨rfl, hl3⟩
              refine ⟨_, rfl, ?_⟩
              refine hK.out _ _ (cell_lt hl3 hHeld) (fun hHeld => ?_)
              clear hK K
              refine norm_ (a' := ?_) ?_ ?_
              rotate_left
              · show Act.put _ (some 56) _ = _
                simp only [Act.put, List.setIfInBounds_toArray, List.set_cons_zero, List.set_cons_succ, i64_w, i32_w]
                rfl
              refine pure_ (i := 6) (N := some 50) (v := ?_) (a' := ?_) #[true, true, true, true, true, true, true, false, false, false, false] rfl rfl (by kernel_rfl) (fun _ _ _ h => h) (Or.inl ⟨by rfl, ?_⟩) ?_ ?_
              rotate_left
              · intro w'
                go_simp
                with_reducible rfl
              rotate_left
              · simp only [Act.put, List.setIfInBounds_toArray, List.set_cons_zero, List.set_cons_succ, i64_w, i32_w]
                rfl
              refine pure_ (i := 7) (N := some 57) (v := ?_) (a' := ?_) #[true, true, true, true, true, true, true, true, false, false, false] rfl rfl (by kernel_rfl) (fun _ _ _ h => h) (Or.inl ⟨by rfl, ?_⟩) ?_ ?_
              rotate_left
              · intro w'
                go_simp
                with_reducible rfl
              rotate_left
              · simp only [Act.put, List.setIfInBounds_toArray, List.set_cons_zero, List.set_cons_succ, i64_w, i32_w]
                rfl
              refine pure_ (i := 8) (N := some 58) (v := ?_) (a' := ?_) #[true, true, true, true, true, true, true, true, true, false, false] rfl rfl (by kernel_rfl) (fun _ _ _ h => h) (Or.inl ⟨by rfl, ?_⟩) ?_ ?_
              rotate_left
              · intro w'
                go_simp
                with_reducible rfl
              rotate_left
              · simp only [Act.put, List.setIfInBounds_toArray, List.set_cons_zero, List.set_cons_succ, i64_w, i32_w]
                rfl
              refine pure_ (i := 9) (N := some 10) (v := ?_) (a' := ?_) #[true, true, true, true, true, true, true, true, true, true, false] rfl rfl (by kernel_rfl) (fun _ _ _ h => h) (Or.inl ⟨by rfl, ?_⟩) ?_ ?_
              rotate_left
              · intro w'
                go_simp
                with_reducible rfl
              rotate_left
              · simp only [Act.put, List.setIfInBounds_toArray, List.set_cons_zero, List.set_cons_succ, i64_w, i32_w]
                rfl
              refine pure_ (i := 10) (N := some 11) (v := ?_) (a' := ?_) #[true, true, true, true, true, true, true, true, true, true, true] rfl rfl (by kernel_rfl) (fun _ _ _ h => h) (Or.inl ⟨by rfl, ?_⟩) ?_ ?_
              rotate_left
              · intro w'
                go_simp
                with_reducible rfl
              rotate_left
              · simp only [Act.put, List.setIfInBounds_toArray, List.set_cons_zero, List.set_cons_succ, i64_w, i32_w]
                rfl
              refine done_ (by kernel_rfl) ?_
              rw [HM.out] at *
              go_wp2_with fail
              go_ret2
              have hT := tail_at (by omega) HPP.out (by rw [HF.out]; exact HH.out)
              rw [HT.out, HF.out] at hT
              obtain ⟨rfl, rfl⟩ := Prod.mk.inj hT
              exact ⟨rfl, HLB.out.trans (HL1.out.trans (HL2.out.trans (HLR.out.trans (HLV.out.trans ((Lt.refl _).d1.trans hl3)))))⟩
            · have h0' : (m2 == 0) = false := beq_eq_false_iff_ne.2 h0
              have HH := Aside0.mk h0
              clear h0
              go_wp2_with fail
              rw [← hwv, ← hX]
              clear hwv v0' v1' s0 s1 hX
              refine start_ (n := 11) (S := fun w' => w'.cell? ⟨X, 1, none⟩ = some (.func (.func 62) #[] #[])) (ds := []) #[false, false, false, false, false, false, false, false, false, false, false] (by kernel_rfl) rfl rfl (v1) (fun hHeld => ?_)
              refine pure_ (i := 0) (N := some 51) (v := ?_) (a' := ?_) #[true, false, false, false, false, false, false, false, false, false, false] rfl rfl (by kernel_rfl) (fun _ _ _ h => h) (Or.inl ⟨by rfl, ?_⟩) ?_ ?_
              rotate_left
              · intro w'
                go_simp
                with_reducible rfl
              rotate_left
              · simp only [Act.put, List.setIfInBounds_toArray, List.set_cons_zero, List.set_cons_succ, i64_w, i32_w]
                rfl
              refine pure_ (i := 2) (N := some 53) (v := ?_) (a' := ?_) #[true, false, true, false, false, false, false, false, false, false, false] rfl rfl (by kernel_rfl) (fun _ _ _ h => h) (Or.inl ⟨by rfl, ?_⟩) ?_ ?_
              rotate_left
              · intro w'
                go_simp
                with_reducible rfl
              rotate_left
              · simp only [Act.put, List.setIfInBounds_toArray, List.set_cons_zero, List.set_cons_succ, i64_w, i32_w]
                rfl
              refine pure_ (i := 3) (N := some 54) (v := ?_) (a' := ?_) #[true, false, true, true, false, false, false, false, false, false, false] rfl rfl (by kernel_rfl) (fun _ _ _ h => h) (Or.inl ⟨by rfl, ?_⟩) ?_ ?_
              rotate_left
              · intro w'
                go_simp
                with_reducible rfl
              rotate_left
              · simp only [Act.put, List.setIfInBounds_toArray, List.set_cons_zero, List.set_cons_succ, i64_w, i32_w]
                rfl
              refine pure_ (i := 4) (N := some 55) (v := ?_) (a' := ?_) #[true, false, true, true, true, false, false, false, false, false, false] rfl rfl (by kernel_rfl) (fun _ _ _ h => h) (Or.inl ⟨by rfl, ?_⟩) ?_ ?_
              rotate_left
              · intro w'
                go_simp
                with_reducible rfl
              rotate_left
              · simp only [Act.put, List.setIfInBounds_toArray, List.set_cons_zero, List.set_cons_succ, i64_w, i32_w]
                rfl
              refine take_ (i := 1) (N := some 52) (v := ?_) (a' := ?_) #[true, true, true, true, true, false, false, false, false, false, false] rfl rfl (by kernel_rfl) (fun _ _ _ h => h) (Or.inl ⟨by rfl, ?_⟩) hHeld ?_ ?_
              rotate_left
              · intro w' s0
                go_simp
                with_reducible rfl
              rotate_left
              · simp only [Act.put, List.setIfInBounds_toArray, List.set_cons_zero, List.set_cons_succ, i64_w, i32_w]
                rfl
              refine one_ (i := 5) (N := some 56) #[true, true, true, true, true, true, false, false, false, false, false] rfl rfl (by kernel_rfl) (by decide) (fun K hK => ?_)
              refine goesV_ Tryz.func62 (by kernel_rfl) rfl #[.int .i64 y, .slice (some ⟨B, 1, none⟩) 2 2] (by rfl) (by rfl) rfl rfl (by simp only [List.map_toArray, List.map_cons, List.map_nil]; rfl) ?_
              with_reducible refine (months_lt y ⟨B, 1, none⟩ 2 p q _ hCv b1 b2).mono ?_
              rintro e w3 ⟨rfl, hl3⟩
              refine ⟨_, rfl, ?_⟩
              refine hK.out _ _ (cell_lt hl3 hHeld) (fun hHeld => ?_)
              clear hK K
              refine norm_ (a' := ?_) ?_ ?_
              rotate_left
              · show Act.put _ (some 56) _ = _
                simp only [Act.put, List.setIfInBounds_toArray, List.set_cons_zero, List.set_cons_succ, i64_w, i32_w]
                rfl
              refine pure_ (i := 6) (N := some 50) (v := ?_) (a' := ?_) #[true, true, true, true, true, true, true, false, false, false, false] rfl rfl (by kernel_rfl) (fun _ _ _ h => h) (Or.inl ⟨by rfl, ?_⟩) ?_ ?_
              rotate_left
              · intro w'
                go_simp
                with_reducible rfl
              rotate_left
              · simp only [Act.put, List.setIfInBounds_toArray, List.set_cons_zero, List.set_cons_succ, i64_w, i32_w]
                rfl
              refine pure_ (i := 7) (N := some 57) (v := ?_) (a' := ?_) #[true, true, true, true, true, true, true, true, false, false, false] rfl rfl (by kernel_rfl) (fun _ _ _ h => h) (Or.inl ⟨by rfl, ?_⟩) ?_ ?_
              rotate_left
              · intro w'
                go_simp
                with_reducible rfl
              rotate_left
              · simp only [Act.put, List.setIfInBounds_toArray, List.set_cons_zero, List.set_cons_succ, i64_w, i32_w]
                rfl
              refine pure_ (i := 8) (N := some 58) (v := ?_) (a' := ?_) #[true, true, true, true, true, true, true, true, true, false, false] rfl rfl (by kernel_rfl) (fun _ _ _ h => h) (Or.inl ⟨by rfl, ?_⟩) ?_ ?_
              rotate_left
              · intro w'
                go_simp
                with_reducible rfl
              rotate_left
              · simp only [Act.put, List.setIfInBounds_toArray, List.set_cons_zero, List.set_cons_succ, i64_w, i32_w]
                rfl
              refine pure_ (i := 9) (N := some 10) (v := ?_) (a' := ?_) #[true, true, true, true, true, true, true, true, true, true, false] rfl rfl (by kernel_rfl) (fun _ _ _ h => h) (Or.inl ⟨by rfl, ?_⟩) ?_ ?_
              rotate_left
              · intro w'
                go_simp
                with_reducible rfl
              rotate_left
              · simp only [Act.put, List.setIfInBounds_toArray, List.set_cons_zero, List.set_cons_succ, i64_w, i32_w]
                rfl
              refine pure_ (i := 10) (N := some 11) (v := ?_) (a' := ?_) #[true, true, true, true, true, true, true, true, true, true, true] rfl rfl (by kernel_rfl) (fun _ _ _ h => h) (Or.inl ⟨by rfl, ?_⟩) ?_ ?_
              rotate_left
              · intro w'
                go_simp
                with_reducible rfl
              rotate_left
              · simp only [Act.put, List.setIfInBounds_toArray, List.set_cons_zero, List.set_cons_succ, i64_w, i32_w]
                rfl
              refine done_ (by kernel_rfl) ?_
              rw [HM.out] at *
              go_wp2_with fail
              go_roundw
              case rel => exact ⟨1, by omega, by go_num, HLR.out.trans (HLV.out.trans ((Lt.refl _).d1.trans hl3)), next_p HPP.out (by rw [HF.out]; exact HH.out)⟩
              case measure => simp [intOf]
          · have hF : (shapeF y (x0 :: r) 0).2 ≠ 0 := by
              show (if r.length + 1 = 3 then _ else ((0 : Int), (30 : Int))).2 ≠ 0
              rw [if_neg (by have := HN.out; omega)]
              decide
            have HF := Aside0.mk hF
            have hne1 : ((N : Int) == 3) = false := beq_eq_false_iff_ne.2 (by omega)
            have hne2 : ¬ ((N : Int) = 3) := by omega
            clear hF
            go_wp2_with fail
            go_roundw
            case rel => exact ⟨1, by omega, by go_num, HLR.out.trans (lt_new _ _ _), next_p HPP.out HF.out⟩
            case measure => simp [intOf]
        · have s0 := cell_lt HLR.out (HSC.out 2 _ rfl)
          have s1 := cell_lt HLR.out (HSC.out 3 _ rfl)
          by_cases hN3 : N = 3
          · subst hN3
            have hrl : r.length = 2 := by have := HN.out; omega
            obtain ⟨p, q, rfl⟩ := len2 hrl
            clear hrl
            have hF : shapeF y (x0 :: [p, q]) 1 = weeksF y p q := rfl
            obtain ⟨wv, hwv⟩ : ∃ wv, wv = wr.alloc (.cells #[.int .i64 2, .func (.func 63) #[] #[]] 60) := ⟨_, rfl⟩
            have hlv : Lt wr wv := by rw [hwv]; exact lt_new _ _ _
            have v0' : (wr.alloc (.cells #[.int .i64 2, .func (.func 63) #[] #[]] 60)).cell? ⟨wr.heap.size, 0, none⟩ = some (.int .i64 2) := by rw [World.cell?_alloc_at _ _ _ _ rfl]; rfl
            have v1' : (wr.alloc (.cells #[.int .i64 2, .func (.func 63) #[] #[]] 60)).cell? ⟨wr.heap.size, 1, none⟩ = some (.func (.func 63) #[] #[]) := by rw [World.cell?_alloc_at _ _ _ _ rfl]; rfl
            have v1 := v1'
            rw [← hwv] at v1
            have b1 : wv.drew.cell? ⟨B, 1, none⟩ = some (.string p) := cell_lt (w' := wv) ((HL1.out.trans (HL2.out.trans (HLR.out.trans hlv)))) (HCE.out 1 (by simp))
            have b2 : wv.drew.cell? ⟨B, 1 + 1, none⟩ = some (.string q) := cell_lt (w' := wv) ((HL1.out.trans (HL2.out.trans (HLR.out.trans hlv)))) (HCE.out 2 (by simp))
            have hCv : Cal wv.drew := (HCB.out.l ((HL1.out.trans (HL2.out.trans (HLR.out.trans hlv))))).l (Lt.refl _).d1
            have HLV := Aside0.mk hlv
            obtain ⟨⟨m1, m2⟩, hm⟩ : ∃ z, weeksF y p q = z := ⟨_, rfl⟩
            rw [hm] at hF
            have HF := Aside0.mk hF
            have HM := Aside0.mk hm
            obtain ⟨X, hX⟩ : ∃ X, X = wr.heap.size := ⟨_, rfl⟩
            rw [← hX] at v1
            clear hF hlv hm
            by_cases h0 : m2 = 0
            · have h0' : (m2 == 0) = true := beq_iff_eq.2 h0
              have HH := Aside0.mk h0
              clear h0
              go_wp2_with fail
              rw [← hwv, ← hX]
              clear hwv v0' v1' s0 s1 hX
              refine start_ (n := 11) (S := fun w' => w'.cell? ⟨X, 1, none⟩ = some (.func (.func 63) #[] #[])) (ds := []) #[false, false, false, false, false, false, false, false, false, false, false] (by kernel_rfl) rfl rfl (v1) (fun hHeld => ?_)
              refine pure_ (i := 0) (N := some 51) (v := ?_) (a' := ?_) #[true, false, false, false, false, false, false, false, false, false, false] rfl rfl (by kernel_rfl) (fun _ _ _ h => h) (Or.inl ⟨by rfl, ?_⟩) ?_ ?_
              rotate_left
              · intro w'
                go_simp
                with_reducible rfl
              rotate_left
              · simp only [Act.put, List.setIfInBounds_toArray, List.set_cons_zero, List.set_cons_succ, i64_w, i32_w]
                rfl
              refine pure_ (i := 2) (N := some 53) (v := ?_) (a' := ?_) #[true, false, true, false, false, false, false, false, false, false, false] rfl rfl (by kernel_rfl) (fun _ _ _ h => h) (Or.inl ⟨by rfl, ?_⟩) ?_ ?_
              rotate_left
              · intro w'
                go_simp
                with_reducible rfl
              rotate_left
              · simp only [Act.put, List.setIfInBounds_toArray, List.set_cons_zero, List.set_cons_succ, i64_w, i32_w]
                rfl
              refine pure_ (i := 3) (N := some 54) (v := ?_) (a' := ?_) #[true, false, true, true, false, false, false, false, false, false, false] rfl rfl (by kernel_rfl) (fun _ _ _ h => h) (Or.inl ⟨by rfl, ?_⟩) ?_ ?_
              rotate_left
              · intro w'
                go_simp
                with_reducible rfl
              rotate_left
              · simp only [Act.put, List.setIfInBounds_toArray, List.set_cons_zero, List.set_cons_succ, i64_w, i32_w]
                rfl
              refine pure_ (i := 4) (N := some 55) (v := ?_) (a' := ?_) #[true, false, true, true, true, false, false, false, false, false, false] rfl rfl (by kernel_rfl) (fun _ _ _ h => h) (Or.inl ⟨by rfl, ?_⟩) ?_ ?_
              rotate_left
              · intro w'
                go_simp
                with_reducible rfl
              rotate_left
              · simp only [Act.put, List.setIfInBounds_toArray, List.set_cons_zero, List.set_cons_succ, i64_w, i32_w]
                rfl
              refine take_ (i := 1) (N := some 52) (v := ?_) (a' := ?_) #[true, true, true, true, true, false, false, false, false, false, false] rfl rfl (by kernel_rfl) (fun _ _ _ h => h) (Or.inl ⟨by rfl, ?_⟩) hHeld ?_ ?_
              rotate_left
              · intro w' s0
                go_simp
                with_reducible rfl
              rotate_left
              · simp only [Act.put, List.setIfInBounds_toArray, List.set_cons_zero, List.set_cons_succ, i64_w, i32_w]
                rfl
              refine one_ (i := 5) (N := some 56) #[true, true, true, true, true, true, false, false, false, false, false] rfl rfl (by kernel_rfl) (by decide) (fun K hK => ?_)
              refine goesV_ Tryz.func63 (by kernel_rfl) rfl #[.int .i64 y, .slice (some ⟨B, 1, none⟩) 2 2] (by rfl) (by rfl) rfl rfl (by simp only [List.map_toArray, List.map_cons, List.map_nil]; rfl) ?_
              with_reducible refine (weeks_lt y ⟨B, 1, none⟩ 2 p q _ hCv b1 b2).mono ?_
              rintro e w3 ⟨rfl, hl3⟩
              refine ⟨_, rfl, ?_⟩
              refine hK.out _ _ (cell_lt hl3 hHeld) (fun hHeld => ?_)
              clear hK K
              refine norm_ (a' := ?_) ?_ ?_
              rotate_left
              · show Act.put _ (some 56) _ = _
                simp only [Act.put, List.setIfInBounds_toArray, List.set_cons_zero, List.set_cons_succ, i64_w, i32_w]
                rfl
              refine pure_ (i := 6) (N := some 50) (v := ?_) (a' := ?_) #[true, true, true, true, true, true, true, false, false, false, false] rfl rfl (by kernel_rfl) (fun _ _ _ h => h) (Or.inl ⟨by rfl, ?_⟩) ?_ ?_
              rotate_left
              · intro w'
                go_simp
                with_reducible rfl
              rotate_left
              · simp only [Act.put, List.setIfInBounds_toArray, List.set_cons_zero, List.set_cons_succ, i64_w, i32_w]
                rfl
              refine pure_ (i := 7) (N := some 57) (v := ?_) (a' := ?_) #[true, true, true, true, true, true, true, true, false, false, false] rfl rfl (by kernel_rfl) (fun _ _ _ h => h) (Or.inl ⟨by rfl, ?_⟩) ?_ ?_
              rotate_left
              · intro w'
                go_simp
                with_reducible rfl
              rotate_left
              · simp only [Act.put, List.setIfInBounds_toArray, List.set_cons_zero, List.set_cons_succ, i64_w, i32_w]
                rfl
              refine pure_ (i := 8) (N := some 58) (v := ?_) (a' := ?_) #[true, true, true, true, true, true, true, true, true, false, false] rfl rfl (by kernel_rfl) (fun _ _ _ h => h) (Or.inl ⟨by rfl, ?_⟩) ?_ ?_
              rotate_left
              · intro w'
                go_simp
                with_reducible rfl
              rotate_left
              · simp only [Act.put, List.setIfInBounds_toArray, List.set_cons_zero, List.set_cons_succ, i64_w, i32_w]
                rfl
              refine pure_ (i := 9) (N := some 10) (v := ?_) (a' := ?_) #[true, true, true, true, true, true, true, true, true, true, false] rfl rfl (by kernel_rfl) (fun _ _ _ h => h) (Or.inl ⟨by rfl, ?_⟩) ?_ ?_
              rotate_left
              · intro w'
                go_simp
                with_reducible rfl
              rotate_left
              · simp only [Act.put, List.setIfInBounds_toArray, List.set_cons_zero, List.set_cons_succ, i64_w, i32_w]
                rfl
              refine pure_ (i := 10) (N := some 11) (v := ?_) (a' := ?_) #[true, true, true, true, true, true, true, true, true, true, true] rfl rfl (by kernel_rfl) (fun _ _ _ h => h) (Or.inl ⟨by rfl, ?_⟩) ?_ ?_
              rotate_left
              · intro w'
                go_simp
                with_reducible rfl
              rotate_left
              · simp only [Act.put, List.setIfInBounds_toArray, List.set_cons_zero, List.set_cons_succ, i64_w, i32_w]
                rfl
              refine done_ (by kernel_rfl) ?_
              rw [HM.out] at *
              go_wp2_with fail
              go_ret2
              have hT := tail_at (by omega) HPP.out (by rw [HF.out]; exact HH.out)
              rw [HT.out, HF.out] at hT
              obtain ⟨rfl, rfl⟩ := Prod.mk.inj hT
              exact ⟨rfl, HLB.out.trans (HL1.out.trans (HL2.out.trans (HLR.out.trans (HLV.out.trans ((Lt.refl _).d1.trans hl3)))))⟩
            · have h0' : (m2 == 0) = false := beq_eq_false_iff_ne.2 h0
              have HH := Aside0.mk h0
              clear h0
              go_wp2_with fail
              rw [← hwv, ← hX]
              clear hwv v0' v1' s0 s1 hX
              refine start_ (n := 11) (S := fun w' => w'.cell? ⟨X, 1, none⟩ = some (.func (.func 63) #[] #[])) (ds := []) #[false, false, false, false, false, false, false, false, false, false, false] (by kernel_rfl) rfl rfl (v1) (fun hHeld => ?_)
              refine pure_ (i := 0) (N := some 51) (v := ?_) (a' := ?_) #[true, false, false, false, false, false, false, false, false, false, false] rfl rfl (by kernel_rfl) (fun _ _ _ h => h) (Or.inl ⟨by rfl, ?_⟩) ?_ ?_
              rotate_left
              · intro w'
                go_simp
                with_reducible rfl
              rotate_left
              · simp only [Act.put, List.setIfInBounds_toArray, List.set_cons_zero, List.set_cons_succ, i64_w, i32_w]
                rfl
              refine pure_ (i := 2) (N := some 53) (v := ?_) (a' := ?_) #[true, false, true, false, false, false, false, false, false, false, false] rfl rfl (by kernel_rfl) (fun _ _ _ h => h) (Or.inl ⟨by rfl, ?_⟩) ?_ ?_
              rotate_left
              · intro w'
                go_simp
                with_reducible rfl
              rotate_left
              · simp only [Act.put, List.setIfInBounds_toArray, List.set_cons_zero, List.set_cons_succ, i64_w, i32_w]
                rfl
              refine pure_ (i := 3) (N := some 54) (v := ?_) (a' := ?_) #[true, false, true, true, false, false, false, false, false, false, false] rfl rfl (by kernel_rfl) (fun _ _ _ h => h) (Or.inl ⟨by rfl, ?_⟩) ?_ ?_
              rotate_left
              · intro w'
                go_simp
                with_reducible rfl
              rotate_left
              · simp only [Act.put, List.setIfInBounds_toArray, List.set_cons_zero, List.set_cons_succ, i64_w, i32_w]
                rfl
              refine pure_ (i := 4) (N := some 55) (v := ?_) (a' := ?_) #[true, false, true, true, true, false, false, false, false, false, false] rfl rfl (by kernel_rfl) (fun _ _ _ h => h) (Or.inl ⟨by rfl, ?_⟩) ?_ ?_
              rotate_left
              · intro w'
                go_simp
                with_reducible rfl
              rotate_left
              · simp only [Act.put, List.setIfInBounds_toArray, List.set_cons_zero, List.set_cons_succ, i64_w, i32_w]
                rfl
              refine take_ (i := 1) (N := some 52) (v := ?_) (a' := ?_) #[true, true, true, true, true, false, false, false, false, false, false] rfl rfl (by kernel_rfl) (fun _ _ _ h => h) (Or.inl ⟨by rfl, ?_⟩) hHeld ?_ ?_
              rotate_left
              · intro w' s0
                go_simp
                with_reducible rfl
              rotate_left
              · simp only [Act.put, List.setIfInBounds_toArray, List.set_cons_zero, List.set_cons_succ, i64_w, i32_w]
                rfl
              refine one_ (i := 5) (N := some 56) #[true, true, true, true, true, true, false, false, false, false, false] rfl rfl (by kernel_rfl) (by decide) (fun K hK => ?_)
              refine goesV_ Tryz.func63 (by kernel_rfl) rfl #[.int .i64 y, .slice (some ⟨B, 1, none⟩) 2 2] (by rfl) (by rfl) rfl rfl (by simp only [List.map_toArray, List.map_cons, List.map_nil]; rfl) ?_
              with_reducible refine (weeks_lt y ⟨B, 1, none⟩ 2 p q _ hCv b1 b2).mono ?_
              rintro e w3 ⟨rfl, hl3⟩
              refine ⟨_, rfl, ?_⟩
              refine hK.out _ _ (cell_lt hl3 hHeld) (fun hHeld => ?_)
              clear hK K
              refine norm_ (a' := ?_) ?_ ?_
              rotate_left
              · show Act.put _ (some 56) _ = _
                simp only [Act.put, List.setIfInBounds_toArray, List.set_cons_zero, List.set_cons_succ, i64_w, i32_w]
                rfl
              refine pure_ (i := 6) (N := some 50) (v := ?_) (a' := ?_) #[true, true, true, true, true, true, true, false, false, false, false] rfl rfl (by kernel_rfl) (fun _ _ _ h => h) (Or.inl ⟨by rfl, ?_⟩) ?_ ?_
              rotate_left
              · intro w'
                go_simp
                with_reducible rfl
              rotate_left
              · simp only [Act.put, List.setIfInBounds_toArray, List.set_cons_zero, List.set_cons_succ, i64_w, i32_w]
                rfl
              refine pure_ (i := 7) (N := some 57) (v := ?_) (a' := ?_) #[true, true, true, true, true, true, true, true, false, false, false] rfl rfl (by kernel_rfl) (fun _ _ _ h => h) (Or.inl ⟨by rfl, ?_⟩) ?_ ?_
              rotate_left
              · intro w'
                go_simp
                with_reducible rfl
              rotate_left
              · simp only [Act.put, List.setIfInBounds_toArray, List.set_cons_zero, List.set_cons_succ, i64_w, i32_w]
                rfl
              refine pure_ (i := 8) (N := some 58) (v := ?_) (a' := ?_) #[true, true, true, true, true, true, true, true, true, false, false] rfl rfl (by kernel_rfl) (fun _ _ _ h => h) (Or.inl ⟨by rfl, ?_⟩) ?_ ?_
              rotate_left
              · intro w'
                go_simp
                with_reducible rfl
              rotate_left
              · simp only [Act.put, List.setIfInBounds_toArray, List.set_cons_zero, List.set_cons_succ, i64_w, i32_w]
                rfl
              refine pure_ (i := 9) (N := some 10) (v := ?_) (a' := ?_) #[true, true, true, true, true, true, true, true, true, true, false] rfl rfl (by kernel_rfl) (fun _ _ _ h => h) (Or.inl ⟨by rfl, ?_⟩) ?_ ?_
              rotate_left
              · intro w'
                go_simp
                with_reducible rfl
              rotate_left
              · simp only [Act.put, List.setIfInBounds_toArray, List.set_cons_zero, List.set_cons_succ, i64_w, i32_w]
                rfl
              refine pure_ (i := 10) (N := some 11) (v := ?_) (a' := ?_) #[true, true, true, true, true, true, true, true, true, true, true] rfl rfl (by kernel_rfl) (fun _ _ _ h => h) (Or.inl ⟨by rfl, ?_⟩) ?_ ?_
              rotate_left
              · intro w'
                go_simp
                with_reducible rfl
              rotate_left
              · simp only [Act.put, List.setIfInBounds_toArray, List.set_cons_zero, List.set_cons_succ, i64_w, i32_w]
                rfl
              refine done_ (by kernel_rfl) ?_
              rw [HM.out] at *
              go_wp2_with fail
              go_roundw
              case rel => exact ⟨2, by omega, by go_num, HLR.out.trans (HLV.out.trans ((Lt.refl _).d1.trans hl3)), next_p HPP.out (by rw [HF.out]; exact HH.out)⟩
              case measure => simp [intOf]
          · have hF : (shapeF y (x0 :: r) 1).2 ≠ 0 := by
              show (if r.length + 1 = 3 then _ else ((0 : Int), (30 : Int))).2 ≠ 0
              rw [if_neg (by have := HN.out; omega)]
              decide
            have HF := Aside0.mk hF
            have hne1 : ((N : Int) == 3) = false := beq_eq_false_iff_ne.2 (by omega)
            have hne2 : ¬ ((N : Int) = 3) := by omega
            clear hF
            go_wp2_with fail
            go_roundw
            case rel => exact ⟨2, by omega, by go_num, HLR.out.trans (lt_new _ _ _), next_p HPP.out HF.out⟩
            case measure => simp [intOf]
        · have s0 := cell_lt HLR.out (HSC.out 4 _ rfl)
          have s1 := cell_lt HLR.out (HSC.out 5 _ rfl)
          by_cases hN3 : N = 2
          · subst hN3
            have hrl : r.length = 1 := by have := HN.out; omega
            obtain ⟨p, rfl⟩ := List.length_eq_one_iff.1 hrl
            clear hrl
            have hF : shapeF y (x0 :: [p]) 2 = daysOfF y p := rfl
            obtain ⟨wv, hwv⟩ : ∃ wv, wv = wr.alloc (.cells #[.int .i64 1, .func (.func 64) #[] #[]] 60) := ⟨_, rfl⟩
            have hlv : Lt wr wv := by rw [hwv]; exact lt_new _ _ _
            have v0' : (wr.alloc (.cells #[.int .i64 1, .func (.func 64) #[] #[]] 60)).cell? ⟨wr.heap.size, 0, none⟩ = some (.int .i64 1) := by rw [World.cell?_alloc_at _ _ _ _ rfl]; rfl
            have v1' : (wr.alloc (.cells #[.int .i64 1, .func (.func 64) #[] #[]] 60)).cell? ⟨wr.heap.size, 1, none⟩ = some (.func (.func 64) #[] #[]) := by rw [World.cell?_alloc_at _ _ _ _ rfl]; rfl
            have v1 := v1'
            rw [← hwv] at v1
            have b1 : wv.drew.cell? ⟨B, 1, none⟩ = some (.string p) := cell_lt (w' := wv) ((HL1.out.trans (HL2.out.trans (HLR.out.trans hlv)))) (HCE.out 1 (by simp))
            have hCv : Cal wv.drew := (HCB.out.l ((HL1.out.trans (HL2.out.trans (HLR.out.trans hlv))))).l (Lt.refl _).d1
            have HLV := Aside0.mk hlv
            obtain ⟨⟨m1, m2⟩, hm⟩ : ∃ z, daysOfF y p = z := ⟨_, rfl⟩
            rw [hm] at hF
            have HF := Aside0.mk hF
            have HM := Aside0.mk hm
            obtain ⟨X, hX⟩ : ∃ X, X = wr.heap.size := ⟨_, rfl⟩
            rw [← hX] at v1
            clear hF hlv hm
            by_cases h0 : m2 = 0
            · have h0' : (m2 == 0) = true := beq_iff_eq.2 h0
              have HH := Aside0.mk h0
              clear h0
              go_wp2_with fail
              rw [← hwv, ← hX]
              clear hwv v0' v1' s0 s1 hX
              refine start_ (n := 11) (S := fun w' => w'.cell? ⟨X, 1, none⟩ = some (.func (.func 64) #[] #[])) (ds := []) #[false, false, false, false, false, false, false, false, false, false, false] (by kernel_rfl) rfl rfl (v1) (fun hHeld => ?_)
              refine pure_ (i := 0) (N := some 51) (v := ?_) (a' := ?_) #[true, false, false, false, false, false, false, false, false, false, false] rfl rfl (by kernel_rfl) (fun _ _ _ h => h) (Or.inl ⟨by rfl, ?_⟩) ?_ ?_
              rotate_left
              · intro w'
                go_simp
                with_reducible rfl
              rotate_left
              · simp only [Act.put, List.setIfInBounds_toArray, List.set_cons_zero, List.set_cons_succ, i64_w, i32_w]
                rfl
              refine pure_ (i := 2) (N := some 53) (v := ?_) (a' := ?_) #[true, false, true, false, false, false, false, false, false, false, false] rfl rfl (by kernel_rfl) (fun _ _ _ h => h) (Or.inl ⟨by rfl, ?_⟩) ?_ ?_
              rotate_left
              · intro w'
                go_simp
                with_reducible rfl
              rotate_left
              · simp only [Act.put, List.setIfInBounds_toArray, List.set_cons_zero, List.set_cons_succ, i64_w, i32_w]
                rfl
              refine pure_ (i := 3) (N := some 54) (v := ?_) (a' := ?_) #[true, false, true, true, false, false, false, false, false, false, false] rfl rfl (by kernel_rfl) (fun _ _ _ h => h) (Or.inl ⟨by rfl, ?_⟩) ?_ ?_
              rotate_left
              · intro w'
                go_simp
                with_reducible rfl
              rotate_left
              · simp only [Act.put, List.setIfInBounds_toArray, List.set_cons_zero, List.set_cons_succ, i64_w, i32_w]
                rfl
              refine pure_ (i := 4) (N := some 55) (v := ?_) (a' := ?_) #[true, false, true, true, true, false, false, false, false, false, false] rfl rfl (by kernel_rfl) (fun _ _ _ h => h) (Or.inl ⟨by rfl, ?_⟩) ?_ ?_
              rotate_left
              · intro w'
                go_simp
                with_reducible rfl
              rotate_left
              · simp only [Act.put, List.setIfInBounds_toArray, List.set_cons_zero, List.set_cons_succ, i64_w, i32_w]
                rfl
              refine take_ (i := 1) (N := some 52) (v := ?_) (a' := ?_) #[true, true, true, true, true, false, false, false, false, false, false] rfl rfl (by kernel_rfl) (fun _ _ _ h => h) (Or.inl ⟨by rfl, ?_⟩) hHeld ?_ ?_
              rotate_left
              · intro w' s0
                go_simp
                with_reducible rfl
              rotate_left
              · simp only [Act.put, List.setIfInBounds_toArray, List.set_cons_zero, List.set_cons_succ, i64_w, i32_w]
                rfl
              refine one_ (i := 5) (N := some 56) #[true, true, true, true, true, true, false, false, false, false, false] rfl rfl (by kernel_rfl) (by decide) (fun K hK => ?_)
              refine goesV_ Tryz.func64 (by kernel_rfl) rfl #[.int .i64 y, .slice (some ⟨B, 1, none⟩) 1 1] (by rfl) (by rfl) rfl rfl (by simp only [List.map_toArray, List.map_cons, List.map_nil]; rfl) ?_
              with_reducible refine (daysOf_lt y ⟨B, 1, none⟩ 1 p _ hCv b1).mono ?_
              rintro e w3 ⟨rfl, hl3⟩
              refine ⟨_, rfl, ?_⟩
              refine hK.out _ _ (cell_lt hl3 hHeld) (fun hHeld => ?_)
              clear hK K
              refine norm_ (a' := ?_) ?_ ?_
              rotate_left
              · show Act.put _ (some 56) _ = _
                simp only [Act.put, List.setIfInBounds_toArray, List.set_cons_zero, List.set_cons_succ, i64_w, i32_w]
                rfl
              refine pure_ (i := 6) (N := some 50) (v := ?_) (a' := ?_) #[true, true, true, true, true, true, true, false, false, false, false] rfl rfl (by kernel_rfl) (fun _ _ _ h => h) (Or.inl ⟨by rfl, ?_⟩) ?_ ?_
              rotate_left
              · intro w'
                go_simp
                with_reducible rfl
              rotate_left
              · simp only [Act.put, List.setIfInBounds_toArray, List.set_cons_zero, List.set_cons_succ, i64_w, i32_w]
                rfl
              refine pure_ (i := 7) (N := some 57) (v := ?_) (a' := ?_) #[true, true, true, true, true, true, true, true, false, false, false] rfl rfl (by kernel_rfl) (fun _ _ _ h => h) (Or.inl ⟨by rfl, ?_⟩) ?_ ?_
              rotate_left
              · intro w'
                go_simp
                with_reducible rfl
              rotate_left
              · simp only [Act.put, List.setIfInBounds_toArray, List.set_cons_zero, List.set_cons_succ, i64_w, i32_w]
                rfl
              refine pure_ (i := 8) (N := some 58) (v := ?_) (a' := ?_) #[true, true, true, true, true, true, true, true, true, false, false] rfl rfl (by kernel_rfl) (fun _ _ _ h => h) (Or.inl ⟨by rfl, ?_⟩) ?_ ?_
              rotate_left
              · intro w'
                go_simp
                with_reducible rfl
              rotate_left
              · simp only [Act.put, List.setIfInBounds_toArray, List.set_cons_zero, List.set_cons_succ, i64_w, i32_w]
                rfl
              refine pure_ (i := 9) (N := some 10) (v := ?_) (a' := ?_) #[true, true, true, true, true, true, true, true, true, true, false] rfl rfl (by kernel_rfl) (fun _ _ _ h => h) (Or.inl ⟨by rfl, ?_⟩) ?_ ?_
              rotate_left
              · intro w'
                go_simp
                with_reducible rfl
              rotate_left
              · simp only [Act.put, List.setIfInBounds_toArray, List.set_cons_zero, List.set_cons_succ, i64_w, i32_w]
                rfl
              refine pure_ (i := 10) (N := some 11) (v := ?_) (a' := ?_) #[true, true, true, true, true, true, true, true, true, true, true] rfl rfl (by kernel_rfl) (fun _ _ _ h => h) (Or.inl ⟨by rfl, ?_⟩) ?_ ?_
              rotate_left
              · intro w'
                go_simp
                with_reducible rfl
              rotate_left
              · simp only [Act.put, List.setIfInBounds_toArray, List.set_cons_zero, List.set_cons_succ, i64_w, i32_w]
                rfl
              refine done_ (by kernel_rfl) ?_
              rw [HM.out] at *
              go_wp2_with fail
              go_ret2
              have hT := tail_at (by omega) HPP.out (by rw [HF.out]; exact HH.out)
              rw [HT.out, HF.out] at hT
              obtain ⟨rfl, rfl⟩ := Prod.mk.inj hT
              exact ⟨rfl, HLB.out.trans (HL1.out.trans (HL2.out.trans (HLR.out.trans (HLV.out.trans ((Lt.refl _).d1.trans hl3)))))⟩
            · have h0' : (m2 == 0) = false := beq_eq_false_iff_ne.2 h0
              have HH := Aside0.mk h0
              clear h0
              go_wp2_with fail
              rw [← hwv, ← hX]
              clear hwv v0' v1' s0 s1 hX
              refine start_ (n := 11) (S := fun w' => w'.cell? ⟨X, 1, none⟩ = some (.func (.func 64) #[] #[])) (ds := []) #[false, false, false, false, false, false, false, false, false, false, false] (by kernel_rfl) rfl rfl (v1) (fun hHeld => ?_)
              refine pure_ (i := 0) (N := some 51) (v := ?_) (a' := ?_) #[true, false, false, false, false, false, false, false, false, false, false] rfl rfl (by kernel_rfl) (fun _ _ _ h => h) (Or.inl ⟨by rfl, ?_⟩) ?_ ?_
              rotate_left
              · intro w'
                go_simp
                with_reducible rfl
              rotate_left
              · simp only [Act.put, List.setIfInBounds_toArray, List.set_cons_zero, List.set_cons_succ, i64_w, i32_w]
                rfl
              refine pure_ (i := 2) (N := some 53) (v := ?_) (a' := ?_) #[true, false, true, false, false, false, false, false, false, false, false] rfl rfl (by kernel_rfl) (fun _ _ _ h => h) (Or.inl ⟨by rfl, ?_⟩) ?_ ?_
              rotate_left
              · intro w'
                go_simp
                with_reducible rfl
              rotate_left
              · simp only [Act.put, List.setIfInBounds_toArray, List.set_cons_zero, List.set_cons_succ, i64_w, i32_w]
                rfl
              refine pure_ (i := 3) (N := some 54) (v := ?_) (a' := ?_) #[true, false, true, true, false, false, false, false, false, false, false] rfl rfl (by kernel_rfl) (fun _ _ _ h => h) (Or.inl ⟨by rfl, ?_⟩) ?_ ?_
              rotate_left
              · intro w'
                go_simp
                with_reducible rfl
              rotate_left
              · simp only [Act.put, List.setIfInBounds_toArray, List.set_cons_zero, List.set_cons_succ, i64_w, i32_w]
                rfl
              refine pure_ (i := 4) (N := some 55) (v := ?_) (a' := ?_) #[true, false, true, true, true, false, false, false, false, false, false] rfl rfl (by kernel_rfl) (fun _ _ _ h => h) (Or.inl ⟨by rfl, ?_⟩) ?_ ?_
              rotate_left
              · intro w'
                go_simp
                with_reducible rfl
              rotate_left
              · simp only [Act.put, List.setIfInBounds_toArray, List.set_cons_zero, List.set_cons_succ, i64_w, i32_w]
                rfl
              refine take_ (i := 1) (N := some 52) (v := ?_) (a' := ?_) #[true, true, true, true, true, false, false, false, false, false, false] rfl rfl (by kernel_rfl) (fun _ _ _ h => h) (Or.inl ⟨by rfl, ?_⟩) hHeld ?_ ?_
              rotate_left
              · intro w' s0
                go_simp
                with_reducible rfl
              rotate_left
              · simp only [Act.put, List.setIfInBounds_toArray, List.set_cons_zero, List.set_cons_succ, i64_w, i32_w]
                rfl
              refine one_ (i := 5) (N := some 56) #[true, true, true, true, true, true, false, false, false, false, false] rfl rfl (by kernel_rfl) (by decide) (fun K hK => ?_)
              refine goesV_ Tryz.func64 (by kernel_rfl) rfl #[.int .i64 y, .slice (some ⟨B, 1, none⟩) 1 1] (by rfl) (by rfl) rfl rfl (by simp only [List.map_toArray, List.map_cons, List.map_nil]; rfl) ?_
              with_reducible refine (daysOf_lt y ⟨B, 1, none⟩ 1 p _ hCv b1).mono ?_
              rintro e w3 ⟨rfl, hl3⟩
              refine ⟨_, rfl, ?_⟩
              refine hK.out _ _ (cell_lt hl3 hHeld) (fun hHeld => ?_)
              clear hK K
              refine norm_ (a' := ?_) ?_ ?_
              rotate_left
              · show Act.put _ (some 56) _ = _
                simp only [Act.put, List.setIfInBounds_toArray, List.set_cons_zero, List.set_cons_succ, i64_w, i32_w]
                rfl
              refine pure_ (i := 6) (N := some 50) (v := ?_) (a' := ?_) #[true, true, true, true, true, true, true, false, false, false, false] rfl rfl (by kernel_rfl) (fun _ _ _ h => h) (Or.inl ⟨by rfl, ?_⟩) ?_ ?_
              rotate_left
              · intro w'
                go_simp
                with_reducible rfl
              rotate_left
              · simp only [Act.put, List.setIfInBounds_toArray, List.set_cons_zero, List.set_cons_succ, i64_w, i32_w]
                rfl
              refine pure_ (i := 7) (N := some 57) (v := ?_) (a' := ?_) #[true, true, true, true, true, true, true, true, false, false, false] rfl rfl (by kernel_rfl) (fun _ _ _ h => h) (Or.inl ⟨by rfl, ?_⟩) ?_ ?_
              rotate_left
              · intro w'
                go_simp
                with_reducible rfl
              rotate_left
              · simp only [Act.put, List.setIfInBounds_toArray, List.set_cons_zero, List.set_cons_succ, i64_w, i32_w]
                rfl
              refine pure_ (i := 8) (N := some 58) (v := ?_) (a' := ?_) #[true, true, true, true, true, true, true, true, true, false, false] rfl rfl (by kernel_rfl) (fun _ _ _ h => h) (Or.inl ⟨by rfl, ?_⟩) ?_ ?_
              rotate_left
              · intro w'
                go_simp
                with_reducible rfl
              rotate_left
              · simp only [Act.put, List.setIfInBounds_toArray, List.set_cons_zero, List.set_cons_succ, i64_w, i32_w]
                rfl
              refine pure_ (i := 9) (N := some 10) (v := ?_) (a' := ?_) #[true, true, true, true, true, true, true, true, true, true, false] rfl rfl (by kernel_rfl) (fun _ _ _ h => h) (Or.inl ⟨by rfl, ?_⟩) ?_ ?_
              rotate_left
              · intro w'
                go_simp
                with_reducible rfl
              rotate_left
              · simp only [Act.put, List.setIfInBounds_toArray, List.set_cons_zero, List.set_cons_succ, i64_w, i32_w]
                rfl
              refine pure_ (i := 10) (N := some 11) (v := ?_) (a' := ?_) #[true, true, true, true, true, true, true, true, true, true, true] rfl rfl (by kernel_rfl) (fun _ _ _ h => h) (Or.inl ⟨by rfl, ?_⟩) ?_ ?_
              rotate_left
              · intro w'
                go_simp
                with_reducible rfl
              rotate_left
              · simp only [Act.put, List.setIfInBounds_toArray, List.set_cons_zero, List.set_cons_succ, i64_w, i32_w]
                rfl
              refine done_ (by kernel_rfl) ?_
              rw [HM.out] at *
              go_wp2_with fail
              go_roundw
              case rel => exact ⟨3, by omega, by go_num, HLR.out.trans (HLV.out.trans ((Lt.refl _).d1.trans hl3)), next_p HPP.out (by rw [HF.out]; exact HH.out)⟩
              case measure => simp [intOf]
          · have hF : (shapeF y (x0 :: r) 2).2 ≠ 0 := by
              show (if r.length + 1 = 2 then _ else ((0 : Int), (30 : Int))).2 ≠ 0
              rw [if_neg (by have := HN.out; omega)]
              decide
            have HF := Aside0.mk hF
            have hne1 : ((N : Int) == 2) = false := beq_eq_false_iff_ne.2 (by omega)
            have hne2 : ¬ ((N : Int) = 2) := by omega
            clear hF
            go_wp2_with fail
            go_roundw
            case rel => exact ⟨3, by omega, by go_num, HLR.out.trans (lt_new _ _ _), next_p HPP.out HF.out⟩
            case measure => simp [intOf]
        · go_wp2_with fail
          go_ret2
          have hT := tail_none HPP.out
          rw [HT.out] at hT
          obtain ⟨rfl, rfl⟩ := Prod.mk.inj hT
          exact ⟨rfl, HLB.out.trans (HL1.out.trans (HL2.out.trans HLR.out))⟩
    · by_cases hn0 : n = 0
      · rw [if_pos (.inr ⟨rfl, hn0⟩)]
        have hn0' : (n == 0) = true := beq_iff_eq.2 hn0
        clear hn0
        go_enter Tryz.func21, Tryz.ntmps21
        go_wp2_with fail
        (with_reducible refine CP.out.mono ?_)
        rintro e w0 ⟨rfl, rfl⟩
        go_wp2_with fail
        (with_reducible refine CS.out.mono ?_)
        rintro e w0 ⟨rfl, rfl⟩
        go_wp2_with fail
        (with_reducible refine (N1.out _).mono ?_)
        rintro e w1 ⟨rfl, hl1⟩
        have HL1 := Aside0.mk hl1
        clear hl1
        go_wp2
        go_ret2
        exact ⟨rfl, HLB.out.trans HL1.out⟩
      · rw [if_neg (by simp [hn0]), if_pos rfl]
        have hn0' : (n == 0) = false := beq_eq_false_iff_ne.2 hn0
        have hneg : wrap64 (-n) = -n := w64 (by omega) (by omega)
        obtain ⟨y, hy1, hy2⟩ : ∃ y, wrap64 (-n) = y ∧ -n = y := ⟨_, hneg, rfl⟩
        rw [hy2]
        clear hneg hn0 hy2 b1
        obtain ⟨⟨T1, T2⟩, hT⟩ : ∃ q, tailF y (x0 :: r) = q := ⟨_, rfl⟩
        rw [hT]
        have HT := Aside0.mk hT
        clear hT
        go_enter Tryz.func21, Tryz.ntmps21
        go_wp2_with fail
        (with_reducible refine CP.out.mono ?_)
        rintro e w0 ⟨rfl, rfl⟩
        go_wp2_with fail
        (with_reducible refine CS.out.mono ?_)
        rintro e w0 ⟨rfl, rfl⟩
        go_wp2_with fail
        (with_reducible refine (N1.out _).mono ?_)
        rintro e w1 ⟨rfl, hl1⟩
        have HL1 := Aside0.mk hl1
        clear hl1
        go_wp2_with fail
        (with_reducible refine (shapes_calls _).mono ?_)
        rintro e w2 ⟨rfl, hw2⟩
        have sc : ∀ j v, (#[.int .i64 2, .func (.func 62) #[] #[], .int .i64 2, .func (.func 63) #[] #[], .int .i64 1, .func (.func 64) #[] #[]] : Array Value)[j]? = some v → w2.cell? ⟨w1.heap.size, j, none⟩ = some v := fun j v h => by
          rw [hw2, World.cell?_alloc_at _ _ _ _ rfl]
          exact h
        have hl2 : Lt w1 w2 := by rw [hw2]; exact (Lt.refl _).a _
        have HSC := Aside0.mk sc
        have HL2 := Aside0.mk hl2
        clear sc hl2 hw2
        generalize w1.heap.size = S0 at *
        go_wp2
        go_loopw [40] (fun i wr => ∃ k, k ≤ 3 ∧ i = .int .i64 (k : Nat) ∧ Lt w2 wr ∧ ∀ j, j < k → (shapeF y (x0 :: r) j).2 ≠ 0) (fun i _ => 3 - (intOf i).toNat)
        case atStart => exact ⟨0, Nat.zero_le _, rfl, Lt.refl _, fun j hj => by omega⟩
        case round =>
          obtain ⟨k, hk, rfl, hlr, hp⟩ := hrel
          have HLR := Aside0.mk hlr
          have HPP := Aside0.mk hp
          clear hlr hp
          rcases (show k = 0 ∨ k = 1 ∨ k = 2 ∨ k = 3 by omega) with rfl | rfl | rfl | rfl
          · have s0 := cell_lt HLR.out (HSC.out 0 _ rfl)
            have s1 := cell_lt HLR.out (HSC.out 1 _ rfl)
            by_cases hN3 : N = 3
            · subst hN3
              have hrl : r.length = 2 := by have := HN.out; omega
              obtain ⟨p, q, rfl⟩ := len2 hrl
              clear hrl
              have hF : shapeF y (x0 :: [p, q]) 0 = monthsF y p q := rfl
              obtain ⟨wv, hwv⟩ : ∃ wv, wv = wr.alloc (.cells #[.int .i64 2, .func (.func 62) #[] #[]] 60) := ⟨_, rfl⟩
              have hlv : Lt wr wv := by rw [hwv]; exact lt_new _ _ _
              have v0' : (wr.alloc (.cells #[.int .i64 2, .func (.func 62) #[] #[]] 60)).cell? ⟨wr.heap.size, 0, none⟩ = some (.int .i64 2) := by rw [World.cell?_alloc_at _ _ _ _ rfl]; rfl
              have v1' : (wr.alloc (.cells #[.int .i64 2, .func (.func 62) #[] #[]] 60)).cell? ⟨wr.heap.size, 1, none⟩ = some (.func (.func 62) #[] #[]) := by rw [World.cell?_alloc_at _ _ _ _ rfl]; rfl
              have v1 := v1'
              rw [← hwv] at v1
              have b1 : wv.drew.cell? ⟨B, 1, none⟩ = some (.string p) := cell_lt (w' := wv) ((HL1.out.trans (HL2.out.trans (HLR.out.trans hlv)))) (HCE.out 1 (by simp))
              have b2 : wv.drew.cell? ⟨B, 1 + 1, none⟩ = some (.string q) := cell_lt (w' := wv) ((HL1.out.trans (HL2.out.trans (HLR.out.trans hlv)))) (HCE.out 2 (by simp))
              have hCv : Cal wv.drew := (HCB.out.l ((HL1.out.trans (HL2.out.trans (HLR.out.trans hlv))))).l (Lt.refl _).d1
              have HLV := Aside0.mk hlv
              obtain ⟨⟨m1, m2⟩, hm⟩ : ∃ z, monthsF y p q = z := ⟨_, rfl⟩
              rw [hm] at hF
              have HF := Aside0.mk hF
              have HM := Aside0.mk hm
              obtain ⟨X, hX⟩ : ∃ X, X = wr.heap.size := ⟨_, rfl⟩
              rw [← hX] at v1
              clear hF hlv hm
              by_cases h0 : m2 = 0
              · have h0' : (m2 == 0) = true := beq_iff_eq.2 h0
                have HH := Aside0.mk h0
                clear h0
                go_wp2_with fail
                rw [← hwv, ← hX]
                clear hwv v0' v1' s0 s1 hX
                refine start_ (n := 11) (S := fun w' => w'.cell? ⟨X, 1, none⟩ = some (.func (.func 62) #[] #[])) (ds := []) #[false, false, false, false, false, false, false, false, false, false, false] (by kernel_rfl) rfl rfl (v1) (fun hHeld => ?_)
                refine pure_ (i := 0) (N := some 51) (v := ?_) (a' := ?_) #[true, false, false, false, false, false, false, false, false, false, false] rfl rfl (by kernel_rfl) (fun _ _ _ h => h) (Or.inl ⟨by rfl, ?_⟩) ?_ ?_
                rotate_left
                · intro w'
                  go_simp
                  with_reducible rfl
                rotate_left
                · simp only [Act.put, List.setIfInBounds_toArray, List.set_cons_zero, List.set_cons_succ, i64_w, i32_w]
                  rfl
                refine pure_ (i := 2) (N := some 53) (v := ?_) (a' := ?_) #[true, false, true, false, false, false, false, false, false, false, false] rfl rfl (by kernel_rfl) (fun _ _ _ h => h) (Or.inl ⟨by rfl, ?_⟩) ?_ ?_
                rotate_left
                · intro w'
                  go_simp
                  with_reducible rfl
                rotate_left
                · simp only [Act.put, List.setIfInBounds_toArray, List.set_cons_zero, List.set_cons_succ, i64_w, i32_w]
                  rfl
                refine pure_ (i := 3) (N := some 54) (v := ?_) (a' := ?_) #[true, false, true, true, false, false, false, false, false, false, false] rfl rfl (by kernel_rfl) (fun _ _ _ h => h) (Or.inl ⟨by rfl, ?_⟩) ?_ ?_
                rotate_left
                · intro w'
                  go_simp
                  with_reducible rfl
                rotate_left
                · simp only [Act.put, List.setIfInBounds_toArray, List.set_cons_zero, List.set_cons_succ, i64_w, i32_w]
                  rfl
                refine pure_ (i := 4) (N := some 55) (v := ?_) (a' := ?_) #[true, false, true, true, true, false, false, false, false, false, false] rfl rfl (by kernel_rfl) (fun _ _ _ h => h) (Or.inl ⟨by rfl, ?_⟩) ?_ ?_
                rotate_left
                · intro w'
                  go_simp
                  with_reducible rfl
                rotate_left
                · simp only [Act.put, List.setIfInBounds_toArray, List.set_cons_zero, List.set_cons_succ, i64_w, i32_w]
                  rfl
                refine take_ (i := 1) (N := some 52) (v := ?_) (a' := ?_) #[true, true, true, true, true, false, false, false, false, false, false] rfl rfl (by kernel_rfl) (fun _ _ _ h => h) (Or.inl ⟨by rfl, ?_⟩) hHeld ?_ ?_
                rotate_left
                · intro w' s0
                  go_simp
                  with_reducible rfl
                rotate_left
                · simp only [Act.put, List.setIfInBounds_toArray, List.set_cons_zero, List.set_cons_succ, i64_w, i32_w]
                  rfl
                refine one_ (i := 5) (N := some 56) #[true, true, true, true, true, true, false, false, false, false, false] rfl rfl (by kernel_rfl) (by decide) (fun K hK => ?_)
                refine goesV_ Tryz.func62 (by kernel_rfl) rfl #[.int .i64 y, .slice (some ⟨B, 1, none⟩) 2 2] (by rfl) (by rfl) rfl rfl (by simp only [List.map_toArray, List.map_cons, List.map_nil]; rfl) ?_
                with_reducible refine (months_lt y ⟨B, 1, none⟩ 2 p q _ hCv b1 b2).mono ?_
                rintro e w3 ⟨rfl, hl3⟩
                refine ⟨_, rfl, ?_⟩
                refine hK.out _ _ (cell_lt hl3 hHeld) (fun hHeld => ?_)
                clear hK K
                refine norm_ (a' := ?_) ?_ ?_
                rotate_left
                · show Act.put _ (some 56) _ = _
                  simp only [Act.put, List.setIfInBounds_toArray, List.set_cons_zero, List.set_cons_succ, i64_w, i32_w]
                  rfl
                refine pure_ (i := 6) (N := some 50) (v := ?_) (a' := ?_) #[true, true, true, true, true, true, true, false, false, false, false] rfl rfl (by kernel_rfl) (fun _ _ _ h => h) (Or.inl ⟨by rfl, ?_⟩) ?_ ?_
                rotate_left
                · intro w'
                  go_simp
                  with_reducible rfl
                rotate_left
                · simp only [Act.put, List.setIfInBounds_toArray, List.set_cons_zero, List.set_cons_succ, i64_w, i32_w]
                  rfl
                refine pure_ (i := 7) (N := some 57) (v := ?_) (a' := ?_) #[true, true, true, true, true, true, true, true, false, false, false] rfl rfl (by kernel_rfl) (fun _ _ _ h => h) (Or.inl ⟨by rfl, ?_⟩) ?_ ?_
                rotate_left
                · intro w'
                  go_simp
                  with_reducible rfl
                rotate_left
                · simp only [Act.put, List.setIfInBounds_toArray, List.set_cons_zero, List.set_cons_succ, i64_w, i32_w]
                  rfl
                refine pure_ (i := 8) (N := some 58) (v := ?_) (a' := ?_) #[true, true, true, true, true, true, true, true, true, false, false] rfl rfl (by kernel_rfl) (fun _ _ _ h => h) (Or.inl ⟨by rfl, ?_⟩) ?_ ?_
                rotate_left
                · intro w'
                  go_simp
                  with_reducible rfl
                rotate_left
                · simp only [Act.put, List.setIfInBounds_toArray, List.set_cons_zero, List.set_cons_succ, i64_w, i32_w]
                  rfl
                refine pure_ (i := 9) (N := some 10) (v := ?_) (a' := ?_) #[true, true, true, true, true, true, true, true, true, true, false] rfl rfl (by kernel_rfl) (fun _ _ _ h => h) (Or.inl ⟨by rfl, ?_⟩) ?_ ?_
                rotate_left
                · intro w'
                  go_simp
                  with_reducible rfl
                rotate_left
                · simp only [Act.put, List.setIfInBounds_toArray, List.set_cons_zero, List.set_cons_succ, i64_w, i32_w]
                  rfl
                refine pure_ (i := 10) (N := some 11) (v := ?_) (a' := ?_) #[true, true, true, true, true, true, true, true, true, true, true] rfl rfl (by kernel_rfl) (fun _ _ _ h => h) (Or.inl ⟨by rfl, ?_⟩) ?_ ?_
                rotate_left
                · intro w'
                  go_simp
                  with_reducible rfl
                rotate_left
                · simp only [Act.put, List.setIfInBounds_toArray, List.set_cons_zero, List.set_cons_succ, i64_w, i32_w]
                  rfl
                refine done_ (by kernel_rfl) ?_
                rw [HM.out] at *
                go_wp2_with fail
                go_ret2
                have hT := tail_at (by omega) HPP.out (by rw [HF.out]; exact HH.out)
                rw [HT.out, HF.out] at hT
                obtain ⟨rfl, rfl⟩ := Prod.mk.inj hT
                exact ⟨rfl, HLB.out.trans (HL1.out.trans (HL2.out.trans (HLR.out.trans (HLV.out.trans ((Lt.refl _).d1.trans hl3)))))⟩
              · have h0' : (m2 == 0) = false := beq_eq_false_iff_ne.2 h0
                have HH := Aside0.mk h0
                clear h0
                go_wp2_with fail
                rw [← hwv, ← hX]
                clear hwv v0' v1' s0 s1 hX
                refine start_ (n := 11) (S := fun w' => w'.cell? ⟨X, 1, none⟩ = some (.func (.func 62) #[] #[])) (ds := []) #[false, false, false, false, false, false, false, false, false, false, false] (by kernel_rfl) rfl rfl (v1) (fun hHeld => ?_)
                refine pure_ (i := 0) (N := some 51) (v := ?_) (a' := ?_) #[true, false, false, false, false, false, false, false, false, false, false] rfl rfl (by kernel_rfl) (fun _ _ _ h => h) (Or.inl ⟨by rfl, ?_⟩) ?_ ?_
                rotate_left
                · intro w'
                  go_simp
                  with_reducible rfl
                rotate_left
                · simp only [Act.put, List.setIfInBounds_toArray, List.set_cons_zero, List.set_cons_succ, i64_w, i32_w]
                  rfl
                refine pure_ (i := 2) (N := some 53) (v := ?_) (a' := ?_) #[true, false, true, false, false, false, false, false, false, false, false] rfl rfl (by kernel_rfl) (fun _ _ _ h => h) (Or.inl ⟨by rfl, ?_⟩) ?_ ?_
                rotate_left
                · intro w'
                  go_simp
                  with_reducible rfl
                rotate_left
                · simp only [Act.put, List.setIfInBounds_toArray, List.set_cons_zero, List.set_cons_succ, i64_w, i32_w]
                  rfl
                refine pure_ (i := 3) (N := some 54) (v := ?_) (a' := ?_) #[true, false, true, true, false, false, false, false, false, false, false] rfl rfl (by kernel_rfl) (fun _ _ _ h => h) (Or.inl ⟨by rfl, ?_⟩) ?_ ?_
                rotate_left
                · intro w'
                  go_simp
                  with_reducible rfl
                rotate_left
                · simp only [Act.put, List.setIfInBounds_toArray, List.set_cons_zero, List.set_cons_succ, i64_w, i32_w]
                  rfl
                refine pure_ (i := 4) (N := some 55) (v := ?_) (a' := ?_) #[true, false, true, true, true, false, false, false, false, false, false] rfl rfl (by kernel_rfl) (fun _ _ _ h => h) (Or.inl ⟨by rfl, ?_⟩) ?_ ?_
                rotate_left
                · intro w'
                  go_simp
                  with_reducible rfl
                rotate_left
                · simp only [Act.put, List.setIfInBounds_toArray, List.set_cons_zero, List.set_cons_succ, i64_w, i32_w]
                  rfl
                refine take_ (i := 1) (N := some 52) (v := ?_) (a' := ?_) #[true, true, true, true, true, false, false, false, false, false, false] rfl rfl (by kernel_rfl) (fun _ _ _ h => h) (Or.inl ⟨by rfl, ?_⟩) hHeld ?_ ?_
                rotate_left
                · intro w' s0
                  go_simp
                  with_reducible rfl
                rotate_left
                · simp only [Act.put, List.setIfInBounds_toArray, List.set_cons_zero, List.set_cons_succ, i64_w, i32_w]
                  rfl
                refine one_ (i := 5) (N := some 56) #[true, true, true, true, true, true, false, false, false, false, false] rfl rfl (by kernel_rfl) (by decide) (fun K hK => ?_)
                refine goesV_ Tryz.func62 (by kernel_rfl) rfl #[.int .i64 y, .slice (some ⟨B, 1, none⟩) 2 2] (by rfl) (by rfl) rfl rfl (by simp only [List.map_toArray, List.map_cons, List.map_nil]; rfl) ?_
                with_reducible refine (months_lt y ⟨B, 1, none⟩ 2 p q _ hCv b1 b2).mono ?_
                rintro e w3 ⟨rfl, hl3⟩
                refine ⟨_, rfl, ?_⟩
                refine hK.out _ _ (cell_lt hl3 hHeld) (fun hHeld => ?_)
                clear hK K
                refine norm_ (a' := ?_) ?_ ?_
                rotate_left
                · show Act.put _ (some 56) _ = _
                  simp only [Act.put, List.setIfInBounds_toArray, List.set_cons_zero, List.set_cons_succ, i64_w, i32_w]
                  rfl
                refine pure_ (i := 6) (N := some 50) (v := ?_) (a' := ?_) #[true, true, true, true, true, true, true, false, false, false, false] rfl rfl (by kernel_rfl) (fun _ _ _ h => h) (Or.inl ⟨by rfl, ?_⟩) ?_ ?_
                rotate_left
                · intro w'
                  go_simp
                  with_reducible rfl
                rotate_left
                · simp only [Act.put, List.setIfInBounds_toArray, List.set_cons_zero, List.set_cons_succ, i64_w, i32_w]
                  rfl
                refine pure_ (i := 7) (N := some 57) (v := ?_) (a' := ?_) #[true, true, true, true, true, true, true, true, false, false, false] rfl rfl (by kernel_rfl) (fun _ _ _ h => h) (Or.inl ⟨by rfl, ?_⟩) ?_ ?_
                rotate_left
                · intro w'
                  go_simp
                  with_reducible rfl
                rotate_left
                · simp only [Act.put, List.setIfInBounds_toArray, List.set_cons_zero, List.set_cons_succ, i64_w, i32_w]
                  rfl
                refine pure_ (i := 8) (N := some 58) (v := ?_) (a' := ?_) #[true, true, true, true, true, true, true, true, true, false, false] rfl rfl (by kernel_rfl) (fun _ _ _ h => h) (Or.inl ⟨by rfl, ?_⟩) ?_ ?_
                rotate_left
                · intro w'
                  go_simp
                  with_reducible rfl
                rotate_left
                · simp only [Act.put, List.setIfInBounds_toArray, List.set_cons_zero, List.set_cons_succ, i64_w, i32_w]
                  rfl
                refine pure_ (i := 9) (N := some 10) (v := ?_) (a' := ?_) #[true, true, true, true, true, true, true, true, true, true, false] rfl rfl (by kernel_rfl) (fun _ _ _ h => h) (Or.inl ⟨by rfl, ?_⟩) ?_ ?_
                rotate_left
                · intro w'
                  go_simp
                  with_reducible rfl
                rotate_left
                · simp only [Act.put, List.setIfInBounds_toArray, List.set_cons_zero, List.set_cons_succ, i64_w, i32_w]
                  rfl
                refine pure_ (i := 10) (N := some 11) (v := ?_) (a' := ?_) #[true, true, true, true, true, true, true, true, true, true, true] rfl rfl (by kernel_rfl) (fun _ _ _ h => h) (Or.inl ⟨by rfl, ?_⟩) ?_ ?_
                rotate_left
                · intro w'
                  go_simp
                  with_reducible rfl
                rotate_left
                · simp only [Act.put, List.setIfInBounds_toArray, List.set_cons_zero, List.set_cons_succ, i64_w, i32_w]
                  rfl
                refine done_ (by kernel_rfl) ?_
                rw [HM.out] at *
                go_wp2_with fail
                go_roundw
                case rel => exact ⟨1, by omega, by go_num, HLR.out.trans (HLV.out.trans ((Lt.refl _).d1.trans hl3)), next_p HPP.out (by rw [HF.out]; exact HH.out)⟩
                case measure => simp [intOf]
            · have hF : (shapeF y (x0 :: r) 0).2 ≠ 0 := by
                show (if r.length + 1 = 3 then _ else ((0 : Int), (30 : Int))).2 ≠ 0
                rw [if_neg (by have := HN.out; omega)]
                decide
              have HF := Aside0.mk hF
              have hne1 : ((N : Int) == 3) = false := beq_eq_false_iff_ne.2 (by omega)
              have hne2 : ¬ ((N : Int) = 3) := by omega
              clear hF
              go_wp2_with fail
              go_roundw
              case rel => exact ⟨1, by omega, by go_num, HLR.out.trans (lt_new _ _ _), next_p HPP.out HF.out⟩
              case measure => simp [intOf]
          · have s0 := cell_lt HLR.out (HSC.out 2 _ rfl)
            have s1 := cell_lt HLR.out (HSC.out 3 _ rfl)
            by_cases hN3 : N = 3
            · subst hN3
              have hrl : r.length = 2 := by have := HN.out; omega
              obtain ⟨p, q, rfl⟩ := len2 hrl
              clear hrl
              have hF : shapeF y (x0 :: [p, q]) 1 = weeksF y p q := rfl
              obtain ⟨wv, hwv⟩ : ∃ wv, wv = wr.alloc (.cells #[.int .i64 2, .func (.func 63) #[] #[]] 60) := ⟨_, rfl⟩
              have hlv : Lt wr wv := by rw [hwv]; exact lt_new _ _ _
              have v0' : (wr.alloc (.cells #[.int .i64 2, .func (.func 63) #[] #[]] 60)).cell? ⟨wr.heap.size, 0, none⟩ = some (.int .i64 2) := by rw [World.cell?_alloc_at _ _ _ _ rfl]; rfl
              have v1' : (wr.alloc (.cells #[.int .i64 2, .func (.func 63) #[] #[]] 60)).cell? ⟨wr.heap.size, 1, none⟩ = some (.func (.func 63) #[] #[]) := by rw [World.cell?_alloc_at _ _ _ _ rfl]; rfl
              have v1 := v1'
              rw [← hwv] at v1
              have b1 : wv.drew.cell? ⟨B, 1, none⟩ = some (.string p) := cell_lt (w' := wv) ((HL1.out.trans (HL2.out.trans (HLR.out.trans hlv)))) (HCE.out 1 (by simp))
              have b2 : wv.drew.cell? ⟨B, 1 + 1, none⟩ = some (.string q) := cell_lt (w' := wv) ((HL1.out.trans (HL2.out.trans (HLR.out.trans hlv)))) (HCE.out 2 (by simp))
              have hCv : Cal wv.drew := (HCB.out.l ((HL1.out.trans (HL2.out.trans (HLR.out.trans hlv))))).l (Lt.refl _).d1
              have HLV := Aside0.mk hlv
              obtain ⟨⟨m1, m2⟩, hm⟩ : ∃ z, weeksF y p q = z := ⟨_, rfl⟩
              rw [hm] at hF
              have HF := Aside0.mk hF
              have HM := Aside0.mk hm
              obtain ⟨X, hX⟩ : ∃ X, X = wr.heap.size := ⟨_, rfl⟩
              rw [← hX] at v1
              clear hF hlv hm
              by_cases h0 : m2 = 0
              · have h0' : (m2 == 0) = true := beq_iff_eq.2 h0
                have HH := Aside0.mk h0
                clear h0
                go_wp2_with fail
                rw [← hwv, ← hX]
                clear hwv v0' v1' s0 s1 hX
                refine start_ (n := 11) (S := fun w' => w'.cell? ⟨X, 1, none⟩ = some (.func (.func 63) #[] #[])) (ds := []) #[false, false, false, false, false, false, false, false, false, false, false] (by kernel_rfl) rfl rfl (v1) (fun hHeld => ?_)
                refine pure_ (i := 0) (N := some 51) (v := ?_) (a' := ?_) #[true, false, false, false, false, false, false, false, false, false, false] rfl rfl (by kernel_rfl) (fun _ _ _ h => h) (Or.inl ⟨by rfl, ?_⟩) ?_ ?_
                rotate_left
                · intro w'
                  go_simp
                  with_reducible rfl
                rotate_left
                · simp only [Act.put, List.setIfInBounds_toArray, List.set_cons_zero, List.set_cons_succ, i64_w, i32_w]
                  rfl
                refine pure_ (i := 2) (N := some 53) (v := ?_) (a' := ?_) #[true, false, true, false, false, false, false, false, false, false, false] rfl rfl (by kernel_rfl) (fun _ _ _ h => h) (Or.inl ⟨by rfl, ?_⟩) ?_ ?_
                rotate_left
                · intro w'
                  go_simp
                  with_reducible rfl
                rotate_left
                · simp only [Act.put, List.setIfInBounds_toArray, List.set_cons_zero, List.set_cons_succ, i64_w, i32_w]
                  rfl
                refine pure_ (i := 3) (N := some 54) (v := ?_) (a' := ?_) #[true, false, true, true, false, false, false, false, false, false, false] rfl rfl (by kernel_rfl) (fun _ _ _ h => h) (Or.inl ⟨by rfl, ?_⟩) ?_ ?_
                rotate_left
                · intro w'
                  go_simp
                  with_reducible rfl
                rotate_left
                · simp only [Act.put, List.setIfInBounds_toArray, List.set_cons_zero, List.set_cons_succ, i64_w, i32_w]
                  rfl
                refine pure_ (i := 4) (N := some 55) (v := ?_) (a' := ?_) #[true, false, true, true, true, false, false, false, false, false, false] rfl rfl (by kernel_rfl) (fun _ _ _ h => h) (Or.inl ⟨by rfl, ?_⟩) ?_ ?_
                rotate_left
                · intro w'
                  go_simp
                  with_reducible rfl
                rotate_left
                · simp only [Act.put, List.setIfInBounds_toArray, List.set_cons_zero, List.set_cons_succ, i64_w, i32_w]
                  rfl
                refine take_ (i := 1) (N := some 52) (v := ?_) (a' := ?_) #[true, true, true, true, true, false, false, false, false, false, false] rfl rfl (by kernel_rfl) (fun _ _ _ h => h) (Or.inl ⟨by rfl, ?_⟩) hHeld ?_ ?_
                rotate_left
                · intro w' s0
                  go_simp
                  with_reducible rfl
                rotate_left
                · simp only [Act.put, List.setIfInBounds_toArray, List.set_cons_zero, List.set_cons_succ, i64_w, i32_w]
                  rfl
                refine one_ (i := 5) (N := some 56) #[true, true, true, true, true, true, false, false, false, false, false] rfl rfl (by kernel_rfl) (by decide) (fun K hK => ?_)
                refine goesV_ Tryz.func63 (by kernel_rfl) rfl #[.int .i64 y, .slice (some ⟨B, 1, none⟩) 2 2] (by rfl) (by rfl) rfl rfl (by simp only [List.map_toArray, List.map_cons, List.map_nil]; rfl) ?_
                with_reducible refine (weeks_lt y ⟨B, 1, none⟩ 2 p q _ hCv b1 b2).mono ?_
                rintro e w3 ⟨rfl, hl3⟩
                refine ⟨_, rfl, ?_⟩
                refine hK.out _ _ (cell_lt hl3 hHeld) (fun hHeld => ?_)
                clear hK K
                refine norm_ (a' := ?_) ?_ ?_
                rotate_left
                · show Act.put _ (some 56) _ = _
                  simp only [Act.put, List.setIfInBounds_toArray, List.set_cons_zero, List.set_cons_succ, i64_w, i32_w]
                  rfl
                refine pure_ (i := 6) (N := some 50) (v := ?_) (a' := ?_) #[true, true, true, true, true, true, true, false, false, false, false] rfl rfl (by kernel_rfl) (fun _ _ _ h => h) (Or.inl ⟨by rfl, ?_⟩) ?_ ?_
                rotate_left
                · intro w'
                  go_simp
                  with_reducible rfl
                rotate_left
                · simp only [Act.put, List.setIfInBounds_toArray, List.set_cons_zero, List.set_cons_succ, i64_w, i32_w]
                  rfl
                refine pure_ (i := 7) (N := some 57) (v := ?_) (a' := ?_) #[true, true, true, true, true, true, true, true, false, false, false] rfl rfl (by kernel_rfl) (fun _ _ _ h => h) (Or.inl ⟨by rfl, ?_⟩) ?_ ?_
                rotate_left
                · intro w'
                  go_simp
                  with_reducible rfl
                rotate_left
                · simp only [Act.put, List.setIfInBounds_toArray, List.set_cons_zero, List.set_cons_succ, i64_w, i32_w]
                  rfl
                refine pure_ (i := 8) (N := some 58) (v := ?_) (a' := ?_) #[true, true, true, true, true, true, true, true, true, false, false] rfl rfl (by kernel_rfl) (fun _ _ _ h => h) (Or.inl ⟨by rfl, ?_⟩) ?_ ?_
                rotate_left
                · intro w'
                  go_simp
                  with_reducible rfl
                rotate_left
                · simp only [Act.put, List.setIfInBounds_toArray, List.set_cons_zero, List.set_cons_succ, i64_w, i32_w]
                  rfl
                refine pure_ (i := 9) (N := some 10) (v := ?_) (a' := ?_) #[true, true, true, true, true, true, true, true, true, true, false] rfl rfl (by kernel_rfl) (fun _ _ _ h => h) (Or.inl ⟨by rfl, ?_⟩) ?_ ?_
                rotate_left
                · intro w'
                  go_simp
                  with_reducible rfl
                rotate_left
                · simp only [Act.put, List.setIfInBounds_toArray, List.set_cons_zero, List.set_cons_succ, i64_w, i32_w]
                  rfl
                refine pure_ (i := 10) (N := some 11) (v := ?_) (a' := ?_) #[true, true, true, true, true, true, true, true, true, true, true] rfl rfl (by kernel_rfl) (fun _ _ _ h => h) (Or.inl ⟨by rfl, ?_⟩) ?_ ?_
                rotate_left
                · intro w'
                  go_simp
                  with_reducible rfl
                rotate_left
                · simp only [Act.put, List.setIfInBounds_toArray, List.set_cons_zero, List.set_cons_succ, i64_w, i32_w]
                  rfl
                refine done_ (by kernel_rfl) ?_
                rw [HM.out] at *
                go_wp2_with fail
                go_ret2
                have hT := tail_at (by omega) HPP.out (by rw [HF.out]; exact HH.out)
                rw [HT.out, HF.out] at hT
                obtain ⟨rfl, rfl⟩ := Prod.mk.inj hT
                exact ⟨rfl, HLB.out.trans (HL1.out.trans (HL2.out.trans (HLR.out.trans (HLV.out.trans ((Lt.refl _).d1.trans hl3)))))⟩
              · have h0' : (m2 == 0) = false := beq_eq_false_iff_ne.2 h0
                have HH := Aside0.mk h0
                clear h0
                go_wp2_with fail
                rw [← hwv, ← hX]
                clear hwv v0' v1' s0 s1 hX
                refine start_ (n := 11) (S := fun w' => w'.cell? ⟨X, 1, none⟩ = some (.func (.func 63) #[] #[])) (ds := []) #[false, false, false, false, false, false, false, false, false, false, false] (by kernel_rfl) rfl rfl (v1) (fun hHeld => ?_)
                refine pure_ (i := 0) (N := some 51) (v := ?_) (a' := ?_) #[true, false, false, false, false, false, false, false, false, false, false] rfl rfl (by kernel_rfl) (fun _ _ _ h => h) (Or.inl ⟨by rfl, ?_⟩) ?_ ?_
                rotate_left
                · intro w'
                  go_simp
                  with_reducible rfl
                rotate_left
                · simp only [Act.put, List.setIfInBounds_toArray, List.set_cons_zero, List.set_cons_succ, i64_w, i32_w]
                  rfl
                refine pure_ (i := 2) (N := some 53) (v := ?_) (a' := ?_) #[true, false, true, false, false, false, false, false, false, false, false] rfl rfl (by kernel_rfl) (fun _ _ _ h => h) (Or.inl ⟨by rfl, ?_⟩) ?_ ?_
                rotate_left
                · intro w'
                  go_simp
                  with_reducible rfl
                rotate_left
                · simp only [Act.put, List.setIfInBounds_toArray, List.set_cons_zero, List.set_cons_succ, i64_w, i32_w]
                  rfl
                refine pure_ (i := 3) (N := some 54) (v := ?_) (a' := ?_) #[true, false, true, true, false, false, false, false, false, false, false] rfl rfl (by kernel_rfl) (fun _ _ _ h => h) (Or.inl ⟨by rfl, ?_⟩) ?_ ?_
                rotate_left
                · intro w'
                  go_simp
                  with_reducible rfl
                rotate_left
                · simp only [Act.put, List.setIfInBounds_toArray, List.set_cons_zero, List.set_cons_succ, i64_w, i32_w]
                  rfl
                refine pure_ (i := 4) (N := some 55) (v := ?_) (a' := ?_) #[true, false, true, true, true, false, false, false, false, false, false] rfl rfl (by kernel_rfl) (fun _ _ _ h => h) (Or.inl ⟨by rfl, ?_⟩) ?_ ?_
                rotate_left
                · intro w'
                  go_simp
                  with_reducible rfl
                rotate_left
                · simp only [Act.put, List.setIfInBounds_toArray, List.set_cons_zero, List.set_cons_succ, i64_w, i32_w]
                  rfl
                refine take_ (i := 1) (N := some 52) (v := ?_) (a' := ?_) #[true, true, true, true, true, false, false, false, false, false, false] rfl rfl (by kernel_rfl) (fun _ _ _ h => h) (Or.inl ⟨by rfl, ?_⟩) hHeld ?_ ?_
                rotate_left
                · intro w' s0
                  go_simp
                  with_reducible rfl
                rotate_left
                · simp only [Act.put, List.setIfInBounds_toArray, List.set_cons_zero, List.set_cons_succ, i64_w, i32_w]
                  rfl
                refine one_ (i := 5) (N := some 56) #[true, true, true, true, true, true, false, false, false, false, false] rfl rfl (by kernel_rfl) (by decide) (fun K hK => ?_)
                refine goesV_ Tryz.func63 (by kernel_rfl) rfl #[.int .i64 y, .slice (some ⟨B, 1, none⟩) 2 2] (by rfl) (by rfl) rfl rfl (by simp only [List.map_toArray, List.map_cons, List.map_nil]; rfl) ?_
                with_reducible refine (weeks_lt y ⟨B, 1, none⟩ 2 p q _ hCv b1 b2).mono ?_
                rintro e w3 ⟨rfl, hl3⟩
                refine ⟨_, rfl, ?_⟩
                refine hK.out _ _ (cell_lt hl3 hHeld) (fun hHeld => ?_)
                clear hK K
                refine norm_ (a' := ?_) ?_ ?_
                rotate_left
                · show Act.put _ (some 56) _ = _
                  simp only [Act.put, List.setIfInBounds_toArray, List.set_cons_zero, List.set_cons_succ, i64_w, i32_w]
                  rfl
                refine pure_ (i := 6) (N := some 50) (v := ?_) (a' := ?_) #[true, true, true, true, true, true, true, false, false, false, false] rfl rfl (by kernel_rfl) (fun _ _ _ h => h) (Or.inl ⟨by rfl, ?_⟩) ?_ ?_
                rotate_left
                · intro w'
                  go_simp
                  with_reducible rfl
                rotate_left
                · simp only [Act.put, List.setIfInBounds_toArray, List.set_cons_zero, List.set_cons_succ, i64_w, i32_w]
                  rfl
                refine pure_ (i := 7) (N := some 57) (v := ?_) (a' := ?_) #[true, true, true, true, true, true, true, true, false, false, false] rfl rfl (by kernel_rfl) (fun _ _ _ h => h) (Or.inl ⟨by rfl, ?_⟩) ?_ ?_
                rotate_left
                · intro w'
                  go_simp
                  with_reducible rfl
                rotate_left
                · simp only [Act.put, List.setIfInBounds_toArray, List.set_cons_zero, List.set_cons_succ, i64_w, i32_w]
                  rfl
                refine pure_ (i := 8) (N := some 58) (v := ?_) (a' := ?_) #[true, true, true, true, true, true, true, true, true, false, false] rfl rfl (by kernel_rfl) (fun _ _ _ h => h) (Or.inl ⟨by rfl, ?_⟩) ?_ ?_
                rotate_left
                · intro w'
                  go_simp
                  with_reducible rfl
                rotate_left
                · simp only [Act.put, List.setIfInBounds_toArray, List.set_cons_zero, List.set_cons_succ, i64_w, i32_w]
                  rfl
                refine pure_ (i := 9) (N := some 10) (v := ?_) (a' := ?_) #[true, true, true, true, true, true, true, true, true, true, false] rfl rfl (by kernel_rfl) (fun _ _ _ h => h) (Or.inl ⟨by rfl, ?_⟩) ?_ ?_
                rotate_left
                · intro w'
                  go_simp
                  with_reducible rfl
                rotate_left
                · simp only [Act.put, List.setIfInBounds_toArray, List.set_cons_zero, List.set_cons_succ, i64_w, i32_w]
                  rfl
                refine pure_ (i := 10) (N := some 11) (v := ?_) (a' := ?_) #[true, true, true, true, true, true, true, true, true, true, true] rfl rfl (by kernel_rfl) (fun _ _ _ h => h) (Or.inl ⟨by rfl, ?_⟩) ?_ ?_
                rotate_left
                · intro w'
                  go_simp
                  with_reducible rfl
                rotate_left
                · simp only [Act.put, List.setIfInBounds_toArray, List.set_cons_zero, List.set_cons_succ, i64_w, i32_w]
                  rfl
                refine done_ (by kernel_rfl) ?_
                rw [HM.out] at *
                go_wp2_with fail
                go_roundw
                case rel => exact ⟨2, by omega, by go_num, HLR.out.trans (HLV.out.trans ((Lt.refl _).d1.trans hl3)), next_p HPP.out (by rw [HF.out]; exact HH.out)⟩
                case measure => simp [intOf]
            · have hF : (shapeF y (x0 :: r) 1).2 ≠ 0 := by
                show (if r.length + 1 = 3 then _ else ((0 : Int), (30 : Int))).2 ≠ 0
                rw [if_neg (by have := HN.out; omega)]
                decide
              have HF := Aside0.mk hF
              have hne1 : ((N : Int) == 3) = false := beq_eq_false_iff_ne.2 (by omega)
              have hne2 : ¬ ((N : Int) = 3) := by omega
              clear hF
              go_wp2_with fail
              go_roundw
              case rel => exact ⟨2, by omega, by go_num, HLR.out.trans (lt_new _ _ _), next_p HPP.out HF.out⟩
              case measure => simp [intOf]
          · have s0 := cell_lt HLR.out (HSC.out 4 _ rfl)
            have s1 := cell_lt HLR.out (HSC.out 5 _ rfl)
            by_cases hN3 : N = 2
            · subst hN3
              have hrl : r.length = 1 := by have := HN.out; omega
              obtain ⟨p, rfl⟩ := List.length_eq_one_iff.1 hrl
              clear hrl
              have hF : shapeF y (x0 :: [p]) 2 = daysOfF y p := rfl
              obtain ⟨wv, hwv⟩ : ∃ wv, wv = wr.alloc (.cells #[.int .i64 1, .func (.func 64) #[] #[]] 60) := ⟨_, rfl⟩
              have hlv : Lt wr wv := by rw [hwv]; exact lt_new _ _ _
              have v0' : (wr.alloc (.cells #[.int .i64 1, .func (.func 64) #[] #[]] 60)).cell? ⟨wr.heap.size, 0, none⟩ = some (.int .i64 1) := by rw [World.cell?_alloc_at _ _ _ _ rfl]; rfl
              have v1' : (wr.alloc (.cells #[.int .i64 1, .func (.func 64) #[] #[]] 60)).cell? ⟨wr.heap.size, 1, none⟩ = some (.func (.func 64) #[] #[]) := by rw [World.cell?_alloc_at _ _ _ _ rfl]; rfl
              have v1 := v1'
              rw [← hwv] at v1
              have b1 : wv.drew.cell? ⟨B, 1, none⟩ = some (.string p) := cell_lt (w' := wv) ((HL1.out.trans (HL2.out.trans (HLR.out.trans hlv)))) (HCE.out 1 (by simp))
              have hCv : Cal wv.drew := (HCB.out.l ((HL1.out.trans (HL2.out.trans (HLR.out.trans hlv))))).l (Lt.refl _).d1
              have HLV := Aside0.mk hlv
              obtain ⟨⟨m1, m2⟩, hm⟩ : ∃ z, daysOfF y p = z := ⟨_, rfl⟩
              rw [hm] at hF
              have HF := Aside0.mk hF
              have HM := Aside0.mk hm
              obtain ⟨X, hX⟩ : ∃ X, X = wr.heap.size := ⟨_, rfl⟩
              rw [← hX] at v1
              clear hF hlv hm
              by_cases h0 : m2 = 0
              · have h0' : (m2 == 0) = true := beq_iff_eq.2 h0
                have HH := Aside0.mk h0
                clear h0
                go_wp2_with fail
                rw [← hwv, ← hX]
                clear hwv v0' v1' s0 s1 hX
                refine start_ (n := 11) (S := fun w' => w'.cell? ⟨X, 1, none⟩ = some (.func (.func 64) #[] #[])) (ds := []) #[false, false, false, false, false, false, false, false, false, false, false] (by kernel_rfl) rfl rfl (v1) (fun hHeld => ?_)
                refine pure_ (i := 0) (N := some 51) (v := ?_) (a' := ?_) #[true, false, false, false, false, false, false, false, false, false, false] rfl rfl (by kernel_rfl) (fun _ _ _ h => h) (Or.inl ⟨by rfl, ?_⟩) ?_ ?_
                rotate_left
                · intro w'
                  go_simp
                  with_reducible rfl
                rotate_left
                · simp only [Act.put, List.setIfInBounds_toArray, List.set_cons_zero, List.set_cons_succ, i64_w, i32_w]
                  rfl
                refine pure_ (i := 2) (N := some 53) (v := ?_) (a' := ?_) #[true, false, true, false, false, false, false, false, false, false, false] rfl rfl (by kernel_rfl) (fun _ _ _ h => h) (Or.inl ⟨by rfl, ?_⟩) ?_ ?_
                rotate_left
                · intro w'
                  go_simp
                  with_reducible rfl
                rotate_left
                · simp only [Act.put, List.setIfInBounds_toArray, List.set_cons_zero, List.set_cons_succ, i64_w, i32_w]
                  rfl
                refine pure_ (i := 3) (N := some 54) (v := ?_) (a' := ?_) #[true, false, true, true, false, false, false, false, false, false, false] rfl rfl (by kernel_rfl) (fun _ _ _ h => h) (Or.inl ⟨by rfl, ?_⟩) ?_ ?_
                rotate_left
                · intro w'
                  go_simp
                  with_reducible rfl
                rotate_left
                · simp only [Act.put, List.setIfInBounds_toArray, List.set_cons_zero, List.set_cons_succ, i64_w, i32_w]
                  rfl
                refine pure_ (i := 4) (N := some 55) (v := ?_) (a' := ?_) #[true, false, true, true, true, false, false, false, false, false, false] rfl rfl (by kernel_rfl) (fun _ _ _ h => h) (Or.inl ⟨by rfl, ?_⟩) ?_ ?_
                rotate_left
                · intro w'
                  go_simp
                  with_reducible rfl
                rotate_left
                · simp only [Act.put, List.setIfInBounds_toArray, List.set_cons_zero, List.set_cons_succ, i64_w, i32_w]
                  rfl
                refine take_ (i := 1) (N := some 52) (v := ?_) (a' := ?_) #[true, true, true, true, true, false, false, false, false, false, false] rfl rfl (by kernel_rfl) (fun _ _ _ h => h) (Or.inl ⟨by rfl, ?_⟩) hHeld ?_ ?_
                rotate_left
                · intro w' s0
                  go_simp
                  with_reducible rfl
                rotate_left
                · simp only [Act.put, List.setIfInBounds_toArray, List.set_cons_zero, List.set_cons_succ, i64_w, i32_w]
                  rfl
                refine one_ (i := 5) (N := some 56) #[true, true, true, true, true, true, false, false, false, false, false] rfl rfl (by kernel_rfl) (by decide) (fun K hK => ?_)
                refine goesV_ Tryz.func64 (by kernel_rfl) rfl #[.int .i64 y, .slice (some ⟨B, 1, none⟩) 1 1] (by rfl) (by rfl) rfl rfl (by simp only [List.map_toArray, List.map_cons, List.map_nil]; rfl) ?_
                with_reducible refine (daysOf_lt y ⟨B, 1, none⟩ 1 p _ hCv b1).mono ?_
                rintro e w3 ⟨rfl, hl3⟩
                refine ⟨_, rfl, ?_⟩
                refine hK.out _ _ (cell_lt hl3 hHeld) (fun hHeld => ?_)
                clear hK K
                refine norm_ (a' := ?_) ?_ ?_
                rotate_left
                · show Act.put _ (some 56) _ = _
                  simp only [Act.put, List.setIfInBounds_toArray, List.set_cons_zero, List.set_cons_succ, i64_w, i32_w]
                  rfl
                refine pure_ (i := 6) (N := some 50) (v := ?_) (a' := ?_) #[true, true, true, true, true, true, true, false, false, false, false] rfl rfl (by kernel_rfl) (fun _ _ _ h => h) (Or.inl ⟨by rfl, ?_⟩) ?_ ?_
                rotate_left
                · intro w'
                  go_simp
                  with_reducible rfl
                rotate_left
                · simp only [Act.put, List.setIfInBounds_toArray, List.set_cons_zero, List.set_cons_succ, i64_w, i32_w]
                  rfl
                refine pure_ (i := 7) (N := some 57) (v := ?_) (a' := ?_) #[true, true, true, true, true, true, true, true, false, false, false] rfl rfl (by kernel_rfl) (fun _ _ _ h => h) (Or.inl ⟨by rfl, ?_⟩) ?_ ?_
                rotate_left
                · intro w'
                  go_simp
                  with_reducible rfl
                rotate_left
                · simp only [Act.put, List.setIfInBounds_toArray, List.set_cons_zero, List.set_cons_succ, i64_w, i32_w]
                  rfl
                refine pure_ (i := 8) (N := some 58) (v := ?_) (a' := ?_) #[true, true, true, true, true, true, true, true, true, false, false] rfl rfl (by kernel_rfl) (fun _ _ _ h => h) (Or.inl ⟨by rfl, ?_⟩) ?_ ?_
                rotate_left
                · intro w'
                  go_simp
                  with_reducible rfl
                rotate_left
                · simp only [Act.put, List.setIfInBounds_toArray, List.set_cons_zero, List.set_cons_succ, i64_w, i32_w]
                  rfl
                refine pure_ (i := 9) (N := some 10) (v := ?_) (a' := ?_) #[true, true, true, true, true, true, true, true, true, true, false] rfl rfl (by kernel_rfl) (fun _ _ _ h => h) (Or.inl ⟨by rfl, ?_⟩) ?_ ?_
                rotate_left
                · intro w'
                  go_simp
                  with_reducible rfl
                rotate_left
                · simp only [Act.put, List.setIfInBounds_toArray, List.set_cons_zero, List.set_cons_succ, i64_w, i32_w]
                  rfl
                refine pure_ (i := 10) (N := some 11) (v := ?_) (a' := ?_) #[true, true, true, true, true, true, true, true, true, true, true] rfl rfl (by kernel_rfl) (fun _ _ _ h => h) (Or.inl ⟨by rfl, ?_⟩) ?_ ?_
                rotate_left
                · intro w'
                  go_simp
                  with_reducible rfl
                rotate_left
                · simp only [Act.put, List.setIfInBounds_toArray, List.set_cons_zero, List.set_cons_succ, i64_w, i32_w]
                  rfl
                refine done_ (by kernel_rfl) ?_
                rw [HM.out] at *
                go_wp2_with fail
                go_ret2
                have hT := tail_at (by omega) HPP.out (by rw [HF.out]; exact HH.out)
                rw [HT.out, HF.out] at hT
                obtain ⟨rfl, rfl⟩ := Prod.mk.inj hT
                exact ⟨rfl, HLB.out.trans (HL1.out.trans (HL2.out.trans (HLR.out.trans (HLV.out.trans ((Lt.refl _).d1.trans hl3)))))⟩
              · have h0' : (m2 == 0) = false := beq_eq_false_iff_ne.2 h0
                have HH := Aside0.mk h0
                clear h0
                go_wp2_with fail
                rw [← hwv, ← hX]
                clear hwv v0' v1' s0 s1 hX
                refine start_ (n := 11) (S := fun w' => w'.cell? ⟨X, 1, none⟩ = some (.func (.func 64) #[] #[])) (ds := []) #[false, false, false, false, false, false, false, false, false, false, false] (by kernel_rfl) rfl rfl (v1) (fun hHeld => ?_)
                refine pure_ (i := 0) (N := some 51) (v := ?_) (a' := ?_) #[true, false, false, false, false, false, false, false, false, false, false] rfl rfl (by kernel_rfl) (fun _ _ _ h => h) (Or.inl ⟨by rfl, ?_⟩) ?_ ?_
                rotate_left
                · intro w'
                  go_simp
                  with_reducible rfl
                rotate_left
                · simp only [Act.put, List.setIfInBounds_toArray, List.set_cons_zero, List.set_cons_succ, i64_w, i32_w]
                  rfl
                refine pure_ (i := 2) (N := some 53) (v := ?_) (a' := ?_) #[true, false, true, false, false, false, false, false, false, false, false] rfl rfl (by kernel_rfl) (fun _ _ _ h => h) (Or.inl ⟨by rfl, ?_⟩) ?_ ?_
                rotate_left
                · intro w'
                  go_simp
                  with_reducible rfl
                rotate_left
                · simp only [Act.put, List.setIfInBounds_toArray, List.set_cons_zero, List.set_cons_succ, i64_w, i32_w]
                  rfl
                refine pure_ (i := 3) (N := some 54) (v := ?_) (a' := ?_) #[true, false, true, true, false, false, false, false, false, false, false] rfl rfl (by kernel_rfl) (fun _ _ _ h => h) (Or.inl ⟨by rfl, ?_⟩) ?_ ?_
                rotate_left
                · intro w'
                  go_simp
                  with_reducible rfl
                rotate_left
                · simp only [Act.put, List.setIfInBounds_toArray, List.set_cons_zero, List.set_cons_succ, i64_w, i32_w]
                  rfl
                refine pure_ (i := 4) (N := some 55) (v := ?_) (a' := ?_) #[true, false, true, true, true, false, false, false, false, false, false] rfl rfl (by kernel_rfl) (fun _ _ _ h => h) (Or.inl ⟨by rfl, ?_⟩) ?_ ?_
                rotate_left
                · intro w'
                  go_simp
                  with_reducible rfl
                rotate_left
                · simp only [Act.put, List.setIfInBounds_toArray, List.set_cons_zero, List.set_cons_succ, i64_w, i32_w]
                  rfl
                refine take_ (i := 1) (N := some 52) (v := ?_) (a' := ?_) #[true, true, true, true, true, false, false, false, false, false, false] rfl rfl (by kernel_rfl) (fun _ _ _ h => h) (Or.inl ⟨by rfl, ?_⟩) hHeld ?_ ?_
                rotate_left
                · intro w' s0
                  go_simp
                  with_reducible rfl
                rotate_left
                · simp only [Act.put, List.setIfInBounds_toArray, List.set_cons_zero, List.set_cons_succ, i64_w, i32_w]
                  rfl
                refine one_ (i := 5) (N := some 56) #[true, true, true, true, true, true, false, false, false, false, false] rfl rfl (by kernel_rfl) (by decide) (fun K hK => ?_)
                refine goesV_ Tryz.func64 (by kernel_rfl) rfl #[.int .i64 y, .slice (some ⟨B, 1, none⟩) 1 1] (by rfl) (by rfl) rfl rfl (by simp only [List.map_toArray, List.map_cons, List.map_nil]; rfl) ?_
                with_reducible refine (daysOf_lt y ⟨B, 1, none⟩ 1 p _ hCv b1).mono ?_
                rintro e w3 ⟨rfl, hl3⟩
                refine ⟨_, rfl, ?_⟩
                refine hK.out _ _ (cell_lt hl3 hHeld) (fun hHeld => ?_)
                clear hK K
                refine norm_ (a' := ?_) ?_ ?_
                rotate_left
                · show Act.put _ (some 56) _ = _
                  simp only [Act.put, List.setIfInBounds_toArray, List.set_cons_zero, List.set_cons_succ, i64_w, i32_w]
                  rfl
                refine pure_ (i := 6) (N := some 50) (v := ?_) (a' := ?_) #[true, true, true, true, true, true, true, false, false, false, false] rfl rfl (by kernel_rfl) (fun _ _ _ h => h) (Or.inl ⟨by rfl, ?_⟩) ?_ ?_
                rotate_left
                · intro w'
                  go_simp
                  with_reducible rfl
                rotate_left
                · simp only [Act.put, List.setIfInBounds_toArray, List.set_cons_zero, List.set_cons_succ, i64_w, i32_w]
                  rfl
                refine pure_ (i := 7) (N := some 57) (v := ?_) (a' := ?_) #[true, true, true, true, true, true, true, true, false, false, false] rfl rfl (by kernel_rfl) (fun _ _ _ h => h) (Or.inl ⟨by rfl, ?_⟩) ?_ ?_
                rotate_left
                · intro w'
                  go_simp
                  with_reducible rfl
                rotate_left
                · simp only [Act.put, List.setIfInBounds_toArray, List.set_cons_zero, List.set_cons_succ, i64_w, i32_w]
                  rfl
                refine pure_ (i := 8) (N := some 58) (v := ?_) (a' := ?_) #[true, true, true, true, true, true, true, true, true, false, false] rfl rfl (by kernel_rfl) (fun _ _ _ h => h) (Or.inl ⟨by rfl, ?_⟩) ?_ ?_
                rotate_left
                · intro w'
                  go_simp
                  with_reducible rfl
                rotate_left
                · simp only [Act.put, List.setIfInBounds_toArray, List.set_cons_zero, List.set_cons_succ, i64_w, i32_w]
                  rfl
                refine pure_ (i := 9) (N := some 10) (v := ?_) (a' := ?_) #[true, true, true, true, true, true, true, true, true, true, false] rfl rfl (by kernel_rfl) (fun _ _ _ h => h) (Or.inl ⟨by rfl, ?_⟩) ?_ ?_
                rotate_left
                · intro w'
                  go_simp
                  with_reducible rfl
                rotate_left
                · simp only [Act.put, List.setIfInBounds_toArray, List.set_cons_zero, List.set_cons_succ, i64_w, i32_w]
                  rfl
                refine pure_ (i := 10) (N := some 11) (v := ?_) (a' := ?_) #[true, true, true, true, true, true, true, true, true, true, true] rfl rfl (by kernel_rfl) (fun _ _ _ h => h) (Or.inl ⟨by rfl, ?_⟩) ?_ ?_
                rotate_left
                · intro w'
                  go_simp
                  with_reducible rfl
                rotate_left
                · simp only [Act.put, List.setIfInBounds_toArray, List.set_cons_zero, List.set_cons_succ, i64_w, i32_w]
                  rfl
                refine done_ (by kernel_rfl) ?_
                rw [HM.out] at *
                go_wp2_with fail
                go_roundw
                case rel => exact ⟨3, by omega, by go_num, HLR.out.trans (HLV.out.trans ((Lt.refl _).d1.trans hl3)), next_p HPP.out (by rw [HF.out]; exact HH.out)⟩
                case measure => simp [intOf]
            · have hF : (shapeF y (x0 :: r) 2).2 ≠ 0 := by
                show (if r.length + 1 = 2 then _ else ((0 : Int), (30 : Int))).2 ≠ 0
                rw [if_neg (by have := HN.out; omega)]
                decide
              have HF := Aside0.mk hF
              have hne1 : ((N : Int) == 2) = false := beq_eq_false_iff_ne.2 (by omega)
              have hne2 : ¬ ((N : Int) = 2) := by omega
              clear hF
              go_wp2_with fail
              go_roundw
              case rel => exact ⟨3, by omega, by go_num, HLR.out.trans (lt_new _ _ _), next_p HPP.out HF.out⟩
              case measure => simp [intOf]
          · go_wp2_with fail
            go_ret2
            have hT := tail_none HPP.out
            rw [HT.out] at hT
            obtain ⟨rfl, rfl⟩ := Prod.mk.inj hT
            exact ⟨rfl, HLB.out.trans (HL1.out.trans (HL2.out.trans HLR.out))⟩
end Go.Proofs.YtnaaagaammimnaaGreatDoor.Civ
