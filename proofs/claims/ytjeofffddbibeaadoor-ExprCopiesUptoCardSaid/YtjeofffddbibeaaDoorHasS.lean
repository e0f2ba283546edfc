/-
  What the reading of an argument gives, with its weight (parts, numbers, names' bytes): at most the reading's bulk; and what the reading of bytes gives.
-/
import Derived.Test.YtjeofffddbibeaaDoorHas
import Derived.Test.YtjeofffddbibeaaDoorThree
import Derived.ProofKit
import Derived.OpenShut
namespace Go.Proofs.YtjeofffddbibeaaDoor.Ex
open Go Go.RowKit Go.ChangeShapes Go.WideShapes Go.ChangeAt Go.Proofs.YtjeofffddbibeaaDoor.PExprTells Go.Proofs.YtjeofffddbibeaaDoorW.PrintWords Go.Proofs.YtjeofffddbibeaaDoorW.PrintLast Go.Proofs.YtjeofffddbibeaaDoorW.PrintMore
set_option linter.unusedVariables false
set_option linter.unusedSimpArgs false

theorem bulk_nilD {H : Type} : Rows.uptoBulk (.nil : DataW H) = 1 := by rw [Rows.uptoBulk]
theorem bulk_int {H : Type} (k : IntKind) (n : Int) : Rows.uptoBulk (.lit (.int k n) : DataW H) = 1 := by rw [Rows.uptoBulk]; intro _ h; cases h
theorem bulk_lits {H : Type} (k : IntKind) (zs : List Int) : Rows.uptoBulkAll (lits k zs : List (DataW H)) = zs.length := by
  unfold lits
  induction zs with
  | nil => rw [List.map_nil, bulk_nil]; rfl
  | cons z zs ih => rw [List.map_cons, bulk_cons, bulk_int, ih, List.length_cons]; omega
theorem wzL_app (l r : List X) : wzL (l ++ r) = wzL l + wzL r := by
  induction l with
  | nil => rw [List.nil_append, wzL_nil]; omega
  | cons d l ih => rw [List.cons_append, wzL_cons, wzL_cons, ih]; omega
section
variable {H : Type} {enc : TypeId × Value → H} {w : World} {base : Nat}
/-- The numbers of an expression. -/
theorem nums_of_trodW {fuel : Nat} {cs : List Value} {y : DataW H × List MemPlace} (h : DataW.trod enc Tryd.prog w base (fun _ => true) true fuel 22 cs = some y) :
    ∃ A c, ∃ ns : List Int, cs = [.slice A ns.length c] ∧ ns.length ≤ c ∧ kI.C w A ns.length ns ∧ (∀ k ∈ ns, -9223372036854775808 ≤ k ∧ k ≤ 9223372036854775807) ∧ ns.length + 1 ≤ Rows.uptoBulk y.1 := by
  rcases open_ints Tryd.underlying22 Tryd.underlying2 cells_int64 h with ⟨rfl, rfl⟩ | ⟨a, len, cap, zs, rfl, hb, hl, hm, hz, rfl, hc, hw⟩
  · exact ⟨none, 0, [], rfl, Nat.le_refl _, Kd.C_nil _ _, (fun _ h => by cases h), by show 0 + 1 ≤ Rows.uptoBulk (DataW.nil : DataW H); rw [bulk_nilD]; exact Nat.le_refl _⟩
  · have hz' : zs.length = cap := by simpa using hz
    have hlen : (zs.take len).length = len := by rw [List.length_take]; omega
    refine ⟨some a, cap, zs.take len, by rw [hlen], by omega, ?_, fun k hk => ?_, by show _ ≤ Rows.uptoBulk (DataW.slice (lits .i64 (zs.take len)) (lits .i64 (zs.drop len)) : DataW H); rw [bulk_slice, bulk_lits]; omega⟩
    · rw [hlen]
      refine Kd.C_of_reads (enc := Value.int .i64) (d := (0 : Int)) (h1 := fun _ => rfl) ⟨hlen, by unfold maxLen at hm; omega, fun _ => ⟨a, rfl, fun j hj => ?_⟩⟩
      rw [hc j (by omega)]
      simp only [List.getD_eq_getElem?_getD]
      rw [List.getElem?_take_of_lt hj]
    · have := bounds_i64 (hw k (List.mem_of_mem_take hk))
      exact this
/-- Bytes. -/
theorem bytes_of_trod {fuel : Nat} {cs : List Value} {y : DataW H × List MemPlace} (h : DataW.trod enc Tryd.prog w base (fun _ => true) true fuel 40 cs = some y) :
    ∃ A c, ∃ ns : List Int, cs = [.slice A ns.length c] ∧ ns.length ≤ c ∧ (Kd.int .u8).C w A ns.length ns ∧ (∀ k ∈ ns, 0 ≤ k ∧ k ≤ 255) ∧ ns.length + 1 ≤ Rows.uptoBulk y.1 := by
  rcases open_ints Tryd.underlying40 Tryd.underlying5 cells_byte h with ⟨rfl, rfl⟩ | ⟨a, len, cap, zs, rfl, hb, hl, hm, hz, rfl, hc, hw⟩
  · exact ⟨none, 0, [], rfl, Nat.le_refl _, Kd.C_nil _ _, (fun _ h => by cases h), by show 0 + 1 ≤ Rows.uptoBulk (DataW.nil : DataW H); rw [bulk_nilD]; exact Nat.le_refl _⟩
  · have hz' : zs.length = cap := by simpa using hz
    have hlen : (zs.take len).length = len := by rw [List.length_take]; omega
    refine ⟨some a, cap, zs.take len, by rw [hlen], by omega, ?_, fun k hk => ?_, by show _ ≤ Rows.uptoBulk (DataW.slice (lits .u8 (zs.take len)) (lits .u8 (zs.drop len)) : DataW H); rw [bulk_slice, bulk_lits]; omega⟩
    · rw [hlen]
      refine Kd.C_of_reads (enc := Value.int .u8) (d := (0 : Int)) (h1 := fun _ => rfl) ⟨hlen, by unfold maxLen at hm; omega, fun _ => ⟨a, rfl, fun j hj => ?_⟩⟩
      rw [hc j (by omega)]
      simp only [List.getD_eq_getElem?_getD]
      rw [List.getElem?_take_of_lt hj]
    · have := bounds_u8 (hw k (List.mem_of_mem_take hk))
      exact this
set_option maxRecDepth 100000 in
theorem has_of_trodS (N : Nat) : ∀ (fuel : Nat), fuel ≤ N → ∀ (cs : List Value) (y : DataW H × List MemPlace), DataW.trod enc Tryd.prog w base (fun _ => true) true fuel 25 cs = some y → Rows.uptoBulk y.1 ≤ 1048576 →
    ∃ x A2 c2 A3 c3, cs = [.int .u8 x.f0, .string x.f1, .slice A2 x.f2.length c2, .slice A3 x.f3.length c3] ∧ Has w x A2 c2 A3 c3 ∧ wz x ≤ Rows.uptoBulk y.1 := by
  induction N with
  | zero =>
    intro fuel hf cs y h
    obtain rfl : fuel = 0 := by omega
    simp [DataW.trod] at h
  | succ N ih =>
    intro fuel hf cs y h hbulk
    obtain ⟨xs, n, rfl, rfl, hlen, hsz, hall⟩ := DataW.trod_struct Tryd.underlying25 h
    rw [cells_expr] at hlen
    match cs, hlen with
    | [v0, v1, v2, v3], _ =>
    match xs, hsz with
    | [y0, y1, y2, y3], _ =>
    have e0 : DataW.trod enc Tryd.prog w base (fun _ => true) true n 5 (([v0, v1, v2, v3].drop 0).take (Tryd.prog.cellsOf 5)) = some y0 := hall 0 _ rfl
    have e1 : DataW.trod enc Tryd.prog w base (fun _ => true) true n 9 (([v0, v1, v2, v3].drop 1).take (Tryd.prog.cellsOf 9)) = some y1 := hall 1 _ rfl
    have e2 : DataW.trod enc Tryd.prog w base (fun _ => true) true n 22 (([v0, v1, v2, v3].drop 2).take (Tryd.prog.cellsOf 22)) = some y2 := hall 2 _ rfl
    have e3 : DataW.trod enc Tryd.prog w base (fun _ => true) true n 23 (([v0, v1, v2, v3].drop 3).take (Tryd.prog.cellsOf 23)) = some y3 := hall 3 _ rfl
    rw [cells_byte] at e0
    rw [cells_str] at e1
    rw [cells_nums] at e2
    rw [cells_args] at e3
    obtain ⟨o, h0, rfl, hw0⟩ := DataW.trod_int Tryd.underlying5 e0
    obtain ⟨s, h1, rfl, hs⟩ := DataW.trod_string Tryd.underlying9 e1
    obtain ⟨A2, c2, ns, h2, hl2, hC2, hb2, hnb⟩ := nums_of_trodW e2
    obtain rfl : v0 = .int .u8 o := by simpa using h0
    obtain rfl : v1 = .string s := by simpa using h1
    obtain rfl : v2 = .slice A2 ns.length c2 := by simpa using h2
    have hbl : Rows.uptoBulk y3.1 ≤ 1048576 ∧ s.data.toList.length ≤ 1048576 ∧ Rows.uptoBulk y3.1 + ns.length + s.data.toList.length + 4 ≤ Rows.uptoBulk (DataW.agg (List.map (fun x => x.1) [(DataW.lit (Lit.int .u8 o), []), (DataW.lit (Lit.string s.data.toList), []), y2, y3])) := by
      simp only [List.map_cons, List.map_nil, bulk_agg, bulk_cons, bulk_nil, bulk_string, bulk_int] at hbulk ⊢
      omega
    have hop := bounds_u8 hw0
    have hse : s.size = s.data.toList.length := by simp
    have hss : s.size ≤ 140737488351232 := by
      omega
    rcases DataW.trod_slice Tryd.underlying23 e3 with ⟨h3, rfl⟩ | ⟨a, len, cap, elems, rest, n', rfl, h3, rfl, hb, hl, hm, hle, hel, _, _⟩
    · obtain rfl : v3 = .slice none 0 0 := by simpa using h3
      refine ⟨⟨o, s, ns, []⟩, A2, c2, none, 0, rfl, ⟨(Wf_eq _).2 ⟨hop, hss, hb2, WfL_of (fun _ h => by cases h)⟩, hl2, hC2, Nat.le_refl 0, Kd.C_nil _ _⟩, ?_⟩
      rw [wz_eq]
      show 4 + s.size + ns.length + wzL [] ≤ _
      rw [wzL_nil]
      have h2 := hbl.2.2
      rw [bulk_nilD] at h2
      exact Nat.le_trans (by omega) h2
    · obtain rfl : v3 = .slice (some a) len cap := by simpa using h3
      rw [cells_expr] at hel
      have hbe : ∀ e ∈ elems, Rows.uptoBulk e.1 ≤ 1048576 := fun e he => by
        have h1 := bulk_mem (List.mem_map_of_mem (f := fun x : DataW H × List MemPlace => x.1) he)
        have h2 := hbl.1
        rw [bulk_slice] at h2
        omega
      -- each argument
      have each : ∀ i, ∀ hi : i < elems.length, ∃ x B2 d2 B3 d3, w.cells? base (a.add (i * 4)) 4 = some [.int .u8 x.f0, .string x.f1, .slice B2 x.f2.length d2, .slice B3 x.f3.length d3] ∧ Has w x B2 d2 B3 d3 ∧ wz x ≤ Rows.uptoBulk elems[i].1 := by
        intro i hi
        have h1 := hel i (by omega)
        rw [List.getElem?_eq_getElem hi] at h1
        obtain ⟨cs', h2, h4⟩ := Option.bind_eq_some_iff.1 h1
        obtain ⟨x, B2, d2, B3, d3, rfl, hx, hc⟩ := ih n' (by omega) cs' elems[i] h4 (hbe _ (List.getElem_mem hi))
        exact ⟨x, B2, d2, B3, d3, h2, hx, hc⟩
      have rows : ∀ k, k ≤ elems.length → ∃ ys : List X, ys.length = k ∧ wzL ys ≤ Rows.uptoBulkAll ((elems.take k).map (fun x => x.1)) ∧ ∀ i, ∀ hi : i < ys.length, ∃ B2 d2 B3 d3, w.cells? base (a.add (i * 4)) 4 = some [.int .u8 ys[i].f0, .string ys[i].f1, .slice B2 ys[i].f2.length d2, .slice B3 ys[i].f3.length d3] ∧ Has w ys[i] B2 d2 B3 d3 := by
        intro k
        induction k with
        | zero => intro _; exact ⟨[], rfl, by rw [wzL_nil]; exact Nat.zero_le _, fun i hi => by simp at hi⟩
        | succ k ihk =>
          intro hk
          obtain ⟨ys, hyl, hyc, hy⟩ := ihk (by omega)
          obtain ⟨x, B2, d2, B3, d3, hx1, hx2, hx3⟩ := each k (by omega)
          refine ⟨ys ++ [x], by simp [hyl], ?_, ?_⟩
          · rw [List.take_add_one, List.getElem?_eq_getElem (by omega), List.map_append, wzL_app, bulk_app]
            rw [wzL_cons, wzL_nil]
            show _ ≤ _ + Rows.uptoBulkAll [elems[k].1]
            rw [bulk_cons, bulk_nil]
            omega
          · intro i hi
            rw [List.length_append] at hi
            simp only [List.length_cons, List.length_nil] at hi
            by_cases hik : i < ys.length
            · rw [List.getElem_append_left hik]
              exact hy i hik
            · obtain rfl : i = ys.length := by omega
              rw [List.getElem_concat_length rfl]
              rw [hyl]
              exact ⟨B2, d2, B3, d3, hx1, hx2⟩
      obtain ⟨ys, hyl, hyc, hy⟩ := rows elems.length (Nat.le_refl _)
      rw [List.take_length] at hyc
      have hyl' : ys.length = len := by omega
      subst hyl'
      refine ⟨⟨o, s, ns, ys⟩, A2, c2, some a, cap, rfl, ⟨(Wf_eq _).2 ⟨hop, hss, hb2, WfL_of (fun z hz => ?_)⟩, hl2, hC2, hl, ?_⟩, ?_⟩
      · obtain ⟨i, hi, rfl⟩ := List.getElem_of_mem hz
        obtain ⟨B2, d2, B3, d3, _, hx⟩ := hy i hi
        exact hx.wf
      · refine ⟨rfl, by show ys.length ≤ 9223372036854775807; unfold maxLen at hm; omega, fun _ => ⟨a, rfl, ?_⟩⟩
        intro j p hj
        obtain ⟨hjl, rfl⟩ := List.getElem?_eq_some_iff.1 hj
        obtain ⟨B2, d2, B3, d3, hc, hx⟩ := hy j hjl
        refine ⟨_, rfl, k25_mk w ys[j] hx.l2 hx.C2 hx.l3 hx.C3, ?_⟩
        intro i u hu
        obtain ⟨_, hl4, hcell⟩ := World.cells?_some hc
        have hi : i < 4 := by
          have := (List.getElem?_eq_some_iff.1 hu).1
          simpa using this
        have h5 := hcell i hi
        rw [hu] at h5
        have h6 : (a.add (j * 4)).add i = a.add (j * 4 + i) := by first | exact Addr.add_add a _ _ | exact Go.Addr.add_add a _ _ | (unfold Addr.add; repeat' split <;> simp_all <;> omega)
        rw [h6] at h5
        exact h5
      · rw [wz_eq]
        show 4 + s.size + ns.length + wzL ys ≤ _
        have h2 := hbl.2.2
        rw [bulk_slice] at h2
        exact Nat.le_trans (by omega) h2
end
end Go.Proofs.YtjeofffddbibeaaDoor.Ex
