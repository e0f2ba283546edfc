/-
  Part 7 of what the row stands on, put together by a program: Has, PlLaid, CmdH.
-/
import Derived.LaidMore
import Derived.Lay
import Derived.OpenShut
import Derived.ProofKit
import Derived.Shelf.Vars
import Derived.SliceStrings
import Derived.Stop.Joined
import Derived.Stop.LaidErr
import Derived.Test.YtcinojbfjiohjaaGreatDoorRows
import Derived.Test.YtcinojbfjiohjaaGreatDoorPwF
section
namespace Go.Proofs.YtcinojbfjiohjaaGreatDoor.Ex
open Go Go.RowKit Go.ChangeShapes Go.WideShapes Go.ChangeAt Go.Proofs.YtcinojbfjiohjaaGreatDoor.PPrintTells Go.Proofs.YtcinojbfjiohjaaGreatDoorW.PrintWords Go.Proofs.YtcinojbfjiohjaaGreatDoorW.PrintLast Go.Proofs.YtcinojbfjiohjaaGreatDoorW.PrintMore
set_option linter.unusedVariables false
set_option linter.unusedSimpArgs false
theorem cells_expr : Tryz.prog.cellsOf 25 = 4 := by kernel_rfl
theorem cells_byte : Tryz.prog.cellsOf 5 = 1 := by kernel_rfl
theorem cells_int64 : Tryz.prog.cellsOf 2 = 1 := by kernel_rfl
theorem cells_str : Tryz.prog.cellsOf 9 = 1 := by kernel_rfl
theorem cells_nums : Tryz.prog.cellsOf 22 = 1 := by kernel_rfl
theorem cells_args : Tryz.prog.cellsOf 23 = 1 := by kernel_rfl
theorem bulk_cons {H : Type} (d : DataW H) (r : List (DataW H)) : Rows.uptoBulkAll (d :: r) = Rows.uptoBulk d + Rows.uptoBulkAll r := by rw [Rows.uptoBulkAll]
theorem bulk_nil {H : Type} : Rows.uptoBulkAll ([] : List (DataW H)) = 0 := by rw [Rows.uptoBulkAll]
theorem bulk_agg {H : Type} (l : List (DataW H)) : Rows.uptoBulk (.agg l) = Rows.uptoBulkAll l + 1 := by rw [Rows.uptoBulk]
theorem bulk_slice {H : Type} (l r : List (DataW H)) : Rows.uptoBulk (.slice l r) = Rows.uptoBulkAll l + Rows.uptoBulkAll r + 1 := by rw [Rows.uptoBulk]
theorem bulk_string {H : Type} (l : List UInt8) : Rows.uptoBulk (.lit (.string l) : DataW H) = l.length + 1 := by rw [Rows.uptoBulk]
theorem bulk_app {H : Type} (l r : List (DataW H)) : Rows.uptoBulkAll (l ++ r) = Rows.uptoBulkAll l + Rows.uptoBulkAll r := by
  induction l with
  | nil => rw [List.nil_append, bulk_nil]; omega
  | cons d l ih => rw [List.cons_append, bulk_cons, bulk_cons, ih]; omega
theorem cntL_app (l r : List X) : cntL (l ++ r) = cntL l + cntL r := by
  induction l with
  | nil => rw [List.nil_append, cntL_nil]; omega
  | cons d l ih => rw [List.cons_append, cntL_cons, cntL_cons, ih]; omega
theorem bulk_mem {H : Type} {l : List (DataW H)} {d : DataW H} (h : d ∈ l) : Rows.uptoBulk d ≤ Rows.uptoBulkAll l := by
  induction l with
  | nil => cases h
  | cons e l ih =>
    rw [bulk_cons]
    rcases List.mem_cons.1 h with rfl | h
    · omega
    · have := ih h; omega
section
variable {H : Type} {enc : TypeId × Value → H} {w : World} {base : Nat}
theorem nums_of_trod {fuel : Nat} {cs : List Value} {y : DataW H × List MemPlace} (h : DataW.trod enc Tryz.prog w base (fun _ => true) true fuel 22 cs = some y) :
    ∃ A c, ∃ ns : List Int, cs = [.slice A ns.length c] ∧ ns.length ≤ c ∧ kI.C w A ns.length ns ∧ ∀ k ∈ ns, -9223372036854775808 ≤ k ∧ k ≤ 9223372036854775807 := by
  rcases open_ints Tryz.underlying22 Tryz.underlying2 cells_int64 h with ⟨rfl, rfl⟩ | ⟨a, len, cap, zs, rfl, hb, hl, hm, hz, rfl, hc, hw⟩
  · exact ⟨none, 0, [], rfl, Nat.le_refl _, Kd.C_nil _ _, fun _ h => by cases h⟩
  · have hz' : zs.length = cap := by simpa using hz
    have hlen : (zs.take len).length = len := by rw [List.length_take]; omega
    refine ⟨some a, cap, zs.take len, by rw [hlen], by omega, ?_, fun k hk => ?_⟩
    · rw [hlen]
      refine Kd.C_of_reads (enc := Value.int .i64) (d := (0 : Int)) (h1 := fun _ => rfl) ⟨hlen, by unfold maxLen at hm; omega, fun _ => ⟨a, rfl, fun j hj => ?_⟩⟩
      rw [hc j (by omega)]
      simp only [List.getD_eq_getElem?_getD]
      rw [List.getElem?_take_of_lt hj]
    · have := bounds_i64 (hw k (List.mem_of_mem_take hk))
      exact this
set_option maxRecDepth 100000 in
theorem has_of_trod (N : Nat) : ∀ (fuel : Nat), fuel ≤ N → ∀ (cs : List Value) (y : DataW H × List MemPlace), DataW.trod enc Tryz.prog w base (fun _ => true) true fuel 25 cs = some y → Rows.uptoBulk y.1 ≤ 1048576 →
    ∃ x A2 c2 A3 c3, cs = [.int .u8 x.f0, .string x.f1, .slice A2 x.f2.length c2, .slice A3 x.f3.length c3] ∧ Has w x A2 c2 A3 c3 ∧ cnt x ≤ Rows.uptoBulk y.1 := by
  induction N with
  | zero =>
    intro fuel hf cs y h
    obtain rfl : fuel = 0 := by omega
    simp [DataW.trod] at h
  | succ N ih =>
    intro fuel hf cs y h hbulk
    obtain ⟨xs, n, rfl, rfl, hlen, hsz, hall⟩ := DataW.trod_struct Tryz.underlying25 h
    rw [cells_expr] at hlen
    match cs, hlen with
    | [v0, v1, v2, v3], _ =>
    match xs, hsz with
    | [y0, y1, y2, y3], _ =>
    have e0 : DataW.trod enc Tryz.prog w base (fun _ => true) true n 5 (([v0, v1, v2, v3].drop 0).take (Tryz.prog.cellsOf 5)) = some y0 := hall 0 _ rfl
    have e1 : DataW.trod enc Tryz.prog w base (fun _ => true) true n 9 (([v0, v1, v2, v3].drop 1).take (Tryz.prog.cellsOf 9)) = some y1 := hall 1 _ rfl
    have e2 : DataW.trod enc Tryz.prog w base (fun _ => true) true n 22 (([v0, v1, v2, v3].drop 2).take (Tryz.prog.cellsOf 22)) = some y2 := hall 2 _ rfl
    have e3 : DataW.trod enc Tryz.prog w base (fun _ => true) true n 23 (([v0, v1, v2, v3].drop 3).take (Tryz.prog.cellsOf 23)) = some y3 := hall 3 _ rfl
    rw [cells_byte] at e0
    rw [cells_str] at e1
    rw [cells_nums] at e2
    rw [cells_args] at e3
    obtain ⟨o, h0, rfl, hw0⟩ := DataW.trod_int Tryz.underlying5 e0
    obtain ⟨s, h1, rfl, hs⟩ := DataW.trod_string Tryz.underlying9 e1
    obtain ⟨A2, c2, ns, h2, hl2, hC2, hb2⟩ := nums_of_trod e2
    obtain rfl : v0 = .int .u8 o := by simpa using h0
    obtain rfl : v1 = .string s := by simpa using h1
    obtain rfl : v2 = .slice A2 ns.length c2 := by simpa using h2
    have hbl : Rows.uptoBulk y3.1 ≤ 1048576 ∧ s.data.toList.length ≤ 1048576 ∧ Rows.uptoBulk y3.1 + 1 ≤ Rows.uptoBulk (DataW.agg (List.map (fun x => x.1) [(DataW.lit (Lit.int .u8 o), []), (DataW.lit (Lit.string s.data.toList), []), y2, y3])) := by
      simp only [List.map_cons, List.map_nil, bulk_agg, bulk_cons, bulk_nil, bulk_string] at hbulk ⊢
      omega
    have hop := bounds_u8 hw0
    have hss : s.size ≤ 140737488351232 := by
      have h1 : s.size = s.data.toList.length := by simp
      omega
    rcases DataW.trod_slice Tryz.underlying23 e3 with ⟨h3, rfl⟩ | ⟨a, len, cap, elems, rest, n', rfl, h3, rfl, hb, hl, hm, hle, hel, _, _⟩
    · obtain rfl : v3 = .slice none 0 0 := by simpa using h3
      refine ⟨⟨o, s, ns, []⟩, A2, c2, none, 0, rfl, ⟨(Wf_eq _).2 ⟨hop, hss, hb2, WfL_of (fun _ h => by cases h)⟩, hl2, hC2, Nat.le_refl 0, Kd.C_nil _ _⟩, ?_⟩
      rw [cnt_eq]
      show 1 + cntL [] ≤ _
      rw [cntL_nil]
      exact Nat.le_trans (by omega) hbl.2.2
    · obtain rfl : v3 = .slice (some a) len cap := by simpa using h3
      rw [cells_expr] at hel
      have hbe : ∀ e ∈ elems, Rows.uptoBulk e.1 ≤ 1048576 := fun e he => by
        have h1 := bulk_mem (List.mem_map_of_mem (f := fun x : DataW H × List MemPlace => x.1) he)
        have h2 := hbl.1
        rw [bulk_slice] at h2
        omega
      -- each argument
      have each : ∀ i, ∀ hi : i < elems.length, ∃ x B2 d2 B3 d3, w.cells? base (a.add (i * 4)) 4 = some [.int .u8 x.f0, .string x.f1, .slice B2 x.f2.length d2, .slice B3 x.f3.length d3] ∧ Has w x B2 d2 B3 d3 ∧ cnt x ≤ Rows.uptoBulk elems[i].1 := by
        intro i hi
        have h1 := hel i (by omega)
        rw [List.getElem?_eq_getElem hi] at h1
        obtain ⟨cs', h2, h4⟩ := Option.bind_eq_some_iff.1 h1
        obtain ⟨x, B2, d2, B3, d3, rfl, hx, hc⟩ := ih n' (by omega) cs' elems[i] h4 (hbe _ (List.getElem_mem hi))
        exact ⟨x, B2, d2, B3, d3, h2, hx, hc⟩
      have rows : ∀ k, k ≤ elems.length → ∃ ys : List X, ys.length = k ∧ cntL ys ≤ Rows.uptoBulkAll ((elems.take k).map (fun x => x.1)) ∧ ∀ i, ∀ hi : i < ys.length, ∃ B2 d2 B3 d3, w.cells? base (a.add (i * 4)) 4 = some [.int .u8 ys[i].f0, .string ys[i].f1, .slice B2 ys[i].f2.length d2, .slice B3 ys[i].f3.length d3] ∧ Has w ys[i] B2 d2 B3 d3 := by
        intro k
        induction k with
        | zero => intro _; exact ⟨[], rfl, by rw [cntL_nil]; exact Nat.zero_le _, fun i hi => by simp at hi⟩
        | succ k ihk =>
          intro hk
          obtain ⟨ys, hyl, hyc, hy⟩ := ihk (by omega)
          obtain ⟨x, B2, d2, B3, d3, hx1, hx2, hx3⟩ := each k (by omega)
          refine ⟨ys ++ [x], by simp [hyl], ?_, ?_⟩
          · rw [List.take_add_one, List.getElem?_eq_getElem (by omega), List.map_append, cntL_app, bulk_app]
            rw [cntL_cons, cntL_nil]
            show _ ≤ _ + Rows.uptoBulkAll [elems[k].1]
            rw [bulk_cons, bulk_nil]
            omega
          · intro i hi
            rw [List.length_append] at hi
            simp only [List.length_cons, List.length_nil] at hi
            by_cases hik : i < ys.length
            · rw [List.getElem_append_left hik]
              exact hy i hik
            · obtain rfl : i = ys.length := by omega
              rw [List.getElem_concat_length rfl]
              rw [hyl]
              exact ⟨B2, d2, B3, d3, hx1, hx2⟩
      obtain ⟨ys, hyl, hyc, hy⟩ := rows elems.length (Nat.le_refl _)
      rw [List.take_length] at hyc
      have hyl' : ys.length = len := by omega
      subst hyl'
      refine ⟨⟨o, s, ns, ys⟩, A2, c2, some a, cap, rfl, ⟨(Wf_eq _).2 ⟨hop, hss, hb2, WfL_of (fun z hz => ?_)⟩, hl2, hC2, hl, ?_⟩, ?_⟩
      · obtain ⟨i, hi, rfl⟩ := List.getElem_of_mem hz
        obtain ⟨B2, d2, B3, d3, _, hx⟩ := hy i hi
        exact hx.wf
      · refine ⟨rfl, by show ys.length ≤ 9223372036854775807; unfold maxLen at hm; omega, fun _ => ⟨a, rfl, ?_⟩⟩
        intro j p hj
        obtain ⟨hjl, rfl⟩ := List.getElem?_eq_some_iff.1 hj
        obtain ⟨B2, d2, B3, d3, hc, hx⟩ := hy j hjl
        refine ⟨_, rfl, k25_mk w ys[j] hx.l2 hx.C2 hx.l3 hx.C3, ?_⟩
        intro i u hu
        obtain ⟨_, hl4, hcell⟩ := World.cells?_some hc
        have hi : i < 4 := by
          have := (List.getElem?_eq_some_iff.1 hu).1
          simpa using this
        have h5 := hcell i hi
        rw [hu] at h5
        have h6 : (a.add (j * 4)).add i = a.add (j * 4 + i) := by first | exact Addr.add_add a _ _ | exact Go.Addr.add_add a _ _ | (unfold Addr.add; repeat' split <;> simp_all <;> omega)
        rw [h6] at h5
        exact h5
      · rw [cnt_eq]
        show 1 + cntL ys ≤ _
        have h2 := hbl.2.2
        rw [bulk_slice] at h2
        exact Nat.le_trans (by omega) h2
end
end Go.Proofs.YtcinojbfjiohjaaGreatDoor.Ex
end

section
namespace Go.Proofs.YtcinojbfjiohjaaGreatDoor.Pr
open Go Go.RowKit
abbrev Cal (w : World) : Prop := PCal w ∧ Lx.LCal w
end Go.Proofs.YtcinojbfjiohjaaGreatDoor.Pr
namespace Go.Proofs.YtcinojbfjiohjaaGreatDoor.PlLaid
open Go Go.ChangeShapes Go.WideShapes Go.ChangeAt Go.RowKit
set_option linter.unusedVariables false
theorem own : ownKnob Tryz.prog.godebug = none := by kernel_rfl
abbrev laidL : List (String × DataW Unit) := [("math/bits.deBruijn32tab", Rows.laid_math_bits_deBruijn32tab), ("math/bits.deBruijn64tab", Rows.laid_math_bits_deBruijn64tab), ("internal/strconv.uint64pow10", Rows.laid_internal_strconv_uint64pow10), ("unicode/utf8.acceptRanges", Rows.laid_unicode_utf8_acceptRanges), ("epact/civil.ahead", Rows.laid_epact_civil_ahead), ("strconv.ErrRange", Rows.laid_strconv_ErrRange), ("strconv.ErrSyntax", Rows.laid_strconv_ErrSyntax), ("unicode.White_Space", Rows.laid_unicode_White_Space), ("strings.asciiSpace", Rows.laid_strings_asciiSpace), ("unicode/utf8.first", Rows.laid_unicode_utf8_first)]
theorem gAhead : Tryz.prog.globalNamed "epact/civil.ahead" = some 4 := by kernel_rfl
theorem tAhead : (Tryz.prog.globals[4]?).map (·.type) = some 251 := by kernel_rfl
theorem gPow : Tryz.prog.globalNamed "internal/strconv.uint64pow10" = some 3 := by kernel_rfl
theorem tPow : (Tryz.prog.globals[3]?).map (·.type) = some 245 := by kernel_rfl
theorem cellsI : Tryz.prog.cellsOf 3 = 1 := by kernel_rfl
theorem gSpace : Tryz.prog.globalNamed "strings.asciiSpace" = some 0 := by kernel_rfl
theorem tSpace : (Tryz.prog.globals[0]?).map (·.type) = some 178 := by kernel_rfl
theorem gES : Tryz.prog.globalNamed "strconv.ErrSyntax" = some 5 := by kernel_rfl
theorem tES : (Tryz.prog.globals[5]?).map (·.type) = some 90 := by kernel_rfl
theorem gER : Tryz.prog.globalNamed "strconv.ErrRange" = some 6 := by kernel_rfl
theorem tER : (Tryz.prog.globals[6]?).map (·.type) = some 90 := by kernel_rfl
theorem star : "*" ++ "errors.errorString" = "*errors.errorString" := by decide
theorem rowP (u : TypeId) (h : Tryz.prog.typeName? 3 u = some "*errors.errorString") : u = 265 :=
  typeName_ptr_named (nm := "errors.errorString") (by rw [star]; kernel_rfl) (by kernel_rfl) (by decide) u (by rw [star]; exact h)
theorem cellsE : Tryz.prog.cellsOf 267 = 1 := by kernel_rfl
theorem cellsS : Tryz.prog.cellsOf 9 = 1 := by kernel_rfl
set_option maxRecDepth 100000 in
theorem door_met (os : Os) (args : Array Value) : laidMetH Tryz.prog laidL ((World.laidAll Tryz.prog os laidL).forCall (fun _ _ => 0) ⟨#[], args, []⟩).memory := by
  rw [MakeChecks.laidMetH_plain _ _ _ (by kernel_rfl)]
  exact laidMet_laidAll _ (by kernel_rfl) (by kernel_rfl)
theorem powData : (Rows.laid_internal_strconv_uint64pow10 : DataW Unit) = Lib.tabData .u64 Lib.pow10Tab := by kernel_rfl
theorem spaceData : (Rows.laid_strings_asciiSpace : DataW Unit) = Lib.tabData .u8 Lib.asciiSpaceTab := by kernel_rfl
theorem civ_of {W : World} (h : laidMetH Tryz.prog laidL W) (hs : W.ShapedOpen Tryz.prog) : Civ.Cal W := by
  rw [MakeChecks.laidMetH_plain _ _ _ (by kernel_rfl)] at h
  obtain ⟨ps, hv, _⟩ := h
  obtain ⟨_, _, _, _, _, q1, _, _, _, _, hv, _⟩ := hv
  obtain ⟨_, _, _, _, _, q2, _, _, _, _, hv, _⟩ := hv
  obtain ⟨g3, t3, cs3, f3, p3, q3, hg3, ht3, hv3, hd3, hv, _⟩ := hv
  obtain ⟨_, _, _, _, _, q4, _, _, _, _, hv, _⟩ := hv
  obtain ⟨g0, t0, cs0, f0, p0, q5, hg0, ht0, hv0, hd0, _, _⟩ := hv
  refine ⟨?_, ?_, ?_⟩
  · obtain rfl := Option.some.inj (gAhead.symm.trans hg0)
    obtain rfl := Option.some.inj (tAhead.symm.trans ht0)
    obtain ⟨xs, m1, rfl, hx1, hlen, hn3, hel⟩ := DataW.trod_array Tryz.underlying251 hd0
    rw [cellsI] at hel
    have hm : xs.map (·.1) = [.lit (.int .i64 0), .lit (.int .i64 31), .lit (.int .i64 59), .lit (.int .i64 90), .lit (.int .i64 120), .lit (.int .i64 151), .lit (.int .i64 181), .lit (.int .i64 212), .lit (.int .i64 243), .lit (.int .i64 273), .lit (.int .i64 304), .lit (.int .i64 334), .lit (.int .i64 365)] := by
      have h1 := (Prod.mk.inj hx1).1
      exact (DataW.agg.inj h1).symm
    refine ⟨fun i hi => ?_⟩
    rw [World.var?_cell hg0 hv0 i]
    have hd : (xs.map (·.1))[i]? = some (.lit (.int .i64 (Civ.tab i))) := by
      rw [hm]
      rcases (show i = 0 ∨ i = 1 ∨ i = 2 ∨ i = 3 ∨ i = 4 ∨ i = 5 ∨ i = 6 ∨ i = 7 ∨ i = 8 ∨ i = 9 ∨ i = 10 ∨ i = 11 ∨ i = 12 by omega) with rfl | rfl | rfl | rfl | rfl | rfl | rfl | rfl | rfl | rfl | rfl | rfl | rfl <;> rfl
    rw [List.getElem?_map, Option.map_eq_some_iff] at hd
    obtain ⟨x, hx, hx'⟩ := hd
    have he := (hel i hi).trans hx
    obtain ⟨k, e1, e2, _⟩ := DataW.trod_int Tryz.underlying3 he
    rw [e2] at hx'
    obtain rfl : k = Civ.tab i := by simpa using hx'
    rw [Nat.mul_one] at e1
    have h3 : (cs0.toList.drop i)[0]? = some (.int .i64 (Civ.tab i)) := by
      cases hl : cs0.toList.drop i with
      | nil => rw [hl] at e1; cases e1
      | cons c cs =>
        rw [hl] at e1
        simp at e1
        simp [e1]
    rw [List.getElem?_drop] at h3
    simpa using h3
  · obtain rfl := Option.some.inj (gPow.symm.trans hg3)
    obtain rfl := Option.some.inj (tPow.symm.trans ht3)
    unfold Lib.TabIs
    rw [powData] at hd3
    rw [hv3, ← Lib.cells_of_tab Tryz.underlying245 Tryz.underlying163 (by kernel_rfl) (by kernel_rfl) hd3]
  · exact cell_of_shapedOpen_int (P := Tryz.prog) (g := 1) (t := 3) (zero := #[.int .i64 0]) hs (of_decide_eq_true (by kernel_rfl)) (by kernel_rfl) rfl (by kernel_rfl) (by kernel_rfl) Tryz.underlying3
set_option maxRecDepth 100000 in
theorem cal_of {W : World} (h : laidMetH Tryz.prog laidL W) (hs : W.ShapedOpen Tryz.prog) : Pr.Cal W := by
  have hd := civ_of h hs
  rw [MakeChecks.laidMetH_plain _ _ _ (by kernel_rfl)] at h
  have h5 := h.tail.tail.tail.tail.tail
  obtain ⟨a1, s1, hv1, _⟩ := laid_sentinel h5 gER tER Tryz.underlying90 rowP Tryz.underlying265 Tryz.underlying267 rfl rfl Tryz.underlying9 cellsE cellsS
  obtain ⟨a2, s2, hv2, _⟩ := laid_sentinel h5.tail gES tES Tryz.underlying90 rowP Tryz.underlying265 Tryz.underlying267 rfl rfl Tryz.underlying9 cellsE cellsS
  have hL : Lx.LCal W := ⟨hd, ⟨_, _, by simpa using World.var?_cell gES hv2 0⟩, ⟨_, _, by simpa using World.var?_cell gER hv1 0⟩⟩
  obtain ⟨ps6, hw6, _⟩ := h5.tail.tail.tail
  obtain ⟨g6, t6, cs6, f6, p6, q6, hg6, ht6, hv6, hd6, _, _⟩ := hw6
  obtain ⟨ps3, hw3, _⟩ := h.tail.tail
  obtain ⟨g3, t3, cs3, f3, p3, q3, hg3, ht3, hv3, hd3, _, _⟩ := hw3
  refine ⟨⟨⟨?_, ?_⟩, ?_⟩, hL⟩
  · obtain rfl := Option.some.inj (gSpace.symm.trans hg6)
    obtain rfl := Option.some.inj (tSpace.symm.trans ht6)
    unfold Lib.TabIs
    rw [spaceData] at hd6
    rw [hv6, ← Lib.cells_of_tab Tryz.underlying178 Tryz.underlying5 (by kernel_rfl) (by kernel_rfl) hd6]
  · exact cell_of_shapedOpen_int (P := Tryz.prog) (g := 1) (t := 3) (zero := #[.int .i64 0]) hs (of_decide_eq_true (by kernel_rfl)) (by kernel_rfl) rfl (by kernel_rfl) (by kernel_rfl) Tryz.underlying3
  · obtain rfl := Option.some.inj (gPow.symm.trans hg3)
    obtain rfl := Option.some.inj (tPow.symm.trans ht3)
    unfold Lib.TabIs
    rw [powData] at hd3
    rw [hv3, ← Lib.cells_of_tab Tryz.underlying245 Tryz.underlying163 (by kernel_rfl) (by kernel_rfl) hd3]
end Go.Proofs.YtcinojbfjiohjaaGreatDoor.PlLaid
end

section
namespace Go.Proofs.YtcinojbfjiohjaaGreatDoor.Pr
open Go Go.RowKit Go.ChangeShapes Go.WideShapes Go.ChangeAt Go.Proofs.YtcinojbfjiohjaaGreatDoor.PPrintTells Go.Proofs.YtcinojbfjiohjaaGreatDoor.Ex Go.Proofs.YtcinojbfjiohjaaGreatDoorW.PrintWords Go.Proofs.YtcinojbfjiohjaaGreatDoorW.PrintLast Go.Proofs.YtcinojbfjiohjaaGreatDoorW.PrintMore
set_option linter.unusedVariables false
set_option linter.unusedSimpArgs false
theorem cells_cmd : Tryz.prog.cellsOf 42 = 11 := by kernel_rfl
theorem cells_range : Tryz.prog.cellsOf 40 = 4 := by kernel_rfl
theorem cells_bool : Tryz.prog.cellsOf 4 = 1 := by kernel_rfl
theorem cells_strs : Tryz.prog.cellsOf 38 = 1 := by kernel_rfl
theorem bulk_lits {H : Type} (zs : List Int) (k : IntKind) : Rows.uptoBulkAll (lits k zs : List (DataW H)) = zs.length := by
  induction zs with
  | nil => rfl
  | cons z zs ih =>
    show Rows.uptoBulkAll (DataW.lit (Lit.int k z) :: lits k zs) = _
    rw [bulk_cons, ih, List.length_cons, Rows.uptoBulk]
    · omega
    · intro b h; cases h
section
variable {H : Type} {enc : TypeId × Value → H} {w : World} {base : Nat}
theorem nums_bulk {fuel : Nat} {A : Option Addr} {n c : Nat} {y : DataW H × List MemPlace} (h : DataW.trod enc Tryz.prog w base (fun _ => true) true fuel 22 [.slice A n c] = some y) : n ≤ Rows.uptoBulk y.1 := by
  rcases open_ints Tryz.underlying22 Tryz.underlying2 cells_int64 h with ⟨h1, rfl⟩ | ⟨a, len, cap, zs, h1, hb, hl, hm, hz, rfl, hc, hw⟩
  · have h1 := List.head_eq_of_cons_eq h1
    injection h1 with h1 h2 h3
    subst h2
    exact Nat.zero_le _
  · have h1 := List.head_eq_of_cons_eq h1
    injection h1 with h1 h2 h3
    subst h2
    have hz' : zs.length = cap := by simpa using hz
    show n ≤ Rows.uptoBulk (.slice (lits .i64 (zs.take n)) (lits .i64 (zs.drop n)))
    rw [bulk_slice, bulk_lits, List.length_take]
    omega
set_option maxRecDepth 100000 in
theorem expr_nums {fuel : Nat} {o : Int} {s : ByteArray} {A2 : Option Addr} {n2 c2 : Nat} {v3 : Value} {y : DataW H × List MemPlace} (h : DataW.trod enc Tryz.prog w base (fun _ => true) true fuel 25 [.int .u8 o, .string s, .slice A2 n2 c2, v3] = some y) : n2 ≤ Rows.uptoBulk y.1 := by
  obtain ⟨xs, n, rfl, rfl, hlen, hsz, hall⟩ := DataW.trod_struct Tryz.underlying25 h
  match xs, hsz with
  | [y0, y1, y2, y3], _ =>
  have e2 : DataW.trod enc Tryz.prog w base (fun _ => true) true n 22 (([Value.int .u8 o, .string s, .slice A2 n2 c2, v3].drop 2).take (Tryz.prog.cellsOf 22)) = some y2 := hall 2 _ rfl
  rw [cells_nums] at e2
  have := nums_bulk e2
  show n2 ≤ Rows.uptoBulk (DataW.agg [y0.1, y1.1, y2.1, y3.1])
  rw [bulk_agg, bulk_cons, bulk_cons, bulk_cons]
  omega
theorem strs_mem {ss : List ByteArray} {s : ByteArray} (h : s ∈ ss) : s.data.toList.length + 1 ≤ Rows.uptoBulkAll (strs ss : List (DataW H)) := by
  have h1 : (DataW.lit (Lit.string s.data.toList) : DataW H) ∈ (strs ss : List (DataW H)) := List.mem_map_of_mem (f := fun s : ByteArray => (DataW.lit (Lit.string s.data.toList) : DataW H)) h
  have h2 := bulk_mem h1
  rw [bulk_string] at h2
  exact h2
theorem names_of_trod {fuel : Nat} {cs : List Value} {y : DataW H × List MemPlace} (h : DataW.trod enc Tryz.prog w base (fun _ => true) true fuel 38 cs = some y) (hb : Rows.uptoBulk y.1 ≤ 1048576) :
    ∃ A c, ∃ ss : List ByteArray, cs = [.slice A ss.length c] ∧ ss.length ≤ c ∧ kS.C w A ss.length ss ∧ ∀ s ∈ ss, s.size ≤ 140737488351232 := by
  rcases open_strings Tryz.underlying38 Tryz.underlying9 cells_str h with ⟨rfl, rfl⟩ | ⟨a, len, cap, zs, rfl, hb0, hl, hm, hz, rfl, hc, hw⟩
  · exact ⟨none, 0, [], rfl, Nat.le_refl _, Kd.C_nil _ _, fun _ h => by cases h⟩
  · have hz' : zs.length = cap := by simpa using hz
    have hlen : (zs.take len).length = len := by rw [List.length_take]; omega
    refine ⟨some a, cap, zs.take len, by rw [hlen], by omega, ?_, fun s hs => ?_⟩
    · rw [hlen]
      refine ⟨hlen, by unfold maxLen at hm; omega, fun _ => ⟨a, rfl, ?_⟩⟩
      intro j p hj
      obtain ⟨hjl, rfl⟩ := List.getElem?_eq_some_iff.1 hj
      refine ⟨[.string (zs.take len)[j]], rfl, rfl, ?_⟩
      intro i u hu
      match i, hu with
      | 0, hu =>
        cases hu
        have h1 := hc j (by omega)
        rw [List.getD_eq_getElem?_getD, List.getElem?_eq_getElem (by omega)] at h1
        rw [List.getElem_take]
        rw [show j * kS.sz + 0 = j by show j * 1 + 0 = j; omega]
        exact h1
    · have h1 := strs_mem (H := H) hs
      rw [bulk_slice] at hb
      have h2 : s.size = s.data.toList.length := by simp
      omega
set_option maxRecDepth 100000 in
theorem cmd_of_trod {fuel : Nat} {cs : List Value} {y : DataW H × List MemPlace} (h : DataW.trod enc Tryz.prog w base (fun _ => true) true fuel 42 cs = some y) (hbulk : Rows.uptoBulk y.1 ≤ 1048576) :
    ∃ a : Cmd, ∃ A1 c1 A2 c2 A3 c3 A4 c4, cs = [.string a.wd, .slice A1 a.names.length c1, .slice A2 a.nums.length c2, .int .i64 a.lo, .int .i64 a.hi, .bool a.hl, .bool a.hh, .int .u8 a.x.f0, .string a.x.f1, .slice A3 a.x.f2.length c3, .slice A4 a.x.f3.length c4] ∧
      HasC w a A1 c1 A2 c2 A3 c3 A4 c4 ∧ cnt a.x ≤ Rows.uptoBulk y.1 ∧ a.x.f2.length ≤ 1048576 ∧ a.wd.size ≤ 1048576 := by
  obtain ⟨xs, n, rfl, rfl, hlen, hsz, hall⟩ := DataW.trod_struct Tryz.underlying42 h
  rw [cells_cmd] at hlen
  match cs, hlen with
  | [v0, v1, v2, v3, v4, v5, v6, v7, v8, v9, v10], _ =>
  match xs, hsz with
  | [y0, y1, y2, y3, y4], _ =>
  have e0 : DataW.trod enc Tryz.prog w base (fun _ => true) true n 9 (([v0, v1, v2, v3, v4, v5, v6, v7, v8, v9, v10].drop 0).take (Tryz.prog.cellsOf 9)) = some y0 := hall 0 _ rfl
  have e1 : DataW.trod enc Tryz.prog w base (fun _ => true) true n 38 (([v0, v1, v2, v3, v4, v5, v6, v7, v8, v9, v10].drop 1).take (Tryz.prog.cellsOf 38)) = some y1 := hall 1 _ rfl
  have e2 : DataW.trod enc Tryz.prog w base (fun _ => true) true n 22 (([v0, v1, v2, v3, v4, v5, v6, v7, v8, v9, v10].drop 2).take (Tryz.prog.cellsOf 22)) = some y2 := hall 2 _ rfl
  have e3 : DataW.trod enc Tryz.prog w base (fun _ => true) true n 40 (([v0, v1, v2, v3, v4, v5, v6, v7, v8, v9, v10].drop 3).take (Tryz.prog.cellsOf 40)) = some y3 := hall 3 _ rfl
  have e4 : DataW.trod enc Tryz.prog w base (fun _ => true) true n 25 (([v0, v1, v2, v3, v4, v5, v6, v7, v8, v9, v10].drop 7).take (Tryz.prog.cellsOf 25)) = some y4 := hall 4 _ rfl
  rw [cells_str] at e0
  rw [cells_strs] at e1
  rw [cells_nums] at e2
  rw [cells_range] at e3
  rw [cells_expr] at e4
  have hB : Rows.uptoBulk y0.1 + Rows.uptoBulk y1.1 + Rows.uptoBulk y4.1 ≤ Rows.uptoBulk (DataW.agg (List.map (fun x => x.1) [y0, y1, y2, y3, y4])) := by
    simp only [List.map_cons, List.map_nil, bulk_agg, bulk_cons, bulk_nil]
    omega
  have hB2 : Rows.uptoBulk (DataW.agg (List.map (fun x => x.1) [y0, y1, y2, y3, y4])) ≤ 1048576 := hbulk
  obtain ⟨s, h1, rfl, hs⟩ := DataW.trod_string Tryz.underlying9 e0
  obtain rfl : v0 = .string s := by simpa using h1
  obtain ⟨A1, c1, NS, h2, hl1, hC1, hz1⟩ := names_of_trod e1 (by omega)
  obtain rfl : v1 = .slice A1 NS.length c1 := by simpa using h2
  obtain ⟨A2, c2, ns, h3, hl2, hC2, hz2⟩ := nums_of_trod e2
  obtain rfl : v2 = .slice A2 ns.length c2 := by simpa using h3
  obtain ⟨x, A3, c3, A4, c4, h4, hx, hcx⟩ := has_of_trod n n (Nat.le_refl _) _ _ e4 (by omega)
  have h4 : [v7, v8, v9, v10] = [Value.int .u8 x.f0, .string x.f1, .slice A3 x.f2.length c3, .slice A4 x.f3.length c4] := h4
  injection h4 with q7 h4
  injection h4 with q8 h4
  injection h4 with q9 h4
  injection h4 with q10 h4
  subst q7 q8 q9 q10
  have hx2 := expr_nums (show DataW.trod enc Tryz.prog w base (fun _ => true) true n 25 [.int .u8 x.f0, .string x.f1, .slice A3 x.f2.length c3, .slice A4 x.f3.length c4] = some y4 from e4)
  obtain ⟨zs, m, _, _, hlen3, hsz3, hall3⟩ := DataW.trod_struct Tryz.underlying40 e3
  match zs, hsz3 with
  | [z0, z1, z2, z3], _ =>
  have r0 : DataW.trod enc Tryz.prog w base (fun _ => true) true m 2 (([v3, v4, v5, v6].drop 0).take (Tryz.prog.cellsOf 2)) = some z0 := hall3 0 _ rfl
  have r1 : DataW.trod enc Tryz.prog w base (fun _ => true) true m 2 (([v3, v4, v5, v6].drop 1).take (Tryz.prog.cellsOf 2)) = some z1 := hall3 1 _ rfl
  have r2 : DataW.trod enc Tryz.prog w base (fun _ => true) true m 4 (([v3, v4, v5, v6].drop 2).take (Tryz.prog.cellsOf 4)) = some z2 := hall3 2 _ rfl
  have r3 : DataW.trod enc Tryz.prog w base (fun _ => true) true m 4 (([v3, v4, v5, v6].drop 3).take (Tryz.prog.cellsOf 4)) = some z3 := hall3 3 _ rfl
  rw [cells_int64] at r0 r1
  rw [cells_bool] at r2 r3
  obtain ⟨lo, k0, rfl, hw0⟩ := DataW.trod_int Tryz.underlying2 r0
  obtain ⟨hg, k1, rfl, hw1⟩ := DataW.trod_int Tryz.underlying2 r1
  obtain ⟨hl, k2, rfl⟩ := DataW.trod_bool Tryz.underlying4 r2
  obtain ⟨hh, k3, rfl⟩ := DataW.trod_bool Tryz.underlying4 r3
  obtain rfl : v3 = .int .i64 lo := by simpa using k0
  obtain rfl : v4 = .int .i64 hg := by simpa using k1
  obtain rfl : v5 = .bool hl := by simpa using k2
  obtain rfl : v6 = .bool hh := by simpa using k3
  rw [bulk_string] at hB
  have hss : s.size = s.data.toList.length := by simp
  exact ⟨⟨s, NS, ns, lo, hg, hl, hh, x⟩, A1, c1, A2, c2, A3, c3, A4, c4, rfl, ⟨hl1, hC1, hl2, hC2, hx, hz1, hz2, bounds_i64 hw0, bounds_i64 hw1⟩, by show cnt x ≤ Rows.uptoBulk (DataW.agg (List.map (fun x => x.1) [(DataW.lit (Lit.string s.data.toList), []), y1, y2, y3, y4])); exact Nat.le_trans hcx (by omega), by show x.f2.length ≤ _; omega, by show s.size ≤ _; omega⟩
end
end Go.Proofs.YtcinojbfjiohjaaGreatDoor.Pr
end
