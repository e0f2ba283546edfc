/-
  Part 7 of what the row stands on, put together by a program: PPr14, PtP, ExprT, PtQ, PtS, PtR0, PtR, PtC, PtW, Has, PrLaid, CmdH.
-/
import Derived.LaidMore
import Derived.Lay
import Derived.OpenShut
import Derived.ProofKit
import Derived.Shelf.Vars
import Derived.SliceStrings
import Derived.Stop.Joined
import Derived.Test.YtcinojbfjiohjaaGreatDoorRows
import Derived.Test.YtcinojbfjiohjaaGreatDoorPqF
section
namespace Go.Proofs.YtcinojbfjiohjaaGreatDoor.PPrintTells
open Go.RowKit Go.Proofs.YtcinojbfjiohjaaGreatDoorW.PrintWords Go.Proofs.YtcinojbfjiohjaaGreatDoorW.PrintLast Go.Proofs.YtcinojbfjiohjaaGreatDoorW.PrintMore
attribute [local go_sem] max2_int min2_int max_two min_two max_three min_three max_four min_four   -- for this text's walks alone
set_option linter.unusedVariables false
set_option linter.unusedSimpArgs false
def epactref12_Command.l0 : Nat → ByteArray → ByteArray → Int → Int → Int → ByteArray → List ByteArray → List Int → Int → Int → Bool → Bool → Int → ByteArray → List Int → List (S25) → Option (ByteArray × Int)
  | 0, _, _, _, _, _, _, _, _, _, _, _, _, _, _, _, _ => none
  | k + 1, x4, x5, x7, x8, x9, x337000, x337001, x337002, x337003, x337004, x337005, x337006, x337007, x337008, x337009, x337010 => if x9 < (x5.size : Int) then (if x4.size + 1 ≤ 9223372036854775807 then (if 0 ≤ x9 then (if (bt x5 x9) = 110 then (if 0 ≤ x7 then (if x7 < (x337001.length : Int) then (if (x4 ++ (⟨#[32]⟩ : ByteArray)).size + (rdOf ByteArray.empty x337001 x7).size ≤ 9223372036854775807 then (epactref12_Command.l0 k ((x4 ++ (⟨#[32]⟩ : ByteArray)) ++ (rdOf ByteArray.empty x337001 x7)) x5 (wrap64 (x7 + 1)) x8 (wrap64 (x9 + 1)) x337000 x337001 x337002 x337003 x337004 x337005 x337006 x337007 x337008 x337009 x337010) else (none)) else (none)) else (none)) else (if (bt x5 x9) = 105 then (if 0 ≤ x8 then (if x8 < (x337002.length : Int) then ((epactref12_number.f k (rd x337002 x8)).bind fun t342 => (if (x4 ++ (⟨#[32]⟩ : ByteArray)).size + t342.size ≤ 9223372036854775807 then (epactref12_Command.l0 k ((x4 ++ (⟨#[32]⟩ : ByteArray)) ++ t342) x5 x7 (wrap64 (x8 + 1)) (wrap64 (x9 + 1)) x337000 x337001 x337002 x337003 x337004 x337005 x337006 x337007 x337008 x337009 x337010) else (none))) else (none)) else (none)) else (if (bt x5 x9) = 101 then ((epactref12_line.f k x337007 x337008 x337009 x337010).bind fun t343 => (if (x4 ++ (⟨#[32]⟩ : ByteArray)).size + t343.size ≤ 9223372036854775807 then (epactref12_Command.l0 k ((x4 ++ (⟨#[32]⟩ : ByteArray)) ++ t343) x5 x7 x8 (wrap64 (x9 + 1)) x337000 x337001 x337002 x337003 x337004 x337005 x337006 x337007 x337008 x337009 x337010) else (none))) else (if (bt x5 x9) = 61 then (if (x4 ++ (⟨#[32]⟩ : ByteArray)).size + 1 ≤ 9223372036854775807 then (epactref12_Command.l0 k ((x4 ++ (⟨#[32]⟩ : ByteArray)) ++ (⟨#[61]⟩ : ByteArray)) x5 x7 x8 (wrap64 (x9 + 1)) x337000 x337001 x337002 x337003 x337004 x337005 x337006 x337007 x337008 x337009 x337010) else (none)) else (if (x4 ++ (⟨#[32]⟩ : ByteArray)).size + 1 ≤ 9223372036854775807 then (if x337005 = true then ((epactref12_number.f k x337003).bind fun t344 => (if ((x4 ++ (⟨#[32]⟩ : ByteArray)) ++ (⟨#[91]⟩ : ByteArray)).size + t344.size ≤ 9223372036854775807 then (if (((x4 ++ (⟨#[32]⟩ : ByteArray)) ++ (⟨#[91]⟩ : ByteArray)) ++ t344).size + 1 ≤ 9223372036854775807 then (if x337006 = true then ((epactref12_number.f k x337004).bind fun t345 => (if ((((x4 ++ (⟨#[32]⟩ : ByteArray)) ++ (⟨#[91]⟩ : ByteArray)) ++ t344) ++ (⟨#[58]⟩ : ByteArray)).size + t345.size ≤ 9223372036854775807 then (if (((((x4 ++ (⟨#[32]⟩ : ByteArray)) ++ (⟨#[91]⟩ : ByteArray)) ++ t344) ++ (⟨#[58]⟩ : ByteArray)) ++ t345).size + 1 ≤ 9223372036854775807 then (epactref12_Command.l0 k ((((((x4 ++ (⟨#[32]⟩ : ByteArray)) ++ (⟨#[91]⟩ : ByteArray)) ++ t344) ++ (⟨#[58]⟩ : ByteArray)) ++ t345) ++ (⟨#[93]⟩ : ByteArray)) x5 x7 x8 (wrap64 (x9 + 1)) x337000 x337001 x337002 x337003 x337004 x337005 x337006 x337007 x337008 x337009 x337010) else (none)) else (none))) else (if ((((x4 ++ (⟨#[32]⟩ : ByteArray)) ++ (⟨#[91]⟩ : ByteArray)) ++ t344) ++ (⟨#[58]⟩ : ByteArray)).size + 1 ≤ 9223372036854775807 then (epactref12_Command.l0 k (((((x4 ++ (⟨#[32]⟩ : ByteArray)) ++ (⟨#[91]⟩ : ByteArray)) ++ t344) ++ (⟨#[58]⟩ : ByteArray)) ++ (⟨#[93]⟩ : ByteArray)) x5 x7 x8 (wrap64 (x9 + 1)) x337000 x337001 x337002 x337003 x337004 x337005 x337006 x337007 x337008 x337009 x337010) else (none))) else (none)) else (none))) else (if ((x4 ++ (⟨#[32]⟩ : ByteArray)) ++ (⟨#[91]⟩ : ByteArray)).size + 1 ≤ 9223372036854775807 then (if x337006 = true then ((epactref12_number.f k x337004).bind fun t346 => (if (((x4 ++ (⟨#[32]⟩ : ByteArray)) ++ (⟨#[91]⟩ : ByteArray)) ++ (⟨#[58]⟩ : ByteArray)).size + t346.size ≤ 9223372036854775807 then (if ((((x4 ++ (⟨#[32]⟩ : ByteArray)) ++ (⟨#[91]⟩ : ByteArray)) ++ (⟨#[58]⟩ : ByteArray)) ++ t346).size + 1 ≤ 9223372036854775807 then (epactref12_Command.l0 k (((((x4 ++ (⟨#[32]⟩ : ByteArray)) ++ (⟨#[91]⟩ : ByteArray)) ++ (⟨#[58]⟩ : ByteArray)) ++ t346) ++ (⟨#[93]⟩ : ByteArray)) x5 x7 x8 (wrap64 (x9 + 1)) x337000 x337001 x337002 x337003 x337004 x337005 x337006 x337007 x337008 x337009 x337010) else (none)) else (none))) else (if (((x4 ++ (⟨#[32]⟩ : ByteArray)) ++ (⟨#[91]⟩ : ByteArray)) ++ (⟨#[58]⟩ : ByteArray)).size + 1 ≤ 9223372036854775807 then (epactref12_Command.l0 k ((((x4 ++ (⟨#[32]⟩ : ByteArray)) ++ (⟨#[91]⟩ : ByteArray)) ++ (⟨#[58]⟩ : ByteArray)) ++ (⟨#[93]⟩ : ByteArray)) x5 x7 x8 (wrap64 (x9 + 1)) x337000 x337001 x337002 x337003 x337004 x337005 x337006 x337007 x337008 x337009 x337010) else (none))) else (none))) else (none)))))) else (none)) else (none)) else (some (x4, 0))
def epactref12_Command.f (k : Nat) (a0_0 : ByteArray) (l0_1 : List ByteArray) (l0_2 : List Int) (a0_3 : Int) (a0_4 : Int) (a0_5 : Bool) (a0_6 : Bool) (a0_7 : Int) (a0_8 : ByteArray) (l0_9 : List Int) (l0_10 : List (S25)) : Option (ByteArray × Int) := (epactref11_Right.f k a0_0 l0_1 l0_2 a0_3 a0_4 a0_5 a0_6 a0_7 a0_8 l0_9 l0_10).bind fun t337 => (if t337 = true then ((epactref11_Shape.f k a0_0).bind fun bt338 => (epactref12_Command.l0 k a0_0 bt338.1 0 0 0 a0_0 l0_1 l0_2 a0_3 a0_4 a0_5 a0_6 a0_7 a0_8 l0_9 l0_10)) else (some ((⟨#[]⟩ : ByteArray), 110)))
set_option maxHeartbeats 8000000 in
set_option maxRecDepth 100000 in
theorem epactref12_Command.calls (k : Nat) (a0_0 : ByteArray) (A0_1 : Option Addr) (c0_1 : Nat) (l0_1 : List ByteArray) (A0_2 : Option Addr) (c0_2 : Nat) (l0_2 : List Int) (a0_3 : Int) (a0_4 : Int) (a0_5 : Bool) (a0_6 : Bool) (a0_7 : Int) (a0_8 : ByteArray) (A0_9 : Option Addr) (c0_9 : Nat) (l0_9 : List Int) (A0_10 : Option Addr) (c0_10 : Nat) (l0_10 : List (S25)) (r1 : ByteArray) (r2 : Int) (w : World) (hr0_1 : Kd.C Kd.string w A0_1 l0_1.length l0_1) (hc0_1 : l0_1.length ≤ c0_1) (hr0_2 : Kd.C (Kd.int .i64) w A0_2 l0_2.length l0_2) (hc0_2 : l0_2.length ≤ c0_2) (hr0_9 : Kd.C (Kd.int .i64) w A0_9 l0_9.length l0_9) (hc0_9 : l0_9.length ≤ c0_9) (hr0_10 : Kd.C k25 w A0_10 l0_10.length l0_10) (hc0_10 : l0_10.length ≤ c0_10) (h : epactref12_Command.f k a0_0 l0_1 l0_2 a0_3 a0_4 a0_5 a0_6 a0_7 a0_8 l0_9 l0_10 = some (r1, r2)) :
    Calls Tryz.prog 23 #[.agg #[.string a0_0, .slice A0_1 l0_1.length c0_1, .slice A0_2 l0_2.length c0_2, .int .i64 a0_3, .int .i64 a0_4, .bool a0_5, .bool a0_6, .int .u8 a0_7, .string a0_8, .slice A0_9 l0_9.length c0_9, .slice A0_10 l0_10.length c0_10]] w fun e w' => e = .returned (.tuple #[.string r1, .int .i64 r2]) ∧ Below w.heap.size w w' := by
  have hu42 := Tryz.underlying42
  have hu25 := Tryz.underlying25
  have HR0_1 := Aside0.mk hr0_1
  have HC0_1 := Aside0.mk hc0_1
  clear hr0_1 hc0_1
  have HR0_2 := Aside0.mk hr0_2
  have HC0_2 := Aside0.mk hc0_2
  clear hr0_2 hc0_2
  have HR0_9 := Aside0.mk hr0_9
  have HC0_9 := Aside0.mk hc0_9
  clear hr0_9 hc0_9
  have HR0_10 := Aside0.mk hr0_10
  have HC0_10 := Aside0.mk hc0_10
  clear hr0_10 hc0_10
  have HB := Aside0.mk (Below.refl w.heap.size w)
  have H : ((epactref11_Right.f k a0_0 l0_1 l0_2 a0_3 a0_4 a0_5 a0_6 a0_7 a0_8 l0_9 l0_10).bind fun t337 => (if t337 = true then ((epactref11_Shape.f k a0_0).bind fun bt338 => (epactref12_Command.l0 k a0_0 bt338.1 0 0 0 a0_0 l0_1 l0_2 a0_3 a0_4 a0_5 a0_6 a0_7 a0_8 l0_9 l0_10)) else (some ((⟨#[]⟩ : ByteArray), 110)))) = some (r1, r2) := h
  clear h
  replace H := Option.bind_eq_some_iff.mp H
  obtain ⟨t337, A20, H⟩ := H
  replace H : (if t337 = true then ((epactref11_Shape.f k a0_0).bind fun bt338 => (epactref12_Command.l0 k a0_0 bt338.1 0 0 0 a0_0 l0_1 l0_2 a0_3 a0_4 a0_5 a0_6 a0_7 a0_8 l0_9 l0_10)) else (some ((⟨#[]⟩ : ByteArray), 110))) = some (r1, r2) := H
  have A2 := Aside0.mk A20
  clear A20
  by_cases c3 : t337 = true
  · subst c3
    have H1 : ((epactref11_Shape.f k a0_0).bind fun bt338 => (epactref12_Command.l0 k a0_0 bt338.1 0 0 0 a0_0 l0_1 l0_2 a0_3 a0_4 a0_5 a0_6 a0_7 a0_8 l0_9 l0_10)) = some (r1, r2) := by rw [if_pos rfl] at H; exact H
    clear H
    have H := H1
    clear H1
    replace H := Option.bind_eq_some_iff.mp H
    obtain ⟨⟨t338, t339⟩, A40, H⟩ := H
    replace H : (epactref12_Command.l0 k a0_0 t338 0 0 0 a0_0 l0_1 l0_2 a0_3 a0_4 a0_5 a0_6 a0_7 a0_8 l0_9 l0_10) = some (r1, r2) := H
    have A4 := Aside0.mk A40
    clear A40
    have H' := Aside0.mk H
    clear H
    go_enter Tryz.func23, Tryz.ntmps23
    go_wp2_with (first | ((with_reducible refine gate_dst (N := 1) rfl ?_); refine box_event ?hg (N := 1) ?hd (cs := #[.string a0_0, .slice A0_1 l0_1.length c0_1, .slice A0_2 l0_2.length c0_2, .int .i64 a0_3, .int .i64 a0_4, .bool a0_5, .bool a0_6, .int .u8 a0_7, .string a0_8, .slice A0_9 l0_9.length c0_9, .slice A0_10 l0_10.length c0_10]) (t := 42) ?hr ?_; (case hd => rfl); (case hg => rfl); (case hr => first | (go_simp; done) | (go_simp; rfl)); intro gb336 hg w5 hbox hb; have n0_ := Aside0.mk (below_step (by repeat (first | (with_reducible first | exact HB.out | apply below_alloc | apply pw_below_drewN | apply below_drew1) | exact HB.out)) hb); have n1_ := Aside0.mk (hbox); have n2_ := Aside0.mk ((by rw [hg]; exact (below_size (by repeat (first | (with_reducible first | exact HB.out | apply below_alloc | apply pw_below_drewN | apply below_drew1) | exact HB.out))) : w.heap.size ≤ gb336)); have n3_ := Aside0.mk ((by rw [hg]; exact (below_size (by repeat (first | (with_reducible first | exact HB.out | apply below_alloc | apply pw_below_drewN | apply below_drew1) | exact HB.out))) : w.heap.size ≤ gb336)); clear HB; have HB := n0_; have BK336 := n1_; have GW336 := n2_; have GE336 := n3_; clear n0_ n1_ n2_ n3_; clear hb hbox hg; have hcz6_0 : w5.cell? ⟨gb336, 0, none⟩ = some (.string a0_0) := (blk_cell BK336.out 0).trans rfl; have hcz6_1 : w5.cell? ⟨gb336, 1, none⟩ = some (.slice A0_1 l0_1.length c0_1) := (blk_cell BK336.out 1).trans rfl; have hcz6_2 : w5.cell? ⟨gb336, 2, none⟩ = some (.slice A0_2 l0_2.length c0_2) := (blk_cell BK336.out 2).trans rfl; have hcz6_3 : w5.cell? ⟨gb336, 3, none⟩ = some (.int .i64 a0_3) := (blk_cell BK336.out 3).trans rfl; have hcz6_4 : w5.cell? ⟨gb336, 4, none⟩ = some (.int .i64 a0_4) := (blk_cell BK336.out 4).trans rfl; have hcz6_5 : w5.cell? ⟨gb336, 5, none⟩ = some (.bool a0_5) := (blk_cell BK336.out 5).trans rfl; have hcz6_6 : w5.cell? ⟨gb336, 6, none⟩ = some (.bool a0_6) := (blk_cell BK336.out 6).trans rfl; have hcz6_7 : w5.cell? ⟨gb336, 7, none⟩ = some (.int .u8 a0_7) := (blk_cell BK336.out 7).trans rfl; have hcz6_8 : w5.cell? ⟨gb336, 8, none⟩ = some (.string a0_8) := (blk_cell BK336.out 8).trans rfl; have hcz6_9 : w5.cell? ⟨gb336, 9, none⟩ = some (.slice A0_9 l0_9.length c0_9) := (blk_cell BK336.out 9).trans rfl; have hcz6_10 : w5.cell? ⟨gb336, 10, none⟩ = some (.slice A0_10 l0_10.length c0_10) := (blk_cell BK336.out 10).trans rfl; have hfz6_0 := blk_frozen BK336.out 0; have hfz6_1 := blk_frozen BK336.out 1; have hfz6_2 := blk_frozen BK336.out 2; have hfz6_3 := blk_frozen BK336.out 3; have hfz6_4 := blk_frozen BK336.out 4; have hfz6_5 := blk_frozen BK336.out 5; have hfz6_6 := blk_frozen BK336.out 6; have hfz6_7 := blk_frozen BK336.out 7; have hfz6_8 := blk_frozen BK336.out 8; have hfz6_9 := blk_frozen BK336.out 9; have hfz6_10 := blk_frozen BK336.out 10) | ((with_reducible refine gate_callee (f := 24) rfl ?_); refine goesL_ (some 11) rfl rfl Tryz.func24 (by kernel_rfl) rfl #[.agg #[.string a0_0, .slice A0_1 l0_1.length c0_1, .slice A0_2 l0_2.length c0_2, .int .i64 a0_3, .int .i64 a0_4, .bool a0_5, .bool a0_6, .int .u8 a0_7, .string a0_8, .slice A0_9 l0_9.length c0_9, .slice A0_10 l0_10.length c0_10]] rfl (by (try simp only [List.map_toArray, List.map_cons, List.map_nil]); first | done | rfl | (simp only [List.length_drop, List.length_take]; rfl)) ?_; (with_reducible refine (epactref11_Right.calls k a0_0 _ _ l0_1 _ _ l0_2 a0_3 a0_4 a0_5 a0_6 a0_7 a0_8 _ _ l0_9 _ _ l0_10 true _ ?side1 ?side2 ?side3 ?side4 ?side5 ?side6 ?side7 ?side8 A2.out).mono ?_); (case side1 => repeat (first | exact (Kd.C_below HR0_1.out HB.out) | (with_reducible refine Kd.C_alloc ?_ _) | (with_reducible refine Kd.C_drewN ?_ _) | (with_reducible refine Kd.C_drew ?_))); (case side2 => exact HC0_1.out); (case side3 => repeat (first | exact (Kd.C_below HR0_2.out HB.out) | (with_reducible refine Kd.C_alloc ?_ _) | (with_reducible refine Kd.C_drewN ?_ _) | (with_reducible refine Kd.C_drew ?_))); (case side4 => exact HC0_2.out); (case side5 => repeat (first | exact (Kd.C_below HR0_9.out HB.out) | (with_reducible refine Kd.C_alloc ?_ _) | (with_reducible refine Kd.C_drewN ?_ _) | (with_reducible refine Kd.C_drew ?_))); (case side6 => exact HC0_9.out); (case side7 => repeat (first | exact (Kd.C_below HR0_10.out HB.out) | (with_reducible refine Kd.C_alloc ?_ _) | (with_reducible refine Kd.C_drewN ?_ _) | (with_reducible refine Kd.C_drew ?_))); (case side8 => exact HC0_10.out); rintro e w7 ⟨rfl, hb⟩; refine ⟨_, rfl, ?_⟩; have n0_ := Aside0.mk (blk_below (g := gb336) (o := .cells #[.string a0_0, .slice A0_1 l0_1.length c0_1, .slice A0_2 l0_2.length c0_2, .int .i64 a0_3, .int .i64 a0_4, .bool a0_5, .bool a0_6, .int .u8 a0_7, .string a0_8, .slice A0_9 l0_9.length c0_9, .slice A0_10 l0_10.length c0_10] 42 (0, 0)) (by (with_reducible repeat (first | refine blk_drewN ?_ _ | refine blk_drew ?_ | refine blk_alloc ?_ _)); exact BK336.out) hb); have n1_ := Aside0.mk (below_step (by repeat (first | (with_reducible first | exact HB.out | apply below_alloc | apply pw_below_drewN | apply below_drew1 | refine below_set ?_ GE336.out) | exact HB.out)) hb); clear BK336; clear HB; have BK336 := n0_; have HB := n1_; clear n0_ n1_; (try clear hb); (try clear hb2); (try clear hk); (try clear hi); have hcz8_0 : w7.cell? ⟨gb336, 0, none⟩ = some (.string a0_0) := (blk_cell BK336.out 0).trans rfl; have hcz8_1 : w7.cell? ⟨gb336, 1, none⟩ = some (.slice A0_1 l0_1.length c0_1) := (blk_cell BK336.out 1).trans rfl; have hcz8_2 : w7.cell? ⟨gb336, 2, none⟩ = some (.slice A0_2 l0_2.length c0_2) := (blk_cell BK336.out 2).trans rfl; have hcz8_3 : w7.cell? ⟨gb336, 3, none⟩ = some (.int .i64 a0_3) := (blk_cell BK336.out 3).trans rfl; have hcz8_4 : w7.cell? ⟨gb336, 4, none⟩ = some (.int .i64 a0_4) := (blk_cell BK336.out 4).trans rfl; have hcz8_5 : w7.cell? ⟨gb336, 5, none⟩ = some (.bool a0_5) := (blk_cell BK336.out 5).trans rfl; have hcz8_6 : w7.cell? ⟨gb336, 6, none⟩ = some (.bool a0_6) := (blk_cell BK336.out 6).trans rfl; have hcz8_7 : w7.cell? ⟨gb336, 7, none⟩ = some (.int .u8 a0_7) := (blk_cell BK336.out 7).trans rfl; have hcz8_8 : w7.cell? ⟨gb336, 8, none⟩ = some (.string a0_8) := (blk_cell BK336.out 8).trans rfl; have hcz8_9 : w7.cell? ⟨gb336, 9, none⟩ = some (.slice A0_9 l0_9.length c0_9) := (blk_cell BK336.out 9).trans rfl; have hcz8_10 : w7.cell? ⟨gb336, 10, none⟩ = some (.slice A0_10 l0_10.length c0_10) := (blk_cell BK336.out 10).trans rfl; have hfz8_0 := blk_frozen BK336.out 0; have hfz8_1 := blk_frozen BK336.out 1; have hfz8_2 := blk_frozen BK336.out 2; have hfz8_3 := blk_frozen BK336.out 3; have hfz8_4 := blk_frozen BK336.out 4; have hfz8_5 := blk_frozen BK336.out 5; have hfz8_6 := blk_frozen BK336.out 6; have hfz8_7 := blk_frozen BK336.out 7; have hfz8_8 := blk_frozen BK336.out 8; have hfz8_9 := blk_frozen BK336.out 9; have hfz8_10 := blk_frozen BK336.out 10) | ((with_reducible refine gate_callee (f := 61) rfl ?_); refine goesL_ (some 18) rfl rfl Tryz.func61 (by kernel_rfl) rfl #[.string a0_0] rfl (by (try simp only [List.map_toArray, List.map_cons, List.map_nil]); first | done | rfl | (simp only [List.length_drop, List.length_take]; rfl)) ?_; (with_reducible refine (epactref11_Shape.calls k a0_0 t338 t339 _ A4.out).mono ?_); rintro e w' ⟨rfl, ⟨nd, rfl⟩⟩; refine ⟨_, rfl, ?_⟩))
    go_loopg [4, 7, 8, 9] k (fun kq v4 v7 v8 v9 w' => ∃ (x4_1 : ByteArray) (x7_1 : Int) (x8_1 : Int) (x9_1 : Int), v4 = .string x4_1 ∧ v7 = .int .i64 x7_1 ∧ v8 = .int .i64 x8_1 ∧ v9 = .int .i64 x9_1 ∧ Aside0 (epactref12_Command.l0 kq x4_1 t338 x7_1 x8_1 x9_1 a0_0 l0_1 l0_2 a0_3 a0_4 a0_5 a0_6 a0_7 a0_8 l0_9 l0_10 = some (r1, r2)) ∧ Aside0 (kq ≤ k) ∧ Aside0 (w'.heap[gb336]? = some (.cells #[.string a0_0, (.slice A0_1 l0_1.length c0_1), (.slice A0_2 l0_2.length c0_2), .int .i64 a0_3, .int .i64 a0_4, .bool a0_5, .bool a0_6, .int .u8 a0_7, .string a0_8, (.slice A0_9 l0_9.length c0_9), (.slice A0_10 l0_10.length c0_10)] 42 (0, 0))) ∧ Aside0 (Below w.heap.size w w'))
    case atStart => exact ⟨(a0_0), (0), (0), (0), (by first | rfl | (simp; done) | (simp [*]; done)), (by first | rfl | (simp; done) | (simp [*]; done)), (by first | rfl | (simp; done) | (simp [*]; done)), (by first | rfl | (simp; done) | (simp [*]; done)), H', ⟨Nat.le_refl _⟩, ⟨by (with_reducible repeat (first | refine blk_drewN ?_ _ | refine blk_drew ?_ | refine blk_alloc ?_ _)); exact BK336.out⟩, ⟨by repeat (first | (with_reducible first | exact HB.out | apply below_alloc | apply pw_below_drewN | apply below_drew1 | refine below_set ?_ GE336.out) | exact HB.out)⟩⟩
    case round =>
      clear H'
      try clear c2
      try clear p2
      try clear c3
      try clear c6
      try clear hcz6_0
      try clear hcz6_1
      try clear hcz6_10
      try clear hcz6_2
      try clear hcz6_3
      try clear hcz6_4
      try clear hcz6_5
      try clear hcz6_6
      try clear hcz6_7
      try clear hcz6_8
      try clear hcz6_9
      try clear hcz8_0
      try clear hcz8_1
      try clear hcz8_10
      try clear hcz8_2
      try clear hcz8_3
      try clear hcz8_4
      try clear hcz8_5
      try clear hcz8_6
      try clear hcz8_7
      try clear hcz8_8
      try clear hcz8_9
      try clear hfz6_0
      try clear hfz6_1
      try clear hfz6_10
      try clear hfz6_2
      try clear hfz6_3
      try clear hfz6_4
      try clear hfz6_5
      try clear hfz6_6
      try clear hfz6_7
      try clear hfz6_8
      try clear hfz6_9
      try clear hfz8_0
      try clear hfz8_1
      try clear hfz8_10
      try clear hfz8_2
      try clear hfz8_3
      try clear hfz8_4
      try clear hfz8_5
      try clear hfz8_6
      try clear hfz8_7
      try clear hfz8_8
      try clear hfz8_9
      obtain ⟨x4_1, x7_1, x8_1, x9_1, rfl, rfl, rfl, rfl, HA, HK1, BK336, HB⟩ := hrel
      cases gk with
      | zero => exact absurd HA.out (by simp [epactref12_Command.l0])
      | succ k1 =>
        have H := HA.out
        clear HA
        simp only [epactref12_Command.l0] at H
        by_cases c9 : x9_1 < (t338.size : Int)
        · rw [if_pos c9] at H
          have c9b0 : decide (x9_1 < (t338.size : Int)) = true := decide_eq_true c9
          clear c9
          by_cases c10 : x4_1.size + 1 ≤ 9223372036854775807
          · rw [if_pos c10] at H
            have c10b0 := eq_true c10
            have c10b1 : decide (x4_1.size + 1 ≤ 9223372036854775807) = true := decide_eq_true c10
            try have c10b2 : (9223372036854775807 < x4_1.size + 1) = False := eq_false (Nat.not_lt.2 c10)
            by_cases c11 : 0 ≤ x9_1
            · rw [if_pos c11] at H
              have c11b0 : decide (0 ≤ x9_1) = true := decide_eq_true c11
              clear c11
              by_cases c13 : (bt t338 x9_1) = 110
              · rw [if_pos c13] at H
                have c13b0 : ((bt t338 x9_1) == 110) = true := beq_iff_eq.mpr c13
                have c13b1 : ((bt t338 x9_1) != 110) = false := bne_eq_false_iff_eq.mpr c13
                clear c13
                by_cases c14 : 0 ≤ x7_1
                · rw [if_pos c14] at H
                  have c14b0 : decide (0 ≤ x7_1) = true := decide_eq_true c14
                  clear c14
                  by_cases c15 : x7_1 < (l0_1.length : Int)
                  · rw [if_pos c15] at H
                    have c15b0 : decide (x7_1 < (l0_1.length : Int)) = true := decide_eq_true c15
                    clear c15
                    by_cases c16 : (x4_1 ++ (⟨#[32]⟩ : ByteArray)).size + (rdOf ByteArray.empty l0_1 x7_1).size ≤ 9223372036854775807
                    · rw [if_pos c16] at H
                      have c16b0 := eq_true c16
                      have c16b1 : decide ((x4_1 ++ (⟨#[32]⟩ : ByteArray)).size + (rdOf ByteArray.empty l0_1 x7_1).size ≤ 9223372036854775807) = true := decide_eq_true c16
                      have c16b2 : (9223372036854775807 < (x4_1 ++ (⟨#[32]⟩ : ByteArray)).size + (rdOf ByteArray.empty l0_1 x7_1).size) = False := eq_false (Nat.not_lt.2 c16)
                      have c16b7 := c16b2
                      simp only [ByteArray.size_append, show (⟨#[32]⟩ : ByteArray).size = 1 from rfl] at c16b7
                      have H' := Aside0.mk H
                      clear H
                      have p12 : 0 ≤ (x9_1 : Int) := of_decide_eq_true (by first | (with_reducible assumption) | assumption)
                      have q12 : x9_1 < (t338.size : Int) := of_decide_eq_true (by first | (with_reducible assumption) | assumption)
                      have hx12 := bt_at t338 x9_1
                      replace p12 := eq_true p12
                      replace q12 := eq_true q12
                      have hcz17_0 : wr.cell? ⟨gb336, 0, none⟩ = some (.string a0_0) := (blk_cell BK336.out 0).trans rfl
                      have hcz17_1 : wr.cell? ⟨gb336, 1, none⟩ = some (.slice A0_1 l0_1.length c0_1) := (blk_cell BK336.out 1).trans rfl
                      have hcz17_2 : wr.cell? ⟨gb336, 2, none⟩ = some (.slice A0_2 l0_2.length c0_2) := (blk_cell BK336.out 2).trans rfl
                      have hcz17_3 : wr.cell? ⟨gb336, 3, none⟩ = some (.int .i64 a0_3) := (blk_cell BK336.out 3).trans rfl
                      have hcz17_4 : wr.cell? ⟨gb336, 4, none⟩ = some (.int .i64 a0_4) := (blk_cell BK336.out 4).trans rfl
                      have hcz17_5 : wr.cell? ⟨gb336, 5, none⟩ = some (.bool a0_5) := (blk_cell BK336.out 5).trans rfl
                      have hcz17_6 : wr.cell? ⟨gb336, 6, none⟩ = some (.bool a0_6) := (blk_cell BK336.out 6).trans rfl
                      have hcz17_7 : wr.cell? ⟨gb336, 7, none⟩ = some (.int .u8 a0_7) := (blk_cell BK336.out 7).trans rfl
                      have hcz17_8 : wr.cell? ⟨gb336, 8, none⟩ = some (.string a0_8) := (blk_cell BK336.out 8).trans rfl
                      have hcz17_9 : wr.cell? ⟨gb336, 9, none⟩ = some (.slice A0_9 l0_9.length c0_9) := (blk_cell BK336.out 9).trans rfl
                      have hcz17_10 : wr.cell? ⟨gb336, 10, none⟩ = some (.slice A0_10 l0_10.length c0_10) := (blk_cell BK336.out 10).trans rfl
                      have hfz17_0 := blk_frozen BK336.out 0
                      have hfz17_1 := blk_frozen BK336.out 1
                      have hfz17_2 := blk_frozen BK336.out 2
                      have hfz17_3 := blk_frozen BK336.out 3
                      have hfz17_4 := blk_frozen BK336.out 4
                      have hfz17_5 := blk_frozen BK336.out 5
                      have hfz17_6 := blk_frozen BK336.out 6
                      have hfz17_7 := blk_frozen BK336.out 7
                      have hfz17_8 := blk_frozen BK336.out 8
                      have hfz17_9 := blk_frozen BK336.out 9
                      have hfz17_10 := blk_frozen BK336.out 10
                      have p340 : 0 ≤ (x7_1 : Int) := of_decide_eq_true (by first | (with_reducible assumption) | assumption)
                      have q340 : x7_1 < (l0_1.length : Int) := of_decide_eq_true (by first | (with_reducible assumption) | assumption)
                      obtain ⟨ad340, e340, hx340_0⟩ := Kd.at_string HR0_1.out x7_1 p340 q340
                      cases e340
                      replace hx340_0 := (HB.out.cell (World.block_lt_of_cell? w _ hx340_0)).trans hx340_0
                      replace p340 := eq_true p340
                      replace q340 := eq_true q340
                      go_wp2
                      go_roundg k1
                      case measure => have := HK1.out; omega
                      case rel => exact ⟨((x4_1 ++ (⟨#[32]⟩ : ByteArray)) ++ (rdOf ByteArray.empty l0_1 x7_1)), (wrap64 (x7_1 + 1)), (x8_1), (wrap64 (x9_1 + 1)), (by first | rfl | (simp; done) | (simp [*]; done)), (by first | rfl | (simp; done) | (simp [*]; done)), (by first | rfl | (simp; done) | (simp [*]; done)), (by first | rfl | (simp; done) | (simp [*]; done)), H', ⟨by have := HK1.out; omega⟩, ⟨by (with_reducible repeat (first | refine blk_drewN ?_ _ | refine blk_drew ?_ | refine blk_alloc ?_ _)); exact BK336.out⟩, ⟨by repeat (first | (with_reducible first | exact HB.out | apply below_alloc | apply pw_below_drewN | apply below_drew1 | refine below_set ?_ GE336.out) | exact HB.out)⟩⟩
                    · rw [if_neg c16] at H
                      exact absurd H (by simp)
                  · rw [if_neg c15] at H
                    exact absurd H (by simp)
                · rw [if_neg c14] at H
                  exact absurd H (by simp)
              · rw [if_neg c13] at H
                have c13b0 : ((bt t338 x9_1) == 110) = false := beq_eq_false_iff_ne.mpr c13
                have c13b1 : ((bt t338 x9_1) != 110) = true := bne_iff_ne.mpr c13
                by_cases c18 : (bt t338 x9_1) = 105
                · rw [if_pos c18] at H
                  have c18b0 : ((bt t338 x9_1) == 105) = true := beq_iff_eq.mpr c18
                  have c18b1 : ((bt t338 x9_1) != 105) = false := bne_eq_false_iff_eq.mpr c18
                  clear c18
                  by_cases c19 : 0 ≤ x8_1
                  · rw [if_pos c19] at H
                    have c19b0 : decide (0 ≤ x8_1) = true := decide_eq_true c19
                    clear c19
                    by_cases c20 : x8_1 < (l0_2.length : Int)
                    · rw [if_pos c20] at H
                      have c20b0 : decide (x8_1 < (l0_2.length : Int)) = true := decide_eq_true c20
                      clear c20
                      replace H := Option.bind_eq_some_iff.mp H
                      obtain ⟨t342, A210, H⟩ := H
                      replace H : (if (x4_1 ++ (⟨#[32]⟩ : ByteArray)).size + t342.size ≤ 9223372036854775807 then (epactref12_Command.l0 k1 ((x4_1 ++ (⟨#[32]⟩ : ByteArray)) ++ t342) t338 x7_1 (wrap64 (x8_1 + 1)) (wrap64 (x9_1 + 1)) a0_0 l0_1 l0_2 a0_3 a0_4 a0_5 a0_6 a0_7 a0_8 l0_9 l0_10) else (none)) = some (r1, r2) := H
                      have A21 := Aside0.mk A210
                      clear A210
                      by_cases c22 : (x4_1 ++ (⟨#[32]⟩ : ByteArray)).size + t342.size ≤ 9223372036854775807
                      · rw [if_pos c22] at H
                        have c22b0 := eq_true c22
                        have c22b1 : decide ((x4_1 ++ (⟨#[32]⟩ : ByteArray)).size + t342.size ≤ 9223372036854775807) = true := decide_eq_true c22
                        have c22b2 : (9223372036854775807 < (x4_1 ++ (⟨#[32]⟩ : ByteArray)).size + t342.size) = False := eq_false (Nat.not_lt.2 c22)
                        have c22b7 := c22b2
                        simp only [ByteArray.size_append, show (⟨#[32]⟩ : ByteArray).size = 1 from rfl] at c22b7
                        have H' := Aside0.mk H
                        clear H
                        have p12 : 0 ≤ (x9_1 : Int) := of_decide_eq_true (by first | (with_reducible assumption) | assumption)
                        have q12 : x9_1 < (t338.size : Int) := of_decide_eq_true (by first | (with_reducible assumption) | assumption)
                        have hx12 := bt_at t338 x9_1
                        replace p12 := eq_true p12
                        replace q12 := eq_true q12
                        have hcz23_0 : wr.cell? ⟨gb336, 0, none⟩ = some (.string a0_0) := (blk_cell BK336.out 0).trans rfl
                        have hcz23_1 : wr.cell? ⟨gb336, 1, none⟩ = some (.slice A0_1 l0_1.length c0_1) := (blk_cell BK336.out 1).trans rfl
                        have hcz23_2 : wr.cell? ⟨gb336, 2, none⟩ = some (.slice A0_2 l0_2.length c0_2) := (blk_cell BK336.out 2).trans rfl
                        have hcz23_3 : wr.cell? ⟨gb336, 3, none⟩ = some (.int .i64 a0_3) := (blk_cell BK336.out 3).trans rfl
                        have hcz23_4 : wr.cell? ⟨gb336, 4, none⟩ = some (.int .i64 a0_4) := (blk_cell BK336.out 4).trans rfl
                        have hcz23_5 : wr.cell? ⟨gb336, 5, none⟩ = some (.bool a0_5) := (blk_cell BK336.out 5).trans rfl
                        have hcz23_6 : wr.cell? ⟨gb336, 6, none⟩ = some (.bool a0_6) := (blk_cell BK336.out 6).trans rfl
                        have hcz23_7 : wr.cell? ⟨gb336, 7, none⟩ = some (.int .u8 a0_7) := (blk_cell BK336.out 7).trans rfl
                        have hcz23_8 : wr.cell? ⟨gb336, 8, none⟩ = some (.string a0_8) := (blk_cell BK336.out 8).trans rfl
                        have hcz23_9 : wr.cell? ⟨gb336, 9, none⟩ = some (.slice A0_9 l0_9.length c0_9) := (blk_cell BK336.out 9).trans rfl
                        have hcz23_10 : wr.cell? ⟨gb336, 10, none⟩ = some (.slice A0_10 l0_10.length c0_10) := (blk_cell BK336.out 10).trans rfl
                        have hfz23_0 := blk_frozen BK336.out 0
                        have hfz23_1 := blk_frozen BK336.out 1
                        have hfz23_2 := blk_frozen BK336.out 2
                        have hfz23_3 := blk_frozen BK336.out 3
                        have hfz23_4 := blk_frozen BK336.out 4
                        have hfz23_5 := blk_frozen BK336.out 5
                        have hfz23_6 := blk_frozen BK336.out 6
                        have hfz23_7 := blk_frozen BK336.out 7
                        have hfz23_8 := blk_frozen BK336.out 8
                        have hfz23_9 := blk_frozen BK336.out 9
                        have hfz23_10 := blk_frozen BK336.out 10
                        have p341 : 0 ≤ (x8_1 : Int) := of_decide_eq_true (by first | (with_reducible assumption) | assumption)
                        have q341 : x8_1 < (l0_2.length : Int) := of_decide_eq_true (by first | (with_reducible assumption) | assumption)
                        obtain ⟨ad341, e341, hx341_0⟩ := Kd.at_int HR0_2.out x8_1 p341 q341
                        cases e341
                        replace hx341_0 := (HB.out.cell (World.block_lt_of_cell? w _ hx341_0)).trans hx341_0
                        replace p341 := eq_true p341
                        replace q341 := eq_true q341
                        go_wp2_with (first | ((with_reducible refine gate_callee (f := 62) rfl ?_); refine goesL_ (some 75) rfl rfl Tryz.func62 (by kernel_rfl) rfl #[.int .i64 (rd l0_2 x8_1)] rfl (by (try simp only [List.map_toArray, List.map_cons, List.map_nil]); first | done | rfl | (simp only [List.length_drop, List.length_take]; rfl)) ?_; (with_reducible refine (epactref12_number.calls k1 (rd l0_2 x8_1) t342 _ A21.out).mono ?_); rintro e w24 ⟨rfl, hb⟩; refine ⟨_, rfl, ?_⟩; have n0_ := Aside0.mk (blk_below (g := gb336) (o := .cells #[.string a0_0, .slice A0_1 l0_1.length c0_1, .slice (some ad341) l0_2.length c0_2, .int .i64 a0_3, .int .i64 a0_4, .bool a0_5, .bool a0_6, .int .u8 a0_7, .string a0_8, .slice A0_9 l0_9.length c0_9, .slice A0_10 l0_10.length c0_10] 42 (0, 0)) (by (with_reducible repeat (first | refine blk_drewN ?_ _ | refine blk_drew ?_ | refine blk_alloc ?_ _)); exact BK336.out) hb); have n1_ := Aside0.mk (below_step (by repeat (first | (with_reducible first | exact HB.out | apply below_alloc | apply pw_below_drewN | apply below_drew1 | refine below_set ?_ GE336.out) | exact HB.out)) hb); clear BK336; clear HB; have BK336 := n0_; have HB := n1_; clear n0_ n1_; (try clear hb); (try clear hb2); (try clear hk); (try clear hi)))
                        go_roundg k1
                        case measure => have := HK1.out; omega
                        case rel => exact ⟨((x4_1 ++ (⟨#[32]⟩ : ByteArray)) ++ t342), (x7_1), (wrap64 (x8_1 + 1)), (wrap64 (x9_1 + 1)), (by first | rfl | (simp; done) | (simp [*]; done)), (by first | rfl | (simp; done) | (simp [*]; done)), (by first | rfl | (simp; done) | (simp [*]; done)), (by first | rfl | (simp; done) | (simp [*]; done)), H', ⟨by have := HK1.out; omega⟩, ⟨by (with_reducible repeat (first | refine blk_drewN ?_ _ | refine blk_drew ?_ | refine blk_alloc ?_ _)); exact BK336.out⟩, ⟨by repeat (first | (with_reducible first | exact HB.out | apply below_alloc | apply pw_below_drewN | apply below_drew1 | refine below_set ?_ GE336.out) | exact HB.out)⟩⟩
                      · rw [if_neg c22] at H
                        exact absurd H (by simp)
                    · rw [if_neg c20] at H
                      exact absurd H (by simp)
                  · rw [if_neg c19] at H
                    exact absurd H (by simp)
                · rw [if_neg c18] at H
                  have c18b0 : ((bt t338 x9_1) == 105) = false := beq_eq_false_iff_ne.mpr c18
                  have c18b1 : ((bt t338 x9_1) != 105) = true := bne_iff_ne.mpr c18
                  by_cases c25 : (bt t338 x9_1) = 101
                  · rw [if_pos c25] at H
                    have c25b0 : ((bt t338 x9_1) == 101) = true := beq_iff_eq.mpr c25
                    have c25b1 : ((bt t338 x9_1) != 101) = false := bne_eq_false_iff_eq.mpr c25
                    clear c25
                    replace H := Option.bind_eq_some_iff.mp H
                    obtain ⟨t343, A260, H⟩ := H
                    replace H : (if (x4_1 ++ (⟨#[32]⟩ : ByteArray)).size + t343.size ≤ 9223372036854775807 then (epactref12_Command.l0 k1 ((x4_1 ++ (⟨#[32]⟩ : ByteArray)) ++ t343) t338 x7_1 x8_1 (wrap64 (x9_1 + 1)) a0_0 l0_1 l0_2 a0_3 a0_4 a0_5 a0_6 a0_7 a0_8 l0_9 l0_10) else (none)) = some (r1, r2) := H
                    have A26 := Aside0.mk A260
                    clear A260
                    by_cases c27 : (x4_1 ++ (⟨#[32]⟩ : ByteArray)).size + t343.size ≤ 9223372036854775807
                    · rw [if_pos c27] at H
                      have c27b0 := eq_true c27
                      have c27b1 : decide ((x4_1 ++ (⟨#[32]⟩ : ByteArray)).size + t343.size ≤ 9223372036854775807) = true := decide_eq_true c27
                      have c27b2 : (9223372036854775807 < (x4_1 ++ (⟨#[32]⟩ : ByteArray)).size + t343.size) = False := eq_false (Nat.not_lt.2 c27)
                      have c27b7 := c27b2
                      simp only [ByteArray.size_append, show (⟨#[32]⟩ : ByteArray).size = 1 from rfl] at c27b7
                      have H' := Aside0.mk H
                      clear H
                      have p12 : 0 ≤ (x9_1 : Int) := of_decide_eq_true (by first | (with_reducible assumption) | assumption)
                      have q12 : x9_1 < (t338.size : Int) := of_decide_eq_true (by first | (with_reducible assumption) | assumption)
                      have hx12 := bt_at t338 x9_1
                      replace p12 := eq_true p12
                      replace q12 := eq_true q12
                      have hcz28_0 : wr.cell? ⟨gb336, 0, none⟩ = some (.string a0_0) := (blk_cell BK336.out 0).trans rfl
                      have hcz28_1 : wr.cell? ⟨gb336, 1, none⟩ = some (.slice A0_1 l0_1.length c0_1) := (blk_cell BK336.out 1).trans rfl
                      have hcz28_2 : wr.cell? ⟨gb336, 2, none⟩ = some (.slice A0_2 l0_2.length c0_2) := (blk_cell BK336.out 2).trans rfl
                      have hcz28_3 : wr.cell? ⟨gb336, 3, none⟩ = some (.int .i64 a0_3) := (blk_cell BK336.out 3).trans rfl
                      have hcz28_4 : wr.cell? ⟨gb336, 4, none⟩ = some (.int .i64 a0_4) := (blk_cell BK336.out 4).trans rfl
                      have hcz28_5 : wr.cell? ⟨gb336, 5, none⟩ = some (.bool a0_5) := (blk_cell BK336.out 5).trans rfl
                      have hcz28_6 : wr.cell? ⟨gb336, 6, none⟩ = some (.bool a0_6) := (blk_cell BK336.out 6).trans rfl
                      have hcz28_7 : wr.cell? ⟨gb336, 7, none⟩ = some (.int .u8 a0_7) := (blk_cell BK336.out 7).trans rfl
                      have hcz28_8 : wr.cell? ⟨gb336, 8, none⟩ = some (.string a0_8) := (blk_cell BK336.out 8).trans rfl
                      have hcz28_9 : wr.cell? ⟨gb336, 9, none⟩ = some (.slice A0_9 l0_9.length c0_9) := (blk_cell BK336.out 9).trans rfl
                      have hcz28_10 : wr.cell? ⟨gb336, 10, none⟩ = some (.slice A0_10 l0_10.length c0_10) := (blk_cell BK336.out 10).trans rfl
                      have hfz28_0 := blk_frozen BK336.out 0
                      have hfz28_1 := blk_frozen BK336.out 1
                      have hfz28_2 := blk_frozen BK336.out 2
                      have hfz28_3 := blk_frozen BK336.out 3
                      have hfz28_4 := blk_frozen BK336.out 4
                      have hfz28_5 := blk_frozen BK336.out 5
                      have hfz28_6 := blk_frozen BK336.out 6
                      have hfz28_7 := blk_frozen BK336.out 7
                      have hfz28_8 := blk_frozen BK336.out 8
                      have hfz28_9 := blk_frozen BK336.out 9
                      have hfz28_10 := blk_frozen BK336.out 10
                      go_wp2_with (first | ((with_reducible refine gate_callee (f := 60) rfl ?_); refine goesL_ (some 84) rfl rfl Tryz.func60 (by kernel_rfl) rfl #[.agg #[.int .u8 a0_7, .string a0_8, .slice A0_9 l0_9.length c0_9, .slice A0_10 l0_10.length c0_10]] rfl (by (try simp only [List.map_toArray, List.map_cons, List.map_nil]); first | done | rfl | (simp only [List.length_drop, List.length_take]; rfl)) ?_; (with_reducible refine (epactref12_line.calls k1 a0_7 a0_8 _ _ l0_9 _ _ l0_10 t343 _ ?side1 ?side2 ?side3 ?side4 A26.out).mono ?_); (case side1 => repeat (first | exact (Kd.C_below HR0_9.out HB.out) | (with_reducible refine Kd.C_alloc ?_ _) | (with_reducible refine Kd.C_drewN ?_ _) | (with_reducible refine Kd.C_drew ?_))); (case side2 => exact HC0_9.out); (case side3 => repeat (first | exact (Kd.C_below HR0_10.out HB.out) | (with_reducible refine Kd.C_alloc ?_ _) | (with_reducible refine Kd.C_drewN ?_ _) | (with_reducible refine Kd.C_drew ?_))); (case side4 => exact HC0_10.out); rintro e w29 ⟨rfl, hb⟩; refine ⟨_, rfl, ?_⟩; have n0_ := Aside0.mk (blk_below (g := gb336) (o := .cells #[.string a0_0, .slice A0_1 l0_1.length c0_1, .slice A0_2 l0_2.length c0_2, .int .i64 a0_3, .int .i64 a0_4, .bool a0_5, .bool a0_6, .int .u8 a0_7, .string a0_8, .slice A0_9 l0_9.length c0_9, .slice A0_10 l0_10.length c0_10] 42 (0, 0)) (by (with_reducible repeat (first | refine blk_drewN ?_ _ | refine blk_drew ?_ | refine blk_alloc ?_ _)); exact BK336.out) hb); have n1_ := Aside0.mk (below_step (by repeat (first | (with_reducible first | exact HB.out | apply below_alloc | apply pw_below_drewN | apply below_drew1 | refine below_set ?_ GE336.out) | exact HB.out)) hb); clear BK336; clear HB; have BK336 := n0_; have HB := n1_; clear n0_ n1_; (try clear hb); (try clear hb2); (try clear hk); (try clear hi)))
                      go_roundg k1
                      case measure => have := HK1.out; omega
                      case rel => exact ⟨((x4_1 ++ (⟨#[32]⟩ : ByteArray)) ++ t343), (x7_1), (x8_1), (wrap64 (x9_1 + 1)), (by first | rfl | (simp; done) | (simp [*]; done)), (by first | rfl | (simp; done) | (simp [*]; done)), (by first | rfl | (simp; done) | (simp [*]; done)), (by first | rfl | (simp; done) | (simp [*]; done)), H', ⟨by have := HK1.out; omega⟩, ⟨by (with_reducible repeat (first | refine blk_drewN ?_ _ | refine blk_drew ?_ | refine blk_alloc ?_ _)); exact BK336.out⟩, ⟨by repeat (first | (with_reducible first | exact HB.out | apply below_alloc | apply pw_below_drewN | apply below_drew1 | refine below_set ?_ GE336.out) | exact HB.out)⟩⟩
                    · rw [if_neg c27] at H
                      exact absurd H (by simp)
                  · rw [if_neg c25] at H
                    have c25b0 : ((bt t338 x9_1) == 101) = false := beq_eq_false_iff_ne.mpr c25
                    have c25b1 : ((bt t338 x9_1) != 101) = true := bne_iff_ne.mpr c25
                    by_cases c30 : (bt t338 x9_1) = 61
                    · rw [if_pos c30] at H
                      have c30b0 : ((bt t338 x9_1) == 61) = true := beq_iff_eq.mpr c30
                      have c30b1 : ((bt t338 x9_1) != 61) = false := bne_eq_false_iff_eq.mpr c30
                      clear c30
                      by_cases c31 : (x4_1 ++ (⟨#[32]⟩ : ByteArray)).size + 1 ≤ 9223372036854775807
                      · rw [if_pos c31] at H
                        have c31b0 := eq_true c31
                        have c31b1 : decide ((x4_1 ++ (⟨#[32]⟩ : ByteArray)).size + 1 ≤ 9223372036854775807) = true := decide_eq_true c31
                        have c31b2 : (9223372036854775807 < (x4_1 ++ (⟨#[32]⟩ : ByteArray)).size + 1) = False := eq_false (Nat.not_lt.2 c31)
                        have c31b7 := c31b2
                        simp only [ByteArray.size_append, show (⟨#[32]⟩ : ByteArray).size = 1 from rfl] at c31b7
                        have H' := Aside0.mk H
                        clear H
                        have p12 : 0 ≤ (x9_1 : Int) := of_decide_eq_true (by first | (with_reducible assumption) | assumption)
                        have q12 : x9_1 < (t338.size : Int) := of_decide_eq_true (by first | (with_reducible assumption) | assumption)
                        have hx12 := bt_at t338 x9_1
                        replace p12 := eq_true p12
                        replace q12 := eq_true q12
                        go_wp2
                        go_roundg k1
                        case measure => have := HK1.out; omega
                        case rel => exact ⟨((x4_1 ++ (⟨#[32]⟩ : ByteArray)) ++ (⟨#[61]⟩ : ByteArray)), (x7_1), (x8_1), (wrap64 (x9_1 + 1)), (by first | rfl | (simp; done) | (simp [*]; done)), (by first | rfl | (simp; done) | (simp [*]; done)), (by first | rfl | (simp; done) | (simp [*]; done)), (by first | rfl | (simp; done) | (simp [*]; done)), H', ⟨by have := HK1.out; omega⟩, ⟨by (with_reducible repeat (first | refine blk_drewN ?_ _ | refine blk_drew ?_ | refine blk_alloc ?_ _)); exact BK336.out⟩, ⟨by repeat (first | (with_reducible first | exact HB.out | apply below_alloc | apply pw_below_drewN | apply below_drew1 | refine below_set ?_ GE336.out) | exact HB.out)⟩⟩
                      · rw [if_neg c31] at H
                        exact absurd H (by simp)
                    · rw [if_neg c30] at H
                      have c30b0 : ((bt t338 x9_1) == 61) = false := beq_eq_false_iff_ne.mpr c30
                      have c30b1 : ((bt t338 x9_1) != 61) = true := bne_iff_ne.mpr c30
                      by_cases c32 : (x4_1 ++ (⟨#[32]⟩ : ByteArray)).size + 1 ≤ 9223372036854775807
                      · rw [if_pos c32] at H
                        have c32b0 := eq_true c32
                        have c32b1 : decide ((x4_1 ++ (⟨#[32]⟩ : ByteArray)).size + 1 ≤ 9223372036854775807) = true := decide_eq_true c32
                        have c32b2 : (9223372036854775807 < (x4_1 ++ (⟨#[32]⟩ : ByteArray)).size + 1) = False := eq_false (Nat.not_lt.2 c32)
                        have c32b7 := c32b2
                        simp only [ByteArray.size_append, show (⟨#[32]⟩ : ByteArray).size = 1 from rfl] at c32b7
                        by_cases c33 : a0_5 = true
                        · subst c33
                          have H1 : ((epactref12_number.f k1 a0_3).bind fun t344 => (if ((x4_1 ++ (⟨#[32]⟩ : ByteArray)) ++ (⟨#[91]⟩ : ByteArray)).size + t344.size ≤ 9223372036854775807 then (if (((x4_1 ++ (⟨#[32]⟩ : ByteArray)) ++ (⟨#[91]⟩ : ByteArray)) ++ t344).size + 1 ≤ 9223372036854775807 then (if a0_6 = true then ((epactref12_number.f k1 a0_4).bind fun t345 => (if ((((x4_1 ++ (⟨#[32]⟩ : ByteArray)) ++ (⟨#[91]⟩ : ByteArray)) ++ t344) ++ (⟨#[58]⟩ : ByteArray)).size + t345.size ≤ 9223372036854775807 then (if (((((x4_1 ++ (⟨#[32]⟩ : ByteArray)) ++ (⟨#[91]⟩ : ByteArray)) ++ t344) ++ (⟨#[58]⟩ : ByteArray)) ++ t345).size + 1 ≤ 9223372036854775807 then (epactref12_Command.l0 k1 ((((((x4_1 ++ (⟨#[32]⟩ : ByteArray)) ++ (⟨#[91]⟩ : ByteArray)) ++ t344) ++ (⟨#[58]⟩ : ByteArray)) ++ t345) ++ (⟨#[93]⟩ : ByteArray)) t338 x7_1 x8_1 (wrap64 (x9_1 + 1)) a0_0 l0_1 l0_2 a0_3 a0_4 true a0_6 a0_7 a0_8 l0_9 l0_10) else (none)) else (none))) else (if ((((x4_1 ++ (⟨#[32]⟩ : ByteArray)) ++ (⟨#[91]⟩ : ByteArray)) ++ t344) ++ (⟨#[58]⟩ : ByteArray)).size + 1 ≤ 9223372036854775807 then (epactref12_Command.l0 k1 (((((x4_1 ++ (⟨#[32]⟩ : ByteArray)) ++ (⟨#[91]⟩ : ByteArray)) ++ t344) ++ (⟨#[58]⟩ : ByteArray)) ++ (⟨#[93]⟩ : ByteArray)) t338 x7_1 x8_1 (wrap64 (x9_1 + 1)) a0_0 l0_1 l0_2 a0_3 a0_4 true a0_6 a0_7 a0_8 l0_9 l0_10) else (none))) else (none)) else (none))) = some (r1, r2) := by rw [if_pos rfl] at H; exact H
                          clear H
                          have H := H1
                          clear H1
                          replace H := Option.bind_eq_some_iff.mp H
                          obtain ⟨t344, A340, H⟩ := H
                          replace H : (if ((x4_1 ++ (⟨#[32]⟩ : ByteArray)) ++ (⟨#[91]⟩ : ByteArray)).size + t344.size ≤ 9223372036854775807 then (if (((x4_1 ++ (⟨#[32]⟩ : ByteArray)) ++ (⟨#[91]⟩ : ByteArray)) ++ t344).size + 1 ≤ 9223372036854775807 then (if a0_6 = true then ((epactref12_number.f k1 a0_4).bind fun t345 => (if ((((x4_1 ++ (⟨#[32]⟩ : ByteArray)) ++ (⟨#[91]⟩ : ByteArray)) ++ t344) ++ (⟨#[58]⟩ : ByteArray)).size + t345.size ≤ 9223372036854775807 then (if (((((x4_1 ++ (⟨#[32]⟩ : ByteArray)) ++ (⟨#[91]⟩ : ByteArray)) ++ t344) ++ (⟨#[58]⟩ : ByteArray)) ++ t345).size + 1 ≤ 9223372036854775807 then (epactref12_Command.l0 k1 ((((((x4_1 ++ (⟨#[32]⟩ : ByteArray)) ++ (⟨#[91]⟩ : ByteArray)) ++ t344) ++ (⟨#[58]⟩ : ByteArray)) ++ t345) ++ (⟨#[93]⟩ : ByteArray)) t338 x7_1 x8_1 (wrap64 (x9_1 + 1)) a0_0 l0_1 l0_2 a0_3 a0_4 true a0_6 a0_7 a0_8 l0_9 l0_10) else (none)) else (none))) else (if ((((x4_1 ++ (⟨#[32]⟩ : ByteArray)) ++ (⟨#[91]⟩ : ByteArray)) ++ t344) ++ (⟨#[58]⟩ : ByteArray)).size + 1 ≤ 9223372036854775807 then (epactref12_Command.l0 k1 (((((x4_1 ++ (⟨#[32]⟩ : ByteArray)) ++ (⟨#[91]⟩ : ByteArray)) ++ t344) ++ (⟨#[58]⟩ : ByteArray)) ++ (⟨#[93]⟩ : ByteArray)) t338 x7_1 x8_1 (wrap64 (x9_1 + 1)) a0_0 l0_1 l0_2 a0_3 a0_4 true a0_6 a0_7 a0_8 l0_9 l0_10) else (none))) else (none)) else (none)) = some (r1, r2) := H
                          have A34 := Aside0.mk A340
                          clear A340
                          by_cases c35 : ((x4_1 ++ (⟨#[32]⟩ : ByteArray)) ++ (⟨#[91]⟩ : ByteArray)).size + t344.size ≤ 9223372036854775807
                          · rw [if_pos c35] at H
                            have c35b0 := eq_true c35
                            have c35b1 : decide (((x4_1 ++ (⟨#[32]⟩ : ByteArray)) ++ (⟨#[91]⟩ : ByteArray)).size + t344.size ≤ 9223372036854775807) = true := decide_eq_true c35
                            have c35b2 : (9223372036854775807 < ((x4_1 ++ (⟨#[32]⟩ : ByteArray)) ++ (⟨#[91]⟩ : ByteArray)).size + t344.size) = False := eq_false (Nat.not_lt.2 c35)
                            have c35b7 := c35b2
                            simp only [ByteArray.size_append, show (⟨#[32]⟩ : ByteArray).size = 1 from rfl, show (⟨#[91]⟩ : ByteArray).size = 1 from rfl] at c35b7
                            by_cases c36 : (((x4_1 ++ (⟨#[32]⟩ : ByteArray)) ++ (⟨#[91]⟩ : ByteArray)) ++ t344).size + 1 ≤ 9223372036854775807
                            · rw [if_pos c36] at H
                              have c36b0 := eq_true c36
                              have c36b1 : decide ((((x4_1 ++ (⟨#[32]⟩ : ByteArray)) ++ (⟨#[91]⟩ : ByteArray)) ++ t344).size + 1 ≤ 9223372036854775807) = true := decide_eq_true c36
                              have c36b2 : (9223372036854775807 < (((x4_1 ++ (⟨#[32]⟩ : ByteArray)) ++ (⟨#[91]⟩ : ByteArray)) ++ t344).size + 1) = False := eq_false (Nat.not_lt.2 c36)
                              have c36b7 := c36b2
                              simp only [ByteArray.size_append, show (⟨#[32]⟩ : ByteArray).size = 1 from rfl, show (⟨#[91]⟩ : ByteArray).size = 1 from rfl] at c36b7
                              by_cases c37 : a0_6 = true
                              · subst c37
                                have H1 : ((epactref12_number.f k1 a0_4).bind fun t345 => (if ((((x4_1 ++ (⟨#[32]⟩ : ByteArray)) ++ (⟨#[91]⟩ : ByteArray)) ++ t344) ++ (⟨#[58]⟩ : ByteArray)).size + t345.size ≤ 9223372036854775807 then (if (((((x4_1 ++ (⟨#[32]⟩ : ByteArray)) ++ (⟨#[91]⟩ : ByteArray)) ++ t344) ++ (⟨#[58]⟩ : ByteArray)) ++ t345).size + 1 ≤ 9223372036854775807 then (epactref12_Command.l0 k1 ((((((x4_1 ++ (⟨#[32]⟩ : ByteArray)) ++ (⟨#[91]⟩ : ByteArray)) ++ t344) ++ (⟨#[58]⟩ : ByteArray)) ++ t345) ++ (⟨#[93]⟩ : ByteArray)) t338 x7_1 x8_1 (wrap64 (x9_1 + 1)) a0_0 l0_1 l0_2 a0_3 a0_4 true true a0_7 a0_8 l0_9 l0_10) else (none)) else (none))) = some (r1, r2) := by rw [if_pos rfl] at H; exact H
                                clear H
                                have H := H1
                                clear H1
                                replace H := Option.bind_eq_some_iff.mp H
                                obtain ⟨t345, A380, H⟩ := H
                                replace H : (if ((((x4_1 ++ (⟨#[32]⟩ : ByteArray)) ++ (⟨#[91]⟩ : ByteArray)) ++ t344) ++ (⟨#[58]⟩ : ByteArray)).size + t345.size ≤ 9223372036854775807 then (if (((((x4_1 ++ (⟨#[32]⟩ : ByteArray)) ++ (⟨#[91]⟩ : ByteArray)) ++ t344) ++ (⟨#[58]⟩ : ByteArray)) ++ t345).size + 1 ≤ 9223372036854775807 then (epactref12_Command.l0 k1 ((((((x4_1 ++ (⟨#[32]⟩ : ByteArray)) ++ (⟨#[91]⟩ : ByteArray)) ++ t344) ++ (⟨#[58]⟩ : ByteArray)) ++ t345) ++ (⟨#[93]⟩ : ByteArray)) t338 x7_1 x8_1 (wrap64 (x9_1 + 1)) a0_0 l0_1 l0_2 a0_3 a0_4 true true a0_7 a0_8 l0_9 l0_10) else (none)) else (none)) = some (r1, r2) := H
                                have A38 := Aside0.mk A380
                                clear A380
                                by_cases c39 : ((((x4_1 ++ (⟨#[32]⟩ : ByteArray)) ++ (⟨#[91]⟩ : ByteArray)) ++ t344) ++ (⟨#[58]⟩ : ByteArray)).size + t345.size ≤ 9223372036854775807
                                · rw [if_pos c39] at H
                                  have c39b0 := eq_true c39
                                  have c39b1 : decide (((((x4_1 ++ (⟨#[32]⟩ : ByteArray)) ++ (⟨#[91]⟩ : ByteArray)) ++ t344) ++ (⟨#[58]⟩ : ByteArray)).size + t345.size ≤ 9223372036854775807) = true := decide_eq_true c39
                                  have c39b2 : (9223372036854775807 < ((((x4_1 ++ (⟨#[32]⟩ : ByteArray)) ++ (⟨#[91]⟩ : ByteArray)) ++ t344) ++ (⟨#[58]⟩ : ByteArray)).size + t345.size) = False := eq_false (Nat.not_lt.2 c39)
                                  have c39b7 := c39b2
                                  simp only [ByteArray.size_append, show (⟨#[32]⟩ : ByteArray).size = 1 from rfl, show (⟨#[58]⟩ : ByteArray).size = 1 from rfl, show (⟨#[91]⟩ : ByteArray).size = 1 from rfl] at c39b7
                                  by_cases c40 : (((((x4_1 ++ (⟨#[32]⟩ : ByteArray)) ++ (⟨#[91]⟩ : ByteArray)) ++ t344) ++ (⟨#[58]⟩ : ByteArray)) ++ t345).size + 1 ≤ 9223372036854775807
                                  · rw [if_pos c40] at H
                                    have c40b0 := eq_true c40
                                    have c40b1 : decide ((((((x4_1 ++ (⟨#[32]⟩ : ByteArray)) ++ (⟨#[91]⟩ : ByteArray)) ++ t344) ++ (⟨#[58]⟩ : ByteArray)) ++ t345).size + 1 ≤ 9223372036854775807) = true := decide_eq_true c40
                                    have c40b2 : (9223372036854775807 < (((((x4_1 ++ (⟨#[32]⟩ : ByteArray)) ++ (⟨#[91]⟩ : ByteArray)) ++ t344) ++ (⟨#[58]⟩ : ByteArray)) ++ t345).size + 1) = False := eq_false (Nat.not_lt.2 c40)
                                    have c40b7 := c40b2
                                    simp only [ByteArray.size_append, show (⟨#[32]⟩ : ByteArray).size = 1 from rfl, show (⟨#[58]⟩ : ByteArray).size = 1 from rfl, show (⟨#[91]⟩ : ByteArray).size = 1 from rfl] at c40b7
                                    have H' := Aside0.mk H
                                    clear H
                                    have p12 : 0 ≤ (x9_1 : Int) := of_decide_eq_true (by first | (with_reducible assumption) | assumption)
                                    have q12 : x9_1 < (t338.size : Int) := of_decide_eq_true (by first | (with_reducible assumption) | assumption)
                                    have hx12 := bt_at t338 x9_1
                                    replace p12 := eq_true p12
                                    replace q12 := eq_true q12
                                    have hcz41_0 : wr.cell? ⟨gb336, 0, none⟩ = some (.string a0_0) := (blk_cell BK336.out 0).trans rfl
                                    have hcz41_1 : wr.cell? ⟨gb336, 1, none⟩ = some (.slice A0_1 l0_1.length c0_1) := (blk_cell BK336.out 1).trans rfl
                                    have hcz41_2 : wr.cell? ⟨gb336, 2, none⟩ = some (.slice A0_2 l0_2.length c0_2) := (blk_cell BK336.out 2).trans rfl
                                    have hcz41_3 : wr.cell? ⟨gb336, 3, none⟩ = some (.int .i64 a0_3) := (blk_cell BK336.out 3).trans rfl
                                    have hcz41_4 : wr.cell? ⟨gb336, 4, none⟩ = some (.int .i64 a0_4) := (blk_cell BK336.out 4).trans rfl
                                    have hcz41_5 : wr.cell? ⟨gb336, 5, none⟩ = some (.bool true) := (blk_cell BK336.out 5).trans rfl
                                    have hcz41_6 : wr.cell? ⟨gb336, 6, none⟩ = some (.bool true) := (blk_cell BK336.out 6).trans rfl
                                    have hcz41_7 : wr.cell? ⟨gb336, 7, none⟩ = some (.int .u8 a0_7) := (blk_cell BK336.out 7).trans rfl
                                    have hcz41_8 : wr.cell? ⟨gb336, 8, none⟩ = some (.string a0_8) := (blk_cell BK336.out 8).trans rfl
                                    have hcz41_9 : wr.cell? ⟨gb336, 9, none⟩ = some (.slice A0_9 l0_9.length c0_9) := (blk_cell BK336.out 9).trans rfl
                                    have hcz41_10 : wr.cell? ⟨gb336, 10, none⟩ = some (.slice A0_10 l0_10.length c0_10) := (blk_cell BK336.out 10).trans rfl
                                    have hfz41_0 := blk_frozen BK336.out 0
                                    have hfz41_1 := blk_frozen BK336.out 1
                                    have hfz41_2 := blk_frozen BK336.out 2
                                    have hfz41_3 := blk_frozen BK336.out 3
                                    have hfz41_4 := blk_frozen BK336.out 4
                                    have hfz41_5 := blk_frozen BK336.out 5
                                    have hfz41_6 := blk_frozen BK336.out 6
                                    have hfz41_7 := blk_frozen BK336.out 7
                                    have hfz41_8 := blk_frozen BK336.out 8
                                    have hfz41_9 := blk_frozen BK336.out 9
                                    have hfz41_10 := blk_frozen BK336.out 10
                                    go_wp2_with (first | ((with_reducible refine gate_callee (f := 62) rfl ?_); refine goesL_ (some 41) rfl rfl Tryz.func62 (by kernel_rfl) rfl #[.int .i64 a0_3] rfl (by (try simp only [List.map_toArray, List.map_cons, List.map_nil]); first | done | rfl | (simp only [List.length_drop, List.length_take]; rfl)) ?_; (with_reducible refine (epactref12_number.calls k1 a0_3 t344 _ A34.out).mono ?_); rintro e w42 ⟨rfl, hb⟩; refine ⟨_, rfl, ?_⟩; have n0_ := Aside0.mk (blk_below (g := gb336) (o := .cells #[.string a0_0, .slice A0_1 l0_1.length c0_1, .slice A0_2 l0_2.length c0_2, .int .i64 a0_3, .int .i64 a0_4, .bool true, .bool true, .int .u8 a0_7, .string a0_8, .slice A0_9 l0_9.length c0_9, .slice A0_10 l0_10.length c0_10] 42 (0, 0)) (by (with_reducible repeat (first | refine blk_drewN ?_ _ | refine blk_drew ?_ | refine blk_alloc ?_ _)); exact BK336.out) hb); have n1_ := Aside0.mk (below_step (by repeat (first | (with_reducible first | exact HB.out | apply below_alloc | apply pw_below_drewN | apply below_drew1 | refine below_set ?_ GE336.out) | exact HB.out)) hb); clear BK336; clear HB; have BK336 := n0_; have HB := n1_; clear n0_ n1_; (try clear hb); (try clear hb2); (try clear hk); (try clear hi); have hcz43_0 : w42.cell? ⟨gb336, 0, none⟩ = some (.string a0_0) := (blk_cell BK336.out 0).trans rfl; have hcz43_1 : w42.cell? ⟨gb336, 1, none⟩ = some (.slice A0_1 l0_1.length c0_1) := (blk_cell BK336.out 1).trans rfl; have hcz43_2 : w42.cell? ⟨gb336, 2, none⟩ = some (.slice A0_2 l0_2.length c0_2) := (blk_cell BK336.out 2).trans rfl; have hcz43_3 : w42.cell? ⟨gb336, 3, none⟩ = some (.int .i64 a0_3) := (blk_cell BK336.out 3).trans rfl; have hcz43_4 : w42.cell? ⟨gb336, 4, none⟩ = some (.int .i64 a0_4) := (blk_cell BK336.out 4).trans rfl; have hcz43_5 : w42.cell? ⟨gb336, 5, none⟩ = some (.bool true) := (blk_cell BK336.out 5).trans rfl; have hcz43_6 : w42.cell? ⟨gb336, 6, none⟩ = some (.bool true) := (blk_cell BK336.out 6).trans rfl; have hcz43_7 : w42.cell? ⟨gb336, 7, none⟩ = some (.int .u8 a0_7) := (blk_cell BK336.out 7).trans rfl; have hcz43_8 : w42.cell? ⟨gb336, 8, none⟩ = some (.string a0_8) := (blk_cell BK336.out 8).trans rfl; have hcz43_9 : w42.cell? ⟨gb336, 9, none⟩ = some (.slice A0_9 l0_9.length c0_9) := (blk_cell BK336.out 9).trans rfl; have hcz43_10 : w42.cell? ⟨gb336, 10, none⟩ = some (.slice A0_10 l0_10.length c0_10) := (blk_cell BK336.out 10).trans rfl; have hfz43_0 := blk_frozen BK336.out 0; have hfz43_1 := blk_frozen BK336.out 1; have hfz43_2 := blk_frozen BK336.out 2; have hfz43_3 := blk_frozen BK336.out 3; have hfz43_4 := blk_frozen BK336.out 4; have hfz43_5 := blk_frozen BK336.out 5; have hfz43_6 := blk_frozen BK336.out 6; have hfz43_7 := blk_frozen BK336.out 7; have hfz43_8 := blk_frozen BK336.out 8; have hfz43_9 := blk_frozen BK336.out 9; have hfz43_10 := blk_frozen BK336.out 10) | ((with_reducible refine gate_callee (f := 62) rfl ?_); refine goesL_ (some 52) rfl rfl Tryz.func62 (by kernel_rfl) rfl #[.int .i64 a0_4] rfl (by (try simp only [List.map_toArray, List.map_cons, List.map_nil]); first | done | rfl | (simp only [List.length_drop, List.length_take]; rfl)) ?_; (with_reducible refine (epactref12_number.calls k1 a0_4 t345 _ A38.out).mono ?_); rintro e w44 ⟨rfl, hb⟩; refine ⟨_, rfl, ?_⟩; have n0_ := Aside0.mk (blk_below (g := gb336) (o := .cells #[.string a0_0, .slice A0_1 l0_1.length c0_1, .slice A0_2 l0_2.length c0_2, .int .i64 a0_3, .int .i64 a0_4, .bool true, .bool true, .int .u8 a0_7, .string a0_8, .slice A0_9 l0_9.length c0_9, .slice A0_10 l0_10.length c0_10] 42 (0, 0)) (by (with_reducible repeat (first | refine blk_drewN ?_ _ | refine blk_drew ?_ | refine blk_alloc ?_ _)); exact BK336.out) hb); have n1_ := Aside0.mk (below_step (by repeat (first | (with_reducible first | exact HB.out | apply below_alloc | apply pw_below_drewN | apply below_drew1 | refine below_set ?_ GE336.out) | exact HB.out)) hb); clear BK336; clear HB; have BK336 := n0_; have HB := n1_; clear n0_ n1_; (try clear hb); (try clear hb2); (try clear hk); (try clear hi)))
                                    go_roundg k1
                                    case measure => have := HK1.out; omega
                                    case rel => exact ⟨((((((x4_1 ++ (⟨#[32]⟩ : ByteArray)) ++ (⟨#[91]⟩ : ByteArray)) ++ t344) ++ (⟨#[58]⟩ : ByteArray)) ++ t345) ++ (⟨#[93]⟩ : ByteArray)), (x7_1), (x8_1), (wrap64 (x9_1 + 1)), (by first | rfl | (simp; done) | (simp [*]; done)), (by first | rfl | (simp; done) | (simp [*]; done)), (by first | rfl | (simp; done) | (simp [*]; done)), (by first | rfl | (simp; done) | (simp [*]; done)), H', ⟨by have := HK1.out; omega⟩, ⟨by (with_reducible repeat (first | refine blk_drewN ?_ _ | refine blk_drew ?_ | refine blk_alloc ?_ _)); exact BK336.out⟩, ⟨by repeat (first | (with_reducible first | exact HB.out | apply below_alloc | apply pw_below_drewN | apply below_drew1 | refine below_set ?_ GE336.out) | exact HB.out)⟩⟩
                                  · rw [if_neg c40] at H
                                    exact absurd H (by simp)
                                · rw [if_neg c39] at H
                                  exact absurd H (by simp)
                              · replace c37 := Bool.eq_false_iff.mpr c37
                                subst c37
                                have H1 : (if ((((x4_1 ++ (⟨#[32]⟩ : ByteArray)) ++ (⟨#[91]⟩ : ByteArray)) ++ t344) ++ (⟨#[58]⟩ : ByteArray)).size + 1 ≤ 9223372036854775807 then (epactref12_Command.l0 k1 (((((x4_1 ++ (⟨#[32]⟩ : ByteArray)) ++ (⟨#[91]⟩ : ByteArray)) ++ t344) ++ (⟨#[58]⟩ : ByteArray)) ++ (⟨#[93]⟩ : ByteArray)) t338 x7_1 x8_1 (wrap64 (x9_1 + 1)) a0_0 l0_1 l0_2 a0_3 a0_4 true false a0_7 a0_8 l0_9 l0_10) else (none)) = some (r1, r2) := by rw [if_neg (show ¬ (false = true) by decide)] at H; exact H
                                clear H
                                have H := H1
                                clear H1
                                by_cases c45 : ((((x4_1 ++ (⟨#[32]⟩ : ByteArray)) ++ (⟨#[91]⟩ : ByteArray)) ++ t344) ++ (⟨#[58]⟩ : ByteArray)).size + 1 ≤ 9223372036854775807
                                · rw [if_pos c45] at H
                                  have c45b0 := eq_true c45
                                  have c45b1 : decide (((((x4_1 ++ (⟨#[32]⟩ : ByteArray)) ++ (⟨#[91]⟩ : ByteArray)) ++ t344) ++ (⟨#[58]⟩ : ByteArray)).size + 1 ≤ 9223372036854775807) = true := decide_eq_true c45
                                  have c45b2 : (9223372036854775807 < ((((x4_1 ++ (⟨#[32]⟩ : ByteArray)) ++ (⟨#[91]⟩ : ByteArray)) ++ t344) ++ (⟨#[58]⟩ : ByteArray)).size + 1) = False := eq_false (Nat.not_lt.2 c45)
                                  have c45b7 := c45b2
                                  simp only [ByteArray.size_append, show (⟨#[32]⟩ : ByteArray).size = 1 from rfl, show (⟨#[58]⟩ : ByteArray).size = 1 from rfl, show (⟨#[91]⟩ : ByteArray).size = 1 from rfl] at c45b7
                                  have H' := Aside0.mk H
                                  clear H
                                  have p12 : 0 ≤ (x9_1 : Int) := of_decide_eq_true (by first | (with_reducible assumption) | assumption)
                                  have q12 : x9_1 < (t338.size : Int) := of_decide_eq_true (by first | (with_reducible assumption) | assumption)
                                  have hx12 := bt_at t338 x9_1
                                  replace p12 := eq_true p12
                                  replace q12 := eq_true q12
                                  have hcz46_0 : wr.cell? ⟨gb336, 0, none⟩ = some (.string a0_0) := (blk_cell BK336.out 0).trans rfl
                                  have hcz46_1 : wr.cell? ⟨gb336, 1, none⟩ = some (.slice A0_1 l0_1.length c0_1) := (blk_cell BK336.out 1).trans rfl
                                  have hcz46_2 : wr.cell? ⟨gb336, 2, none⟩ = some (.slice A0_2 l0_2.length c0_2) := (blk_cell BK336.out 2).trans rfl
                                  have hcz46_3 : wr.cell? ⟨gb336, 3, none⟩ = some (.int .i64 a0_3) := (blk_cell BK336.out 3).trans rfl
                                  have hcz46_4 : wr.cell? ⟨gb336, 4, none⟩ = some (.int .i64 a0_4) := (blk_cell BK336.out 4).trans rfl
                                  have hcz46_5 : wr.cell? ⟨gb336, 5, none⟩ = some (.bool true) := (blk_cell BK336.out 5).trans rfl
                                  have hcz46_6 : wr.cell? ⟨gb336, 6, none⟩ = some (.bool false) := (blk_cell BK336.out 6).trans rfl
                                  have hcz46_7 : wr.cell? ⟨gb336, 7, none⟩ = some (.int .u8 a0_7) := (blk_cell BK336.out 7).trans rfl
                                  have hcz46_8 : wr.cell? ⟨gb336, 8, none⟩ = some (.string a0_8) := (blk_cell BK336.out 8).trans rfl
                                  have hcz46_9 : wr.cell? ⟨gb336, 9, none⟩ = some (.slice A0_9 l0_9.length c0_9) := (blk_cell BK336.out 9).trans rfl
                                  have hcz46_10 : wr.cell? ⟨gb336, 10, none⟩ = some (.slice A0_10 l0_10.length c0_10) := (blk_cell BK336.out 10).trans rfl
                                  have hfz46_0 := blk_frozen BK336.out 0
                                  have hfz46_1 := blk_frozen BK336.out 1
                                  have hfz46_2 := blk_frozen BK336.out 2
                                  have hfz46_3 := blk_frozen BK336.out 3
                                  have hfz46_4 := blk_frozen BK336.out 4
                                  have hfz46_5 := blk_frozen BK336.out 5
                                  have hfz46_6 := blk_frozen BK336.out 6
                                  have hfz46_7 := blk_frozen BK336.out 7
                                  have hfz46_8 := blk_frozen BK336.out 8
                                  have hfz46_9 := blk_frozen BK336.out 9
                                  have hfz46_10 := blk_frozen BK336.out 10
                                  go_wp2_with (first | ((with_reducible refine gate_callee (f := 62) rfl ?_); refine goesL_ (some 41) rfl rfl Tryz.func62 (by kernel_rfl) rfl #[.int .i64 a0_3] rfl (by (try simp only [List.map_toArray, List.map_cons, List.map_nil]); first | done | rfl | (simp only [List.length_drop, List.length_take]; rfl)) ?_; (with_reducible refine (epactref12_number.calls k1 a0_3 t344 _ A34.out).mono ?_); rintro e w47 ⟨rfl, hb⟩; refine ⟨_, rfl, ?_⟩; have n0_ := Aside0.mk (blk_below (g := gb336) (o := .cells #[.string a0_0, .slice A0_1 l0_1.length c0_1, .slice A0_2 l0_2.length c0_2, .int .i64 a0_3, .int .i64 a0_4, .bool true, .bool false, .int .u8 a0_7, .string a0_8, .slice A0_9 l0_9.length c0_9, .slice A0_10 l0_10.length c0_10] 42 (0, 0)) (by (with_reducible repeat (first | refine blk_drewN ?_ _ | refine blk_drew ?_ | refine blk_alloc ?_ _)); exact BK336.out) hb); have n1_ := Aside0.mk (below_step (by repeat (first | (with_reducible first | exact HB.out | apply below_alloc | apply pw_below_drewN | apply below_drew1 | refine below_set ?_ GE336.out) | exact HB.out)) hb); clear BK336; clear HB; have BK336 := n0_; have HB := n1_; clear n0_ n1_; (try clear hb); (try clear hb2); (try clear hk); (try clear hi); have hcz48_0 : w47.cell? ⟨gb336, 0, none⟩ = some (.string a0_0) := (blk_cell BK336.out 0).trans rfl; have hcz48_1 : w47.cell? ⟨gb336, 1, none⟩ = some (.slice A0_1 l0_1.length c0_1) := (blk_cell BK336.out 1).trans rfl; have hcz48_2 : w47.cell? ⟨gb336, 2, none⟩ = some (.slice A0_2 l0_2.length c0_2) := (blk_cell BK336.out 2).trans rfl; have hcz48_3 : w47.cell? ⟨gb336, 3, none⟩ = some (.int .i64 a0_3) := (blk_cell BK336.out 3).trans rfl; have hcz48_4 : w47.cell? ⟨gb336, 4, none⟩ = some (.int .i64 a0_4) := (blk_cell BK336.out 4).trans rfl; have hcz48_5 : w47.cell? ⟨gb336, 5, none⟩ = some (.bool true) := (blk_cell BK336.out 5).trans rfl; have hcz48_6 : w47.cell? ⟨gb336, 6, none⟩ = some (.bool false) := (blk_cell BK336.out 6).trans rfl; have hcz48_7 : w47.cell? ⟨gb336, 7, none⟩ = some (.int .u8 a0_7) := (blk_cell BK336.out 7).trans rfl; have hcz48_8 : w47.cell? ⟨gb336, 8, none⟩ = some (.string a0_8) := (blk_cell BK336.out 8).trans rfl; have hcz48_9 : w47.cell? ⟨gb336, 9, none⟩ = some (.slice A0_9 l0_9.length c0_9) := (blk_cell BK336.out 9).trans rfl; have hcz48_10 : w47.cell? ⟨gb336, 10, none⟩ = some (.slice A0_10 l0_10.length c0_10) := (blk_cell BK336.out 10).trans rfl; have hfz48_0 := blk_frozen BK336.out 0; have hfz48_1 := blk_frozen BK336.out 1; have hfz48_2 := blk_frozen BK336.out 2; have hfz48_3 := blk_frozen BK336.out 3; have hfz48_4 := blk_frozen BK336.out 4; have hfz48_5 := blk_frozen BK336.out 5; have hfz48_6 := blk_frozen BK336.out 6; have hfz48_7 := blk_frozen BK336.out 7; have hfz48_8 := blk_frozen BK336.out 8; have hfz48_9 := blk_frozen BK336.out 9; have hfz48_10 := blk_frozen BK336.out 10))
                                  go_roundg k1
                                  case measure => have := HK1.out; omega
                                  case rel => exact ⟨(((((x4_1 ++ (⟨#[32]⟩ : ByteArray)) ++ (⟨#[91]⟩ : ByteArray)) ++ t344) ++ (⟨#[58]⟩ : ByteArray)) ++ (⟨#[93]⟩ : ByteArray)), (x7_1), (x8_1), (wrap64 (x9_1 + 1)), (by first | rfl | (simp; done) | (simp [*]; done)), (by first | rfl | (simp; done) | (simp [*]; done)), (by first | rfl | (simp; done) | (simp [*]; done)), (by first | rfl | (simp; done) | (simp [*]; done)), H', ⟨by have := HK1.out; omega⟩, ⟨by (with_reducible repeat (first | refine blk_drewN ?_ _ | refine blk_drew ?_ | refine blk_alloc ?_ _)); exact BK336.out⟩, ⟨by repeat (first | (with_reducible first | exact HB.out | apply below_alloc | apply pw_below_drewN | apply below_drew1 | refine below_set ?_ GE336.out) | exact HB.out)⟩⟩
                                · rw [if_neg c45] at H
                                  exact absurd H (by simp)
                            · rw [if_neg c36] at H
                              exact absurd H (by simp)
                          · rw [if_neg c35] at H
                            exact absurd H (by simp)
                        · replace c33 := Bool.eq_false_iff.mpr c33
                          subst c33
                          have H1 : (if ((x4_1 ++ (⟨#[32]⟩ : ByteArray)) ++ (⟨#[91]⟩ : ByteArray)).size + 1 ≤ 9223372036854775807 then (if a0_6 = true then ((epactref12_number.f k1 a0_4).bind fun t346 => (if (((x4_1 ++ (⟨#[32]⟩ : ByteArray)) ++ (⟨#[91]⟩ : ByteArray)) ++ (⟨#[58]⟩ : ByteArray)).size + t346.size ≤ 9223372036854775807 then (if ((((x4_1 ++ (⟨#[32]⟩ : ByteArray)) ++ (⟨#[91]⟩ : ByteArray)) ++ (⟨#[58]⟩ : ByteArray)) ++ t346).size + 1 ≤ 9223372036854775807 then (epactref12_Command.l0 k1 (((((x4_1 ++ (⟨#[32]⟩ : ByteArray)) ++ (⟨#[91]⟩ : ByteArray)) ++ (⟨#[58]⟩ : ByteArray)) ++ t346) ++ (⟨#[93]⟩ : ByteArray)) t338 x7_1 x8_1 (wrap64 (x9_1 + 1)) a0_0 l0_1 l0_2 a0_3 a0_4 false a0_6 a0_7 a0_8 l0_9 l0_10) else (none)) else (none))) else (if (((x4_1 ++ (⟨#[32]⟩ : ByteArray)) ++ (⟨#[91]⟩ : ByteArray)) ++ (⟨#[58]⟩ : ByteArray)).size + 1 ≤ 9223372036854775807 then (epactref12_Command.l0 k1 ((((x4_1 ++ (⟨#[32]⟩ : ByteArray)) ++ (⟨#[91]⟩ : ByteArray)) ++ (⟨#[58]⟩ : ByteArray)) ++ (⟨#[93]⟩ : ByteArray)) t338 x7_1 x8_1 (wrap64 (x9_1 + 1)) a0_0 l0_1 l0_2 a0_3 a0_4 false a0_6 a0_7 a0_8 l0_9 l0_10) else (none))) else (none)) = some (r1, r2) := by rw [if_neg (show ¬ (false = true) by decide)] at H; exact H
                          clear H
                          have H := H1
                          clear H1
                          by_cases c49 : ((x4_1 ++ (⟨#[32]⟩ : ByteArray)) ++ (⟨#[91]⟩ : ByteArray)).size + 1 ≤ 9223372036854775807
                          · rw [if_pos c49] at H
                            have c49b0 := eq_true c49
                            have c49b1 : decide (((x4_1 ++ (⟨#[32]⟩ : ByteArray)) ++ (⟨#[91]⟩ : ByteArray)).size + 1 ≤ 9223372036854775807) = true := decide_eq_true c49
                            have c49b2 : (9223372036854775807 < ((x4_1 ++ (⟨#[32]⟩ : ByteArray)) ++ (⟨#[91]⟩ : ByteArray)).size + 1) = False := eq_false (Nat.not_lt.2 c49)
                            have c49b7 := c49b2
                            simp only [ByteArray.size_append, show (⟨#[32]⟩ : ByteArray).size = 1 from rfl, show (⟨#[91]⟩ : ByteArray).size = 1 from rfl] at c49b7
                            by_cases c50 : a0_6 = true
                            · subst c50
                              have H1 : ((epactref12_number.f k1 a0_4).bind fun t346 => (if (((x4_1 ++ (⟨#[32]⟩ : ByteArray)) ++ (⟨#[91]⟩ : ByteArray)) ++ (⟨#[58]⟩ : ByteArray)).size + t346.size ≤ 9223372036854775807 then (if ((((x4_1 ++ (⟨#[32]⟩ : ByteArray)) ++ (⟨#[91]⟩ : ByteArray)) ++ (⟨#[58]⟩ : ByteArray)) ++ t346).size + 1 ≤ 9223372036854775807 then (epactref12_Command.l0 k1 (((((x4_1 ++ (⟨#[32]⟩ : ByteArray)) ++ (⟨#[91]⟩ : ByteArray)) ++ (⟨#[58]⟩ : ByteArray)) ++ t346) ++ (⟨#[93]⟩ : ByteArray)) t338 x7_1 x8_1 (wrap64 (x9_1 + 1)) a0_0 l0_1 l0_2 a0_3 a0_4 false true a0_7 a0_8 l0_9 l0_10) else (none)) else (none))) = some (r1, r2) := by rw [if_pos rfl] at H; exact H
                              clear H
                              have H := H1
                              clear H1
                              replace H := Option.bind_eq_some_iff.mp H
                              obtain ⟨t346, A510, H⟩ := H
                              replace H : (if (((x4_1 ++ (⟨#[32]⟩ : ByteArray)) ++ (⟨#[91]⟩ : ByteArray)) ++ (⟨#[58]⟩ : ByteArray)).size + t346.size ≤ 9223372036854775807 then (if ((((x4_1 ++ (⟨#[32]⟩ : ByteArray)) ++ (⟨#[91]⟩ : ByteArray)) ++ (⟨#[58]⟩ : ByteArray)) ++ t346).size + 1 ≤ 9223372036854775807 then (epactref12_Command.l0 k1 (((((x4_1 ++ (⟨#[32]⟩ : ByteArray)) ++ (⟨#[91]⟩ : ByteArray)) ++ (⟨#[58]⟩ : ByteArray)) ++ t346) ++ (⟨#[93]⟩ : ByteArray)) t338 x7_1 x8_1 (wrap64 (x9_1 + 1)) a0_0 l0_1 l0_2 a0_3 a0_4 false true a0_7 a0_8 l0_9 l0_10) else (none)) else (none)) = some (r1, r2) := H
                              have A51 := Aside0.mk A510
                              clear A510
                              by_cases c52 : (((x4_1 ++ (⟨#[32]⟩ : ByteArray)) ++ (⟨#[91]⟩ : ByteArray)) ++ (⟨#[58]⟩ : ByteArray)).size + t346.size ≤ 9223372036854775807
                              · rw [if_pos c52] at H
                                have c52b0 := eq_true c52
                                have c52b1 : decide ((((x4_1 ++ (⟨#[32]⟩ : ByteArray)) ++ (⟨#[91]⟩ : ByteArray)) ++ (⟨#[58]⟩ : ByteArray)).size + t346.size ≤ 9223372036854775807) = true := decide_eq_true c52
                                have c52b2 : (9223372036854775807 < (((x4_1 ++ (⟨#[32]⟩ : ByteArray)) ++ (⟨#[91]⟩ : ByteArray)) ++ (⟨#[58]⟩ : ByteArray)).size + t346.size) = False := eq_false (Nat.not_lt.2 c52)
                                have c52b7 := c52b2
                                simp only [ByteArray.size_append, show (⟨#[32]⟩ : ByteArray).size = 1 from rfl, show (⟨#[58]⟩ : ByteArray).size = 1 from rfl, show (⟨#[91]⟩ : ByteArray).size = 1 from rfl] at c52b7
                                by_cases c53 : ((((x4_1 ++ (⟨#[32]⟩ : ByteArray)) ++ (⟨#[91]⟩ : ByteArray)) ++ (⟨#[58]⟩ : ByteArray)) ++ t346).size + 1 ≤ 9223372036854775807
                                · rw [if_pos c53] at H
                                  have c53b0 := eq_true c53
                                  have c53b1 : decide (((((x4_1 ++ (⟨#[32]⟩ : ByteArray)) ++ (⟨#[91]⟩ : ByteArray)) ++ (⟨#[58]⟩ : ByteArray)) ++ t346).size + 1 ≤ 9223372036854775807) = true := decide_eq_true c53
                                  have c53b2 : (9223372036854775807 < ((((x4_1 ++ (⟨#[32]⟩ : ByteArray)) ++ (⟨#[91]⟩ : ByteArray)) ++ (⟨#[58]⟩ : ByteArray)) ++ t346).size + 1) = False := eq_false (Nat.not_lt.2 c53)
                                  have c53b7 := c53b2
                                  simp only [ByteArray.size_append, show (⟨#[32]⟩ : ByteArray).size = 1 from rfl, show (⟨#[58]⟩ : ByteArray).size = 1 from rfl, show (⟨#[91]⟩ : ByteArray).size = 1 from rfl] at c53b7
                                  have H' := Aside0.mk H
                                  clear H
                                  have p12 : 0 ≤ (x9_1 : Int) := of_decide_eq_true (by first | (with_reducible assumption) | assumption)
                                  have q12 : x9_1 < (t338.size : Int) := of_decide_eq_true (by first | (with_reducible assumption) | assumption)
                                  have hx12 := bt_at t338 x9_1
                                  replace p12 := eq_true p12
                                  replace q12 := eq_true q12
                                  have hcz54_0 : wr.cell? ⟨gb336, 0, none⟩ = some (.string a0_0) := (blk_cell BK336.out 0).trans rfl
                                  have hcz54_1 : wr.cell? ⟨gb336, 1, none⟩ = some (.slice A0_1 l0_1.length c0_1) := (blk_cell BK336.out 1).trans rfl
                                  have hcz54_2 : wr.cell? ⟨gb336, 2, none⟩ = some (.slice A0_2 l0_2.length c0_2) := (blk_cell BK336.out 2).trans rfl
                                  have hcz54_3 : wr.cell? ⟨gb336, 3, none⟩ = some (.int .i64 a0_3) := (blk_cell BK336.out 3).trans rfl
                                  have hcz54_4 : wr.cell? ⟨gb336, 4, none⟩ = some (.int .i64 a0_4) := (blk_cell BK336.out 4).trans rfl
                                  have hcz54_5 : wr.cell? ⟨gb336, 5, none⟩ = some (.bool false) := (blk_cell BK336.out 5).trans rfl
                                  have hcz54_6 : wr.cell? ⟨gb336, 6, none⟩ = some (.bool true) := (blk_cell BK336.out 6).trans rfl
                                  have hcz54_7 : wr.cell? ⟨gb336, 7, none⟩ = some (.int .u8 a0_7) := (blk_cell BK336.out 7).trans rfl
                                  have hcz54_8 : wr.cell? ⟨gb336, 8, none⟩ = some (.string a0_8) := (blk_cell BK336.out 8).trans rfl
                                  have hcz54_9 : wr.cell? ⟨gb336, 9, none⟩ = some (.slice A0_9 l0_9.length c0_9) := (blk_cell BK336.out 9).trans rfl
                                  have hcz54_10 : wr.cell? ⟨gb336, 10, none⟩ = some (.slice A0_10 l0_10.length c0_10) := (blk_cell BK336.out 10).trans rfl
                                  have hfz54_0 := blk_frozen BK336.out 0
                                  have hfz54_1 := blk_frozen BK336.out 1
                                  have hfz54_2 := blk_frozen BK336.out 2
                                  have hfz54_3 := blk_frozen BK336.out 3
                                  have hfz54_4 := blk_frozen BK336.out 4
                                  have hfz54_5 := blk_frozen BK336.out 5
                                  have hfz54_6 := blk_frozen BK336.out 6
                                  have hfz54_7 := blk_frozen BK336.out 7
                                  have hfz54_8 := blk_frozen BK336.out 8
                                  have hfz54_9 := blk_frozen BK336.out 9
                                  have hfz54_10 := blk_frozen BK336.out 10
                                  go_wp2_with (first | ((with_reducible refine gate_callee (f := 62) rfl ?_); refine goesL_ (some 52) rfl rfl Tryz.func62 (by kernel_rfl) rfl #[.int .i64 a0_4] rfl (by (try simp only [List.map_toArray, List.map_cons, List.map_nil]); first | done | rfl | (simp only [List.length_drop, List.length_take]; rfl)) ?_; (with_reducible refine (epactref12_number.calls k1 a0_4 t346 _ A51.out).mono ?_); rintro e w55 ⟨rfl, hb⟩; refine ⟨_, rfl, ?_⟩; have n0_ := Aside0.mk (blk_below (g := gb336) (o := .cells #[.string a0_0, .slice A0_1 l0_1.length c0_1, .slice A0_2 l0_2.length c0_2, .int .i64 a0_3, .int .i64 a0_4, .bool false, .bool true, .int .u8 a0_7, .string a0_8, .slice A0_9 l0_9.length c0_9, .slice A0_10 l0_10.length c0_10] 42 (0, 0)) (by (with_reducible repeat (first | refine blk_drewN ?_ _ | refine blk_drew ?_ | refine blk_alloc ?_ _)); exact BK336.out) hb); have n1_ := Aside0.mk (below_step (by repeat (first | (with_reducible first | exact HB.out | apply below_alloc | apply pw_below_drewN | apply below_drew1 | refine below_set ?_ GE336.out) | exact HB.out)) hb); clear BK336; clear HB; have BK336 := n0_; have HB := n1_; clear n0_ n1_; (try clear hb); (try clear hb2); (try clear hk); (try clear hi)))
                                  go_roundg k1
                                  case measure => have := HK1.out; omega
                                  case rel => exact ⟨(((((x4_1 ++ (⟨#[32]⟩ : ByteArray)) ++ (⟨#[91]⟩ : ByteArray)) ++ (⟨#[58]⟩ : ByteArray)) ++ t346) ++ (⟨#[93]⟩ : ByteArray)), (x7_1), (x8_1), (wrap64 (x9_1 + 1)), (by first | rfl | (simp; done) | (simp [*]; done)), (by first | rfl | (simp; done) | (simp [*]; done)), (by first | rfl | (simp; done) | (simp [*]; done)), (by first | rfl | (simp; done) | (simp [*]; done)), H', ⟨by have := HK1.out; omega⟩, ⟨by (with_reducible repeat (first | refine blk_drewN ?_ _ | refine blk_drew ?_ | refine blk_alloc ?_ _)); exact BK336.out⟩, ⟨by repeat (first | (with_reducible first | exact HB.out | apply below_alloc | apply pw_below_drewN | apply below_drew1 | refine below_set ?_ GE336.out) | exact HB.out)⟩⟩
                                · rw [if_neg c53] at H
                                  exact absurd H (by simp)
                              · rw [if_neg c52] at H
                                exact absurd H (by simp)
                            · replace c50 := Bool.eq_false_iff.mpr c50
                              subst c50
                              have H1 : (if (((x4_1 ++ (⟨#[32]⟩ : ByteArray)) ++ (⟨#[91]⟩ : ByteArray)) ++ (⟨#[58]⟩ : ByteArray)).size + 1 ≤ 9223372036854775807 then (epactref12_Command.l0 k1 ((((x4_1 ++ (⟨#[32]⟩ : ByteArray)) ++ (⟨#[91]⟩ : ByteArray)) ++ (⟨#[58]⟩ : ByteArray)) ++ (⟨#[93]⟩ : ByteArray)) t338 x7_1 x8_1 (wrap64 (x9_1 + 1)) a0_0 l0_1 l0_2 a0_3 a0_4 false false a0_7 a0_8 l0_9 l0_10) else (none)) = some (r1, r2) := by rw [if_neg (show ¬ (false = true) by decide)] at H; exact H
                              clear H
                              have H := H1
                              clear H1
                              by_cases c56 : (((x4_1 ++ (⟨#[32]⟩ : ByteArray)) ++ (⟨#[91]⟩ : ByteArray)) ++ (⟨#[58]⟩ : ByteArray)).size + 1 ≤ 9223372036854775807
                              · rw [if_pos c56] at H
                                have c56b0 := eq_true c56
                                have c56b1 : decide ((((x4_1 ++ (⟨#[32]⟩ : ByteArray)) ++ (⟨#[91]⟩ : ByteArray)) ++ (⟨#[58]⟩ : ByteArray)).size + 1 ≤ 9223372036854775807) = true := decide_eq_true c56
                                have c56b2 : (9223372036854775807 < (((x4_1 ++ (⟨#[32]⟩ : ByteArray)) ++ (⟨#[91]⟩ : ByteArray)) ++ (⟨#[58]⟩ : ByteArray)).size + 1) = False := eq_false (Nat.not_lt.2 c56)
                                have c56b7 := c56b2
                                simp only [ByteArray.size_append, show (⟨#[32]⟩ : ByteArray).size = 1 from rfl, show (⟨#[58]⟩ : ByteArray).size = 1 from rfl, show (⟨#[91]⟩ : ByteArray).size = 1 from rfl] at c56b7
                                have H' := Aside0.mk H
                                clear H
                                have p12 : 0 ≤ (x9_1 : Int) := of_decide_eq_true (by first | (with_reducible assumption) | assumption)
                                have q12 : x9_1 < (t338.size : Int) := of_decide_eq_true (by first | (with_reducible assumption) | assumption)
                                have hx12 := bt_at t338 x9_1
                                replace p12 := eq_true p12
                                replace q12 := eq_true q12
                                have hcz57_0 : wr.cell? ⟨gb336, 0, none⟩ = some (.string a0_0) := (blk_cell BK336.out 0).trans rfl
                                have hcz57_1 : wr.cell? ⟨gb336, 1, none⟩ = some (.slice A0_1 l0_1.length c0_1) := (blk_cell BK336.out 1).trans rfl
                                have hcz57_2 : wr.cell? ⟨gb336, 2, none⟩ = some (.slice A0_2 l0_2.length c0_2) := (blk_cell BK336.out 2).trans rfl
                                have hcz57_3 : wr.cell? ⟨gb336, 3, none⟩ = some (.int .i64 a0_3) := (blk_cell BK336.out 3).trans rfl
                                have hcz57_4 : wr.cell? ⟨gb336, 4, none⟩ = some (.int .i64 a0_4) := (blk_cell BK336.out 4).trans rfl
                                have hcz57_5 : wr.cell? ⟨gb336, 5, none⟩ = some (.bool false) := (blk_cell BK336.out 5).trans rfl
                                have hcz57_6 : wr.cell? ⟨gb336, 6, none⟩ = some (.bool false) := (blk_cell BK336.out 6).trans rfl
                                have hcz57_7 : wr.cell? ⟨gb336, 7, none⟩ = some (.int .u8 a0_7) := (blk_cell BK336.out 7).trans rfl
                                have hcz57_8 : wr.cell? ⟨gb336, 8, none⟩ = some (.string a0_8) := (blk_cell BK336.out 8).trans rfl
                                have hcz57_9 : wr.cell? ⟨gb336, 9, none⟩ = some (.slice A0_9 l0_9.length c0_9) := (blk_cell BK336.out 9).trans rfl
                                have hcz57_10 : wr.cell? ⟨gb336, 10, none⟩ = some (.slice A0_10 l0_10.length c0_10) := (blk_cell BK336.out 10).trans rfl
                                have hfz57_0 := blk_frozen BK336.out 0
                                have hfz57_1 := blk_frozen BK336.out 1
                                have hfz57_2 := blk_frozen BK336.out 2
                                have hfz57_3 := blk_frozen BK336.out 3
                                have hfz57_4 := blk_frozen BK336.out 4
                                have hfz57_5 := blk_frozen BK336.out 5
                                have hfz57_6 := blk_frozen BK336.out 6
                                have hfz57_7 := blk_frozen BK336.out 7
                                have hfz57_8 := blk_frozen BK336.out 8
                                have hfz57_9 := blk_frozen BK336.out 9
                                have hfz57_10 := blk_frozen BK336.out 10
                                go_wp2
                                go_roundg k1
                                case measure => have := HK1.out; omega
                                case rel => exact ⟨((((x4_1 ++ (⟨#[32]⟩ : ByteArray)) ++ (⟨#[91]⟩ : ByteArray)) ++ (⟨#[58]⟩ : ByteArray)) ++ (⟨#[93]⟩ : ByteArray)), (x7_1), (x8_1), (wrap64 (x9_1 + 1)), (by first | rfl | (simp; done) | (simp [*]; done)), (by first | rfl | (simp; done) | (simp [*]; done)), (by first | rfl | (simp; done) | (simp [*]; done)), (by first | rfl | (simp; done) | (simp [*]; done)), H', ⟨by have := HK1.out; omega⟩, ⟨by (with_reducible repeat (first | refine blk_drewN ?_ _ | refine blk_drew ?_ | refine blk_alloc ?_ _)); exact BK336.out⟩, ⟨by repeat (first | (with_reducible first | exact HB.out | apply below_alloc | apply pw_below_drewN | apply below_drew1 | refine below_set ?_ GE336.out) | exact HB.out)⟩⟩
                              · rw [if_neg c56] at H
                                exact absurd H (by simp)
                          · rw [if_neg c49] at H
                            exact absurd H (by simp)
                      · rw [if_neg c32] at H
                        exact absurd H (by simp)
            · rw [if_neg c11] at H
              exact absurd H (by simp)
          · rw [if_neg c10] at H
            exact absurd H (by simp)
        · rw [if_neg c9] at H
          have c9b0 : decide (x9_1 < (t338.size : Int)) = false := decide_eq_false c9
          clear c9
          simp only [Option.some.injEq, Prod.mk.injEq] at H
          obtain ⟨rfl, rfl⟩ := H
          go_wp2
          go_ret2
          exact ⟨by first | rfl | (simp [errW_none, errW_some] <;> rfl) | (simp [*, errW_none, errW_some] <;> rfl), by repeat (first | (with_reducible first | exact HB.out | apply below_alloc | apply pw_below_drewN | apply below_drew1 | refine below_set ?_ GE336.out) | exact HB.out)⟩
  · replace c3 := Bool.eq_false_iff.mpr c3
    subst c3
    have H1 : (some ((⟨#[]⟩ : ByteArray), 110)) = some (r1, r2) := by rw [if_neg (show ¬ (false = true) by decide)] at H; exact H
    clear H
    have H := H1
    clear H1
    simp only [Option.some.injEq, Prod.mk.injEq] at H
    obtain ⟨rfl, rfl⟩ := H
    go_enter Tryz.func23, Tryz.ntmps23
    go_wp2_with (first | ((with_reducible refine gate_dst (N := 1) rfl ?_); refine box_event ?hg (N := 1) ?hd (cs := #[.string a0_0, .slice A0_1 l0_1.length c0_1, .slice A0_2 l0_2.length c0_2, .int .i64 a0_3, .int .i64 a0_4, .bool a0_5, .bool a0_6, .int .u8 a0_7, .string a0_8, .slice A0_9 l0_9.length c0_9, .slice A0_10 l0_10.length c0_10]) (t := 42) ?hr ?_; (case hd => rfl); (case hg => rfl); (case hr => first | (go_simp; done) | (go_simp; rfl)); intro gb336 hg w58 hbox hb; have n0_ := Aside0.mk (below_step (by repeat (first | (with_reducible first | exact HB.out | apply below_alloc | apply pw_below_drewN | apply below_drew1) | exact HB.out)) hb); have n1_ := Aside0.mk (hbox); have n2_ := Aside0.mk ((by rw [hg]; exact (below_size (by repeat (first | (with_reducible first | exact HB.out | apply below_alloc | apply pw_below_drewN | apply below_drew1) | exact HB.out))) : w.heap.size ≤ gb336)); have n3_ := Aside0.mk ((by rw [hg]; exact (below_size (by repeat (first | (with_reducible first | exact HB.out | apply below_alloc | apply pw_below_drewN | apply below_drew1) | exact HB.out))) : w.heap.size ≤ gb336)); clear HB; have HB := n0_; have BK336 := n1_; have GW336 := n2_; have GE336 := n3_; clear n0_ n1_ n2_ n3_; clear hb hbox hg; have hcz59_0 : w58.cell? ⟨gb336, 0, none⟩ = some (.string a0_0) := (blk_cell BK336.out 0).trans rfl; have hcz59_1 : w58.cell? ⟨gb336, 1, none⟩ = some (.slice A0_1 l0_1.length c0_1) := (blk_cell BK336.out 1).trans rfl; have hcz59_2 : w58.cell? ⟨gb336, 2, none⟩ = some (.slice A0_2 l0_2.length c0_2) := (blk_cell BK336.out 2).trans rfl; have hcz59_3 : w58.cell? ⟨gb336, 3, none⟩ = some (.int .i64 a0_3) := (blk_cell BK336.out 3).trans rfl; have hcz59_4 : w58.cell? ⟨gb336, 4, none⟩ = some (.int .i64 a0_4) := (blk_cell BK336.out 4).trans rfl; have hcz59_5 : w58.cell? ⟨gb336, 5, none⟩ = some (.bool a0_5) := (blk_cell BK336.out 5).trans rfl; have hcz59_6 : w58.cell? ⟨gb336, 6, none⟩ = some (.bool a0_6) := (blk_cell BK336.out 6).trans rfl; have hcz59_7 : w58.cell? ⟨gb336, 7, none⟩ = some (.int .u8 a0_7) := (blk_cell BK336.out 7).trans rfl; have hcz59_8 : w58.cell? ⟨gb336, 8, none⟩ = some (.string a0_8) := (blk_cell BK336.out 8).trans rfl; have hcz59_9 : w58.cell? ⟨gb336, 9, none⟩ = some (.slice A0_9 l0_9.length c0_9) := (blk_cell BK336.out 9).trans rfl; have hcz59_10 : w58.cell? ⟨gb336, 10, none⟩ = some (.slice A0_10 l0_10.length c0_10) := (blk_cell BK336.out 10).trans rfl; have hfz59_0 := blk_frozen BK336.out 0; have hfz59_1 := blk_frozen BK336.out 1; have hfz59_2 := blk_frozen BK336.out 2; have hfz59_3 := blk_frozen BK336.out 3; have hfz59_4 := blk_frozen BK336.out 4; have hfz59_5 := blk_frozen BK336.out 5; have hfz59_6 := blk_frozen BK336.out 6; have hfz59_7 := blk_frozen BK336.out 7; have hfz59_8 := blk_frozen BK336.out 8; have hfz59_9 := blk_frozen BK336.out 9; have hfz59_10 := blk_frozen BK336.out 10) | ((with_reducible refine gate_callee (f := 24) rfl ?_); refine goesL_ (some 11) rfl rfl Tryz.func24 (by kernel_rfl) rfl #[.agg #[.string a0_0, .slice A0_1 l0_1.length c0_1, .slice A0_2 l0_2.length c0_2, .int .i64 a0_3, .int .i64 a0_4, .bool a0_5, .bool a0_6, .int .u8 a0_7, .string a0_8, .slice A0_9 l0_9.length c0_9, .slice A0_10 l0_10.length c0_10]] rfl (by (try simp only [List.map_toArray, List.map_cons, List.map_nil]); first | done | rfl | (simp only [List.length_drop, List.length_take]; rfl)) ?_; (with_reducible refine (epactref11_Right.calls k a0_0 _ _ l0_1 _ _ l0_2 a0_3 a0_4 a0_5 a0_6 a0_7 a0_8 _ _ l0_9 _ _ l0_10 false _ ?side1 ?side2 ?side3 ?side4 ?side5 ?side6 ?side7 ?side8 A2.out).mono ?_); (case side1 => repeat (first | exact (Kd.C_below HR0_1.out HB.out) | (with_reducible refine Kd.C_alloc ?_ _) | (with_reducible refine Kd.C_drewN ?_ _) | (with_reducible refine Kd.C_drew ?_))); (case side2 => exact HC0_1.out); (case side3 => repeat (first | exact (Kd.C_below HR0_2.out HB.out) | (with_reducible refine Kd.C_alloc ?_ _) | (with_reducible refine Kd.C_drewN ?_ _) | (with_reducible refine Kd.C_drew ?_))); (case side4 => exact HC0_2.out); (case side5 => repeat (first | exact (Kd.C_below HR0_9.out HB.out) | (with_reducible refine Kd.C_alloc ?_ _) | (with_reducible refine Kd.C_drewN ?_ _) | (with_reducible refine Kd.C_drew ?_))); (case side6 => exact HC0_9.out); (case side7 => repeat (first | exact (Kd.C_below HR0_10.out HB.out) | (with_reducible refine Kd.C_alloc ?_ _) | (with_reducible refine Kd.C_drewN ?_ _) | (with_reducible refine Kd.C_drew ?_))); (case side8 => exact HC0_10.out); rintro e w60 ⟨rfl, hb⟩; refine ⟨_, rfl, ?_⟩; have n0_ := Aside0.mk (blk_below (g := gb336) (o := .cells #[.string a0_0, .slice A0_1 l0_1.length c0_1, .slice A0_2 l0_2.length c0_2, .int .i64 a0_3, .int .i64 a0_4, .bool a0_5, .bool a0_6, .int .u8 a0_7, .string a0_8, .slice A0_9 l0_9.length c0_9, .slice A0_10 l0_10.length c0_10] 42 (0, 0)) (by (with_reducible repeat (first | refine blk_drewN ?_ _ | refine blk_drew ?_ | refine blk_alloc ?_ _)); exact BK336.out) hb); have n1_ := Aside0.mk (below_step (by repeat (first | (with_reducible first | exact HB.out | apply below_alloc | apply pw_below_drewN | apply below_drew1 | refine below_set ?_ GE336.out) | exact HB.out)) hb); clear BK336; clear HB; have BK336 := n0_; have HB := n1_; clear n0_ n1_; (try clear hb); (try clear hb2); (try clear hk); (try clear hi)))
    go_ret2
    exact ⟨by first | rfl | (simp [errW_none, errW_some] <;> rfl) | (simp [*, errW_none, errW_some] <;> rfl), by repeat (first | (with_reducible first | exact HB.out | apply below_alloc | apply pw_below_drewN | apply below_drew1 | refine below_set ?_ GE336.out) | exact HB.out)⟩
end Go.Proofs.YtcinojbfjiohjaaGreatDoor.PPrintTells
end

section
namespace Go.Proofs.YtcinojbfjiohjaaGreatDoor.Pr
open Go Go.RowKit Go.Proofs.YtcinojbfjiohjaaGreatDoor.PPrintTells Go.Proofs.YtcinojbfjiohjaaGreatDoor.Ex Go.Proofs.YtcinojbfjiohjaaGreatDoorW.PrintWords Go.Proofs.YtcinojbfjiohjaaGreatDoorW.PrintLast Go.Proofs.YtcinojbfjiohjaaGreatDoorW.PrintMore
open Go.Proofs.YtcinojbfjiohjaaGreatDoor.Pa (opsL shapeF shapeL shF)
set_option linter.unusedVariables false
set_option linter.unusedSimpArgs false
theorem numTok (n : Int) (h0 : -9223372036854775808 ≤ n) (h1 : n ≤ 9223372036854775807) (k : Nat) (hk : 1100000 ≤ k) : epactref12_number.f k n = some (Civ.toB (Lib.itoa n)) := by
  unfold epactref12_number.f
  have hW : Lx.TokW ⟨2, Lx.nil8, n⟩ := ⟨h0, h1, Nat.zero_le _⟩
  have hx : Lx.textT ⟨2, Lx.nil8, n⟩ = (⟨(Lib.itoa n).toArray⟩, true) := by
    unfold Lx.textT
    rw [if_neg (show ¬ ((2 : Int) = 1) by decide), if_pos rfl]
    have he : Lx.nil8.toList.isEmpty = true := by decide +kernel
    dsimp only
    rw [he]
  have hR : Lx.rightT ⟨2, Lx.nil8, n⟩ = true := by unfold Lx.rightT; rw [hx]
  have h := Lx.rText_r [⟨2, Lx.nil8, n⟩] (by simp) (fun t ht => by rw [List.mem_singleton] at ht; subst ht; exact hW) k hk
  have hf : List.filter Lx.rightT [⟨2, Lx.nil8, n⟩] = [⟨2, Lx.nil8, n⟩] := by
    rw [List.filter_cons, if_pos hR, List.filter_nil]
  rw [hf] at h
  have ht : Lx.textL [⟨2, Lx.nil8, n⟩] = Civ.toB (Lib.itoa n) := by
    show Civ.toB (Lib.join [(Lx.textT ⟨2, Lx.nil8, n⟩).1.data.toList] [32]) = _
    rw [Lib.join_one, hx]
  rw [ht] at h
  first | exact h | (rw [h]; rfl)
end Go.Proofs.YtcinojbfjiohjaaGreatDoor.Pr
end

section
namespace Go.Proofs.YtcinojbfjiohjaaGreatDoor.Ex
open Go Go.RowKit Go.Proofs.YtcinojbfjiohjaaGreatDoor.PPrintTells Go.Proofs.YtcinojbfjiohjaaGreatDoorW.PrintWords Go.Proofs.YtcinojbfjiohjaaGreatDoorW.PrintLast Go.Proofs.YtcinojbfjiohjaaGreatDoorW.PrintMore
set_option linter.unusedVariables false
set_option linter.unusedSimpArgs false
theorem rd_at (ys : List X) (i : Nat) (hi : i < ys.length) : rd_T25 ys (i : Int) = ys[i] := by
  unfold rd_T25
  rw [Int.toNat_natCast, List.getD_eq_getElem?_getD, List.getElem?_eq_getElem hi]
  rfl
theorem cntL_drop (ys : List X) (i : Nat) (hi : i < ys.length) : cntL (ys.drop i) = cnt ys[i] + cntL (ys.drop (i + 1)) := by
  rw [List.drop_eq_getElem_cons hi, cntL_cons]
theorem depL_drop (ys : List X) (i : Nat) (hi : i < ys.length) : depL (ys.drop i) = max (dep ys[i]) (depL (ys.drop (i + 1))) := by
  rw [List.drop_eq_getElem_cons hi, depL_cons]
theorem refCount_l0 (o : Int) (s : ByteArray) (ns : List Int) (ys : List X) (hl : cntL ys ≤ 1099511627776)
    (hf : ∀ (i : Nat) (hi : i < ys.length) (k : Nat), 2 * cnt ys[i] ≤ k → epactref09_Count.f k ys[i].f0 ys[i].f1 ys[i].f2 ys[i].f3 = some (cnt ys[i] : Int)) :
    ∀ (n i : Nat), i + n = ys.length → ∀ (k : Nat) (acc : Int), 2 * cntL (ys.drop i) + 1 ≤ k → 0 ≤ acc → acc + cntL (ys.drop i) ≤ 4398046511104 →
      epactref09_Count.l0 k acc i o s ns ys = some (acc + cntL (ys.drop i)) := by
  intro n
  induction n with
  | zero =>
    intro i hi k acc hk h0 h1
    obtain ⟨k, rfl⟩ : ∃ m, k = m + 1 := ⟨k - 1, by omega⟩
    simp only [epactref09_Count.l0]
    rw [if_neg (by omega), List.drop_eq_nil_of_le (by omega), cntL_nil]
    simp
  | succ n ih =>
    intro i hi k acc hk h0 h1
    obtain ⟨k, rfl⟩ : ∃ m, k = m + 1 := ⟨k - 1, by omega⟩
    have hil : i < ys.length := by omega
    have hd := cntL_drop ys i hil
    have hp := cnt_pos ys[i]
    have hlen := len_cntL ys
    simp only [epactref09_Count.l0]
    rw [if_pos (by omega), if_pos (by omega), rd_at ys i hil, hf i hil k (by omega)]
    show epactref09_Count.l0 k (wrap64 (acc + (cnt ys[i] : Int))) (wrap64 ((i : Int) + 1)) o s ns ys = _
    rw [w64 (by omega) (by omega), w64 (by omega) (by omega)]
    have := ih (i + 1) (by omega) k (acc + (cnt ys[i] : Int)) (by omega) (by omega) (by omega)
    rw [show ((i + 1 : Nat) : Int) = (i : Int) + 1 by omega] at this
    rw [this, hd]
    congr 1
    omega
theorem refCount_f (N : Nat) : ∀ x : X, cnt x ≤ N → cnt x ≤ 1099511627776 → ∀ k : Nat, 2 * cnt x ≤ k → epactref09_Count.f k x.f0 x.f1 x.f2 x.f3 = some (cnt x : Int) := by
  induction N with
  | zero => intro x hx; have := cnt_pos x; omega
  | succ N ih =>
    intro x hx hb k hk
    have hc := cnt_eq x
    have hp := cnt_pos x
    obtain ⟨k, rfl⟩ : ∃ m, k = m + 1 := ⟨k - 1, by omega⟩
    simp only [epactref09_Count.f]
    have h := refCount_l0 x.f0 x.f1 x.f2 x.f3 (by omega) (fun i hi m hm => ih x.f3[i] (by have := cnt_child (List.getElem_mem hi); omega) (by have := cnt_child (List.getElem_mem hi); omega) m hm) x.f3.length 0 (by omega) k 1 (by rw [List.drop_zero]; omega) (by omega) (by rw [List.drop_zero]; omega)
    rw [List.drop_zero] at h
    rw [show ((0 : Nat) : Int) = 0 from rfl] at h
    rw [h, hc]
    congr 1
theorem refDepth_l0 (o : Int) (s : ByteArray) (ns : List Int) (ys : List X) (hl : cntL ys ≤ 1099511627776)
    (hf : ∀ (i : Nat) (hi : i < ys.length) (k : Nat), 2 * cnt ys[i] ≤ k → epactref09_Depth.f k ys[i].f0 ys[i].f1 ys[i].f2 ys[i].f3 = some (dep ys[i] : Int)) :
    ∀ (n i : Nat), i + n = ys.length → ∀ (k acc : Nat), 2 * cntL (ys.drop i) + 1 ≤ k → acc ≤ 1099511627776 →
      epactref09_Depth.l0 k acc i o s ns ys = some (((max acc (depL (ys.drop i)) : Nat) : Int) + 1) := by
  intro n
  induction n with
  | zero =>
    intro i hi k acc hk h1
    obtain ⟨k, rfl⟩ : ∃ m, k = m + 1 := ⟨k - 1, by omega⟩
    simp only [epactref09_Depth.l0]
    rw [if_neg (by omega), List.drop_eq_nil_of_le (by omega), depL_nil, w64 (by omega) (by omega), Nat.max_eq_left (Nat.zero_le _)]
  | succ n ih =>
    intro i hi k acc hk h1
    obtain ⟨k, rfl⟩ : ∃ m, k = m + 1 := ⟨k - 1, by omega⟩
    have hil : i < ys.length := by omega
    have hd := cntL_drop ys i hil
    have he := depL_drop ys i hil
    have hp := cnt_pos ys[i]
    have hlen := len_cntL ys
    have hde := depL_le (ys.drop i)
    have hcd : cntL (ys.drop i) ≤ cntL ys := by
      have h := cntL_append (ys.take i) (ys.drop i)
      rw [List.take_append_drop] at h
      omega
    simp only [epactref09_Depth.l0]
    rw [if_pos (by omega), if_pos (by omega), rd_at ys i hil, hf i hil k (by omega)]
    show (if (dep ys[i] : Int) > (acc : Int) then epactref09_Depth.l0 k (dep ys[i] : Int) (wrap64 ((i : Int) + 1)) o s ns ys else epactref09_Depth.l0 k (acc : Int) (wrap64 ((i : Int) + 1)) o s ns ys) = _
    rw [w64 (by omega) (by omega), show (i : Int) + 1 = ((i + 1 : Nat) : Int) by omega]
    have hdi : dep ys[i] ≤ depL (ys.drop i) := by rw [he]; exact Nat.le_max_left _ _
    by_cases hg : (dep ys[i] : Int) > (acc : Int)
    · rw [if_pos hg, ih (i + 1) (by omega) k (dep ys[i]) (by omega) (by omega), he]
      congr 3
      omega
    · rw [if_neg hg, ih (i + 1) (by omega) k acc (by omega) (by omega), he]
      congr 3
      omega
theorem refDepth_f (N : Nat) : ∀ x : X, cnt x ≤ N → cnt x ≤ 1099511627776 → ∀ k : Nat, 2 * cnt x ≤ k → epactref09_Depth.f k x.f0 x.f1 x.f2 x.f3 = some (dep x : Int) := by
  induction N with
  | zero => intro x hx; have := cnt_pos x; omega
  | succ N ih =>
    intro x hx hb k hk
    have hc := cnt_eq x
    have hp := cnt_pos x
    have hde := depL_le x.f3
    obtain ⟨k, rfl⟩ : ∃ m, k = m + 1 := ⟨k - 1, by omega⟩
    simp only [epactref09_Depth.f]
    have h := refDepth_l0 x.f0 x.f1 x.f2 x.f3 (by omega) (fun i hi m hm => ih x.f3[i] (by have := cnt_child (List.getElem_mem hi); omega) (by have := cnt_child (List.getElem_mem hi); omega) m hm) x.f3.length 0 (by omega) k 0 (by rw [List.drop_zero]; omega) (by omega)
    rw [List.drop_zero] at h
    rw [show ((0 : Nat) : Int) = 0 from rfl] at h
    rw [h, dep_eq x]
    congr 1
    rw [Nat.max_eq_right (Nat.zero_le _)]
    omega
theorem refKind_f (o : Int) (h0 : 0 ≤ o) : epactref09_kind.f 3 o = some (if o ≤ 12 then numsOf o else -1, argsOf o) := by
  by_cases h : o ≤ 12
  · rcases (show o = 0 ∨ o = 1 ∨ o = 2 ∨ o = 3 ∨ o = 4 ∨ o = 5 ∨ o = 6 ∨ o = 7 ∨ o = 8 ∨ o = 9 ∨ o = 10 ∨ o = 11 ∨ o = 12 by omega) with rfl | rfl | rfl | rfl | rfl | rfl | rfl | rfl | rfl | rfl | rfl | rfl | rfl <;> decide
  · have e2 : argsOf o = 0 := by unfold argsOf; rw [if_pos (by omega)]
    rw [if_neg h, e2]
    have hb : ∀ n : Int, n ≤ 12 → (o == n) = false := fun n hn => beq_eq_false_iff_ne.2 (by omega)
    simp only [epactref09_kind.f, epactref09_kind.j0, epactref09_kind.j1]
    rw [if_neg (by omega), if_neg (by omega), hb 2 (by omega), if_neg (by simp), if_neg (by omega), if_neg (by omega), if_neg (by omega), hb 9 (by omega), if_neg (by simp), if_neg (by omega), if_neg (by omega), if_neg (by omega), if_neg (by omega), if_neg (by omega), if_neg (by omega)]
end Go.Proofs.YtcinojbfjiohjaaGreatDoor.Ex
end

section
namespace Go.Proofs.YtcinojbfjiohjaaGreatDoor.Pr
open Go Go.RowKit Go.Proofs.YtcinojbfjiohjaaGreatDoor.PPrintTells Go.Proofs.YtcinojbfjiohjaaGreatDoor.Ex Go.Proofs.YtcinojbfjiohjaaGreatDoorW.PrintWords Go.Proofs.YtcinojbfjiohjaaGreatDoorW.PrintLast Go.Proofs.YtcinojbfjiohjaaGreatDoorW.PrintMore
open Go.Proofs.YtcinojbfjiohjaaGreatDoor.Pa (opsL shapeF shapeL shF)
set_option linter.unusedVariables false
set_option linter.unusedSimpArgs false
theorem refKind_k (o : Int) (h0 : 0 ≤ o) (k : Nat) (hk : 3 ≤ k) : epactref09_kind.f k o = some (if o ≤ 12 then numsOf o else -1, argsOf o) :=
  Lx.mono_up (f := fun k => epactref09_kind.f k o) (fun k => epactref09_kind.mono _ k) hk (refKind_f o h0)
theorem parts_l0 (o : Int) (s : ByteArray) (ns : List Int) (xs : List X) (hl : cntL xs ≤ 1099511627776)
    (ih : ∀ y ∈ xs, ∀ k, 3 * cnt y + 45 ≤ k → epactref09_parts.f k y.f0 y.f1 y.f2 y.f3 = some (allR y)) :
    ∀ (d i : Nat), i + d = xs.length → ∀ k, 3 * cntL (xs.drop i) + 46 ≤ k → epactref09_parts.l0 k (i : Nat) o s ns xs = some (allRL (xs.drop i)) := by
  have hlen := len_cntL xs
  intro d
  induction d with
  | zero =>
    intro i hi k hk
    obtain ⟨k, rfl⟩ : ∃ m, k = m + 1 := ⟨k - 1, by omega⟩
    rw [epactref09_parts.l0, if_neg (by omega), List.drop_eq_nil_of_le (by omega), allRL_nil]
  | succ d ihd =>
    intro i hi k hk
    obtain ⟨k, rfl⟩ : ∃ m, k = m + 1 := ⟨k - 1, by omega⟩
    have hil : i < xs.length := by omega
    have hcd := cntL_drop xs i hil
    have hpos := cnt_pos xs[i]
    have e1 : wrap64 ((i : Int) + 1) = ((i + 1 : Nat) : Int) := by
      rw [Ex.w64 (by omega) (by omega)]
      omega
    rw [epactref09_parts.l0, if_pos (by omega), if_pos (by omega), rd_at xs i hil, ih xs[i] (List.getElem_mem hil) k (by omega), Option.bind_some, List.drop_eq_getElem_cons hil, allRL_cons]
    by_cases h : allR xs[i] = true
    · rw [if_pos h, e1, ihd (i + 1) (by omega) k (by omega), h, Bool.true_and]
    · have h' : allR xs[i] = false := by simpa using h
      rw [if_neg h, h', Bool.false_and]
theorem parts_f (N : Nat) : ∀ x : X, cnt x ≤ N → cnt x ≤ 1099511627776 → Wf x → ∀ k, 3 * cnt x + 45 ≤ k → epactref09_parts.f k x.f0 x.f1 x.f2 x.f3 = some (allR x) := by
  induction N with
  | zero => intro x hc; exact absurd (cnt_pos x) (by omega)
  | succ N ih =>
    intro x hc hm hwf k hk
    obtain ⟨o, s, ns, xs⟩ := x
    have hce := cnt_eq ⟨o, s, ns, xs⟩
    dsimp only at hce
    have h0 : 0 ≤ o := hwf.op.1
    obtain ⟨k, rfl⟩ : ∃ m, k = m + 1 := ⟨k - 1, by omega⟩
    obtain ⟨k, rfl⟩ : ∃ m, k = m + 1 := ⟨k - 1, by omega⟩
    have hL := parts_l0 o s ns xs (by omega) (fun y hy k hk => ih y (by have := cnt_mem hy; omega) (by have := cnt_mem hy; omega) (hwf.child hy) k hk) xs.length 0 (by omega) k (by rw [List.drop_zero]; omega)
    rw [List.drop_zero, show ((0 : Nat) : Int) = 0 from rfl] at hL
    have hT : ∀ b, epactref09_parts.j0 (k + 1) b o s ns xs = some (!b && allRL xs) := fun b => by
      cases b
      · rw [epactref09_parts.j0, if_neg (by decide), hL]; rfl
      · rw [epactref09_parts.j0, if_pos rfl]; rfl
    dsimp only
    rw [epactref09_parts.f, refKind_k o h0 (k + 1) (by omega), Option.bind_some, allR_eq]
    unfold rightB
    dsimp only
    by_cases h12 : o ≤ 12
    · rw [if_pos h12, decide_eq_true h12, Bool.true_and]
      by_cases h1 : numsOf o = (ns.length : Int)
      · rw [if_pos h1, decide_eq_true h1.symm, Bool.true_and]
        by_cases h2 : argsOf o = (xs.length : Int)
        · rw [if_pos h2, decide_eq_true h2.symm, Bool.true_and]
          by_cases h3 : o = 0
          · rw [if_pos h3, if_pos h3, refName_f s (k + 1) (by omega), Option.bind_some]
            by_cases h4 : nameB s = true
            · rw [if_pos h4, hT, h4]; rfl
            · have h4' : nameB s = false := by simpa using h4
              rw [if_neg h4, hT, h4']; rfl
          · rw [if_neg h3, if_neg h3, hT]
            congr 2
            cases s.toList <;> rfl
        · rw [if_neg h2, hT, decide_eq_false (fun h => h2 h.symm)]; rfl
      · rw [if_neg h1, hT, decide_eq_false (fun h => h1 h.symm)]; rfl
    · rw [if_neg h12, if_neg (by omega), hT, decide_eq_false h12]; rfl
theorem refRight_f (x : X) (hc : cnt x ≤ 1048576) (hwf : Wf x) (k : Nat) (hk : 4000000 ≤ k) : epactref09_Right.f k x.f0 x.f1 x.f2 x.f3 = some (RightB x) := by
  unfold epactref09_Right.f RightB
  rw [parts_f (cnt x) x (Nat.le_refl _) (by omega) hwf k (by omega), Option.bind_some]
  by_cases h : allR x = true
  · rw [if_pos h, refDepth_f (cnt x) x (Nat.le_refl _) (by omega) k (by omega), Option.bind_some, h, Bool.true_and]
    by_cases h2 : dep x ≤ 40
    · rw [if_pos (by omega), refCount_f (cnt x) x (Nat.le_refl _) (by omega) k (by omega), Option.bind_some, decide_eq_true h2, Bool.true_and]
      congr 1
      rw [Bool.eq_iff_iff, decide_eq_true_eq, decide_eq_true_eq]
      omega
    · rw [if_neg (by omega), decide_eq_false h2, Bool.false_and]
  · have h' : allR x = false := by simpa using h
    rw [if_neg h, h', Bool.false_and, Bool.false_and]
end Go.Proofs.YtcinojbfjiohjaaGreatDoor.Pr
end

section
namespace Go.Proofs.YtcinojbfjiohjaaGreatDoor.Pr
open Go Go.RowKit Go.Proofs.YtcinojbfjiohjaaGreatDoor.PPrintTells Go.Proofs.YtcinojbfjiohjaaGreatDoor.Ex Go.Proofs.YtcinojbfjiohjaaGreatDoorW.PrintWords Go.Proofs.YtcinojbfjiohjaaGreatDoorW.PrintLast Go.Proofs.YtcinojbfjiohjaaGreatDoorW.PrintMore
open Go.Proofs.YtcinojbfjiohjaaGreatDoor.Pa (opsL shapeF shapeL shF)
set_option linter.unusedVariables false
set_option linter.unusedSimpArgs false
abbrev tB (l : List UInt8) : ByteArray := Civ.toB l
theorem tB_size (l : List UInt8) : (tB l).size = l.length := Civ.texts_bytes l
theorem tB_app (a b : List UInt8) : tB a ++ tB b = tB (a ++ b) := Civ.toB_app a b
theorem tB_data (s : ByteArray) : tB s.data.toList = s := by
  show (⟨s.data.toList.toArray⟩ : ByteArray) = s
  simp
theorem lit_tB (a : Array UInt8) : (⟨a⟩ : ByteArray) = tB a.toList := by
  show (⟨a⟩ : ByteArray) = ⟨a.toList.toArray⟩
  simp
theorem words_ops : epactref11_Ops.f = some (wordsN 12) := by decide +kernel
theorem rd_int (ns : List Int) (i : Nat) (h : i < ns.length) : rd ns (i : Int) = ns[i] := by
  unfold rd
  rw [Int.toNat_natCast, List.getD_eq_getElem?_getD, List.getElem?_eq_getElem h]
  rfl
theorem linesB_map (xs : List X) : linesB xs = xs.map lineB := by
  induction xs with
  | nil => rw [linesB_nil]; rfl
  | cons y ys ih => rw [linesB_cons, ih]; rfl
def preL (o : Int) (T : List (List UInt8)) (i : Nat) : List UInt8 := opB o ++ putsF [40] (T.take i) ++ sepB i
def atL (o : Int) (T : List (List UInt8)) (i : Nat) : List UInt8 := if i = 0 then opB o ++ [40] else opB o ++ putsF [40] (T.take i)
theorem pre_next (o : Int) (T : List (List UInt8)) (i : Nat) (h : i < T.length) : preL o T i ++ T[i] = atL o T (i + 1) := by
  unfold preL atL
  rw [if_neg (by omega), List.take_succ_eq_append_getElem h, puts_next, List.length_take, Nat.min_eq_left (by omega)]
  simp only [List.append_assoc]
theorem at_pre (o : Int) (T : List (List UInt8)) (i : Nat) : preL o T i = if i = 0 then atL o T i else atL o T i ++ [44, 32] := by
  unfold preL atL sepB
  by_cases h : i = 0
  · subst h
    simp [putsF]
  · simp only [if_neg h]
theorem at_len (o : Int) (T : List (List UInt8)) (i : Nat) : (atL o T i).length ≤ (opB o).length + (putsF [40] T).length + 1 := by
  have h := puts_le [40] (T.take i) (T.drop i)
  rw [List.take_append_drop] at h
  unfold atL
  split
  · rw [List.length_append, List.length_singleton]; omega
  · rw [List.length_append]; omega
theorem right_mem {xs : List X} (h : allRL xs = true) {y : X} (hy : y ∈ xs) : allR y = true := by
  induction xs with
  | nil => cases hy
  | cons z zs ih =>
    rw [allRL_cons, Bool.and_eq_true] at h
    rcases List.mem_cons.1 hy with rfl | hy
    · exact h.1
    · exact ih h.2 hy
theorem line_l0 (o : Int) (s : ByteArray) (ns : List Int) (xs : List X) (B : Nat) (hB : 1100000 ≤ B) (h0 : o ≠ 0) (hn : ns.length ≤ 10) (hx : xs.length ≤ 10)
    (hns : ∀ n ∈ ns, -9223372036854775808 ≤ n ∧ n ≤ 9223372036854775807)
    (hz : (opB o).length + (putsF [40] (ns.map Lib.itoa ++ linesB xs)).length ≤ 1000000000000000)
    (ih : ∀ y ∈ xs, ∀ k, B ≤ k → epactref12_line.f k y.f0 y.f1 y.f2 y.f3 = some (tB (lineB y))) (hne : 1 ≤ ns.length + xs.length) :
    ∀ (d i : Nat), i + d = ns.length + xs.length → ∀ k, B + 2 * d + 1 ≤ k → epactref12_line.l0 k (tB (atL o (ns.map Lib.itoa ++ linesB xs) i)) (i : Nat) o s ns xs = some (tB (opB o ++ (putsF [40] (ns.map Lib.itoa ++ linesB xs) ++ [41]))) := by
  obtain ⟨T, hT⟩ : ∃ T, T = ns.map Lib.itoa ++ linesB xs := ⟨_, rfl⟩
  have hTl : T.length = ns.length + xs.length := by rw [hT, List.length_append, List.length_map, linesB_len]
  rw [← hT] at hz ⊢
  have e0 : wrap64 ((ns.length : Int) + (xs.length : Int)) = ((ns.length + xs.length : Nat) : Int) := by
    rw [Ex.w64 (by omega) (by omega)]; omega
  intro d
  induction d with
  | zero =>
    intro i hi k hk
    obtain ⟨k, rfl⟩ : ∃ m, k = m + 1 := ⟨k - 1, by omega⟩
    have hl := at_len o T i
    rw [epactref12_line.l0, e0, if_neg (by omega), if_pos (by rw [tB_size]; omega), lit_tB, tB_app]
    congr 2
    unfold atL
    rw [if_neg (by omega), List.take_of_length_le (by omega), List.append_assoc]
  | succ d ihd =>
    intro i hi k hk
    obtain ⟨k, rfl⟩ : ∃ m, k = m + 2 := ⟨k - 2, by omega⟩
    have hl := at_len o T i
    have hl1 := at_len o T (i + 1)
    have hiT : i < T.length := by omega
    have hnx := pre_next o T i hiT
    have hnl := congrArg List.length hnx
    rw [List.length_append] at hnl
    have e1 : wrap64 ((i : Int) + 1) = ((i + 1 : Nat) : Int) := by
      rw [Ex.w64 (by omega) (by omega)]; omega
    have hJ : epactref12_line.j1 (k + 1) (tB (preL o T i)) (i : Nat) o s ns xs = some (tB (opB o ++ (putsF [40] T ++ [41]))) := by
      rw [epactref12_line.j1]
      by_cases hin : i < ns.length
      · have hti : T[i] = Lib.itoa ns[i] := by
          have : T[i]? = some (Lib.itoa ns[i]) := by
            rw [hT, List.getElem?_append_left (by rw [List.length_map]; exact hin), List.getElem?_map, List.getElem?_eq_getElem hin]; rfl
          rw [List.getElem?_eq_getElem hiT] at this
          exact Option.some.inj this
        have hb := hns ns[i] (List.getElem_mem hin)
        rw [if_pos (Int.ofNat_lt.2 hin), if_pos (Int.natCast_nonneg i), rd_int ns i hin, numTok _ hb.1 hb.2 k (by omega), Option.bind_some, ← hti, if_pos (by rw [tB_size, show (Civ.toB T[i]).size = T[i].length from Civ.texts_bytes _]; omega), show tB (preL o T i) ++ Civ.toB T[i] = tB (preL o T i ++ T[i]) from tB_app _ _, hnx, e1]
        exact ihd (i + 1) (by omega) k (by omega)
      · have hix : i - ns.length < xs.length := by omega
        have e2 : wrap64 ((i : Int) - (ns.length : Int)) = ((i - ns.length : Nat) : Int) := by
          rw [Ex.w64 (by omega) (by omega)]; omega
        have hti : T[i] = lineB xs[i - ns.length] := by
          have : T[i]? = some (lineB xs[i - ns.length]) := by
            rw [hT, List.getElem?_append_right (by rw [List.length_map]; omega), List.length_map]
            have hll : (linesB xs)[i - ns.length]? = (xs.map lineB)[i - ns.length]? := by
              rw [linesB_map]
            rw [hll, List.getElem?_map, List.getElem?_eq_getElem hix]; rfl
          rw [List.getElem?_eq_getElem hiT] at this
          exact Option.some.inj this
        rw [if_neg (by omega), e2, if_pos (by omega), if_pos (by omega), rd_at xs _ hix, ih _ (List.getElem_mem hix) k (by omega), Option.bind_some, ← hti, if_pos (by rw [tB_size, tB_size]; omega), tB_app, hnx, e1]
        exact ihd (i + 1) (by omega) k (by omega)
    rw [epactref12_line.l0, e0, if_pos (by omega)]
    have hap := at_pre o T i
    by_cases hi0 : i = 0
    · rw [if_pos hi0] at hap
      rw [if_neg (by rw [hi0]; decide), ← hap]
      exact hJ
    · rw [if_neg hi0] at hap
      rw [if_pos (Int.natCast_pos.2 (Nat.pos_of_ne_zero hi0)), if_pos (by rw [tB_size]; omega), lit_tB, tB_app, show atL o T i ++ (#[44, 32] : Array UInt8).toList = preL o T i from hap.symm]
      exact hJ
theorem line_f (N : Nat) : ∀ x : X, cnt x ≤ N → cnt x ≤ 1000000000000 → Wf x → allR x = true → ∀ k, 60 * cnt x + 1100000 ≤ k → epactref12_line.f k x.f0 x.f1 x.f2 x.f3 = some (tB (lineB x)) := by
  induction N with
  | zero => intro x hc; exact absurd (cnt_pos x) (by omega)
  | succ N ih =>
    intro x hc hm hwf hR k hk
    have hll := line_le x hwf hR
    obtain ⟨o, s, ns, xs⟩ := x
    have hce := cnt_eq ⟨o, s, ns, xs⟩
    dsimp only at hce
    have hlb := lineB_eq ⟨o, s, ns, xs⟩
    dsimp only at hlb
    obtain ⟨k, rfl⟩ : ∃ m, k = m + 1 := ⟨k - 1, by omega⟩
    dsimp only
    rw [epactref12_line.f]
    by_cases h0 : o = 0
    · rw [if_pos h0] at hlb ⊢
      rw [hlb, tB_data]
    · rw [if_neg h0] at hlb ⊢
      obtain ⟨ho1, ho2⟩ := op_range hwf hR h0
      have hr := hR
      rw [allR_eq, Bool.and_eq_true] at hr
      have h1 := hr.1
      unfold rightB at h1
      simp only [Bool.and_eq_true, decide_eq_true_eq] at h1
      obtain ⟨⟨⟨h3, h4⟩, h5⟩, h6⟩ := h1
      have hn : numsOf o ≤ 3 ∧ 0 ≤ numsOf o ∧ argsOf o ≤ 2 ∧ 1 ≤ numsOf o + argsOf o := by
        have : ∀ j : Fin 13, j.val ≠ 0 → numsOf (j.val : Int) ≤ 3 ∧ 0 ≤ numsOf (j.val : Int) ∧ argsOf (j.val : Int) ≤ 2 ∧ 1 ≤ numsOf (j.val : Int) + argsOf (j.val : Int) := by decide +kernel
        have h := this ⟨o.toNat, by omega⟩ (by show o.toNat ≠ 0; omega)
        rwa [show ((⟨o.toNat, by omega⟩ : Fin 13).val : Int) = o by show (o.toNat : Int) = o; omega] at h
      have hcx : ∀ y ∈ xs, cnt y + 1 ≤ cnt ⟨o, s, ns, xs⟩ := fun y hy => by have := cnt_mem hy; omega
      have hop := ops_short ⟨o.toNat, by omega⟩
      rw [hlb, List.length_append, List.length_append, List.length_singleton] at hll
      have hL := line_l0 o s ns xs (60 * (cnt ⟨o, s, ns, xs⟩ - 1) + 1100000) (by omega) h0 (by omega) (by omega) hwf.nums (by omega)
        (fun y hy k hk => ih y (by have := hcx y hy; omega) (by have := hcx y hy; omega) (hwf.child hy) (right_mem (rec_right hR) hy) k (by have := hcx y hy; omega)) (by omega) (ns.length + xs.length) 0 (by omega) k (by omega)
      have eo : rdOf ByteArray.empty (wordsN 12) o = tB (opB o) := by
        unfold opB
        rw [tB_data]
        rfl
      rw [words_ops, Option.bind_some, if_pos (by omega), if_pos (by rw [words_len ⟨12, by omega⟩]; omega), eo, if_pos (by rw [tB_size]; show (opB o).length + 1 ≤ _; have : (opB o).length ≤ 7 := hop; omega), hlb, lit_tB, tB_app]
      exact hL
theorem Expr_f (x : X) (hc : cnt x ≤ 1048576) (hwf : Wf x) (k : Nat) (hk : 4000000 ≤ k) : epactref12_Expr.f k x.f0 x.f1 x.f2 x.f3 = some (lineE x) := by
  unfold epactref12_Expr.f lineE
  rw [refRight_f x hc hwf k hk, Option.bind_some]
  by_cases h : RightB x = true
  · obtain ⟨hA, hcn⟩ := right_all h
    rw [if_pos h, if_pos h, line_f (cnt x) x (Nat.le_refl _) (by omega) hwf hA k (by omega), Option.bind_some]
    rfl
  · rw [if_neg h, if_neg h]
end Go.Proofs.YtcinojbfjiohjaaGreatDoor.Pr
end

section
namespace Go.Proofs.YtcinojbfjiohjaaGreatDoor.Pr
open Go Go.RowKit Go.Proofs.YtcinojbfjiohjaaGreatDoor.PPrintTells Go.Proofs.YtcinojbfjiohjaaGreatDoor.Ex Go.Proofs.YtcinojbfjiohjaaGreatDoorW.PrintWords Go.Proofs.YtcinojbfjiohjaaGreatDoorW.PrintLast Go.Proofs.YtcinojbfjiohjaaGreatDoorW.PrintMore
open Go.Proofs.YtcinojbfjiohjaaGreatDoor.Pa (opsL shapeF shapeL shF)
set_option linter.unusedVariables false
set_option linter.unusedSimpArgs false
abbrev nil8 : ByteArray := ⟨#[]⟩
theorem ne_list {s t : ByteArray} (h : ¬ s = t) : ¬ s.toList = t.toList := fun he => h ((Lib.bytes_beq_iff s t).1 (beq_iff_eq.2 he))
set_option maxRecDepth 100000 in
set_option maxHeartbeats 4000000 in
theorem refShape_f (s : ByteArray) : epactref11_Shape.f 3 s = some ((shapeF s).1, (shapeF s).2) := by
  by_cases h0 : s = ⟨#[100, 101, 102, 105, 110, 101]⟩
  · subst h0
    decide +kernel
  by_cases h1 : s = ⟨#[100, 114, 111, 112]⟩
  · subst h1
    decide +kernel
  by_cases h2 : s = ⟨#[115, 104, 111, 119]⟩
  · subst h2
    decide +kernel
  by_cases h3 : s = ⟨#[102, 111, 114, 109]⟩
  · subst h3
    decide +kernel
  by_cases h4 : s = ⟨#[118, 97, 114]⟩
  · subst h4
    decide +kernel
  by_cases h5 : s = ⟨#[101, 120, 116, 101, 110, 116]⟩
  · subst h5
    decide +kernel
  by_cases h6 : s = ⟨#[103, 114, 97, 110, 117, 108, 101]⟩
  · subst h6
    decide +kernel
  by_cases h7 : s = ⟨#[110, 101, 120, 116]⟩
  · subst h7
    decide +kernel
  by_cases h8 : s = ⟨#[112, 114, 101, 118]⟩
  · subst h8
    decide +kernel
  by_cases h9 : s = ⟨#[115, 112, 97, 110]⟩
  · subst h9
    decide +kernel
  by_cases h10 : s = ⟨#[114, 101, 108]⟩
  · subst h10
    decide +kernel
  by_cases h11 : s = ⟨#[99, 111, 118, 101, 114]⟩
  · subst h11
    decide +kernel
  by_cases h12 : s = ⟨#[98, 111, 117, 110, 100]⟩
  · subst h12
    decide +kernel
  by_cases h13 : s = ⟨#[100, 97, 116, 101]⟩
  · subst h13
    decide +kernel
  by_cases h14 : s = ⟨#[115, 111, 108, 118, 101]⟩
  · subst h14
    decide +kernel
  by_cases h15 : s = ⟨#[110, 101, 116]⟩
  · subst h15
    decide +kernel
  by_cases h16 : s = ⟨#[105, 110, 102, 101, 114]⟩
  · subst h16
    decide +kernel
  by_cases h17 : s = ⟨#[114, 101, 115, 101, 116]⟩
  · subst h17
    decide +kernel
  have e0 : ¬ (s.toList = ([100, 101, 102, 105, 110, 101] : List UInt8)) := fun h => ne_list h0 (h.trans (show ([100, 101, 102, 105, 110, 101] : List UInt8) = (⟨#[100, 101, 102, 105, 110, 101]⟩ : ByteArray).toList from by decide +kernel))
  have e1 : ¬ (s.toList = ([100, 114, 111, 112] : List UInt8)) := fun h => ne_list h1 (h.trans (show ([100, 114, 111, 112] : List UInt8) = (⟨#[100, 114, 111, 112]⟩ : ByteArray).toList from by decide +kernel))
  have e2 : ¬ (s.toList = ([115, 104, 111, 119] : List UInt8)) := fun h => ne_list h2 (h.trans (show ([115, 104, 111, 119] : List UInt8) = (⟨#[115, 104, 111, 119]⟩ : ByteArray).toList from by decide +kernel))
  have e3 : ¬ (s.toList = ([102, 111, 114, 109] : List UInt8)) := fun h => ne_list h3 (h.trans (show ([102, 111, 114, 109] : List UInt8) = (⟨#[102, 111, 114, 109]⟩ : ByteArray).toList from by decide +kernel))
  have e4 : ¬ (s.toList = ([118, 97, 114] : List UInt8)) := fun h => ne_list h4 (h.trans (show ([118, 97, 114] : List UInt8) = (⟨#[118, 97, 114]⟩ : ByteArray).toList from by decide +kernel))
  have e5 : ¬ (s.toList = ([101, 120, 116, 101, 110, 116] : List UInt8)) := fun h => ne_list h5 (h.trans (show ([101, 120, 116, 101, 110, 116] : List UInt8) = (⟨#[101, 120, 116, 101, 110, 116]⟩ : ByteArray).toList from by decide +kernel))
  have e6 : ¬ (s.toList = ([103, 114, 97, 110, 117, 108, 101] : List UInt8)) := fun h => ne_list h6 (h.trans (show ([103, 114, 97, 110, 117, 108, 101] : List UInt8) = (⟨#[103, 114, 97, 110, 117, 108, 101]⟩ : ByteArray).toList from by decide +kernel))
  have e7 : ¬ (s.toList = ([110, 101, 120, 116] : List UInt8)) := fun h => ne_list h7 (h.trans (show ([110, 101, 120, 116] : List UInt8) = (⟨#[110, 101, 120, 116]⟩ : ByteArray).toList from by decide +kernel))
  have e8 : ¬ (s.toList = ([112, 114, 101, 118] : List UInt8)) := fun h => ne_list h8 (h.trans (show ([112, 114, 101, 118] : List UInt8) = (⟨#[112, 114, 101, 118]⟩ : ByteArray).toList from by decide +kernel))
  have e9 : ¬ (s.toList = ([115, 112, 97, 110] : List UInt8)) := fun h => ne_list h9 (h.trans (show ([115, 112, 97, 110] : List UInt8) = (⟨#[115, 112, 97, 110]⟩ : ByteArray).toList from by decide +kernel))
  have e10 : ¬ (s.toList = ([114, 101, 108] : List UInt8)) := fun h => ne_list h10 (h.trans (show ([114, 101, 108] : List UInt8) = (⟨#[114, 101, 108]⟩ : ByteArray).toList from by decide +kernel))
  have e11 : ¬ (s.toList = ([99, 111, 118, 101, 114] : List UInt8)) := fun h => ne_list h11 (h.trans (show ([99, 111, 118, 101, 114] : List UInt8) = (⟨#[99, 111, 118, 101, 114]⟩ : ByteArray).toList from by decide +kernel))
  have e12 : ¬ (s.toList = ([98, 111, 117, 110, 100] : List UInt8)) := fun h => ne_list h12 (h.trans (show ([98, 111, 117, 110, 100] : List UInt8) = (⟨#[98, 111, 117, 110, 100]⟩ : ByteArray).toList from by decide +kernel))
  have e13 : ¬ (s.toList = ([100, 97, 116, 101] : List UInt8)) := fun h => ne_list h13 (h.trans (show ([100, 97, 116, 101] : List UInt8) = (⟨#[100, 97, 116, 101]⟩ : ByteArray).toList from by decide +kernel))
  have e14 : ¬ (s.toList = ([115, 111, 108, 118, 101] : List UInt8)) := fun h => ne_list h14 (h.trans (show ([115, 111, 108, 118, 101] : List UInt8) = (⟨#[115, 111, 108, 118, 101]⟩ : ByteArray).toList from by decide +kernel))
  have e15 : ¬ (s.toList = ([110, 101, 116] : List UInt8)) := fun h => ne_list h15 (h.trans (show ([110, 101, 116] : List UInt8) = (⟨#[110, 101, 116]⟩ : ByteArray).toList from by decide +kernel))
  have e16 : ¬ (s.toList = ([105, 110, 102, 101, 114] : List UInt8)) := fun h => ne_list h16 (h.trans (show ([105, 110, 102, 101, 114] : List UInt8) = (⟨#[105, 110, 102, 101, 114]⟩ : ByteArray).toList from by decide +kernel))
  have e17 : ¬ (s.toList = ([114, 101, 115, 101, 116] : List UInt8)) := fun h => ne_list h17 (h.trans (show ([114, 101, 115, 101, 116] : List UInt8) = (⟨#[114, 101, 115, 101, 116]⟩ : ByteArray).toList from by decide +kernel))
  have hA : shapeF s = (nil8, false) := by
    have hk : ∀ l : List (ByteArray × ByteArray), (∀ q ∈ l, ¬ (q.2.toList = s.toList)) → shF l s = (nil8, false) := by
      intro l
      induction l with
      | nil => intro _; rw [shF]
      | cons q r ih => intro h; rw [shF, if_neg (by rw [beq_iff_eq]; exact h q (by simp)), ih (fun q' hq' => h q' (by simp [hq']))]
    refine hk shapeL ?_
    intro q hq he
    have hm : q.2.toList ∈ shapeL.map (fun q => q.2.toList) := List.mem_map_of_mem hq
    have hl : shapeL.map (fun q => q.2.toList) = [([100, 101, 102, 105, 110, 101] : List UInt8), ([100, 114, 111, 112] : List UInt8), ([115, 104, 111, 119] : List UInt8), ([102, 111, 114, 109] : List UInt8), ([118, 97, 114] : List UInt8), ([101, 120, 116, 101, 110, 116] : List UInt8), ([103, 114, 97, 110, 117, 108, 101] : List UInt8), ([110, 101, 120, 116] : List UInt8), ([112, 114, 101, 118] : List UInt8), ([115, 112, 97, 110] : List UInt8), ([114, 101, 108] : List UInt8), ([99, 111, 118, 101, 114] : List UInt8), ([98, 111, 117, 110, 100] : List UInt8), ([100, 97, 116, 101] : List UInt8), ([115, 111, 108, 118, 101] : List UInt8), ([110, 101, 116] : List UInt8), ([105, 110, 102, 101, 114] : List UInt8), ([114, 101, 115, 101, 116] : List UInt8)] := by decide +kernel
    rw [hl, he] at hm
    simp only [List.mem_cons, List.not_mem_nil, or_false] at hm
    rcases hm with h | h | h | h | h | h | h | h | h | h | h | h | h | h | h | h | h | h
    · exact e0 h
    · exact e1 h
    · exact e2 h
    · exact e3 h
    · exact e4 h
    · exact e5 h
    · exact e6 h
    · exact e7 h
    · exact e8 h
    · exact e9 h
    · exact e10 h
    · exact e11 h
    · exact e12 h
    · exact e13 h
    · exact e14 h
    · exact e15 h
    · exact e16 h
    · exact e17 h
  rw [hA]
  have b0 : ∀ l : List UInt8, ¬ (s.toList = l) → (s.toList == l) = false := fun l h => beq_eq_false_iff_ne.2 h
  simp only [epactref11_Shape.f, epactref11_Shape.j0, epactref11_Shape.j1, e0, b0 _ e0, e1, b0 _ e1, e2, b0 _ e2, e3, b0 _ e3, e4, b0 _ e4, e5, b0 _ e5, e6, b0 _ e6, e7, b0 _ e7, e8, b0 _ e8, e9, b0 _ e9, e10, b0 _ e10, e11, b0 _ e11, e12, b0 _ e12, e13, b0 _ e13, e14, b0 _ e14, e15, b0 _ e15, e16, b0 _ e16, e17, b0 _ e17, if_false]
  simp
theorem refShape_k (s : ByteArray) (k : Nat) (hk : 3 ≤ k) : epactref11_Shape.f k s = some ((shapeF s).1, (shapeF s).2) :=
  Lx.mono_up (f := fun k => epactref11_Shape.f k s) (fun k => epactref11_Shape.mono _ k) hk (refShape_f s)
end Go.Proofs.YtcinojbfjiohjaaGreatDoor.Pr
end

section
namespace Go.Proofs.YtcinojbfjiohjaaGreatDoor.Pr
open Go Go.RowKit Go.Proofs.YtcinojbfjiohjaaGreatDoor.PPrintTells Go.Proofs.YtcinojbfjiohjaaGreatDoor.Ex Go.Proofs.YtcinojbfjiohjaaGreatDoorW.PrintWords Go.Proofs.YtcinojbfjiohjaaGreatDoorW.PrintLast Go.Proofs.YtcinojbfjiohjaaGreatDoorW.PrintMore
open Go.Proofs.YtcinojbfjiohjaaGreatDoor.Pa (opsL shapeF shapeL shF)
set_option linter.unusedVariables false
set_option linter.unusedSimpArgs false
theorem same_bare (x : X) (k : Nat) (hk : 10 ≤ k) : epactref09_Same.f k x.f0 x.f1 x.f2 x.f3 0 (⟨#[]⟩ : ByteArray) ([] : List Int) ([] : List X) = some (bareB x) := by
  obtain ⟨k, rfl⟩ : ∃ m, k = m + 4 := ⟨k - 4, by omega⟩
  obtain ⟨o, s, ns, xs⟩ := x
  have e : (⟨#[]⟩ : ByteArray).toList = [] := by decide +kernel
  unfold bareB
  dsimp only
  rw [epactref09_Same.f, e]
  have hj : ∀ (b : Bool), epactref09_Same.j0 (k + 3) b o s ns xs 0 (⟨#[]⟩ : ByteArray) [] [] = if b = true then some false else epactref09_Same.l0 (k + 2) 0 o s ns xs 0 (⟨#[]⟩ : ByteArray) [] [] := fun b => by rw [epactref09_Same.j0]
  by_cases h0 : o = 0
  · rw [if_pos h0, beq_iff_eq.2 h0, Bool.true_and]
    by_cases h1 : s.toList = []
    · rw [if_pos h1, h1]
      cases ns with
      | nil =>
        rw [if_pos rfl, hj]
        cases xs with
        | nil =>
          rw [if_neg (by decide), epactref09_Same.l0, if_neg (by simp), epactref09_Same.l1, if_neg (by simp)]
          rfl
        | cons y ys =>
          rw [if_pos (by rw [bne_iff_ne, List.length_cons, List.length_nil]; omega)]
          rfl
      | cons n ns =>
        rw [if_neg (by rw [List.length_cons, List.length_nil]; omega), hj, if_pos rfl]
        rfl
    · rw [if_neg h1, hj, if_pos rfl]
      cases hl : s.toList with
      | nil => exact absurd hl h1
      | cons _ _ => rfl
  · rw [if_neg h0, hj, if_pos rfl, beq_eq_false_iff_ne.2 h0, Bool.false_and]
def tailR (c : Cmd) (b : Bool) (n1 n2 : Int) (r e : Bool) : Bool :=
  scopedB c.lo c.hi c.hl c.hh r && ((if e = true then RightB c.x else bareB c.x) && (b && (decide ((c.names.length : Int) = n1) && ((c.nums.length : Int) == n2))))
theorem right_j2 (c : Cmd) (hc : cnt c.x ≤ 1048576) (hwf : Wf c.x) (k : Nat) (hk : 4000001 ≤ k) (b : Bool) (n1 n2 : Int) (e t : Bool) :
    epactref11_Right.j2 k b n1 n2 e t c.wd c.names c.nums c.lo c.hi c.hl c.hh c.x.f0 c.x.f1 c.x.f2 c.x.f3 = some (!t && ((if e = true then RightB c.x else bareB c.x) && (b && (decide ((c.names.length : Int) = n1) && ((c.nums.length : Int) == n2))))) := by
  obtain ⟨k, rfl⟩ : ∃ m, k = m + 1 := ⟨k - 1, by omega⟩
  rw [epactref11_Right.j2]
  cases t with
  | true => rw [if_pos rfl]; rfl
  | false =>
    rw [if_neg (by decide)]
    have hT : ∀ g : Bool, (if g = true then (if b = true then (if (c.names.length : Int) = n1 then (some ((c.nums.length : Int) == n2)) else (some false)) else (some false)) else (some false)) = some (!false && (g && (b && (decide ((c.names.length : Int) = n1) && ((c.nums.length : Int) == n2))))) := fun g => by
      cases g
      · rfl
      · cases b
        · rfl
        · by_cases h : (c.names.length : Int) = n1
          · rw [if_pos rfl, if_pos rfl, if_pos h, decide_eq_true h]; rfl
          · rw [if_pos rfl, if_pos rfl, if_neg h, decide_eq_false h]; rfl
    cases e with
    | true =>
      rw [if_pos rfl, if_pos rfl, refRight_f c.x hc hwf k (by omega), Option.bind_some]
      exact hT _
    | false =>
      have hE : (if false = true then RightB c.x else bareB c.x) = bareB c.x := if_neg (by decide)
      rw [if_neg (by decide), hE, same_bare c.x k (by omega), Option.bind_some]
      exact hT _
theorem right_l1 (c : Cmd) (hc : cnt c.x ≤ 1048576) (hwf : Wf c.x) (hm : c.names.length ≤ 9223372036854775807) (n1 n2 : Int) (r e : Bool) :
    ∀ (d i : Nat), i + d = c.names.length → ∀ b, ∀ k, 4000002 + d ≤ k → epactref11_Right.l1 k b n1 n2 r e (i : Nat) c.wd c.names c.nums c.lo c.hi c.hl c.hh c.x.f0 c.x.f1 c.x.f2 c.x.f3 = some (tailR c (b && (c.names.drop i).all nameB) n1 n2 r e) := by
  intro d
  induction d with
  | zero =>
    intro i hi b k hk
    obtain ⟨k, rfl⟩ : ∃ m, k = m + 1 := ⟨k - 1, by omega⟩
    rw [epactref11_Right.l1, if_neg (by omega), List.drop_eq_nil_of_le (by omega), List.all_nil, Bool.and_true]
    have hJ := fun t => right_j2 c hc hwf k (by omega) b n1 n2 e t
    simp only [hJ]
    unfold tailR scopedB
    obtain ⟨wd, NS, ns, lo, hg, hl, hh, x⟩ := c
    dsimp only
    clear hJ hi hk hc hwf hm
    cases hl <;> cases hh <;> cases r <;> by_cases hlo : lo = 0 <;> by_cases hhg : hg = 0 <;> simp [hlo, hhg]
  | succ d ihd =>
    intro i hi b k hk
    obtain ⟨k, rfl⟩ : ∃ m, k = m + 1 := ⟨k - 1, by omega⟩
    have hil : i < c.names.length := by omega
    have e1 : wrap64 ((i : Int) + 1) = ((i + 1 : Nat) : Int) := by
      rw [Ex.w64 (by omega) (by omega)]; omega
    have er : rdOf ByteArray.empty c.names (i : Int) = c.names[i] := by
      unfold rdOf
      rw [Int.toNat_natCast, List.getD_eq_getElem?_getD, List.getElem?_eq_getElem hil]
      rfl
    rw [epactref11_Right.l1, if_pos (Int.ofNat_lt.2 hil), List.drop_eq_getElem_cons hil, List.all_cons]
    cases b with
    | true =>
      rw [if_pos rfl, if_pos (Int.natCast_nonneg i), er, refName_f _ k (by omega), Option.bind_some, e1, ihd (i + 1) (by omega) _ k (by omega), Bool.true_and]
    | false =>
      rw [if_neg (by decide), e1, ihd (i + 1) (by omega) _ k (by omega), Bool.false_and, Bool.false_and]
theorem bt_at (s : ByteArray) (i : Nat) (h : i < s.data.toList.length) : bt s (i : Nat) = (s.data.toList[i].toNat : Int) := by
  have := Civ.bt_toB s.data.toList i h
  rwa [show Civ.toB s.data.toList = s from tB_data s] at this
theorem right_l0 (c : Cmd) (s : ByteArray) (hs : s.size ≤ 10) (hlet : ∀ b ∈ s.data.toList, b = 110 ∨ b = 105 ∨ b = 101 ∨ b = 114 ∨ b = 61) (ok : Bool) (K : Nat) (R : Int → Int → Bool → Bool → Bool)
    (hR : ∀ n1 n2 r e, ∀ k, K ≤ k → epactref11_Right.l1 k ok n1 n2 r e 0 c.wd c.names c.nums c.lo c.hi c.hl c.hh c.x.f0 c.x.f1 c.x.f2 c.x.f3 = some (R n1 n2 r e)) :
    ∀ (l : List UInt8) (i n1 n2 : Nat), i + l.length ≤ 10 → s.data.toList.drop i = l → n1 + l.length ≤ 20 → n2 + l.length ≤ 20 → ∀ r e, ∀ k, K + l.length + 1 ≤ k →
      epactref11_Right.l0 k s ok (n1 : Nat) (n2 : Nat) r e (i : Nat) c.wd c.names c.nums c.lo c.hi c.hl c.hh c.x.f0 c.x.f1 c.x.f2 c.x.f3 = some (R ((n1 + l.count 110 : Nat) : Int) ((n2 + l.count 105 : Nat) : Int) (r || l.contains 114) (e || l.contains 101)) := by
  have hsz : s.size = s.data.toList.length := by simp
  intro l
  induction l with
  | nil =>
    intro i n1 n2 hi hd h1 h2 r e k hk
    obtain ⟨k, rfl⟩ : ∃ m, k = m + 1 := ⟨k - 1, by omega⟩
    have hle : s.data.toList.length ≤ i := List.drop_eq_nil_iff.1 hd
    rw [epactref11_Right.l0, if_neg (by omega), hR _ _ _ _ k (by rw [List.length_nil] at hk; omega)]
    simp
  | cons b l ih =>
    intro i n1 n2 hi hd h1 h2 r e k hk
    obtain ⟨k, rfl⟩ : ∃ m, k = m + 1 := ⟨k - 1, by omega⟩
    rw [List.length_cons] at hi h1 h2 hk
    have hil : i < s.data.toList.length := by
      rcases Nat.lt_or_ge i s.data.toList.length with h | h
      · exact h
      · rw [List.drop_of_length_le h] at hd; cases hd
    rw [List.drop_eq_getElem_cons hil] at hd
    injection hd with hb hd
    have hm := hlet _ (List.getElem_mem hil)
    rw [hb] at hm
    have e1 : wrap64 ((i : Int) + 1) = ((i + 1 : Nat) : Int) := by
      rw [Ex.w64 (by omega) (by omega)]; omega
    have e2 : wrap64 ((n1 : Int) + 1) = ((n1 + 1 : Nat) : Int) := by
      rw [Ex.w64 (by omega) (by omega)]; omega
    have e3 : wrap64 ((n2 : Int) + 1) = ((n2 + 1 : Nat) : Int) := by
      rw [Ex.w64 (by omega) (by omega)]; omega
    have hbt := bt_at s i hil
    rw [hb] at hbt
    rw [epactref11_Right.l0, if_pos (by omega), if_pos (Int.natCast_nonneg i), hbt, e1, e2, e3]
    clear hbt e1 e2 e3 hb hR hlet hs
    rcases hm with rfl | rfl | rfl | rfl | rfl
    · rw [if_pos (by decide), ih (i + 1) (n1 + 1) n2 (by omega) hd (by omega) (by omega) r e k (by omega)]
      simp
      congr 1
      omega
    · rw [if_neg (by decide), if_pos (by decide), ih (i + 1) n1 (n2 + 1) (by omega) hd (by omega) (by omega) r e k (by omega)]
      simp
      congr 1
      omega
    · rw [if_neg (by decide), if_neg (by decide), if_neg (by decide), if_pos (by decide), ih (i + 1) n1 n2 (by omega) hd (by omega) (by omega) r true k (by omega)]
      simp
    · rw [if_neg (by decide), if_neg (by decide), if_pos (by decide), ih (i + 1) n1 n2 (by omega) hd (by omega) (by omega) true e k (by omega)]
      simp
    · rw [if_neg (by decide), if_neg (by decide), if_neg (by decide), if_neg (by decide), ih (i + 1) n1 n2 (by omega) hd (by omega) (by omega) r e k (by omega)]
      simp
theorem RightC_f (c : Cmd) (hc : cnt c.x ≤ 1048576) (hwf : Wf c.x) (hm : c.names.length ≤ 9223372036854775807) (k : Nat) (hk : 4000100 + c.names.length ≤ k) :
    epactref11_Right.f k c.wd c.names c.nums c.lo c.hi c.hl c.hh c.x.f0 c.x.f1 c.x.f2 c.x.f3 = some (rightC c) := by
  unfold epactref11_Right.f
  rw [refShape_k c.wd k (by omega), Option.bind_some]
  obtain ⟨hs, hlet⟩ := shape_let c.wd
  have hsz : (shapeF c.wd).1.size = (shapeF c.wd).1.data.toList.length := by simp
  have h := right_l0 c (shapeF c.wd).1 hs hlet (shapeF c.wd).2 (4000002 + c.names.length) (fun n1 n2 r e => tailR c ((shapeF c.wd).2 && (c.names.drop 0).all nameB) n1 n2 r e)
    (fun n1 n2 r e k hk => right_l1 c hc hwf hm n1 n2 r e c.names.length 0 (by omega) _ k (by omega)) (shapeF c.wd).1.data.toList 0 0 0 (by omega) rfl (by omega) (by omega) false false k (by omega)
  refine h.trans ?_
  unfold tailR rightC cntC hasC Lib.countByte
  rw [Bool.false_or, Bool.false_or, Nat.zero_add, Nat.zero_add, List.drop_zero, Lib.contains_iff_indexByte, Lib.contains_iff_indexByte]
  generalize (shapeF c.wd).2 = a
  generalize c.names.all nameB = b
  generalize (if decide (0 ≤ Lib.indexByte (shapeF c.wd).1.data.toList 101) = true then RightB c.x else bareB c.x) = d
  generalize scopedB c.lo c.hi c.hl c.hh (decide (0 ≤ Lib.indexByte (shapeF c.wd).1.data.toList 114)) = f
  have ha : decide ((c.names.length : Int) = ((shapeF c.wd).1.data.toList.count 110 : Nat)) = decide ((((shapeF c.wd).1.data.toList.count 110 : Nat) : Int) = c.names.length) := by
    congr 1
    exact propext eq_comm
  have hb : ((c.nums.length : Int) == ((shapeF c.wd).1.data.toList.count 105 : Nat)) = decide ((((shapeF c.wd).1.data.toList.count 105 : Nat) : Int) = c.nums.length) := by
    rw [Bool.eq_iff_iff, beq_iff_eq, decide_eq_true_eq]
    exact eq_comm
  rw [ha, hb]
  congr 1
  generalize decide ((((shapeF c.wd).1.data.toList.count 110 : Nat) : Int) = c.names.length) = g
  generalize decide ((((shapeF c.wd).1.data.toList.count 105 : Nat) : Int) = c.nums.length) = h
  cases a <;> cases b <;> cases d <;> cases f <;> cases g <;> cases h <;> rfl
end Go.Proofs.YtcinojbfjiohjaaGreatDoor.Pr
end

section
namespace Go.Proofs.YtcinojbfjiohjaaGreatDoor.Pr
open Go Go.RowKit Go.Proofs.YtcinojbfjiohjaaGreatDoor.PPrintTells Go.Proofs.YtcinojbfjiohjaaGreatDoor.Ex Go.Proofs.YtcinojbfjiohjaaGreatDoorW.PrintWords Go.Proofs.YtcinojbfjiohjaaGreatDoorW.PrintLast Go.Proofs.YtcinojbfjiohjaaGreatDoorW.PrintMore
open Go.Proofs.YtcinojbfjiohjaaGreatDoor.Pa (opsL shapeF shapeL shF)
set_option linter.unusedVariables false
set_option linter.unusedSimpArgs false
theorem name_len {s : ByteArray} (h : nameB s = true) : s.data.toList.length ≤ 100 := by
  unfold nameB at h
  cases hl : s.data.toList with
  | nil => simp
  | cons b l =>
    rw [hl] at h
    unfold nameL at h
    simp only [Bool.and_eq_true, decide_eq_true_eq] at h
    rw [List.length_cons]
    omega
structure Ints (c : Cmd) : Prop where
  ints : ∀ n ∈ c.nums, -9223372036854775808 ≤ n ∧ n ≤ 9223372036854775807
  lo64 : -9223372036854775808 ≤ c.lo ∧ c.lo ≤ 9223372036854775807
  hi64 : -9223372036854775808 ≤ c.hi ∧ c.hi ≤ 9223372036854775807
theorem head_int {ns : List Int} (h : ∀ n ∈ ns, -9223372036854775808 ≤ n ∧ n ≤ 9223372036854775807) : -9223372036854775808 ≤ ns.headD 0 ∧ ns.headD 0 ≤ 9223372036854775807 := by
  cases ns with
  | nil => exact ⟨by decide, by decide⟩
  | cons n ns => exact h n (by simp)
theorem end_len (n : Int) (t : Bool) (h : -9223372036854775808 ≤ n ∧ n ≤ 9223372036854775807) : (endL n t).length ≤ 21 := by
  have := itoa_len n h.1 h.2
  cases t
  · exact Nat.zero_le _
  · exact this
theorem part_len (c : Cmd) (hI : Ints c) (b : UInt8) (NS : List ByteArray) (ns : List Int) (hn : ∀ s ∈ NS, nameB s = true) (hi : ∀ n ∈ ns, -9223372036854775808 ≤ n ∧ n ≤ 9223372036854775807) (hx : b = 101 → (lineB c.x).length ≤ 200000) :
    (partL c b NS ns).length ≤ 200000 := by
  unfold partL
  split
  · cases NS with
    | nil => exact Nat.zero_le _
    | cons s NS => have := name_len (hn s (by simp)); show s.data.toList.length ≤ _; omega
  · split
    · have h := head_int hi
      have := itoa_len _ h.1 h.2
      omega
    · split
      · rename_i h; exact hx h
      · split
        · have h1 := end_len c.lo c.hl hI.lo64
          have h2 := end_len c.hi c.hh hI.hi64
          unfold rngL
          simp only [List.length_append, List.length_singleton]
          omega
        · simp
theorem cmdL_len (c : Cmd) (hI : Ints c) : ∀ (l : List UInt8) (NS : List ByteArray) (ns : List Int), (∀ s ∈ NS, nameB s = true) → (∀ n ∈ ns, -9223372036854775808 ≤ n ∧ n ≤ 9223372036854775807) → (101 ∈ l → (lineB c.x).length ≤ 200000) →
    (cmdL c l NS ns).length ≤ 200001 * l.length
  | [], _, _, _, _, _ => Nat.zero_le _
  | b :: l, NS, ns, hn, hi, hx => by
    have h1 := part_len c hI b NS ns hn hi (fun h => hx (by simp [h]))
    have h2 := cmdL_len c hI l (tailN b NS) (tailI b ns)
      (fun s hs => by unfold tailN at hs; split at hs <;> first | exact hn s (List.mem_of_mem_drop hs) | exact hn s hs)
      (fun n hs => by unfold tailI at hs; split at hs <;> first | exact hi n (List.mem_of_mem_drop hs) | exact hi n hs) (fun h => hx (by simp [h]))
    rw [cmdL, List.length_cons, List.length_append, List.length_cons]
    omega
theorem right_parts {c : Cmd} (h : rightC c = true) : (shapeF c.wd).2 = true ∧ (((shapeF c.wd).1.data.toList.count 110 : Nat) : Int) = c.names.length ∧ (((shapeF c.wd).1.data.toList.count 105 : Nat) : Int) = c.nums.length ∧ c.names.all nameB = true ∧ (101 ∈ (shapeF c.wd).1.data.toList → RightB c.x = true) := by
  unfold rightC cntC hasC Lib.countByte at h
  simp only [Bool.and_eq_true, decide_eq_true_eq] at h
  obtain ⟨h1, h2, h3, h4, h5, h6⟩ := h
  refine ⟨h1, h2, h3, h5, fun hm => ?_⟩
  rw [if_pos ((decide_eq_true_iff).1 (by rw [← Lib.contains_iff_indexByte]; exact List.contains_iff_mem.2 hm))] at h6
  exact h6
theorem lineC_len {c : Cmd} (hI : Ints c) (hwf : Wf c.x) (h : rightC c = true) : (lineC c).length ≤ 3000000 := by
  obtain ⟨h1, h2, h3, h4, h5⟩ := right_parts h
  obtain ⟨hs, hlet⟩ := shape_let c.wd
  have hsz : (shapeF c.wd).1.size = (shapeF c.wd).1.data.toList.length := by simp
  have hw := (shape_word c.wd h1).2
  have hwz : c.wd.size = c.wd.data.toList.length := by simp
  have := cmdL_len c hI (shapeF c.wd).1.data.toList c.names c.nums (fun s hs => List.all_eq_true.1 h4 s hs) hI.ints (fun hm => by
    obtain ⟨hA, hc⟩ := right_all (h5 hm)
    have := line_le c.x hwf hA
    omega)
  unfold lineC
  rw [List.length_append]
  omega
theorem rd_str (NS : List ByteArray) (i : Nat) (h : i < NS.length) : rdOf ByteArray.empty NS (i : Int) = tB ((NS.drop i).headD e8).data.toList := by
  unfold rdOf
  rw [Int.toNat_natCast, List.getD_eq_getElem?_getD, List.getElem?_eq_getElem h, List.drop_eq_getElem_cons h, tB_data]
  rfl
theorem rd_num (ns : List Int) (i : Nat) (h : i < ns.length) : rd ns (i : Int) = (ns.drop i).headD 0 := by
  rw [rd_int ns i h, List.drop_eq_getElem_cons h]
  rfl
theorem num_f (n : Int) (h : -9223372036854775808 ≤ n ∧ n ≤ 9223372036854775807) (k : Nat) (hk : 1100000 ≤ k) : epactref12_number.f k n = some (tB (Lib.itoa n)) := numTok n h.1 h.2 k hk
theorem end_t (n : Int) : endL n true = Lib.itoa n := rfl
theorem end_f (n : Int) : endL n false = [] := rfl
set_option maxHeartbeats 2000000 in
theorem cmd_l0 (c : Cmd) (hI : Ints c) (s : ByteArray) (hs : s.size ≤ 10) (hlet : ∀ b ∈ s.data.toList, b = 110 ∨ b = 105 ∨ b = 101 ∨ b = 114 ∨ b = 61) (K : Nat) (hK : 1100000 ≤ K)
    (hx : 101 ∈ s.data.toList → ∀ k, K ≤ k → epactref12_line.f k c.x.f0 c.x.f1 c.x.f2 c.x.f3 = some (tB (lineB c.x))) :
    ∀ (l : List UInt8) (i n1 n2 : Nat) (acc : List UInt8), i + l.length ≤ 10 → s.data.toList.drop i = l → n1 + l.count 110 = c.names.length → n2 + l.count 105 = c.nums.length → n1 + l.length ≤ 20 → n2 + l.length ≤ 20 →
      acc.length + (cmdL c l (c.names.drop n1) (c.nums.drop n2)).length ≤ 1000000000000 → ∀ k, K + l.length + 1 ≤ k →
      epactref12_Command.l0 k (tB acc) s (n1 : Nat) (n2 : Nat) (i : Nat) c.wd c.names c.nums c.lo c.hi c.hl c.hh c.x.f0 c.x.f1 c.x.f2 c.x.f3 = some (tB (acc ++ cmdL c l (c.names.drop n1) (c.nums.drop n2)), 0) := by
  have hsz : s.size = s.data.toList.length := by simp
  intro l
  induction l with
  | nil =>
    intro i n1 n2 acc hi hd h1 h2 g1 g2 hz k hk
    obtain ⟨k, rfl⟩ : ∃ m, k = m + 1 := ⟨k - 1, by omega⟩
    have hle : s.data.toList.length ≤ i := List.drop_eq_nil_iff.1 hd
    rw [epactref12_Command.l0, if_neg (by omega), cmdL, List.append_nil]
  | cons b l ih =>
    intro i n1 n2 acc hi hd h1 h2 g1 g2 hz k hk
    obtain ⟨k, rfl⟩ : ∃ m, k = m + 1 := ⟨k - 1, by omega⟩
    rw [List.length_cons] at hi g1 g2 hk
    have hil : i < s.data.toList.length := by
      rcases Nat.lt_or_ge i s.data.toList.length with h | h
      · exact h
      · rw [List.drop_of_length_le h] at hd; cases hd
    rw [List.drop_eq_getElem_cons hil] at hd
    injection hd with hb hd
    have hm := hlet _ (List.getElem_mem hil)
    have hmem : b ∈ s.data.toList := hb ▸ List.getElem_mem hil
    rw [hb] at hm
    rw [cmdL, List.length_cons, List.length_append] at hz
    have hsp : tB acc ++ (⟨#[32]⟩ : ByteArray) = tB (acc ++ [32]) := by rw [lit_tB, tB_app]
    rw [epactref12_Command.l0, if_pos (by omega), if_pos (by rw [tB_size]; omega), if_pos (Int.natCast_nonneg i)]
    have e1 : wrap64 ((i : Int) + 1) = ((i + 1 : Nat) : Int) := by
      rw [Ex.w64 (by omega) (by omega)]; omega
    have e2 : wrap64 ((n1 : Int) + 1) = ((n1 + 1 : Nat) : Int) := by
      rw [Ex.w64 (by omega) (by omega)]; omega
    have e3 : wrap64 ((n2 : Int) + 1) = ((n2 + 1 : Nat) : Int) := by
      rw [Ex.w64 (by omega) (by omega)]; omega
    have hbt := bt_at s i hil
    rw [hb] at hbt
    rw [hbt, e1, e2, e3, hsp]
    clear hbt e1 e2 e3 hb hlet hs hsp hil
    have hkk : 1100000 ≤ k := by omega
    have hcm : cmdL c (b :: l) (c.names.drop n1) (c.nums.drop n2) = 32 :: (partL c b (c.names.drop n1) (c.nums.drop n2) ++ cmdL c l (tailN b (c.names.drop n1)) (tailI b (c.nums.drop n2))) := rfl
    have hcz : (acc ++ [32]).length = acc.length + 1 := by simp
    have fin : ∀ (p : List UInt8) (NS : List ByteArray) (ns : List Int), acc ++ [32] ++ p ++ cmdL c l NS ns = acc ++ 32 :: (p ++ cmdL c l NS ns) := fun p NS ns => by simp
    rcases hm with rfl | rfl | rfl | rfl | rfl
    · have hN : n1 < c.names.length := by rw [List.count_cons_self] at h1; omega
      have hp : partL c 110 (c.names.drop n1) (c.nums.drop n2) = ((c.names.drop n1).headD e8).data.toList := if_pos rfl
      have ht : tailN 110 (c.names.drop n1) = c.names.drop (n1 + 1) := by show (c.names.drop n1).drop 1 = _; rw [List.drop_drop]
      have hti : tailI 110 (c.nums.drop n2) = c.nums.drop n2 := if_neg (by decide)
      rw [hp, ht, hti] at hz
      rw [hcm, hp, ht, hti, if_pos (by decide), if_pos (Int.natCast_nonneg n1), if_pos (Int.ofNat_lt.2 hN), rd_str _ _ hN, if_pos (by rw [tB_size, tB_size, hcz]; omega), tB_app,
        ih (i + 1) (n1 + 1) n2 _ (by omega) hd (by rw [List.count_cons_self] at h1; omega) (by rw [List.count_cons_of_ne (by decide)] at h2; omega) (by omega) (by omega) (by rw [List.length_append, hcz]; omega) k (by omega), fin]
    · have hN : n2 < c.nums.length := by rw [List.count_cons_self] at h2; omega
      have hp : partL c 105 (c.names.drop n1) (c.nums.drop n2) = Lib.itoa ((c.nums.drop n2).headD 0) := by unfold partL; rw [if_neg (by decide), if_pos rfl]
      have ht : tailN 105 (c.names.drop n1) = c.names.drop n1 := if_neg (by decide)
      have hti : tailI 105 (c.nums.drop n2) = c.nums.drop (n2 + 1) := by show (c.nums.drop n2).drop 1 = _; rw [List.drop_drop]
      rw [hp, ht, hti] at hz
      rw [hcm, hp, ht, hti, if_neg (by decide), if_pos (by decide), if_pos (Int.natCast_nonneg n2), if_pos (Int.ofNat_lt.2 hN), rd_num _ _ hN, num_f _ (head_int (fun n hn => hI.ints n (List.mem_of_mem_drop hn))) k hkk, Option.bind_some, if_pos (by rw [tB_size, tB_size, hcz]; omega), tB_app,
        ih (i + 1) n1 (n2 + 1) _ (by omega) hd (by rw [List.count_cons_of_ne (by decide)] at h1; omega) (by rw [List.count_cons_self] at h2; omega) (by omega) (by omega) (by rw [List.length_append, hcz]; omega) k (by omega), fin]
    · have hp : partL c 101 (c.names.drop n1) (c.nums.drop n2) = lineB c.x := by unfold partL; rw [if_neg (by decide), if_neg (by decide), if_pos rfl]
      have ht : tailN 101 (c.names.drop n1) = c.names.drop n1 := if_neg (by decide)
      have hti : tailI 101 (c.nums.drop n2) = c.nums.drop n2 := if_neg (by decide)
      rw [hp, ht, hti] at hz
      rw [hcm, hp, ht, hti, if_neg (by decide), if_neg (by decide), if_pos (by decide), hx hmem k (by omega), Option.bind_some, if_pos (by rw [tB_size, tB_size, hcz]; omega), tB_app,
        ih (i + 1) n1 n2 _ (by omega) hd (by rw [List.count_cons_of_ne (by decide)] at h1; omega) (by rw [List.count_cons_of_ne (by decide)] at h2; omega) (by omega) (by omega) (by rw [List.length_append, hcz]; omega) k (by omega), fin]
    · have hp : partL c 114 (c.names.drop n1) (c.nums.drop n2) = rngL c := by unfold partL; rw [if_neg (by decide), if_neg (by decide), if_neg (by decide), if_pos rfl]
      have ht : tailN 114 (c.names.drop n1) = c.names.drop n1 := if_neg (by decide)
      have hti : tailI 114 (c.nums.drop n2) = c.nums.drop n2 := if_neg (by decide)
      have hr : rngL c = [91] ++ endL c.lo c.hl ++ [58] ++ endL c.hi c.hh ++ [93] := rfl
      have hrl := congrArg List.length hr
      simp only [List.length_append, List.length_singleton] at hrl
      rw [hp, ht, hti] at hz
      have IH := ih (i + 1) n1 n2 (acc ++ [32] ++ rngL c) (by omega) hd (by rw [List.count_cons_of_ne (by decide)] at h1; omega) (by rw [List.count_cons_of_ne (by decide)] at h2; omega) (by omega) (by omega) (by rw [List.length_append, hcz]; omega) k (by omega)
      rw [fin, hr] at IH
      rw [hcm, hp, ht, hti, if_neg (by decide), if_neg (by decide), if_neg (by decide), if_neg (by decide), num_f _ hI.lo64 k hkk, num_f _ hI.hi64 k hkk, Option.bind_some, Option.bind_some, Option.bind_some,
        if_pos (by rw [tB_size, hcz]; omega), lit_tB #[91], lit_tB #[58], lit_tB #[93], tB_app, tB_app, tB_app, hr]
      obtain ⟨wd, NS, ns, lo, hg, hl, hh, x⟩ := c
      dsimp only at *
      cases hl <;> cases hh <;> simp only [end_t, end_f, List.length_nil, List.append_nil] at IH hrl ⊢
      · rw [if_neg (by decide), if_pos (by simp only [tB_size, List.length_append, List.length_cons, List.length_nil]; omega), if_neg (by decide), if_pos (by simp only [tB_size, tB_app, List.length_append, List.length_cons, List.length_nil]; omega)]
        simp only [tB_app, List.append_assoc] at IH ⊢
        exact IH
      · rw [if_neg (by decide), if_pos (by simp only [tB_size, List.length_append, List.length_cons, List.length_nil]; omega), if_pos trivial, if_pos (by simp only [tB_size, tB_app, List.length_append, List.length_cons, List.length_nil]; omega), if_pos (by simp only [tB_size, tB_app, List.length_append, List.length_cons, List.length_nil]; omega)]
        simp only [tB_app, List.append_assoc] at IH ⊢
        exact IH
      · rw [if_pos trivial, if_pos (by simp only [tB_size, tB_app, List.length_append, List.length_cons, List.length_nil]; omega), if_pos (by simp only [tB_size, tB_app, List.length_append, List.length_cons, List.length_nil]; omega), if_neg (by decide), if_pos (by simp only [tB_size, tB_app, List.length_append, List.length_cons, List.length_nil]; omega)]
        simp only [tB_app, List.append_assoc] at IH ⊢
        exact IH
      · rw [if_pos trivial, if_pos (by simp only [tB_size, tB_app, List.length_append, List.length_cons, List.length_nil]; omega), if_pos (by simp only [tB_size, tB_app, List.length_append, List.length_cons, List.length_nil]; omega), if_pos trivial, if_pos (by simp only [tB_size, tB_app, List.length_append, List.length_cons, List.length_nil]; omega), if_pos (by simp only [tB_size, tB_app, List.length_append, List.length_cons, List.length_nil]; omega)]
        simp only [tB_app, List.append_assoc] at IH ⊢
        exact IH
    · have hp : partL c 61 (c.names.drop n1) (c.nums.drop n2) = [61] := by unfold partL; rw [if_neg (by decide), if_neg (by decide), if_neg (by decide), if_neg (by decide)]
      have ht : tailN 61 (c.names.drop n1) = c.names.drop n1 := if_neg (by decide)
      have hti : tailI 61 (c.nums.drop n2) = c.nums.drop n2 := if_neg (by decide)
      rw [hp, ht, hti, List.length_singleton] at hz
      rw [hcm, hp, ht, hti, if_neg (by decide), if_neg (by decide), if_neg (by decide), if_pos (by decide), if_pos (by rw [tB_size, hcz]; omega), lit_tB #[61], tB_app,
        ih (i + 1) n1 n2 _ (by omega) hd (by rw [List.count_cons_of_ne (by decide)] at h1; omega) (by rw [List.count_cons_of_ne (by decide)] at h2; omega) (by omega) (by omega) (by rw [List.length_append, hcz]; show _ + 1 + 1 + _ ≤ _; omega) k (by omega)]
      rw [show (#[61] : Array UInt8).toList = [61] from rfl, fin]
theorem Command_f (c : Cmd) (hI : Ints c) (hc : cnt c.x ≤ 1048576) (hwf : Wf c.x) (hm : c.names.length ≤ 9223372036854775807) (k : Nat) (hk : 4000100 + c.names.length ≤ k) :
    epactref12_Command.f k c.wd c.names c.nums c.lo c.hi c.hl c.hh c.x.f0 c.x.f1 c.x.f2 c.x.f3 = some (lineCE c) := by
  unfold epactref12_Command.f lineCE
  rw [RightC_f c hc hwf hm k hk, Option.bind_some]
  by_cases h : rightC c = true
  · obtain ⟨h1, h2, h3, h4, h5⟩ := right_parts h
    obtain ⟨hs, hlet⟩ := shape_let c.wd
    have hsz : (shapeF c.wd).1.size = (shapeF c.wd).1.data.toList.length := by simp
    have hL := lineC_len hI hwf h
    unfold lineC at hL
    rw [List.length_append] at hL
    have hcn : c.names.length ≤ 10 := by have := List.count_le_length (a := (110 : UInt8)) (l := (shapeF c.wd).1.data.toList); omega
    rw [if_pos h, if_pos h, refShape_k c.wd k (by omega), Option.bind_some]
    have H := cmd_l0 c hI (shapeF c.wd).1 hs hlet 3000000 (by omega) (fun hm k hk => by
      obtain ⟨hA, hc2⟩ := right_all (h5 hm)
      exact line_f (cnt c.x) c.x (Nat.le_refl _) (by omega) hwf hA k (by omega)) (shapeF c.wd).1.data.toList 0 0 0 c.wd.data.toList (by omega) rfl (by omega) (by omega) (by omega) (by omega) (by rw [List.drop_zero, List.drop_zero]; omega) k (by omega)
    rw [List.drop_zero, List.drop_zero, tB_data] at H
    refine H.trans ?_
    rfl
  · rw [if_neg h, if_neg h]
end Go.Proofs.YtcinojbfjiohjaaGreatDoor.Pr
end

section
namespace Go.Proofs.YtcinojbfjiohjaaGreatDoor.Pr
open Go Go.RowKit Go.Proofs.YtcinojbfjiohjaaGreatDoor.PPrintTells Go.Proofs.YtcinojbfjiohjaaGreatDoor.Ex Go.Proofs.YtcinojbfjiohjaaGreatDoorW.PrintWords Go.Proofs.YtcinojbfjiohjaaGreatDoorW.PrintLast Go.Proofs.YtcinojbfjiohjaaGreatDoorW.PrintMore
set_option linter.unusedVariables false
set_option linter.unusedSimpArgs false
theorem refCount_calls (x : X) (A2 : Option Addr) (c2 : Nat) (A3 : Option Addr) (c3 : Nat) (w : World) (hx : Has w x A2 c2 A3 c3) (hc : cnt x ≤ 1048576) :
    Calls Tryz.prog 21 #[agg x A2 c2 A3 c3] w fun e w' => e = .returned (.int .i64 (cnt x)) ∧ Below w.heap.size w w' :=
  epactref09_Count.calls 4000000 x.f0 x.f1 A2 c2 x.f2 A3 c3 x.f3 _ w hx.C2 hx.l2 hx.C3 hx.l3 (refCount_f (cnt x) x (Nat.le_refl _) (by omega) _ (by omega))
theorem refExpr_calls (x : X) (A2 : Option Addr) (c2 : Nat) (A3 : Option Addr) (c3 : Nat) (w : World) (hx : Has w x A2 c2 A3 c3) (hc : cnt x ≤ 1048576) :
    Calls Tryz.prog 22 #[agg x A2 c2 A3 c3] w fun e w' => e = .returned (.tuple #[.string (lineE x).1, .int .i64 (lineE x).2]) ∧ Below w.heap.size w w' :=
  epactref12_Expr.calls 4000000 x.f0 x.f1 A2 c2 x.f2 A3 c3 x.f3 _ _ w hx.C2 hx.l2 hx.C3 hx.l3 (Expr_f x hc hx.wf _ (Nat.le_refl _))
theorem HasC.ok {w : World} {c : Cmd} {A1 : Option Addr} {c1 : Nat} {A2 : Option Addr} {c2 : Nat} {A3 : Option Addr} {c3 : Nat} {A4 : Option Addr} {c4 : Nat} (h : HasC w c A1 c1 A2 c2 A3 c3 A4 c4) : Ints c := ⟨h.ints, h.lo64, h.hi64⟩
theorem refRightC_calls (c : Cmd) (A1 : Option Addr) (c1 : Nat) (A2 : Option Addr) (c2 : Nat) (A3 : Option Addr) (c3 : Nat) (A4 : Option Addr) (c4 : Nat) (w : World) (h : HasC w c A1 c1 A2 c2 A3 c3 A4 c4) (hc : cnt c.x ≤ 1048576) :
    Calls Tryz.prog 24 #[.agg (cmA c A1 c1 A2 c2 A3 c3 A4 c4)] w fun e w' => e = .returned (.bool (rightC c)) ∧ Below w.heap.size w w' :=
  epactref11_Right.calls (4000100 + c.names.length) c.wd A1 c1 c.names A2 c2 c.nums c.lo c.hi c.hl c.hh c.x.f0 c.x.f1 A3 c3 c.x.f2 A4 c4 c.x.f3 _ w h.C1 h.n1 h.C2 h.n2 h.has.C2 h.has.l2 h.has.C3 h.has.l3 (RightC_f c hc h.has.wf (Kd.C_max h.C1) _ (Nat.le_refl _))
theorem refCommand_calls (c : Cmd) (A1 : Option Addr) (c1 : Nat) (A2 : Option Addr) (c2 : Nat) (A3 : Option Addr) (c3 : Nat) (A4 : Option Addr) (c4 : Nat) (w : World) (h : HasC w c A1 c1 A2 c2 A3 c3 A4 c4) (hc : cnt c.x ≤ 1048576) :
    Calls Tryz.prog 23 #[.agg (cmA c A1 c1 A2 c2 A3 c3 A4 c4)] w fun e w' => e = .returned (.tuple #[.string (lineCE c).1, .int .i64 (lineCE c).2]) ∧ Below w.heap.size w w' :=
  epactref12_Command.calls (4000100 + c.names.length) c.wd A1 c1 c.names A2 c2 c.nums c.lo c.hi c.hl c.hh c.x.f0 c.x.f1 A3 c3 c.x.f2 A4 c4 c.x.f3 _ _ w h.C1 h.n1 h.C2 h.n2 h.has.C2 h.has.l2 h.has.C3 h.has.l3 (Command_f c h.ok hc h.has.wf (Kd.C_max h.C1) _ (Nat.le_refl _))
set_option maxHeartbeats 32000000 in
set_option maxRecDepth 100000 in
theorem PrintTells_walk (x : X) (A2 : Option Addr) (c2 : Nat) (A3 : Option Addr) (c3 : Nat) (c : Cmd) (C1 : Option Addr) (d1 : Nat) (C2 : Option Addr) (d2 : Nat) (C3 : Option Addr) (d3 : Nat) (C4 : Option Addr) (d4 : Nat) (w : World) (hC : PCal w) (hx : Has w x A2 c2 A3 c3) (hcx : cnt x ≤ 1048576)
    (hc : HasC w c C1 d1 C2 d2 C3 d3 C4 d4) (hcc : cnt c.x ≤ 1048576) (hx2 : c.x.f2.length ≤ 4611686018427387903) (hx3 : c.x.f3.length ≤ 4611686018427387903) :
    Calls Tryz.prog 5 #[agg x A2 c2 A3 c3, .agg (cmA c C1 d1 C2 d2 C3 d3 C4 d4)] w fun e w' => e = .returned (.bool true) ∧ Below w.heap.size w w' := by
  have HC := Aside0.mk hC
  have AW := fun W (h : Below w.heap.size w W) => Aside0.mk (awake_calls W (HC.out.l h))
  have CC := fun W (h : Below w.heap.size w W) => Aside0.mk (refCount_calls x A2 c2 A3 c3 W (hx.below h) hcx)
  have CD := fun W (h : Below w.heap.size w W) => Aside0.mk (refCount_calls c.x C3 d3 C4 d4 W (hc.has.below h) hcc)
  have CE := fun W (h : Below w.heap.size w W) => Aside0.mk (Expr_calls x A2 c2 A3 c3 W (HC.out.l h) (hx.below h) (by omega))
  have CF := fun W (h : Below w.heap.size w W) => Aside0.mk (refExpr_calls x A2 c2 A3 c3 W (hx.below h) hcx)
  have CG := fun W (h : Below w.heap.size w W) => Aside0.mk (Command_calls c C1 d1 C2 d2 C3 d3 C4 d4 W (HC.out.l h) (hc.below h) (by omega) hx2 hx3 (fun hr => by have := lineC_len hc.ok hc.has.wf hr; omega))
  have CH := fun W (h : Below w.heap.size w W) => Aside0.mk (refCommand_calls c C1 d1 C2 d2 C3 d3 C4 d4 W (hc.below h) hcc)
  have CI := fun W (h : Below w.heap.size w W) => Aside0.mk (RightC_calls c C1 d1 C2 d2 C3 d3 C4 d4 W (HC.out.l h).pa (hc.below h) (by omega) hx2 hx3)
  have CJ := fun W (h : Below w.heap.size w W) => Aside0.mk (refRightC_calls c C1 d1 C2 d2 C3 d3 C4 d4 W (hc.below h) hcc)
  generalize lineE x = E at *
  generalize lineCE c = G at *
  generalize rightC c = R at *
  generalize cnt x = K at *
  generalize cnt c.x = L at *
  obtain ⟨T, e⟩ := E
  obtain ⟨U, g⟩ := G
  dsimp only at CE CF CG CH
  clear hC hx hc hx2 hx3
  obtain ⟨o, nm, ns, xs⟩ := x
  obtain ⟨wd, NS, ms, lo, hg, hl, hh, ⟨p, qm, os, ys⟩⟩ := c
  unfold agg cmA at *
  dsimp only at *
  generalize ns.length = n2 at *
  generalize xs.length = n3 at *
  generalize NS.length = N1 at *
  generalize ms.length = N2 at *
  generalize os.length = m3 at *
  generalize ys.length = m4 at *
  have hk0 : ((w.alloc (bxO o nm A2 n2 c2 A3 n3 c3)).alloc (cmO wd C1 N1 d1 C2 N2 d2 lo hg hl hh p qm C3 m3 d3 C4 m4 d4)).heap[w.heap.size]? = some (bxO o nm A2 n2 c2 A3 n3 c3) := blk_below (blk_new w (bxO o nm A2 n2 c2 A3 n3 c3)) (below_alloc (Below.refl _ _) _)
  have hk1 : ((w.alloc (bxO o nm A2 n2 c2 A3 n3 c3)).alloc (cmO wd C1 N1 d1 C2 N2 d2 lo hg hl hh p qm C3 m3 d3 C4 m4 d4)).heap[w.heap.size + 1]? = some (cmO wd C1 N1 d1 C2 N2 d2 lo hg hl hh p qm C3 m3 d3 C4 m4 d4) := by have h := blk_new (w.alloc (bxO o nm A2 n2 c2 A3 n3 c3)) (cmO wd C1 N1 d1 C2 N2 d2 lo hg hl hh p qm C3 m3 d3 C4 m4 d4); rwa [show (w.alloc (bxO o nm A2 n2 c2 A3 n3 c3)).heap.size = w.heap.size + 1 from Array.size_push ..] at h
  have HB1 := Aside0.mk (show Below w.heap.size w ((w.alloc (bxO o nm A2 n2 c2 A3 n3 c3)).alloc (cmO wd C1 N1 d1 C2 N2 d2 lo hg hl hh p qm C3 m3 d3 C4 m4 d4)) from below_alloc (below_alloc (Below.refl _ _) _) _)
  obtain ⟨y0, y1, y2, y3⟩ := cells4 hk0
  obtain ⟨z0, z1, z2, z3, z4, z5, z6, z7, z8, z9, z10⟩ := cells11 hk1
  have C1' := Aside0.mk (CC _ HB1.out).out
  clear CC
  by_cases hbig : 3000 < K
  · have g1 : (3000 : Int) < (K : Int) := by omega
    have g2 : decide ((3000 : Int) < (K : Int)) = true := decide_eq_true g1
    clear CE CF CG CH CI CJ CD
    go_enter Tryz.func5, Tryz.ntmps5
    go_wp2_with fail
    (with_reducible refine (C1'.out).mono ?_)
    rintro e w2 ⟨rfl, hb⟩
    have HB2 := Aside0.mk (below_then HB1.out HB1.out.size hb)
    have hy2 := blk_below hk0 hb
    have hk2 := blk_below hk1 hb
    clear hb y0 y1 y2 y3 z0 z1 z2 z3 z4 z5 z6 z7 z8 z9 z10 C1' hk0 hk1
    obtain ⟨y0, y1, y2, y3⟩ := cells4 hy2
    obtain ⟨z0, z1, z2, z3, z4, z5, z6, z7, z8, z9, z10⟩ := cells11 hk2
    go_wp2_with fail
    (with_reducible refine (AW _ HB2.out).out.mono ?_)
    rintro e wf ⟨rfl, hb⟩
    have HF := Aside0.mk (below_then HB2.out HB2.out.size hb)
    go_wp2
    go_ret
    exact ⟨rfl, HF.out⟩
  have g1 : ¬ (3000 : Int) < (K : Int) := by omega
  have g2 : decide ((3000 : Int) < (K : Int)) = false := decide_eq_false g1
  by_cases hbig2 : 3000 < L
  · have g3 : (3000 : Int) < (L : Int) := by omega
    have g4 : decide ((3000 : Int) < (L : Int)) = true := decide_eq_true g3
    clear CE CF CG CH CI CJ
    go_enter Tryz.func5, Tryz.ntmps5
    go_wp2_with fail
    (with_reducible refine (C1'.out).mono ?_)
    rintro e w2 ⟨rfl, hb⟩
    have HB2 := Aside0.mk (below_then HB1.out HB1.out.size hb)
    have hy2 := blk_below hk0 hb
    have hk2 := blk_below hk1 hb
    clear hb y0 y1 y2 y3 z0 z1 z2 z3 z4 z5 z6 z7 z8 z9 z10 C1' hk0 hk1
    obtain ⟨y0, y1, y2, y3⟩ := cells4 hy2
    obtain ⟨z0, z1, z2, z3, z4, z5, z6, z7, z8, z9, z10⟩ := cells11 hk2
    go_wp2_with fail
    (with_reducible refine ((CD _ HB2.out).out).mono ?_)
    rintro e w3 ⟨rfl, hb⟩
    have HB3 := Aside0.mk (below_then HB2.out HB2.out.size hb)
    have hy3 := blk_below hy2 hb
    have hk3 := blk_below hk2 hb
    clear hb y0 y1 y2 y3 z0 z1 z2 z3 z4 z5 z6 z7 z8 z9 z10 CD hy2 hk2
    obtain ⟨y0, y1, y2, y3⟩ := cells4 hy3
    obtain ⟨z0, z1, z2, z3, z4, z5, z6, z7, z8, z9, z10⟩ := cells11 hk3
    go_wp2_with fail
    (with_reducible refine (AW _ HB3.out).out.mono ?_)
    rintro e wf ⟨rfl, hb⟩
    have HF := Aside0.mk (below_then HB3.out HB3.out.size hb)
    go_wp2
    go_ret
    exact ⟨rfl, HF.out⟩
  have g3 : ¬ (3000 : Int) < (L : Int) := by omega
  have g4 : decide ((3000 : Int) < (L : Int)) = false := decide_eq_false g3
  have hse : (T.toList == T.toList) = true := beq_self_eq_true _
  have hsu : (U.toList == U.toList) = true := beq_self_eq_true _
  have hee : (e == e) = true := beq_self_eq_true _
  have hgg : (g == g) = true := beq_self_eq_true _
  have hrr : (R == R) = true := beq_self_eq_true _
  go_enter Tryz.func5, Tryz.ntmps5
  go_wp2_with fail
  (with_reducible refine (C1'.out).mono ?_)
  rintro e w2 ⟨rfl, hb⟩
  have HB2 := Aside0.mk (below_then HB1.out HB1.out.size hb)
  have hy2 := blk_below hk0 hb
  have hk2 := blk_below hk1 hb
  clear hb y0 y1 y2 y3 z0 z1 z2 z3 z4 z5 z6 z7 z8 z9 z10 C1' hk0 hk1
  obtain ⟨y0, y1, y2, y3⟩ := cells4 hy2
  obtain ⟨z0, z1, z2, z3, z4, z5, z6, z7, z8, z9, z10⟩ := cells11 hk2
  go_wp2_with fail
  (with_reducible refine ((CD _ HB2.out).out).mono ?_)
  rintro e w3 ⟨rfl, hb⟩
  have HB3 := Aside0.mk (below_then HB2.out HB2.out.size hb)
  have hy3 := blk_below hy2 hb
  have hk3 := blk_below hk2 hb
  clear hb y0 y1 y2 y3 z0 z1 z2 z3 z4 z5 z6 z7 z8 z9 z10 CD hy2 hk2
  obtain ⟨y0, y1, y2, y3⟩ := cells4 hy3
  obtain ⟨z0, z1, z2, z3, z4, z5, z6, z7, z8, z9, z10⟩ := cells11 hk3
  go_wp2_with fail
  (with_reducible refine ((CE _ HB3.out).out).mono ?_)
  rintro e w4 ⟨rfl, hb⟩
  have HB4 := Aside0.mk (below_then HB3.out HB3.out.size hb)
  have hy4 := blk_below hy3 hb
  have hk4 := blk_below hk3 hb
  clear hb y0 y1 y2 y3 z0 z1 z2 z3 z4 z5 z6 z7 z8 z9 z10 CE hy3 hk3
  obtain ⟨y0, y1, y2, y3⟩ := cells4 hy4
  obtain ⟨z0, z1, z2, z3, z4, z5, z6, z7, z8, z9, z10⟩ := cells11 hk4
  go_wp2_with fail
  (with_reducible refine ((CF _ HB4.out).out).mono ?_)
  rintro e w5 ⟨rfl, hb⟩
  have HB5 := Aside0.mk (below_then HB4.out HB4.out.size hb)
  have hy5 := blk_below hy4 hb
  have hk5 := blk_below hk4 hb
  clear hb y0 y1 y2 y3 z0 z1 z2 z3 z4 z5 z6 z7 z8 z9 z10 CF hy4 hk4
  obtain ⟨y0, y1, y2, y3⟩ := cells4 hy5
  obtain ⟨z0, z1, z2, z3, z4, z5, z6, z7, z8, z9, z10⟩ := cells11 hk5
  go_wp2_with fail
  (with_reducible refine ((CG _ HB5.out).out).mono ?_)
  rintro e w6 ⟨rfl, hb⟩
  have HB6 := Aside0.mk (below_then HB5.out HB5.out.size hb)
  have hy6 := blk_below hy5 hb
  have hk6 := blk_below hk5 hb
  clear hb y0 y1 y2 y3 z0 z1 z2 z3 z4 z5 z6 z7 z8 z9 z10 CG hy5 hk5
  obtain ⟨y0, y1, y2, y3⟩ := cells4 hy6
  obtain ⟨z0, z1, z2, z3, z4, z5, z6, z7, z8, z9, z10⟩ := cells11 hk6
  go_wp2_with fail
  (with_reducible refine ((CH _ HB6.out).out).mono ?_)
  rintro e w7 ⟨rfl, hb⟩
  have HB7 := Aside0.mk (below_then HB6.out HB6.out.size hb)
  have hy7 := blk_below hy6 hb
  have hk7 := blk_below hk6 hb
  clear hb y0 y1 y2 y3 z0 z1 z2 z3 z4 z5 z6 z7 z8 z9 z10 CH hy6 hk6
  obtain ⟨y0, y1, y2, y3⟩ := cells4 hy7
  obtain ⟨z0, z1, z2, z3, z4, z5, z6, z7, z8, z9, z10⟩ := cells11 hk7
  have hk8 : w7.drew.heap[w.heap.size + 1]? = some (cmO wd C1 N1 d1 C2 N2 d2 lo hg hl hh p qm C3 m3 d3 C4 m4 d4) := hk7
  obtain ⟨q0, q1, q2, q3, q4, q5, q6, q7, q8, q9, q10⟩ := cells11 hk8
  have HB8 := Aside0.mk (show Below w.heap.size w w7.drew from below_drew HB7.out)
  clear y0 y1 y2 y3 hy7 hk7 z0 z1 z2 z3 z4 z5 z6 z7 z8 z9 z10
  go_wp2_with fail
  refine start_ (n := 29) (S := fun w' => w'.cell? ⟨w.heap.size + 1, 0, none⟩ = some (.string wd) ∧ w'.cell? ⟨w.heap.size + 1, 1, none⟩ = some (.slice C1 N1 d1) ∧ w'.cell? ⟨w.heap.size + 1, 2, none⟩ = some (.slice C2 N2 d2) ∧ w'.cell? ⟨w.heap.size + 1, 3, none⟩ = some (.int .i64 lo) ∧ w'.cell? ⟨w.heap.size + 1, 4, none⟩ = some (.int .i64 hg) ∧ w'.cell? ⟨w.heap.size + 1, 5, none⟩ = some (.bool hl) ∧ w'.cell? ⟨w.heap.size + 1, 6, none⟩ = some (.bool hh) ∧ w'.cell? ⟨w.heap.size + 1, 7, none⟩ = some (.int .u8 p) ∧ w'.cell? ⟨w.heap.size + 1, 8, none⟩ = some (.string qm) ∧ w'.cell? ⟨w.heap.size + 1, 9, none⟩ = some (.slice C3 m3 d3) ∧ w'.cell? ⟨w.heap.size + 1, 10, none⟩ = some (.slice C4 m4 d4)) (ds := []) #[false, false, false, false, false, false, false, false, false, false, false, false, false, false, false, false, false, false, false, false, false, false, false, false, false, false, false, false, false] (by kernel_rfl) rfl rfl ⟨q0, q1, q2, q3, q4, q5, q6, q7, q8, q9, q10⟩ (fun hHeld => ?_)
  refine pure_ (i := 0) (N := some 43) (v := ?_) (a' := ?_) #[true, false, false, false, false, false, false, false, false, false, false, false, false, false, false, false, false, false, false, false, false, false, false, false, false, false, false, false, false] rfl rfl (by kernel_rfl) (fun _ _ _ h => h) (Or.inl ⟨by rfl, ?_⟩) ?_ ?_
  rotate_left
  · intro w'
    go_simp
    with_reducible rfl
  rotate_left
  · simp only [Act.put, List.setIfInBounds_toArray, List.set_cons_zero, List.set_cons_succ, i64_w, i32_w]
    rfl
  refine pure_ (i := 1) (N := some 44) (v := ?_) (a' := ?_) #[true, true, false, false, false, false, false, false, false, false, false, false, false, false, false, false, false, false, false, false, false, false, false, false, false, false, false, false, false] rfl rfl (by kernel_rfl) (fun _ _ _ h => h) (Or.inl ⟨by rfl, ?_⟩) ?_ ?_
  rotate_left
  · intro w'
    go_simp
    with_reducible rfl
  rotate_left
  · simp only [Act.put, List.setIfInBounds_toArray, List.set_cons_zero, List.set_cons_succ, i64_w, i32_w]
    rfl
  refine pure_ (i := 2) (N := some 45) (v := ?_) (a' := ?_) #[true, true, true, false, false, false, false, false, false, false, false, false, false, false, false, false, false, false, false, false, false, false, false, false, false, false, false, false, false] rfl rfl (by kernel_rfl) (fun _ _ _ h => h) (Or.inl ⟨by rfl, ?_⟩) ?_ ?_
  rotate_left
  · intro w'
    go_simp
    with_reducible rfl
  rotate_left
  · simp only [Act.put, List.setIfInBounds_toArray, List.set_cons_zero, List.set_cons_succ, i64_w, i32_w]
    rfl
  refine pure_ (i := 3) (N := some 46) (v := ?_) (a' := ?_) #[true, true, true, true, false, false, false, false, false, false, false, false, false, false, false, false, false, false, false, false, false, false, false, false, false, false, false, false, false] rfl rfl (by kernel_rfl) (fun _ _ _ h => h) (Or.inl ⟨by rfl, ?_⟩) ?_ ?_
  rotate_left
  · intro w'
    go_simp
    with_reducible rfl
  rotate_left
  · simp only [Act.put, List.setIfInBounds_toArray, List.set_cons_zero, List.set_cons_succ, i64_w, i32_w]
    rfl
  refine pure_ (i := 4) (N := some 47) (v := ?_) (a' := ?_) #[true, true, true, true, true, false, false, false, false, false, false, false, false, false, false, false, false, false, false, false, false, false, false, false, false, false, false, false, false] rfl rfl (by kernel_rfl) (fun _ _ _ h => h) (Or.inl ⟨by rfl, ?_⟩) ?_ ?_
  rotate_left
  · intro w'
    go_simp
    with_reducible rfl
  rotate_left
  · simp only [Act.put, List.setIfInBounds_toArray, List.set_cons_zero, List.set_cons_succ, i64_w, i32_w]
    rfl
  refine pure_ (i := 5) (N := some 48) (v := ?_) (a' := ?_) #[true, true, true, true, true, true, false, false, false, false, false, false, false, false, false, false, false, false, false, false, false, false, false, false, false, false, false, false, false] rfl rfl (by kernel_rfl) (fun _ _ _ h => h) (Or.inl ⟨by rfl, ?_⟩) ?_ ?_
  rotate_left
  · intro w'
    go_simp
    with_reducible rfl
  rotate_left
  · simp only [Act.put, List.setIfInBounds_toArray, List.set_cons_zero, List.set_cons_succ, i64_w, i32_w]
    rfl
  refine pure_ (i := 6) (N := some 49) (v := ?_) (a' := ?_) #[true, true, true, true, true, true, true, false, false, false, false, false, false, false, false, false, false, false, false, false, false, false, false, false, false, false, false, false, false] rfl rfl (by kernel_rfl) (fun _ _ _ h => h) (Or.inl ⟨by rfl, ?_⟩) ?_ ?_
  rotate_left
  · intro w'
    go_simp
    with_reducible rfl
  rotate_left
  · simp only [Act.put, List.setIfInBounds_toArray, List.set_cons_zero, List.set_cons_succ, i64_w, i32_w]
    rfl
  refine pure_ (i := 7) (N := some 50) (v := ?_) (a' := ?_) #[true, true, true, true, true, true, true, true, false, false, false, false, false, false, false, false, false, false, false, false, false, false, false, false, false, false, false, false, false] rfl rfl (by kernel_rfl) (fun _ _ _ h => h) (Or.inl ⟨by rfl, ?_⟩) ?_ ?_
  rotate_left
  · intro w'
    go_simp
    with_reducible rfl
  rotate_left
  · simp only [Act.put, List.setIfInBounds_toArray, List.set_cons_zero, List.set_cons_succ, i64_w, i32_w]
    rfl
  refine pure_ (i := 8) (N := some 51) (v := ?_) (a' := ?_) #[true, true, true, true, true, true, true, true, true, false, false, false, false, false, false, false, false, false, false, false, false, false, false, false, false, false, false, false, false] rfl rfl (by kernel_rfl) (fun _ _ _ h => h) (Or.inl ⟨by rfl, ?_⟩) ?_ ?_
  rotate_left
  · intro w'
    go_simp
    with_reducible rfl
  rotate_left
  · simp only [Act.put, List.setIfInBounds_toArray, List.set_cons_zero, List.set_cons_succ, i64_w, i32_w]
    rfl
  refine pure_ (i := 9) (N := some 52) (v := ?_) (a' := ?_) #[true, true, true, true, true, true, true, true, true, true, false, false, false, false, false, false, false, false, false, false, false, false, false, false, false, false, false, false, false] rfl rfl (by kernel_rfl) (fun _ _ _ h => h) (Or.inl ⟨by rfl, ?_⟩) ?_ ?_
  rotate_left
  · intro w'
    go_simp
    with_reducible rfl
  rotate_left
  · simp only [Act.put, List.setIfInBounds_toArray, List.set_cons_zero, List.set_cons_succ, i64_w, i32_w]
    rfl
  refine pure_ (i := 10) (N := some 53) (v := ?_) (a' := ?_) #[true, true, true, true, true, true, true, true, true, true, true, false, false, false, false, false, false, false, false, false, false, false, false, false, false, false, false, false, false] rfl rfl (by kernel_rfl) (fun _ _ _ h => h) (Or.inl ⟨by rfl, ?_⟩) ?_ ?_
  rotate_left
  · intro w'
    go_simp
    with_reducible rfl
  rotate_left
  · simp only [Act.put, List.setIfInBounds_toArray, List.set_cons_zero, List.set_cons_succ, i64_w, i32_w]
    rfl
  refine pure_ (i := 11) (N := some 54) (v := ?_) (a' := ?_) #[true, true, true, true, true, true, true, true, true, true, true, true, false, false, false, false, false, false, false, false, false, false, false, false, false, false, false, false, false] rfl rfl (by kernel_rfl) (fun _ _ _ h => h) (Or.inl ⟨by rfl, ?_⟩) ?_ ?_
  rotate_left
  · intro w'
    go_simp
    with_reducible rfl
  rotate_left
  · simp only [Act.put, List.setIfInBounds_toArray, List.set_cons_zero, List.set_cons_succ, i64_w, i32_w]
    rfl
  refine pure_ (i := 12) (N := some 55) (v := ?_) (a' := ?_) #[true, true, true, true, true, true, true, true, true, true, true, true, true, false, false, false, false, false, false, false, false, false, false, false, false, false, false, false, false] rfl rfl (by kernel_rfl) (fun _ _ _ h => h) (Or.inl ⟨by rfl, ?_⟩) ?_ ?_
  rotate_left
  · intro w'
    go_simp
    with_reducible rfl
  rotate_left
  · simp only [Act.put, List.setIfInBounds_toArray, List.set_cons_zero, List.set_cons_succ, i64_w, i32_w]
    rfl
  refine pure_ (i := 13) (N := some 56) (v := ?_) (a' := ?_) #[true, true, true, true, true, true, true, true, true, true, true, true, true, true, false, false, false, false, false, false, false, false, false, false, false, false, false, false, false] rfl rfl (by kernel_rfl) (fun _ _ _ h => h) (Or.inl ⟨by rfl, ?_⟩) ?_ ?_
  rotate_left
  · intro w'
    go_simp
    with_reducible rfl
  rotate_left
  · simp only [Act.put, List.setIfInBounds_toArray, List.set_cons_zero, List.set_cons_succ, i64_w, i32_w]
    rfl
  refine pure_ (i := 14) (N := some 57) (v := ?_) (a' := ?_) #[true, true, true, true, true, true, true, true, true, true, true, true, true, true, true, false, false, false, false, false, false, false, false, false, false, false, false, false, false] rfl rfl (by kernel_rfl) (fun _ _ _ h => h) (Or.inl ⟨by rfl, ?_⟩) ?_ ?_
  rotate_left
  · intro w'
    go_simp
    with_reducible rfl
  rotate_left
  · simp only [Act.put, List.setIfInBounds_toArray, List.set_cons_zero, List.set_cons_succ, i64_w, i32_w]
    rfl
  refine pure_ (i := 15) (N := some 58) (v := ?_) (a' := ?_) #[true, true, true, true, true, true, true, true, true, true, true, true, true, true, true, true, false, false, false, false, false, false, false, false, false, false, false, false, false] rfl rfl (by kernel_rfl) (fun _ _ _ h => h) (Or.inl ⟨by rfl, ?_⟩) ?_ ?_
  rotate_left
  · intro w'
    go_simp
    with_reducible rfl
  rotate_left
  · simp only [Act.put, List.setIfInBounds_toArray, List.set_cons_zero, List.set_cons_succ, i64_w, i32_w]
    rfl
  refine pure_ (i := 16) (N := some 59) (v := ?_) (a' := ?_) #[true, true, true, true, true, true, true, true, true, true, true, true, true, true, true, true, true, false, false, false, false, false, false, false, false, false, false, false, false] rfl rfl (by kernel_rfl) (fun _ _ _ h => h) (Or.inl ⟨by rfl, ?_⟩) ?_ ?_
  rotate_left
  · intro w'
    go_simp
    with_reducible rfl
  rotate_left
  · simp only [Act.put, List.setIfInBounds_toArray, List.set_cons_zero, List.set_cons_succ, i64_w, i32_w]
    rfl
  refine pure_ (i := 17) (N := some 60) (v := ?_) (a' := ?_) #[true, true, true, true, true, true, true, true, true, true, true, true, true, true, true, true, true, true, false, false, false, false, false, false, false, false, false, false, false] rfl rfl (by kernel_rfl) (fun _ _ _ h => h) (Or.inl ⟨by rfl, ?_⟩) ?_ ?_
  rotate_left
  · intro w'
    go_simp
    with_reducible rfl
  rotate_left
  · simp only [Act.put, List.setIfInBounds_toArray, List.set_cons_zero, List.set_cons_succ, i64_w, i32_w]
    rfl
  refine pure_ (i := 18) (N := some 61) (v := ?_) (a' := ?_) #[true, true, true, true, true, true, true, true, true, true, true, true, true, true, true, true, true, true, true, false, false, false, false, false, false, false, false, false, false] rfl rfl (by kernel_rfl) (fun _ _ _ h => h) (Or.inl ⟨by rfl, ?_⟩) ?_ ?_
  rotate_left
  · intro w'
    go_simp
    with_reducible rfl
  rotate_left
  · simp only [Act.put, List.setIfInBounds_toArray, List.set_cons_zero, List.set_cons_succ, i64_w, i32_w]
    rfl
  refine take_ (i := 19) (N := some 62) (v := ?_) (a' := ?_) #[true, true, true, true, true, true, true, true, true, true, true, true, true, true, true, true, true, true, true, true, false, false, false, false, false, false, false, false, false] rfl rfl (by kernel_rfl) (fun _ _ _ h => h) (Or.inl ⟨by rfl, ?_⟩) hHeld ?_ ?_
  rotate_left
  · rintro w' ⟨s0, s1, s2, s3, s4, s5, s6, s7, s8, s9, s10⟩
    go_simp
    with_reducible rfl
  rotate_left
  · simp only [Act.put, List.setIfInBounds_toArray, List.set_cons_zero, List.set_cons_succ, i64_w, i32_w]
    rfl
  refine take_ (i := 21) (N := some 64) (v := ?_) (a' := ?_) #[true, true, true, true, true, true, true, true, true, true, true, true, true, true, true, true, true, true, true, true, false, true, false, false, false, false, false, false, false] rfl rfl (by kernel_rfl) (fun _ _ _ h => h) (Or.inl ⟨by rfl, ?_⟩) hHeld ?_ ?_
  rotate_left
  · rintro w' ⟨s0, s1, s2, s3, s4, s5, s6, s7, s8, s9, s10⟩
    go_simp
    with_reducible rfl
  rotate_left
  · simp only [Act.put, List.setIfInBounds_toArray, List.set_cons_zero, List.set_cons_succ, i64_w, i32_w]
    rfl
  refine one_ (i := 20) (N := some 63) #[true, true, true, true, true, true, true, true, true, true, true, true, true, true, true, true, true, true, true, true, true, true, false, false, false, false, false, false, false] rfl rfl (by kernel_rfl) (by decide) (fun K hK => ?_)
  refine goes_ Tryz.func18 (by kernel_rfl) rfl #[.agg #[.string wd, .slice C1 N1 d1, .slice C2 N2 d2, .int .i64 lo, .int .i64 hg, .bool hl, .bool hh, .int .u8 p, .string qm, .slice C3 m3 d3, .slice C4 m4 d4]] (by rfl) rfl rfl (by simp only [List.map_toArray, List.map_cons, List.map_nil]; rfl) ?_
  with_reducible refine ((CI _ HB8.out).out).mono ?_
  rintro e w9 ⟨rfl, hb⟩
  refine ⟨_, rfl, ?_⟩
  have HB9 := Aside0.mk (below_then HB8.out HB8.out.size hb)
  have hk9 := blk_below hk8 hb
  obtain ⟨r0, r1, r2, r3, r4, r5, r6, r7, r8, r9, r10⟩ := cells11 hk9
  refine hK.out _ _ ⟨r0, r1, r2, r3, r4, r5, r6, r7, r8, r9, r10⟩ (fun hHeld => ?_)
  clear hK K
  refine norm_ (a' := ?_) ?_ ?_
  rotate_left
  · show Act.put _ (some 63) _ = _
    simp only [Act.put, List.setIfInBounds_toArray, List.set_cons_zero, List.set_cons_succ, i64_w, i32_w]
    rfl
  refine one_ (i := 22) (N := some 65) #[true, true, true, true, true, true, true, true, true, true, true, true, true, true, true, true, true, true, true, true, true, true, true, false, false, false, false, false, false] rfl rfl (by kernel_rfl) (by decide) (fun K hK => ?_)
  refine goes_ Tryz.func24 (by kernel_rfl) rfl #[.agg #[.string wd, .slice C1 N1 d1, .slice C2 N2 d2, .int .i64 lo, .int .i64 hg, .bool hl, .bool hh, .int .u8 p, .string qm, .slice C3 m3 d3, .slice C4 m4 d4]] (by rfl) rfl rfl (by simp only [List.map_toArray, List.map_cons, List.map_nil]; rfl) ?_
  with_reducible refine ((CJ _ HB9.out).out).mono ?_
  rintro e wa ⟨rfl, hb⟩
  refine ⟨_, rfl, ?_⟩
  have HBa := Aside0.mk (below_then HB9.out HB9.out.size hb)
  have hka := blk_below hk9 hb
  obtain ⟨s0, s1, s2, s3, s4, s5, s6, s7, s8, s9, s10⟩ := cells11 hka
  refine hK.out _ _ ⟨s0, s1, s2, s3, s4, s5, s6, s7, s8, s9, s10⟩ (fun hHeld => ?_)
  clear hK K
  refine norm_ (a' := ?_) ?_ ?_
  rotate_left
  · show Act.put _ (some 65) _ = _
    simp only [Act.put, List.setIfInBounds_toArray, List.set_cons_zero, List.set_cons_succ, i64_w, i32_w]
    rfl
  refine pure_ (i := 23) (N := some 66) (v := ?_) (a' := ?_) #[true, true, true, true, true, true, true, true, true, true, true, true, true, true, true, true, true, true, true, true, true, true, true, true, false, false, false, false, false] rfl rfl (by kernel_rfl) (fun _ _ _ h => h) (Or.inl ⟨by rfl, ?_⟩) ?_ ?_
  rotate_left
  · intro w'
    go_simp
    with_reducible rfl
  rotate_left
  · simp only [Act.put, List.setIfInBounds_toArray, List.set_cons_zero, List.set_cons_succ, i64_w, i32_w]
    rfl
  refine pure_ (i := 24) (N := some 67) (v := ?_) (a' := ?_) #[true, true, true, true, true, true, true, true, true, true, true, true, true, true, true, true, true, true, true, true, true, true, true, true, true, false, false, false, false] rfl rfl (by kernel_rfl) (fun _ _ _ h => h) (Or.inl ⟨by rfl, ?_⟩) ?_ ?_
  rotate_left
  · intro w'
    go_simp
    with_reducible rfl
  rotate_left
  · simp only [Act.put, List.setIfInBounds_toArray, List.set_cons_zero, List.set_cons_succ, i64_w, i32_w]
    rfl
  refine pure_ (i := 25) (N := some 68) (v := ?_) (a' := ?_) #[true, true, true, true, true, true, true, true, true, true, true, true, true, true, true, true, true, true, true, true, true, true, true, true, true, true, false, false, false] rfl rfl (by kernel_rfl) (fun _ _ _ h => h) (Or.inl ⟨by rfl, ?_⟩) ?_ ?_
  rotate_left
  · intro w'
    go_simp
    with_reducible rfl
  rotate_left
  · simp only [Act.put, List.setIfInBounds_toArray, List.set_cons_zero, List.set_cons_succ, i64_w, i32_w]
    rfl
  refine one_ (i := 26) (N := some 69) #[true, true, true, true, true, true, true, true, true, true, true, true, true, true, true, true, true, true, true, true, true, true, true, true, true, true, true, false, false] rfl rfl (by kernel_rfl) (by decide) (fun K hK => ?_)
  refine goes_ Tryz.func11 (by kernel_rfl) rfl #[] (by rfl) rfl rfl (by simp only [List.map_toArray, List.map_cons, List.map_nil]) ?_
  with_reducible refine ((AW _ HBa.out).out).mono ?_
  rintro e wb ⟨rfl, hb⟩
  refine ⟨_, rfl, ?_⟩
  have HBb := Aside0.mk (below_then HBa.out HBa.out.size hb)
  have hkb := blk_below hka hb
  obtain ⟨t0, t1, t2, t3, t4, t5, t6, t7, t8, t9, t10⟩ := cells11 hkb
  refine hK.out _ _ ⟨t0, t1, t2, t3, t4, t5, t6, t7, t8, t9, t10⟩ (fun hHeld => ?_)
  clear hK K
  refine norm_ (a' := ?_) ?_ ?_
  rotate_left
  · show Act.put _ (some 69) _ = _
    simp only [Act.put, List.setIfInBounds_toArray, List.set_cons_zero, List.set_cons_succ, i64_w, i32_w]
    rfl
  refine pure_ (i := 27) (N := some 70) (v := ?_) (a' := ?_) #[true, true, true, true, true, true, true, true, true, true, true, true, true, true, true, true, true, true, true, true, true, true, true, true, true, true, true, true, false] rfl rfl (by kernel_rfl) (fun _ _ _ h => h) (Or.inl ⟨by rfl, ?_⟩) ?_ ?_
  rotate_left
  · intro w'
    go_simp
    with_reducible rfl
  rotate_left
  · simp only [Act.put, List.setIfInBounds_toArray, List.set_cons_zero, List.set_cons_succ, i64_w, i32_w]
    rfl
  refine pure_ (i := 28) (N := some 4) (v := ?_) (a' := ?_) #[true, true, true, true, true, true, true, true, true, true, true, true, true, true, true, true, true, true, true, true, true, true, true, true, true, true, true, true, true] rfl rfl (by kernel_rfl) (fun _ _ _ h => h) (Or.inl ⟨by rfl, ?_⟩) ?_ ?_
  rotate_left
  · intro w'
    go_simp
    with_reducible rfl
  rotate_left
  · simp only [Act.put, List.setIfInBounds_toArray, List.set_cons_zero, List.set_cons_succ, i64_w, i32_w]
    rfl
  refine done_ (by kernel_rfl) ?_
  go_wp2
  go_ret
  exact ⟨rfl, HBb.out⟩
end Go.Proofs.YtcinojbfjiohjaaGreatDoor.Pr
end

section
namespace Go.Proofs.YtcinojbfjiohjaaGreatDoor.Ex
open Go Go.RowKit Go.ChangeShapes Go.WideShapes Go.ChangeAt Go.Proofs.YtcinojbfjiohjaaGreatDoor.PPrintTells Go.Proofs.YtcinojbfjiohjaaGreatDoorW.PrintWords Go.Proofs.YtcinojbfjiohjaaGreatDoorW.PrintLast Go.Proofs.YtcinojbfjiohjaaGreatDoorW.PrintMore
set_option linter.unusedVariables false
set_option linter.unusedSimpArgs false
theorem cells_expr : Tryz.prog.cellsOf 25 = 4 := by kernel_rfl
theorem cells_byte : Tryz.prog.cellsOf 5 = 1 := by kernel_rfl
theorem cells_int64 : Tryz.prog.cellsOf 2 = 1 := by kernel_rfl
theorem cells_str : Tryz.prog.cellsOf 9 = 1 := by kernel_rfl
theorem cells_nums : Tryz.prog.cellsOf 22 = 1 := by kernel_rfl
theorem cells_args : Tryz.prog.cellsOf 23 = 1 := by kernel_rfl
theorem bulk_cons {H : Type} (d : DataW H) (r : List (DataW H)) : Rows.uptoBulkAll (d :: r) = Rows.uptoBulk d + Rows.uptoBulkAll r := by rw [Rows.uptoBulkAll]
theorem bulk_nil {H : Type} : Rows.uptoBulkAll ([] : List (DataW H)) = 0 := by rw [Rows.uptoBulkAll]
theorem bulk_agg {H : Type} (l : List (DataW H)) : Rows.uptoBulk (.agg l) = Rows.uptoBulkAll l + 1 := by rw [Rows.uptoBulk]
theorem bulk_slice {H : Type} (l r : List (DataW H)) : Rows.uptoBulk (.slice l r) = Rows.uptoBulkAll l + Rows.uptoBulkAll r + 1 := by rw [Rows.uptoBulk]
theorem bulk_string {H : Type} (l : List UInt8) : Rows.uptoBulk (.lit (.string l) : DataW H) = l.length + 1 := by rw [Rows.uptoBulk]
theorem bulk_app {H : Type} (l r : List (DataW H)) : Rows.uptoBulkAll (l ++ r) = Rows.uptoBulkAll l + Rows.uptoBulkAll r := by
  induction l with
  | nil => rw [List.nil_append, bulk_nil]; omega
  | cons d l ih => rw [List.cons_append, bulk_cons, bulk_cons, ih]; omega
theorem cntL_app (l r : List X) : cntL (l ++ r) = cntL l + cntL r := by
  induction l with
  | nil => rw [List.nil_append, cntL_nil]; omega
  | cons d l ih => rw [List.cons_append, cntL_cons, cntL_cons, ih]; omega
theorem bulk_mem {H : Type} {l : List (DataW H)} {d : DataW H} (h : d ∈ l) : Rows.uptoBulk d ≤ Rows.uptoBulkAll l := by
  induction l with
  | nil => cases h
  | cons e l ih =>
    rw [bulk_cons]
    rcases List.mem_cons.1 h with rfl | h
    · omega
    · have := ih h; omega
section
variable {H : Type} {enc : TypeId × Value → H} {w : World} {base : Nat}
theorem nums_of_trod {fuel : Nat} {cs : List Value} {y : DataW H × List MemPlace} (h : DataW.trod enc Tryz.prog w base (fun _ => true) true fuel 22 cs = some y) :
    ∃ A c, ∃ ns : List Int, cs = [.slice A ns.length c] ∧ ns.length ≤ c ∧ kI.C w A ns.length ns ∧ ∀ k ∈ ns, -9223372036854775808 ≤ k ∧ k ≤ 9223372036854775807 := by
  rcases open_ints Tryz.underlying22 Tryz.underlying2 cells_int64 h with ⟨rfl, rfl⟩ | ⟨a, len, cap, zs, rfl, hb, hl, hm, hz, rfl, hc, hw⟩
  · exact ⟨none, 0, [], rfl, Nat.le_refl _, Kd.C_nil _ _, fun _ h => by cases h⟩
  · have hz' : zs.length = cap := by simpa using hz
    have hlen : (zs.take len).length = len := by rw [List.length_take]; omega
    refine ⟨some a, cap, zs.take len, by rw [hlen], by omega, ?_, fun k hk => ?_⟩
    · rw [hlen]
      refine Kd.C_of_reads (enc := Value.int .i64) (d := (0 : Int)) (h1 := fun _ => rfl) ⟨hlen, by unfold maxLen at hm; omega, fun _ => ⟨a, rfl, fun j hj => ?_⟩⟩
      rw [hc j (by omega)]
      simp only [List.getD_eq_getElem?_getD]
      rw [List.getElem?_take_of_lt hj]
    · have := bounds_i64 (hw k (List.mem_of_mem_take hk))
      exact this
set_option maxRecDepth 100000 in
theorem has_of_trod (N : Nat) : ∀ (fuel : Nat), fuel ≤ N → ∀ (cs : List Value) (y : DataW H × List MemPlace), DataW.trod enc Tryz.prog w base (fun _ => true) true fuel 25 cs = some y → Rows.uptoBulk y.1 ≤ 1048576 →
    ∃ x A2 c2 A3 c3, cs = [.int .u8 x.f0, .string x.f1, .slice A2 x.f2.length c2, .slice A3 x.f3.length c3] ∧ Has w x A2 c2 A3 c3 ∧ cnt x ≤ Rows.uptoBulk y.1 := by
  induction N with
  | zero =>
    intro fuel hf cs y h
    obtain rfl : fuel = 0 := by omega
    simp [DataW.trod] at h
  | succ N ih =>
    intro fuel hf cs y h hbulk
    obtain ⟨xs, n, rfl, rfl, hlen, hsz, hall⟩ := DataW.trod_struct Tryz.underlying25 h
    rw [cells_expr] at hlen
    match cs, hlen with
    | [v0, v1, v2, v3], _ =>
    match xs, hsz with
    | [y0, y1, y2, y3], _ =>
    have e0 : DataW.trod enc Tryz.prog w base (fun _ => true) true n 5 (([v0, v1, v2, v3].drop 0).take (Tryz.prog.cellsOf 5)) = some y0 := hall 0 _ rfl
    have e1 : DataW.trod enc Tryz.prog w base (fun _ => true) true n 9 (([v0, v1, v2, v3].drop 1).take (Tryz.prog.cellsOf 9)) = some y1 := hall 1 _ rfl
    have e2 : DataW.trod enc Tryz.prog w base (fun _ => true) true n 22 (([v0, v1, v2, v3].drop 2).take (Tryz.prog.cellsOf 22)) = some y2 := hall 2 _ rfl
    have e3 : DataW.trod enc Tryz.prog w base (fun _ => true) true n 23 (([v0, v1, v2, v3].drop 3).take (Tryz.prog.cellsOf 23)) = some y3 := hall 3 _ rfl
    rw [cells_byte] at e0
    rw [cells_str] at e1
    rw [cells_nums] at e2
    rw [cells_args] at e3
    obtain ⟨o, h0, rfl, hw0⟩ := DataW.trod_int Tryz.underlying5 e0
    obtain ⟨s, h1, rfl, hs⟩ := DataW.trod_string Tryz.underlying9 e1
    obtain ⟨A2, c2, ns, h2, hl2, hC2, hb2⟩ := nums_of_trod e2
    obtain rfl : v0 = .int .u8 o := by simpa using h0
    obtain rfl : v1 = .string s := by simpa using h1
    obtain rfl : v2 = .slice A2 ns.length c2 := by simpa using h2
    have hbl : Rows.uptoBulk y3.1 ≤ 1048576 ∧ s.data.toList.length ≤ 1048576 ∧ Rows.uptoBulk y3.1 + 1 ≤ Rows.uptoBulk (DataW.agg (List.map (fun x => x.1) [(DataW.lit (Lit.int .u8 o), []), (DataW.lit (Lit.string s.data.toList), []), y2, y3])) := by
      simp only [List.map_cons, List.map_nil, bulk_agg, bulk_cons, bulk_nil, bulk_string] at hbulk ⊢
      omega
    have hop := bounds_u8 hw0
    have hss : s.size ≤ 140737488351232 := by
      have h1 : s.size = s.data.toList.length := by simp
      omega
    rcases DataW.trod_slice Tryz.underlying23 e3 with ⟨h3, rfl⟩ | ⟨a, len, cap, elems, rest, n', rfl, h3, rfl, hb, hl, hm, hle, hel, _, _⟩
    · obtain rfl : v3 = .slice none 0 0 := by simpa using h3
      refine ⟨⟨o, s, ns, []⟩, A2, c2, none, 0, rfl, ⟨(Wf_eq _).2 ⟨hop, hss, hb2, WfL_of (fun _ h => by cases h)⟩, hl2, hC2, Nat.le_refl 0, Kd.C_nil _ _⟩, ?_⟩
      rw [cnt_eq]
      show 1 + cntL [] ≤ _
      rw [cntL_nil]
      exact Nat.le_trans (by omega) hbl.2.2
    · obtain rfl : v3 = .slice (some a) len cap := by simpa using h3
      rw [cells_expr] at hel
      have hbe : ∀ e ∈ elems, Rows.uptoBulk e.1 ≤ 1048576 := fun e he => by
        have h1 := bulk_mem (List.mem_map_of_mem (f := fun x : DataW H × List MemPlace => x.1) he)
        have h2 := hbl.1
        rw [bulk_slice] at h2
        omega
      -- each argument
      have each : ∀ i, ∀ hi : i < elems.length, ∃ x B2 d2 B3 d3, w.cells? base (a.add (i * 4)) 4 = some [.int .u8 x.f0, .string x.f1, .slice B2 x.f2.length d2, .slice B3 x.f3.length d3] ∧ Has w x B2 d2 B3 d3 ∧ cnt x ≤ Rows.uptoBulk elems[i].1 := by
        intro i hi
        have h1 := hel i (by omega)
        rw [List.getElem?_eq_getElem hi] at h1
        obtain ⟨cs', h2, h4⟩ := Option.bind_eq_some_iff.1 h1
        obtain ⟨x, B2, d2, B3, d3, rfl, hx, hc⟩ := ih n' (by omega) cs' elems[i] h4 (hbe _ (List.getElem_mem hi))
        exact ⟨x, B2, d2, B3, d3, h2, hx, hc⟩
      have rows : ∀ k, k ≤ elems.length → ∃ ys : List X, ys.length = k ∧ cntL ys ≤ Rows.uptoBulkAll ((elems.take k).map (fun x => x.1)) ∧ ∀ i, ∀ hi : i < ys.length, ∃ B2 d2 B3 d3, w.cells? base (a.add (i * 4)) 4 = some [.int .u8 ys[i].f0, .string ys[i].f1, .slice B2 ys[i].f2.length d2, .slice B3 ys[i].f3.length d3] ∧ Has w ys[i] B2 d2 B3 d3 := by
        intro k
        induction k with
        | zero => intro _; exact ⟨[], rfl, by rw [cntL_nil]; exact Nat.zero_le _, fun i hi => by simp at hi⟩
        | succ k ihk =>
          intro hk
          obtain ⟨ys, hyl, hyc, hy⟩ := ihk (by omega)
          obtain ⟨x, B2, d2, B3, d3, hx1, hx2, hx3⟩ := each k (by omega)
          refine ⟨ys ++ [x], by simp [hyl], ?_, ?_⟩
          · rw [List.take_add_one, List.getElem?_eq_getElem (by omega), List.map_append, cntL_app, bulk_app]
            rw [cntL_cons, cntL_nil]
            show _ ≤ _ + Rows.uptoBulkAll [elems[k].1]
            rw [bulk_cons, bulk_nil]
            omega
          · intro i hi
            rw [List.length_append] at hi
            simp only [List.length_cons, List.length_nil] at hi
            by_cases hik : i < ys.length
            · rw [List.getElem_append_left hik]
              exact hy i hik
            · obtain rfl : i = ys.length := by omega
              rw [List.getElem_concat_length rfl]
              rw [hyl]
              exact ⟨B2, d2, B3, d3, hx1, hx2⟩
      obtain ⟨ys, hyl, hyc, hy⟩ := rows elems.length (Nat.le_refl _)
      rw [List.take_length] at hyc
      have hyl' : ys.length = len := by omega
      subst hyl'
      refine ⟨⟨o, s, ns, ys⟩, A2, c2, some a, cap, rfl, ⟨(Wf_eq _).2 ⟨hop, hss, hb2, WfL_of (fun z hz => ?_)⟩, hl2, hC2, hl, ?_⟩, ?_⟩
      · obtain ⟨i, hi, rfl⟩ := List.getElem_of_mem hz
        obtain ⟨B2, d2, B3, d3, _, hx⟩ := hy i hi
        exact hx.wf
      · refine ⟨rfl, by show ys.length ≤ 9223372036854775807; unfold maxLen at hm; omega, fun _ => ⟨a, rfl, ?_⟩⟩
        intro j p hj
        obtain ⟨hjl, rfl⟩ := List.getElem?_eq_some_iff.1 hj
        obtain ⟨B2, d2, B3, d3, hc, hx⟩ := hy j hjl
        refine ⟨_, rfl, k25_mk w ys[j] hx.l2 hx.C2 hx.l3 hx.C3, ?_⟩
        intro i u hu
        obtain ⟨_, hl4, hcell⟩ := World.cells?_some hc
        have hi : i < 4 := by
          have := (List.getElem?_eq_some_iff.1 hu).1
          simpa using this
        have h5 := hcell i hi
        rw [hu] at h5
        have h6 : (a.add (j * 4)).add i = a.add (j * 4 + i) := by first | exact Addr.add_add a _ _ | exact Go.Addr.add_add a _ _ | (unfold Addr.add; repeat' split <;> simp_all <;> omega)
        rw [h6] at h5
        exact h5
      · rw [cnt_eq]
        show 1 + cntL ys ≤ _
        have h2 := hbl.2.2
        rw [bulk_slice] at h2
        exact Nat.le_trans (by omega) h2
end
end Go.Proofs.YtcinojbfjiohjaaGreatDoor.Ex
end

section
namespace Go.Proofs.YtcinojbfjiohjaaGreatDoor.Pr
open Go Go.RowKit
abbrev Cal (w : World) : Prop := PCal w
end Go.Proofs.YtcinojbfjiohjaaGreatDoor.Pr
namespace Go.Proofs.YtcinojbfjiohjaaGreatDoor.PrLaid
open Go Go.ChangeShapes Go.WideShapes Go.ChangeAt Go.RowKit
set_option linter.unusedVariables false
theorem own : ownKnob Tryz.prog.godebug = none := by kernel_rfl
abbrev laidL : List (String × DataW Unit) := [("math/bits.deBruijn32tab", Rows.laid_math_bits_deBruijn32tab), ("math/bits.deBruijn64tab", Rows.laid_math_bits_deBruijn64tab), ("internal/strconv.uint64pow10", Rows.laid_internal_strconv_uint64pow10), ("unicode/utf8.acceptRanges", Rows.laid_unicode_utf8_acceptRanges), ("unicode.White_Space", Rows.laid_unicode_White_Space), ("strings.asciiSpace", Rows.laid_strings_asciiSpace), ("unicode/utf8.first", Rows.laid_unicode_utf8_first)]
theorem gPow : Tryz.prog.globalNamed "internal/strconv.uint64pow10" = some 3 := by kernel_rfl
theorem tPow : (Tryz.prog.globals[3]?).map (·.type) = some 245 := by kernel_rfl
theorem gSpace : Tryz.prog.globalNamed "strings.asciiSpace" = some 0 := by kernel_rfl
theorem tSpace : (Tryz.prog.globals[0]?).map (·.type) = some 178 := by kernel_rfl
set_option maxRecDepth 100000 in
theorem door_met (os : Os) (args : Array Value) : laidMetH Tryz.prog laidL ((World.laidAll Tryz.prog os laidL).forCall (fun _ _ => 0) ⟨#[], args, []⟩).memory := by
  rw [MakeChecks.laidMetH_plain _ _ _ (by kernel_rfl)]
  exact laidMet_laidAll _ (by kernel_rfl) (by kernel_rfl)
theorem powData : (Rows.laid_internal_strconv_uint64pow10 : DataW Unit) = Lib.tabData .u64 Lib.pow10Tab := by kernel_rfl
theorem spaceData : (Rows.laid_strings_asciiSpace : DataW Unit) = Lib.tabData .u8 Lib.asciiSpaceTab := by kernel_rfl
set_option maxRecDepth 100000 in
theorem cal_of {W : World} (h : laidMetH Tryz.prog laidL W) (hs : W.ShapedOpen Tryz.prog) : Pr.Cal W := by
  rw [MakeChecks.laidMetH_plain _ _ _ (by kernel_rfl)] at h
  obtain ⟨ps, hv, _⟩ := h
  obtain ⟨_, _, _, _, _, q1, _, _, _, _, hv, _⟩ := hv
  obtain ⟨_, _, _, _, _, q2, _, _, _, _, hv, _⟩ := hv
  obtain ⟨g3, t3, cs3, f3, p3, q3, hg3, ht3, hv3, hd3, hv, _⟩ := hv
  obtain ⟨_, _, _, _, _, q4, _, _, _, _, hv, _⟩ := hv
  obtain ⟨_, _, _, _, _, q5, _, _, _, _, hv, _⟩ := hv
  obtain ⟨g6, t6, cs6, f6, p6, q6, hg6, ht6, hv6, hd6, _, _⟩ := hv
  refine ⟨⟨?_, ?_⟩, ?_⟩
  · obtain rfl := Option.some.inj (gSpace.symm.trans hg6)
    obtain rfl := Option.some.inj (tSpace.symm.trans ht6)
    unfold Lib.TabIs
    rw [spaceData] at hd6
    rw [hv6, ← Lib.cells_of_tab Tryz.underlying178 Tryz.underlying5 (by kernel_rfl) (by kernel_rfl) hd6]
  · exact cell_of_shapedOpen_int (P := Tryz.prog) (g := 1) (t := 3) (zero := #[.int .i64 0]) hs (of_decide_eq_true (by kernel_rfl)) (by kernel_rfl) rfl (by kernel_rfl) (by kernel_rfl) Tryz.underlying3
  · obtain rfl := Option.some.inj (gPow.symm.trans hg3)
    obtain rfl := Option.some.inj (tPow.symm.trans ht3)
    unfold Lib.TabIs
    rw [powData] at hd3
    rw [hv3, ← Lib.cells_of_tab Tryz.underlying245 Tryz.underlying163 (by kernel_rfl) (by kernel_rfl) hd3]
end Go.Proofs.YtcinojbfjiohjaaGreatDoor.PrLaid
end

section
namespace Go.Proofs.YtcinojbfjiohjaaGreatDoor.Pr
open Go Go.RowKit Go.ChangeShapes Go.WideShapes Go.ChangeAt Go.Proofs.YtcinojbfjiohjaaGreatDoor.PPrintTells Go.Proofs.YtcinojbfjiohjaaGreatDoor.Ex Go.Proofs.YtcinojbfjiohjaaGreatDoorW.PrintWords Go.Proofs.YtcinojbfjiohjaaGreatDoorW.PrintLast Go.Proofs.YtcinojbfjiohjaaGreatDoorW.PrintMore
set_option linter.unusedVariables false
set_option linter.unusedSimpArgs false
theorem cells_cmd : Tryz.prog.cellsOf 42 = 11 := by kernel_rfl
theorem cells_range : Tryz.prog.cellsOf 40 = 4 := by kernel_rfl
theorem cells_bool : Tryz.prog.cellsOf 4 = 1 := by kernel_rfl
theorem cells_strs : Tryz.prog.cellsOf 38 = 1 := by kernel_rfl
theorem bulk_lits {H : Type} (zs : List Int) (k : IntKind) : Rows.uptoBulkAll (lits k zs : List (DataW H)) = zs.length := by
  induction zs with
  | nil => rfl
  | cons z zs ih =>
    show Rows.uptoBulkAll (DataW.lit (Lit.int k z) :: lits k zs) = _
    rw [bulk_cons, ih, List.length_cons, Rows.uptoBulk]
    · omega
    · intro b h; cases h
section
variable {H : Type} {enc : TypeId × Value → H} {w : World} {base : Nat}
theorem nums_bulk {fuel : Nat} {A : Option Addr} {n c : Nat} {y : DataW H × List MemPlace} (h : DataW.trod enc Tryz.prog w base (fun _ => true) true fuel 22 [.slice A n c] = some y) : n ≤ Rows.uptoBulk y.1 := by
  rcases open_ints Tryz.underlying22 Tryz.underlying2 cells_int64 h with ⟨h1, rfl⟩ | ⟨a, len, cap, zs, h1, hb, hl, hm, hz, rfl, hc, hw⟩
  · have h1 := List.head_eq_of_cons_eq h1
    injection h1 with h1 h2 h3
    subst h2
    exact Nat.zero_le _
  · have h1 := List.head_eq_of_cons_eq h1
    injection h1 with h1 h2 h3
    subst h2
    have hz' : zs.length = cap := by simpa using hz
    show n ≤ Rows.uptoBulk (.slice (lits .i64 (zs.take n)) (lits .i64 (zs.drop n)))
    rw [bulk_slice, bulk_lits, List.length_take]
    omega
set_option maxRecDepth 100000 in
theorem expr_nums {fuel : Nat} {o : Int} {s : ByteArray} {A2 : Option Addr} {n2 c2 : Nat} {v3 : Value} {y : DataW H × List MemPlace} (h : DataW.trod enc Tryz.prog w base (fun _ => true) true fuel 25 [.int .u8 o, .string s, .slice A2 n2 c2, v3] = some y) : n2 ≤ Rows.uptoBulk y.1 := by
  obtain ⟨xs, n, rfl, rfl, hlen, hsz, hall⟩ := DataW.trod_struct Tryz.underlying25 h
  match xs, hsz with
  | [y0, y1, y2, y3], _ =>
  have e2 : DataW.trod enc Tryz.prog w base (fun _ => true) true n 22 (([Value.int .u8 o, .string s, .slice A2 n2 c2, v3].drop 2).take (Tryz.prog.cellsOf 22)) = some y2 := hall 2 _ rfl
  rw [cells_nums] at e2
  have := nums_bulk e2
  show n2 ≤ Rows.uptoBulk (DataW.agg [y0.1, y1.1, y2.1, y3.1])
  rw [bulk_agg, bulk_cons, bulk_cons, bulk_cons]
  omega
theorem strs_mem {ss : List ByteArray} {s : ByteArray} (h : s ∈ ss) : s.data.toList.length + 1 ≤ Rows.uptoBulkAll (strs ss : List (DataW H)) := by
  have h1 : (DataW.lit (Lit.string s.data.toList) : DataW H) ∈ (strs ss : List (DataW H)) := List.mem_map_of_mem (f := fun s : ByteArray => (DataW.lit (Lit.string s.data.toList) : DataW H)) h
  have h2 := bulk_mem h1
  rw [bulk_string] at h2
  exact h2
theorem names_of_trod {fuel : Nat} {cs : List Value} {y : DataW H × List MemPlace} (h : DataW.trod enc Tryz.prog w base (fun _ => true) true fuel 38 cs = some y) (hb : Rows.uptoBulk y.1 ≤ 1048576) :
    ∃ A c, ∃ ss : List ByteArray, cs = [.slice A ss.length c] ∧ ss.length ≤ c ∧ kS.C w A ss.length ss ∧ ∀ s ∈ ss, s.size ≤ 140737488351232 := by
  rcases open_strings Tryz.underlying38 Tryz.underlying9 cells_str h with ⟨rfl, rfl⟩ | ⟨a, len, cap, zs, rfl, hb0, hl, hm, hz, rfl, hc, hw⟩
  · exact ⟨none, 0, [], rfl, Nat.le_refl _, Kd.C_nil _ _, fun _ h => by cases h⟩
  · have hz' : zs.length = cap := by simpa using hz
    have hlen : (zs.take len).length = len := by rw [List.length_take]; omega
    refine ⟨some a, cap, zs.take len, by rw [hlen], by omega, ?_, fun s hs => ?_⟩
    · rw [hlen]
      refine ⟨hlen, by unfold maxLen at hm; omega, fun _ => ⟨a, rfl, ?_⟩⟩
      intro j p hj
      obtain ⟨hjl, rfl⟩ := List.getElem?_eq_some_iff.1 hj
      refine ⟨[.string (zs.take len)[j]], rfl, rfl, ?_⟩
      intro i u hu
      match i, hu with
      | 0, hu =>
        cases hu
        have h1 := hc j (by omega)
        rw [List.getD_eq_getElem?_getD, List.getElem?_eq_getElem (by omega)] at h1
        rw [List.getElem_take]
        rw [show j * kS.sz + 0 = j by show j * 1 + 0 = j; omega]
        exact h1
    · have h1 := strs_mem (H := H) hs
      rw [bulk_slice] at hb
      have h2 : s.size = s.data.toList.length := by simp
      omega
set_option maxRecDepth 100000 in
theorem cmd_of_trod {fuel : Nat} {cs : List Value} {y : DataW H × List MemPlace} (h : DataW.trod enc Tryz.prog w base (fun _ => true) true fuel 42 cs = some y) (hbulk : Rows.uptoBulk y.1 ≤ 1048576) :
    ∃ a : Cmd, ∃ A1 c1 A2 c2 A3 c3 A4 c4, cs = [.string a.wd, .slice A1 a.names.length c1, .slice A2 a.nums.length c2, .int .i64 a.lo, .int .i64 a.hi, .bool a.hl, .bool a.hh, .int .u8 a.x.f0, .string a.x.f1, .slice A3 a.x.f2.length c3, .slice A4 a.x.f3.length c4] ∧
      HasC w a A1 c1 A2 c2 A3 c3 A4 c4 ∧ cnt a.x ≤ Rows.uptoBulk y.1 ∧ a.x.f2.length ≤ 1048576 ∧ a.wd.size ≤ 1048576 := by
  obtain ⟨xs, n, rfl, rfl, hlen, hsz, hall⟩ := DataW.trod_struct Tryz.underlying42 h
  rw [cells_cmd] at hlen
  match cs, hlen with
  | [v0, v1, v2, v3, v4, v5, v6, v7, v8, v9, v10], _ =>
  match xs, hsz with
  | [y0, y1, y2, y3, y4], _ =>
  have e0 : DataW.trod enc Tryz.prog w base (fun _ => true) true n 9 (([v0, v1, v2, v3, v4, v5, v6, v7, v8, v9, v10].drop 0).take (Tryz.prog.cellsOf 9)) = some y0 := hall 0 _ rfl
  have e1 : DataW.trod enc Tryz.prog w base (fun _ => true) true n 38 (([v0, v1, v2, v3, v4, v5, v6, v7, v8, v9, v10].drop 1).take (Tryz.prog.cellsOf 38)) = some y1 := hall 1 _ rfl
  have e2 : DataW.trod enc Tryz.prog w base (fun _ => true) true n 22 (([v0, v1, v2, v3, v4, v5, v6, v7, v8, v9, v10].drop 2).take (Tryz.prog.cellsOf 22)) = some y2 := hall 2 _ rfl
  have e3 : DataW.trod enc Tryz.prog w base (fun _ => true) true n 40 (([v0, v1, v2, v3, v4, v5, v6, v7, v8, v9, v10].drop 3).take (Tryz.prog.cellsOf 40)) = some y3 := hall 3 _ rfl
  have e4 : DataW.trod enc Tryz.prog w base (fun _ => true) true n 25 (([v0, v1, v2, v3, v4, v5, v6, v7, v8, v9, v10].drop 7).take (Tryz.prog.cellsOf 25)) = some y4 := hall 4 _ rfl
  rw [cells_str] at e0
  rw [cells_strs] at e1
  rw [cells_nums] at e2
  rw [cells_range] at e3
  rw [cells_expr] at e4
  have hB : Rows.uptoBulk y0.1 + Rows.uptoBulk y1.1 + Rows.uptoBulk y4.1 ≤ Rows.uptoBulk (DataW.agg (List.map (fun x => x.1) [y0, y1, y2, y3, y4])) := by
    simp only [List.map_cons, List.map_nil, bulk_agg, bulk_cons, bulk_nil]
    omega
  have hB2 : Rows.uptoBulk (DataW.agg (List.map (fun x => x.1) [y0, y1, y2, y3, y4])) ≤ 1048576 := hbulk
  obtain ⟨s, h1, rfl, hs⟩ := DataW.trod_string Tryz.underlying9 e0
  obtain rfl : v0 = .string s := by simpa using h1
  obtain ⟨A1, c1, NS, h2, hl1, hC1, hz1⟩ := names_of_trod e1 (by omega)
  obtain rfl : v1 = .slice A1 NS.length c1 := by simpa using h2
  obtain ⟨A2, c2, ns, h3, hl2, hC2, hz2⟩ := nums_of_trod e2
  obtain rfl : v2 = .slice A2 ns.length c2 := by simpa using h3
  obtain ⟨x, A3, c3, A4, c4, h4, hx, hcx⟩ := has_of_trod n n (Nat.le_refl _) _ _ e4 (by omega)
  have h4 : [v7, v8, v9, v10] = [Value.int .u8 x.f0, .string x.f1, .slice A3 x.f2.length c3, .slice A4 x.f3.length c4] := h4
  injection h4 with q7 h4
  injection h4 with q8 h4
  injection h4 with q9 h4
  injection h4 with q10 h4
  subst q7 q8 q9 q10
  have hx2 := expr_nums (show DataW.trod enc Tryz.prog w base (fun _ => true) true n 25 [.int .u8 x.f0, .string x.f1, .slice A3 x.f2.length c3, .slice A4 x.f3.length c4] = some y4 from e4)
  obtain ⟨zs, m, _, _, hlen3, hsz3, hall3⟩ := DataW.trod_struct Tryz.underlying40 e3
  match zs, hsz3 with
  | [z0, z1, z2, z3], _ =>
  have r0 : DataW.trod enc Tryz.prog w base (fun _ => true) true m 2 (([v3, v4, v5, v6].drop 0).take (Tryz.prog.cellsOf 2)) = some z0 := hall3 0 _ rfl
  have r1 : DataW.trod enc Tryz.prog w base (fun _ => true) true m 2 (([v3, v4, v5, v6].drop 1).take (Tryz.prog.cellsOf 2)) = some z1 := hall3 1 _ rfl
  have r2 : DataW.trod enc Tryz.prog w base (fun _ => true) true m 4 (([v3, v4, v5, v6].drop 2).take (Tryz.prog.cellsOf 4)) = some z2 := hall3 2 _ rfl
  have r3 : DataW.trod enc Tryz.prog w base (fun _ => true) true m 4 (([v3, v4, v5, v6].drop 3).take (Tryz.prog.cellsOf 4)) = some z3 := hall3 3 _ rfl
  rw [cells_int64] at r0 r1
  rw [cells_bool] at r2 r3
  obtain ⟨lo, k0, rfl, hw0⟩ := DataW.trod_int Tryz.underlying2 r0
  obtain ⟨hg, k1, rfl, hw1⟩ := DataW.trod_int Tryz.underlying2 r1
  obtain ⟨hl, k2, rfl⟩ := DataW.trod_bool Tryz.underlying4 r2
  obtain ⟨hh, k3, rfl⟩ := DataW.trod_bool Tryz.underlying4 r3
  obtain rfl : v3 = .int .i64 lo := by simpa using k0
  obtain rfl : v4 = .int .i64 hg := by simpa using k1
  obtain rfl : v5 = .bool hl := by simpa using k2
  obtain rfl : v6 = .bool hh := by simpa using k3
  rw [bulk_string] at hB
  have hss : s.size = s.data.toList.length := by simp
  exact ⟨⟨s, NS, ns, lo, hg, hl, hh, x⟩, A1, c1, A2, c2, A3, c3, A4, c4, rfl, ⟨hl1, hC1, hl2, hC2, hx, hz1, hz2, bounds_i64 hw0, bounds_i64 hw1⟩, by show cnt x ≤ Rows.uptoBulk (DataW.agg (List.map (fun x => x.1) [(DataW.lit (Lit.string s.data.toList), []), y1, y2, y3, y4])); exact Nat.le_trans hcx (by omega), by show x.f2.length ≤ _; omega, by show s.size ≤ _; omega⟩
end
end Go.Proofs.YtcinojbfjiohjaaGreatDoor.Pr
end
