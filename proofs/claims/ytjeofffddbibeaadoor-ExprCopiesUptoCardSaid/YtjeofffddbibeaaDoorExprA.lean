/-
  What the statements of package expr use: Made, Named, Texts; expressions that were built; the examples.
-/
import Derived.Test.YtjeofffddbibeaaDoorExprX
import Derived.Test.YtjeofffddbibeaaDoorPExprTellsx1
namespace Go.Proofs.YtjeofffddbibeaaDoor.Ex
open Go Go.Maps Go.RowKit Go.Proofs.YtjeofffddbibeaaDoor.PExprTells Go.Proofs.YtjeofffddbibeaaDoorW.PrintWords Go.Proofs.YtjeofffddbibeaaDoorW.PrintLast Go.Proofs.YtjeofffddbibeaaDoorW.PrintMore
set_option linter.unusedVariables false
set_option linter.unusedSimpArgs false

set_option maxHeartbeats 1000000 in
theorem Made_calls (o : Int) (A2 : Option Addr) (n2 c2 : Nat) (A3 : Option Addr) (n3 c3 : Nat) (w : World) :
    Calls Tryd.prog 14 #[.int .u8 o, .slice A2 n2 c2, .slice A3 n3 c3] w fun e w' => e = .returned (.agg #[.int .u8 o, .string nil8, .slice A2 n2 c2, .slice A3 n3 c3]) ∧ Below w.heap.size w w' := by
  go_enter Tryd.func14, Tryd.ntmps14
  go_wp2
  exact bodyPost_ret (v := .agg #[.int .u8 o, .string nil8, .slice A2 n2 c2, .slice A3 n3 c3]) (by simp [results, Tryd.results14, go_sem]) rfl ⟨rfl, by repeat (first | exact Below.refl _ _ | refine below_alloc ?_ _)⟩
set_option maxHeartbeats 1000000 in
theorem Named_calls (s : ByteArray) (w : World) :
    Calls Tryd.prog 17 #[.string s] w fun e w' => e = .returned (.agg #[.int .u8 0, .string s, .slice none 0 0, .slice none 0 0]) ∧ Below w.heap.size w w' := by
  go_enter Tryd.func17, Tryd.ntmps17
  go_wp2
  exact bodyPost_ret (v := .agg #[.int .u8 0, .string s, .slice none 0 0, .slice none 0 0]) (by simp [results, Tryd.results17, go_sem]) rfl ⟨rfl, by repeat (first | exact Below.refl _ _ | refine below_alloc ?_ _)⟩

/-! ### Texts -/
theorem Texts_l0 (l : List ByteArray) (hl : l.length ≤ 4611686018427387904) (d : Nat) : ∀ (k : Nat) (i : Int), 0 ≤ i → i ≤ l.length → (l.length : Int) - i = d → d < k → epactlaw09_Texts.l0 k l l l.length i = some true := by
  induction d with
  | zero =>
    intro k i h0 h1 hd hk
    obtain ⟨k, rfl⟩ : ∃ m, k = m + 1 := ⟨k - 1, by omega⟩
    simp only [epactlaw09_Texts.l0]
    rw [if_neg (by omega)]
  | succ d ih =>
    intro k i h0 h1 hd hk
    obtain ⟨k, rfl⟩ : ∃ m, k = m + 1 := ⟨k - 1, by omega⟩
    simp only [epactlaw09_Texts.l0]
    rw [if_pos (by omega), if_pos h0, if_pos (by omega), if_pos (by omega), if_pos trivial, w64 (by omega) (by omega)]
    exact ih k (i + 1) (by omega) (by omega) (by omega) (by omega)
theorem Texts_calls (l : List ByteArray) (A0 : Option Addr) (c0 : Nat) (A1 : Option Addr) (c1 : Nat) (w : World) (h0 : kS.C w A0 l.length l) (hc0 : l.length ≤ c0) (h1 : kS.C w A1 l.length l) (hc1 : l.length ≤ c1) (hl : l.length ≤ 4611686018427387904) :
    Calls Tryd.prog 15 #[.slice A0 l.length c0, .slice A1 l.length c1] w fun e w' => e = .returned (.bool true) ∧ Below w.heap.size w w' :=
  (epactlaw09_Texts.calls (l.length + 1) A0 c0 l A1 c1 l true w h0 hc0 h1 hc1 (by
    unfold epactlaw09_Texts.f
    rw [if_pos rfl]
    exact Texts_l0 l hl l.length _ 0 (by omega) (by omega) (by omega) (by omega))).mono fun _ _ ⟨he, h⟩ => ⟨he, h.below⟩

/-! ### Names, as a row to be read -/
theorem Names_rd (x : X) (A2 : Option Addr) (c2 : Nat) (A3 : Option Addr) (c3 : Nat) (w : World) (hx : Has w x A2 c2 A3 c3) (hc : cnt x ≤ 1099511627776) :
    Calls Tryd.prog 13 #[agg x A2 c2 A3 c3] w fun e w' => ∃ A c, e = .returned (.slice A (addAll [] (namesX x)).length c) ∧ (addAll [] (namesX x)).length ≤ c ∧ kS.C w' A (addAll [] (namesX x)).length (addAll [] (namesX x)) ∧ Below w.heap.size w w' :=
  (Names_calls x A2 c2 A3 c3 w hx hc).mono fun e w' ⟨v, he, hr, hb⟩ => by
    obtain ⟨A, c, hv, hl, hC⟩ := Kd.R_reads hr
    exact ⟨A, c, by rw [he, hv], hl, hC, hb⟩

/-! ### Expressions that were built -/
theorem C_one {w : World} {b : Nat} {x : X} {A2 : Option Addr} {c2 : Nat} {A3 : Option Addr} {c3 : Nat} (h : Has w x A2 c2 A3 c3)
    (q0 : w.cell? ⟨b, 0, none⟩ = some (.int .u8 x.f0)) (q1 : w.cell? ⟨b, 1, none⟩ = some (.string x.f1)) (q2 : w.cell? ⟨b, 2, none⟩ = some (.slice A2 x.f2.length c2)) (q3 : w.cell? ⟨b, 3, none⟩ = some (.slice A3 x.f3.length c3)) :
    kX.C w (some ⟨b, 0, none⟩) 1 [x] := by
  refine ⟨rfl, by decide, fun _ => ⟨⟨b, 0, none⟩, rfl, ?_⟩⟩
  intro j p hj
  match j, hj with
  | 0, hj =>
    obtain rfl : x = p := by simpa using hj
    refine ⟨[.int .u8 x.f0, .string x.f1, .slice A2 x.f2.length c2, .slice A3 x.f3.length c3], rfl, k25_mk w x h.l2 h.C2 h.l3 h.C3, ?_⟩
    intro i u hu
    match i, hu with
    | 0, hu => cases hu; simpa [Addr.add] using q0
    | 1, hu => cases hu; simpa [Addr.add] using q1
    | 2, hu => cases hu; simpa [Addr.add] using q2
    | 3, hu => cases hu; simpa [Addr.add] using q3
theorem C_two {w : World} {b : Nat} {x y : X} {A2 : Option Addr} {c2 : Nat} {A3 : Option Addr} {c3 : Nat} {B2 : Option Addr} {d2 : Nat} {B3 : Option Addr} {d3 : Nat} (h : Has w x A2 c2 A3 c3) (k : Has w y B2 d2 B3 d3)
    (q0 : w.cell? ⟨b, 0, none⟩ = some (.int .u8 x.f0)) (q1 : w.cell? ⟨b, 1, none⟩ = some (.string x.f1)) (q2 : w.cell? ⟨b, 2, none⟩ = some (.slice A2 x.f2.length c2)) (q3 : w.cell? ⟨b, 3, none⟩ = some (.slice A3 x.f3.length c3))
    (q4 : w.cell? ⟨b, 4, none⟩ = some (.int .u8 y.f0)) (q5 : w.cell? ⟨b, 5, none⟩ = some (.string y.f1)) (q6 : w.cell? ⟨b, 6, none⟩ = some (.slice B2 y.f2.length d2)) (q7 : w.cell? ⟨b, 7, none⟩ = some (.slice B3 y.f3.length d3)) :
    kX.C w (some ⟨b, 0, none⟩) 2 [x, y] := by
  refine ⟨rfl, by decide, fun _ => ⟨⟨b, 0, none⟩, rfl, ?_⟩⟩
  intro j p hj
  match j, hj with
  | 0, hj =>
    obtain rfl : x = p := by simpa using hj
    refine ⟨[.int .u8 x.f0, .string x.f1, .slice A2 x.f2.length c2, .slice A3 x.f3.length c3], rfl, k25_mk w x h.l2 h.C2 h.l3 h.C3, ?_⟩
    intro i u hu
    match i, hu with
    | 0, hu => cases hu; simpa [Addr.add] using q0
    | 1, hu => cases hu; simpa [Addr.add] using q1
    | 2, hu => cases hu; simpa [Addr.add] using q2
    | 3, hu => cases hu; simpa [Addr.add] using q3
  | 1, hj =>
    obtain rfl : y = p := by simpa using hj
    refine ⟨[.int .u8 y.f0, .string y.f1, .slice B2 y.f2.length d2, .slice B3 y.f3.length d3], rfl, k25_mk w y k.l2 k.C2 k.l3 k.C3, ?_⟩
    intro i u hu
    match i, hu with
    | 0, hu => cases hu; simpa [Addr.add, kX, k25, Kd.fix] using q4
    | 1, hu => cases hu; simpa [Addr.add, kX, k25, Kd.fix] using q5
    | 2, hu => cases hu; simpa [Addr.add, kX, k25, Kd.fix] using q6
    | 3, hu => cases hu; simpa [Addr.add, kX, k25, Kd.fix] using q7
/-- A whole number in a block. -/
theorem CI_one {w : World} {b : Nat} {n : Int} (q : w.cell? ⟨b, 0, none⟩ = some (.int .i64 n)) : kI.C w (some ⟨b, 0, none⟩) 1 [n] := by
  refine ⟨rfl, by decide, fun _ => ⟨⟨b, 0, none⟩, rfl, ?_⟩⟩
  intro j p hj
  match j, hj with
  | 0, hj =>
    obtain rfl : n = p := by simpa using hj
    refine ⟨[.int .i64 n], rfl, rfl, ?_⟩
    intro i u hu
    match i, hu with
    | 0, hu => cases hu; simpa [Addr.add] using q
/-- A text in a block. -/
theorem CS_one {w : World} {b : Nat} {t : ByteArray} (q : w.cell? ⟨b, 0, none⟩ = some (.string t)) : kS.C w (some ⟨b, 0, none⟩) 1 [t] := by
  refine ⟨rfl, by decide, fun _ => ⟨⟨b, 0, none⟩, rfl, ?_⟩⟩
  intro j p hj
  match j, hj with
  | 0, hj =>
    obtain rfl : t = p := by simpa using hj
    refine ⟨[.string t], rfl, rfl, ?_⟩
    intro i u hu
    match i, hu with
    | 0, hu => cases hu; simpa [Addr.add] using q
/-- An expression in a variable of its own. -/
structure InBox (b : Nat) (x : X) (A2 : Option Addr) (c2 : Nat) (A3 : Option Addr) (c3 : Nat) (w : World) : Prop where
  q0 : w.cell? ⟨b, 0, none⟩ = some (.int .u8 x.f0)
  q1 : w.cell? ⟨b, 1, none⟩ = some (.string x.f1)
  q2 : w.cell? ⟨b, 2, none⟩ = some (.slice A2 x.f2.length c2)
  q3 : w.cell? ⟨b, 3, none⟩ = some (.slice A3 x.f3.length c3)
  has : Has w x A2 c2 A3 c3
theorem InBox.later {b : Nat} {x : X} {A2 : Option Addr} {c2 : Nat} {A3 : Option Addr} {c3 : Nat} {w w' : World} (h : InBox b x A2 c2 A3 c3 w) (hb : Below w.heap.size w w') : InBox b x A2 c2 A3 c3 w' :=
  ⟨cell_later hb h.q0, cell_later hb h.q1, cell_later hb h.q2, cell_later hb h.q3, h.has.below hb⟩
theorem InBox.a {b : Nat} {x : X} {A2 : Option Addr} {c2 : Nat} {A3 : Option Addr} {c3 : Nat} {w : World} (h : InBox b x A2 c2 A3 c3 w) (o : Obj) : InBox b x A2 c2 A3 c3 (w.alloc o) := h.later (below_alloc (Below.refl _ _) _)
theorem InBox.lt {b : Nat} {x : X} {A2 : Option Addr} {c2 : Nat} {A3 : Option Addr} {c3 : Nat} {w : World} (h : InBox b x A2 c2 A3 c3 w) : b < w.heap.size := World.block_lt_of_cell? _ _ h.q0
theorem InBox.new {x : X} {A2 : Option Addr} {c2 : Nat} {A3 : Option Addr} {c3 : Nat} {w : World} (h : Has w x A2 c2 A3 c3) (t : TypeId) (k : Nat) (hk : k = w.heap.size) :
    InBox k x A2 c2 A3 c3 (w.alloc (.cells #[.int .u8 x.f0, .string x.f1, .slice A2 x.f2.length c2, .slice A3 x.f3.length c3] t)) := by
  subst hk
  refine ⟨?_, ?_, ?_, ?_, h.below (below_alloc (Below.refl _ _) _)⟩ <;> (rw [World.cell?_alloc_at _ _ _ _ rfl]; rfl)
theorem Has.a {x : X} {A2 : Option Addr} {c2 : Nat} {A3 : Option Addr} {c3 : Nat} {w : World} (h : Has w x A2 c2 A3 c3) (o : Obj) : Has (w.alloc o) x A2 c2 A3 c3 := h.below (below_alloc (Below.refl _ _) _)
end Go.Proofs.YtjeofffddbibeaaDoor.Ex
