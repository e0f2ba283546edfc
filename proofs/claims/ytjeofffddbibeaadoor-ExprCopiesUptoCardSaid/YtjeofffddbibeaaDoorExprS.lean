/-
  expr.Same and what it calls: two expressions are the same just if they are one.
-/
import Derived.Test.YtjeofffddbibeaaDoorExprP
import Derived.Test.YtjeofffddbibeaaDoorEqI
namespace Go.Proofs.YtjeofffddbibeaaDoor.Ex
open Go Go.RowKit Go.Proofs.YtjeofffddbibeaaDoor.PExprTells Go.Proofs.YtjeofffddbibeaaDoorW.PrintWords Go.Proofs.YtjeofffddbibeaaDoorW.PrintLast Go.Proofs.YtjeofffddbibeaaDoorW.PrintMore
set_option linter.unusedVariables false
set_option linter.unusedSimpArgs false

mutual
def sameX : X → X → Bool
  | ⟨o, n, ns, xs⟩, ⟨o', n', ns', xs'⟩ => decide (o = o') && eqB n n' && decide (ns = ns') && sameL xs xs'
def sameL : List X → List X → Bool
  | [], [] => true
  | y :: ys, z :: zs => sameX y z && sameL ys zs
  | [], _ :: _ => false
  | _ :: _, [] => false
end
theorem sameX_eq (x y : X) : sameX x y = (decide (x.f0 = y.f0) && eqB x.f1 y.f1 && decide (x.f2 = y.f2) && sameL x.f3 y.f3) := by cases x; cases y; rw [sameX]
theorem sameL_nil : sameL [] [] = true := by rw [sameL]
theorem sameL_cons (y z : X) (ys zs : List X) : sameL (y :: ys) (z :: zs) = (sameX y z && sameL ys zs) := by rw [sameL]
theorem sameL_len {xs ys : List X} (h : xs.length ≠ ys.length) : sameL xs ys = false := by
  induction xs generalizing ys with
  | nil =>
    cases ys with
    | nil => exact absurd rfl h
    | cons z zs => rw [sameL]
  | cons y xs ih =>
    cases ys with
    | nil => rw [sameL]
    | cons z zs => rw [sameL_cons, ih (fun he => h (by simp [he])), Bool.and_false]
theorem sameL_snoc (xs ys : List X) (k : Nat) (hk : k < xs.length) (hj : k < ys.length) : sameL (xs.take (k + 1)) (ys.take (k + 1)) = (sameL (xs.take k) (ys.take k) && sameX xs[k] ys[k]) := by
  induction xs generalizing ys k with
  | nil => simp at hk
  | cons y xs ih =>
    cases ys with
    | nil => simp at hj
    | cons z ys =>
      cases k with
      | zero =>
        show sameL [y] [z] = (sameL [] [] && sameX y z)
        rw [sameL_cons, sameL_nil, Bool.and_true, Bool.true_and]
      | succ k =>
        show sameL (y :: xs.take (k + 1)) (z :: ys.take (k + 1)) = (sameL (y :: xs.take k) (z :: ys.take k) && sameX (xs[k]'(by simpa using hk)) (ys[k]'(by simpa using hj)))
        rw [sameL_cons, sameL_cons, ih ys k (by simpa using hk) (by simpa using hj), Bool.and_assoc]
theorem sameL_not {xs ys : List X} {k : Nat} (hk : k < xs.length) (hj : k < ys.length) (h : sameX xs[k] ys[k] = false) : sameL xs ys = false := by
  induction xs generalizing ys k with
  | nil => simp at hk
  | cons y xs ih =>
    cases ys with
    | nil => simp at hj
    | cons z ys =>
      rw [sameL_cons]
      cases k with
      | zero => rw [show sameX y z = false from h, Bool.false_and]
      | succ k => rw [ih (k := k) (by simpa using hk) (by simpa using hj) h, Bool.and_false]
theorem eqI_l0 (a b : List Int) (hl : a.length = b.length) (hm : a.length ≤ 9223372036854775807) : ∀ (n i : Nat), i + n = a.length → ∀ k : Nat, n + 1 ≤ k → slices_Equal_int64_int64.l0 k a b a.length i = some (decide (a.drop i = b.drop i)) := by
  intro n
  induction n with
  | zero =>
    intro i hi k hk
    obtain ⟨k, rfl⟩ : ∃ m, k = m + 1 := ⟨k - 1, by omega⟩
    simp only [slices_Equal_int64_int64.l0]
    rw [if_neg (by omega), List.drop_eq_nil_of_le (by omega), List.drop_eq_nil_of_le (by omega)]
    simp
  | succ n ih =>
    intro i hi k hk
    obtain ⟨k, rfl⟩ : ∃ m, k = m + 1 := ⟨k - 1, by omega⟩
    have hia : i < a.length := by omega
    have hib : i < b.length := by omega
    have ra : rd a (i : Int) = a[i] := by unfold rd; rw [Int.toNat_natCast, List.getD_eq_getElem?_getD, List.getElem?_eq_getElem hia]; rfl
    have rb : rd b (i : Int) = b[i] := by unfold rd; rw [Int.toNat_natCast, List.getD_eq_getElem?_getD, List.getElem?_eq_getElem hib]; rfl
    have hn := ih (i + 1) (by omega) k (by omega)
    rw [show ((i + 1 : Nat) : Int) = (i : Int) + 1 by omega] at hn
    simp only [slices_Equal_int64_int64.l0]
    rw [if_pos (by omega), if_pos (by omega), if_pos (by omega), if_pos (by omega), ra, rb, w64 (by omega) (by omega), hn, List.drop_eq_getElem_cons hia, List.drop_eq_getElem_cons hib]
    by_cases he : a[i] = b[i]
    · rw [if_pos he]
      congr 1
      exact decide_eq_decide.2 ⟨fun h => by rw [he, h], fun h => (List.cons.inj h).2⟩
    · rw [if_neg he, decide_eq_false (fun h => he (List.cons.inj h).1)]
theorem eqI_f (a b : List Int) (hm : a.length ≤ 9223372036854775807) : slices_Equal_int64_int64.f (a.length + 1) a b = some (decide (a = b)) := by
  unfold slices_Equal_int64_int64.f
  by_cases h : a.length = b.length
  · rw [if_pos (by omega)]
    have := eqI_l0 a b h hm a.length 0 (by omega) (a.length + 1) (by omega)
    rw [List.drop_zero, List.drop_zero] at this
    exact this
  · rw [if_neg (by omega), decide_eq_false (fun he => h (by rw [he]))]
/-- An element of a row of expressions in memory. -/
theorem kX_at {w : World} {A : Option Addr} {xs : List X} (h : kX.C w A xs.length xs) (hwf : ∀ y ∈ xs, Wf y) (k : Nat) (hk : k < xs.length) :
    ∃ ad B2 d2 B3 d3, A = some ad ∧ w.cell? (ad.add (k * 4)) = some (.int .u8 xs[k].f0) ∧ w.cell? ⟨(ad.add (k * 4)).block, (ad.add (k * 4)).off + 1, none⟩ = some (.string xs[k].f1) ∧
      w.cell? ⟨(ad.add (k * 4)).block, (ad.add (k * 4)).off + 2, none⟩ = some (.slice B2 xs[k].f2.length d2) ∧ w.cell? ⟨(ad.add (k * 4)).block, (ad.add (k * 4)).off + 3, none⟩ = some (.slice B3 xs[k].f3.length d3) ∧ Has w xs[k] B2 d2 B3 d3 := by
  obtain ⟨ad, B2, d2, B3, d3, hA, e0, e1, e2, e3, l2, g2, l3, g3⟩ := at_T25 h (k : Int) (by omega) (by omega)
  rw [rd_at xs k hk] at e0 e1 e2 e3 l2 g2 l3 g3
  rw [Int.toNat_natCast] at e0 e1 e2 e3
  exact ⟨ad, B2, d2, B3, d3, hA, e0, e1, e2, e3, ⟨hwf _ (List.getElem_mem hk), l2, g2, l3, g3⟩⟩
set_option maxHeartbeats 8000000 in
set_option maxRecDepth 100000 in
theorem EqualFunc_calls (xs ys : List X) (A : Option Addr) (c : Nat) (B : Option Addr) (d : Nat) (w : World) (h0 : kX.C w A xs.length xs) (h1 : kX.C w B ys.length ys) (wx : ∀ y ∈ xs, Wf y) (wy : ∀ y ∈ ys, Wf y)
    (hS : ∀ (i : Nat) (hi : i < xs.length) (hj : i < ys.length) (w' : World) (A2 : Option Addr) (c2 : Nat) (A3 : Option Addr) (c3 : Nat) (B2 : Option Addr) (d2 : Nat) (B3 : Option Addr) (d3 : Nat), Has w' xs[i] A2 c2 A3 c3 → Has w' ys[i] B2 d2 B3 d3 →
      Calls Tryd.prog 27 #[agg xs[i] A2 c2 A3 c3, agg ys[i] B2 d2 B3 d3] w' fun e w'' => e = .returned (.bool (sameX xs[i] ys[i])) ∧ Below w'.heap.size w' w'') :
    Calls Tryd.prog 54 #[.slice A xs.length c, .slice B ys.length d, .func (.func 27) #[] #[]] w fun e w' => e = .returned (.bool (sameL xs ys)) ∧ Below w.heap.size w w' := by
  have eg : ∀ args w, (callFunc 27 args).run Tryd.prog w = .ok (.enter 27 args) w := fun args w => by kernel_rfl
  have HS := Aside0.mk hS
  have H0 := Aside0.mk h0
  have H1 := Aside0.mk h1
  have WX := Aside0.mk wx
  have WY := Aside0.mk wy
  have hm : xs.length ≤ 9223372036854775807 := h0.2.1
  clear hS h0 h1 wx wy
  by_cases hl : xs.length = ys.length
  · have hl1 : ((xs.length : Int) == (ys.length : Int)) = true := beq_iff_eq.2 (by omega)
    have hl2 : ((xs.length : Int) != (ys.length : Int)) = false := bne_eq_false_iff_eq.2 (by omega)
    have HL := Aside0.mk hl
    have hle : xs.length ≤ ys.length := by omega
    clear hl
    go_enter Tryd.func54, Tryd.ntmps54
    go_wp2
    go_loopw [17] (fun j wr => ∃ k : Nat, k ≤ xs.length ∧ j = .int .i64 k ∧ sameL (xs.take k) (ys.take k) = true ∧ Below w.heap.size w wr) (fun j _ => (xs.length : Int).toNat - (intOf j).toNat)
    case atStart => exact ⟨0, Nat.zero_le _, rfl, by rw [List.take_zero, List.take_zero, sameL_nil], Below.refl _ _⟩
    case round =>
      obtain ⟨k, hk, rfl, hall, hbr⟩ := hrel
      have HALL := Aside0.mk hall
      have HBR := Aside0.mk hbr
      clear hall hbr
      by_cases hkn : k < xs.length
      · have hki : (k : Int) < (xs.length : Int) := by omega
        have hkj : (k : Int) < (ys.length : Int) := by omega
        have hki' : decide ((k : Int) < (xs.length : Int)) = true := decide_eq_true hki
        obtain ⟨ad, A2, c2, A3, c3, hA, e0, e1, e2, e3, hx⟩ := kX_at (Kd.C_below H0.out HBR.out) WX.out k hkn
        have hb1 := below_alloc HBR.out (.cells #[.int .u8 xs[k].f0, .string xs[k].f1, .slice A2 xs[k].f2.length c2, .slice A3 xs[k].f3.length c3] 25)
        obtain ⟨ae, B2, d2, B3, d3, hB, f0, f1, f2, f3, hy⟩ := kX_at (Kd.C_below H1.out hb1) WY.out k (by omega)
        subst hA
        subst hB
        have CS := Aside0.mk (HS.out k hkn (by omega) _ A2 c2 A3 c3 B2 d2 B3 d3 ((hx.a (.cells #[.int .u8 xs[k].f0, .string xs[k].f1, .slice A2 xs[k].f2.length c2, .slice A3 xs[k].f3.length c3] 25)).a (.cells #[.int .u8 ys[k].f0, .string ys[k].f1, .slice B2 ys[k].f2.length d2, .slice B3 ys[k].f3.length d3] 25)) (hy.a _))
        have HB1 := Aside0.mk (below_alloc hb1 (.cells #[.int .u8 ys[k].f0, .string ys[k].f1, .slice B2 ys[k].f2.length d2, .slice B3 ys[k].f3.length d3] 25))
        have HT := Aside0.mk (sameL_snoc xs ys k hkn (by omega))
        have hky : k < ys.length := by omega
        have HF := Aside0.mk (fun h => sameL_not (xs := xs) (ys := ys) hkn hky h)
        clear hx hy hb1
        go_wp2_with fail
        (with_reducible refine CS.out.mono ?_)
        rintro e w3 ⟨rfl, b3⟩
        have HB2 := Aside0.mk (below_then HB1.out HB1.out.size b3)
        clear b3 e0 e1 e2 e3 f0 f1 f2 f3 CS HB1
        generalize sameX xs[k] ys[k] = r at *
        cases r
        · go_wp2
          go_ret
          exact ⟨by rw [HF.out (by trivial)]; rfl, HB2.out⟩
        · go_wp2_with fail
          go_roundw
          case rel => exact ⟨k + 1, by omega, by go_num, by rw [HT.out, HALL.out]; rfl, HB2.out⟩
          case measure => simp [intOf]; omega
      · obtain rfl : k = xs.length := by omega
        have hki' : decide ((xs.length : Int) < (xs.length : Int)) = false := by simp
        have hfin := HALL.out
        rw [List.take_length, HL.out, List.take_length] at hfin
        have HFIN := Aside0.mk hfin
        clear hfin
        go_wp2
        go_ret
        exact ⟨by rw [HFIN.out]; rfl, HBR.out⟩
  · have hl1 : ((xs.length : Int) == (ys.length : Int)) = false := beq_eq_false_iff_ne.2 (by omega)
    have hl2 : ((xs.length : Int) != (ys.length : Int)) = true := bne_iff_ne.2 (by omega)
    rw [sameL_len hl]
    clear hl
    go_enter Tryd.func54, Tryd.ntmps54
    go_wp2
    go_ret
    exact ⟨rfl, Below.refl _ _⟩
set_option maxHeartbeats 8000000 in
set_option maxRecDepth 100000 in
theorem Same_calls (N : Nat) : ∀ (x y : X) (A2 : Option Addr) (c2 : Nat) (A3 : Option Addr) (c3 : Nat) (B2 : Option Addr) (d2 : Nat) (B3 : Option Addr) (d3 : Nat) (w : World), cnt x ≤ N → Has w x A2 c2 A3 c3 → Has w y B2 d2 B3 d3 →
    Calls Tryd.prog 27 #[agg x A2 c2 A3 c3, agg y B2 d2 B3 d3] w fun e w' => e = .returned (.bool (sameX x y)) ∧ Below w.heap.size w w' := by
  induction N with
  | zero => intro x _ _ _ _ _ _ _ _ _ _ hx; have := cnt_pos x; omega
  | succ N ih =>
    intro x y A2 c2 A3 c3 B2 d2 B3 d3 w hN hx hy
    have HR := Aside0.mk (sameX_eq x y)
    have ix := (InBox.new hx 25 w.heap.size rfl).a (.cells #[.int .u8 y.f0, .string y.f1, .slice B2 y.f2.length d2, .slice B3 y.f3.length d3] 25)
    have iy := InBox.new (hy.a (.cells #[.int .u8 x.f0, .string x.f1, .slice A2 x.f2.length c2, .slice A3 x.f3.length c3] 25)) 25 (w.heap.size + 1) (by simp)
    have BX0 := Aside0.mk (below_alloc (below_alloc (Below.refl w.heap.size w) (.cells #[.int .u8 x.f0, .string x.f1, .slice A2 x.f2.length c2, .slice A3 x.f3.length c3] 25)) (.cells #[.int .u8 y.f0, .string y.f1, .slice B2 y.f2.length d2, .slice B3 y.f3.length d3] 25))
    have CE := Aside0.mk (slices_Equal_int64_int64.calls (x.f2.length + 1) A2 c2 x.f2 B2 d2 y.f2 _ _ ix.has.C2 ix.has.l2 iy.has.C2 iy.has.l2 (eqI_f x.f2 y.f2 hx.C2.2.1))
    have CF := Aside0.mk (fun (w' : World) (h0 : kX.C w' A3 x.f3.length x.f3) (h1 : kX.C w' B3 y.f3.length y.f3) => EqualFunc_calls x.f3 y.f3 A3 c3 B3 d3 w' h0 h1 (fun _ h => hx.wf.child h) (fun _ h => hy.wf.child h) (fun i hi hj w'' C2 e2 C3 e3 D2 f2 D3 f3 k0 k1 => ih x.f3[i] y.f3[i] C2 e2 C3 e3 D2 f2 D3 f3 w'' (by have := cnt_child (List.getElem_mem hi); omega) k0 k1))
    have IX0 := Aside0.mk ix
    have IY0 := Aside0.mk iy
    clear ix iy hx hy hN ih
    by_cases h0 : x.f0 = y.f0
    · rw [decide_eq_true h0, Bool.true_and] at HR
      have h0a : (x.f0 == y.f0) = true := beq_iff_eq.2 h0
      clear h0
      by_cases h1 : x.f1 = y.f1
      · rw [(eqB_iff x.f1 y.f1).2 h1, Bool.true_and] at HR
        have h1a : (x.f1.toList == y.f1.toList) = true := by rw [h1]; exact beq_self_eq_true _
        clear h1
        by_cases h2 : x.f2 = y.f2
        · rw [decide_eq_true h2, Bool.true_and] at HR
          rw [decide_eq_true h2] at CE
          clear h2
          go_enter Tryd.func27, Tryd.ntmps27
          go_wp2_with fail
          (with_reducible refine CE.out.mono ?_)
          rintro e w1 ⟨rfl, b1⟩
          have ix := IX0.out.later b1.below
          have iy := IY0.out.later b1.below
          have BX1 := Aside0.mk (below_then BX0.out BX0.out.size b1.below)
          have q3 := ix.q3
          have k3 := iy.q3
          have CG := Aside0.mk (CF.out _ ix.has.C3 iy.has.C3)
          clear ix iy b1 CE CF
          go_wp2_with fail
          (with_reducible refine CG.out.mono ?_)
          rintro e w2 ⟨rfl, b2⟩
          have BX2 := Aside0.mk (below_then BX1.out BX1.out.size b2)
          clear b2 q3 k3
          go_wp2
          go_ret
          exact ⟨by rw [HR.out]; rfl, BX2.out⟩
        · rw [decide_eq_false h2, Bool.false_and] at HR
          rw [decide_eq_false h2] at CE
          clear h2
          go_enter Tryd.func27, Tryd.ntmps27
          go_wp2_with fail
          (with_reducible refine CE.out.mono ?_)
          rintro e w1 ⟨rfl, b1⟩
          have BX1 := Aside0.mk (below_then BX0.out BX0.out.size b1.below)
          clear b1
          go_wp2
          go_ret
          exact ⟨by rw [HR.out]; rfl, BX1.out⟩
      · rw [Bool.eq_false_iff.2 (fun h => h1 ((eqB_iff x.f1 y.f1).1 h)), Bool.false_and, Bool.false_and] at HR
        have h1a : (x.f1.toList == y.f1.toList) = false := by
          rw [Lib.toList_data, Lib.toList_data]
          exact Bool.eq_false_iff.2 (fun h => h1 ((eqB_iff x.f1 y.f1).1 h))
        clear h1
        go_enter Tryd.func27, Tryd.ntmps27
        go_wp2
        go_ret
        exact ⟨by rw [HR.out]; rfl, BX0.out⟩
    · rw [decide_eq_false h0, Bool.false_and, Bool.false_and, Bool.false_and] at HR
      have h0a : (x.f0 == y.f0) = false := beq_eq_false_iff_ne.2 h0
      clear h0
      go_enter Tryd.func27, Tryd.ntmps27
      go_wp2
      go_ret
      exact ⟨by rw [HR.out]; rfl, BX0.out⟩
end Go.Proofs.YtjeofffddbibeaaDoor.Ex
