/-
  The document's own answer which expressions are right (epactref09.parts, epactref09.Right): the walks.
-/
import Derived.Test.YtjeofffddbibeaaDoorExprT
import Derived.Test.YtjeofffddbibeaaDoorExprA
namespace Go.Proofs.YtjeofffddbibeaaDoor.Ex
open Go Go.RowKit Go.Proofs.YtjeofffddbibeaaDoor.PExprTells Go.Proofs.YtjeofffddbibeaaDoorW.PrintWords Go.Proofs.YtjeofffddbibeaaDoorW.PrintLast Go.Proofs.YtjeofffddbibeaaDoorW.PrintMore
set_option linter.unusedVariables false
set_option linter.unusedSimpArgs false

/-- An argument in memory, as an index into the arguments reads it. -/
theorem child_at {w : World} {x : X} {A2 : Option Addr} {c2 : Nat} {A3 : Option Addr} {c3 : Nat} (h : Has w x A2 c2 A3 c3) (k : Nat) (hk : k < x.f3.length) :
    ∃ ad B2 d2 B3 d3, A3 = some ad ∧ w.cell? (ad.add (k * 4)) = some (.int .u8 x.f3[k].f0) ∧ w.cell? ⟨(ad.add (k * 4)).block, (ad.add (k * 4)).off + 1, none⟩ = some (.string x.f3[k].f1) ∧
      w.cell? ⟨(ad.add (k * 4)).block, (ad.add (k * 4)).off + 2, none⟩ = some (.slice B2 x.f3[k].f2.length d2) ∧ w.cell? ⟨(ad.add (k * 4)).block, (ad.add (k * 4)).off + 3, none⟩ = some (.slice B3 x.f3[k].f3.length d3) ∧ Has w x.f3[k] B2 d2 B3 d3 := by
  obtain ⟨ad, B2, d2, B3, d3, hA, e0, e1, e2, e3, l2, g2, l3, g3⟩ := at_T25 h.C3 (k : Int) (by omega) (by omega)
  rw [rd_at x.f3 k hk] at e0 e1 e2 e3 l2 g2 l3 g3
  rw [Int.toNat_natCast] at e0 e1 e2 e3
  exact ⟨ad, B2, d2, B3, d3, hA, e0, e1, e2, e3, ⟨h.wf.child (List.getElem_mem hk), l2, g2, l3, g3⟩⟩
theorem nil8_list : nil8.toList = [] := by rw [Lib.toList_data]
theorem allRL_snoc (xs : List X) (k : Nat) (hk : k < xs.length) : allRL (xs.take (k + 1)) = (allRL (xs.take k) && allR xs[k]) := by
  rw [List.take_add_one, List.getElem?_eq_getElem hk]
  show allRL (xs.take k ++ [xs[k]]) = _
  generalize xs.take k = l
  induction l with
  | nil => rw [List.nil_append, allRL_cons, allRL_nil, Bool.and_true, Bool.true_and]
  | cons y l ih => rw [List.cons_append, allRL_cons, allRL_cons, ih, Bool.and_assoc]
theorem allRL_not {xs : List X} {k : Nat} (hk : k < xs.length) (h : allR xs[k] = false) : allRL xs = false := by
  induction xs generalizing k with
  | nil => simp at hk
  | cons y ys ih =>
    rw [allRL_cons]
    cases k with
    | zero => rw [show allR y = false from h, Bool.false_and]
    | succ k => rw [ih (k := k) (by simpa using hk) h, Bool.and_false]
theorem rightB_eq (x : X) (hop : 0 ≤ x.f0) : rightB x = (decide ((if x.f0 ≤ 12 then numsOf x.f0 else -1) = (x.f2.length : Int)) && decide (argsOf x.f0 = (x.f3.length : Int)) && (if x.f0 = 0 then nameB x.f1 else x.f1.toList.isEmpty)) := by
  unfold rightB
  by_cases h : x.f0 ≤ 12
  · rw [decide_eq_true h, if_pos h, Bool.true_and]
    congr 2
    · exact decide_eq_decide.2 eq_comm
    · exact decide_eq_decide.2 eq_comm
  · rw [decide_eq_false h, if_neg h, decide_eq_false (show ¬ ((-1 : Int) = (x.f2.length : Int)) by omega)]
    rfl
set_option maxHeartbeats 8000000 in
set_option maxRecDepth 100000 in
theorem refParts_calls (N : Nat) : ∀ (x : X) (A2 : Option Addr) (c2 : Nat) (A3 : Option Addr) (c3 : Nat) (w : World), cnt x ≤ N → cnt x ≤ 1099511627776 → Has w x A2 c2 A3 c3 →
    Calls Tryd.prog 52 #[agg x A2 c2 A3 c3] w fun e w' => e = .returned (.bool (allR x)) ∧ Below w.heap.size w w' := by
  induction N with
  | zero => intro x _ _ _ _ _ hx; have := cnt_pos x; omega
  | succ N ih =>
    intro x A2 c2 A3 c3 w hN hc hx
    have HR := Aside0.mk ((allR_eq x).trans (congrArg (· && allRL x.f3) (rightB_eq x hx.wf.op.1)))
    have CK := Aside0.mk (fun w => epactref09_kind.calls 3 x.f0 _ _ w (refKind_f x.f0 hx.wf.op.1))
    have CN := Aside0.mk (fun w => epactref09_Name.calls 40 x.f1 _ w (refName_f x.f1 40 (Nat.le_refl _)))
    have ix := InBox.new hx 25 w.heap.size rfl
    have BX0 := Aside0.mk (below_alloc (Below.refl w.heap.size w) (.cells #[.int .u8 x.f0, .string x.f1, .slice A2 x.f2.length c2, .slice A3 x.f3.length c3] 25))
    have IH := Aside0.mk ih
    have IX0 := Aside0.mk ix
    have HN := Aside0.mk hN
    have HC := Aside0.mk hc
    have hlen : x.f3.length ≤ 1099511627776 := by have := len_cntL x.f3; have := cnt_eq x; omega
    clear ix ih hN hc
    generalize (if x.f0 ≤ 12 then numsOf x.f0 else -1) = n at *
    generalize argsOf x.f0 = m at *
    by_cases h1 : n = (x.f2.length : Int)
    · rw [decide_eq_true h1, Bool.true_and] at HR
      have h1a : (n == (x.f2.length : Int)) = true := beq_iff_eq.2 h1
      have h1b : (n != (x.f2.length : Int)) = false := bne_eq_false_iff_eq.2 h1
      clear h1
      by_cases h2 : m = (x.f3.length : Int)
      · rw [decide_eq_true h2, Bool.true_and] at HR
        have h2a : (m == (x.f3.length : Int)) = true := beq_iff_eq.2 h2
        have h2b : (m != (x.f3.length : Int)) = false := bne_eq_false_iff_eq.2 h2
        clear h2
        by_cases h0 : x.f0 = 0
        · rw [if_pos h0] at HR
          have h0a : (x.f0 == 0) = true := beq_iff_eq.2 h0
          have h0b : (x.f0 != 0) = false := bne_eq_false_iff_eq.2 h0
          clear h0
          generalize nameB x.f1 = nb at *
          cases nb
          · rw [Bool.false_and] at HR
            go_enter Tryd.func52, Tryd.ntmps52
            go_wp2_with fail
            (with_reducible refine (CK.out _).mono ?_)
            rintro e w1 ⟨rfl, b1⟩
            have ix := IX0.out.later b1.below
            have IX1 := Aside0.mk ix
            have BX1 := Aside0.mk (below_then BX0.out BX0.out.size b1.below)
            have q0 := ix.q0
            have q1 := ix.q1
            have q2 := ix.q2
            have q3 := ix.q3
            clear ix b1
            go_wp2_with fail
            (with_reducible refine (CN.out _).mono ?_)
            rintro e w2 ⟨rfl, b2⟩
            have ix := IX1.out.later b2.below
            have IX2 := Aside0.mk ix
            have BX2 := Aside0.mk (below_then BX1.out BX1.out.size b2.below)
            clear q0 q1 q2 q3
            have q0 := ix.q0
            have q1 := ix.q1
            have q2 := ix.q2
            have q3 := ix.q3
            clear ix b2
            go_wp2
            go_ret
            exact ⟨by rw [HR.out]; rfl, BX2.out⟩
          · rw [Bool.true_and] at HR
            go_enter Tryd.func52, Tryd.ntmps52
            go_wp2_with fail
            (with_reducible refine (CK.out _).mono ?_)
            rintro e w1 ⟨rfl, b1⟩
            have ix := IX0.out.later b1.below
            have IX1 := Aside0.mk ix
            have BX1 := Aside0.mk (below_then BX0.out BX0.out.size b1.below)
            have q0 := ix.q0
            have q1 := ix.q1
            have q2 := ix.q2
            have q3 := ix.q3
            clear ix b1
            go_wp2_with fail
            (with_reducible refine (CN.out _).mono ?_)
            rintro e w2 ⟨rfl, b2⟩
            have ix := IX1.out.later b2.below
            have IX2 := Aside0.mk ix
            have BX2 := Aside0.mk (below_then BX1.out BX1.out.size b2.below)
            clear q0 q1 q2 q3
            have q0 := ix.q0
            have q1 := ix.q1
            have q2 := ix.q2
            have q3 := ix.q3
            clear ix b2
            go_wp2
            go_loopw [5] (fun j wr => ∃ k : Nat, k ≤ x.f3.length ∧ j = .int .i64 k ∧ allRL (x.f3.take k) = true ∧ Below w2.heap.size w2 wr) (fun j _ => (x.f3.length : Int).toNat - (intOf j).toNat)
            case atStart => exact ⟨0, Nat.zero_le _, rfl, by rw [List.take_zero, allRL_nil], Below.refl _ _⟩
            case round =>
              obtain ⟨k, hk, rfl, hall, hbr⟩ := hrel
              have ix := IX2.out.later hbr
              clear q0 q1 q2 q3
              have q0 := ix.q0
              have q1 := ix.q1
              have q2 := ix.q2
              have q3 := ix.q3
              have HALL := Aside0.mk hall
              have HBR := Aside0.mk hbr
              clear hall hbr
              by_cases hkn : k < x.f3.length
              · have hki : (k : Int) < (x.f3.length : Int) := by omega
                have hki' : decide ((k : Int) < (x.f3.length : Int)) = true := decide_eq_true hki
                obtain ⟨ad, B2, d2, B3, d3, hA, e0, e1, e2, e3, hy⟩ := child_at ix.has k hkn
                subst hA
                have CI := Aside0.mk (IH.out x.f3[k] B2 d2 B3 d3 wr (by have := cnt_child (List.getElem_mem hkn); have := HN.out; omega) (by have := cnt_child (List.getElem_mem hkn); have := HC.out; omega) hy)
                have HS := Aside0.mk (allRL_snoc x.f3 k hkn)
                have HF := Aside0.mk (fun h => allRL_not hkn h)
                clear ix hy
                go_wp2_with fail
                (with_reducible refine CI.out.mono ?_)
                rintro e w3 ⟨rfl, b3⟩
                generalize allR x.f3[k] = r at *
                have HBR := Aside0.mk (below_then HBR.out HBR.out.size b3)
                clear CI b3 e0 e1 e2 e3
                cases r
                · go_wp2
                  go_ret
                  exact ⟨by rw [HR.out, HF.out (by trivial)]; rfl, below_then BX2.out BX2.out.size HBR.out⟩
                · go_wp2_with fail
                  go_roundw
                  case rel => exact ⟨k + 1, by omega, by go_num, by rw [HS.out, HALL.out]; rfl, HBR.out⟩
                  case measure => simp [intOf]; omega
              · obtain rfl : k = x.f3.length := by omega
                have hki' : decide ((x.f3.length : Int) < (x.f3.length : Int)) = false := by simp
                clear ix
                go_wp2
                go_ret
                exact ⟨by rw [HR.out, ← HALL.out, List.take_length]; rfl, below_then BX2.out BX2.out.size HBR.out⟩
        · rw [if_neg h0] at HR
          have h0a : (x.f0 == 0) = false := beq_eq_false_iff_ne.2 h0
          have h0b : (x.f0 != 0) = true := bne_iff_ne.2 h0
          clear h0
          by_cases he : x.f1.toList = []
          · rw [List.isEmpty_iff.2 he, Bool.true_and] at HR
            have hi : x.f1.toList.isEmpty = true := List.isEmpty_iff.2 he
            have hin : (!x.f1.toList.isEmpty) = false := by rw [hi]; rfl
            have hea : (x.f1.toList == nil8.toList) = true := by rw [he, nil8_list]; rfl
            have heb : (x.f1.toList != nil8.toList) = false := by rw [he, nil8_list]; rfl
            go_enter Tryd.func52, Tryd.ntmps52
            go_wp2_with fail
            (with_reducible refine (CK.out _).mono ?_)
            rintro e w1 ⟨rfl, b1⟩
            have ix := IX0.out.later b1.below
            have IX1 := Aside0.mk ix
            have BX1 := Aside0.mk (below_then BX0.out BX0.out.size b1.below)
            have q0 := ix.q0
            have q1 := ix.q1
            have q2 := ix.q2
            have q3 := ix.q3
            clear ix b1
            go_wp2
            go_loopw [5] (fun j wr => ∃ k : Nat, k ≤ x.f3.length ∧ j = .int .i64 k ∧ allRL (x.f3.take k) = true ∧ Below w1.heap.size w1 wr) (fun j _ => (x.f3.length : Int).toNat - (intOf j).toNat)
            case atStart => exact ⟨0, Nat.zero_le _, rfl, by rw [List.take_zero, allRL_nil], Below.refl _ _⟩
            case round =>
              obtain ⟨k, hk, rfl, hall, hbr⟩ := hrel
              have ix := IX1.out.later hbr
              clear q0 q1 q2 q3
              have q0 := ix.q0
              have q1 := ix.q1
              have q2 := ix.q2
              have q3 := ix.q3
              have HALL := Aside0.mk hall
              have HBR := Aside0.mk hbr
              clear hall hbr
              by_cases hkn : k < x.f3.length
              · have hki : (k : Int) < (x.f3.length : Int) := by omega
                have hki' : decide ((k : Int) < (x.f3.length : Int)) = true := decide_eq_true hki
                obtain ⟨ad, B2, d2, B3, d3, hA, e0, e1, e2, e3, hy⟩ := child_at ix.has k hkn
                subst hA
                have CI := Aside0.mk (IH.out x.f3[k] B2 d2 B3 d3 wr (by have := cnt_child (List.getElem_mem hkn); have := HN.out; omega) (by have := cnt_child (List.getElem_mem hkn); have := HC.out; omega) hy)
                have HS := Aside0.mk (allRL_snoc x.f3 k hkn)
                have HF := Aside0.mk (fun h => allRL_not hkn h)
                clear ix hy
                go_wp2_with fail
                (with_reducible refine CI.out.mono ?_)
                rintro e w3 ⟨rfl, b3⟩
                generalize allR x.f3[k] = r at *
                have HBR := Aside0.mk (below_then HBR.out HBR.out.size b3)
                clear CI b3 e0 e1 e2 e3
                cases r
                · go_wp2
                  go_ret
                  exact ⟨by rw [HR.out, HF.out (by trivial)]; rfl, below_then BX1.out BX1.out.size HBR.out⟩
                · go_wp2_with fail
                  go_roundw
                  case rel => exact ⟨k + 1, by omega, by go_num, by rw [HS.out, HALL.out]; rfl, HBR.out⟩
                  case measure => simp [intOf]; omega
              · obtain rfl : k = x.f3.length := by omega
                have hki' : decide ((x.f3.length : Int) < (x.f3.length : Int)) = false := by simp
                clear ix
                go_wp2
                go_ret
                exact ⟨by rw [HR.out, ← HALL.out, List.take_length]; rfl, below_then BX1.out BX1.out.size HBR.out⟩
          · have hi : x.f1.toList.isEmpty = false := by rw [Bool.eq_false_iff]; exact fun h => he (List.isEmpty_iff.1 h)
            rw [hi, Bool.false_and] at HR
            have hea : (x.f1.toList == nil8.toList) = false := by rw [nil8_list]; exact beq_eq_false_iff_ne.2 he
            have heb : (x.f1.toList != nil8.toList) = true := by rw [nil8_list]; exact bne_iff_ne.2 he
            have hin : (!x.f1.toList.isEmpty) = true := by rw [hi]; rfl
            go_enter Tryd.func52, Tryd.ntmps52
            go_wp2_with fail
            (with_reducible refine (CK.out _).mono ?_)
            rintro e w1 ⟨rfl, b1⟩
            have ix := IX0.out.later b1.below
            have IX1 := Aside0.mk ix
            have BX1 := Aside0.mk (below_then BX0.out BX0.out.size b1.below)
            have q0 := ix.q0
            have q1 := ix.q1
            have q2 := ix.q2
            have q3 := ix.q3
            clear ix b1
            go_wp2
            go_ret
            exact ⟨by rw [HR.out]; rfl, BX1.out⟩
      · rw [decide_eq_false h2, Bool.false_and, Bool.false_and] at HR
        have h2a : (m == (x.f3.length : Int)) = false := beq_eq_false_iff_ne.2 h2
        have h2b : (m != (x.f3.length : Int)) = true := bne_iff_ne.2 h2
        clear h2
        go_enter Tryd.func52, Tryd.ntmps52
        go_wp2_with fail
        (with_reducible refine (CK.out _).mono ?_)
        rintro e w1 ⟨rfl, b1⟩
        have ix := IX0.out.later b1.below
        have IX1 := Aside0.mk ix
        have BX1 := Aside0.mk (below_then BX0.out BX0.out.size b1.below)
        have q0 := ix.q0
        have q1 := ix.q1
        have q2 := ix.q2
        have q3 := ix.q3
        clear ix b1
        go_wp2
        go_ret
        exact ⟨by rw [HR.out]; rfl, BX1.out⟩
    · rw [decide_eq_false h1, Bool.false_and, Bool.false_and, Bool.false_and] at HR
      have h1a : (n == (x.f2.length : Int)) = false := beq_eq_false_iff_ne.2 h1
      have h1b : (n != (x.f2.length : Int)) = true := bne_iff_ne.2 h1
      clear h1
      go_enter Tryd.func52, Tryd.ntmps52
      go_wp2_with fail
      (with_reducible refine (CK.out _).mono ?_)
      rintro e w1 ⟨rfl, b1⟩
      have ix := IX0.out.later b1.below
      have IX1 := Aside0.mk ix
      have BX1 := Aside0.mk (below_then BX0.out BX0.out.size b1.below)
      have q0 := ix.q0
      have q1 := ix.q1
      have q2 := ix.q2
      have q3 := ix.q3
      clear ix b1
      go_wp2
      go_ret
      exact ⟨by rw [HR.out]; rfl, BX1.out⟩
set_option maxHeartbeats 4000000 in
theorem refRight_calls (x : X) (A2 : Option Addr) (c2 : Nat) (A3 : Option Addr) (c3 : Nat) (w : World) (hc : cnt x ≤ 1099511627776) (hx : Has w x A2 c2 A3 c3) :
    Calls Tryd.prog 26 #[agg x A2 c2 A3 c3] w fun e w' => e = .returned (.bool (RightB x)) ∧ Below w.heap.size w w' := by
  have HR := Aside0.mk (show RightB x = (allR x && decide (dep x ≤ 40) && decide (cnt x ≤ 2000)) from rfl)
  have ix := InBox.new hx 25 w.heap.size rfl
  have BX0 := Aside0.mk (below_alloc (Below.refl w.heap.size w) (.cells #[.int .u8 x.f0, .string x.f1, .slice A2 x.f2.length c2, .slice A3 x.f3.length c3] 25))
  have IX0 := Aside0.mk ix
  have CP := Aside0.mk (refParts_calls (cnt x) x A2 c2 A3 c3 _ (Nat.le_refl _) hc ix.has)
  have CD := Aside0.mk (fun (w : World) (h : Has w x A2 c2 A3 c3) => epactref09_Depth.calls (2 * cnt x) x.f0 x.f1 A2 c2 x.f2 A3 c3 x.f3 _ w h.C2 h.l2 h.C3 h.l3 (refDepth_f (cnt x) x (Nat.le_refl _) hc _ (Nat.le_refl _)))
  have CC := Aside0.mk (fun (w : World) (h : Has w x A2 c2 A3 c3) => epactref09_Count.calls (2 * cnt x) x.f0 x.f1 A2 c2 x.f2 A3 c3 x.f3 _ w h.C2 h.l2 h.C3 h.l3 (refCount_f (cnt x) x (Nat.le_refl _) hc _ (Nat.le_refl _)))
  have hd1 : decide ((dep x : Int) ≤ 40) = decide (dep x ≤ 40) := decide_eq_decide.2 (by omega)
  have hd2 : decide ((cnt x : Int) ≤ 2000) = decide (cnt x ≤ 2000) := decide_eq_decide.2 (by omega)
  have D1 := Aside0.mk hd1
  have D2 := Aside0.mk hd2
  clear ix hd1 hd2
  generalize allR x = r1 at *
  cases r1
  · go_enter Tryd.func26, Tryd.ntmps26
    go_wp2_with fail
    (with_reducible refine (CP.out).mono ?_)
    rintro e w1 ⟨rfl, b1⟩
    have BX1 := Aside0.mk (below_then BX0.out BX0.out.size b1)
    clear b1
    go_wp2
    go_ret
    exact ⟨by rw [HR.out]; rfl, BX1.out⟩
  · by_cases hd : dep x ≤ 40
    · have e1 : decide ((dep x : Int) ≤ 40) = true := decide_eq_true (by omega)
      go_enter Tryd.func26, Tryd.ntmps26
      go_wp2_with fail
      (with_reducible refine (CP.out).mono ?_)
      rintro e w1 ⟨rfl, b1⟩
      have BX1 := Aside0.mk (below_then BX0.out BX0.out.size b1)
      have ix := IX0.out.later b1
      have IX1 := Aside0.mk ix
      have q0 := ix.q0
      have q1 := ix.q1
      have q2 := ix.q2
      have q3 := ix.q3
      have CX := Aside0.mk (CD.out _ ix.has)
      clear ix b1
      go_wp2_with fail
      (with_reducible refine (CX.out).mono ?_)
      rintro e w2 ⟨rfl, b2⟩
      have BX2 := Aside0.mk (below_then BX1.out BX1.out.size b2)
      have ix := IX1.out.later b2
      clear q0 q1 q2 q3
      have q0 := ix.q0
      have q1 := ix.q1
      have q2 := ix.q2
      have q3 := ix.q3
      have CY := Aside0.mk (CC.out _ ix.has)
      clear ix b2
      go_wp2_with fail
      (with_reducible refine (CY.out).mono ?_)
      rintro e w3 ⟨rfl, b3⟩
      have BX3 := Aside0.mk (below_then BX2.out BX2.out.size b3)
      clear b3
      go_wp2
      go_ret
      exact ⟨by rw [HR.out, decide_eq_true hd, ← D2.out]; rfl, BX3.out⟩
    · have e1 : decide ((dep x : Int) ≤ 40) = false := decide_eq_false (by omega)
      go_enter Tryd.func26, Tryd.ntmps26
      go_wp2_with fail
      (with_reducible refine (CP.out).mono ?_)
      rintro e w1 ⟨rfl, b1⟩
      have BX1 := Aside0.mk (below_then BX0.out BX0.out.size b1)
      have ix := IX0.out.later b1
      have IX1 := Aside0.mk ix
      have q0 := ix.q0
      have q1 := ix.q1
      have q2 := ix.q2
      have q3 := ix.q3
      have CX := Aside0.mk (CD.out _ ix.has)
      clear ix b1
      go_wp2_with fail
      (with_reducible refine (CX.out).mono ?_)
      rintro e w2 ⟨rfl, b2⟩
      have BX2 := Aside0.mk (below_then BX1.out BX1.out.size b2)
      clear b2
      go_wp2
      go_ret
      exact ⟨by rw [HR.out, decide_eq_false hd]; rfl, BX2.out⟩
end Go.Proofs.YtjeofffddbibeaaDoor.Ex
