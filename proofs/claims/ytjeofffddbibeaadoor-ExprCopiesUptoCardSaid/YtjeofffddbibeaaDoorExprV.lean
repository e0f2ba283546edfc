/-
  Go's 'each': whatever the function that it is handed does with a state, it goes through all parts as 'goX' does.
-/
import Derived.Test.YtjeofffddbibeaaDoorExprN
import Derived.Laws.EntriesVeiled
namespace Go.Proofs.YtjeofffddbibeaaDoor.Ex
open Go Go.RowKit Go.Proofs.YtjeofffddbibeaaDoor.PExprTells Go.Proofs.YtjeofffddbibeaaDoorW.PrintWords Go.Proofs.YtjeofffddbibeaaDoorW.PrintLast Go.Proofs.YtjeofffddbibeaaDoorW.PrintMore
set_option linter.unusedVariables false
set_option linter.unusedSimpArgs false

/-- What is handed to 'each': function g with what it captured; S: the blocks that it writes; 'Inv': what these hold. -/
structure Does (g : FuncId) (cb : Array Value) (S : Nat → Prop) (w0 : World) {σ : Type} (f : σ → X → Int → σ × Bool) (Inv : σ → World → Prop) (D : Int) (pot : σ → Nat) (L : Nat) (Z : Nat) : Prop where
  enter : ∀ args w, (callFunc g args).run Tryd.prog w = .ok (.enter g args) w
  draws : ∀ s w n, Inv s w → Inv s (w.drewN n)
  allocs : ∀ s w o, Inv s w → Inv s (w.alloc o)
  above : ∀ k, S k → w0.heap.size ≤ k
  step : ∀ s x d, pot (f s x d).1 ≤ pot s + 1
  run : ∀ s w p x d A2 c2 A3 c3, Wf x → pot s < L → Z ≤ w.heap.size → Inv s w → Below w0.heap.size w0 w → Node w0 w p x A2 c2 A3 c3 → ¬ S p.block → 1 ≤ d → d ≤ D →
    Calls Tryd.prog g (#[.pointer (some p), .int .i64 d] ++ cb) w fun e w' => e = .returned (.bool (f s x d).2) ∧ Inv (f s x d).1 w' ∧ Below w0.heap.size w0 w' ∧ Kept w w' S

/-- The post of a visit, behind a name. -/
def Went (S : Nat → Prop) (w0 w : World) {σ : Type} (Inv : σ → World → Prop) (r : σ × Bool) (e : Ending) (w' : World) : Prop :=
  e = .returned (.bool r.2) ∧ Inv r.1 w' ∧ Below w0.heap.size w0 w' ∧ Kept w w' S

/-- At the head of the arguments' loop: k of them are behind. -/
def At (S : Nat → Prop) (w0 w : World) {σ : Type} (f : σ → X → Int → σ × Bool) (Inv : σ → World → Prop) (s : σ) (xs : List X) (d : Int) (k : Nat) (wr : World) : Prop :=
  (goL f s (xs.take k) d).2 = true ∧ Inv (goL f s (xs.take k) d).1 wr ∧ Below w0.heap.size w0 wr ∧ Kept w wr S
section
variable {g : FuncId} {cb : Array Value} {S : Nat → Prop} {w0 : World} {σ : Type} {f : σ → X → Int → σ × Bool} {Inv : σ → World → Prop} {D : Int} {pot : σ → Nat} {L : Nat} {Z : Nat}
mutual
theorem pot_X (hs : ∀ s x d, pot (f s x d).1 ≤ pot s + 1) : ∀ (x : X) (s : σ) (d : Int), pot (goX f s x d).1 ≤ pot s + cnt x
  | ⟨o, n, ns, xs⟩, s, d => by
    rw [goX_eq, cnt_eq]
    have h1 := hs s ⟨o, n, ns, xs⟩ d
    have h2 := pot_L hs xs (f s ⟨o, n, ns, xs⟩ d).1 (d + 1)
    split
    · show pot (goL f (f s ⟨o, n, ns, xs⟩ d).1 xs (d + 1)).1 ≤ pot s + (1 + cntL xs)
      omega
    · show pot (f s ⟨o, n, ns, xs⟩ d).1 ≤ pot s + (1 + cntL xs)
      omega
theorem pot_L (hs : ∀ s x d, pot (f s x d).1 ≤ pot s + 1) : ∀ (xs : List X) (s : σ) (d : Int), pot (goL f s xs d).1 ≤ pot s + cntL xs
  | [], s, d => by rw [goL_nil, cntL_nil]; exact Nat.le_refl _
  | y :: ys, s, d => by
    rw [goL_cons, cntL_cons]
    have h1 := pot_X hs y s d
    have h2 := pot_L hs ys (goX f s y d).1 d
    split
    · omega
    · show pot (goX f s y d).1 ≤ _
      omega
end
theorem cntL_take (xs : List X) (k : Nat) (h : k < xs.length) : cntL (xs.take k) + cnt xs[k] ≤ cntL xs := by
  have h1 : xs = xs.take k ++ xs[k] :: xs.drop (k + 1) := by rw [List.getElem_cons_drop]; exact (List.take_append_drop k xs).symm
  have h2 := congrArg cntL h1
  rw [cntL_append, cntL_cons] at h2
  omega
set_option maxHeartbeats 4000000 in
set_option maxRecDepth 100000 in
theorem visit_calls (H : Does g cb S w0 f Inv D pot L Z) (a b : Addr) (ha : ¬ S a.block) (hb : ¬ S b.block) (hD : D ≤ 4611686018427387904) (N : Nat) :
    ∀ x : X, cnt x ≤ N → Wf x → ∀ (s : σ) (w : World) (p : Addr) (d : Int) A2 c2 A3 c3, pot s + cnt x ≤ L → Z ≤ w.heap.size → Inv s w → Below w0.heap.size w0 w → Node w0 w p x A2 c2 A3 c3 → ¬ S p.block → 1 ≤ d → d + cnt x ≤ D →
      w.cell? a = some (.func (.func g) #[] cb) → w.cell? b = some (.func (.func 75) #[] #[.pointer (some a), .pointer (some b)]) →
      Calls Tryd.prog 75 #[.pointer (some p), .int .i64 d, .pointer (some a), .pointer (some b)] w (Went S w0 w Inv (goX f s x d)) := by
  induction N with
  | zero =>
    intro x hx
    have := cnt_pos x
    omega
  | succ N ih =>
    intro x hx hwf s w p d A2 c2 A3 c3 hpot hZ hI hB hN hp hd hdD hca hcb
    have eg := H.enter
    have hR := Aside0.mk (H.run s w p x d A2 c2 A3 c3 hwf (by have := cnt_pos x; omega) hZ hI hB hN hp hd (by omega))
    have hG := Aside0.mk (goX_eq f s x d)
    by_cases hf : (f s x d).2 = true
    · rw [hf] at hR
      have hG1 := hG.out
      rw [if_pos hf] at hG1
      have HG := Aside0.mk hG1
      clear hG1 hG
      go_enter Tryd.func75, Tryd.ntmps75
      go_wp2_with fail
      (with_reducible refine hR.out.mono ?_)
      rintro e w1 ⟨rfl, hI1, hB1, hK1⟩
      have hN1 := hN.keep hK1 hp
      have q3 : w1.cell? ⟨p.block, p.off + 3, none⟩ = some (.slice A3 x.f3.length c3) := hN1.q3
      have hlen := hN1.none
      have HN := Aside0.mk hN
      have HI := Aside0.mk hI1
      have HCA := Aside0.mk hca
      have HCB := Aside0.mk hcb
      clear hN hN1 hI1 hI hR hf
      go_wp2
      go_loopw [18] (fun j wr => ∃ k : Nat, k ≤ x.f3.length ∧ j = .int .i64 k ∧ At S w0 w f Inv (f s x d).1 x.f3 (d + 1) k wr) (fun j _ => (x.f3.length : Int).toNat - (intOf j).toNat)
      case atStart => exact ⟨0, Nat.zero_le _, rfl, by rw [List.take_zero, goL_nil], by rw [List.take_zero, goL_nil]; exact HI.out, hB1, hK1⟩
      case round =>
        obtain ⟨k, hk, rfl, hat⟩ := hrel
        clear hK1 hB1 q3 hca hcb
        obtain ⟨ht, hIk, hBk, hKk⟩ := id hat
        have HAT := Aside0.mk hat
        clear hat
        by_cases hkn : k < x.f3.length
        · obtain ⟨ad, B2, d2, B3, d3, hA3, hNc, hlt⟩ := (HN.out.keep hKk hp).child hBk k hkn
          subst hA3
          have q3 : wr.cell? ⟨p.block, p.off + 3, none⟩ = some (.slice (some ad) x.f3.length c3) := (HN.out.keep hKk hp).q3
          have ca : wr.cell? a = some (.func (.func g) #[] cb) := cell_kept HCA.out hKk ha
          have cv : wr.cell? b = some (.func (.func 75) #[] #[.pointer (some a), .pointer (some b)]) := cell_kept HCB.out hKk hb
          have hki : (k : Int) < (x.f3.length : Int) := by omega
          have hy : cnt x.f3[k] < cnt x := cnt_child (List.getElem_mem hkn)
          have CI := Aside0.mk (ih x.f3[k] (by omega) (hwf.child (List.getElem_mem hkn)) (goL f (f s x d).1 (x.f3.take k) (d + 1)).1 wr.drew (ad.add (k * 4)) (d + 1) B2 d2 B3 d3 (by have h1 := H.step s x d; have h2 := pot_L H.step (x.f3.take k) (f s x d).1 (d + 1); have h3 := cntL_take x.f3 k hkn; have h4 := cnt_eq x; omega) (Nat.le_trans hZ hKk.1) (H.draws _ _ 1 hIk) hBk.drew (hNc.keep (Kept.refl _ S).drew (fun h => by have := H.above _ h; omega)) (fun h => by have := H.above _ h; omega) (by omega) (by omega) ca cv)
          have hsn := Aside0.mk (goL_snoc f (f s x d).1 x.f3 k hkn (d + 1) ht)
          clear ht hIk hNc
          by_cases hg : (goX f (goL f (f s x d).1 (x.f3.take k) (d + 1)).1 x.f3[k] (d + 1)).2 = true
          · have h1 := hsn.out
            rw [if_pos hg] at h1
            have HS := Aside0.mk h1
            have HGG := Aside0.mk hg
            clear h1 hsn hg
            go_wp2_with fail
            go_still_tail 9, (by kernel_rfl)
            change wpList _ _ _ _ _ wr.drew
            go_wp2_with fail
            (with_reducible refine CI.out.mono ?_)
            rintro e w2 hw
            unfold Went at hw
            rw [HGG.out] at hw
            obtain ⟨rfl, hI2, hB2, hK2⟩ := hw
            go_wp2
            go_roundw
            case rel => exact ⟨k + 1, by omega, by go_num, by unfold At; rw [HS.out]; exact ⟨rfl, hI2, hB2, hKk.drew.then_ hK2 (fun _ h => .inl h)⟩⟩
            case measure => simp [intOf]; omega
          · have hg' := Bool.eq_false_iff.2 hg
            have h1 := hsn.out
            rw [if_neg hg] at h1
            have h2 := goL_stop f (f s x d).1 x.f3 (k + 1) hkn (d + 1) (by rw [h1])
            rw [h1] at h2
            have HS := Aside0.mk h2
            have HGG := Aside0.mk hg'
            clear h1 h2 hsn hg hg'
            go_wp2_with fail
            go_still_tail 9, (by kernel_rfl)
            change wpList _ _ _ _ _ wr.drew
            go_wp2_with fail
            (with_reducible refine CI.out.mono ?_)
            rintro e w2 hw
            unfold Went at hw
            rw [HGG.out] at hw
            obtain ⟨rfl, hI2, hB2, hK2⟩ := hw
            go_wp2
            go_ret
            exact ⟨by rw [HG.out, HS.out]; rfl, by rw [HG.out, HS.out]; exact hI2, hB2, hKk.drew.then_ hK2 (fun _ h => .inl h)⟩
        · obtain rfl : k = x.f3.length := by omega
          go_wp2
          go_ret
          have hat := HAT.out
          unfold At at hat
          rw [List.take_length] at hat
          exact ⟨by rw [HG.out, hat.1]; rfl, by rw [HG.out]; exact hat.2.1, hat.2.2.1, hat.2.2.2⟩
    · have hf' := Bool.eq_false_iff.2 hf
      rw [hf'] at hR
      have hG1 := hG.out
      rw [if_neg hf] at hG1
      have HG := Aside0.mk hG1
      clear hG1 hG
      go_enter Tryd.func75, Tryd.ntmps75
      go_wp2_with fail
      (with_reducible refine hR.out.mono ?_)
      rintro e w1 ⟨rfl, hI1, hB1, hK1⟩
      go_wp2
      go_ret
      exact ⟨by rw [HG.out]; rfl, by rw [HG.out]; exact hI1, hB1, hK1⟩
set_option maxHeartbeats 4000000 in
set_option maxRecDepth 100000 in
theorem each_calls (H : Does g cb S w0 f Inv D pot L Z) (hD : D ≤ 4611686018427387904) (x : X) (hx : 1 + cnt x ≤ D) (hwf : Wf x) (s : σ) (w : World) (A2 : Option Addr) (c2 : Nat) (A3 : Option Addr) (c3 : Nat) (hpot : pot s + cnt x ≤ L) (hZ : Z ≤ w.heap.size + 3) (hI : Inv s w) (hB : Below w0.heap.size w0 w)
    (l2 : x.f2.length ≤ c2) (C2 : kI.C w0 A2 x.f2.length x.f2) (l3 : x.f3.length ≤ c3) (C3 : kX.C w0 A3 x.f3.length x.f3) (hS0 : ¬ S w.heap.size) (hS1 : ¬ S (w.heap.size + 1)) (hS2 : ¬ S (w.heap.size + 1 + 1)) :
    Calls Tryd.prog 44 #[agg x A2 c2 A3 c3, .func (.func g) #[] cb] w fun e w' => e = .returned (.tuple #[]) ∧ Inv (goX f s x 1).1 w' ∧ Below w0.heap.size w0 w' ∧ Kept w w' S := by
  go_enter Tryd.func44, Tryd.ntmps44
  go_wp2_with fail
  refine (visit_calls H ⟨w.heap.size + 1, 0, none⟩ ⟨w.heap.size + 1 + 1, 0, none⟩ hS1 hS2 hD (cnt x) x (Nat.le_refl _) hwf s _ ⟨w.heap.size, 0, none⟩ 1 A2 c2 A3 c3 hpot (by simp; omega) (H.allocs _ _ _ (H.allocs _ _ _ (H.allocs _ _ _ hI))) ?i2 ⟨?i30, ?i31, ?i32, ?i33, l2, C2, l3, C3⟩ hS0 (by omega) hx ?i4 ?i5).mono ?_
  case i2 => exact below_alloc (below_alloc (below_alloc hB _) _) _
  case i30 => rw [World.cell?_alloc_past _ _ _ (by simp <;> omega), World.cell?_alloc_past _ _ _ (by simp <;> omega), World.cell?_alloc_at _ _ _ _ rfl]; rfl
  case i31 => rw [fld, World.cell?_alloc_past _ _ _ (by simp <;> omega), World.cell?_alloc_past _ _ _ (by simp <;> omega), World.cell?_alloc_at _ _ _ _ rfl]; rfl
  case i32 => rw [fld, World.cell?_alloc_past _ _ _ (by simp <;> omega), World.cell?_alloc_past _ _ _ (by simp <;> omega), World.cell?_alloc_at _ _ _ _ rfl]; rfl
  case i33 => rw [fld, World.cell?_alloc_past _ _ _ (by simp <;> omega), World.cell?_alloc_past _ _ _ (by simp <;> omega), World.cell?_alloc_at _ _ _ _ rfl]; rfl
  case i4 => rw [World.cell?_alloc_past _ _ _ (by simp <;> omega), World.cell?_alloc_at _ _ _ _ (by simp <;> omega)]; rfl
  case i5 => rw [World.cell?_alloc_at _ _ _ _ (by simp <;> omega)]; rfl
  rintro e w' ⟨rfl, hI', hB', hK'⟩
  go_wp2
  go_end0
  exact ⟨rfl, hI', hB', (((Kept.refl w S).alloc _).alloc _).alloc _ |>.then_ hK' (fun _ h => .inl h)⟩
end
end Go.Proofs.YtjeofffddbibeaaDoor.Ex
