/-
  Part 6 of what the row stands on, put together by a program: ParH, ParI, ParK, ParL, PcA, PcB, PcD, PcS, PcW.
-/
import Derived.Laws.RangeAny
import Derived.Test.YtcinojbfjiohjaaGreatDoorPwE
section
namespace Go.Proofs.YtcinojbfjiohjaaGreatDoor.Pa
open Go Go.RowKit Go.Proofs.YtcinojbfjiohjaaGreatDoor.PPrintTells Go.Proofs.YtcinojbfjiohjaaGreatDoor.Ex Go.Proofs.YtcinojbfjiohjaaGreatDoorW.PrintWords Go.Proofs.YtcinojbfjiohjaaGreatDoorW.PrintLast Go.Proofs.YtcinojbfjiohjaaGreatDoorW.PrintMore
set_option linter.unusedVariables false
set_option linter.unusedSimpArgs false
abbrev CLN : ByteArray := ⟨#[58]⟩
abbrev LBR : ByteArray := ⟨#[91]⟩
abbrev RBR : ByteArray := ⟨#[93]⟩
def endF (s : ByteArray) (L : List Tok) : Int × Bool × List Tok × Int :=
  if isF s L = true then (0, false, (markF s L).1, (markF s L).2)
  else if (numF L).2.2 = 0 then ((numF L).1.f2, decide ((markF s (numF L).2.1).2 = 0), (markF s (numF L).2.1).1, (markF s (numF L).2.1).2)
  else ((numF L).1.f2, false, (numF L).2.1, (numF L).2.2)
theorem end_e (s : ByteArray) (L : List Tok) : (endF s L).2.2.2 = 0 ∨ (endF s L).2.2.2 = 110 := by
  have hmk : ∀ L, (markF s L).2 = 0 ∨ (markF s L).2 = 110 := fun L => by
    rcases mark_cases s L with ⟨t, r, _, h, _⟩ | ⟨h, _⟩
    · exact .inl (by rw [h])
    · exact .inr (by rw [h])
  unfold endF
  split
  · exact hmk L
  · split
    · exact hmk _
    · rcases take_cases [2, 3] L with ⟨t, r, _, h, _⟩ | h
      · exact .inl (by show (takeF [2, 3] L).2.2 = 0; rw [h])
      · exact .inr (by show (takeF [2, 3] L).2.2 = 110; rw [h])
set_option maxHeartbeats 8000000 in
theorem end_calls (g : Nat) (s : ByteArray) (L : List Tok) (a p : Int) (w0 w : World) (hI : IsP w0 w g L a p) :
    Calls Tryz.prog 143 #[.pointer (some ⟨g, 0, none⟩), .string s] w fun e w' => e = .returned (.tuple #[.int .i64 (endF s L).1, .bool (endF s L).2.1, .int .i64 (endF s L).2.2.2]) ∧ IsP w0 w' g (endF s L).2.2.1 a p ∧ Kept w w' (At g) := by
  have CI := Aside0.mk (is_calls g s L a p w0 w hI)
  have CM := fun L W h => Aside0.mk (mark_calls g s L a p w0 W h)
  have CN := fun W h => Aside0.mk (number_calls g L a p w0 W h)
  have HI := Aside0.mk hI
  clear hI
  cases hi : isF s L with
  | true =>
    have he : endF s L = (0, false, (markF s L).1, (markF s L).2) := if_pos hi
    rw [he]
    rw [hi] at CI
    rcases mark_cases s L with ⟨t, r, hL, hm, _⟩ | ⟨hm, hx⟩
    · have CM := CM L
      rw [hm] at CM ⊢
      dsimp only at CM ⊢
      clear he hi hm hL CN
      go_enter Tryz.func143, Tryz.ntmps143
      go_wp2_with fail
      (with_reducible refine CI.out.mono ?_)
      rintro e w1 ⟨rfl, hd1⟩
      have HI1 := Aside0.mk (HI.out.drawn hd1)
      have HK := Aside0.mk ((Kept.refl w (At g)).below hd1.below)
      clear hd1 CI
      go_wp2_with fail
      (with_reducible refine (CM _ ?i).out.mono ?_)
      case i => exact HI1.out
      rintro e w2 ⟨rfl, hI2, hk2⟩
      have HI2 := Aside0.mk hI2
      have HK2 := Aside0.mk (HK.out.then_ hk2 (fun _ h => .inl h))
      clear hI2 hk2 CM
      go_wp2
      refine bodyPost_ret (results_list (rs := [.tmp 4, .tmp 5, .tmp 6]) rfl (by simp) (.tmp (.tmp (.tmp .nil)))) rfl ?_
      exact ⟨rfl, HI2.out, HK2.out⟩
    · rw [hi] at hx; cases hx
  | false =>
    rw [hi] at CI
    rcases take_cases [2, 3] L with ⟨t, r, hL, ht, _⟩ | ht
    · have he : endF s L = (t.f2, decide ((markF s r).2 = 0), (markF s r).1, (markF s r).2) := by
        unfold endF
        rw [if_neg (by rw [hi]; simp), show numF L = (t, r, 0) from ht, if_pos rfl]
      rw [he]
      rw [show numF L = (t, r, 0) from ht] at CN
      dsimp only at CN
      have CM := CM r
      rcases mark_cases s r with ⟨t9, r9, hL9, hm, _⟩ | ⟨hm, _⟩
      all_goals rw [hm] at CM ⊢
      all_goals dsimp only at CM ⊢
      all_goals clear he hi hm hL ht
      all_goals go_enter Tryz.func143, Tryz.ntmps143
      all_goals go_wp2_with fail
      all_goals (with_reducible refine CI.out.mono ?_)
      all_goals rintro e w1 ⟨rfl, hd1⟩
      all_goals have HI1 := Aside0.mk (HI.out.drawn hd1)
      all_goals have HK := Aside0.mk ((Kept.refl w (At g)).below hd1.below)
      all_goals clear hd1 CI
      all_goals go_wp2_with fail
      all_goals (with_reducible refine (CN _ HI1.out).out.mono ?_)
      all_goals rintro e w2 ⟨rfl, hI2, hk2⟩
      all_goals have HI2 := Aside0.mk hI2
      all_goals have HK2 := Aside0.mk (HK.out.then_ hk2 (fun _ h => .inl h))
      all_goals clear hI2 hk2 CN
      all_goals go_wp2_with fail
      all_goals (with_reducible refine (CM _ HI2.out).out.mono ?_)
      all_goals rintro e w3 ⟨rfl, hI3, hk3⟩
      all_goals have HI3 := Aside0.mk hI3
      all_goals have HK3 := Aside0.mk (HK2.out.then_ hk3 (fun _ h => .inl h))
      all_goals clear hI3 hk3 CM
      all_goals go_wp2
      all_goals refine bodyPost_ret (results_list (rs := [.tmp 4, .tmp 5, .tmp 6]) rfl (by simp) (.tmp (.tmp (.tmp .nil)))) rfl ?_
      all_goals exact ⟨rfl, HI3.out, HK3.out⟩
    · have he : endF s L = (z51.f2, false, L, 110) := by
        unfold endF
        rw [if_neg (by rw [hi]; simp), show numF L = (z51, L, 110) from ht, if_neg (by simp)]
      rw [he]
      rw [show numF L = (z51, L, 110) from ht] at CN
      dsimp only at CN ⊢
      clear he hi ht CM
      go_enter Tryz.func143, Tryz.ntmps143
      go_wp2_with fail
      (with_reducible refine CI.out.mono ?_)
      rintro e w1 ⟨rfl, hd1⟩
      have HI1 := Aside0.mk (HI.out.drawn hd1)
      have HK := Aside0.mk ((Kept.refl w (At g)).below hd1.below)
      clear hd1 CI
      go_wp2_with fail
      (with_reducible refine (CN _ HI1.out).out.mono ?_)
      rintro e w2 ⟨rfl, hI2, hk2⟩
      have HI2 := Aside0.mk hI2
      have HK2 := Aside0.mk (HK.out.then_ hk2 (fun _ h => .inl h))
      clear hI2 hk2 CN
      go_wp2
      refine bodyPost_ret (results_list (rs := [.tmp 4, .tmp 5, .tmp 6]) rfl (by simp) (.tmp (.tmp (.tmp .nil)))) rfl ?_
      exact ⟨rfl, HI2.out, HK2.out⟩
abbrev TR : TypeId := 40
abbrev rCells (lo hi : Int) (hl hh : Bool) : Array Value := #[.int .i64 lo, .int .i64 hi, .bool hl, .bool hh]
structure ScSt (w0 w W : World) (g : Nat) (a : Int) (L : List Tok) (p : Int) (lo hi : Int) (hl hh : Bool) : Prop where
  isp : IsP w0 W g L a p
  kept : Kept w W (At g)
  zero : W.heap[w.heap.size]? = some (.cells (rCells 0 0 false false) TR (0, 0))
  box : W.heap[w.heap.size + 1]? = some (.cells (rCells lo hi hl hh) TR (0, 0))
  lg : g < w.heap.size
section
variable {w0 w W W2 : World} {g : Nat} {a : Int} {L L2 : List Tok} {p p2 lo hi : Int} {hl hh : Bool}
theorem ScSt.at (h : ScSt w0 w W g a L p lo hi hl hh) (hI : IsP w0 W2 g L2 a p2) (hk : Kept W W2 (At g)) : ScSt w0 w W2 g a L2 p2 lo hi hl hh := by
  have h1 := h.lg
  exact ⟨hI, h.kept.then_ hk (fun k hs => .inl hs), blk_kept h.zero hk (fun hs => by have : w.heap.size = g := hs; omega), blk_kept h.box hk (fun hs => by have : w.heap.size + 1 = g := hs; omega), h1⟩
theorem ScSt.low (h : ScSt w0 w W g a L p lo hi hl hh) (n : Int) (b : Bool) : ScSt w0 w ((W.setCell ⟨w.heap.size + 1, 0, none⟩ (.int .i64 n)).setCell ⟨w.heap.size + 1, 2, none⟩ (.bool b)) g a L p n hi b hh := by
  have h1 := h.lg
  have h2 := h.isp.ge
  refine ⟨h.isp.mv (S := At (w.heap.size + 1)) (by (repeat (first | (with_reducible exact Kept.refl _ _) | (with_reducible apply Kept.alloc) | (with_reducible apply Kept.drewN) | (with_reducible apply Kept.drew) | (with_reducible refine kept_at ?_ _ _) | (with_reducible refine kept_new ?_ _ _ (Nat.le_refl _)) | (with_reducible refine kept_new ?_ _ _ (by first | assumption | omega))))) (by (repeat (first | (with_reducible exact h.isp.low) | (with_reducible apply below_alloc) | (with_reducible apply pw_below_drewN) | (with_reducible apply below_drew1) | (with_reducible refine below_set ?_ (by first | assumption | omega))))) (by show ¬ (g = w.heap.size + 1); omega), by (repeat (first | (with_reducible exact h.kept) | (with_reducible apply Kept.alloc) | (with_reducible apply Kept.drewN) | (with_reducible apply Kept.drew) | (with_reducible refine kept_at ?_ _ _) | (with_reducible refine kept_new ?_ _ _ (by first | assumption | omega)))), blk_far (blk_far h.zero (by show w.heap.size + 1 ≠ w.heap.size; omega) _) (by show w.heap.size + 1 ≠ w.heap.size; omega) _, blk_put (blk_put h.box 0 _ rfl) 2 _ rfl, h1⟩
theorem ScSt.high (h : ScSt w0 w W g a L p lo hi hl hh) (n : Int) (b : Bool) : ScSt w0 w ((W.setCell ⟨w.heap.size + 1, 1, none⟩ (.int .i64 n)).setCell ⟨w.heap.size + 1, 3, none⟩ (.bool b)) g a L p lo n hl b := by
  have h1 := h.lg
  have h2 := h.isp.ge
  refine ⟨h.isp.mv (S := At (w.heap.size + 1)) (by (repeat (first | (with_reducible exact Kept.refl _ _) | (with_reducible apply Kept.alloc) | (with_reducible apply Kept.drewN) | (with_reducible apply Kept.drew) | (with_reducible refine kept_at ?_ _ _) | (with_reducible refine kept_new ?_ _ _ (Nat.le_refl _)) | (with_reducible refine kept_new ?_ _ _ (by first | assumption | omega))))) (by (repeat (first | (with_reducible exact h.isp.low) | (with_reducible apply below_alloc) | (with_reducible apply pw_below_drewN) | (with_reducible apply below_drew1) | (with_reducible refine below_set ?_ (by first | assumption | omega))))) (by show ¬ (g = w.heap.size + 1); omega), by (repeat (first | (with_reducible exact h.kept) | (with_reducible apply Kept.alloc) | (with_reducible apply Kept.drewN) | (with_reducible apply Kept.drew) | (with_reducible refine kept_at ?_ _ _) | (with_reducible refine kept_new ?_ _ _ (by first | assumption | omega)))), blk_far (blk_far h.zero (by show w.heap.size + 1 ≠ w.heap.size; omega) _) (by show w.heap.size + 1 ≠ w.heap.size; omega) _, blk_put (blk_put h.box 1 _ rfl) 3 _ rfl, h1⟩
theorem ScSt.close (h : ScSt w0 w W g a L p lo hi hl hh) (hk : Kept W W2 (At w.heap.size)) (hB : Below w0.heap.size w0 W2) : IsP w0 W2 g L a p ∧ Kept w W2 (At g) := by
  have h1 := h.lg
  exact ⟨h.isp.mv hk hB (by show ¬ (g = w.heap.size); omega), h.kept.then_ hk (fun k hs => .inr (by have : k = w.heap.size := hs; omega))⟩
theorem ScSt.facts (h : ScSt w0 w W g a L p lo hi hl hh) :
    (W.cell? ⟨w.heap.size + 1, 0, none⟩ = some (.int .i64 lo) ∧ W.cell? ⟨w.heap.size + 1, 1, none⟩ = some (.int .i64 hi) ∧ W.cell? ⟨w.heap.size + 1, 2, none⟩ = some (.bool hl) ∧ W.cell? ⟨w.heap.size + 1, 3, none⟩ = some (.bool hh)) ∧
    (W.frozen? ⟨w.heap.size + 1, 0, none⟩ = false ∧ W.frozen? ⟨w.heap.size + 1, 1, none⟩ = false ∧ W.frozen? ⟨w.heap.size + 1, 2, none⟩ = false ∧ W.frozen? ⟨w.heap.size + 1, 3, none⟩ = false) ∧
    (W.cell? ⟨w.heap.size, 0, none⟩ = some (.int .i64 0) ∧ W.cell? ⟨w.heap.size, 1, none⟩ = some (.int .i64 0) ∧ W.cell? ⟨w.heap.size, 2, none⟩ = some (.bool false) ∧ W.cell? ⟨w.heap.size, 3, none⟩ = some (.bool false)) ∧
    (W.frozen? ⟨w.heap.size, 0, none⟩ = false ∧ W.frozen? ⟨w.heap.size, 1, none⟩ = false ∧ W.frozen? ⟨w.heap.size, 2, none⟩ = false ∧ W.frozen? ⟨w.heap.size, 3, none⟩ = false) :=
  ⟨⟨(blk_cell h.box 0).trans rfl, (blk_cell h.box 1).trans rfl, (blk_cell h.box 2).trans rfl, (blk_cell h.box 3).trans rfl⟩, ⟨blk_frozen h.box 0, blk_frozen h.box 1, blk_frozen h.box 2, blk_frozen h.box 3⟩,
   ⟨(blk_cell h.zero 0).trans rfl, (blk_cell h.zero 1).trans rfl, (blk_cell h.zero 2).trans rfl, (blk_cell h.zero 3).trans rfl⟩, ⟨blk_frozen h.zero 0, blk_frozen h.zero 1, blk_frozen h.zero 2, blk_frozen h.zero 3⟩⟩
end
structure Rng where
  lo : Int
  hi : Int
  hl : Bool
  hh : Bool
  l : List Tok
  e : Int
def scopeF (L : List Tok) : Rng :=
  if (markF LBR L).2 ≠ 0 then ⟨0, 0, false, false, (markF LBR L).1, (markF LBR L).2⟩
  else if (endF CLN (markF LBR L).1).2.2.2 ≠ 0 then ⟨(endF CLN (markF LBR L).1).1, 0, (endF CLN (markF LBR L).1).2.1, false, (endF CLN (markF LBR L).1).2.2.1, (endF CLN (markF LBR L).1).2.2.2⟩
  else ⟨(endF CLN (markF LBR L).1).1, (endF RBR (endF CLN (markF LBR L).1).2.2.1).1, (endF CLN (markF LBR L).1).2.1, (endF RBR (endF CLN (markF LBR L).1).2.2.1).2.1, (endF RBR (endF CLN (markF LBR L).1).2.2.1).2.2.1, (endF RBR (endF CLN (markF LBR L).1).2.2.1).2.2.2⟩
theorem info_r : (Tryz.prog.info? TR).map (·.size) = some 4 := by kernel_rfl
abbrev rV (r : Rng) : Value := .agg (rCells r.lo r.hi r.hl r.hh)
set_option maxHeartbeats 16000000 in
theorem scope_calls (g : Nat) (L : List Tok) (a p : Int) (w0 w : World) (hI : IsP w0 w g L a p) :
    Calls Tryz.prog 106 #[.pointer (some ⟨g, 0, none⟩)] w fun e w' => e = .returned (.tuple #[rV (scopeF L), .int .i64 (scopeF L).e]) ∧ IsP w0 w' g (scopeF L).l a p ∧ Kept w w' (At g) := by
  have hgw := hI.lt
  have hw0 : w0.heap.size ≤ w.heap.size := by have := hI.ge; omega
  have hs : ∀ (W : World) o, (W.alloc o).heap.size = W.heap.size + 1 := fun W o => Array.size_push ..
  have CM := fun W h => Aside0.mk (mark_calls g LBR L a p w0 W h)
  have CE := fun s L W h => Aside0.mk (end_calls g s L a p w0 W h)
  obtain ⟨R, hR⟩ : ∃ R, scopeF L = R := ⟨_, rfl⟩
  rw [hR]
  have bz := blk_new (w.alloc (.cells (rCells 0 0 false false) TR (0, 0))) (.cells (rCells 0 0 false false) TR (0, 0))
  rw [hs] at bz
  have ST := Aside0.mk (show ScSt w0 w ((w.alloc (.cells (rCells 0 0 false false) TR (0, 0))).alloc (.cells (rCells 0 0 false false) TR (0, 0))) g a L p 0 0 false false from
    ⟨hI.keep (below_alloc (below_alloc (Below.refl _ _) _) _), ((Kept.refl _ _).alloc _).alloc _, blk_alloc (blk_new w _) _, bz, hgw⟩)
  unfold scopeF at hR
  clear bz hI hs
  rcases mark_cases LBR L with ⟨t, r, hL, hm, _⟩ | ⟨hm, _⟩
  · rw [hm] at CM hR
    rw [if_neg (show ¬ ((r, (0 : Int)).2 ≠ 0) by simp)] at hR
    dsimp only at CM hR
    have CE1 := CE CLN r
    have h1 := end_e CLN r
    obtain ⟨n1, b1, r1, e1, hx1⟩ : ∃ n1 b1 r1 e1, endF CLN r = (n1, b1, r1, e1) := ⟨_, _, _, _, rfl⟩
    rw [hx1] at CE1 hR h1
    dsimp only at CE1 hR h1
    clear hm hL hx1
    rcases h1 with rfl | rfl
    · rw [if_neg (by simp)] at hR
      have CE2 := CE RBR r1
      have h2 := end_e RBR r1
      obtain ⟨n2, b2, r2, e2, hx2⟩ : ∃ n2 b2 r2 e2, endF RBR r1 = (n2, b2, r2, e2) := ⟨_, _, _, _, rfl⟩
      rw [hx2] at CE2 hR h2
      dsimp only at CE2 hR h2
      clear hx2 CE h2
      subst hR
      go_enter Tryz.func106, Tryz.ntmps106
      go_wp2_with fail
      (with_reducible refine (CM _ ?i1).out.mono ?_)
      case i1 => exact ST.out.isp
      rintro e w1 ⟨rfl, hI1, hk1⟩
      have ST1 := Aside0.mk (ST.out.at hI1 hk1)
      clear hI1 hk1 CM ST
      go_wp2_with fail
      (with_reducible refine (CE1 _ ST1.out.isp).out.mono ?_)
      rintro e w2 ⟨rfl, hI2, hk2⟩
      have ST2 := Aside0.mk (ST1.out.at hI2 hk2)
      obtain ⟨⟨x0, x1, x2, x3⟩, ⟨y0, y1, y2, y3⟩, _, _⟩ := ST2.out.facts
      clear hI2 hk2 CE1 ST1
      go_wp2_with fail
      have ST3 := Aside0.mk (ST2.out.low n1 b1)
      (with_reducible refine (CE2 _ ST3.out.isp).out.mono ?_)
      rintro e w3 ⟨rfl, hI3, hk3⟩
      have ST4 := Aside0.mk (ST3.out.at hI3 hk3)
      clear hI3 hk3 CE2 ST2 ST3 x0 x1 x2 x3 y0 y1 y2 y3
      obtain ⟨⟨x0, x1, x2, x3⟩, ⟨y0, y1, y2, y3⟩, ⟨z0, z1, z2, z3⟩, ⟨v0, v1, v2, v3⟩⟩ := ST4.out.facts
      have HX := Aside0.mk (ST4.out.high n2 b2)
      go_wp2
      refine bodyPost_ret (results_ct rfl _ _ _ TR _ (0, 0) _ rfl (blk_put (blk_put (blk_put (blk_put HX.out.zero 0 _ rfl) 1 _ rfl) 2 _ rfl) 3 _ rfl) Tryz.underlying40 rfl info_r) rfl ?_
      have hc := fun W2 h1 h2 => HX.out.close (W2 := W2) h1 h2
      exact ⟨rfl, (hc _ (by (repeat (first | (with_reducible exact Kept.refl _ _) | (with_reducible apply Kept.alloc) | (with_reducible apply Kept.drewN) | (with_reducible apply Kept.drew) | (with_reducible refine kept_at ?_ _ _) | (with_reducible refine kept_new ?_ _ _ (Nat.le_refl _)) | (with_reducible refine kept_new ?_ _ _ (by first | assumption | omega))))) (by (repeat (first | (with_reducible exact HX.out.isp.low) | (with_reducible apply below_alloc) | (with_reducible apply pw_below_drewN) | (with_reducible apply below_drew1) | (with_reducible refine below_set ?_ (by first | assumption | omega)))))).1, (hc _ (by (repeat (first | (with_reducible exact Kept.refl _ _) | (with_reducible apply Kept.alloc) | (with_reducible apply Kept.drewN) | (with_reducible apply Kept.drew) | (with_reducible refine kept_at ?_ _ _) | (with_reducible refine kept_new ?_ _ _ (Nat.le_refl _)) | (with_reducible refine kept_new ?_ _ _ (by first | assumption | omega))))) (by (repeat (first | (with_reducible exact HX.out.isp.low) | (with_reducible apply below_alloc) | (with_reducible apply pw_below_drewN) | (with_reducible apply below_drew1) | (with_reducible refine below_set ?_ (by first | assumption | omega)))))).2⟩
    · rw [if_pos (by simp)] at hR
      clear CE
      subst hR
      go_enter Tryz.func106, Tryz.ntmps106
      go_wp2_with fail
      (with_reducible refine (CM _ ?i1).out.mono ?_)
      case i1 => exact ST.out.isp
      rintro e w1 ⟨rfl, hI1, hk1⟩
      have ST1 := Aside0.mk (ST.out.at hI1 hk1)
      clear hI1 hk1 CM ST
      go_wp2_with fail
      (with_reducible refine (CE1 _ ST1.out.isp).out.mono ?_)
      rintro e w2 ⟨rfl, hI2, hk2⟩
      have ST2 := Aside0.mk (ST1.out.at hI2 hk2)
      obtain ⟨⟨x0, x1, x2, x3⟩, ⟨y0, y1, y2, y3⟩, ⟨z0, z1, z2, z3⟩, ⟨v0, v1, v2, v3⟩⟩ := ST2.out.facts
      clear hI2 hk2 CE1 ST1
      have HX := Aside0.mk (ST2.out.low n1 b1)
      go_wp2
      refine bodyPost_ret (results_ct rfl _ _ _ TR _ (0, 0) _ rfl (blk_put (blk_put (blk_put (blk_put HX.out.zero 0 _ rfl) 1 _ rfl) 2 _ rfl) 3 _ rfl) Tryz.underlying40 rfl info_r) rfl ?_
      have hc := fun W2 h1 h2 => HX.out.close (W2 := W2) h1 h2
      exact ⟨rfl, (hc _ (by (repeat (first | (with_reducible exact Kept.refl _ _) | (with_reducible apply Kept.alloc) | (with_reducible apply Kept.drewN) | (with_reducible apply Kept.drew) | (with_reducible refine kept_at ?_ _ _) | (with_reducible refine kept_new ?_ _ _ (Nat.le_refl _)) | (with_reducible refine kept_new ?_ _ _ (by first | assumption | omega))))) (by (repeat (first | (with_reducible exact HX.out.isp.low) | (with_reducible apply below_alloc) | (with_reducible apply pw_below_drewN) | (with_reducible apply below_drew1) | (with_reducible refine below_set ?_ (by first | assumption | omega)))))).1, (hc _ (by (repeat (first | (with_reducible exact Kept.refl _ _) | (with_reducible apply Kept.alloc) | (with_reducible apply Kept.drewN) | (with_reducible apply Kept.drew) | (with_reducible refine kept_at ?_ _ _) | (with_reducible refine kept_new ?_ _ _ (Nat.le_refl _)) | (with_reducible refine kept_new ?_ _ _ (by first | assumption | omega))))) (by (repeat (first | (with_reducible exact HX.out.isp.low) | (with_reducible apply below_alloc) | (with_reducible apply pw_below_drewN) | (with_reducible apply below_drew1) | (with_reducible refine below_set ?_ (by first | assumption | omega)))))).2⟩
  · rw [hm] at CM hR
    rw [if_pos (show (L, (110 : Int)).2 ≠ 0 by simp)] at hR
    dsimp only at CM hR
    clear hm CE
    subst hR
    go_enter Tryz.func106, Tryz.ntmps106
    go_wp2_with fail
    (with_reducible refine (CM _ ?i1).out.mono ?_)
    case i1 => exact ST.out.isp
    rintro e w1 ⟨rfl, hI1, hk1⟩
    have HX := Aside0.mk (ST.out.at hI1 hk1)
    clear hI1 hk1 CM ST
    obtain ⟨⟨x0, x1, x2, x3⟩, ⟨y0, y1, y2, y3⟩, ⟨z0, z1, z2, z3⟩, ⟨v0, v1, v2, v3⟩⟩ := HX.out.facts
    go_wp2
    refine bodyPost_ret (results_ct rfl _ _ _ TR _ (0, 0) _ rfl (blk_put (blk_put (blk_put (blk_put HX.out.zero 0 _ rfl) 1 _ rfl) 2 _ rfl) 3 _ rfl) Tryz.underlying40 rfl info_r) rfl ?_
    have hc := fun W2 h1 h2 => HX.out.close (W2 := W2) h1 h2
    exact ⟨rfl, (hc _ (by (repeat (first | (with_reducible exact Kept.refl _ _) | (with_reducible apply Kept.alloc) | (with_reducible apply Kept.drewN) | (with_reducible apply Kept.drew) | (with_reducible refine kept_at ?_ _ _) | (with_reducible refine kept_new ?_ _ _ (Nat.le_refl _)) | (with_reducible refine kept_new ?_ _ _ (by first | assumption | omega))))) (by (repeat (first | (with_reducible exact HX.out.isp.low) | (with_reducible apply below_alloc) | (with_reducible apply pw_below_drewN) | (with_reducible apply below_drew1) | (with_reducible refine below_set ?_ (by first | assumption | omega)))))).1, (hc _ (by (repeat (first | (with_reducible exact Kept.refl _ _) | (with_reducible apply Kept.alloc) | (with_reducible apply Kept.drewN) | (with_reducible apply Kept.drew) | (with_reducible refine kept_at ?_ _ _) | (with_reducible refine kept_new ?_ _ _ (Nat.le_refl _)) | (with_reducible refine kept_new ?_ _ _ (by first | assumption | omega))))) (by (repeat (first | (with_reducible exact HX.out.isp.low) | (with_reducible apply below_alloc) | (with_reducible apply pw_below_drewN) | (with_reducible apply below_drew1) | (with_reducible refine below_set ?_ (by first | assumption | omega)))))).2⟩
end Go.Proofs.YtcinojbfjiohjaaGreatDoor.Pa
end

section
namespace Go.Proofs.YtcinojbfjiohjaaGreatDoor.Pa
open Go Go.RowKit Go.Proofs.YtcinojbfjiohjaaGreatDoor.PPrintTells Go.Proofs.YtcinojbfjiohjaaGreatDoor.Ex Go.Proofs.YtcinojbfjiohjaaGreatDoorW.PrintWords Go.Proofs.YtcinojbfjiohjaaGreatDoorW.PrintLast Go.Proofs.YtcinojbfjiohjaaGreatDoorW.PrintMore
set_option linter.unusedVariables false
set_option linter.unusedSimpArgs false
structure Cmd where
  word : ByteArray
  names : List ByteArray
  nums : List Int
  lo : Int
  hi : Int
  hl : Bool
  hh : Bool
  x : X
abbrev TC : TypeId := 42
abbrev TS : TypeId := 9
abbrev kT : Kd ByteArray := Kd.string
abbrev sN : Value := .slice none 0 0
abbrev cCells (c : Cmd) (vN vM v2 v3 : Value) : Array Value := #[.string c.word, vN, vM, .int .i64 c.lo, .int .i64 c.hi, .bool c.hl, .bool c.hh, .int .u8 c.x.f0, .string c.x.f1, v2, v3]
structure PaSt (w0 W : World) (g b B : Nat) (a : Int) (L : List Tok) (p : Int) (c : Cmd) (vN vM v2 v3 : Value) : Prop where
  isp : IsP w0 W g L a p
  box : W.heap[b]? = some (.cells (cCells c vN vM v2 v3) TC (0, 0))
  names : kT.R TS W B (fun _ => True) vN c.names
  nums : kI.R 2 W B (fun _ => True) vM c.nums
  expr : kX.M W B (fun _ => True) c.x [.int .u8 c.x.f0, .string c.x.f1, v2, v3]
  gb : g < b
  bB : b < B
abbrev Pt (g b B : Nat) : Nat → Prop := fun k => k = g ∨ k = b ∨ B ≤ k
section
variable {w0 w W W2 : World} {g b B : Nat} {a : Int} {L L2 : List Tok} {p p2 : Int} {c : Cmd} {vN vM v2 v3 : Value}
theorem M_at {x : X} {cs : List Value} (h : kX.M W B (fun _ => True) x cs) (hk : Kept W W2 (At g)) (hg : g < B) : kX.M W2 B (fun _ => True) x cs :=
  kX.M_mono (fun _ _ => trivial) (Kd.M_kept (kX.M_bound h) hk (fun k ho hs => by have := ho.2.1; have : k = g := hs; omega))
theorem PaSt.at (h : PaSt w0 W g b B a L p c vN vM v2 v3) (hI : IsP w0 W2 g L2 a p2) (hk : Kept W W2 (At g)) : PaSt w0 W2 g b B a L2 p2 c vN vM v2 v3 := by
  have h1 := h.gb
  have h2 := h.bB
  exact ⟨hI, blk_kept h.box hk (fun hs => by have : b = g := hs; omega), R_at h.names hk (by omega), R_at h.nums hk (by omega), M_at h.expr hk (by omega), h1, h2⟩
theorem PaSt.later (h : PaSt w0 W g b B a L p c vN vM v2 v3) (hb : Below W.heap.size W W2) : PaSt w0 W2 g b B a L p c vN vM v2 v3 := h.at (h.isp.keep hb) (Kept.of_below hb _)
theorem PaSt.lt (h : PaSt w0 W g b B a L p c vN vM v2 v3) : b < W.heap.size := blk_lt h.box
theorem PaSt.grown_isp (h : PaSt w0 W g b B a L p c vN vM v2 v3) (hB : B ≤ W.heap.size) {row : Option Nat} (hg : W.grownBy W2 row) (hr : ∀ k, row = some k → B ≤ k) : IsP w0 W2 g L a p := by
  have h1 := h.gb
  have h2 := h.bB
  have h4 := h.isp.ge
  exact h.isp.mv (S := fun k => B ≤ k) (Kept.of_grown hg (Kept.refl W _) (fun k hk => .inl (hr k hk))) (h.isp.low.grown hg (by omega) (fun k hk => by have := hr k hk; omega)) (by show ¬ (B ≤ g); omega)
theorem PaSt.grown_box (h : PaSt w0 W g b B a L p c vN vM v2 v3) {row : Option Nat} (hg : W.grownBy W2 row) (hr : ∀ k, row = some k → B ≤ k) : W2.heap[b]? = some (.cells (cCells c vN vM v2 v3) TC (0, 0)) :=
  (hg.block b h.lt (fun he => by have := hr b he.symm; have := h.bB; omega)).trans h.box
theorem PaSt.setNames (h : PaSt w0 W g b B a L p c vN vM sN sN) (hx : c.x = zX) (hB : B ≤ W.heap.size) {t : ByteArray} {u : Value} (hR : kT.R TS W2 B (fun _ => True) u (c.names ++ [t])) (hg : W.grownBy W2 vN.ownBlock) :
    PaSt w0 (W2.setCell ⟨b, 1, none⟩ u) g b B a L p { c with names := c.names ++ [t] } u vM sN sN := by
  have h1 := h.gb
  have h2 := h.bB
  have h4 := h.isp.ge
  have hr := Kd.R_base h.names
  have hI := h.grown_isp hB hg hr
  exact ⟨hI.mv (S := At b) (by (repeat (first | (with_reducible exact Kept.refl _ _) | (with_reducible apply Kept.alloc) | (with_reducible apply Kept.drewN) | (with_reducible apply Kept.drew) | (with_reducible refine kept_at ?_ _ _) | (with_reducible refine kept_new ?_ _ _ (Nat.le_refl _)) | (with_reducible refine kept_new ?_ _ _ (by first | assumption | omega))))) (below_set hI.low (by show _ ≤ b; omega)) (by show ¬ (g = b); omega), blk_put (h.grown_box hg hr) 1 u rfl,
    R_put hR h2 1 u, R_put (Kd.R_over h.nums h.names (fun q hq => by simp [Kd.E, kI, Kd.int, Kd.scalar] at hq; subst hq; decide) hg) h2 1 u, by
      show kX.M _ B _ c.x [.int .u8 c.x.f0, .string c.x.f1, sN, sN]
      rw [hx]
      exact k25_mkM _ _ _ zX (Kd.R_nil _ _ _ _ _) (Kd.R_nil _ _ _ _ _), h1, h2⟩
theorem PaSt.setNums (h : PaSt w0 W g b B a L p c vN vM sN sN) (hx : c.x = zX) (hB : B ≤ W.heap.size) {n : Int} {u : Value} (hR : kI.R 2 W2 B (fun _ => True) u (c.nums ++ [n])) (hg : W.grownBy W2 vM.ownBlock) :
    PaSt w0 (W2.setCell ⟨b, 2, none⟩ u) g b B a L p { c with nums := c.nums ++ [n] } vN u sN sN := by
  have h1 := h.gb
  have h2 := h.bB
  have h4 := h.isp.ge
  have hr := Kd.R_base h.nums
  have hI := h.grown_isp hB hg hr
  exact ⟨hI.mv (S := At b) (by (repeat (first | (with_reducible exact Kept.refl _ _) | (with_reducible apply Kept.alloc) | (with_reducible apply Kept.drewN) | (with_reducible apply Kept.drew) | (with_reducible refine kept_at ?_ _ _) | (with_reducible refine kept_new ?_ _ _ (Nat.le_refl _)) | (with_reducible refine kept_new ?_ _ _ (by first | assumption | omega))))) (below_set hI.low (by show _ ≤ b; omega)) (by show ¬ (g = b); omega), blk_put (h.grown_box hg hr) 2 u rfl,
    R_put (Kd.R_over h.names h.nums (fun q hq => by simp [Kd.E, kT, Kd.string, Kd.scalar] at hq; subst hq; decide) hg) h2 2 u, R_put hR h2 2 u, by
      show kX.M _ B _ c.x [.int .u8 c.x.f0, .string c.x.f1, sN, sN]
      rw [hx]
      exact k25_mkM _ _ _ zX (Kd.R_nil _ _ _ _ _) (Kd.R_nil _ _ _ _ _), h1, h2⟩
theorem PaSt.setRange (h : PaSt w0 W g b B a L p c vN vM sN sN) (hx : c.x = zX) (r : Rng) :
    PaSt w0 ((((W.setCell ⟨b, 3, none⟩ (.int .i64 r.lo)).setCell ⟨b, 4, none⟩ (.int .i64 r.hi)).setCell ⟨b, 5, none⟩ (.bool r.hl)).setCell ⟨b, 6, none⟩ (.bool r.hh)) g b B a L p { c with lo := r.lo, hi := r.hi, hl := r.hl, hh := r.hh } vN vM sN sN := by
  have h1 := h.gb
  have h2 := h.bB
  have h4 := h.isp.ge
  have hw0 : w0.heap.size ≤ b := by omega
  exact ⟨h.isp.mv (S := At b) (by (repeat (first | (with_reducible exact Kept.refl _ _) | (with_reducible apply Kept.alloc) | (with_reducible apply Kept.drewN) | (with_reducible apply Kept.drew) | (with_reducible refine kept_at ?_ _ _) | (with_reducible refine kept_new ?_ _ _ (Nat.le_refl _)) | (with_reducible refine kept_new ?_ _ _ (by first | assumption | omega))))) (by (repeat (first | (with_reducible exact h.isp.low) | (with_reducible apply below_alloc) | (with_reducible apply pw_below_drewN) | (with_reducible apply below_drew1) | (with_reducible refine below_set ?_ (by first | assumption | omega))))) (by show ¬ (g = b); omega), blk_put (blk_put (blk_put (blk_put h.box 3 _ rfl) 4 _ rfl) 5 _ rfl) 6 _ rfl,
    R_put (R_put (R_put (R_put h.names h2 3 _) h2 4 _) h2 5 _) h2 6 _, R_put (R_put (R_put (R_put h.nums h2 3 _) h2 4 _) h2 5 _) h2 6 _, by
      show kX.M _ B _ c.x [.int .u8 c.x.f0, .string c.x.f1, sN, sN]
      rw [hx]
      exact k25_mkM _ _ _ zX (Kd.R_nil _ _ _ _ _) (Kd.R_nil _ _ _ _ _), h1, h2⟩
theorem PaSt.setExpr (h : PaSt w0 W g b B a L p c vN vM v2 v3) {x : X} {u2 u3 : Value} (hx : kX.M W B (fun _ => True) x [.int .u8 x.f0, .string x.f1, u2, u3]) :
    PaSt w0 ((((W.setCell ⟨b, 7, none⟩ (.int .u8 x.f0)).setCell ⟨b, 8, none⟩ (.string x.f1)).setCell ⟨b, 9, none⟩ u2).setCell ⟨b, 10, none⟩ u3) g b B a L p { c with x := x } vN vM u2 u3 := by
  have h1 := h.gb
  have h2 := h.bB
  have h4 := h.isp.ge
  have hw0 : w0.heap.size ≤ b := by omega
  exact ⟨h.isp.mv (S := At b) (by (repeat (first | (with_reducible exact Kept.refl _ _) | (with_reducible apply Kept.alloc) | (with_reducible apply Kept.drewN) | (with_reducible apply Kept.drew) | (with_reducible refine kept_at ?_ _ _) | (with_reducible refine kept_new ?_ _ _ (Nat.le_refl _)) | (with_reducible refine kept_new ?_ _ _ (by first | assumption | omega))))) (by (repeat (first | (with_reducible exact h.isp.low) | (with_reducible apply below_alloc) | (with_reducible apply pw_below_drewN) | (with_reducible apply below_drew1) | (with_reducible refine below_set ?_ (by first | assumption | omega))))) (by show ¬ (g = b); omega), blk_put (blk_put (blk_put (blk_put h.box 7 _ rfl) 8 _ rfl) 9 _ rfl) 10 _ rfl,
    R_put (R_put (R_put (R_put h.names h2 7 _) h2 8 _) h2 9 _) h2 10 _, R_put (R_put (R_put (R_put h.nums h2 7 _) h2 8 _) h2 9 _) h2 10 _, M_at hx (by (repeat (first | (with_reducible exact Kept.refl _ _) | (with_reducible apply Kept.alloc) | (with_reducible apply Kept.drewN) | (with_reducible apply Kept.drew) | (with_reducible refine kept_at ?_ _ _) | (with_reducible refine kept_new ?_ _ _ (Nat.le_refl _)) | (with_reducible refine kept_new ?_ _ _ (by first | assumption | omega))))) h2, h1, h2⟩
end
def partF (l : Int) (c : Cmd) (L : List Tok) (p : Int) : Cmd × List Tok × Int × Int :=
  if l = 110 then ({ c with names := c.names ++ [(takeF [1] L).1.f1] }, (takeF [1] L).2.1, p, (takeF [1] L).2.2)
  else if l = 105 then ({ c with nums := c.nums ++ [(numF L).1.f2] }, (numF L).2.1, p, (numF L).2.2)
  else if l = 114 then ({ c with lo := (scopeF L).lo, hi := (scopeF L).hi, hl := (scopeF L).hl, hh := (scopeF L).hh }, (scopeF L).l, p, (scopeF L).e)
  else if l = 101 then ({ c with x := (exprF 40 p L).x }, (exprF 40 p L).l, (exprF 40 p L).p, (exprF 40 p L).e)
  else (c, (markF ⟨#[61]⟩ L).1, p, (markF ⟨#[61]⟩ L).2)
def PartQ (w0 w : World) (g b B : Nat) (a : Int) (R : Cmd × List Tok × Int × Int) (e : Ending) (w' : World) : Prop :=
  ∃ vN vM v2 v3, e = .returned (.int .i64 R.2.2.2) ∧ PaSt w0 w' g b B a R.2.1 R.2.2.1 R.1 vN vM v2 v3 ∧ (R.1.x = zX → v2 = sN ∧ v3 = sN) ∧ Kept w w' (Pt g b B)
theorem info_s3 : (Tryz.prog.info? TS).map (fun i => (i.zero, i.size, i.bytes)) = some (some (.string nil8), 1, 16) := by kernel_rfl
theorem enc_eq : Utf8.encode 61 = (⟨#[61]⟩ : ByteArray) := by decide +kernel
set_option maxHeartbeats 8000000 in
theorem part_mark (w0 w : World) (g b B : Nat) (a : Int) (L : List Tok) (p : Int) (c : Cmd) (vN vM : Value) (h : PaSt w0 w g b B a L p c vN vM sN sN) (hx : c.x = zX) :
    Calls Tryz.prog 58 #[.pointer (some ⟨g, 0, none⟩), .pointer (some ⟨b, 0, none⟩), .int .i32 61] w (PartQ w0 w g b B a (partF 61 c L p)) := by
  have hP : partF 61 c L p = (c, (markF ⟨#[61]⟩ L).1, p, (markF ⟨#[61]⟩ L).2) := rfl
  rw [hP]
  have CM := Aside0.mk (mark_calls g ⟨#[61]⟩ L a p w0 w h.isp)
  obtain ⟨L1, e1, hm⟩ : ∃ L1 e1, markF ⟨#[61]⟩ L = (L1, e1) := ⟨_, _, rfl⟩
  rw [hm] at CM ⊢
  dsimp only at CM ⊢
  have H := Aside0.mk h
  clear h hP hm
  unfold PartQ
  dsimp only
  go_enter Tryz.func58, Tryz.ntmps58
  go_wp2_with fail
  rw [enc_eq]
  (with_reducible refine CM.out.mono ?_)
  rintro e w1 ⟨rfl, hI1, hk1⟩
  have ST1 := Aside0.mk (H.out.at hI1 hk1)
  have K1 := Aside0.mk (hk1.mono (S' := Pt g b B) (fun k hk => .inl hk))
  clear hI1 hk1 CM
  go_wp2
  go_ret
  exact ⟨_, _, _, _, rfl, ST1.out, fun _ => ⟨rfl, rfl⟩, K1.out⟩
set_option maxHeartbeats 8000000 in
set_option maxRecDepth 100000 in
theorem part_num (w0 w : World) (g b B : Nat) (a : Int) (L : List Tok) (p : Int) (c : Cmd) (vN vM : Value) (h : PaSt w0 w g b B a L p c vN vM sN sN) (hx : c.x = zX) (hB : B ≤ w.heap.size) (hl : c.nums.length ≤ 100) :
    Calls Tryz.prog 58 #[.pointer (some ⟨g, 0, none⟩), .pointer (some ⟨b, 0, none⟩), .int .i32 105] w (PartQ w0 w g b B a (partF 105 c L p)) := by
  have hP : partF 105 c L p = ({ c with nums := c.nums ++ [(numF L).1.f2] }, (numF L).2.1, p, (numF L).2.2) := rfl
  rw [hP]
  have CN := Aside0.mk (number_calls g L a p w0 w h.isp)
  obtain ⟨t, L1, e1, hm⟩ : ∃ t L1 e1, numF L = (t, L1, e1) := ⟨_, _, _, rfl⟩
  rw [hm] at CN ⊢
  dsimp only at CN ⊢
  have H := Aside0.mk h
  have HX := Aside0.mk hx
  have HB := Aside0.mk hB
  have HN := Aside0.mk h.bB
  clear h hP hm hx hB
  unfold PartQ
  dsimp only
  go_enter Tryz.func58, Tryz.ntmps58
  go_wp2_with fail
  (with_reducible refine CN.out.mono ?_)
  rintro e w1 ⟨rfl, hI1, hk1⟩
  have ST1 := Aside0.mk (H.out.at hI1 hk1)
  have K1 := Aside0.mk (hk1.mono (S' := Pt g b B) (fun k hk => .inl hk))
  have hbz : B ≤ w1.heap.size := Nat.le_trans HB.out hk1.1
  have q2 : w1.cell? ⟨b, 2, none⟩ = some vM := (blk_cell ST1.out.box 2).trans rfl
  clear hI1 hk1 CN H
  go_wp2_with (first | ((with_reducible refine gate_builtin (b := .append) (xs := #[.tmp 48, .tmp 50]) rfl ?_); at_builtin; refine Kd.R_append kI (w0 := w1) B rfl (.tmp 48) (.tmp 50) 22 2 (.int .i64 0) 8 rfl Tryz.underlying22 info_i3 rfl (by decide) (by decide) vM c.nums t.f2 [.int .i64 t.f2] (fun _ => True) (fun _ => False) rfl rfl rfl (fun _ hk => hk.elim) (fun _ _ => trivial) ST1.out.nums (Below.refl _ _) hbz (by omega) ?_; intro v8 w8 ho hb hg hat; obtain ⟨A8, c8, h8⟩ := Kd.R_slice ho; rw [List.length_append, List.length_singleton] at h8; subst h8; have HO := Aside0.mk ho; have HG := Aside0.mk hg; have f8 := blk_frozen (ST1.out.grown_box hg (Kd.R_base ST1.out.nums)) 2; have q8 : w8.cell? ⟨b, 2, none⟩ = some vM := (blk_cell (ST1.out.grown_box hg (Kd.R_base ST1.out.nums)) 2).trans rfl; clear ho hb hg hat))
  have ST8 := Aside0.mk (ST1.out.setNums HX.out hbz HO.out HG.out)
  have K8 := Aside0.mk (Kept.of_grown HG.out K1.out (fun k hk => .inl (.inr (.inr (Kd.R_base ST1.out.nums k hk)))))
  go_ret
  exact ⟨_, _, _, _, rfl, ST8.out, fun _ => ⟨rfl, rfl⟩, K8.out.setCell (p := ⟨b, 2, none⟩) (.inl (.inr (.inl rfl))) _⟩
set_option maxHeartbeats 8000000 in
set_option maxRecDepth 100000 in
theorem part_range (w0 w : World) (g b B : Nat) (a : Int) (L : List Tok) (p : Int) (c : Cmd) (vN vM : Value) (h : PaSt w0 w g b B a L p c vN vM sN sN) (hx : c.x = zX) :
    Calls Tryz.prog 58 #[.pointer (some ⟨g, 0, none⟩), .pointer (some ⟨b, 0, none⟩), .int .i32 114] w (PartQ w0 w g b B a (partF 114 c L p)) := by
  have hP : partF 114 c L p = ({ c with lo := (scopeF L).lo, hi := (scopeF L).hi, hl := (scopeF L).hl, hh := (scopeF L).hh }, (scopeF L).l, p, (scopeF L).e) := rfl
  rw [hP]
  have CN := Aside0.mk (scope_calls g L a p w0 w h.isp)
  generalize scopeF L = r at *
  have H := Aside0.mk h
  have HX := Aside0.mk hx
  clear h hP hx
  unfold PartQ
  dsimp only
  go_enter Tryz.func58, Tryz.ntmps58
  go_wp2_with fail
  (with_reducible refine CN.out.mono ?_)
  rintro e w1 ⟨rfl, hI1, hk1⟩
  have ST1 := Aside0.mk (H.out.at hI1 hk1)
  have K1 := Aside0.mk (hk1.mono (S' := Pt g b B) (fun k hk => .inl hk))
  have q3 : w1.cell? ⟨b, 3, none⟩ = some (.int .i64 c.lo) := (blk_cell ST1.out.box 3).trans rfl
  have q4 : w1.cell? ⟨b, 4, none⟩ = some (.int .i64 c.hi) := (blk_cell ST1.out.box 4).trans rfl
  have q5 : w1.cell? ⟨b, 5, none⟩ = some (.bool c.hl) := (blk_cell ST1.out.box 5).trans rfl
  have q6 : w1.cell? ⟨b, 6, none⟩ = some (.bool c.hh) := (blk_cell ST1.out.box 6).trans rfl
  have f3 := blk_frozen ST1.out.box 3
  have f4 := blk_frozen ST1.out.box 4
  have f5 := blk_frozen ST1.out.box 5
  have f6 := blk_frozen ST1.out.box 6
  clear hI1 hk1 CN H
  go_wp2
  have ST8 := Aside0.mk (ST1.out.setRange HX.out r)
  go_ret
  exact ⟨_, _, _, _, rfl, ST8.out, fun _ => ⟨rfl, rfl⟩, (((K1.out.setCell (p := ⟨b, 3, none⟩) (.inl (.inr (.inl rfl))) _).setCell (p := ⟨b, 4, none⟩) (.inl (.inr (.inl rfl))) _).setCell (p := ⟨b, 5, none⟩) (.inl (.inr (.inl rfl))) _).setCell (p := ⟨b, 6, none⟩) (.inl (.inr (.inl rfl))) _⟩
set_option maxHeartbeats 8000000 in
set_option maxRecDepth 100000 in
theorem part_expr (w0 w : World) (hC : Cal w0) (g b B : Nat) (a : Int) (L : List Tok) (p : Int) (p0 : 0 ≤ p) (p1 : p ≤ 2000) (c : Cmd) (vN vM v2 v3 : Value) (h : PaSt w0 w g b B a L p c vN vM v2 v3) (hB : B ≤ w.heap.size) :
    Calls Tryz.prog 58 #[.pointer (some ⟨g, 0, none⟩), .pointer (some ⟨b, 0, none⟩), .int .i32 101] w fun e w' => ∃ vN' vM' v2' v3', e = .returned (.int .i64 (partF 101 c L p).2.2.2) ∧ PaSt w0 w' g b B a (partF 101 c L p).2.1 (partF 101 c L p).2.2.1 (partF 101 c L p).1 vN' vM' v2' v3' ∧ Kept w w' (Pt g b B) := by
  have hP : partF 101 c L p = ({ c with x := (exprF 40 p L).x }, (exprF 40 p L).l, (exprF 40 p L).p, (exprF 40 p L).e) := rfl
  rw [hP]
  have CN := Aside0.mk (expr_calls w0 g a hC 40 (by omega) p L w h.isp p0 p1)
  rw [show (41 : Int) - ((40 : Nat) : Int) = 1 by decide] at CN
  generalize exprF 40 p L = r at *
  have H := Aside0.mk h
  have HB := Aside0.mk hB
  obtain ⟨A2, c2, A3, c3, z2, z3⟩ : ∃ A2 c2 A3 c3, v2 = .slice A2 c.x.f2.length c2 ∧ v3 = .slice A3 c.x.f3.length c3 := by
    obtain ⟨u2, u3, he, h2, h3⟩ := k25_openM h.expr
    simp only [List.cons.injEq, true_and, and_true] at he
    obtain ⟨rfl, rfl⟩ := he
    obtain ⟨A2, c2, e2⟩ := Kd.R_slice h2
    obtain ⟨A3, c3, e3⟩ := Kd.R_slice h3
    exact ⟨A2, c2, A3, c3, e2, e3⟩
  subst z2
  subst z3
  clear h hP hB
  go_enter Tryz.func58, Tryz.ntmps58
  go_wp2_with fail
  (with_reducible refine CN.out.mono ?_)
  rintro e w1 ⟨v5, v6, rfl, hI1, hk1, hg1⟩
  obtain ⟨A5, c5, A6, c6, rfl, rfl⟩ := hg1.slices
  have ST1 := Aside0.mk (H.out.at hI1 hk1)
  have HG := Aside0.mk (show kX.M w1 B (fun _ => True) r.x [.int .u8 r.x.f0, .string r.x.f1, .slice A5 r.x.f2.length c5, .slice A6 r.x.f3.length c6] from kX.M_lower HB.out hg1)
  have K1 := Aside0.mk (hk1.mono (S' := Pt g b B) (fun k hk => .inl hk))
  have q3 : w1.cell? ⟨b, 7, none⟩ = some (.int .u8 c.x.f0) := (blk_cell ST1.out.box 7).trans rfl
  have q4 : w1.cell? ⟨b, 8, none⟩ = some (.string c.x.f1) := (blk_cell ST1.out.box 8).trans rfl
  have q5 : w1.cell? ⟨b, 9, none⟩ = some (.slice A2 c.x.f2.length c2) := (blk_cell ST1.out.box 9).trans rfl
  have q6 : w1.cell? ⟨b, 10, none⟩ = some (.slice A3 c.x.f3.length c3) := (blk_cell ST1.out.box 10).trans rfl
  have f3 := blk_frozen ST1.out.box 7
  have f4 := blk_frozen ST1.out.box 8
  have f5 := blk_frozen ST1.out.box 9
  have f6 := blk_frozen ST1.out.box 10
  clear hI1 hk1 CN H hg1
  go_wp2
  have ST8 := Aside0.mk (ST1.out.setExpr HG.out)
  go_ret
  exact ⟨_, _, _, _, rfl, ST8.out, (((K1.out.setCell (p := ⟨b, 7, none⟩) (.inl (.inr (.inl rfl))) _).setCell (p := ⟨b, 8, none⟩) (.inl (.inr (.inl rfl))) _).setCell (p := ⟨b, 9, none⟩) (.inl (.inr (.inl rfl))) _).setCell (p := ⟨b, 10, none⟩) (.inl (.inr (.inl rfl))) _⟩
theorem cell_alloc {w : World} (o : Obj) {a : Addr} {v : Value} (h : w.cell? a = some v) : (w.alloc o).cell? a = some v := ((below_alloc (Below.refl w.heap.size w) o).cell (World.block_lt_of_cell? w a h)).trans h
set_option maxHeartbeats 8000000 in
set_option maxRecDepth 100000 in
theorem part_name (w0 w : World) (g b B : Nat) (a : Int) (L : List Tok) (p : Int) (c : Cmd) (vN vM : Value) (h : PaSt w0 w g b B a L p c vN vM sN sN) (hx : c.x = zX) (hB : B ≤ w.heap.size) (hl : c.names.length ≤ 100) :
    Calls Tryz.prog 58 #[.pointer (some ⟨g, 0, none⟩), .pointer (some ⟨b, 0, none⟩), .int .i32 110] w (PartQ w0 w g b B a (partF 110 c L p)) := by
  have hP : partF 110 c L p = ({ c with names := c.names ++ [(takeF [1] L).1.f1] }, (takeF [1] L).2.1, p, (takeF [1] L).2.2) := rfl
  rw [hP]
  have CT := fun A W h hC => Aside0.mk (take_calls g [1] asks1 A 1 1 L a p w0 W h rfl hC (Nat.le_refl _))
  obtain ⟨t, L1, e1, hm⟩ : ∃ t L1 e1, takeF [1] L = (t, L1, e1) := ⟨_, _, _, rfl⟩
  rw [hm] at CT ⊢
  dsimp only at CT ⊢
  have H := Aside0.mk h
  have HX := Aside0.mk hx
  have HB := Aside0.mk hB
  have hs : ∀ (W : World) o, (W.alloc o).heap.size = W.heap.size + 1 := fun W o => Array.size_push ..
  have HS := Aside0.mk hs
  clear h hP hm hx hB hs
  unfold PartQ
  dsimp only
  go_enter Tryz.func58, Tryz.ntmps58
  go_wp2_with fail
  (with_reducible refine (CT (some ⟨w.heap.size, 0, none⟩) _ ?i ?j).out.mono ?_)
  case i => exact H.out.isp.keep (below_alloc (Below.refl _ _) _)
  case j => exact kinds_C w [1] (by decide)
  rintro e w1 ⟨rfl, hI1, hk1⟩
  have ST1 := Aside0.mk ((H.out.later (below_alloc (Below.refl _ _) _)).at hI1 hk1)
  have K1 := Aside0.mk (((Kept.refl w (Pt g b B)).alloc (.cells #[.int .u8 1] 5)).then_ hk1 (fun k hk => .inl (.inl hk)))
  have hz1 : w.heap.size + 1 ≤ w1.heap.size := by have h1 := hk1.1; rw [HS.out] at h1; exact h1
  clear hI1 hk1 CT H
  go_wp2_with fail
  obtain ⟨w2, hw2⟩ : ∃ w2, w2 = w1.alloc (.cells #[.int .u8 t.f0, .string t.f1, .int .i64 t.f2] 51) := ⟨_, rfl⟩
  have ST2 := Aside0.mk (show PaSt w0 w2 g b B a L1 p c vN vM sN sN by rw [hw2]; exact ST1.out.later (below_alloc (Below.refl _ _) _))
  have K2 := Aside0.mk (show Kept w w2 (Pt g b B) by rw [hw2]; exact K1.out.alloc _)
  have hb6 : w2.heap[w1.heap.size]? = some (.cells #[.int .u8 t.f0, .string t.f1, .int .i64 t.f2] 51 (0, 0)) := by rw [hw2]; exact blk_new _ _
  have q6 : w2.cell? ⟨w1.heap.size, 1, none⟩ = some (.string t.f1) := (blk_cell hb6 1).trans rfl
  have q1 : w2.cell? ⟨b, 1, none⟩ = some vN := (blk_cell ST2.out.box 1).trans rfl
  have hbz : B ≤ w2.heap.size := Nat.le_trans HB.out K2.out.1
  have HLT := Aside0.mk (blk_lt hb6)
  have NE := Aside0.mk (Kd.R_ne ST2.out.names hb6 (by decide))
  rw [← hw2]
  clear hw2 hb6
  refine start_ (n := 14) (S := fun w' => w'.cell? ⟨b, 1, none⟩ = some vN ∧ w'.cell? ⟨w1.heap.size, 1, none⟩ = some (.string t.f1)) (ds := [12]) #[false, false, false, false, false, false, false, false, false, false, false, false, false, false] (by kernel_rfl) rfl rfl ⟨q1, q6⟩ (fun hHeld => ?_)
  refine pure_ (i := 0) (N := some 25) (v := ?_) (a' := ?_) #[true, false, false, false, false, false, false, false, false, false, false, false, false, false] rfl rfl (by kernel_rfl) (fun _ _ _ h => h) (Or.inl ⟨by rfl, ?_⟩) ?_ ?_
  rotate_left
  · intro w'
    go_simp
    with_reducible rfl
  rotate_left
  · simp only [Act.put, List.setIfInBounds_toArray, List.set_cons_zero, List.set_cons_succ, i64_w, i32_w]
    rfl
  refine pure_ (i := 1) (N := some 26) (v := ?_) (a' := ?_) #[true, true, false, false, false, false, false, false, false, false, false, false, false, false] rfl rfl (by kernel_rfl) (fun _ _ _ h => h) (Or.inl ⟨by rfl, ?_⟩) ?_ ?_
  rotate_left
  · intro w'
    go_simp
    with_reducible rfl
  rotate_left
  · simp only [Act.put, List.setIfInBounds_toArray, List.set_cons_zero, List.set_cons_succ, i64_w, i32_w]
    rfl
  refine pure_ (i := 2) (N := some 27) (v := ?_) (a' := ?_) #[true, true, true, false, false, false, false, false, false, false, false, false, false, false] rfl rfl (by kernel_rfl) (fun _ _ _ h => h) (Or.inl ⟨by rfl, ?_⟩) ?_ ?_
  rotate_left
  · intro w'
    go_simp
    with_reducible rfl
  rotate_left
  · simp only [Act.put, List.setIfInBounds_toArray, List.set_cons_zero, List.set_cons_succ, i64_w, i32_w]
    rfl
  refine pure_ (i := 3) (N := some 28) (v := ?_) (a' := ?_) #[true, true, true, true, false, false, false, false, false, false, false, false, false, false] rfl rfl (by kernel_rfl) (fun _ _ _ h => h) (Or.inl ⟨by rfl, ?_⟩) ?_ ?_
  rotate_left
  · intro w'
    go_simp
    with_reducible rfl
  rotate_left
  · simp only [Act.put, List.setIfInBounds_toArray, List.set_cons_zero, List.set_cons_succ, i64_w, i32_w]
    rfl
  refine pure_ (i := 5) (N := some 30) (v := ?_) (a' := ?_) #[true, true, true, true, false, true, false, false, false, false, false, false, false, false] rfl rfl (by kernel_rfl) (fun _ _ _ h => h) (Or.inl ⟨by rfl, ?_⟩) ?_ ?_
  rotate_left
  · intro w'
    go_simp
    with_reducible rfl
  rotate_left
  · simp only [Act.put, List.setIfInBounds_toArray, List.set_cons_zero, List.set_cons_succ, i64_w, i32_w]
    rfl
  refine pure_ (i := 9) (N := some 34) (v := ?_) (a' := ?_) #[true, true, true, true, false, true, false, false, false, true, false, false, false, false] rfl rfl (by kernel_rfl) (fun _ _ _ h => h) (Or.inl ⟨by rfl, ?_⟩) ?_ ?_
  rotate_left
  · intro w'
    go_simp
    with_reducible rfl
  rotate_left
  · simp only [Act.put, List.setIfInBounds_toArray, List.set_cons_zero, List.set_cons_succ, i64_w, i32_w]
    rfl
  refine take_ (i := 4) (N := some 29) (v := ?_) (a' := ?_) #[true, true, true, true, true, true, false, false, false, true, false, false, false, false] rfl rfl (by kernel_rfl) (fun _ _ _ h => h) (Or.inl ⟨by rfl, ?_⟩) hHeld ?_ ?_
  rotate_left
  · rintro w' ⟨s0, s1⟩
    go_simp
    with_reducible rfl
  rotate_left
  · simp only [Act.put, List.setIfInBounds_toArray, List.set_cons_zero, List.set_cons_succ, i64_w, i32_w]
    rfl
  refine take_ (i := 6) (N := some 31) (v := ?_) (a' := ?_) #[true, true, true, true, true, true, true, false, false, true, false, false, false, false] rfl rfl (by kernel_rfl) (fun _ _ _ h => h) (Or.inl ⟨by rfl, ?_⟩) hHeld ?_ ?_
  rotate_left
  · rintro w' ⟨s0, s1⟩
    go_simp
    with_reducible rfl
  rotate_left
  · simp only [Act.put, List.setIfInBounds_toArray, List.set_cons_zero, List.set_cons_succ, i64_w, i32_w]
    rfl
  refine one_ (i := 7) (N := some 32) #[true, true, true, true, true, true, true, true, false, true, false, false, false, false] rfl rfl (by kernel_rfl) (by decide) (fun K hK => ?_)
  refine value_ (w1 := ?_) (v := ?_) (by rfl) rfl ?_ ?_
  rotate_left 2
  · go_simp
    constructor
    · rfl
    · rfl
  refine hK.out _ _ ⟨(cell_alloc _ q1), (cell_alloc _ q6)⟩ (fun hHeld => ?_)
  clear hK K
  refine norm_ (a' := ?_) ?_ ?_
  rotate_left
  · show Act.put _ (some 32) _ = _
    simp only [Act.put, List.setIfInBounds_toArray, List.set_cons_zero, List.set_cons_succ, i64_w, i32_w]
    rfl
  refine one_ (i := 8) (N := some 33) #[true, true, true, true, true, true, true, true, true, true, false, false, false, false] rfl rfl (by kernel_rfl) (by decide) (fun K hK => ?_)
  refine Kd.R_append_step kT (w0 := w2.drew) B (by rfl) (.tmp 29) (.tmp 32) 38 TS (.string nil8) 16 rfl Tryz.underlying38 info_s3 rfl (by decide) (by decide) vN c.names t.f1 [.string t.f1] (fun _ => True) (fun _ => False) rfl rfl rfl (fun _ hk => hk.elim) (fun _ _ => trivial) (Kd.R_drew ST2.out.names) (Below.refl _ _) hbz (by omega) ?_
  intro v8 w8 ho hb hg hat
  obtain ⟨A8, c8, h8⟩ := Kd.R_slice ho
  rw [List.length_append, List.length_singleton] at h8
  subst h8
  have HO := Aside0.mk ho
  have HG := Aside0.mk (show w2.grownBy w8 vN.ownBlock from ⟨hg.1, hg.2, hg.3, hg.4, hg.5⟩)
  have hbx := ST2.out.grown_box HG.out (Kd.R_base ST2.out.names)
  have f8 := blk_frozen hbx 1
  have q8 : w8.cell? ⟨b, 1, none⟩ = some vN := (blk_cell hbx 1).trans rfl
  have hne : some w1.heap.size ≠ vN.ownBlock := NE.out
  have q9 := cell_of_heap (w := w2) (w1 := w8) (a := ⟨w1.heap.size, 1, none⟩) (HG.out.block w1.heap.size HLT.out hne) q6
  refine hK.out _ _ ⟨q8, q9⟩ (fun hHeld => ?_)
  clear hK K
  refine norm_ (a' := ?_) ?_ ?_
  rotate_left
  · show Act.put _ (some 33) _ = _
    simp only [Act.put, List.setIfInBounds_toArray, List.set_cons_zero, List.set_cons_succ, i64_w, i32_w]
    rfl
  refine pure_ (i := 10) (N := some 35) (v := ?_) (a' := ?_) #[true, true, true, true, true, true, true, true, true, true, true, false, false, false] rfl rfl (by kernel_rfl) (fun _ _ _ h => h) (Or.inl ⟨by rfl, ?_⟩) ?_ ?_
  rotate_left
  · intro w'
    go_simp
    with_reducible rfl
  rotate_left
  · simp only [Act.put, List.setIfInBounds_toArray, List.set_cons_zero, List.set_cons_succ, i64_w, i32_w]
    rfl
  refine pure_ (i := 11) (N := some 36) (v := ?_) (a' := ?_) #[true, true, true, true, true, true, true, true, true, true, true, true, false, false] rfl rfl (by kernel_rfl) (fun _ _ _ h => h) (Or.inl ⟨by rfl, ?_⟩) ?_ ?_
  rotate_left
  · intro w'
    go_simp
    with_reducible rfl
  rotate_left
  · simp only [Act.put, List.setIfInBounds_toArray, List.set_cons_zero, List.set_cons_succ, i64_w, i32_w]
    rfl
  refine last_ (i := 12) (N := none) #[true, true, true, true, true, true, true, true, true, true, true, true, true, false] rfl rfl (by kernel_rfl) (by decide) (fun K hK => ?_)
  refine skip_ (w1 := ?_) (by rfl) rfl ?_ ?_
  rotate_left
  · go_simp
    rfl
  refine hK.out _ _ ?_
  clear hK K
  refine pure_ (i := 13) (N := some 7) (v := ?_) (a' := ?_) #[true, true, true, true, true, true, true, true, true, true, true, true, true, true] rfl rfl (by kernel_rfl) (fun _ _ _ h => h) (Or.inl ⟨by rfl, ?_⟩) ?_ ?_
  rotate_left
  · intro w'
    go_simp
    with_reducible rfl
  rotate_left
  · simp only [Act.put, List.setIfInBounds_toArray, List.set_cons_zero, List.set_cons_succ, i64_w, i32_w]
    rfl
  refine done_ (by kernel_rfl) ?_

  have ST8 := Aside0.mk (ST2.out.setNames HX.out hbz HO.out HG.out)
  have K8 := Aside0.mk (Kept.of_grown HG.out K2.out (fun k hk => .inl (.inr (.inr (Kd.R_base ST2.out.names k hk)))))
  go_wp2
  go_ret
  exact ⟨_, _, _, _, rfl, ST8.out, fun _ => ⟨rfl, rfl⟩, K8.out.setCell (p := ⟨b, 1, none⟩) (.inl (.inr (.inl rfl))) _⟩
end Go.Proofs.YtcinojbfjiohjaaGreatDoor.Pa
end

section
namespace Go.Proofs.YtcinojbfjiohjaaGreatDoor.Pa
open Go Go.RowKit Go.Proofs.YtcinojbfjiohjaaGreatDoor.PPrintTells Go.Proofs.YtcinojbfjiohjaaGreatDoor.Ex Go.Proofs.YtcinojbfjiohjaaGreatDoorW.PrintWords Go.Proofs.YtcinojbfjiohjaaGreatDoorW.PrintLast Go.Proofs.YtcinojbfjiohjaaGreatDoorW.PrintMore
set_option linter.unusedVariables false
set_option linter.unusedSimpArgs false
def foldF : List Int → Cmd → List Tok → Int → Cmd × List Tok × Int
  | [], c, L, _ => (c, L, 0)
  | l :: ls, c, L, p => if (partF l c L p).2.2.2 ≠ 0 then ((partF l c L p).1, (partF l c L p).2.1, (partF l c L p).2.2.2) else foldF ls (partF l c L p).1 (partF l c L p).2.1 (partF l c L p).2.2.1
abbrev zC : Cmd := ⟨nil8, [], [], 0, 0, false, false, zX⟩
abbrev wC (s : ByteArray) : Cmd := ⟨s, [], [], 0, 0, false, false, zX⟩
def endC (a : Int) (R : Cmd × List Tok × Int) : Cmd × Int × Int := if (placeF a R.2.1 R.2.2).2 ≠ 0 then (zC, (placeF a R.2.1 R.2.2).1, (placeF a R.2.1 R.2.2).2) else (R.1, (placeF a R.2.1 R.2.2).1, 0)
def parseC : List Tok → Cmd × Int × Int
  | [] => (zC, 0, 110)
  | t :: r => if t.f0 ≠ 1 then (zC, 0, 110) else if (shapeF t.f1).2 = false then (zC, 0, 110) else endC ((r.length : Int) + 1) (foldF (lets (shapeF t.f1).1) (wC t.f1) r 0)
section
variable {w0 w W W2 : World} {g b B : Nat} {a : Int} {L L2 : List Tok} {p p2 : Int} {c : Cmd} {vN vM v2 v3 : Value}
theorem PaSt.away (h : PaSt w0 W g b B a L p c vN vM v2 v3) {j : Nat} (hj : b < j) (hB : j < B) (hk : Kept W W2 (At j)) (hb : Below w0.heap.size w0 W2) : PaSt w0 W2 g b B a L p c vN vM v2 v3 := by
  have h1 := h.gb
  have h2 := h.bB
  exact ⟨h.isp.mv hk hb (by show ¬ (g = j); omega), blk_kept h.box hk (fun hs => by have : b = j := hs; omega), R_at h.names hk hB, R_at h.nums hk hB, M_at h.expr hk hB, h1, h2⟩
abbrev cmdV (c : Cmd) (vN vM v2 v3 : Value) : Value := .agg (cCells c vN vM v2 v3)
def GivesC (w w' : World) (c : Cmd) (vN vM v2 v3 : Value) : Prop := kT.R TS w' w.heap.size (fun _ => True) vN c.names ∧ kI.R 2 w' w.heap.size (fun _ => True) vM c.nums ∧ kX.M w' w.heap.size (fun _ => True) c.x [.int .u8 c.x.f0, .string c.x.f1, v2, v3]
theorem givesC_zero (w w' : World) : GivesC w w' zC sN sN sN sN := ⟨Kd.R_nil _ _ _ _ _, Kd.R_nil _ _ _ _ _, k25_mkM _ _ _ zX (Kd.R_nil _ _ _ _ _) (Kd.R_nil _ _ _ _ _)⟩
theorem PaSt.givesC (h : PaSt w0 W g b B a L p c vN vM v2 v3) {j : Nat} (hj : j < B) (hk : Kept W W2 (At j)) (hw : w.heap.size ≤ B) : GivesC w W2 c vN vM v2 v3 :=
  ⟨Kd.R_lower (R_at h.names hk hj) hw, Kd.R_lower (R_at h.nums hk hj) hw, kX.M_lower hw (M_at h.expr hk hj)⟩
theorem PaSt.slices (h : PaSt w0 W g b B a L p c vN vM v2 v3) : ∃ A0 n0 c0 A1 n1 c1 A2 n2 c2 A3 n3 c3, vN = .slice A0 n0 c0 ∧ vM = .slice A1 n1 c1 ∧ v2 = .slice A2 n2 c2 ∧ v3 = .slice A3 n3 c3 := by
  obtain ⟨A0, c0, e0⟩ := Kd.R_slice h.names
  obtain ⟨A1, c1, e1⟩ := Kd.R_slice h.nums
  obtain ⟨u2, u3, he, h2, h3⟩ := k25_openM h.expr
  simp only [List.cons.injEq, true_and, and_true] at he
  obtain ⟨rfl, rfl⟩ := he
  obtain ⟨A2, c2, e2⟩ := Kd.R_slice h2
  obtain ⟨A3, c3, e3⟩ := Kd.R_slice h3
  exact ⟨A0, _, c0, A1, _, c1, A2, _, c2, A3, _, c3, e0, e1, e2, e3⟩
end
theorem part_calls (w0 w : World) (hC : Cal w0) (g b B : Nat) (a : Int) (L : List Tok) (p : Int) (p0 : 0 ≤ p) (p1 : p ≤ 2000) (c : Cmd) (vN vM v2 v3 : Value) (h : PaSt w0 w g b B a L p c vN vM v2 v3) (hB : B ≤ w.heap.size) (hn : c.names.length ≤ 100) (hm : c.nums.length ≤ 100)
    (l : Int) (hl : l = 101 ∨ (l = 110 ∨ l = 105 ∨ l = 114 ∨ l = 61) ∧ c.x = zX ∧ v2 = sN ∧ v3 = sN) :
    Calls Tryz.prog 58 #[.pointer (some ⟨g, 0, none⟩), .pointer (some ⟨b, 0, none⟩), .int .i32 l] w fun e w' => ∃ vN' vM' v2' v3', e = .returned (.int .i64 (partF l c L p).2.2.2) ∧ PaSt w0 w' g b B a (partF l c L p).2.1 (partF l c L p).2.2.1 (partF l c L p).1 vN' vM' v2' v3' ∧ Kept w w' (Pt g b B) ∧ (l = 101 ∨ (partF l c L p).1.x = zX ∧ v2' = sN ∧ v3' = sN) := by
  rcases hl with rfl | ⟨hl, hx, rfl, rfl⟩
  · refine (part_expr w0 w hC g b B a L p p0 p1 c vN vM v2 v3 h hB).mono ?_
    rintro e w' ⟨q1, q2, q3, q4, h1, h2, h3⟩
    exact ⟨q1, q2, q3, q4, h1, h2, h3, .inl rfl⟩
  · have fin : ∀ l, (partF l c L p).1.x = zX → ∀ e w', PartQ w0 w g b B a (partF l c L p) e w' → ∃ vN' vM' v2' v3', e = .returned (.int .i64 (partF l c L p).2.2.2) ∧ PaSt w0 w' g b B a (partF l c L p).2.1 (partF l c L p).2.2.1 (partF l c L p).1 vN' vM' v2' v3' ∧ Kept w w' (Pt g b B) ∧ (l = 101 ∨ (partF l c L p).1.x = zX ∧ v2' = sN ∧ v3' = sN) := by
      rintro l hz e w' ⟨q1, q2, q3, q4, h1, h2, h3, h4⟩
      exact ⟨q1, q2, q3, q4, h1, h2, h4, .inr ⟨hz, h3 hz⟩⟩
    rcases hl with rfl | rfl | rfl | rfl
    · exact (part_name w0 w g b B a L p c vN vM h hx hB hn).mono (fin 110 hx)
    · exact (part_num w0 w g b B a L p c vN vM h hx hB hm).mono (fin 105 hx)
    · exact (part_range w0 w g b B a L p c vN vM h hx).mono (fin 114 hx)
    · exact (part_mark w0 w g b B a L p c vN vM h hx).mono (fin 61 hx)
theorem part_facts (l : Int) (c : Cmd) (L : List Tok) (p : Int) (p0 : 0 ≤ p) (p1 : p ≤ 2000) : (partF l c L p).1.names.length ≤ c.names.length + 1 ∧ (partF l c L p).1.nums.length ≤ c.nums.length + 1 ∧ ((partF l c L p).2.2.2 = 0 → 0 ≤ (partF l c L p).2.2.1 ∧ (partF l c L p).2.2.1 ≤ 2000) := by
  have hG := expr_good 40 p L p0 p1
  unfold partF
  split
  · exact ⟨by simp, by simp, fun _ => ⟨p0, p1⟩⟩
  · split
    · exact ⟨by simp, by simp, fun _ => ⟨p0, p1⟩⟩
    · split
      · exact ⟨by simp, by simp, fun _ => ⟨p0, p1⟩⟩
      · split
        · exact ⟨by simp, by simp, fun h => ⟨Int.le_trans p0 hG.p0, hG.ok h⟩⟩
        · exact ⟨by simp, by simp, fun _ => ⟨p0, p1⟩⟩
structure CmRel (w W : World) (g : Nat) (a : Int) (s : ByteArray) (R : Cmd × List Tok × Int) (k : Nat) (c : Cmd) (L : List Tok) (p : Int) (vN vM v2 v3 : Value) : Prop where
  k1 : k ≤ s.size
  p0 : 0 ≤ p
  p1 : p ≤ 2000
  nn : c.names.length ≤ k
  nm : c.nums.length ≤ k
  ok : okL ((lets s).drop k) = true
  xz : (lets s).drop k = [] ∨ c.x = zX ∧ v2 = sN ∧ v3 = sN
  fold : foldF ((lets s).drop k) c L p = R
  st : PaSt w W g (g + 1) (g + 1 + 1 + 1) a L p c vN vM v2 v3
  it : W.heap[g + 1 + 1]? = some (.stringIter s k)
  zero : W.heap[w.heap.size]? = some (.cells (cCells zC sN sN sN sN) TC (0, 0))
  sz : g + 1 + 1 + 1 ≤ W.heap.size
  lg : w.heap.size < g
theorem lets_at (s : ByteArray) (k : Nat) (h : k < s.size) : (lets s).drop k = ((s[k]'h).toNat : Int) :: (lets s).drop (k + 1) := by
  have hl : k < (lets s).length := by unfold lets; rw [List.length_map, Array.length_toList]; exact h
  rw [List.drop_eq_getElem_cons hl]
  have e : (lets s)[k] = ((s[k]'h).toNat : Int) := by
    simp only [lets, List.getElem_map]
    rfl
  rw [e]
theorem okL_cons {l : Int} {ls : List Int} (h : okL (l :: ls) = true) : (l = 101 ∧ ls = []) ∨ ((l = 110 ∨ l = 105 ∨ l = 114 ∨ l = 61) ∧ l ≠ 101 ∧ okL ls = true) := by
  rw [okL] at h
  split at h
  · rename_i hl
    exact .inl ⟨hl, by simpa using h⟩
  · rename_i hl
    simp only [Bool.and_eq_true, Bool.or_eq_true, beq_iff_eq] at h
    exact .inr ⟨by omega, hl, h.2⟩
end Go.Proofs.YtcinojbfjiohjaaGreatDoor.Pa
end

section
namespace Go.Proofs.YtcinojbfjiohjaaGreatDoor.Pa
open Go Go.RowKit Go.Proofs.YtcinojbfjiohjaaGreatDoor.PPrintTells Go.Proofs.YtcinojbfjiohjaaGreatDoor.Ex Go.Proofs.YtcinojbfjiohjaaGreatDoorW.PrintWords Go.Proofs.YtcinojbfjiohjaaGreatDoorW.PrintLast Go.Proofs.YtcinojbfjiohjaaGreatDoorW.PrintMore
set_option linter.unusedVariables false
set_option linter.unusedSimpArgs false
theorem info_c : (Tryz.prog.info? TC).map (·.size) = some 11 := by kernel_rfl
theorem put11 {W : World} {j : Nat} (h : W.heap[j]? = some (.cells (cCells zC sN sN sN sN) TC (0, 0))) (u0 u1 u2 u3 u4 u5 u6 u7 u8 u9 u10 : Value) :
    (((((((((((W.setCell ⟨j, 0, none⟩ u0).setCell ⟨j, 1, none⟩ u1).setCell ⟨j, 2, none⟩ u2).setCell ⟨j, 3, none⟩ u3).setCell ⟨j, 4, none⟩ u4).setCell ⟨j, 5, none⟩ u5).setCell ⟨j, 6, none⟩ u6).setCell ⟨j, 7, none⟩ u7).setCell ⟨j, 8, none⟩ u8).setCell ⟨j, 9, none⟩ u9).setCell ⟨j, 10, none⟩ u10).heap[j]? = some (.cells #[u0, u1, u2, u3, u4, u5, u6, u7, u8, u9, u10] TC (0, 0)) := by
  have h0 := blk_put h 0 u0 rfl
  have h1 := blk_put h0 1 u1 rfl
  have h2 := blk_put h1 2 u2 rfl
  have h3 := blk_put h2 3 u3 rfl
  have h4 := blk_put h3 4 u4 rfl
  have h5 := blk_put h4 5 u5 rfl
  have h6 := blk_put h5 6 u6 rfl
  have h7 := blk_put h6 7 u7 rfl
  have h8 := blk_put h7 8 u8 rfl
  have h9 := blk_put h8 9 u9 rfl
  have h10 := blk_put h9 10 u10 rfl
  simp only [List.setIfInBounds_toArray, List.set_cons_zero, List.set_cons_succ] at h10
  exact h10
theorem cells11 {W : World} {j : Nat} {c : Cmd} {vN vM v2 v3 : Value} (h : W.heap[j]? = some (.cells (cCells c vN vM v2 v3) TC (0, 0))) :
    W.cell? ⟨j, 0, none⟩ = some (.string c.word) ∧ W.cell? ⟨j, 1, none⟩ = some vN ∧ W.cell? ⟨j, 2, none⟩ = some vM ∧ W.cell? ⟨j, 3, none⟩ = some (.int .i64 c.lo) ∧ W.cell? ⟨j, 4, none⟩ = some (.int .i64 c.hi) ∧ W.cell? ⟨j, 5, none⟩ = some (.bool c.hl) ∧ W.cell? ⟨j, 6, none⟩ = some (.bool c.hh) ∧ W.cell? ⟨j, 7, none⟩ = some (.int .u8 c.x.f0) ∧ W.cell? ⟨j, 8, none⟩ = some (.string c.x.f1) ∧ W.cell? ⟨j, 9, none⟩ = some v2 ∧ W.cell? ⟨j, 10, none⟩ = some v3 :=
  ⟨(blk_cell h 0).trans rfl, (blk_cell h 1).trans rfl, (blk_cell h 2).trans rfl, (blk_cell h 3).trans rfl, (blk_cell h 4).trans rfl, (blk_cell h 5).trans rfl, (blk_cell h 6).trans rfl, (blk_cell h 7).trans rfl, (blk_cell h 8).trans rfl, (blk_cell h 9).trans rfl, (blk_cell h 10).trans rfl⟩
theorem free11 {W : World} {j : Nat} {cs : Array Value} (h : W.heap[j]? = some (.cells cs TC (0, 0))) :
    W.frozen? ⟨j, 0, none⟩ = false ∧ W.frozen? ⟨j, 1, none⟩ = false ∧ W.frozen? ⟨j, 2, none⟩ = false ∧ W.frozen? ⟨j, 3, none⟩ = false ∧ W.frozen? ⟨j, 4, none⟩ = false ∧ W.frozen? ⟨j, 5, none⟩ = false ∧ W.frozen? ⟨j, 6, none⟩ = false ∧ W.frozen? ⟨j, 7, none⟩ = false ∧ W.frozen? ⟨j, 8, none⟩ = false ∧ W.frozen? ⟨j, 9, none⟩ = false ∧ W.frozen? ⟨j, 10, none⟩ = false :=
  ⟨blk_frozen h 0, blk_frozen h 1, blk_frozen h 2, blk_frozen h 3, blk_frozen h 4, blk_frozen h 5, blk_frozen h 6, blk_frozen h 7, blk_frozen h 8, blk_frozen h 9, blk_frozen h 10⟩
set_option maxHeartbeats 16000000 in
set_option maxRecDepth 100000 in
theorem Command_calls (L : List Tok) (A : Option Addr) (n c : Nat) (w : World) (hn : n = L.length) (hC : Kd.C k51 w A L.length L) (hc : L.length ≤ c) (hL : Cal w) :
    Calls Tryz.prog 19 #[.slice A n c] w fun e w' => ∃ vN vM v2 v3, e = .returned (.tuple #[cmdV (parseC L).1 vN vM v2 v3, .int .i64 (parseC L).2.1, .int .i64 (parseC L).2.2]) ∧ GivesC w w' (parseC L).1 vN vM v2 v3 ∧ Below w.heap.size w w' := by
  subst hn
  have bz := blk_new w (.cells (cCells zC sN sN sN sN) TC (0, 0))
  cases L with
  | nil =>
    have hP : parseC [] = (zC, 0, 110) := rfl
    rw [hP]
    clear hP hC hL
    go_enter Tryz.func19, Tryz.ntmps19
    go_wp2
    refine bodyPost_ret (results_ctt rfl _ _ _ TC _ (0, 0) _ rfl (bz) Tryz.underlying42 rfl info_c) rfl ?_
    exact ⟨_, _, _, _, rfl, givesC_zero _ _, by (repeat (first | (with_reducible exact (Below.refl w.heap.size w)) | (with_reducible apply below_alloc) | (with_reducible apply pw_below_drewN) | (with_reducible apply below_drew1) | (with_reducible refine below_set ?_ (by first | assumption | omega))))⟩
  | cons t r =>
    have hm := hC.2.1
    rw [List.length_cons] at hm
    obtain ⟨ad, rfl, dd1, dd2, dd3⟩ := at_T51 hC 0 (by omega) (by simp)
    have e : ad.add ((0 : Int).toNat * 3) = ad := by show ad.add 0 = ad; exact Addr.add_zero' ad
    rw [e] at dd1 dd2 dd3
    have d1 : w.cell? ad = some (.int .u8 t.f0) := dd1
    have d2 : w.cell? ⟨ad.block, ad.off + 1, none⟩ = some (.string t.f1) := dd2
    have had := World.block_lt_of_cell? _ _ d1
    have hD := Aside0.mk (Kd.C_drop (m := 1) (c := c) hC (by simp) hc)
    obtain ⟨N, hN⟩ : ∃ N, N = r.length := ⟨_, rfl⟩
    rw [List.length_cons, ← hN] at hc ⊢
    rw [← hN] at hm
    have g1 : (0 : Int) < (N : Int) + 1 := by omega
    have g2 : 0 < N + 1 := by omega
    have g3 : ((N : Int) + 1 == 0) = false := beq_eq_false_iff_ne.2 (by omega)
    have g4 : ¬ (N + 1 = 0) := by omega
    clear hC e dd1 dd2 dd3
    by_cases h1 : t.f0 ≠ 1
    · have hP : parseC (t :: r) = (zC, 0, 110) := if_pos h1
      rw [hP]
      have f1 : (t.f0 != 1) = true := bne_iff_ne.2 h1
      have f2 : (t.f0 == 1) = false := beq_eq_false_iff_ne.2 h1
      clear hP hL hD hN
      go_enter Tryz.func19, Tryz.ntmps19
      go_wp2
      refine bodyPost_ret (results_ctt rfl _ _ _ TC _ (0, 0) _ rfl (bz) Tryz.underlying42 rfl info_c) rfl ?_
      exact ⟨_, _, _, _, rfl, givesC_zero _ _, by (repeat (first | (with_reducible exact (Below.refl w.heap.size w)) | (with_reducible apply below_alloc) | (with_reducible apply pw_below_drewN) | (with_reducible apply below_drew1) | (with_reducible refine below_set ?_ (by first | assumption | omega))))⟩
    · have h1' : t.f0 = 1 := by omega
      have f1 : (t.f0 != 1) = false := bne_eq_false_iff_eq.2 h1'
      have f2 : (t.f0 == 1) = true := beq_iff_eq.2 h1'
      have CS := fun W h => Aside0.mk (Shape_calls t.f1 W h)
      have hso := shape_ok t.f1
      have hP : parseC (t :: r) = if (shapeF t.f1).2 = false then (zC, 0, 110) else endC ((r.length : Int) + 1) (foldF (lets (shapeF t.f1).1) (wC t.f1) r 0) := if_neg h1
      obtain ⟨s, is, hs⟩ : ∃ s is, shapeF t.f1 = (s, is) := ⟨_, _, rfl⟩
      rw [hs] at CS hP hso
      rw [hP]
      dsimp only at CS hso ⊢
      have HL := Aside0.mk hL
      clear hP hs h1 h1' hL
      cases is with
      | false =>
        rw [if_pos rfl]
        go_enter Tryz.func19, Tryz.ntmps19
        go_wp2_with fail
        (with_reducible refine (CS _ ?i).out.mono ?_)
        case i => exact HL.out.l (below_alloc (Below.refl _ _) _)
        rintro e w1 ⟨rfl, hb1⟩
        have bz1 : w1.heap[w.heap.size]? = some (.cells (cCells zC sN sN sN sN) TC (0, 0)) := (hb1.block _ (blk_lt bz)).trans bz
        have hbw := below_then (below_alloc (Below.refl w.heap.size w) (.cells (cCells zC sN sN sN sN) TC (0, 0))) (below_alloc (Below.refl w.heap.size w) (.cells (cCells zC sN sN sN sN) TC (0, 0))).size hb1
        obtain ⟨z0, z1, z2, z3, z4, z5, z6, z7, z8, z9, z10⟩ := cells11 bz1
        obtain ⟨y0, y1, y2, y3, y4, y5, y6, y7, y8, y9, y10⟩ := free11 bz1
        clear hb1 CS
        go_wp2
        refine bodyPost_ret (results_ctt rfl _ _ _ TC _ (0, 0) _ rfl (put11 bz1 _ _ _ _ _ _ _ _ _ _ _) Tryz.underlying42 rfl info_c) rfl ?_
        exact ⟨_, _, _, _, rfl, givesC_zero _ _, by (repeat (first | (with_reducible exact hbw) | (with_reducible apply below_alloc) | (with_reducible apply pw_below_drewN) | (with_reducible apply below_drew1) | (with_reducible refine below_set ?_ (by first | assumption | omega))))⟩
      | true =>
        rw [if_neg (by simp)]
        obtain ⟨R, hR⟩ : ∃ R, foldF (lets s) (wC t.f1) r 0 = R := ⟨_, rfl⟩
        obtain ⟨a, ha⟩ : ∃ a : Int, a = (N : Int) + 1 := ⟨_, rfl⟩
        rw [hR, ← hN, ← ha]
        obtain ⟨K, hK⟩ : ∃ K, endC a R = K := ⟨_, rfl⟩
        rw [hK]
        have HK := Aside0.mk hK
        have HR := Aside0.mk hR
        have HA := Aside0.mk ha
        have HN := Aside0.mk hN
        have CP := Aside0.mk (fun (g : Nat) (L9 : List Tok) (p e9 : Int) W h => Aside0.mk (place_calls g L9 a p e9 w W h (by omega) (by omega)))
        have n3 : 1 ≤ N + 1 := by omega
        have n5 : N + 1 - 1 = N := by omega
        have HS := Aside0.mk hso
        have hs : ∀ (W : World) o, (W.alloc o).heap.size = W.heap.size + 1 := fun W o => Array.size_push ..
        have HZ := Aside0.mk hs
        clear hK hR ha hN hso hs
        by_cases hc1 : c = 1
        · subst hc1
          go_enter Tryz.func19, Tryz.ntmps19
          go_wp2_with fail
          (with_reducible refine (CS _ ?i).out.mono ?_)
          case i => exact HL.out.l (below_alloc (Below.refl _ _) _)
          rintro e w1 ⟨rfl, hb1⟩
          have bz1 : w1.heap[w.heap.size]? = some (.cells (cCells zC sN sN sN sN) TC (0, 0)) := (hb1.block _ (blk_lt bz)).trans bz
          have hbw := below_then (below_alloc (Below.refl w.heap.size w) (.cells (cCells zC sN sN sN sN) TC (0, 0))) (below_alloc (Below.refl w.heap.size w) (.cells (cCells zC sN sN sN sN) TC (0, 0))).size hb1
          have d1' : w1.cell? ad = some (.int .u8 t.f0) := (hbw.cell had).trans d1
          have d2' : w1.cell? ⟨ad.block, ad.off + 1, none⟩ = some (.string t.f1) := (hbw.cell (show (⟨ad.block, ad.off + 1, none⟩ : Addr).block < w.heap.size from had)).trans d2
          have had1 := World.block_lt_of_cell? _ _ d1'
          have hz1 := blk_lt bz1
          clear d1 d2 CS hb1
          have HB := Aside0.mk hbw
          have BZ := Aside0.mk bz1
          clear hbw bz1 bz
          have b94 := Aside0.mk (blk_alloc (blk_alloc (blk_new w1 (.cells #[.slice (some ad) N (1 - 1), .int .i64 ((N : Int) + 1), .int .i64 0] 82)) (.cells (cCells (wC t.f1) sN sN sN sN) TC)) (.stringIter s 0))
          have b54 := blk_alloc (blk_new (w1.alloc (.cells #[.slice (some ad) N (1 - 1), .int .i64 ((N : Int) + 1), .int .i64 0] 82)) (.cells (cCells (wC t.f1) sN sN sN sN) TC)) (.stringIter s 0)
          rw [HZ.out] at b54
          have bit := World.iter_heap ((w1.alloc (.cells #[.slice (some ad) N (1 - 1), .int .i64 ((N : Int) + 1), .int .i64 0] 82)).alloc (.cells (cCells (wC t.f1) sN sN sN sN) TC)) s 0
          rw [HZ.out, HZ.out] at bit
          have bzz := blk_alloc (blk_alloc (blk_alloc BZ.out (.cells #[.slice (some ad) N (1 - 1), .int .i64 ((N : Int) + 1), .int .i64 0] 82)) (.cells (cCells (wC t.f1) sN sN sN sN) TC)) (.stringIter s 0)
          have B54 := Aside0.mk b54
          have BIT := Aside0.mk bit
          have BZZ := Aside0.mk bzz
          clear b54 bit bzz
          go_wp2_with fail
          go_loopw [9] (fun j wr => ∃ k c' L1 p1 vN vM v2 v3, j = .int .i64 0 ∧ CmRel w wr w1.heap.size a s R k c' L1 p1 vN vM v2 v3) (fun _ wr => s.size - wr.iterPos (w1.heap.size + 1 + 1))
          case atStart =>
            refine ⟨0, wC t.f1, r, 0, sN, sN, sN, sN, rfl, ?_⟩
            refine { k1 := Nat.zero_le _, p0 := Int.le_refl 0, p1 := by omega, nn := Nat.le_refl 0, nm := Nat.le_refl 0, ok := HS.out.1, xz := .inr ⟨rfl, rfl, rfl⟩, fold := HR.out, st := ?_, it := BIT.out, zero := BZZ.out, sz := ?_, lg := hz1 }
            · refine ⟨⟨(some ad), (1 - 1), ?_, by omega, ?_, ?_, ?_⟩, B54.out, Kd.R_nil _ _ _ _ _, Kd.R_nil _ _ _ _ _, k25_mkM _ _ _ zX (Kd.R_nil _ _ _ _ _) (Kd.R_nil _ _ _ _ _), by omega, by omega⟩
              · rw [← HN.out, HA.out]; exact b94.out
              · rw [← HN.out]; omega
              · exact by have h := hD.out; simp only [if_true] at h; exact h
              · exact below_alloc (below_alloc (below_alloc HB.out _) _) _
            · show _ ≤ (((w1.alloc (.cells #[.slice (some ad) N (1 - 1), .int .i64 ((N : Int) + 1), .int .i64 0] 82)).alloc (.cells (cCells (wC t.f1) sN sN sN sN) TC)).alloc (.stringIter s 0)).heap.size
              rw [HZ.out, HZ.out, HZ.out]
              exact Nat.le_refl _
          case round =>
            obtain ⟨k, c', L1, p1, vN, vM, v2, v3, rfl, H⟩ := hrel
            have H := Aside0.mk H
            have hgz := H.out.lg
            by_cases hk : k < s.size
            · have hlt : (s[k]'hk).toNat < 128 := HS.out.2.2 _ (Array.getElem_mem_toList (xs := s.data) hk)
              have hnx := fun ty => run_next_at (P := Tryz.prog) wr (w1.heap.size + 1 + 1) s k ty H.out.it hk hlt
              have hd := lets_at s k hk
              obtain ⟨l, hl⟩ : ∃ l : Int, l = ((s[k]'hk).toNat : Int) := ⟨_, rfl⟩
              rw [← hl] at hnx hd
              have hok := H.out.ok
              have hxz := H.out.xz
              have hfo := H.out.fold
              rw [hd] at hok hxz hfo
              have hxz : c'.x = zX ∧ v2 = sN ∧ v3 = sN := hxz.resolve_left (by simp)
              have hoc := okL_cons hok
              have hll : l = 101 ∨ (l = 110 ∨ l = 105 ∨ l = 114 ∨ l = 61) ∧ c'.x = zX ∧ v2 = sN ∧ v3 = sN := by
                rcases hoc with h | h
                · exact .inl h.1
                · exact .inr ⟨h.1, hxz⟩
              have ST1 := H.out.st.away (j := w1.heap.size + 1 + 1) (by omega) (by omega) (turn_kept wr _ (.stringIter s (k + 1))) (turn_below H.out.st.isp.low (by omega) _)
              have hsz : k + 1 ≤ 10 := by have := HS.out.2.1; omega
              have CU := Aside0.mk (part_calls w _ HL.out w1.heap.size (w1.heap.size + 1) (w1.heap.size + 1 + 1 + 1) a L1 p1 H.out.p0 H.out.p1 c' vN vM v2 v3 ST1 (by rw [turn_size]; exact H.out.sz) (by have := H.out.nn; omega) (by have := H.out.nm; omega) l hll)
              have hpf := part_facts l c' L1 p1 H.out.p0 H.out.p1
              have hit1 := turn_new wr (w1.heap.size + 1 + 1) (.stringIter s (k + 1)) _ H.out.it
              have hz1' := blk_kept H.out.zero (turn_kept wr (w1.heap.size + 1 + 1) (.stringIter s (k + 1))) (fun h => by have h1 : w.heap.size = w1.heap.size + 1 + 1 := h; omega)
              rw [foldF] at hfo
              obtain ⟨c9, L9, p9, e9, hp⟩ : ∃ c9 L9 p9 e9, partF l c' L1 p1 = (c9, L9, p9, e9) := ⟨_, _, _, _, rfl⟩
              rw [hp] at CU hfo hpf
              dsimp only at CU hfo hpf
              have HIT := Aside0.mk hit1
              have HZ1 := Aside0.mk hz1'
              have HPF := Aside0.mk hpf
              have HOC := Aside0.mk hoc
              have hnnk := H.out.nn
              have hnmk := H.out.nm
              have HSZ := Aside0.mk (show w1.heap.size + 1 + 1 + 1 ≤ (turn wr (w1.heap.size + 1 + 1) (.stringIter s (k + 1))).heap.size by rw [turn_size]; exact H.out.sz)
              have hmea : wr.iterPos (w1.heap.size + 1 + 1) = k := by have h := H.out.it; simp only [World.iterPos, h]
              clear hp ST1 hd hok hxz hoc hll hit1 hz1' hpf H hl
              by_cases he9 : e9 ≠ 0
              · have f1 : (e9 != 0) = true := bne_iff_ne.2 he9
                have f2 : (e9 == 0) = false := beq_eq_false_iff_ne.2 he9
                rw [if_pos he9] at hfo
                have HF := Aside0.mk hfo
                clear hfo hmea
                go_wp2_with fail
                (with_reducible refine CU.out.mono ?_)
                rintro e w5 ⟨u0, u1, u2, u3, rfl, hst, hkp, hx⟩
                have ST := Aside0.mk hst
                have ZZ := Aside0.mk (blk_kept HZ1.out hkp (fun h => by rcases h with h | h | h <;> omega))
                clear hst hkp hx CU hnx
                go_wp2_with fail
                (with_reducible refine (CP.out w1.heap.size L9 p9 e9 _ ST.out.isp).out.mono ?_)
                rintro e w9 ⟨rfl, ⟨m9, rfl⟩⟩
                have ST9 := Aside0.mk (ST.out.later (pw_below_drewN (Below.refl _ _) m9))
                have ZZ9 := Aside0.mk (blk_drewN ZZ.out m9)
                obtain ⟨at1, e2, hp⟩ : ∃ at1 e2, placeF a L9 e9 = (at1, e2) := ⟨_, _, rfl⟩
                have hK := HK.out
                rw [← HF.out] at hK
                unfold endC at hK
                dsimp only at hK
                rw [hp] at hK ⊢
                dsimp only at hK ⊢
                clear hp ST ZZ
                by_cases he : e2 ≠ 0
                · have f1 : (e2 != 0) = true := bne_iff_ne.2 he
                  have f2 : (e2 == 0) = false := beq_eq_false_iff_ne.2 he
                  rw [if_pos he] at hK
                  subst hK
                  obtain ⟨z0, z1, z2, z3, z4, z5, z6, z7, z8, z9, z10⟩ := cells11 ZZ9.out
                  obtain ⟨y0, y1, y2, y3, y4, y5, y6, y7, y8, y9, y10⟩ := free11 ZZ9.out
                  go_wp2
                  refine bodyPost_ret (results_ctt rfl _ _ _ TC _ (0, 0) _ rfl (put11 ZZ9.out _ _ _ _ _ _ _ _ _ _ _) Tryz.underlying42 rfl info_c) rfl ?_
                  exact ⟨_, _, _, _, rfl, givesC_zero _ _, by (repeat (first | (with_reducible exact ST9.out.isp.low) | (with_reducible apply below_alloc) | (with_reducible apply pw_below_drewN) | (with_reducible apply below_drew1) | (with_reducible refine below_set ?_ (by first | assumption | omega))))⟩
                · have f1 : (e2 != 0) = false := bne_eq_false_iff_eq.2 (by omega)
                  have f2 : (e2 == 0) = true := beq_iff_eq.2 (by omega)
                  rw [if_neg he] at hK
                  subst hK
                  obtain ⟨A0, n0, c0, A1, n1, c1, A2, n2, c2, A3, n3, c3, rfl, rfl, rfl, rfl⟩ := ST9.out.slices
                  obtain ⟨z0, z1, z2, z3, z4, z5, z6, z7, z8, z9, z10⟩ := cells11 ZZ9.out
                  obtain ⟨y0, y1, y2, y3, y4, y5, y6, y7, y8, y9, y10⟩ := free11 ZZ9.out
                  obtain ⟨x0, x1, x2, x3, x4, x5, x6, x7, x8, x9, x10⟩ := cells11 ST9.out.box
                  go_wp2
                  refine bodyPost_ret (results_ctt rfl _ _ _ TC _ (0, 0) _ rfl (put11 ZZ9.out _ _ _ _ _ _ _ _ _ _ _) Tryz.underlying42 rfl info_c) rfl ?_
                  exact ⟨_, _, _, _, rfl, ST9.out.givesC (j := w.heap.size) (by omega) (by (repeat (first | (with_reducible exact Kept.refl _ _) | (with_reducible apply Kept.alloc) | (with_reducible apply Kept.drewN) | (with_reducible apply Kept.drew) | (with_reducible refine kept_at ?_ _ _) | (with_reducible refine kept_new ?_ _ _ (Nat.le_refl _)) | (with_reducible refine kept_new ?_ _ _ (by first | assumption | omega))))) (by omega), by (repeat (first | (with_reducible exact ST9.out.isp.low) | (with_reducible apply below_alloc) | (with_reducible apply pw_below_drewN) | (with_reducible apply below_drew1) | (with_reducible refine below_set ?_ (by first | assumption | omega))))⟩
              · have he9' : e9 = 0 := by omega
                subst he9'
                rw [if_neg (by simp)] at hfo
                have HF := Aside0.mk hfo
                clear hfo
                go_wp2_with fail
                (with_reducible refine CU.out.mono ?_)
                rintro e w5 ⟨u0, u1, u2, u3, rfl, hst, hkp, hx⟩
                have ST := Aside0.mk hst
                have ZZ := Aside0.mk (blk_kept HZ1.out hkp (fun h => by rcases h with h | h | h <;> omega))
                have IT := Aside0.mk (blk_kept HIT.out hkp (fun h => by rcases h with h | h | h <;> omega))
                have HX := Aside0.mk hx
                have SZ := Aside0.mk (Nat.le_trans HSZ.out hkp.1)
                have hmea2 : w5.iterPos (w1.heap.size + 1 + 1) = k + 1 := by have h := IT.out; simp only [World.iterPos, h]
                clear hst hkp hx CU hnx
                go_wp2_with fail
                go_roundw
                case rel =>
                  refine ⟨k + 1, c9, L9, p9, u0, u1, u2, u3, rfl, ?_⟩
                  have hq := HPF.out.2.2 (by trivial)
                  refine { k1 := hk, p0 := hq.1, p1 := hq.2, nn := by have := HPF.out.1; omega, nm := by have := HPF.out.2.1; omega, ok := ?_, xz := ?_, fold := HF.out, st := ST.out, it := IT.out, zero := ZZ.out, sz := SZ.out, lg := hgz }
                  · rcases HOC.out with h | h
                    · rw [h.2]; rfl
                    · exact h.2.2
                  · rcases HOC.out with h | h
                    · exact .inl h.2
                    · exact .inr (HX.out.resolve_left h.2.1)
                case measure => rw [hmea, hmea2]; omega
            · have hks : k = s.size := by have := H.out.k1; omega
              have hnx := fun ty => run_next_stop (P := Tryz.prog) wr (w1.heap.size + 1 + 1) s k ty H.out.it hk
              have hfo := H.out.fold
              rw [show (lets s).drop k = [] from List.drop_of_length_le (by unfold lets; rw [List.length_map, Array.length_toList, hks]; exact Nat.le_refl _), foldF] at hfo
              have HF := Aside0.mk hfo
              have ST := Aside0.mk H.out.st
              have ZZ := Aside0.mk H.out.zero
              obtain ⟨L9, hL9⟩ : ∃ L9, L9 = L1 := ⟨_, rfl⟩
              obtain ⟨p9, hp9⟩ : ∃ p9, p9 = p1 := ⟨_, rfl⟩
              rw [← hL9] at HF ST
              rw [← hp9] at ST
              clear hfo H hL9 hp9
              go_wp2_with fail
              (with_reducible refine (CP.out w1.heap.size L9 p9 0 _ ST.out.isp).out.mono ?_)
              rintro e w9 ⟨rfl, ⟨m9, rfl⟩⟩
              have ST9 := Aside0.mk (ST.out.later (pw_below_drewN (Below.refl _ _) m9))
              have ZZ9 := Aside0.mk (blk_drewN ZZ.out m9)
              obtain ⟨at1, e2, hp⟩ : ∃ at1 e2, placeF a L9 0 = (at1, e2) := ⟨_, _, rfl⟩
              have hK := HK.out
              rw [← HF.out] at hK
              unfold endC at hK
              dsimp only at hK
              rw [hp] at hK ⊢
              dsimp only at hK ⊢
              clear hp ST ZZ
              by_cases he : e2 ≠ 0
              · have f1 : (e2 != 0) = true := bne_iff_ne.2 he
                have f2 : (e2 == 0) = false := beq_eq_false_iff_ne.2 he
                rw [if_pos he] at hK
                subst hK
                obtain ⟨z0, z1, z2, z3, z4, z5, z6, z7, z8, z9, z10⟩ := cells11 ZZ9.out
                obtain ⟨y0, y1, y2, y3, y4, y5, y6, y7, y8, y9, y10⟩ := free11 ZZ9.out
                go_wp2
                refine bodyPost_ret (results_ctt rfl _ _ _ TC _ (0, 0) _ rfl (put11 ZZ9.out _ _ _ _ _ _ _ _ _ _ _) Tryz.underlying42 rfl info_c) rfl ?_
                exact ⟨_, _, _, _, rfl, givesC_zero _ _, by (repeat (first | (with_reducible exact ST9.out.isp.low) | (with_reducible apply below_alloc) | (with_reducible apply pw_below_drewN) | (with_reducible apply below_drew1) | (with_reducible refine below_set ?_ (by first | assumption | omega))))⟩
              · have f1 : (e2 != 0) = false := bne_eq_false_iff_eq.2 (by omega)
                have f2 : (e2 == 0) = true := beq_iff_eq.2 (by omega)
                rw [if_neg he] at hK
                subst hK
                obtain ⟨A0, n0, c0, A1, n1, c1, A2, n2, c2, A3, n3, c3, rfl, rfl, rfl, rfl⟩ := ST9.out.slices
                obtain ⟨z0, z1, z2, z3, z4, z5, z6, z7, z8, z9, z10⟩ := cells11 ZZ9.out
                obtain ⟨y0, y1, y2, y3, y4, y5, y6, y7, y8, y9, y10⟩ := free11 ZZ9.out
                obtain ⟨x0, x1, x2, x3, x4, x5, x6, x7, x8, x9, x10⟩ := cells11 ST9.out.box
                go_wp2
                refine bodyPost_ret (results_ctt rfl _ _ _ TC _ (0, 0) _ rfl (put11 ZZ9.out _ _ _ _ _ _ _ _ _ _ _) Tryz.underlying42 rfl info_c) rfl ?_
                exact ⟨_, _, _, _, rfl, ST9.out.givesC (j := w.heap.size) (by omega) (by (repeat (first | (with_reducible exact Kept.refl _ _) | (with_reducible apply Kept.alloc) | (with_reducible apply Kept.drewN) | (with_reducible apply Kept.drew) | (with_reducible refine kept_at ?_ _ _) | (with_reducible refine kept_new ?_ _ _ (Nat.le_refl _)) | (with_reducible refine kept_new ?_ _ _ (by first | assumption | omega))))) (by omega), by (repeat (first | (with_reducible exact ST9.out.isp.low) | (with_reducible apply below_alloc) | (with_reducible apply pw_below_drewN) | (with_reducible apply below_drew1) | (with_reducible refine below_set ?_ (by first | assumption | omega))))⟩
        · go_enter Tryz.func19, Tryz.ntmps19
          go_wp2_with fail
          (with_reducible refine (CS _ ?i).out.mono ?_)
          case i => exact HL.out.l (below_alloc (Below.refl _ _) _)
          rintro e w1 ⟨rfl, hb1⟩
          have bz1 : w1.heap[w.heap.size]? = some (.cells (cCells zC sN sN sN sN) TC (0, 0)) := (hb1.block _ (blk_lt bz)).trans bz
          have hbw := below_then (below_alloc (Below.refl w.heap.size w) (.cells (cCells zC sN sN sN sN) TC (0, 0))) (below_alloc (Below.refl w.heap.size w) (.cells (cCells zC sN sN sN sN) TC (0, 0))).size hb1
          have d1' : w1.cell? ad = some (.int .u8 t.f0) := (hbw.cell had).trans d1
          have d2' : w1.cell? ⟨ad.block, ad.off + 1, none⟩ = some (.string t.f1) := (hbw.cell (show (⟨ad.block, ad.off + 1, none⟩ : Addr).block < w.heap.size from had)).trans d2
          have had1 := World.block_lt_of_cell? _ _ d1'
          have hz1 := blk_lt bz1
          clear d1 d2 CS hb1
          have HB := Aside0.mk hbw
          have BZ := Aside0.mk bz1
          clear hbw bz1 bz
          have b94 := Aside0.mk (blk_alloc (blk_alloc (blk_new w1 (.cells #[.slice (some (ad.add 3)) N (c - 1), .int .i64 ((N : Int) + 1), .int .i64 0] 82)) (.cells (cCells (wC t.f1) sN sN sN sN) TC)) (.stringIter s 0))
          have b54 := blk_alloc (blk_new (w1.alloc (.cells #[.slice (some (ad.add 3)) N (c - 1), .int .i64 ((N : Int) + 1), .int .i64 0] 82)) (.cells (cCells (wC t.f1) sN sN sN sN) TC)) (.stringIter s 0)
          rw [HZ.out] at b54
          have bit := World.iter_heap ((w1.alloc (.cells #[.slice (some (ad.add 3)) N (c - 1), .int .i64 ((N : Int) + 1), .int .i64 0] 82)).alloc (.cells (cCells (wC t.f1) sN sN sN sN) TC)) s 0
          rw [HZ.out, HZ.out] at bit
          have bzz := blk_alloc (blk_alloc (blk_alloc BZ.out (.cells #[.slice (some (ad.add 3)) N (c - 1), .int .i64 ((N : Int) + 1), .int .i64 0] 82)) (.cells (cCells (wC t.f1) sN sN sN sN) TC)) (.stringIter s 0)
          have B54 := Aside0.mk b54
          have BIT := Aside0.mk bit
          have BZZ := Aside0.mk bzz
          clear b54 bit bzz
          go_wp2_with fail
          go_loopw [9] (fun j wr => ∃ k c' L1 p1 vN vM v2 v3, j = .int .i64 0 ∧ CmRel w wr w1.heap.size a s R k c' L1 p1 vN vM v2 v3) (fun _ wr => s.size - wr.iterPos (w1.heap.size + 1 + 1))
          case atStart =>
            refine ⟨0, wC t.f1, r, 0, sN, sN, sN, sN, rfl, ?_⟩
            refine { k1 := Nat.zero_le _, p0 := Int.le_refl 0, p1 := by omega, nn := Nat.le_refl 0, nm := Nat.le_refl 0, ok := HS.out.1, xz := .inr ⟨rfl, rfl, rfl⟩, fold := HR.out, st := ?_, it := BIT.out, zero := BZZ.out, sz := ?_, lg := hz1 }
            · refine ⟨⟨(some (ad.add 3)), (c - 1), ?_, by omega, ?_, ?_, ?_⟩, B54.out, Kd.R_nil _ _ _ _ _, Kd.R_nil _ _ _ _ _, k25_mkM _ _ _ zX (Kd.R_nil _ _ _ _ _) (Kd.R_nil _ _ _ _ _), by omega, by omega⟩
              · rw [← HN.out, HA.out]; exact b94.out
              · rw [← HN.out]; omega
              · exact by have h := hD.out; rw [if_neg hc1] at h; exact h
              · exact below_alloc (below_alloc (below_alloc HB.out _) _) _
            · show _ ≤ (((w1.alloc (.cells #[.slice (some (ad.add 3)) N (c - 1), .int .i64 ((N : Int) + 1), .int .i64 0] 82)).alloc (.cells (cCells (wC t.f1) sN sN sN sN) TC)).alloc (.stringIter s 0)).heap.size
              rw [HZ.out, HZ.out, HZ.out]
              exact Nat.le_refl _
          case round =>
            obtain ⟨k, c', L1, p1, vN, vM, v2, v3, rfl, H⟩ := hrel
            have H := Aside0.mk H
            have hgz := H.out.lg
            by_cases hk : k < s.size
            · have hlt : (s[k]'hk).toNat < 128 := HS.out.2.2 _ (Array.getElem_mem_toList (xs := s.data) hk)
              have hnx := fun ty => run_next_at (P := Tryz.prog) wr (w1.heap.size + 1 + 1) s k ty H.out.it hk hlt
              have hd := lets_at s k hk
              obtain ⟨l, hl⟩ : ∃ l : Int, l = ((s[k]'hk).toNat : Int) := ⟨_, rfl⟩
              rw [← hl] at hnx hd
              have hok := H.out.ok
              have hxz := H.out.xz
              have hfo := H.out.fold
              rw [hd] at hok hxz hfo
              have hxz : c'.x = zX ∧ v2 = sN ∧ v3 = sN := hxz.resolve_left (by simp)
              have hoc := okL_cons hok
              have hll : l = 101 ∨ (l = 110 ∨ l = 105 ∨ l = 114 ∨ l = 61) ∧ c'.x = zX ∧ v2 = sN ∧ v3 = sN := by
                rcases hoc with h | h
                · exact .inl h.1
                · exact .inr ⟨h.1, hxz⟩
              have ST1 := H.out.st.away (j := w1.heap.size + 1 + 1) (by omega) (by omega) (turn_kept wr _ (.stringIter s (k + 1))) (turn_below H.out.st.isp.low (by omega) _)
              have hsz : k + 1 ≤ 10 := by have := HS.out.2.1; omega
              have CU := Aside0.mk (part_calls w _ HL.out w1.heap.size (w1.heap.size + 1) (w1.heap.size + 1 + 1 + 1) a L1 p1 H.out.p0 H.out.p1 c' vN vM v2 v3 ST1 (by rw [turn_size]; exact H.out.sz) (by have := H.out.nn; omega) (by have := H.out.nm; omega) l hll)
              have hpf := part_facts l c' L1 p1 H.out.p0 H.out.p1
              have hit1 := turn_new wr (w1.heap.size + 1 + 1) (.stringIter s (k + 1)) _ H.out.it
              have hz1' := blk_kept H.out.zero (turn_kept wr (w1.heap.size + 1 + 1) (.stringIter s (k + 1))) (fun h => by have h1 : w.heap.size = w1.heap.size + 1 + 1 := h; omega)
              rw [foldF] at hfo
              obtain ⟨c9, L9, p9, e9, hp⟩ : ∃ c9 L9 p9 e9, partF l c' L1 p1 = (c9, L9, p9, e9) := ⟨_, _, _, _, rfl⟩
              rw [hp] at CU hfo hpf
              dsimp only at CU hfo hpf
              have HIT := Aside0.mk hit1
              have HZ1 := Aside0.mk hz1'
              have HPF := Aside0.mk hpf
              have HOC := Aside0.mk hoc
              have hnnk := H.out.nn
              have hnmk := H.out.nm
              have HSZ := Aside0.mk (show w1.heap.size + 1 + 1 + 1 ≤ (turn wr (w1.heap.size + 1 + 1) (.stringIter s (k + 1))).heap.size by rw [turn_size]; exact H.out.sz)
              have hmea : wr.iterPos (w1.heap.size + 1 + 1) = k := by have h := H.out.it; simp only [World.iterPos, h]
              clear hp ST1 hd hok hxz hoc hll hit1 hz1' hpf H hl
              by_cases he9 : e9 ≠ 0
              · have f1 : (e9 != 0) = true := bne_iff_ne.2 he9
                have f2 : (e9 == 0) = false := beq_eq_false_iff_ne.2 he9
                rw [if_pos he9] at hfo
                have HF := Aside0.mk hfo
                clear hfo hmea
                go_wp2_with fail
                (with_reducible refine CU.out.mono ?_)
                rintro e w5 ⟨u0, u1, u2, u3, rfl, hst, hkp, hx⟩
                have ST := Aside0.mk hst
                have ZZ := Aside0.mk (blk_kept HZ1.out hkp (fun h => by rcases h with h | h | h <;> omega))
                clear hst hkp hx CU hnx
                go_wp2_with fail
                (with_reducible refine (CP.out w1.heap.size L9 p9 e9 _ ST.out.isp).out.mono ?_)
                rintro e w9 ⟨rfl, ⟨m9, rfl⟩⟩
                have ST9 := Aside0.mk (ST.out.later (pw_below_drewN (Below.refl _ _) m9))
                have ZZ9 := Aside0.mk (blk_drewN ZZ.out m9)
                obtain ⟨at1, e2, hp⟩ : ∃ at1 e2, placeF a L9 e9 = (at1, e2) := ⟨_, _, rfl⟩
                have hK := HK.out
                rw [← HF.out] at hK
                unfold endC at hK
                dsimp only at hK
                rw [hp] at hK ⊢
                dsimp only at hK ⊢
                clear hp ST ZZ
                by_cases he : e2 ≠ 0
                · have f1 : (e2 != 0) = true := bne_iff_ne.2 he
                  have f2 : (e2 == 0) = false := beq_eq_false_iff_ne.2 he
                  rw [if_pos he] at hK
                  subst hK
                  obtain ⟨z0, z1, z2, z3, z4, z5, z6, z7, z8, z9, z10⟩ := cells11 ZZ9.out
                  obtain ⟨y0, y1, y2, y3, y4, y5, y6, y7, y8, y9, y10⟩ := free11 ZZ9.out
                  go_wp2
                  refine bodyPost_ret (results_ctt rfl _ _ _ TC _ (0, 0) _ rfl (put11 ZZ9.out _ _ _ _ _ _ _ _ _ _ _) Tryz.underlying42 rfl info_c) rfl ?_
                  exact ⟨_, _, _, _, rfl, givesC_zero _ _, by (repeat (first | (with_reducible exact ST9.out.isp.low) | (with_reducible apply below_alloc) | (with_reducible apply pw_below_drewN) | (with_reducible apply below_drew1) | (with_reducible refine below_set ?_ (by first | assumption | omega))))⟩
                · have f1 : (e2 != 0) = false := bne_eq_false_iff_eq.2 (by omega)
                  have f2 : (e2 == 0) = true := beq_iff_eq.2 (by omega)
                  rw [if_neg he] at hK
                  subst hK
                  obtain ⟨A0, n0, c0, A1, n1, c1, A2, n2, c2, A3, n3, c3, rfl, rfl, rfl, rfl⟩ := ST9.out.slices
                  obtain ⟨z0, z1, z2, z3, z4, z5, z6, z7, z8, z9, z10⟩ := cells11 ZZ9.out
                  obtain ⟨y0, y1, y2, y3, y4, y5, y6, y7, y8, y9, y10⟩ := free11 ZZ9.out
                  obtain ⟨x0, x1, x2, x3, x4, x5, x6, x7, x8, x9, x10⟩ := cells11 ST9.out.box
                  go_wp2
                  refine bodyPost_ret (results_ctt rfl _ _ _ TC _ (0, 0) _ rfl (put11 ZZ9.out _ _ _ _ _ _ _ _ _ _ _) Tryz.underlying42 rfl info_c) rfl ?_
                  exact ⟨_, _, _, _, rfl, ST9.out.givesC (j := w.heap.size) (by omega) (by (repeat (first | (with_reducible exact Kept.refl _ _) | (with_reducible apply Kept.alloc) | (with_reducible apply Kept.drewN) | (with_reducible apply Kept.drew) | (with_reducible refine kept_at ?_ _ _) | (with_reducible refine kept_new ?_ _ _ (Nat.le_refl _)) | (with_reducible refine kept_new ?_ _ _ (by first | assumption | omega))))) (by omega), by (repeat (first | (with_reducible exact ST9.out.isp.low) | (with_reducible apply below_alloc) | (with_reducible apply pw_below_drewN) | (with_reducible apply below_drew1) | (with_reducible refine below_set ?_ (by first | assumption | omega))))⟩
              · have he9' : e9 = 0 := by omega
                subst he9'
                rw [if_neg (by simp)] at hfo
                have HF := Aside0.mk hfo
                clear hfo
                go_wp2_with fail
                (with_reducible refine CU.out.mono ?_)
                rintro e w5 ⟨u0, u1, u2, u3, rfl, hst, hkp, hx⟩
                have ST := Aside0.mk hst
                have ZZ := Aside0.mk (blk_kept HZ1.out hkp (fun h => by rcases h with h | h | h <;> omega))
                have IT := Aside0.mk (blk_kept HIT.out hkp (fun h => by rcases h with h | h | h <;> omega))
                have HX := Aside0.mk hx
                have SZ := Aside0.mk (Nat.le_trans HSZ.out hkp.1)
                have hmea2 : w5.iterPos (w1.heap.size + 1 + 1) = k + 1 := by have h := IT.out; simp only [World.iterPos, h]
                clear hst hkp hx CU hnx
                go_wp2_with fail
                go_roundw
                case rel =>
                  refine ⟨k + 1, c9, L9, p9, u0, u1, u2, u3, rfl, ?_⟩
                  have hq := HPF.out.2.2 (by trivial)
                  refine { k1 := hk, p0 := hq.1, p1 := hq.2, nn := by have := HPF.out.1; omega, nm := by have := HPF.out.2.1; omega, ok := ?_, xz := ?_, fold := HF.out, st := ST.out, it := IT.out, zero := ZZ.out, sz := SZ.out, lg := hgz }
                  · rcases HOC.out with h | h
                    · rw [h.2]; rfl
                    · exact h.2.2
                  · rcases HOC.out with h | h
                    · exact .inl h.2
                    · exact .inr (HX.out.resolve_left h.2.1)
                case measure => rw [hmea, hmea2]; omega
            · have hks : k = s.size := by have := H.out.k1; omega
              have hnx := fun ty => run_next_stop (P := Tryz.prog) wr (w1.heap.size + 1 + 1) s k ty H.out.it hk
              have hfo := H.out.fold
              rw [show (lets s).drop k = [] from List.drop_of_length_le (by unfold lets; rw [List.length_map, Array.length_toList, hks]; exact Nat.le_refl _), foldF] at hfo
              have HF := Aside0.mk hfo
              have ST := Aside0.mk H.out.st
              have ZZ := Aside0.mk H.out.zero
              obtain ⟨L9, hL9⟩ : ∃ L9, L9 = L1 := ⟨_, rfl⟩
              obtain ⟨p9, hp9⟩ : ∃ p9, p9 = p1 := ⟨_, rfl⟩
              rw [← hL9] at HF ST
              rw [← hp9] at ST
              clear hfo H hL9 hp9
              go_wp2_with fail
              (with_reducible refine (CP.out w1.heap.size L9 p9 0 _ ST.out.isp).out.mono ?_)
              rintro e w9 ⟨rfl, ⟨m9, rfl⟩⟩
              have ST9 := Aside0.mk (ST.out.later (pw_below_drewN (Below.refl _ _) m9))
              have ZZ9 := Aside0.mk (blk_drewN ZZ.out m9)
              obtain ⟨at1, e2, hp⟩ : ∃ at1 e2, placeF a L9 0 = (at1, e2) := ⟨_, _, rfl⟩
              have hK := HK.out
              rw [← HF.out] at hK
              unfold endC at hK
              dsimp only at hK
              rw [hp] at hK ⊢
              dsimp only at hK ⊢
              clear hp ST ZZ
              by_cases he : e2 ≠ 0
              · have f1 : (e2 != 0) = true := bne_iff_ne.2 he
                have f2 : (e2 == 0) = false := beq_eq_false_iff_ne.2 he
                rw [if_pos he] at hK
                subst hK
                obtain ⟨z0, z1, z2, z3, z4, z5, z6, z7, z8, z9, z10⟩ := cells11 ZZ9.out
                obtain ⟨y0, y1, y2, y3, y4, y5, y6, y7, y8, y9, y10⟩ := free11 ZZ9.out
                go_wp2
                refine bodyPost_ret (results_ctt rfl _ _ _ TC _ (0, 0) _ rfl (put11 ZZ9.out _ _ _ _ _ _ _ _ _ _ _) Tryz.underlying42 rfl info_c) rfl ?_
                exact ⟨_, _, _, _, rfl, givesC_zero _ _, by (repeat (first | (with_reducible exact ST9.out.isp.low) | (with_reducible apply below_alloc) | (with_reducible apply pw_below_drewN) | (with_reducible apply below_drew1) | (with_reducible refine below_set ?_ (by first | assumption | omega))))⟩
              · have f1 : (e2 != 0) = false := bne_eq_false_iff_eq.2 (by omega)
                have f2 : (e2 == 0) = true := beq_iff_eq.2 (by omega)
                rw [if_neg he] at hK
                subst hK
                obtain ⟨A0, n0, c0, A1, n1, c1, A2, n2, c2, A3, n3, c3, rfl, rfl, rfl, rfl⟩ := ST9.out.slices
                obtain ⟨z0, z1, z2, z3, z4, z5, z6, z7, z8, z9, z10⟩ := cells11 ZZ9.out
                obtain ⟨y0, y1, y2, y3, y4, y5, y6, y7, y8, y9, y10⟩ := free11 ZZ9.out
                obtain ⟨x0, x1, x2, x3, x4, x5, x6, x7, x8, x9, x10⟩ := cells11 ST9.out.box
                go_wp2
                refine bodyPost_ret (results_ctt rfl _ _ _ TC _ (0, 0) _ rfl (put11 ZZ9.out _ _ _ _ _ _ _ _ _ _ _) Tryz.underlying42 rfl info_c) rfl ?_
                exact ⟨_, _, _, _, rfl, ST9.out.givesC (j := w.heap.size) (by omega) (by (repeat (first | (with_reducible exact Kept.refl _ _) | (with_reducible apply Kept.alloc) | (with_reducible apply Kept.drewN) | (with_reducible apply Kept.drew) | (with_reducible refine kept_at ?_ _ _) | (with_reducible refine kept_new ?_ _ _ (Nat.le_refl _)) | (with_reducible refine kept_new ?_ _ _ (by first | assumption | omega))))) (by omega), by (repeat (first | (with_reducible exact ST9.out.isp.low) | (with_reducible apply below_alloc) | (with_reducible apply pw_below_drewN) | (with_reducible apply below_drew1) | (with_reducible refine below_set ?_ (by first | assumption | omega))))⟩
end Go.Proofs.YtcinojbfjiohjaaGreatDoor.Pa
end

section
namespace Go.Proofs.YtcinojbfjiohjaaGreatDoor.Pr
open Go Go.RowKit Go.Proofs.YtcinojbfjiohjaaGreatDoor.PPrintTells Go.Proofs.YtcinojbfjiohjaaGreatDoor.Ex Go.Proofs.YtcinojbfjiohjaaGreatDoorW.PrintWords Go.Proofs.YtcinojbfjiohjaaGreatDoorW.PrintLast Go.Proofs.YtcinojbfjiohjaaGreatDoorW.PrintMore
open Go.Proofs.YtcinojbfjiohjaaGreatDoor.Pa (opsL mC mL mR nTok wTok opW seqW wordsX wordsL words_eq wordsL_nil wordsL_cons parseE back_all shapeF shapeL shF LBR CLN RBR)
open Go.Proofs.YtcinojbfjiohjaaGreatDoor.Lx (Tok TokW textT rightT lexL lexL_cons lexL_nil next_text markB blankB nextL consE mark_blank dashB)
set_option linter.unusedVariables false
set_option linter.unusedSimpArgs false
abbrev mk (s : ByteArray) : Tok := ⟨4, s, 0⟩
def endW (n : Int) (t : Bool) : List Tok := if t = true then [nTok n] else []
def rngW (c : Cmd) : List Tok := mk LBR :: (endW c.lo c.hl ++ mk CLN :: (endW c.hi c.hh ++ [mk RBR]))
def partW (c : Cmd) (b : UInt8) (NS : List ByteArray) (ns : List Int) : List Tok :=
  if b = 110 then [wTok (NS.headD e8)] else if b = 105 then [nTok (ns.headD 0)] else if b = 101 then wordsX c.x else if b = 114 then rngW c else [mk (Civ.toB [b])]
def cmdW (c : Cmd) : List UInt8 → List ByteArray → List Int → List Tok
  | [], _, _ => []
  | b :: r, NS, ns => partW c b NS ns ++ cmdW c r (tailN b NS) (tailI b ns)
def wordsC (c : Cmd) : List Tok := wTok c.wd :: cmdW c (shapeF c.wd).1.data.toList c.names c.nums
theorem free_nil : Free [] := fun b hb => by cases hb
theorem good_end (n : Int) (t : Bool) (h : -9223372036854775808 ≤ n ∧ n ≤ 9223372036854775807) : Good (endL n t) (endW n t) := by
  cases t
  · intro r L _ hl; exact hl
  · exact good_num n h
theorem good_mk (b : UInt8) (s : ByteArray) (hs : Civ.toB [b] = s) (hb : markB b = true) (hd : dashB b = false) {r : List UInt8} {L : List Tok} (hl : lexL r = (L, -1)) : Free (b :: r) ∧ lexL (b :: r) = (mk s :: L, -1) :=
  ⟨free_of b r hd, by rw [lex_mark b r L hb hl, hs]⟩
theorem good_rng (c : Cmd) (hI : Ints c) : Good (rngL c) (rngW c) := by
  intro r L hr hl
  obtain ⟨f1, l1⟩ := good_mk 93 RBR rfl (by decide) (by decide) hl
  obtain ⟨f2, l2⟩ := good_mk 58 CLN rfl (by decide) (by decide) (good_end c.hi c.hh hI.hi64 _ _ f1 l1)
  obtain ⟨f3, l3⟩ := good_mk 91 LBR rfl (by decide) (by decide) (good_end c.lo c.hl hI.lo64 _ _ f2 l2)
  unfold rngL rngW
  simp only [List.append_assoc, List.cons_append, List.nil_append]
  exact l3
theorem good_part (c : Cmd) (hI : Ints c) (b : UInt8) (hb : b = 110 ∨ b = 105 ∨ b = 101 ∨ b = 114 ∨ b = 61) (NS : List ByteArray) (ns : List Int) (hN : b = 110 → nameB (NS.headD e8) = true) (hn : ∀ v ∈ ns, -9223372036854775808 ≤ v ∧ v ≤ 9223372036854775807)
    (hx : b = 101 → Wf c.x ∧ allR c.x = true) : Good (partL c b NS ns) (partW c b NS ns) := by
  unfold partL partW
  by_cases h1 : b = 110
  · rw [if_pos h1, if_pos h1]
    exact good_name (hN h1)
  rw [if_neg h1, if_neg h1]
  by_cases h2 : b = 105
  · rw [if_pos h2, if_pos h2]
    exact good_num _ (head_int hn)
  rw [if_neg h2, if_neg h2]
  by_cases h3 : b = 101
  · rw [if_pos h3, if_pos h3]
    exact good_line _ c.x (Nat.le_refl _) (hx h3).1 (hx h3).2
  rw [if_neg h3, if_neg h3]
  by_cases h4 : b = 114
  · rw [if_pos h4, if_pos h4]
    exact good_rng c hI
  rw [if_neg h4, if_neg h4]
  have h5 : b = 61 := by
    rcases hb with h | h | h | h | h
    · exact absurd h h1
    · exact absurd h h2
    · exact absurd h h3
    · exact absurd h h4
    · exact h
  subst h5
  intro r L hr hl
  exact (good_mk 61 _ rfl (by decide) (by decide) hl).2
theorem free_cmd (c : Cmd) (l : List UInt8) (NS : List ByteArray) (ns : List Int) : Free (cmdL c l NS ns) := by
  cases l with
  | nil => exact free_nil
  | cons b l => rw [cmdL]; exact free_of 32 _ (by decide)
theorem count_head {l : List UInt8} {b a : UInt8} {n : Nat} (h : n = (b :: l).count a) : (b = a → n = l.count a + 1) ∧ (b ≠ a → n = l.count a) := by
  rw [List.count_cons] at h
  exact ⟨fun e => by rw [if_pos (by simp [e])] at h; exact h, fun e => by rw [if_neg (by simp [e])] at h; exact h⟩
theorem tail_counts {b : UInt8} {l : List UInt8} {NS : List ByteArray} {ns : List Int} (h1 : NS.length = (b :: l).count 110) (h2 : ns.length = (b :: l).count 105) :
    (tailN b NS).length = l.count 110 ∧ (tailI b ns).length = l.count 105 ∧ (b = 110 → ∃ s r, NS = s :: r) ∧ (b = 105 → ∃ v r, ns = v :: r) := by
  obtain ⟨a1, a2⟩ := count_head h1
  obtain ⟨b1, b2⟩ := count_head h2
  refine ⟨?_, ?_, fun e => ?_, fun e => ?_⟩
  · unfold tailN
    split
    · rename_i h; rw [List.length_drop, a1 h]; omega
    · rename_i h; exact a2 h
  · unfold tailI
    split
    · rename_i h; rw [List.length_drop, b1 h]; omega
    · rename_i h; exact b2 h
  · cases NS with
    | nil => have := a1 e; rw [List.length_nil] at this; omega
    | cons s r => exact ⟨s, r, rfl⟩
  · cases ns with
    | nil => have := b1 e; rw [List.length_nil] at this; omega
    | cons s r => exact ⟨s, r, rfl⟩
theorem tail_mem {b : UInt8} {NS : List ByteArray} {s : ByteArray} (h : s ∈ tailN b NS) : s ∈ NS := by
  unfold tailN at h
  split at h <;> first | exact List.mem_of_mem_drop h | exact h
theorem tail_memI {b : UInt8} {ns : List Int} {s : Int} (h : s ∈ tailI b ns) : s ∈ ns := by
  unfold tailI at h
  split at h <;> first | exact List.mem_of_mem_drop h | exact h
theorem lex_cmd (c : Cmd) (hI : Ints c) : ∀ (l : List UInt8) (NS : List ByteArray) (ns : List Int), (∀ b ∈ l, b = 110 ∨ b = 105 ∨ b = 101 ∨ b = 114 ∨ b = 61) → NS.length = l.count 110 → ns.length = l.count 105 → (∀ s ∈ NS, nameB s = true) → (∀ v ∈ ns, -9223372036854775808 ≤ v ∧ v ≤ 9223372036854775807) →
    (101 ∈ l → Wf c.x ∧ allR c.x = true) → lexL (cmdL c l NS ns) = (cmdW c l NS ns, -1)
  | [], _, _, _, _, _, _, _, _ => by rw [cmdL, cmdW]; exact lexL_nil
  | b :: l, NS, ns, hb, h1, h2, h3, h4, h5 => by
    obtain ⟨t1, t2, t3, t4⟩ := tail_counts h1 h2
    have ih := lex_cmd c hI l (tailN b NS) (tailI b ns) (fun a ha => hb a (by simp [ha])) t1 t2 (fun s hs => h3 s (tail_mem hs)) (fun s hs => h4 s (tail_memI hs)) (fun h => h5 (by simp [h]))
    rw [cmdL, cmdW]
    exact lex_blank _ _ (good_part c hI b (hb b (by simp)) NS ns (fun e => by obtain ⟨s, r, rfl⟩ := t3 e; exact h3 s (by simp)) h4 (fun e => h5 (by simp [e])) _ _ (free_cmd c l _ _) ih)
theorem shapes_name : ∀ q ∈ shapeL, nameB q.2 = true := by decide +kernel
theorem toB_eq {a b : ByteArray} (h : (a.toList == b.toList) = true) : a = b := by
  have h4 := eq_of_beq h
  rw [Lib.toList_data, Lib.toList_data] at h4
  cases a; cases b
  exact congrArg ByteArray.mk (Array.toList_inj.1 h4)
theorem shape_name {s : ByteArray} (h : (shapeF s).2 = true) : nameB s = true := by
  unfold shapeF at h
  rcases shF_cases s shapeL with h1 | ⟨q, hq, h1, h2⟩
  · rw [h1] at h; cases h
  · rw [← toB_eq h2]; exact shapes_name q hq
theorem lex_lineC {c : Cmd} (hI : Ints c) (hwf : Wf c.x) (hR : rightC c = true) : lexL (lineC c) = (wordsC c, -1) := by
  obtain ⟨h1, h2, h3, h4, h5⟩ := right_parts hR
  obtain ⟨hs, hlet⟩ := shape_let c.wd
  have hl := lex_cmd c hI (shapeF c.wd).1.data.toList c.names c.nums hlet (by omega) (by omega) (fun s hs => List.all_eq_true.1 h4 s hs) hI.ints (fun hm => ⟨hwf, (right_all (h5 hm)).1⟩)
  exact good_name (shape_name h1) _ _ (free_cmd c _ _ _) hl
end Go.Proofs.YtcinojbfjiohjaaGreatDoor.Pr
end

section
namespace Go.Proofs.YtcinojbfjiohjaaGreatDoor.Pr
open Go Go.RowKit Go.Proofs.YtcinojbfjiohjaaGreatDoor.PPrintTells Go.Proofs.YtcinojbfjiohjaaGreatDoor.Ex Go.Proofs.YtcinojbfjiohjaaGreatDoorW.PrintWords Go.Proofs.YtcinojbfjiohjaaGreatDoorW.PrintLast Go.Proofs.YtcinojbfjiohjaaGreatDoorW.PrintMore
open Go.Proofs.YtcinojbfjiohjaaGreatDoor.Pa (opsL mC mL mR nTok wTok opW seqW wordsX wordsL words_eq wordsL_nil wordsL_cons parseE back_all shapeF shapeL shF LBR CLN RBR takeF numF markF isF mark_yes is_yes endF scopeF partF foldF lets okL okL_cons exprF parseC endC placeF told zX zC wC)
open Go.Proofs.YtcinojbfjiohjaaGreatDoor.Lx (Tok TokW textT rightT lexL lexL_cons lexL_nil next_text markB blankB nextL consE mark_blank dashB)
set_option linter.unusedVariables false
set_option linter.unusedSimpArgs false
def toPa (c : Cmd) : Pa.Cmd := ⟨c.wd, c.names, c.nums, c.lo, c.hi, c.hl, c.hh, c.x⟩
theorem toPa_inj {c d : Cmd} (h : toPa c = toPa d) : c = d := by
  cases c; cases d
  unfold toPa at h
  simp only [Pa.Cmd.mk.injEq] at h
  simp only [Cmd.mk.injEq]
  exact h
theorem take_w (s : ByteArray) (R : List Tok) : takeF [1] (wTok s :: R) = (wTok s, R, 0) := by unfold takeF; exact if_pos ⟨by simp, by simp⟩
theorem num_n (v : Int) (R : List Tok) : numF (nTok v :: R) = (nTok v, R, 0) := by unfold numF takeF; exact if_pos ⟨by simp, by simp⟩
theorem is_num (s : ByteArray) (v : Int) (R : List Tok) : isF s (nTok v :: R) = false := by show (decide ((2 : Int) = 4) && (nil8.toList == s.toList)) = false; rw [decide_eq_false (by decide : ¬ (2 : Int) = 4), Bool.false_and]
theorem end_words (s : ByteArray) (n : Int) (t : Bool) (h : t = false → n = 0) (R : List Tok) : endF s (endW n t ++ mk s :: R) = (n, t, R, 0) := by
  unfold endF
  cases t
  · rw [h rfl]
    show (if isF s (mk s :: R) = true then _ else _) = _
    rw [if_pos (is_yes s R)]
    show ((0 : Int), false, (markF s (mk s :: R)).1, (markF s (mk s :: R)).2) = _
    rw [mark_yes s R]
  · show (if isF s (nTok n :: mk s :: R) = true then _ else _) = _
    rw [if_neg (by rw [is_num]; simp)]
    show (if (numF (nTok n :: mk s :: R)).2.2 = 0 then ((numF (nTok n :: mk s :: R)).1.f2, decide ((markF s (numF (nTok n :: mk s :: R)).2.1).2 = 0), (markF s (numF (nTok n :: mk s :: R)).2.1).1, (markF s (numF (nTok n :: mk s :: R)).2.1).2) else ((numF (nTok n :: mk s :: R)).1.f2, false, (numF (nTok n :: mk s :: R)).2.1, (numF (nTok n :: mk s :: R)).2.2)) = _
    rw [num_n]
    dsimp only
    rw [if_pos rfl, mark_yes s R]
    rfl
theorem scope_words (c : Cmd) (h1 : c.hl = false → c.lo = 0) (h2 : c.hh = false → c.hi = 0) (R : List Tok) : scopeF (rngW c ++ R) = ⟨c.lo, c.hi, c.hl, c.hh, R, 0⟩ := by
  have e : rngW c ++ R = mk LBR :: (endW c.lo c.hl ++ mk CLN :: (endW c.hi c.hh ++ mk RBR :: R)) := by
    unfold rngW
    simp
  rw [e]
  unfold scopeF
  rw [mark_yes LBR, if_neg (by simp)]
  dsimp only
  rw [end_words CLN c.lo c.hl h1]
  dsimp only
  rw [if_neg (by simp), end_words RBR c.hi c.hh h2]
theorem let_toNat {b : UInt8} {n : Nat} (hn : n < 256) (h : (b.toNat : Int) = n) : b = UInt8.ofNat n := by
  have h1 : b.toNat = n := by omega
  rw [← h1]
  simp
theorem ok_lets {b : UInt8} {l : List UInt8} (h : okL ((b :: l).map (fun b => (b.toNat : Int))) = true) : (b = 101 ∧ l = []) ∨ ((b = 110 ∨ b = 105 ∨ b = 114 ∨ b = 61) ∧ b ≠ 101 ∧ okL (l.map (fun b => (b.toNat : Int))) = true) := by
  rw [List.map_cons] at h
  rcases okL_cons h with ⟨h1, h2⟩ | ⟨h1, h2, h3⟩
  · exact .inl ⟨let_toNat (n := 101) (by decide) h1, List.map_eq_nil_iff.1 h2⟩
  · refine .inr ⟨?_, fun e => h2 (by rw [e]; rfl), h3⟩
    rcases h1 with h1 | h1 | h1 | h1
    · exact .inl (let_toNat (n := 110) (by decide) h1)
    · exact .inr (.inl (let_toNat (n := 105) (by decide) h1))
    · exact .inr (.inr (.inl (let_toNat (n := 114) (by decide) h1)))
    · exact .inr (.inr (.inr (let_toNat (n := 61) (by decide) h1)))
theorem part_n (k : Pa.Cmd) (L : List Tok) (p : Int) : partF ((110 : UInt8).toNat : Int) k L p = ({ k with names := k.names ++ [(takeF [1] L).1.f1] }, (takeF [1] L).2.1, p, (takeF [1] L).2.2) := rfl
theorem part_i (k : Pa.Cmd) (L : List Tok) (p : Int) : partF ((105 : UInt8).toNat : Int) k L p = ({ k with nums := k.nums ++ [(numF L).1.f2] }, (numF L).2.1, p, (numF L).2.2) := rfl
theorem part_r (k : Pa.Cmd) (L : List Tok) (p : Int) : partF ((114 : UInt8).toNat : Int) k L p = ({ k with lo := (scopeF L).lo, hi := (scopeF L).hi, hl := (scopeF L).hl, hh := (scopeF L).hh }, (scopeF L).l, p, (scopeF L).e) := rfl
theorem part_e (k : Pa.Cmd) (L : List Tok) (p : Int) : partF ((101 : UInt8).toNat : Int) k L p = ({ k with x := (exprF 40 p L).x }, (exprF 40 p L).l, (exprF 40 p L).p, (exprF 40 p L).e) := rfl
theorem part_eq (k : Pa.Cmd) (L : List Tok) (p : Int) : partF ((61 : UInt8).toNat : Int) k L p = (k, (markF ⟨#[61]⟩ L).1, p, (markF ⟨#[61]⟩ L).2) := rfl
theorem fold_words (c : Cmd) (hx : 101 ∈ (shapeF c.wd).1.data.toList → Wf c.x ∧ RightB c.x = true) (h1 : c.hl = false → c.lo = 0) (h2 : c.hh = false → c.hi = 0) : ∀ (l : List UInt8) (NS : List ByteArray) (ns : List Int) (k : Pa.Cmd),
    okL (l.map (fun b => (b.toNat : Int))) = true → NS.length = l.count 110 → ns.length = l.count 105 → (∀ b ∈ l, b ∈ (shapeF c.wd).1.data.toList) →
    foldF (l.map (fun b => (b.toNat : Int))) k (cmdW c l NS ns) 0 = (⟨k.word, k.names ++ NS, k.nums ++ ns, if 114 ∈ l then c.lo else k.lo, if 114 ∈ l then c.hi else k.hi, if 114 ∈ l then c.hl else k.hl, if 114 ∈ l then c.hh else k.hh, if 101 ∈ l then c.x else k.x⟩, [], 0)
  | [], NS, ns, k, _, e1, e2, _ => by
    obtain rfl : NS = [] := List.eq_nil_of_length_eq_zero e1
    obtain rfl : ns = [] := List.eq_nil_of_length_eq_zero e2
    rw [List.map_nil, foldF, cmdW]
    simp
  | b :: l, NS, ns, k, hok, e1, e2, hin => by
    obtain ⟨t1, t2, t3, t4⟩ := tail_counts e1 e2
    have hin2 : ∀ b ∈ l, b ∈ (shapeF c.wd).1.data.toList := fun a ha => hin a (by simp [ha])
    have ih := fun k h => fold_words c hx h1 h2 l (tailN b NS) (tailI b ns) k h t1 t2 hin2
    rcases ok_lets hok with ⟨rfl, rfl⟩ | ⟨hb, hne, hok2⟩
    · obtain ⟨hwf, hR⟩ := hx (hin 101 (by simp))
      obtain ⟨r1, r2, r3⟩ := Pa.right_parts hR
      have hT := (told (cnt c.x) c.x (Nat.le_refl _) hwf r1 40 r2).all 0 [] (by omega) (by omega) (fun _ => rfl)
      obtain rfl : NS = [] := List.eq_nil_of_length_eq_zero (by rw [e1]; rfl)
      obtain rfl : ns = [] := List.eq_nil_of_length_eq_zero (by rw [e2]; rfl)
      have hw : cmdW c [101] [] [] = wordsX c.x ++ [] := rfl
      rw [hw, List.map_cons, foldF, part_e, hT, List.map_nil]
      dsimp only
      rw [if_neg (by simp), foldF]
      simp
    · rw [List.map_cons, foldF, cmdW]
      rcases hb with rfl | rfl | rfl | rfl
      · obtain ⟨s, r, rfl⟩ := t3 rfl
        have hw : partW c 110 (s :: r) ns = [wTok s] := rfl
        rw [hw, part_n, List.singleton_append, take_w]
        dsimp only
        rw [if_neg (by simp), ih _ hok2]
        have ha : tailN 110 (s :: r) = r := rfl
        have hb : tailI 110 ns = ns := rfl
        rw [ha, hb]
        simp
      · obtain ⟨s, r, rfl⟩ := t4 rfl
        have hw : partW c 105 NS (s :: r) = [nTok s] := rfl
        rw [hw, part_i, List.singleton_append, num_n]
        dsimp only
        rw [if_neg (by simp), ih _ hok2]
        have ha : tailN 105 NS = NS := rfl
        have hb : tailI 105 (s :: r) = r := rfl
        rw [ha, hb]
        simp
      · have hw : partW c 114 NS ns = rngW c := rfl
        rw [hw, part_r, scope_words c h1 h2]
        dsimp only
        rw [if_neg (by simp), ih _ hok2]
        have ha : tailN 114 NS = NS := rfl
        have hb : tailI 114 ns = ns := rfl
        rw [ha, hb]
        simp
      · have hw : partW c 61 NS ns = [mk ⟨#[61]⟩] := rfl
        rw [hw, part_eq, List.singleton_append, mark_yes]
        dsimp only
        rw [if_neg (by simp), ih _ hok2]
        have ha : tailN 61 NS = NS := rfl
        have hb : tailI 61 ns = ns := rfl
        rw [ha, hb]
        simp
theorem hasC_mem (s : ByteArray) (b : UInt8) : hasC s b = true ↔ b ∈ s.data.toList := by
  unfold hasC
  rw [← Lib.contains_iff_indexByte]
  exact List.contains_iff_mem
theorem scoped_of {c : Cmd} (h : rightC c = true) : scopedB c.lo c.hi c.hl c.hh (hasC (shapeF c.wd).1 114) = true ∧ (hasC (shapeF c.wd).1 101 = false → bareB c.x = true) := by
  unfold rightC at h
  simp only [Bool.and_eq_true] at h
  obtain ⟨_, _, _, h4, _, h6⟩ := h
  exact ⟨h4, fun e => by rw [e] at h6; exact h6⟩
theorem bare_zero {x : X} (h : bareB x = true) : x = zX := by
  unfold bareB at h
  simp only [Bool.and_eq_true, beq_iff_eq] at h
  obtain ⟨a, b, c, d⟩ := h
  obtain ⟨o, n, ns, xs⟩ := x
  have a : o = 0 := a
  have c : ns = [] := List.isEmpty_iff.1 c
  have d : xs = [] := List.isEmpty_iff.1 d
  have b : n.toList.isEmpty = true := b
  rw [a, c, d, Pa.nil8_of b]
theorem parse_words {c : Cmd} (hwf : Wf c.x) (hR : rightC c = true) : parseC (wordsC c) = (toPa c, -1, 0) := by
  obtain ⟨h1, h2, h3, h4, h5⟩ := right_parts hR
  obtain ⟨h6, h7⟩ := scoped_of hR
  have hlo : c.hl = false → c.lo = 0 := fun e => by
    unfold scopedB at h6
    rw [e] at h6
    split at h6
    · simp only [Bool.false_or, Bool.and_eq_true, beq_iff_eq] at h6; exact h6.1
    · simp only [Bool.and_eq_true, beq_iff_eq] at h6; exact h6.1
  have hhi : c.hh = false → c.hi = 0 := fun e => by
    unfold scopedB at h6
    rw [e] at h6
    split at h6
    · simp only [Bool.false_or, Bool.and_eq_true, beq_iff_eq] at h6; exact h6.2
    · simp only [Bool.and_eq_true, beq_iff_eq] at h6; exact h6.2.1
  have hF := fold_words c (fun hm => ⟨hwf, h5 hm⟩) hlo hhi (shapeF c.wd).1.data.toList c.names c.nums (wC c.wd) (Pa.shape_ok c.wd).1 (by omega) (by omega) (fun _ h => h)
  have hr : 114 ∉ (shapeF c.wd).1.data.toList → c.lo = 0 ∧ c.hi = 0 ∧ c.hl = false ∧ c.hh = false := fun hm => by
    unfold scopedB at h6
    rw [if_neg (by rw [hasC_mem]; exact hm)] at h6
    simp only [Bool.and_eq_true, beq_iff_eq, Bool.not_eq_true'] at h6
    exact ⟨h6.1, h6.2.1, h6.2.2.1, h6.2.2.2⟩
  have hx : 101 ∉ (shapeF c.wd).1.data.toList → c.x = zX := fun hm => bare_zero (h7 (by
    rw [← Bool.not_eq_true, hasC_mem]; exact hm))
  have hC : (⟨(wC c.wd).word, (wC c.wd).names ++ c.names, (wC c.wd).nums ++ c.nums, if 114 ∈ (shapeF c.wd).1.data.toList then c.lo else (wC c.wd).lo, if 114 ∈ (shapeF c.wd).1.data.toList then c.hi else (wC c.wd).hi, if 114 ∈ (shapeF c.wd).1.data.toList then c.hl else (wC c.wd).hl, if 114 ∈ (shapeF c.wd).1.data.toList then c.hh else (wC c.wd).hh, if 101 ∈ (shapeF c.wd).1.data.toList then c.x else (wC c.wd).x⟩ : Pa.Cmd) = toPa c := by
    unfold toPa
    by_cases hm : 114 ∈ (shapeF c.wd).1.data.toList
    · by_cases he : 101 ∈ (shapeF c.wd).1.data.toList
      · simp only [if_pos hm, if_pos he]; rfl
      · simp only [if_pos hm, if_neg he]; rw [hx he]; rfl
    · obtain ⟨a1, a2, a3, a4⟩ := hr hm
      by_cases he : 101 ∈ (shapeF c.wd).1.data.toList
      · simp only [if_neg hm, if_pos he]; rw [a1, a2, a3, a4]; rfl
      · simp only [if_neg hm, if_neg he]; rw [a1, a2, a3, a4, hx he]; rfl
  rw [hC] at hF
  show (if (wTok c.wd).f0 ≠ 1 then (zC, (0 : Int), (110 : Int)) else if (shapeF c.wd).2 = false then (zC, 0, 110) else endC (((cmdW c (shapeF c.wd).1.data.toList c.names c.nums).length : Int) + 1) (foldF (lets (shapeF c.wd).1) (wC c.wd) (cmdW c (shapeF c.wd).1.data.toList c.names c.nums) 0)) = _
  rw [if_neg (by simp), if_neg (by rw [h1]; simp), show foldF (lets (shapeF c.wd).1) (wC c.wd) (cmdW c (shapeF c.wd).1.data.toList c.names c.nums) 0 = (toPa c, [], 0) from hF]
  rfl
theorem line_injC {c d : Cmd} (hc : Ints c) (hd : Ints d) (wc : Wf c.x) (wd : Wf d.x) (h1 : rightC c = true) (h2 : rightC d = true) (h : lineC c = lineC d) : c = d := by
  have a := lex_lineC hc wc h1
  have b := lex_lineC hd wd h2
  rw [h, b] at a
  have hw : wordsC d = wordsC c := congrArg Prod.fst a
  have p := parse_words wc h1
  have q := parse_words wd h2
  rw [← hw, q] at p
  exact toPa_inj (congrArg Prod.fst p).symm
end Go.Proofs.YtcinojbfjiohjaaGreatDoor.Pr
end

section
namespace Go.Proofs.YtcinojbfjiohjaaGreatDoor.Pr
open Go Go.RowKit Go.Proofs.YtcinojbfjiohjaaGreatDoor.PPrintTells Go.Proofs.YtcinojbfjiohjaaGreatDoor.Ex Go.Proofs.YtcinojbfjiohjaaGreatDoorW.PrintWords Go.Proofs.YtcinojbfjiohjaaGreatDoorW.PrintLast Go.Proofs.YtcinojbfjiohjaaGreatDoorW.PrintMore
open Go.Proofs.YtcinojbfjiohjaaGreatDoor.Pa (opsL shapeF shapeL shF LBR CLN RBR RPA COM LPA takeF numF markF isF kindF opF endF scopeF partF foldF lets okL exprF exprG stepsF itemF manyOf parseC endC placeF zX zC wC Res take_cases mark_cases)
open Go.Proofs.YtcinojbfjiohjaaGreatDoor.Lx (Tok TokW textT rightT lexL spanN namedL)
set_option linter.unusedVariables false
set_option linter.unusedSimpArgs false
abbrev I64 (n : Int) : Prop := -9223372036854775808 ≤ n ∧ n ≤ 9223372036854775807
structure TokG (t : Tok) : Prop where
  name : t.f0 = 1 → nameB t.f1 = true
  n64 : I64 t.f2
theorem span_full (p : UInt8 → Bool) : ∀ l : List UInt8, spanN p l = l.length → l.all p = true
  | [], _ => rfl
  | b :: l, h => by
    have e : spanN p (b :: l) = if p b = true then spanN p l + 1 else 0 := rfl
    rw [e, List.length_cons] at h
    by_cases hb : p b = true
    · rw [if_pos hb] at h
      rw [List.all_cons, hb, span_full p l (by omega)]
      rfl
    · rw [if_neg hb] at h; omega
theorem letter_alpha (b : UInt8) (h1 : letterB b = true) (h2 : digitB b = false) : alphaB b = true := by
  unfold letterB at h1
  rw [h2, Bool.or_false] at h1
  exact h1
theorem tok_good {t : Tok} (h : rightT t = true) (hW : TokW t) : TokG t := by
  refine ⟨fun h0 => ?_, hW.n0, hW.n1⟩
  unfold rightT textT at h
  rw [if_pos h0] at h
  simp only [Bool.and_eq_true, decide_eq_true_eq] at h
  obtain ⟨⟨h1, h2⟩, h3⟩ := h
  have hsz : t.f1.size = t.f1.data.toList.length := (Array.length_toList).symm
  rw [hsz] at h3
  have h4 := span_full _ _ h3
  unfold nameB
  cases hl : t.f1.data.toList with
  | nil => rw [hl] at h1; cases h1
  | cons b l =>
    rw [hl] at h1 h4
    unfold namedL at h1
    simp only [Bool.and_eq_true, decide_eq_true_eq, Bool.not_eq_true'] at h1
    rw [List.all_cons, Bool.and_eq_true] at h4
    show (decide (l.length < 30) && alphaB b && l.all letterB) = true
    rw [decide_eq_true h1.1, letter_alpha b h4.1 h1.2, h4.2]
    rfl
theorem name_size {s : ByteArray} (h : nameB s = true) : s.size ≤ 140737488351232 := by
  have := name_len h
  have hsz : s.size = s.data.toList.length := (Array.length_toList).symm
  omega
theorem wf_leaf (s : ByteArray) (hs : s.size ≤ 140737488351232) : Wf ⟨0, s, [], []⟩ := by rw [Wf_eq]; exact ⟨⟨Int.le_refl 0, show (0 : Int) ≤ 255 by decide⟩, hs, by simp, by rw [WfL]; trivial⟩
structure Out (d : Nat) (p : Int) (r : Res) : Prop where
  wf : Wf r.x
  all : allR r.x = true
  dep : dep r.x ≤ d
  cnt : r.p = p + cnt r.x
  le : r.p ≤ 2000
  toks : ∀ t ∈ r.l, TokG t
structure SOut (d nums many m : Nat) (x : X) (p : Int) (r : Res) : Prop where
  f0 : r.x.f0 = x.f0
  f1 : r.x.f1 = x.f1
  n2 : r.x.f2.length = x.f2.length + (nums - (many - m))
  n3 : r.x.f3.length + (nums - (many - m)) = x.f3.length + m
  i2 : ∀ v ∈ r.x.f2, v ∈ x.f2 ∨ I64 v
  i3 : ∀ z ∈ r.x.f3, z ∈ x.f3 ∨ (Wf z ∧ allR z = true ∧ Ex.dep z ≤ d)
  cnt : r.p + cntL x.f3 = p + cntL r.x.f3
  le : r.p ≤ 2000
  toks : ∀ t ∈ r.l, TokG t
theorem mark_sub (s : ByteArray) (L : List Tok) (h : (markF s L).2 = 0) : ∀ t ∈ (markF s L).1, t ∈ L := by
  rcases mark_cases s L with ⟨t, r, rfl, h1, _⟩ | ⟨h1, _⟩
  · rw [h1]
    intro u hu
    exact List.mem_cons_of_mem _ hu
  · rw [h1] at h; cases h
theorem take_good (ks : List Int) (L : List Tok) (h : (takeF ks L).2.2 = 0) (hL : ∀ t ∈ L, TokG t) : ∃ t r, L = t :: r ∧ takeF ks L = (t, r, 0) ∧ t.f0 ∈ ks ∧ TokG t ∧ ∀ u ∈ r, TokG u := by
  rcases take_cases ks L with ⟨t, r, rfl, h1, h2⟩ | h1
  · exact ⟨t, r, rfl, h1, h2, hL t (by simp), fun u hu => hL u (List.mem_cons_of_mem _ hu)⟩
  · rw [h1] at h; cases h
theorem steps_right (d nums many : Nat) (hnm : nums ≤ many) (hrec : ∀ p L, (∀ t ∈ L, TokG t) → 0 ≤ p → (exprF d p L).e = 0 → Out d p (exprF d p L)) : ∀ (m : Nat) (x : X) (p : Int) (L : List Tok), m ≤ many → (∀ t ∈ L, TokG t) → 0 ≤ p → p ≤ 2000 →
    (stepsF (exprF d) nums many m x p L).e = 0 → SOut d nums many m x p (stepsF (exprF d) nums many m x p L) := by
  intro m
  induction m with
  | zero =>
    intro x p L hm hL h0 h1 he
    rw [stepsF]
    exact ⟨rfl, rfl, by show x.f2.length = _; omega, by show x.f3.length + _ = _; omega, fun v hv => .inl hv, fun z hz => .inl hz, rfl, h1, hL⟩
  | succ m ih =>
    intro x p L hm hL h0 h1 he
    rw [stepsF] at he ⊢
    obtain ⟨it, hit⟩ : ∃ it, itemF (exprF d) (decide (many - (m + 1) < nums)) x p L = it := ⟨_, rfl⟩
    rw [hit] at he ⊢
    by_cases h2 : it.e ≠ 0
    · rw [if_pos h2] at he; exact absurd he h2
    rw [if_neg h2] at he ⊢
    have hsub := mark_sub (if m = 0 then RPA else COM) it.l
    obtain ⟨mk, hmk⟩ : ∃ mk, markF (if m = 0 then RPA else COM) it.l = mk := ⟨_, rfl⟩
    rw [hmk] at he hsub ⊢
    by_cases h3 : mk.2 ≠ 0
    · rw [if_pos h3] at he; exact absurd he h3
    rw [if_neg h3] at he ⊢
    have h2 : it.e = 0 := Decidable.not_not.1 h2
    have h3 : mk.2 = 0 := Decidable.not_not.1 h3
    unfold itemF at hit
    by_cases hn : many - (m + 1) < nums
    · rw [decide_eq_true hn, if_pos rfl] at hit
      rw [← hit] at h2
      obtain ⟨t, r, hLr, ht, _, hg, hr⟩ := take_good [2, 3] L h2 hL
      have hnf : numF L = (t, r, 0) := ht
      rw [hnf] at hit
      subst hit
      dsimp only at he hsub ⊢
      have ho := ih ⟨x.f0, x.f1, x.f2 ++ [t.f2], x.f3⟩ p mk.1 (by omega) (fun u hu => hr u (hsub h3 u hu)) h0 h1 he
      have n2 := ho.n2
      have n3 := ho.n3
      dsimp only at n2 n3
      rw [List.length_append, List.length_singleton] at n2
      exact ⟨ho.f0, ho.f1, by omega, by omega, fun v hv => by
        rcases ho.i2 v hv with h | h
        · rcases List.mem_append.1 h with h | h
          · exact .inl h
          · rw [List.mem_singleton.1 h]; exact .inr hg.n64
        · exact .inr h, ho.i3, ho.cnt, ho.le, ho.toks⟩
    · rw [decide_eq_false hn, if_neg (by simp)] at hit
      rw [← hit] at h2
      have hE := hrec p L hL h0 h2
      generalize exprF d p L = r at hit hE
      subst hit
      dsimp only at he hsub ⊢
      have hcp := cnt_pos r.x
      have ho := ih ⟨x.f0, x.f1, x.f2, x.f3 ++ [r.x]⟩ r.p mk.1 (by omega) (fun u hu => hE.toks u (hsub h3 u hu)) (by have := hE.cnt; omega) hE.le he
      have n2 := ho.n2
      have n3 := ho.n3
      have nc := ho.cnt
      dsimp only at n2 n3 nc
      rw [List.length_append, List.length_singleton] at n3
      rw [cntL_append, cntL_cons, cntL_nil] at nc
      have hc := hE.cnt
      exact ⟨ho.f0, ho.f1, by omega, by omega, ho.i2, fun z hz => by
        rcases ho.i3 z hz with h | h
        · rcases List.mem_append.1 h with h | h
          · exact .inl h
          · rw [List.mem_singleton.1 h]; exact .inr ⟨hE.wf, hE.all, hE.dep⟩
        · exact .inr h, by omega, ho.le, ho.toks⟩
theorem op_inv {s : ByteArray} (h : (opF s).2 = true) : 1 ≤ (opF s).1 ∧ (opF s).1 ≤ 12 := by
  have h1 := Pa.idx_le s
  unfold opF at h ⊢
  split at h
  · cases h
  · rename_i hn
    rw [if_neg hn]
    dsimp only
    omega
theorem depL_le {xs : List X} {d : Nat} (h : ∀ y ∈ xs, dep y ≤ d) : depL xs ≤ d := by
  induction xs with
  | nil => rw [depL_nil]; exact Nat.zero_le _
  | cons y ys ih =>
    rw [depL_cons]
    have h1 := h y (by simp)
    have h2 := ih (fun z hz => h z (by simp [hz]))
    omega
theorem allRL_of {xs : List X} (h : ∀ y ∈ xs, allR y = true) : allRL xs = true := by
  induction xs with
  | nil => exact allRL_nil
  | cons y ys ih => rw [allRL_cons, h y (by simp), ih (fun z hz => h z (by simp [hz]))]; rfl
theorem expr_right : ∀ (d : Nat) (p : Int) (L : List Tok), (∀ t ∈ L, TokG t) → 0 ≤ p → (exprF d p L).e = 0 → Out d p (exprF d p L) := by
  intro d
  induction d with
  | zero =>
    intro p L hL h0 he
    exfalso
    have e : exprF 0 p L = exprG true (fun p L => ⟨zX, L, p, 111⟩) p L := rfl
    rw [e] at he
    unfold exprG at he
    by_cases hk : kindF L = 1
    · rw [if_pos ⟨hk, .inl rfl⟩] at he; cases he
    · rw [if_neg (fun h => hk h.1)] at he
      rcases take_cases [1] L with ⟨t, r, rfl, _, h2⟩ | h1
      · exact hk (List.mem_singleton.1 h2)
      · rw [h1, if_pos (by simp)] at he; cases he
  | succ d ih =>
    intro p L hL h0 he
    have e : exprF (d + 1) p L = exprG false (exprF d) p L := rfl
    rw [e] at he ⊢
    unfold exprG at he ⊢
    by_cases hk : kindF L = 1 ∧ (false = true ∨ 2000 ≤ p)
    · rw [if_pos hk] at he; cases he
    rw [if_neg hk] at he ⊢
    by_cases ht : (takeF [1] L).2.2 ≠ 0
    · rw [if_pos ht] at he; exact absurd he ht
    rw [if_neg ht] at he ⊢
    obtain ⟨t, r, rfl, h1, h2, hg, hr⟩ := take_good [1] L (Decidable.not_not.1 ht) hL
    have h3 : t.f0 = 1 := List.mem_singleton.1 h2
    have hp : p < 2000 := by
      rcases Int.lt_or_le p 2000 with h | h
      · exact h
      · exact absurd ⟨h3, .inr h⟩ hk
    rw [h1] at he ⊢
    dsimp only at he ⊢
    by_cases ho : (opF t.f1).2 = true ∧ isF LPA r = true
    · rw [if_pos ho] at he ⊢
      obtain ⟨o1, o2⟩ := op_inv ho.1
      generalize (opF t.f1).1 = o at *
      obtain ⟨m1, m2, m3, m4⟩ := Pa.many_ge o o1 o2
      have hs := steps_right d (numsOf o).toNat (manyOf o) (by omega) ih (manyOf o) ⟨o, Pa.nil8, [], []⟩ (p + 1) r.tail (Nat.le_refl _) (fun u hu => hr u (List.mem_of_mem_tail hu)) (by omega) (by omega) he
      generalize stepsF (exprF d) (numsOf o).toNat (manyOf o) (manyOf o) ⟨o, Pa.nil8, [], []⟩ (p + 1) r.tail = R at *
      obtain ⟨y, l, q, ee⟩ := R
      obtain ⟨f0, f1, f2, f3⟩ := y
      obtain ⟨s0, s1, s2, s3, s4, s5, s6, s7, s8⟩ := hs
      dsimp only at s0 s1 s2 s3 s4 s5 s6 s7 s8 he
      subst s0
      subst s1
      rw [List.length_nil] at s2 s3
      rw [cntL_nil] at s6
      have hz : ∀ z ∈ f3, Wf z ∧ allR z = true ∧ dep z ≤ d := fun z hz => by
        rcases s5 z hz with h | h
        · cases h
        · exact h
      have hv : ∀ v ∈ f2, I64 v := fun v hv => by
        rcases s4 v hv with h | h
        · cases h
        · exact h
      refine ⟨?_, ?_, ?_, ?_, s7, s8⟩
      · exact (Wf_eq _).2 ⟨⟨by show 0 ≤ f0; omega, by show f0 ≤ 255; omega⟩, by show (0 : Nat) ≤ _; omega, hv, WfL_of (fun z h => (hz z h).1)⟩
      · rw [allR_eq, allRL_of (xs := f3) (fun z h => (hz z h).2.1), Bool.and_true]
        unfold rightB
        dsimp only
        rw [decide_eq_true (show f0 ≤ 12 from o2), decide_eq_true (show (f2.length : Int) = numsOf f0 by omega), decide_eq_true (show (f3.length : Int) = argsOf f0 by omega), if_neg (show ¬ f0 = 0 by omega)]
        decide +kernel
      · rw [dep_eq]
        have := depL_le (xs := f3) (fun z h => (hz z h).2.2)
        show 1 + depL f3 ≤ d + 1
        omega
      · rw [cnt_eq]
        show q = p + ((1 + cntL f3 : Nat) : Int)
        omega
    · rw [if_neg ho] at he ⊢
      have hn := hg.name h3
      refine ⟨?_, ?_, ?_, ?_, by show p + 1 ≤ 2000; omega, hr⟩
      · exact wf_leaf t.f1 (name_size hn)
      · rw [allR_eq, allRL_nil, Bool.and_true]
        unfold rightB
        dsimp only
        rw [if_pos rfl, hn]
        have h1 : numsOf 0 = 0 := by decide
        have h2 : argsOf 0 = 0 := by decide
        simp [h1, h2]
      · rw [dep_eq, depL_nil]; omega
      · rw [cnt_eq, cntL_nil]; rfl
structure Rg (c : Pa.Cmd) : Prop where
  l : c.hl = false → c.lo = 0
  h : c.hh = false → c.hi = 0
  l64 : I64 c.lo
  h64 : I64 c.hi
theorem end_right (s : ByteArray) (L : List Tok) (hL : ∀ t ∈ L, TokG t) (h : (endF s L).2.2.2 = 0) : ((endF s L).2.1 = false → (endF s L).1 = 0) ∧ I64 (endF s L).1 ∧ ∀ t ∈ (endF s L).2.2.1, TokG t := by
  unfold endF at h ⊢
  by_cases hi : isF s L = true
  · rw [if_pos hi] at h ⊢
    exact ⟨fun _ => rfl, (⟨by decide, by decide⟩ : I64 0), fun t ht => hL t (mark_sub s L h t ht)⟩
  rw [if_neg hi] at h ⊢
  by_cases hn : (numF L).2.2 = 0
  · rw [if_pos hn] at h ⊢
    obtain ⟨t, r, rfl, h1, _, hg, hr⟩ := take_good [2, 3] L hn hL
    have hnf : numF (t :: r) = (t, r, 0) := h1
    rw [hnf] at h ⊢
    dsimp only at h ⊢
    exact ⟨fun e => (by rw [decide_eq_true h] at e; cases e), hg.n64, fun u hu => hr u (mark_sub s r h u hu)⟩
  · rw [if_neg hn] at h
    exact absurd h hn
theorem scope_right (L : List Tok) (hL : ∀ t ∈ L, TokG t) (h : (scopeF L).e = 0) (k : Pa.Cmd) : Rg { k with lo := (scopeF L).lo, hi := (scopeF L).hi, hl := (scopeF L).hl, hh := (scopeF L).hh } ∧ ∀ t ∈ (scopeF L).l, TokG t := by
  unfold scopeF at h ⊢
  by_cases h1 : (markF LBR L).2 ≠ 0
  · rw [if_pos h1] at h; exact absurd h h1
  rw [if_neg h1] at h ⊢
  have h1 := Decidable.not_not.1 h1
  by_cases h2 : (endF CLN (markF LBR L).1).2.2.2 ≠ 0
  · rw [if_pos h2] at h; exact absurd h h2
  rw [if_neg h2] at h ⊢
  have h2 := Decidable.not_not.1 h2
  obtain ⟨a1, a2, a3⟩ := end_right CLN _ (fun t ht => hL t (mark_sub LBR L h1 t ht)) h2
  obtain ⟨b1, b2, b3⟩ := end_right RBR _ a3 h
  exact ⟨⟨a1, b1, a2, b2⟩, b3⟩
structure FOut (k : Pa.Cmd) (l : List UInt8) (c : Pa.Cmd) : Prop where
  wd : c.word = k.word
  nl : c.names.length = k.names.length + l.count 110
  ns : ∀ s ∈ c.names, s ∈ k.names ∨ nameB s = true
  il : c.nums.length = k.nums.length + l.count 105
  iv : ∀ v ∈ c.nums, v ∈ k.nums ∨ I64 v
  rg : 114 ∈ l → Rg c
  rn : 114 ∉ l → c.lo = k.lo ∧ c.hi = k.hi ∧ c.hl = k.hl ∧ c.hh = k.hh
  ex : 101 ∈ l → Wf c.x ∧ RightB c.x = true
  en : 101 ∉ l → c.x = k.x
theorem fold_right : ∀ (l : List UInt8) (k : Pa.Cmd) (L : List Tok), okL (l.map (fun b => (b.toNat : Int))) = true → (∀ t ∈ L, TokG t) →
    (foldF (l.map (fun b => (b.toNat : Int))) k L 0).2.2 = 0 → FOut k l (foldF (l.map (fun b => (b.toNat : Int))) k L 0).1
  | [], k, L, _, hL, he => by
    rw [List.map_nil, foldF]
    exact ⟨rfl, rfl, fun s h => .inl h, rfl, fun v h => .inl h, fun h => (by cases h), fun _ => ⟨rfl, rfl, rfl, rfl⟩, fun h => (by cases h), fun _ => rfl⟩
  | b :: l, k, L, hok, hL, he => by
    rcases ok_lets hok with ⟨rfl, rfl⟩ | ⟨hb, hne, hok2⟩
    · rw [List.map_cons, foldF, part_e, List.map_nil] at he ⊢
      dsimp only at he ⊢
      by_cases h1 : (exprF 40 0 L).e ≠ 0
      · rw [if_pos h1] at he; exact absurd he h1
      rw [if_neg h1, foldF] at he ⊢
      have ho := expr_right 40 0 L hL (Int.le_refl _) (Decidable.not_not.1 h1)
      have hr : RightB (exprF 40 0 L).x = true := by
        have h3 := ho.cnt
        have h4 := ho.le
        unfold RightB
        rw [ho.all, decide_eq_true ho.dep, decide_eq_true (show Ex.cnt (exprF 40 0 L).x ≤ 2000 by omega)]
        rfl
      exact ⟨rfl, rfl, fun s h => .inl h, rfl, fun v h => .inl h, fun h => (by simp at h), fun _ => ⟨rfl, rfl, rfl, rfl⟩, fun _ => ⟨ho.wf, hr⟩, fun h => by simp at h⟩
    · rw [List.map_cons, foldF] at he ⊢
      rcases hb with rfl | rfl | rfl | rfl
      · rw [part_n] at he ⊢
        dsimp only at he ⊢
        by_cases h1 : (takeF [1] L).2.2 ≠ 0
        · rw [if_pos h1] at he; exact absurd he h1
        rw [if_neg h1] at he ⊢
        obtain ⟨t, r, rfl, h2, h3, hg, hr⟩ := take_good [1] L (Decidable.not_not.1 h1) hL
        rw [h2] at he ⊢
        dsimp only at he ⊢
        have ih := fold_right l _ r hok2 hr he
        obtain ⟨a1, a2, a3, a4, a5, a6, a7, a8, a9⟩ := ih
        dsimp only at a1 a2 a3 a4 a5 a6 a7 a8 a9
        rw [List.length_append, List.length_singleton] at a2
        refine ⟨a1, by rw [a2, List.count_cons_self]; omega, fun s h => ?_, by rw [a4, List.count_cons_of_ne (by decide)], a5, fun h => a6 (by simpa using h), fun h => a7 (by simpa using h), fun h => a8 (by simpa using h), fun h => a9 (by simpa using h)⟩
        rcases a3 s h with h | h
        · rcases List.mem_append.1 h with h | h
          · exact .inl h
          · rw [List.mem_singleton.1 h]; exact .inr (hg.name (List.mem_singleton.1 h3))
        · exact .inr h
      · rw [part_i] at he ⊢
        dsimp only at he ⊢
        by_cases h1 : (numF L).2.2 ≠ 0
        · rw [if_pos h1] at he; exact absurd he h1
        rw [if_neg h1] at he ⊢
        obtain ⟨t, r, rfl, h2, h3, hg, hr⟩ := take_good [2, 3] L (Decidable.not_not.1 h1) hL
        have hnf : numF (t :: r) = (t, r, 0) := h2
        rw [hnf] at he ⊢
        dsimp only at he ⊢
        have ih := fold_right l _ r hok2 hr he
        obtain ⟨a1, a2, a3, a4, a5, a6, a7, a8, a9⟩ := ih
        dsimp only at a1 a2 a3 a4 a5 a6 a7 a8 a9
        rw [List.length_append, List.length_singleton] at a4
        refine ⟨a1, by rw [a2, List.count_cons_of_ne (by decide)], a3, by rw [a4, List.count_cons_self]; omega, fun s h => ?_, fun h => a6 (by simpa using h), fun h => a7 (by simpa using h), fun h => a8 (by simpa using h), fun h => a9 (by simpa using h)⟩
        rcases a5 s h with h | h
        · rcases List.mem_append.1 h with h | h
          · exact .inl h
          · rw [List.mem_singleton.1 h]; exact .inr hg.n64
        · exact .inr h
      · rw [part_r] at he ⊢
        dsimp only at he ⊢
        by_cases h1 : (scopeF L).e ≠ 0
        · rw [if_pos h1] at he; exact absurd he h1
        rw [if_neg h1] at he ⊢
        obtain ⟨s1, s2⟩ := scope_right L hL (Decidable.not_not.1 h1) k
        have ih := fold_right l _ (scopeF L).l hok2 s2 he
        generalize (foldF (l.map (fun b => (b.toNat : Int))) { k with lo := (scopeF L).lo, hi := (scopeF L).hi, hl := (scopeF L).hl, hh := (scopeF L).hh } (scopeF L).l 0).1 = R at *
        obtain ⟨a1, a2, a3, a4, a5, a6, a7, a8, a9⟩ := ih
        dsimp only at a1 a2 a3 a4 a5 a6 a7 a8 a9
        refine ⟨a1, by rw [a2, List.count_cons_of_ne (by decide)], a3, by rw [a4, List.count_cons_of_ne (by decide)], a5, fun _ => ?_, fun h => absurd (by simp) h, fun h => a8 (by simpa using h), fun h => a9 (by simpa using h)⟩
        by_cases hm : 114 ∈ l
        · exact a6 hm
        · obtain ⟨b1, b2, b3, b4⟩ := a7 hm
          obtain ⟨c1, c2, c3, c4⟩ := s1
          dsimp only at c1 c2 c3 c4
          exact ⟨by rw [b1, b3]; exact c1, by rw [b2, b4]; exact c2, by rw [b1]; exact c3, by rw [b2]; exact c4⟩
      · rw [part_eq] at he ⊢
        dsimp only at he ⊢
        by_cases h1 : (markF ⟨#[61]⟩ L).2 ≠ 0
        · rw [if_pos h1] at he; exact absurd he h1
        rw [if_neg h1] at he ⊢
        have ih := fold_right l _ _ hok2 (fun t ht => hL t (mark_sub _ L (Decidable.not_not.1 h1) t ht)) he
        obtain ⟨a1, a2, a3, a4, a5, a6, a7, a8, a9⟩ := ih
        exact ⟨a1, by rw [a2, List.count_cons_of_ne (by decide)], a3, by rw [a4, List.count_cons_of_ne (by decide)], a5, fun h => a6 (by simpa using h), fun h => a7 (by simpa using h), fun h => a8 (by simpa using h), fun h => a9 (by simpa using h)⟩
def ofPa (c : Pa.Cmd) : Cmd := ⟨c.word, c.names, c.nums, c.lo, c.hi, c.hl, c.hh, c.x⟩
theorem has_not (s : ByteArray) (b : UInt8) (h : b ∉ s.data.toList) : hasC s b = false := by
  rw [← Bool.not_eq_true, hasC_mem]; exact h
theorem parse_right (L : List Tok) (hL : ∀ t ∈ L, TokG t) (h : (parseC L).2.2 = 0) : rightC (ofPa (parseC L).1) = true ∧ Ints (ofPa (parseC L).1) ∧ Wf (parseC L).1.x ∧ (∀ s ∈ (parseC L).1.names, nameB s = true) ∧ (parseC L).2.1 = -1 := by
  cases L with
  | nil => cases h
  | cons t r =>
    have e : parseC (t :: r) = if t.f0 ≠ 1 then (zC, 0, 110) else if (shapeF t.f1).2 = false then (zC, 0, 110) else endC ((r.length : Int) + 1) (foldF (lets (shapeF t.f1).1) (wC t.f1) r 0) := rfl
    rw [e] at h ⊢
    by_cases h1 : t.f0 ≠ 1
    · rw [if_pos h1] at h; cases h
    rw [if_neg h1] at h ⊢
    by_cases h2 : (shapeF t.f1).2 = false
    · rw [if_pos h2] at h; cases h
    rw [if_neg h2] at h ⊢
    unfold endC at h ⊢
    by_cases h3 : (placeF ((r.length : Int) + 1) (foldF (lets (shapeF t.f1).1) (wC t.f1) r 0).2.1 (foldF (lets (shapeF t.f1).1) (wC t.f1) r 0).2.2).2 ≠ 0
    · rw [if_pos h3] at h; exact absurd h h3
    rw [if_neg h3] at h ⊢
    have h3 := Decidable.not_not.1 h3
    have h4 : (foldF (lets (shapeF t.f1).1) (wC t.f1) r 0).2.2 = 0 := by
      unfold placeF at h3
      by_cases h5 : (foldF (lets (shapeF t.f1).1) (wC t.f1) r 0).2.2 = 0
      · exact h5
      · rw [if_neg h5] at h3; exact absurd h3 h5
    have h6 : (placeF ((r.length : Int) + 1) (foldF (lets (shapeF t.f1).1) (wC t.f1) r 0).2.1 (foldF (lets (shapeF t.f1).1) (wC t.f1) r 0).2.2).1 = -1 := by
      unfold placeF at h3 ⊢
      rw [if_pos h4] at h3 ⊢
      by_cases h5 : (foldF (lets (shapeF t.f1).1) (wC t.f1) r 0).2.1 = []
      · rw [if_pos h5]
      · rw [if_neg h5] at h3; cases h3
    have ho := fold_right (shapeF t.f1).1.data.toList (wC t.f1) r (Pa.shape_ok t.f1).1 (fun u hu => hL u (List.mem_cons_of_mem _ hu)) h4
    have hfold : foldF ((shapeF t.f1).1.data.toList.map (fun b => (b.toNat : Int))) (wC t.f1) r 0 = foldF (lets (shapeF t.f1).1) (wC t.f1) r 0 := rfl
    rw [hfold] at ho
    dsimp only
    generalize (foldF (lets (shapeF t.f1).1) (wC t.f1) r 0).1 = c at *
    obtain ⟨a1, a2, a3, a4, a5, a6, a7, a8, a9⟩ := ho
    have hns : ∀ s ∈ c.names, nameB s = true := fun s hs => by
      rcases a3 s hs with h | h
      · cases h
      · exact h
    have hiv : ∀ v ∈ c.nums, I64 v := fun v hv => by
      rcases a5 v hv with h | h
      · cases h
      · exact h
    have h0 : I64 0 := ⟨by decide, by decide⟩
    have hr64 : I64 c.lo ∧ I64 c.hi := by
      by_cases hm : 114 ∈ (shapeF t.f1).1.data.toList
      · exact ⟨(a6 hm).l64, (a6 hm).h64⟩
      · obtain ⟨b1, b2, _, _⟩ := a7 hm
        rw [b1, b2]
        exact ⟨h0, h0⟩
    have hwf : Wf c.x := by
      by_cases hm : 101 ∈ (shapeF t.f1).1.data.toList
      · exact (a8 hm).1
      · rw [a9 hm]; exact wf_leaf _ (by decide)
    refine ⟨?_, ⟨hiv, hr64.1, hr64.2⟩, hwf, hns, h6⟩
    have hw : (ofPa c).wd = t.f1 := a1
    unfold rightC
    rw [hw]
    have e1 : decide (cntC (shapeF t.f1).1 110 = ((ofPa c).names.length : Int)) = true := decide_eq_true (by
      show ((Lib.countByte (shapeF t.f1).1.data.toList 110 : Nat) : Int) = (c.names.length : Int)
      rw [a2]; unfold Lib.countByte; simp)
    have e2 : decide (cntC (shapeF t.f1).1 105 = ((ofPa c).nums.length : Int)) = true := decide_eq_true (by
      show ((Lib.countByte (shapeF t.f1).1.data.toList 105 : Nat) : Int) = (c.nums.length : Int)
      rw [a4]; unfold Lib.countByte; simp)
    have e3 : scopedB (ofPa c).lo (ofPa c).hi (ofPa c).hl (ofPa c).hh (hasC (shapeF t.f1).1 114) = true := by
      show scopedB c.lo c.hi c.hl c.hh _ = true
      by_cases hm : 114 ∈ (shapeF t.f1).1.data.toList
      · rw [(hasC_mem _ _).2 hm]
        obtain ⟨b1, b2, _, _⟩ := a6 hm
        unfold scopedB
        rw [if_pos rfl]
        cases hl : c.hl <;> cases hh : c.hh <;> simp [b1, b2, hl, hh]
      · rw [has_not _ _ hm]
        obtain ⟨b1, b2, b3, b4⟩ := a7 hm
        rw [b1, b2, b3, b4]
        rfl
    have e4 : (ofPa c).names.all nameB = true := List.all_eq_true.2 hns
    have e5 : (if hasC (shapeF t.f1).1 101 = true then RightB (ofPa c).x else bareB (ofPa c).x) = true := by
      show (if hasC (shapeF t.f1).1 101 = true then RightB c.x else bareB c.x) = true
      by_cases hm : 101 ∈ (shapeF t.f1).1.data.toList
      · rw [if_pos ((hasC_mem _ _).2 hm)]; exact (a8 hm).2
      · rw [if_neg (by rw [hasC_mem]; exact hm), a9 hm]
        show bareB zX = true
        decide +kernel
    rw [e1, e2, e3, e4, e5, show (shapeF t.f1).2 = true by simpa using h2]
    rfl
end Go.Proofs.YtcinojbfjiohjaaGreatDoor.Pr
end

section
namespace Go.Proofs.YtcinojbfjiohjaaGreatDoor.Pr
open Go Go.RowKit Go.Proofs.YtcinojbfjiohjaaGreatDoor.PPrintTells Go.Proofs.YtcinojbfjiohjaaGreatDoor.Ex Go.Proofs.YtcinojbfjiohjaaGreatDoorW.PrintWords Go.Proofs.YtcinojbfjiohjaaGreatDoorW.PrintLast Go.Proofs.YtcinojbfjiohjaaGreatDoorW.PrintMore
set_option linter.unusedVariables false
set_option linter.unusedSimpArgs false
attribute [local go_sem high] eqA40
theorem int_at {w : World} {A : Option Addr} {X : List Int} (h : kI.C w A X.length X) (i : Nat) (hi : i < X.length) : ∃ ad, A = some ad ∧ w.cell? (ad.add i) = some (.int .i64 X[i]) := by
  obtain ⟨ad, c, hA, hl, hK, hc⟩ := Kd.C_get h 0 (i : Int) (by omega) (by omega)
  have e : X.getD (i : Int).toNat 0 = X[i] := by
    rw [Int.toNat_natCast, List.getD_eq_getElem?_getD, List.getElem?_eq_getElem hi]
    rfl
  rw [e] at hK
  have hc0 : c = [.int .i64 X[i]] := hK
  subst hc0
  have h1 := hc 0 _ rfl
  rw [Int.toNat_natCast] at h1
  refine ⟨ad, hA, ?_⟩
  have e2 : i * kI.sz + 0 = i := by show i * 1 + 0 = i; omega
  rw [e2] at h1
  exact h1
noncomputable def sameC (c d : Cmd) : Bool := @decide (c = d) (Classical.propDecidable _)
theorem sameC_iff (c d : Cmd) : sameC c d = true ↔ c = d := by unfold sameC; exact @decide_eq_true_iff _ (Classical.propDecidable _)
theorem sameC_no {c d : Cmd} (h : c ≠ d) : sameC c d = false := by
  rw [← Bool.not_eq_true, sameC_iff]; exact h
theorem take_same {α : Type} {X Y : List α} {k : Nat} (hk : k < X.length) (hl : k < Y.length) (h : X.take k = Y.take k) (he : X[k] = Y[k]) : X.take (k + 1) = Y.take (k + 1) := by
  rw [List.take_succ_eq_append_getElem hk, List.take_succ_eq_append_getElem hl, h, he]
theorem str_ne {s t : ByteArray} (h : s ≠ t) : (s.toList == t.toList) = false := by
  rw [beq_eq_false_iff_ne]
  intro e
  rw [Lib.toList_data, Lib.toList_data] at e
  apply h
  cases s; cases t
  exact congrArg ByteArray.mk (Array.toList_inj.1 e)
set_option maxHeartbeats 32000000 in
set_option maxRecDepth 100000 in
theorem same_calls (c : Cmd) (A1 : Option Addr) (c1 : Nat) (A2 : Option Addr) (c2 : Nat) (A3 : Option Addr) (c3 : Nat) (A4 : Option Addr) (c4 : Nat) (d : Cmd) (B1 : Option Addr) (d1 : Nat) (B2 : Option Addr) (d2 : Nat) (B3 : Option Addr) (d3 : Nat) (B4 : Option Addr) (d4 : Nat) (w : World)
    (hc : HasC w c A1 c1 A2 c2 A3 c3 A4 c4) (hd : HasC w d B1 d1 B2 d2 B3 d3 B4 d4) :
    Calls Tryz.prog 20 #[.agg (cmA c A1 c1 A2 c2 A3 c3 A4 c4), .agg (cmA d B1 d1 B2 d2 B3 d3 B4 d4)] w fun e w' => e = .returned (.bool (sameC c d)) ∧ Below w.heap.size w w' := by
  have HR := Aside0.mk (sameC_iff c d)
  have HF := Aside0.mk (fun h => sameC_no (c := c) (d := d) h)
  have CS := fun W (h : Below w.heap.size w W) => Aside0.mk (Same_calls (cnt c.x) c.x d.x A3 c3 A4 c4 B3 d3 B4 d4 W (Nat.le_refl _) (hc.has.below h) (hd.has.below h))
  have SX := Aside0.mk (same_iff c.x d.x)
  have P1 := Aside0.mk hc.C1
  have Q1 := Aside0.mk hd.C1
  have P2 := Aside0.mk hc.C2
  have Q2 := Aside0.mk hd.C2
  have hm1 : c.names.length ≤ 9223372036854775807 := Kd.C_max hc.C1
  have hm2 : c.nums.length ≤ 9223372036854775807 := Kd.C_max hc.C2
  generalize sameC c d = R at *
  generalize sameX c.x d.x = Q at *
  clear hc hd
  obtain ⟨wd, NS, ms, lo, hi, hl, hh, x⟩ := c
  obtain ⟨we, NS9, ms9, lo9, hi9, hl9, hh9, y⟩ := d
  unfold cmA agg at *
  dsimp only at *
  obtain ⟨o, ho⟩ : ∃ o, o = x.f0 := ⟨_, rfl⟩
  obtain ⟨nm, hnm⟩ : ∃ nm, nm = x.f1 := ⟨_, rfl⟩
  obtain ⟨n3, hn3⟩ : ∃ n3, n3 = x.f2.length := ⟨_, rfl⟩
  obtain ⟨n4, hn4⟩ : ∃ n4, n4 = x.f3.length := ⟨_, rfl⟩
  obtain ⟨p, hp⟩ : ∃ p, p = y.f0 := ⟨_, rfl⟩
  obtain ⟨qm, hqm⟩ : ∃ qm, qm = y.f1 := ⟨_, rfl⟩
  obtain ⟨m3, hm3⟩ : ∃ m3, m3 = y.f2.length := ⟨_, rfl⟩
  obtain ⟨m4, hm4⟩ : ∃ m4, m4 = y.f3.length := ⟨_, rfl⟩
  rw [← ho, ← hnm, ← hn3, ← hn4, ← hp, ← hqm, ← hm3, ← hm4] at CS ⊢
  clear ho hnm hn3 hn4 hp hqm hm3 hm4
  obtain ⟨N, hN⟩ : ∃ N, N = NS.length := ⟨_, rfl⟩
  obtain ⟨M, hM⟩ : ∃ M, M = ms.length := ⟨_, rfl⟩
  obtain ⟨N9, hN9⟩ : ∃ N, N = NS9.length := ⟨_, rfl⟩
  obtain ⟨M9, hM9⟩ : ∃ M, M = ms9.length := ⟨_, rfl⟩
  rw [← hN, ← hM, ← hN9, ← hM9]
  rw [← hN] at hm1
  rw [← hM] at hm2
  have HN := Aside0.mk hN
  have HM := Aside0.mk hM
  have HN9 := Aside0.mk hN9
  have HM9 := Aside0.mk hM9
  clear hN hM hN9 hM9
  have hk0 : ((w.alloc (cmO wd A1 N c1 A2 M c2 lo hi hl hh o nm A3 n3 c3 A4 n4 c4)).alloc (cmO we B1 N9 d1 B2 M9 d2 lo9 hi9 hl9 hh9 p qm B3 m3 d3 B4 m4 d4)).heap[w.heap.size]? = some (cmO wd A1 N c1 A2 M c2 lo hi hl hh o nm A3 n3 c3 A4 n4 c4) := blk_below (blk_new w (cmO wd A1 N c1 A2 M c2 lo hi hl hh o nm A3 n3 c3 A4 n4 c4)) (below_alloc (Below.refl _ _) _)
  have hk1 : ((w.alloc (cmO wd A1 N c1 A2 M c2 lo hi hl hh o nm A3 n3 c3 A4 n4 c4)).alloc (cmO we B1 N9 d1 B2 M9 d2 lo9 hi9 hl9 hh9 p qm B3 m3 d3 B4 m4 d4)).heap[w.heap.size + 1]? = some (cmO we B1 N9 d1 B2 M9 d2 lo9 hi9 hl9 hh9 p qm B3 m3 d3 B4 m4 d4) := by have h := blk_new (w.alloc (cmO wd A1 N c1 A2 M c2 lo hi hl hh o nm A3 n3 c3 A4 n4 c4)) (cmO we B1 N9 d1 B2 M9 d2 lo9 hi9 hl9 hh9 p qm B3 m3 d3 B4 m4 d4); rwa [show (w.alloc (cmO wd A1 N c1 A2 M c2 lo hi hl hh o nm A3 n3 c3 A4 n4 c4)).heap.size = w.heap.size + 1 from Array.size_push ..] at h
  have HB1 := Aside0.mk (show Below w.heap.size w ((w.alloc (cmO wd A1 N c1 A2 M c2 lo hi hl hh o nm A3 n3 c3 A4 n4 c4)).alloc (cmO we B1 N9 d1 B2 M9 d2 lo9 hi9 hl9 hh9 p qm B3 m3 d3 B4 m4 d4)) from below_alloc (below_alloc (Below.refl _ _) _) _)
  obtain ⟨y0, y1, y2, y3, y4, y5, y6, y7, y8, y9, ya⟩ := cells11 hk0
  obtain ⟨z0, z1, z2, z3, z4, z5, z6, z7, z8, z9, za⟩ := cells11 hk1
  have CS := CS _ HB1.out
  by_cases h1 : wd = we
  case neg =>
    have e1 := str_ne h1
    have hRf : R = false := HF.out (fun e => h1 (congrArg Cmd.wd e))
    clear CS h1
    go_enter Tryz.func20, Tryz.ntmps20
    go_wp2
    go_ret
    exact ⟨by first | rfl | (rw [hRf]; rfl), HB1.out⟩
  subst h1
  have e1 : (wd.toList == wd.toList) = true := beq_self_eq_true _
  by_cases h2 : lo = lo9 ∧ hi = hi9 ∧ hl = hl9 ∧ hh = hh9
  case neg =>
    have e2 : (lo == lo9 && (hi == hi9 && (hl == hl9 && (hh == hh9)))) = false := by
      rw [← Bool.not_eq_true]
      simp only [Bool.and_eq_true, beq_iff_eq]
      exact h2
    have hRf : R = false := HF.out (fun e => h2 ⟨congrArg Cmd.lo e, congrArg Cmd.hi e, congrArg Cmd.hl e, congrArg Cmd.hh e⟩)
    clear CS h2
    go_enter Tryz.func20, Tryz.ntmps20
    go_wp2
    go_ret
    exact ⟨by first | rfl | (rw [hRf]; rfl), HB1.out⟩
  obtain ⟨rfl, rfl, rfl, rfl⟩ := h2
  have e2 : (lo == lo && (hi == hi && (hl == hl && (hh == hh)))) = true := by simp
  by_cases h3 : N = N9
  case neg =>
    have e3 : ((N : Int) == (N9 : Int)) = false := beq_eq_false_iff_ne.2 (by omega)
    have e4 : ¬ ((N : Int) = (N9 : Int)) := by omega
    have hRf : R = false := HF.out (fun e => h3 (by rw [HN.out, HN9.out]; exact congrArg (fun c => c.names.length) e))
    clear CS h3
    go_enter Tryz.func20, Tryz.ntmps20
    go_wp2
    go_ret
    exact ⟨by first | rfl | (rw [hRf]; rfl), HB1.out⟩
  subst h3
  have e3 : ((N : Int) == (N : Int)) = true := beq_self_eq_true _
  by_cases h4 : M = M9
  case neg =>
    have e5 : ((M : Int) == (M9 : Int)) = false := beq_eq_false_iff_ne.2 (by omega)
    have e4 : ¬ ((M : Int) = (M9 : Int)) := by omega
    have hRf : R = false := HF.out (fun e => h4 (by rw [HM.out, HM9.out]; exact congrArg (fun c => c.nums.length) e))
    clear CS h4
    go_enter Tryz.func20, Tryz.ntmps20
    go_wp2
    go_ret
    exact ⟨by first | rfl | (rw [hRf]; rfl), HB1.out⟩
  subst h4
  have e5 : ((M : Int) == (M : Int)) = true := beq_self_eq_true _
  cases Q
  · have hRf : R = false := HF.out (fun e => by have h := SX.out.2 (congrArg Cmd.x e); cases h)
    go_enter Tryz.func20, Tryz.ntmps20
    go_wp2_with fail
    (with_reducible refine CS.out.mono ?_)
    rintro e w2 ⟨rfl, hb⟩
    have HB2 := Aside0.mk (below_then HB1.out HB1.out.size hb)
    go_wp2
    go_ret
    exact ⟨by first | rfl | (rw [hRf]; rfl), HB2.out⟩
  have hxy : x = y := SX.out.1 rfl
  have HXY := Aside0.mk hxy
  clear hxy SX
  go_enter Tryz.func20, Tryz.ntmps20
  go_wp2_with fail
  (with_reducible refine CS.out.mono ?_)
  rintro e w2 ⟨rfl, hb⟩
  have HB2 := Aside0.mk (below_then HB1.out HB1.out.size hb)
  have HY2 := Aside0.mk (blk_below hk0 hb)
  have HZ2 := Aside0.mk (blk_below hk1 hb)
  clear hb CS hk0 hk1 y0 y1 y2 y3 y4 y5 y6 y7 y8 y9 ya z0 z1 z2 z3 z4 z5 z6 z7 z8 z9 za
  obtain ⟨y0, y1, y2, y3, y4, y5, y6, y7, y8, y9, ya⟩ := cells11 HY2.out
  obtain ⟨z0, z1, z2, z3, z4, z5, z6, z7, z8, z9, za⟩ := cells11 HZ2.out
  go_wp2_with fail
  clear y0 y1 y2 y3 y4 y5 y6 y7 y8 y9 ya z0 z1 z2 z3 z4 z5 z6 z7 z8 z9 za
  go_loopw [5, 48] (fun i0 j wr => (∃ k : Nat, k ≤ N ∧ j = .int .i64 (k : Int) ∧ NS.take k = NS9.take k) ∧ Below w2.heap.size w2 wr) (fun _ j _ => N - (intOf j).toNat)
  case atStart => exact ⟨⟨0, Nat.zero_le _, rfl, rfl⟩, Below.refl _ _⟩
  case round =>
    obtain ⟨⟨k, hk, rfl, hall⟩, hbr⟩ := hrel
    have HALL := Aside0.mk hall
    have HBW := Aside0.mk hbr
    have HBR := Aside0.mk (below_then HB2.out HB2.out.size hbr)
    have HYr := Aside0.mk (blk_below HY2.out hbr)
    have HZr := Aside0.mk (blk_below HZ2.out hbr)
    clear hall hbr
    obtain ⟨y0, y1, y2, y3, y4, y5, y6, y7, y8, y9, ya⟩ := cells11 HYr.out
    obtain ⟨z0, z1, z2, z3, z4, z5, z6, z7, z8, z9, za⟩ := cells11 HZr.out
    by_cases hkn : k < N
    · have i1 : (k : Int) < (N : Int) := by omega
      have i2 : decide ((k : Int) < (N : Int)) = true := decide_eq_true i1
      have i3 : (0 : Int) ≤ (k : Int) := by omega
      have ha : k < NS.length := by rw [← HN.out]; exact hkn
      have hb9 : k < NS9.length := by rw [← HN9.out]; exact hkn
      obtain ⟨ad, rfl, hx⟩ := str_at P1.out k ha
      obtain ⟨bd, rfl, hy⟩ := str_at Q1.out k hb9
      have hx := (HBR.out.cell (World.block_lt_of_cell? w _ hx)).trans hx
      have hy := (HBR.out.cell (World.block_lt_of_cell? w _ hy)).trans hy
      have TS := fun h => Aside0.mk (take_same ha hb9 HALL.out h)
      have FS : NS[k] ≠ NS9[k] → R = false := fun h => HF.out (fun e => h (by have e2 : NS = NS9 := congrArg Cmd.names e; subst e2; rfl))
      obtain ⟨s, hs⟩ : ∃ s, s = NS[k] := ⟨_, rfl⟩
      obtain ⟨t, ht⟩ : ∃ t, t = NS9[k] := ⟨_, rfl⟩
      rw [← hs] at hx TS FS
      rw [← ht] at hy TS FS
      clear hs ht
      by_cases hst : s = t
      · subst hst
        have e6 : (s.toList == s.toList) = true := beq_self_eq_true _
        have TS2 := TS rfl
        clear FS TS
        go_wp2_with fail
        refine start_ (n := 11) (S := fun w' => w'.cell? ⟨w.heap.size, 1, none⟩ = some (.slice (some ad) N c1) ∧ w'.cell? ⟨w.heap.size + 1, 1, none⟩ = some (.slice (some bd) N d1) ∧ w'.cell? (ad.add k) = some (.string s) ∧ w'.cell? (bd.add k) = some (.string s)) (ds := []) #[false, false, false, false, false, false, false, false, false, false, false] (by kernel_rfl) rfl rfl ⟨y1, z1, hx, hy⟩ (fun hHeld => ?_)
        refine pure_ (i := 0) (N := some 51) (v := ?_) (a' := ?_) #[true, false, false, false, false, false, false, false, false, false, false] rfl rfl (by kernel_rfl) (fun _ _ _ h => h) (Or.inl ⟨by rfl, ?_⟩) ?_ ?_
        rotate_left
        · intro w'
          go_simp
          with_reducible rfl
        rotate_left
        · simp only [Act.put, List.setIfInBounds_toArray, List.set_cons_zero, List.set_cons_succ, i64_w, i32_w]
          rfl
        refine pure_ (i := 2) (N := some 53) (v := ?_) (a' := ?_) #[true, false, true, false, false, false, false, false, false, false, false] rfl rfl (by kernel_rfl) (fun _ _ _ h => h) (Or.inl ⟨by rfl, ?_⟩) ?_ ?_
        rotate_left
        · intro w'
          go_simp
          with_reducible rfl
        rotate_left
        · simp only [Act.put, List.setIfInBounds_toArray, List.set_cons_zero, List.set_cons_succ, i64_w, i32_w]
          rfl
        refine pure_ (i := 5) (N := some 56) (v := ?_) (a' := ?_) #[true, false, true, false, false, true, false, false, false, false, false] rfl rfl (by kernel_rfl) (fun _ _ _ h => h) (Or.inl ⟨by rfl, ?_⟩) ?_ ?_
        rotate_left
        · intro w'
          go_simp
          with_reducible rfl
        rotate_left
        · simp only [Act.put, List.setIfInBounds_toArray, List.set_cons_zero, List.set_cons_succ, i64_w, i32_w]
          rfl
        refine pure_ (i := 7) (N := some 58) (v := ?_) (a' := ?_) #[true, false, true, false, false, true, false, true, false, false, false] rfl rfl (by kernel_rfl) (fun _ _ _ h => h) (Or.inl ⟨by rfl, ?_⟩) ?_ ?_
        rotate_left
        · intro w'
          go_simp
          with_reducible rfl
        rotate_left
        · simp only [Act.put, List.setIfInBounds_toArray, List.set_cons_zero, List.set_cons_succ, i64_w, i32_w]
          rfl
        refine take_ (i := 1) (N := some 52) (v := ?_) (a' := ?_) #[true, true, true, false, false, true, false, true, false, false, false] rfl rfl (by kernel_rfl) (fun _ _ _ h => h) (Or.inl ⟨by rfl, ?_⟩) hHeld ?_ ?_
        rotate_left
        · rintro w' ⟨s0, s1, s2, s3⟩
          go_simp
          with_reducible rfl
        rotate_left
        · simp only [Act.put, List.setIfInBounds_toArray, List.set_cons_zero, List.set_cons_succ, i64_w, i32_w]
          rfl
        refine pure_ (i := 3) (N := some 54) (v := ?_) (a' := ?_) #[true, true, true, true, false, true, false, true, false, false, false] rfl rfl (by kernel_rfl) (fun _ _ _ h => h) (Or.inl ⟨by rfl, ?_⟩) ?_ ?_
        rotate_left
        · intro w'
          go_simp
          with_reducible rfl
        rotate_left
        · simp only [Act.put, List.setIfInBounds_toArray, List.set_cons_zero, List.set_cons_succ, i64_w, i32_w]
          rfl
        refine take_ (i := 4) (N := some 55) (v := ?_) (a' := ?_) #[true, true, true, true, true, true, false, true, false, false, false] rfl rfl (by kernel_rfl) (fun _ _ _ h => h) (Or.inl ⟨by rfl, ?_⟩) hHeld ?_ ?_
        rotate_left
        · rintro w' ⟨s0, s1, s2, s3⟩
          go_simp
          with_reducible rfl
        rotate_left
        · simp only [Act.put, List.setIfInBounds_toArray, List.set_cons_zero, List.set_cons_succ, i64_w, i32_w]
          rfl
        refine take_ (i := 6) (N := some 57) (v := ?_) (a' := ?_) #[true, true, true, true, true, true, true, true, false, false, false] rfl rfl (by kernel_rfl) (fun _ _ _ h => h) (Or.inl ⟨by rfl, ?_⟩) hHeld ?_ ?_
        rotate_left
        · rintro w' ⟨s0, s1, s2, s3⟩
          go_simp
          with_reducible rfl
        rotate_left
        · simp only [Act.put, List.setIfInBounds_toArray, List.set_cons_zero, List.set_cons_succ, i64_w, i32_w]
          rfl
        refine pure_ (i := 8) (N := some 59) (v := ?_) (a' := ?_) #[true, true, true, true, true, true, true, true, true, false, false] rfl rfl (by kernel_rfl) (fun _ _ _ h => h) (Or.inl ⟨by rfl, ?_⟩) ?_ ?_
        rotate_left
        · intro w'
          go_simp
          with_reducible rfl
        rotate_left
        · simp only [Act.put, List.setIfInBounds_toArray, List.set_cons_zero, List.set_cons_succ, i64_w, i32_w]
          rfl
        refine take_ (i := 9) (N := some 60) (v := ?_) (a' := ?_) #[true, true, true, true, true, true, true, true, true, true, false] rfl rfl (by kernel_rfl) (fun _ _ _ h => h) (Or.inl ⟨by rfl, ?_⟩) hHeld ?_ ?_
        rotate_left
        · rintro w' ⟨s0, s1, s2, s3⟩
          go_simp
          with_reducible rfl
        rotate_left
        · simp only [Act.put, List.setIfInBounds_toArray, List.set_cons_zero, List.set_cons_succ, i64_w, i32_w]
          rfl
        refine pure_ (i := 10) (N := some 61) (v := ?_) (a' := ?_) #[true, true, true, true, true, true, true, true, true, true, true] rfl rfl (by kernel_rfl) (fun _ _ _ h => h) (Or.inl ⟨by rfl, ?_⟩) ?_ ?_
        rotate_left
        · intro w'
          go_simp
          with_reducible rfl
        rotate_left
        · simp only [Act.put, List.setIfInBounds_toArray, List.set_cons_zero, List.set_cons_succ, i64_w, i32_w]
          rfl
        refine done_ (by kernel_rfl) ?_
        have HBD := Aside0.mk (below_drew HBW.out)
        go_wp2_with fail
        go_roundw
        case rel => exact ⟨⟨k + 1, by omega, by go_num, TS2.out⟩, HBD.out⟩
        case measure => simp [intOf]; omega
      · have e6 := str_ne hst
        have hRf := FS hst
        have HBD := Aside0.mk (below_drew HBR.out)
        clear FS TS hst
        go_wp2_with fail
        refine start_ (n := 11) (S := fun w' => w'.cell? ⟨w.heap.size, 1, none⟩ = some (.slice (some ad) N c1) ∧ w'.cell? ⟨w.heap.size + 1, 1, none⟩ = some (.slice (some bd) N d1) ∧ w'.cell? (ad.add k) = some (.string s) ∧ w'.cell? (bd.add k) = some (.string t)) (ds := []) #[false, false, false, false, false, false, false, false, false, false, false] (by kernel_rfl) rfl rfl ⟨y1, z1, hx, hy⟩ (fun hHeld => ?_)
        refine pure_ (i := 0) (N := some 51) (v := ?_) (a' := ?_) #[true, false, false, false, false, false, false, false, false, false, false] rfl rfl (by kernel_rfl) (fun _ _ _ h => h) (Or.inl ⟨by rfl, ?_⟩) ?_ ?_
        rotate_left
        · intro w'
          go_simp
          with_reducible rfl
        rotate_left
        · simp only [Act.put, List.setIfInBounds_toArray, List.set_cons_zero, List.set_cons_succ, i64_w, i32_w]
          rfl
        refine pure_ (i := 2) (N := some 53) (v := ?_) (a' := ?_) #[true, false, true, false, false, false, false, false, false, false, false] rfl rfl (by kernel_rfl) (fun _ _ _ h => h) (Or.inl ⟨by rfl, ?_⟩) ?_ ?_
        rotate_left
        · intro w'
          go_simp
          with_reducible rfl
        rotate_left
        · simp only [Act.put, List.setIfInBounds_toArray, List.set_cons_zero, List.set_cons_succ, i64_w, i32_w]
          rfl
        refine pure_ (i := 5) (N := some 56) (v := ?_) (a' := ?_) #[true, false, true, false, false, true, false, false, false, false, false] rfl rfl (by kernel_rfl) (fun _ _ _ h => h) (Or.inl ⟨by rfl, ?_⟩) ?_ ?_
        rotate_left
        · intro w'
          go_simp
          with_reducible rfl
        rotate_left
        · simp only [Act.put, List.setIfInBounds_toArray, List.set_cons_zero, List.set_cons_succ, i64_w, i32_w]
          rfl
        refine pure_ (i := 7) (N := some 58) (v := ?_) (a' := ?_) #[true, false, true, false, false, true, false, true, false, false, false] rfl rfl (by kernel_rfl) (fun _ _ _ h => h) (Or.inl ⟨by rfl, ?_⟩) ?_ ?_
        rotate_left
        · intro w'
          go_simp
          with_reducible rfl
        rotate_left
        · simp only [Act.put, List.setIfInBounds_toArray, List.set_cons_zero, List.set_cons_succ, i64_w, i32_w]
          rfl
        refine take_ (i := 1) (N := some 52) (v := ?_) (a' := ?_) #[true, true, true, false, false, true, false, true, false, false, false] rfl rfl (by kernel_rfl) (fun _ _ _ h => h) (Or.inl ⟨by rfl, ?_⟩) hHeld ?_ ?_
        rotate_left
        · rintro w' ⟨s0, s1, s2, s3⟩
          go_simp
          with_reducible rfl
        rotate_left
        · simp only [Act.put, List.setIfInBounds_toArray, List.set_cons_zero, List.set_cons_succ, i64_w, i32_w]
          rfl
        refine pure_ (i := 3) (N := some 54) (v := ?_) (a' := ?_) #[true, true, true, true, false, true, false, true, false, false, false] rfl rfl (by kernel_rfl) (fun _ _ _ h => h) (Or.inl ⟨by rfl, ?_⟩) ?_ ?_
        rotate_left
        · intro w'
          go_simp
          with_reducible rfl
        rotate_left
        · simp only [Act.put, List.setIfInBounds_toArray, List.set_cons_zero, List.set_cons_succ, i64_w, i32_w]
          rfl
        refine take_ (i := 4) (N := some 55) (v := ?_) (a' := ?_) #[true, true, true, true, true, true, false, true, false, false, false] rfl rfl (by kernel_rfl) (fun _ _ _ h => h) (Or.inl ⟨by rfl, ?_⟩) hHeld ?_ ?_
        rotate_left
        · rintro w' ⟨s0, s1, s2, s3⟩
          go_simp
          with_reducible rfl
        rotate_left
        · simp only [Act.put, List.setIfInBounds_toArray, List.set_cons_zero, List.set_cons_succ, i64_w, i32_w]
          rfl
        refine take_ (i := 6) (N := some 57) (v := ?_) (a' := ?_) #[true, true, true, true, true, true, true, true, false, false, false] rfl rfl (by kernel_rfl) (fun _ _ _ h => h) (Or.inl ⟨by rfl, ?_⟩) hHeld ?_ ?_
        rotate_left
        · rintro w' ⟨s0, s1, s2, s3⟩
          go_simp
          with_reducible rfl
        rotate_left
        · simp only [Act.put, List.setIfInBounds_toArray, List.set_cons_zero, List.set_cons_succ, i64_w, i32_w]
          rfl
        refine pure_ (i := 8) (N := some 59) (v := ?_) (a' := ?_) #[true, true, true, true, true, true, true, true, true, false, false] rfl rfl (by kernel_rfl) (fun _ _ _ h => h) (Or.inl ⟨by rfl, ?_⟩) ?_ ?_
        rotate_left
        · intro w'
          go_simp
          with_reducible rfl
        rotate_left
        · simp only [Act.put, List.setIfInBounds_toArray, List.set_cons_zero, List.set_cons_succ, i64_w, i32_w]
          rfl
        refine take_ (i := 9) (N := some 60) (v := ?_) (a' := ?_) #[true, true, true, true, true, true, true, true, true, true, false] rfl rfl (by kernel_rfl) (fun _ _ _ h => h) (Or.inl ⟨by rfl, ?_⟩) hHeld ?_ ?_
        rotate_left
        · rintro w' ⟨s0, s1, s2, s3⟩
          go_simp
          with_reducible rfl
        rotate_left
        · simp only [Act.put, List.setIfInBounds_toArray, List.set_cons_zero, List.set_cons_succ, i64_w, i32_w]
          rfl
        refine pure_ (i := 10) (N := some 61) (v := ?_) (a' := ?_) #[true, true, true, true, true, true, true, true, true, true, true] rfl rfl (by kernel_rfl) (fun _ _ _ h => h) (Or.inl ⟨by rfl, ?_⟩) ?_ ?_
        rotate_left
        · intro w'
          go_simp
          with_reducible rfl
        rotate_left
        · simp only [Act.put, List.setIfInBounds_toArray, List.set_cons_zero, List.set_cons_succ, i64_w, i32_w]
          rfl
        refine done_ (by kernel_rfl) ?_
        go_wp2
        go_ret
        exact ⟨by first | rfl | (rw [hRf]; rfl), HBD.out⟩
    · obtain rfl : k = N := by omega
      have i1 : ¬ (k : Int) < (k : Int) := by omega
      have i2 : decide ((k : Int) < (k : Int)) = false := decide_eq_false i1
      have hns : NS = NS9 := by
        have h := HALL.out
        rwa [List.take_of_length_le (by rw [← HN.out]; exact Nat.le_refl _), List.take_of_length_le (by rw [← HN9.out]; exact Nat.le_refl _)] at h
      have HNS := Aside0.mk hns
      clear hns HALL
      go_wp2_with fail
      clear y0 y1 y2 y3 y4 y5 y6 y7 y8 y9 ya z0 z1 z2 z3 z4 z5 z6 z7 z8 z9 za
      obtain ⟨w3, hw3⟩ : ∃ z, z = wr := ⟨_, rfl⟩
      rw [← hw3] at HBR HYr HZr ⊢
      clear hw3
      go_loopw [6, 66] (fun i0 j wr => (∃ k : Nat, k ≤ M ∧ j = .int .i64 (k : Int) ∧ ms.take k = ms9.take k) ∧ Below w3.heap.size w3 wr) (fun _ j _ => M - (intOf j).toNat)
      case atStart => exact ⟨⟨0, Nat.zero_le _, rfl, rfl⟩, Below.refl _ _⟩
      case round =>
        obtain ⟨⟨k, hk, rfl, hall⟩, hbr⟩ := hrel
        have HALL := Aside0.mk hall
        have HBW := Aside0.mk hbr
        have HB4 := Aside0.mk (below_then HBR.out HBR.out.size hbr)
        have HY4 := Aside0.mk (blk_below HYr.out hbr)
        have HZ4 := Aside0.mk (blk_below HZr.out hbr)
        clear hall hbr
        obtain ⟨y0, y1, y2, y3, y4, y5, y6, y7, y8, y9, ya⟩ := cells11 HY4.out
        obtain ⟨z0, z1, z2, z3, z4, z5, z6, z7, z8, z9, za⟩ := cells11 HZ4.out
        by_cases hkn : k < M
        · have i1 : (k : Int) < (M : Int) := by omega
          have i2 : decide ((k : Int) < (M : Int)) = true := decide_eq_true i1
          have i3 : (0 : Int) ≤ (k : Int) := by omega
          have ha : k < ms.length := by rw [← HM.out]; exact hkn
          have hb9 : k < ms9.length := by rw [← HM9.out]; exact hkn
          obtain ⟨ad, rfl, hx⟩ := int_at P2.out k ha
          obtain ⟨bd, rfl, hy⟩ := int_at Q2.out k hb9
          have hx := (HB4.out.cell (World.block_lt_of_cell? w _ hx)).trans hx
          have hy := (HB4.out.cell (World.block_lt_of_cell? w _ hy)).trans hy
          have TS := fun h => Aside0.mk (take_same ha hb9 HALL.out h)
          have FS : ms[k] ≠ ms9[k] → R = false := fun h => HF.out (fun e => h (by have e2 : ms = ms9 := congrArg Cmd.nums e; subst e2; rfl))
          obtain ⟨s, hs⟩ : ∃ s, s = ms[k] := ⟨_, rfl⟩
          obtain ⟨t, ht⟩ : ∃ t, t = ms9[k] := ⟨_, rfl⟩
          rw [← hs] at hx TS FS
          rw [← ht] at hy TS FS
          clear hs ht
          by_cases hst : s = t
          · subst hst
            have e6 : (s == s) = true := beq_self_eq_true _
            have TS2 := TS rfl
            clear FS TS
            go_wp2_with fail
            refine start_ (n := 11) (S := fun w' => w'.cell? ⟨w.heap.size, 2, none⟩ = some (.slice (some ad) M c2) ∧ w'.cell? ⟨w.heap.size + 1, 2, none⟩ = some (.slice (some bd) M d2) ∧ w'.cell? (ad.add k) = some (.int .i64 s) ∧ w'.cell? (bd.add k) = some (.int .i64 s)) (ds := []) #[false, false, false, false, false, false, false, false, false, false, false] (by kernel_rfl) rfl rfl ⟨y2, z2, hx, hy⟩ (fun hHeld => ?_)
            refine pure_ (i := 0) (N := some 69) (v := ?_) (a' := ?_) #[true, false, false, false, false, false, false, false, false, false, false] rfl rfl (by kernel_rfl) (fun _ _ _ h => h) (Or.inl ⟨by rfl, ?_⟩) ?_ ?_
            rotate_left
            · intro w'
              go_simp
              with_reducible rfl
            rotate_left
            · simp only [Act.put, List.setIfInBounds_toArray, List.set_cons_zero, List.set_cons_succ, i64_w, i32_w]
              rfl
            refine pure_ (i := 2) (N := some 71) (v := ?_) (a' := ?_) #[true, false, true, false, false, false, false, false, false, false, false] rfl rfl (by kernel_rfl) (fun _ _ _ h => h) (Or.inl ⟨by rfl, ?_⟩) ?_ ?_
            rotate_left
            · intro w'
              go_simp
              with_reducible rfl
            rotate_left
            · simp only [Act.put, List.setIfInBounds_toArray, List.set_cons_zero, List.set_cons_succ, i64_w, i32_w]
              rfl
            refine pure_ (i := 5) (N := some 74) (v := ?_) (a' := ?_) #[true, false, true, false, false, true, false, false, false, false, false] rfl rfl (by kernel_rfl) (fun _ _ _ h => h) (Or.inl ⟨by rfl, ?_⟩) ?_ ?_
            rotate_left
            · intro w'
              go_simp
              with_reducible rfl
            rotate_left
            · simp only [Act.put, List.setIfInBounds_toArray, List.set_cons_zero, List.set_cons_succ, i64_w, i32_w]
              rfl
            refine pure_ (i := 7) (N := some 76) (v := ?_) (a' := ?_) #[true, false, true, false, false, true, false, true, false, false, false] rfl rfl (by kernel_rfl) (fun _ _ _ h => h) (Or.inl ⟨by rfl, ?_⟩) ?_ ?_
            rotate_left
            · intro w'
              go_simp
              with_reducible rfl
            rotate_left
            · simp only [Act.put, List.setIfInBounds_toArray, List.set_cons_zero, List.set_cons_succ, i64_w, i32_w]
              rfl
            refine take_ (i := 1) (N := some 70) (v := ?_) (a' := ?_) #[true, true, true, false, false, true, false, true, false, false, false] rfl rfl (by kernel_rfl) (fun _ _ _ h => h) (Or.inl ⟨by rfl, ?_⟩) hHeld ?_ ?_
            rotate_left
            · rintro w' ⟨s0, s1, s2, s3⟩
              go_simp
              with_reducible rfl
            rotate_left
            · simp only [Act.put, List.setIfInBounds_toArray, List.set_cons_zero, List.set_cons_succ, i64_w, i32_w]
              rfl
            refine pure_ (i := 3) (N := some 72) (v := ?_) (a' := ?_) #[true, true, true, true, false, true, false, true, false, false, false] rfl rfl (by kernel_rfl) (fun _ _ _ h => h) (Or.inl ⟨by rfl, ?_⟩) ?_ ?_
            rotate_left
            · intro w'
              go_simp
              with_reducible rfl
            rotate_left
            · simp only [Act.put, List.setIfInBounds_toArray, List.set_cons_zero, List.set_cons_succ, i64_w, i32_w]
              rfl
            refine take_ (i := 4) (N := some 73) (v := ?_) (a' := ?_) #[true, true, true, true, true, true, false, true, false, false, false] rfl rfl (by kernel_rfl) (fun _ _ _ h => h) (Or.inl ⟨by rfl, ?_⟩) hHeld ?_ ?_
            rotate_left
            · rintro w' ⟨s0, s1, s2, s3⟩
              go_simp
              with_reducible rfl
            rotate_left
            · simp only [Act.put, List.setIfInBounds_toArray, List.set_cons_zero, List.set_cons_succ, i64_w, i32_w]
              rfl
            refine take_ (i := 6) (N := some 75) (v := ?_) (a' := ?_) #[true, true, true, true, true, true, true, true, false, false, false] rfl rfl (by kernel_rfl) (fun _ _ _ h => h) (Or.inl ⟨by rfl, ?_⟩) hHeld ?_ ?_
            rotate_left
            · rintro w' ⟨s0, s1, s2, s3⟩
              go_simp
              with_reducible rfl
            rotate_left
            · simp only [Act.put, List.setIfInBounds_toArray, List.set_cons_zero, List.set_cons_succ, i64_w, i32_w]
              rfl
            refine pure_ (i := 8) (N := some 77) (v := ?_) (a' := ?_) #[true, true, true, true, true, true, true, true, true, false, false] rfl rfl (by kernel_rfl) (fun _ _ _ h => h) (Or.inl ⟨by rfl, ?_⟩) ?_ ?_
            rotate_left
            · intro w'
              go_simp
              with_reducible rfl
            rotate_left
            · simp only [Act.put, List.setIfInBounds_toArray, List.set_cons_zero, List.set_cons_succ, i64_w, i32_w]
              rfl
            refine take_ (i := 9) (N := some 78) (v := ?_) (a' := ?_) #[true, true, true, true, true, true, true, true, true, true, false] rfl rfl (by kernel_rfl) (fun _ _ _ h => h) (Or.inl ⟨by rfl, ?_⟩) hHeld ?_ ?_
            rotate_left
            · rintro w' ⟨s0, s1, s2, s3⟩
              go_simp
              with_reducible rfl
            rotate_left
            · simp only [Act.put, List.setIfInBounds_toArray, List.set_cons_zero, List.set_cons_succ, i64_w, i32_w]
              rfl
            refine pure_ (i := 10) (N := some 79) (v := ?_) (a' := ?_) #[true, true, true, true, true, true, true, true, true, true, true] rfl rfl (by kernel_rfl) (fun _ _ _ h => h) (Or.inl ⟨by rfl, ?_⟩) ?_ ?_
            rotate_left
            · intro w'
              go_simp
              with_reducible rfl
            rotate_left
            · simp only [Act.put, List.setIfInBounds_toArray, List.set_cons_zero, List.set_cons_succ, i64_w, i32_w]
              rfl
            refine done_ (by kernel_rfl) ?_
            have HBD := Aside0.mk (below_drew HBW.out)
            go_wp2_with fail
            go_roundw
            case rel => exact ⟨⟨k + 1, by omega, by go_num, TS2.out⟩, HBD.out⟩
            case measure => simp [intOf]; omega
          · have e6 : (s == t) = false := beq_eq_false_iff_ne.2 hst
            have e7 : ¬ (s = t) := hst
            have hRf := FS hst
            have HBD := Aside0.mk (below_drew HB4.out)
            clear FS TS
            go_wp2_with fail
            refine start_ (n := 11) (S := fun w' => w'.cell? ⟨w.heap.size, 2, none⟩ = some (.slice (some ad) M c2) ∧ w'.cell? ⟨w.heap.size + 1, 2, none⟩ = some (.slice (some bd) M d2) ∧ w'.cell? (ad.add k) = some (.int .i64 s) ∧ w'.cell? (bd.add k) = some (.int .i64 t)) (ds := []) #[false, false, false, false, false, false, false, false, false, false, false] (by kernel_rfl) rfl rfl ⟨y2, z2, hx, hy⟩ (fun hHeld => ?_)
            refine pure_ (i := 0) (N := some 69) (v := ?_) (a' := ?_) #[true, false, false, false, false, false, false, false, false, false, false] rfl rfl (by kernel_rfl) (fun _ _ _ h => h) (Or.inl ⟨by rfl, ?_⟩) ?_ ?_
            rotate_left
            · intro w'
              go_simp
              with_reducible rfl
            rotate_left
            · simp only [Act.put, List.setIfInBounds_toArray, List.set_cons_zero, List.set_cons_succ, i64_w, i32_w]
              rfl
            refine pure_ (i := 2) (N := some 71) (v := ?_) (a' := ?_) #[true, false, true, false, false, false, false, false, false, false, false] rfl rfl (by kernel_rfl) (fun _ _ _ h => h) (Or.inl ⟨by rfl, ?_⟩) ?_ ?_
            rotate_left
            · intro w'
              go_simp
              with_reducible rfl
            rotate_left
            · simp only [Act.put, List.setIfInBounds_toArray, List.set_cons_zero, List.set_cons_succ, i64_w, i32_w]
              rfl
            refine pure_ (i := 5) (N := some 74) (v := ?_) (a' := ?_) #[true, false, true, false, false, true, false, false, false, false, false] rfl rfl (by kernel_rfl) (fun _ _ _ h => h) (Or.inl ⟨by rfl, ?_⟩) ?_ ?_
            rotate_left
            · intro w'
              go_simp
              with_reducible rfl
            rotate_left
            · simp only [Act.put, List.setIfInBounds_toArray, List.set_cons_zero, List.set_cons_succ, i64_w, i32_w]
              rfl
            refine pure_ (i := 7) (N := some 76) (v := ?_) (a' := ?_) #[true, false, true, false, false, true, false, true, false, false, false] rfl rfl (by kernel_rfl) (fun _ _ _ h => h) (Or.inl ⟨by rfl, ?_⟩) ?_ ?_
            rotate_left
            · intro w'
              go_simp
              with_reducible rfl
            rotate_left
            · simp only [Act.put, List.setIfInBounds_toArray, List.set_cons_zero, List.set_cons_succ, i64_w, i32_w]
              rfl
            refine take_ (i := 1) (N := some 70) (v := ?_) (a' := ?_) #[true, true, true, false, false, true, false, true, false, false, false] rfl rfl (by kernel_rfl) (fun _ _ _ h => h) (Or.inl ⟨by rfl, ?_⟩) hHeld ?_ ?_
            rotate_left
            · rintro w' ⟨s0, s1, s2, s3⟩
              go_simp
              with_reducible rfl
            rotate_left
            · simp only [Act.put, List.setIfInBounds_toArray, List.set_cons_zero, List.set_cons_succ, i64_w, i32_w]
              rfl
            refine pure_ (i := 3) (N := some 72) (v := ?_) (a' := ?_) #[true, true, true, true, false, true, false, true, false, false, false] rfl rfl (by kernel_rfl) (fun _ _ _ h => h) (Or.inl ⟨by rfl, ?_⟩) ?_ ?_
            rotate_left
            · intro w'
              go_simp
              with_reducible rfl
            rotate_left
            · simp only [Act.put, List.setIfInBounds_toArray, List.set_cons_zero, List.set_cons_succ, i64_w, i32_w]
              rfl
            refine take_ (i := 4) (N := some 73) (v := ?_) (a' := ?_) #[true, true, true, true, true, true, false, true, false, false, false] rfl rfl (by kernel_rfl) (fun _ _ _ h => h) (Or.inl ⟨by rfl, ?_⟩) hHeld ?_ ?_
            rotate_left
            · rintro w' ⟨s0, s1, s2, s3⟩
              go_simp
              with_reducible rfl
            rotate_left
            · simp only [Act.put, List.setIfInBounds_toArray, List.set_cons_zero, List.set_cons_succ, i64_w, i32_w]
              rfl
            refine take_ (i := 6) (N := some 75) (v := ?_) (a' := ?_) #[true, true, true, true, true, true, true, true, false, false, false] rfl rfl (by kernel_rfl) (fun _ _ _ h => h) (Or.inl ⟨by rfl, ?_⟩) hHeld ?_ ?_
            rotate_left
            · rintro w' ⟨s0, s1, s2, s3⟩
              go_simp
              with_reducible rfl
            rotate_left
            · simp only [Act.put, List.setIfInBounds_toArray, List.set_cons_zero, List.set_cons_succ, i64_w, i32_w]
              rfl
            refine pure_ (i := 8) (N := some 77) (v := ?_) (a' := ?_) #[true, true, true, true, true, true, true, true, true, false, false] rfl rfl (by kernel_rfl) (fun _ _ _ h => h) (Or.inl ⟨by rfl, ?_⟩) ?_ ?_
            rotate_left
            · intro w'
              go_simp
              with_reducible rfl
            rotate_left
            · simp only [Act.put, List.setIfInBounds_toArray, List.set_cons_zero, List.set_cons_succ, i64_w, i32_w]
              rfl
            refine take_ (i := 9) (N := some 78) (v := ?_) (a' := ?_) #[true, true, true, true, true, true, true, true, true, true, false] rfl rfl (by kernel_rfl) (fun _ _ _ h => h) (Or.inl ⟨by rfl, ?_⟩) hHeld ?_ ?_
            rotate_left
            · rintro w' ⟨s0, s1, s2, s3⟩
              go_simp
              with_reducible rfl
            rotate_left
            · simp only [Act.put, List.setIfInBounds_toArray, List.set_cons_zero, List.set_cons_succ, i64_w, i32_w]
              rfl
            refine pure_ (i := 10) (N := some 79) (v := ?_) (a' := ?_) #[true, true, true, true, true, true, true, true, true, true, true] rfl rfl (by kernel_rfl) (fun _ _ _ h => h) (Or.inl ⟨by rfl, ?_⟩) ?_ ?_
            rotate_left
            · intro w'
              go_simp
              with_reducible rfl
            rotate_left
            · simp only [Act.put, List.setIfInBounds_toArray, List.set_cons_zero, List.set_cons_succ, i64_w, i32_w]
              rfl
            refine done_ (by kernel_rfl) ?_
            go_wp2
            go_ret
            exact ⟨by first | rfl | (rw [hRf]; rfl), HBD.out⟩
        · obtain rfl : k = M := by omega
          have i1 : ¬ (k : Int) < (k : Int) := by omega
          have i2 : decide ((k : Int) < (k : Int)) = false := decide_eq_false i1
          have hms : ms = ms9 := by
            have h := HALL.out
            rwa [List.take_of_length_le (by rw [← HM.out]; exact Nat.le_refl _), List.take_of_length_le (by rw [← HM9.out]; exact Nat.le_refl _)] at h
          have hRt : R = true := HR.out.2 (by rw [HNS.out, hms, HXY.out])
          clear hms
          go_wp2
          go_ret
          exact ⟨by first | rfl | (rw [hRt]; rfl), HB4.out⟩
end Go.Proofs.YtcinojbfjiohjaaGreatDoor.Pr
end

section
namespace Go.Proofs.YtcinojbfjiohjaaGreatDoor.Pr
open Go Go.RowKit Go.Proofs.YtcinojbfjiohjaaGreatDoor.PPrintTells Go.Proofs.YtcinojbfjiohjaaGreatDoor.Ex Go.Proofs.YtcinojbfjiohjaaGreatDoorW.PrintWords Go.Proofs.YtcinojbfjiohjaaGreatDoorW.PrintLast Go.Proofs.YtcinojbfjiohjaaGreatDoorW.PrintMore
open Go.Proofs.YtcinojbfjiohjaaGreatDoor.Pa (wordsX back_all parseC shapeF)
open Go.Proofs.YtcinojbfjiohjaaGreatDoor.Lx (Tok lexL kTk)
set_option linter.unusedVariables false
set_option linter.unusedSimpArgs false
structure Ok (c : Cmd) : Prop where
  i : Ints c
  wf : Wf c.x
  r : rightC c = true
theorem Ok.names {c : Cmd} (h : Ok c) : ∀ s ∈ c.names, s.size ≤ 140737488351232 := fun s hs => name_size (List.all_eq_true.1 (right_parts h.r).2.2.2.1 s hs)
theorem Ok.x {c : Cmd} (h : Ok c) : cnt c.x ≤ 2000 ∧ c.x.f2.length ≤ 3 ∧ c.x.f3.length ≤ 2 := by
  by_cases hm : 101 ∈ (shapeF c.wd).1.data.toList
  · have hR := (right_parts h.r).2.2.2.2 hm
    obtain ⟨hA, hc⟩ := right_all hR
    refine ⟨hc, ?_⟩
    rw [allR_eq, Bool.and_eq_true] at hA
    have h1 := hA.1
    unfold rightB at h1
    simp only [Bool.and_eq_true, decide_eq_true_eq] at h1
    obtain ⟨⟨⟨h3, h4⟩, h5⟩, h6⟩ := h1
    have hn : numsOf c.x.f0 ≤ 3 := by unfold numsOf; repeat' split <;> omega
    have ha : argsOf c.x.f0 ≤ 2 := by unfold argsOf; repeat' split <;> omega
    omega
  · rw [bare_zero ((scoped_of h.r).2 (has_not _ _ hm))]
    exact ⟨by rw [cnt_eq, cntL_nil]; omega, Nat.zero_le _, Nat.zero_le _⟩
theorem hasC_of {w W : World} {c : Cmd} {vN vM v2 v3 : Value} (hI : Ints c) (hwf : Wf c.x) (hs : ∀ s ∈ c.names, s.size ≤ 140737488351232) (h : Pa.GivesC w W (toPa c) vN vM v2 v3) :
    ∃ A1 c1 A2 c2 A3 c3 A4 c4, vN = .slice A1 c.names.length c1 ∧ vM = .slice A2 c.nums.length c2 ∧ v2 = .slice A3 c.x.f2.length c3 ∧ v3 = .slice A4 c.x.f3.length c4 ∧ HasC W c A1 c1 A2 c2 A3 c3 A4 c4 := by
  obtain ⟨h1, h2, h3⟩ := h
  have h1 : kS.R Pa.TS W w.heap.size (fun _ => True) vN c.names := h1
  have h2 : kI.R 2 W w.heap.size (fun _ => True) vM c.nums := h2
  have h3 : kX.M W w.heap.size (fun _ => True) c.x [.int .u8 c.x.f0, .string c.x.f1, v2, v3] := h3
  obtain ⟨A1, c1, rfl⟩ := Kd.R_slice h1
  obtain ⟨A2, c2, rfl⟩ := Kd.R_slice h2
  obtain ⟨u2, u3, he, h5, h6⟩ := k25_openM h3
  simp only [List.cons.injEq, true_and, and_true] at he
  obtain ⟨rfl, rfl⟩ := he
  obtain ⟨A3, c3, rfl⟩ := Kd.R_slice h5
  obtain ⟨A4, c4, rfl⟩ := Kd.R_slice h6
  obtain ⟨_, a1, b1⟩ := Kd.R_reads' h1
  obtain ⟨_, a2, b2⟩ := Kd.R_reads' h2
  obtain ⟨_, a3, b3⟩ := Kd.R_reads' h5
  obtain ⟨_, a4, b4⟩ := Kd.R_reads' h6
  exact ⟨A1, c1, A2, c2, A3, c3, A4, c4, rfl, rfl, rfl, rfl, ⟨a1, b1, a2, b2, ⟨hwf, a3, b3, a4, b4⟩, hs, hI.ints, hI.lo64, hI.hi64⟩⟩
theorem readC_calls (c : Cmd) (hO : Ok c) (L : List Tok) (hL : parseC L = (toPa c, -1, 0)) (B : Option Addr) (n d : Nat) (w : World) (hn : L.length = n) (hK : Kd.C kTk w B n L) (hd : n ≤ d) (hC : Pa.Cal w) :
    Calls Tryz.prog 19 #[.slice B n d] w fun e w' => ∃ A1 c1 A2 c2 A3 c3 A4 c4, e = .returned (.tuple #[.agg (cmA c A1 c1 A2 c2 A3 c3 A4 c4), .int .i64 (-1), .int .i64 0]) ∧ HasC w' c A1 c1 A2 c2 A3 c3 A4 c4 ∧ Below w.heap.size w w' := by
  subst hn
  refine (Pa.Command_calls L B _ d w rfl hK hd hC).mono ?_
  rintro e w' ⟨vN, vM, v2, v3, rfl, hg, hb⟩
  rw [hL] at hg ⊢
  dsimp only at hg ⊢
  obtain ⟨A1, c1, A2, c2, A3, c3, A4, c4, rfl, rfl, rfl, rfl, hh⟩ := hasC_of hO.i hO.wf hO.names hg
  exact ⟨A1, c1, A2, c2, A3, c3, A4, c4, rfl, hh, hb⟩
theorem readE_calls (L : List Tok) (C : Pa.Cmd) (a g : Int) (hL : parseC L = (C, a, g)) (B : Option Addr) (n d : Nat) (w : World) (hn : L.length = n) (hK : Kd.C kTk w B n L) (hd : n ≤ d) (hC : Pa.Cal w) :
    Calls Tryz.prog 19 #[.slice B n d] w fun e w' => ∃ E1 e1 f1 E2 e2 f2 E3 e3 f3 E4 e4 f4, e = .returned (.tuple #[.agg #[.string C.word, .slice E1 e1 f1, .slice E2 e2 f2, .int .i64 C.lo, .int .i64 C.hi, .bool C.hl, .bool C.hh, .int .u8 C.x.f0, .string C.x.f1, .slice E3 e3 f3, .slice E4 e4 f4], .int .i64 a, .int .i64 g]) ∧ Below w.heap.size w w' := by
  subst hn
  refine (Pa.Command_calls L B _ d w rfl hK hd hC).mono ?_
  rintro e w' ⟨vN, vM, v2, v3, rfl, ⟨h1, h2, h3⟩, hb⟩
  rw [hL] at h1 h2 h3 ⊢
  obtain ⟨E1, f1, rfl⟩ := Kd.R_slice h1
  obtain ⟨E2, f2, rfl⟩ := Kd.R_slice h2
  obtain ⟨u2, u3, he, h5, h6⟩ := k25_openM h3
  simp only [List.cons.injEq, true_and, and_true] at he
  obtain ⟨rfl, rfl⟩ := he
  obtain ⟨E3, f3, rfl⟩ := Kd.R_slice h5
  obtain ⟨E4, f4, rfl⟩ := Kd.R_slice h6
  exact ⟨E1, _, f1, E2, _, f2, E3, _, f3, E4, _, f4, rfl, hb⟩
theorem lineCE_yes {c : Cmd} (h : rightC c = true) : lineCE c = (⟨(lineC c).toArray⟩, 0) := by unfold lineCE; rw [if_pos h]
theorem lineCE_no {c : Cmd} (h : rightC c = false) : lineCE c = (e8, 110) := by unfold lineCE; rw [if_neg (by rw [h]; simp)]
theorem line_calls (c : Cmd) (hO : Ok c) (A1 : Option Addr) (c1 : Nat) (A2 : Option Addr) (c2 : Nat) (A3 : Option Addr) (c3 : Nat) (A4 : Option Addr) (c4 : Nat) (w : World) (hC : PCal w) (h : HasC w c A1 c1 A2 c2 A3 c3 A4 c4) :
    Calls Tryz.prog 17 #[.agg (cmA c A1 c1 A2 c2 A3 c3 A4 c4)] w fun e w' => e = .returned (.tuple #[.string ⟨(lineC c).toArray⟩, .int .i64 0]) ∧ Below w.heap.size w w' := by
  obtain ⟨h1, h2, h3⟩ := hO.x
  have hh := Command_calls c A1 c1 A2 c2 A3 c3 A4 c4 w hC h (by omega) (by omega) (by omega) (fun hr => by have := lineC_len hO.i hO.wf hr; omega)
  rwa [lineCE_yes hO.r] at hh
theorem sameC_self (c : Cmd) : sameC c c = true := (sameC_iff c c).2 rfl
theorem lines_same {c d : Cmd} (hc : Ok c) (hd : Ok d) (T U : ByteArray) (hT : T = ⟨(lineC c).toArray⟩) (hU : U = ⟨(lineC d).toArray⟩) : (T.toList == U.toList) = sameC c d := by
  rw [Bool.eq_iff_iff, beq_iff_eq, sameC_iff, Lib.toList_data, Lib.toList_data, hT, hU]
  exact ⟨fun h => line_injC hc.i hd.i hc.wf hd.wf hc.r hd.r h, fun h => by rw [h]⟩
set_option maxHeartbeats 64000000 in
set_option maxRecDepth 100000 in
theorem PrintCommands_walk (c : Cmd) (A1 : Option Addr) (c1 : Nat) (A2 : Option Addr) (c2 : Nat) (A3 : Option Addr) (c3 : Nat) (A4 : Option Addr) (c4 : Nat) (d : Cmd) (B1 : Option Addr) (d1 : Nat) (B2 : Option Addr) (d2 : Nat) (B3 : Option Addr) (d3 : Nat) (B4 : Option Addr) (d4 : Nat) (s : ByteArray) (hs : s.size ≤ 1048576) (w : World)
    (hC : PCal w ∧ Lx.LCal w) (hc : HasC w c A1 c1 A2 c2 A3 c3 A4 c4) (hcn : cnt c.x ≤ 1048576) (hx2 : c.x.f2.length ≤ 4611686018427387903) (hx3 : c.x.f3.length ≤ 4611686018427387903)
    (hd : HasC w d B1 d1 B2 d2 B3 d3 B4 d4) (hdn : cnt d.x ≤ 1048576) (hy2 : d.x.f2.length ≤ 4611686018427387903) (hy3 : d.x.f3.length ≤ 4611686018427387903) :
    Calls Tryz.prog 4 #[.agg (cmA c A1 c1 A2 c2 A3 c3 A4 c4), .agg (cmA d B1 d1 B2 d2 B3 d3 B4 d4), .string s] w fun e w' => e = .returned (.bool true) ∧ Below w.heap.size w w' := by
  have HP := fun W (h : Below w.heap.size w W) => hC.1.l h
  have HL := fun W (h : Below w.heap.size w W) => hC.2.l ⟨h⟩
  have AW := fun W (h : Below w.heap.size w W) => Aside0.mk (awake_calls W (HP W h))
  have CC := fun W (h : Below w.heap.size w W) => Aside0.mk (Count_calls c.x A3 c3 A4 c4 W (hc.has.below h) (by omega))
  have CD := fun W (h : Below w.heap.size w W) => Aside0.mk (Count_calls d.x B3 d3 B4 d4 W (hd.has.below h) (by omega))
  have ci : Ints c := ⟨hc.ints, hc.lo64, hc.hi64⟩
  have di : Ints d := ⟨hd.ints, hd.lo64, hd.hi64⟩
  have CE := fun W (h : Below w.heap.size w W) => Aside0.mk (Command_calls c A1 c1 A2 c2 A3 c3 A4 c4 W (HP W h) (hc.below h) (by omega) hx2 hx3 (fun hr => by have := lineC_len ci hc.has.wf hr; omega))
  have CF := fun W (h : Below w.heap.size w W) => Aside0.mk (Command_calls d B1 d1 B2 d2 B3 d3 B4 d4 W (HP W h) (hd.below h) (by omega) hy2 hy3 (fun hr => by have := lineC_len di hd.has.wf hr; omega))
  have CR := fun W (h : Below w.heap.size w W) => Aside0.mk (RightC_calls c A1 c1 A2 c2 A3 c3 A4 c4 W (HP W h).pa (hc.below h) (by omega) hx2 hx3)
  have CS := fun W (h : Below w.heap.size w W) => Aside0.mk (same_calls c A1 c1 A2 c2 A3 c3 A4 c4 d B1 d1 B2 d2 B3 d3 B4 d4 W (hc.below h) (hd.below h))
  have CZ := fun W (h : Below w.heap.size w W) E1 g1 E2 g2 E3 g3 E4 g4 (hz : HasC W c E1 g1 E2 g2 E3 g3 E4 g4) => Aside0.mk (same_calls c A1 c1 A2 c2 A3 c3 A4 c4 c E1 g1 E2 g2 E3 g3 E4 g4 W (hc.below h) hz)
  rw [sameC_self c] at CZ
  have OKC : rightC c = true → Ok c := fun h => ⟨ci, hc.has.wf, h⟩
  have OKD : rightC d = true → Ok d := fun h => ⟨di, hd.has.wf, h⟩
  clear hC hc hd hcn hdn hx2 hx3 hy2 hy3 ci di
  obtain ⟨K, hK⟩ : ∃ K, K = cnt c.x := ⟨_, rfl⟩
  obtain ⟨L, hL⟩ : ∃ L, L = cnt d.x := ⟨_, rfl⟩
  rw [← hK] at CC
  rw [← hL] at CD
  have hK0 : K ≤ 9223372036854775807 ∨ True := .inr trivial
  clear hK hL hK0
  by_cases hbig : 3000 < K
  · have g1 : (3000 : Int) < (K : Int) := by omega
    have g2 : decide ((3000 : Int) < (K : Int)) = true := decide_eq_true g1
    clear CE CF CR CS CZ OKC OKD CD
    unfold cmA agg at *
    obtain ⟨wd, NS, ms, lo, hi, hl, hh, ⟨o, nm, os, xs⟩⟩ := c
    obtain ⟨we, NS9, ms9, lo9, hi9, hl9, hh9, ⟨p, qm, os9, ys⟩⟩ := d
    dsimp only at *
    generalize NS.length = N1 at *
    generalize ms.length = N2 at *
    generalize os.length = n3 at *
    generalize xs.length = n4 at *
    generalize NS9.length = M1 at *
    generalize ms9.length = M2 at *
    generalize os9.length = m3 at *
    generalize ys.length = m4 at *
    have hk0 : ((w.alloc (cmO wd A1 N1 c1 A2 N2 c2 lo hi hl hh o nm A3 n3 c3 A4 n4 c4)).alloc (cmO we B1 M1 d1 B2 M2 d2 lo9 hi9 hl9 hh9 p qm B3 m3 d3 B4 m4 d4)).heap[w.heap.size]? = some (cmO wd A1 N1 c1 A2 N2 c2 lo hi hl hh o nm A3 n3 c3 A4 n4 c4) := blk_below (blk_new w (cmO wd A1 N1 c1 A2 N2 c2 lo hi hl hh o nm A3 n3 c3 A4 n4 c4)) (below_alloc (Below.refl _ _) _)
    have hk1 : ((w.alloc (cmO wd A1 N1 c1 A2 N2 c2 lo hi hl hh o nm A3 n3 c3 A4 n4 c4)).alloc (cmO we B1 M1 d1 B2 M2 d2 lo9 hi9 hl9 hh9 p qm B3 m3 d3 B4 m4 d4)).heap[w.heap.size + 1]? = some (cmO we B1 M1 d1 B2 M2 d2 lo9 hi9 hl9 hh9 p qm B3 m3 d3 B4 m4 d4) := by have h := blk_new (w.alloc (cmO wd A1 N1 c1 A2 N2 c2 lo hi hl hh o nm A3 n3 c3 A4 n4 c4)) (cmO we B1 M1 d1 B2 M2 d2 lo9 hi9 hl9 hh9 p qm B3 m3 d3 B4 m4 d4); rwa [show (w.alloc (cmO wd A1 N1 c1 A2 N2 c2 lo hi hl hh o nm A3 n3 c3 A4 n4 c4)).heap.size = w.heap.size + 1 from Array.size_push ..] at h
    have HB1 := Aside0.mk (show Below w.heap.size w ((w.alloc (cmO wd A1 N1 c1 A2 N2 c2 lo hi hl hh o nm A3 n3 c3 A4 n4 c4)).alloc (cmO we B1 M1 d1 B2 M2 d2 lo9 hi9 hl9 hh9 p qm B3 m3 d3 B4 m4 d4)) from below_alloc (below_alloc (Below.refl _ _) _) _)
    have HY1 := Aside0.mk hk0
    have HZ1 := Aside0.mk hk1
    obtain ⟨y0, y1, y2, y3, y4, y5, y6, y7, y8, y9, y10⟩ := cells11 HY1.out
    obtain ⟨z0, z1, z2, z3, z4, z5, z6, z7, z8, z9, z10⟩ := cells11 HZ1.out
    clear hk0 hk1
    go_enter Tryz.func4, Tryz.ntmps4
    go_wp2_with fail
    (with_reducible refine ((CC _ HB1.out).out).mono ?_)
    rintro e w2 ⟨rfl, hb⟩
    have HB2 := Aside0.mk (below_then HB1.out HB1.out.size hb)
    have HY2 := Aside0.mk (blk_below HY1.out hb)
    have HZ2 := Aside0.mk (blk_below HZ1.out hb)
    clear hb CC
    clear y0 y1 y2 y3 y4 y5 y6 y7 y8 y9 y10 z0 z1 z2 z3 z4 z5 z6 z7 z8 z9 z10
    clear HY1 HZ1
    obtain ⟨y0, y1, y2, y3, y4, y5, y6, y7, y8, y9, y10⟩ := cells11 HY2.out
    obtain ⟨z0, z1, z2, z3, z4, z5, z6, z7, z8, z9, z10⟩ := cells11 HZ2.out
    go_wp2_with fail
    (with_reducible refine (AW _ HB2.out).out.mono ?_)
    rintro e wf ⟨rfl, hb⟩
    have HF := Aside0.mk (below_then HB2.out HB2.out.size hb)
    clear hb
    go_wp2
    go_ret
    exact ⟨rfl, HF.out⟩
  have g1 : ¬ (3000 : Int) < (K : Int) := by omega
  have g2 : decide ((3000 : Int) < (K : Int)) = false := decide_eq_false g1
  by_cases hbig2 : 3000 < L
  · have g3 : (3000 : Int) < (L : Int) := by omega
    have g4 : decide ((3000 : Int) < (L : Int)) = true := decide_eq_true g3
    clear CE CF CR CS CZ OKC OKD
    unfold cmA agg at *
    obtain ⟨wd, NS, ms, lo, hi, hl, hh, ⟨o, nm, os, xs⟩⟩ := c
    obtain ⟨we, NS9, ms9, lo9, hi9, hl9, hh9, ⟨p, qm, os9, ys⟩⟩ := d
    dsimp only at *
    generalize NS.length = N1 at *
    generalize ms.length = N2 at *
    generalize os.length = n3 at *
    generalize xs.length = n4 at *
    generalize NS9.length = M1 at *
    generalize ms9.length = M2 at *
    generalize os9.length = m3 at *
    generalize ys.length = m4 at *
    have hk0 : ((w.alloc (cmO wd A1 N1 c1 A2 N2 c2 lo hi hl hh o nm A3 n3 c3 A4 n4 c4)).alloc (cmO we B1 M1 d1 B2 M2 d2 lo9 hi9 hl9 hh9 p qm B3 m3 d3 B4 m4 d4)).heap[w.heap.size]? = some (cmO wd A1 N1 c1 A2 N2 c2 lo hi hl hh o nm A3 n3 c3 A4 n4 c4) := blk_below (blk_new w (cmO wd A1 N1 c1 A2 N2 c2 lo hi hl hh o nm A3 n3 c3 A4 n4 c4)) (below_alloc (Below.refl _ _) _)
    have hk1 : ((w.alloc (cmO wd A1 N1 c1 A2 N2 c2 lo hi hl hh o nm A3 n3 c3 A4 n4 c4)).alloc (cmO we B1 M1 d1 B2 M2 d2 lo9 hi9 hl9 hh9 p qm B3 m3 d3 B4 m4 d4)).heap[w.heap.size + 1]? = some (cmO we B1 M1 d1 B2 M2 d2 lo9 hi9 hl9 hh9 p qm B3 m3 d3 B4 m4 d4) := by have h := blk_new (w.alloc (cmO wd A1 N1 c1 A2 N2 c2 lo hi hl hh o nm A3 n3 c3 A4 n4 c4)) (cmO we B1 M1 d1 B2 M2 d2 lo9 hi9 hl9 hh9 p qm B3 m3 d3 B4 m4 d4); rwa [show (w.alloc (cmO wd A1 N1 c1 A2 N2 c2 lo hi hl hh o nm A3 n3 c3 A4 n4 c4)).heap.size = w.heap.size + 1 from Array.size_push ..] at h
    have HB1 := Aside0.mk (show Below w.heap.size w ((w.alloc (cmO wd A1 N1 c1 A2 N2 c2 lo hi hl hh o nm A3 n3 c3 A4 n4 c4)).alloc (cmO we B1 M1 d1 B2 M2 d2 lo9 hi9 hl9 hh9 p qm B3 m3 d3 B4 m4 d4)) from below_alloc (below_alloc (Below.refl _ _) _) _)
    have HY1 := Aside0.mk hk0
    have HZ1 := Aside0.mk hk1
    obtain ⟨y0, y1, y2, y3, y4, y5, y6, y7, y8, y9, y10⟩ := cells11 HY1.out
    obtain ⟨z0, z1, z2, z3, z4, z5, z6, z7, z8, z9, z10⟩ := cells11 HZ1.out
    clear hk0 hk1
    go_enter Tryz.func4, Tryz.ntmps4
    go_wp2_with fail
    (with_reducible refine ((CC _ HB1.out).out).mono ?_)
    rintro e w2 ⟨rfl, hb⟩
    have HB2 := Aside0.mk (below_then HB1.out HB1.out.size hb)
    have HY2 := Aside0.mk (blk_below HY1.out hb)
    have HZ2 := Aside0.mk (blk_below HZ1.out hb)
    clear hb CC
    clear y0 y1 y2 y3 y4 y5 y6 y7 y8 y9 y10 z0 z1 z2 z3 z4 z5 z6 z7 z8 z9 z10
    clear HY1 HZ1
    obtain ⟨y0, y1, y2, y3, y4, y5, y6, y7, y8, y9, y10⟩ := cells11 HY2.out
    obtain ⟨z0, z1, z2, z3, z4, z5, z6, z7, z8, z9, z10⟩ := cells11 HZ2.out
    go_wp2_with fail
    (with_reducible refine ((CD _ HB2.out).out).mono ?_)
    rintro e w3 ⟨rfl, hb⟩
    have HB3 := Aside0.mk (below_then HB2.out HB2.out.size hb)
    have HY3 := Aside0.mk (blk_below HY2.out hb)
    have HZ3 := Aside0.mk (blk_below HZ2.out hb)
    clear hb CD
    clear y0 y1 y2 y3 y4 y5 y6 y7 y8 y9 y10 z0 z1 z2 z3 z4 z5 z6 z7 z8 z9 z10
    clear HY2 HZ2
    obtain ⟨y0, y1, y2, y3, y4, y5, y6, y7, y8, y9, y10⟩ := cells11 HY3.out
    obtain ⟨z0, z1, z2, z3, z4, z5, z6, z7, z8, z9, z10⟩ := cells11 HZ3.out
    go_wp2_with fail
    (with_reducible refine (AW _ HB3.out).out.mono ?_)
    rintro e wf ⟨rfl, hb⟩
    have HF := Aside0.mk (below_then HB3.out HB3.out.size hb)
    clear hb
    go_wp2
    go_ret
    exact ⟨rfl, HF.out⟩
  have g3 : ¬ (3000 : Int) < (L : Int) := by omega
  have g4 : decide ((3000 : Int) < (L : Int)) = false := decide_eq_false g3
  by_cases hbig3 : 300 < s.size
  · have g5 : (300 : Int) < (s.size : Int) := by omega
    have g6 : decide ((300 : Int) < (s.size : Int)) = true := decide_eq_true g5
    clear CE CF CR CS CZ OKC OKD
    unfold cmA agg at *
    obtain ⟨wd, NS, ms, lo, hi, hl, hh, ⟨o, nm, os, xs⟩⟩ := c
    obtain ⟨we, NS9, ms9, lo9, hi9, hl9, hh9, ⟨p, qm, os9, ys⟩⟩ := d
    dsimp only at *
    generalize NS.length = N1 at *
    generalize ms.length = N2 at *
    generalize os.length = n3 at *
    generalize xs.length = n4 at *
    generalize NS9.length = M1 at *
    generalize ms9.length = M2 at *
    generalize os9.length = m3 at *
    generalize ys.length = m4 at *
    have hk0 : ((w.alloc (cmO wd A1 N1 c1 A2 N2 c2 lo hi hl hh o nm A3 n3 c3 A4 n4 c4)).alloc (cmO we B1 M1 d1 B2 M2 d2 lo9 hi9 hl9 hh9 p qm B3 m3 d3 B4 m4 d4)).heap[w.heap.size]? = some (cmO wd A1 N1 c1 A2 N2 c2 lo hi hl hh o nm A3 n3 c3 A4 n4 c4) := blk_below (blk_new w (cmO wd A1 N1 c1 A2 N2 c2 lo hi hl hh o nm A3 n3 c3 A4 n4 c4)) (below_alloc (Below.refl _ _) _)
    have hk1 : ((w.alloc (cmO wd A1 N1 c1 A2 N2 c2 lo hi hl hh o nm A3 n3 c3 A4 n4 c4)).alloc (cmO we B1 M1 d1 B2 M2 d2 lo9 hi9 hl9 hh9 p qm B3 m3 d3 B4 m4 d4)).heap[w.heap.size + 1]? = some (cmO we B1 M1 d1 B2 M2 d2 lo9 hi9 hl9 hh9 p qm B3 m3 d3 B4 m4 d4) := by have h := blk_new (w.alloc (cmO wd A1 N1 c1 A2 N2 c2 lo hi hl hh o nm A3 n3 c3 A4 n4 c4)) (cmO we B1 M1 d1 B2 M2 d2 lo9 hi9 hl9 hh9 p qm B3 m3 d3 B4 m4 d4); rwa [show (w.alloc (cmO wd A1 N1 c1 A2 N2 c2 lo hi hl hh o nm A3 n3 c3 A4 n4 c4)).heap.size = w.heap.size + 1 from Array.size_push ..] at h
    have HB1 := Aside0.mk (show Below w.heap.size w ((w.alloc (cmO wd A1 N1 c1 A2 N2 c2 lo hi hl hh o nm A3 n3 c3 A4 n4 c4)).alloc (cmO we B1 M1 d1 B2 M2 d2 lo9 hi9 hl9 hh9 p qm B3 m3 d3 B4 m4 d4)) from below_alloc (below_alloc (Below.refl _ _) _) _)
    have HY1 := Aside0.mk hk0
    have HZ1 := Aside0.mk hk1
    obtain ⟨y0, y1, y2, y3, y4, y5, y6, y7, y8, y9, y10⟩ := cells11 HY1.out
    obtain ⟨z0, z1, z2, z3, z4, z5, z6, z7, z8, z9, z10⟩ := cells11 HZ1.out
    clear hk0 hk1
    go_enter Tryz.func4, Tryz.ntmps4
    go_wp2_with fail
    (with_reducible refine ((CC _ HB1.out).out).mono ?_)
    rintro e w2 ⟨rfl, hb⟩
    have HB2 := Aside0.mk (below_then HB1.out HB1.out.size hb)
    have HY2 := Aside0.mk (blk_below HY1.out hb)
    have HZ2 := Aside0.mk (blk_below HZ1.out hb)
    clear hb CC
    clear y0 y1 y2 y3 y4 y5 y6 y7 y8 y9 y10 z0 z1 z2 z3 z4 z5 z6 z7 z8 z9 z10
    clear HY1 HZ1
    obtain ⟨y0, y1, y2, y3, y4, y5, y6, y7, y8, y9, y10⟩ := cells11 HY2.out
    obtain ⟨z0, z1, z2, z3, z4, z5, z6, z7, z8, z9, z10⟩ := cells11 HZ2.out
    go_wp2_with fail
    (with_reducible refine ((CD _ HB2.out).out).mono ?_)
    rintro e w3 ⟨rfl, hb⟩
    have HB3 := Aside0.mk (below_then HB2.out HB2.out.size hb)
    have HY3 := Aside0.mk (blk_below HY2.out hb)
    have HZ3 := Aside0.mk (blk_below HZ2.out hb)
    clear hb CD
    clear y0 y1 y2 y3 y4 y5 y6 y7 y8 y9 y10 z0 z1 z2 z3 z4 z5 z6 z7 z8 z9 z10
    clear HY2 HZ2
    obtain ⟨y0, y1, y2, y3, y4, y5, y6, y7, y8, y9, y10⟩ := cells11 HY3.out
    obtain ⟨z0, z1, z2, z3, z4, z5, z6, z7, z8, z9, z10⟩ := cells11 HZ3.out
    go_wp2_with fail
    (with_reducible refine (AW _ HB3.out).out.mono ?_)
    rintro e wf ⟨rfl, hb⟩
    have HF := Aside0.mk (below_then HB3.out HB3.out.size hb)
    clear hb
    go_wp2
    go_ret
    exact ⟨rfl, HF.out⟩
  have g5 : ¬ (300 : Int) < (s.size : Int) := by omega
  have g6 : decide ((300 : Int) < (s.size : Int)) = false := decide_eq_false g5
  have hsz : s.size = s.data.toList.length := (Array.length_toList).symm
  have hri := Lx.lex_right s.data.toList.length s.data.toList (Nat.le_refl _) (by omega)
  obtain ⟨G, k, hG⟩ : ∃ G k, lexL s.data.toList = (G, k) := ⟨_, _, rfl⟩
  rw [hG] at hri
  dsimp only at hri
  obtain ⟨n, hn⟩ : ∃ n, G.length = n := ⟨_, rfl⟩
  have CW := fun W (h : Below w.heap.size w W) => Aside0.mk (Lx.Words_to s G k n hn hG (by omega) W (HL W h))
  have hgood : ∀ t ∈ G, TokG t := fun t ht => tok_good (hri t ht).1 (hri t ht).2
  obtain ⟨C, pa, g, hPC⟩ : ∃ C a g, parseC G = (C, a, g) := ⟨_, _, _, rfl⟩
  have CQ := fun B d W (h : Below w.heap.size w W) hK hd => Aside0.mk (readE_calls G C pa g hPC B n d W hn hK hd (HP W h).pa)
  have TAIL : g = 0 → ∃ c', Ok c' ∧ parseC G = (toPa c', -1, 0) := fun h => by
    subst h
    have hr := parse_right G hgood (by rw [hPC])
    rw [hPC] at hr
    obtain ⟨r1, r2, r3, r4, r5⟩ := hr
    dsimp only at r1 r2 r3 r4 r5
    subst r5
    exact ⟨ofPa C, ⟨r2, r3, r1⟩, hPC⟩
  have HN := Aside0.mk hn
  have HPC := Aside0.mk hPC
  clear hri hsz hgood hG hn hPC hbig hbig2 hbig3
  by_cases hR : rightC c = true
  case neg =>
    have hR' : rightC c = false := by simpa using hR
    rw [hR'] at CR
    rw [lineCE_no hR'] at CE
    generalize lineCE d = D at *
    obtain ⟨U, f⟩ := D
    dsimp only at CE CF
    have u1 : ((110 : Int) == 0) = false := by decide
    clear CS CZ OKC OKD hR hR'
    unfold cmA agg at *
    obtain ⟨wd, NS, ms, lo, hi, hl, hh, ⟨o, nm, os, xs⟩⟩ := c
    obtain ⟨we, NS9, ms9, lo9, hi9, hl9, hh9, ⟨p, qm, os9, ys⟩⟩ := d
    dsimp only at *
    generalize NS.length = N1 at *
    generalize ms.length = N2 at *
    generalize os.length = n3 at *
    generalize xs.length = n4 at *
    generalize NS9.length = M1 at *
    generalize ms9.length = M2 at *
    generalize os9.length = m3 at *
    generalize ys.length = m4 at *
    have hk0 : ((w.alloc (cmO wd A1 N1 c1 A2 N2 c2 lo hi hl hh o nm A3 n3 c3 A4 n4 c4)).alloc (cmO we B1 M1 d1 B2 M2 d2 lo9 hi9 hl9 hh9 p qm B3 m3 d3 B4 m4 d4)).heap[w.heap.size]? = some (cmO wd A1 N1 c1 A2 N2 c2 lo hi hl hh o nm A3 n3 c3 A4 n4 c4) := blk_below (blk_new w (cmO wd A1 N1 c1 A2 N2 c2 lo hi hl hh o nm A3 n3 c3 A4 n4 c4)) (below_alloc (Below.refl _ _) _)
    have hk1 : ((w.alloc (cmO wd A1 N1 c1 A2 N2 c2 lo hi hl hh o nm A3 n3 c3 A4 n4 c4)).alloc (cmO we B1 M1 d1 B2 M2 d2 lo9 hi9 hl9 hh9 p qm B3 m3 d3 B4 m4 d4)).heap[w.heap.size + 1]? = some (cmO we B1 M1 d1 B2 M2 d2 lo9 hi9 hl9 hh9 p qm B3 m3 d3 B4 m4 d4) := by have h := blk_new (w.alloc (cmO wd A1 N1 c1 A2 N2 c2 lo hi hl hh o nm A3 n3 c3 A4 n4 c4)) (cmO we B1 M1 d1 B2 M2 d2 lo9 hi9 hl9 hh9 p qm B3 m3 d3 B4 m4 d4); rwa [show (w.alloc (cmO wd A1 N1 c1 A2 N2 c2 lo hi hl hh o nm A3 n3 c3 A4 n4 c4)).heap.size = w.heap.size + 1 from Array.size_push ..] at h
    have HB1 := Aside0.mk (show Below w.heap.size w ((w.alloc (cmO wd A1 N1 c1 A2 N2 c2 lo hi hl hh o nm A3 n3 c3 A4 n4 c4)).alloc (cmO we B1 M1 d1 B2 M2 d2 lo9 hi9 hl9 hh9 p qm B3 m3 d3 B4 m4 d4)) from below_alloc (below_alloc (Below.refl _ _) _) _)
    have HY1 := Aside0.mk hk0
    have HZ1 := Aside0.mk hk1
    obtain ⟨y0, y1, y2, y3, y4, y5, y6, y7, y8, y9, y10⟩ := cells11 HY1.out
    obtain ⟨z0, z1, z2, z3, z4, z5, z6, z7, z8, z9, z10⟩ := cells11 HZ1.out
    clear hk0 hk1
    go_enter Tryz.func4, Tryz.ntmps4
    go_wp2_with fail
    (with_reducible refine ((CC _ HB1.out).out).mono ?_)
    rintro e w2 ⟨rfl, hb⟩
    have HB2 := Aside0.mk (below_then HB1.out HB1.out.size hb)
    have HY2 := Aside0.mk (blk_below HY1.out hb)
    have HZ2 := Aside0.mk (blk_below HZ1.out hb)
    clear hb CC
    clear y0 y1 y2 y3 y4 y5 y6 y7 y8 y9 y10 z0 z1 z2 z3 z4 z5 z6 z7 z8 z9 z10
    clear HY1 HZ1
    obtain ⟨y0, y1, y2, y3, y4, y5, y6, y7, y8, y9, y10⟩ := cells11 HY2.out
    obtain ⟨z0, z1, z2, z3, z4, z5, z6, z7, z8, z9, z10⟩ := cells11 HZ2.out
    go_wp2_with fail
    (with_reducible refine ((CD _ HB2.out).out).mono ?_)
    rintro e w3 ⟨rfl, hb⟩
    have HB3 := Aside0.mk (below_then HB2.out HB2.out.size hb)
    have HY3 := Aside0.mk (blk_below HY2.out hb)
    have HZ3 := Aside0.mk (blk_below HZ2.out hb)
    clear hb CD
    clear y0 y1 y2 y3 y4 y5 y6 y7 y8 y9 y10 z0 z1 z2 z3 z4 z5 z6 z7 z8 z9 z10
    clear HY2 HZ2
    obtain ⟨y0, y1, y2, y3, y4, y5, y6, y7, y8, y9, y10⟩ := cells11 HY3.out
    obtain ⟨z0, z1, z2, z3, z4, z5, z6, z7, z8, z9, z10⟩ := cells11 HZ3.out
    go_wp2_with fail
    (with_reducible refine ((CE _ HB3.out).out).mono ?_)
    rintro e w4 ⟨rfl, hb⟩
    have HB4 := Aside0.mk (below_then HB3.out HB3.out.size hb)
    have HY4 := Aside0.mk (blk_below HY3.out hb)
    have HZ4 := Aside0.mk (blk_below HZ3.out hb)
    clear hb CE
    clear y0 y1 y2 y3 y4 y5 y6 y7 y8 y9 y10 z0 z1 z2 z3 z4 z5 z6 z7 z8 z9 z10
    clear HY3 HZ3
    obtain ⟨y0, y1, y2, y3, y4, y5, y6, y7, y8, y9, y10⟩ := cells11 HY4.out
    obtain ⟨z0, z1, z2, z3, z4, z5, z6, z7, z8, z9, z10⟩ := cells11 HZ4.out
    go_wp2_with fail
    (with_reducible refine ((CF _ HB4.out).out).mono ?_)
    rintro e w5 ⟨rfl, hb⟩
    have HB5 := Aside0.mk (below_then HB4.out HB4.out.size hb)
    have HY5 := Aside0.mk (blk_below HY4.out hb)
    have HZ5 := Aside0.mk (blk_below HZ4.out hb)
    clear hb CF
    clear y0 y1 y2 y3 y4 y5 y6 y7 y8 y9 y10 z0 z1 z2 z3 z4 z5 z6 z7 z8 z9 z10
    clear HY4 HZ4
    obtain ⟨y0, y1, y2, y3, y4, y5, y6, y7, y8, y9, y10⟩ := cells11 HY5.out
    obtain ⟨z0, z1, z2, z3, z4, z5, z6, z7, z8, z9, z10⟩ := cells11 HZ5.out
    go_wp2_with fail
    (with_reducible refine ((CR _ HB5.out).out).mono ?_)
    rintro e w6 ⟨rfl, hb⟩
    have HB6 := Aside0.mk (below_then HB5.out HB5.out.size hb)
    have HY6 := Aside0.mk (blk_below HY5.out hb)
    have HZ6 := Aside0.mk (blk_below HZ5.out hb)
    clear hb CR
    clear y0 y1 y2 y3 y4 y5 y6 y7 y8 y9 y10 z0 z1 z2 z3 z4 z5 z6 z7 z8 z9 z10
    clear HY5 HZ5
    obtain ⟨y0, y1, y2, y3, y4, y5, y6, y7, y8, y9, y10⟩ := cells11 HY6.out
    obtain ⟨z0, z1, z2, z3, z4, z5, z6, z7, z8, z9, z10⟩ := cells11 HZ6.out
    clear y0 y1 y2 y3 y4 y5 y6 y7 y8 y9 y10 z0 z1 z2 z3 z4 z5 z6 z7 z8 z9 z10
    clear HY6 HZ6
    by_cases hk : k = -1
    case neg =>
      have t1 : (k == -1) = false := beq_eq_false_iff_ne.2 hk
      go_wp2_with fail
      (with_reducible refine (CW _ HB6.out).out.mono ?_)
      rintro e wa ⟨B, db, rfl, hKa, hda, hlt⟩
      have hb := hlt.out
      clear hlt CW
      have HBa := Aside0.mk (below_then HB6.out HB6.out.size hb)
      clear hb
      go_wp2_with fail
      (with_reducible refine (CQ _ _ _ HBa.out hKa hda).out.mono ?_)
      rintro e wb ⟨E1, e1, f1, E2, e2, f2, E3, e3, f3, E4, e4, f4, rfl, hb⟩
      have HBb := Aside0.mk (below_then HBa.out HBa.out.size hb)
      have HBc := Aside0.mk (below_then HBb.out HBb.out.size (below_alloc (Below.refl _ _) (.cells #[.string C.word, .slice E1 e1 f1, .slice E2 e2 f2, .int .i64 C.lo, .int .i64 C.hi, .bool C.hl, .bool C.hh, .int .u8 C.x.f0, .string C.x.f1, .slice E3 e3 f3, .slice E4 e4 f4] CT)))
      clear hb hKa hda CQ HN HPC TAIL
      go_wp2_with fail
      (with_reducible refine (AW _ HBc.out).out.mono ?_)
      rintro e wf ⟨rfl, hb⟩
      have HF := Aside0.mk (below_then HBc.out HBc.out.size hb)
      clear hb
      go_wp2
      go_ret
      exact ⟨rfl, HF.out⟩
    subst hk
    by_cases hg : g = 0
    case neg =>
      have t1 : (g == 0) = false := beq_eq_false_iff_ne.2 hg
      go_wp2_with fail
      (with_reducible refine (CW _ HB6.out).out.mono ?_)
      rintro e wa ⟨B, db, rfl, hKa, hda, hlt⟩
      have hb := hlt.out
      clear hlt CW
      have HBa := Aside0.mk (below_then HB6.out HB6.out.size hb)
      clear hb
      go_wp2_with fail
      (with_reducible refine (CQ _ _ _ HBa.out hKa hda).out.mono ?_)
      rintro e wb ⟨E1, e1, f1, E2, e2, f2, E3, e3, f3, E4, e4, f4, rfl, hb⟩
      have HBb := Aside0.mk (below_then HBa.out HBa.out.size hb)
      have HBc := Aside0.mk (below_then HBb.out HBb.out.size (below_alloc (Below.refl _ _) (.cells #[.string C.word, .slice E1 e1 f1, .slice E2 e2 f2, .int .i64 C.lo, .int .i64 C.hi, .bool C.hl, .bool C.hh, .int .u8 C.x.f0, .string C.x.f1, .slice E3 e3 f3, .slice E4 e4 f4] CT)))
      clear hb hKa hda CQ HN HPC TAIL
      go_wp2_with fail
      (with_reducible refine (AW _ HBc.out).out.mono ?_)
      rintro e wf ⟨rfl, hb⟩
      have HF := Aside0.mk (below_then HBc.out HBc.out.size hb)
      clear hb
      go_wp2
      go_ret
      exact ⟨rfl, HF.out⟩
    subst hg
    obtain ⟨c', hO, hPG⟩ := TAIL rfl
    have CQ := fun B d W (h : Below w.heap.size w W) hK hd => Aside0.mk (readC_calls c' hO G hPG B n d W HN.out hK hd (HP W h).pa)
    have CE2 := fun E1 g1 E2 g2 E3 g3 E4 g4 W (h : Below w.heap.size w W) hz => Aside0.mk (line_calls c' hO E1 g1 E2 g2 E3 g3 E4 g4 W (HP W h) hz)
    have lx1 := lineC_len hO.i hO.wf hO.r
    have lx2 := lex_lineC hO.i hO.wf hO.r
    have lx3 := parse_words hO.wf hO.r
    obtain ⟨V, hV⟩ : ∃ V : ByteArray, V = ⟨(lineC c').toArray⟩ := ⟨_, rfl⟩
    have hVd : V.data.toList = lineC c' := by rw [hV]
    have hVs : V.size = (lineC c').length := by rw [hV]; exact List.size_toArray
    rw [← hV] at CE2
    rw [← hVd] at lx2
    obtain ⟨n2', hn2⟩ : ∃ n, (wordsC c').length = n := ⟨_, rfl⟩
    have CW2 := fun W (h : Below w.heap.size w W) => Aside0.mk (Lx.Words_to V (wordsC c') (-1) n2' hn2 lx2 (by omega) W (HL W h))
    have CQ2 := fun B d W (h : Below w.heap.size w W) hK hd => Aside0.mk (readC_calls c' hO (wordsC c') lx3 B n2' d W hn2 hK hd (HP W h).pa)
    have CZ2 := fun E1 g1 E2 g2 E3 g3 E4 g4 F1 i1 F2 i2 F3 i3 F4 i4 W h1 h2 => Aside0.mk (same_calls c' E1 g1 E2 g2 E3 g3 E4 g4 c' F1 i1 F2 i2 F3 i3 F4 i4 W h1 h2)
    rw [sameC_self c'] at CZ2
    clear hO hPG lx1 lx2 lx3 hV hVd hVs TAIL HPC
    unfold cmA at CQ CE2 CQ2 CZ2
    obtain ⟨wd9, NS8, ms8, lo8, hi8, hl8, hh8, ⟨o8, nm8, os8, xs8⟩⟩ := c'
    dsimp only at CQ CE2 CQ2 CZ2
    generalize NS8.length = K1 at CQ CE2 CQ2 CZ2
    generalize ms8.length = K2 at CQ CE2 CQ2 CZ2
    generalize os8.length = k3 at CQ CE2 CQ2 CZ2
    generalize xs8.length = k4 at CQ CE2 CQ2 CZ2
    go_wp2_with fail
    (with_reducible refine (CW _ HB6.out).out.mono ?_)
    rintro e wa ⟨B, db, rfl, hKa, hda, hlt⟩
    have hb := hlt.out
    clear hlt CW
    have HBa := Aside0.mk (below_then HB6.out HB6.out.size hb)
    clear hb
    go_wp2_with fail
    (with_reducible refine (CQ _ _ _ HBa.out hKa hda).out.mono ?_)
    rintro e wb ⟨E1, f1, E2, f2, E3, f3, E4, f4, rfl, hz, hb⟩
    have hbA : Below wb.heap.size wb (wb.alloc (cmO wd9 E1 K1 f1 E2 K2 f2 lo8 hi8 hl8 hh8 o8 nm8 E3 k3 f3 E4 k4 f4)) := below_alloc (Below.refl _ _) _
    have HXb := Aside0.mk (blk_new wb (cmO wd9 E1 K1 f1 E2 K2 f2 lo8 hi8 hl8 hh8 o8 nm8 E3 k3 f3 E4 k4 f4))
    have HBb := Aside0.mk (below_then HBa.out HBa.out.size hb)
    have HBc := Aside0.mk (below_then HBb.out HBb.out.size hbA)
    have HZb := Aside0.mk (hz.below hbA)
    clear hb hbA hz hKa hda CQ
    obtain ⟨q0, q1, q2, q3, q4, q5, q6, q7, q8, q9, q10⟩ := cells11 HXb.out
    go_wp2_with fail
    (with_reducible refine (CE2 _ _ _ _ _ _ _ _ _ HBc.out HZb.out).out.mono ?_)
    rintro e wd1 ⟨rfl, hb⟩
    have HBd := Aside0.mk (below_then HBc.out HBc.out.size hb)
    have HXd := Aside0.mk (blk_below HXb.out hb)
    have HZd := Aside0.mk (HZb.out.below hb)
    clear hb CE2 HXb HZb q0 q1 q2 q3 q4 q5 q6 q7 q8 q9 q10
    go_wp2_with fail
    (with_reducible refine (CW2 _ HBd.out).out.mono ?_)
    rintro e we1 ⟨B9, db9, rfl, hKe, hde, hlt⟩
    have hb := hlt.out
    have HBe := Aside0.mk (below_then HBd.out HBd.out.size hb)
    have HXe := Aside0.mk (blk_below HXd.out hb)
    have HZe := Aside0.mk (HZd.out.below hb)
    clear hlt hb CW2 HXd HZd
    go_wp2_with fail
    (with_reducible refine (CQ2 _ _ _ HBe.out hKe hde).out.mono ?_)
    rintro e wg ⟨F1, i1, F2, i2, F3, i3, F4, i4, rfl, hz, hb⟩
    have hbA : Below wg.heap.size wg (wg.alloc (cmO wd9 F1 K1 i1 F2 K2 i2 lo8 hi8 hl8 hh8 o8 nm8 F3 k3 i3 F4 k4 i4)) := below_alloc (Below.refl _ _) _
    have HYg := Aside0.mk (blk_new wg (cmO wd9 F1 K1 i1 F2 K2 i2 lo8 hi8 hl8 hh8 o8 nm8 F3 k3 i3 F4 k4 i4))
    have HBg := Aside0.mk (below_then HBe.out HBe.out.size hb)
    have HBh := Aside0.mk (below_then HBg.out HBg.out.size hbA)
    have HXg := Aside0.mk (blk_below (blk_below HXe.out hb) hbA)
    have HZg := Aside0.mk ((HZe.out.below hb).below hbA)
    have HVg := Aside0.mk (hz.below hbA)
    clear hb hbA hz hKe hde CQ2 HXe HZe
    obtain ⟨q0, q1, q2, q3, q4, q5, q6, q7, q8, q9, q10⟩ := cells11 HXg.out
    obtain ⟨r0, r1, r2, r3, r4, r5, r6, r7, r8, r9, r10⟩ := cells11 HYg.out
    go_wp2_with fail
    (with_reducible refine (CZ2 _ _ _ _ _ _ _ _ _ _ _ _ _ _ _ _ _ HZg.out HVg.out).out.mono ?_)
    rintro e wi ⟨rfl, hb⟩
    have HBi := Aside0.mk (below_then HBh.out HBh.out.size hb)
    clear hb CZ2 HXg HYg HZg HVg q0 q1 q2 q3 q4 q5 q6 q7 q8 q9 q10 r0 r1 r2 r3 r4 r5 r6 r7 r8 r9 r10
    go_wp2_with fail
    (with_reducible refine (AW _ HBi.out).out.mono ?_)
    rintro e wf ⟨rfl, hb⟩
    have HF := Aside0.mk (below_then HBi.out HBi.out.size hb)
    clear hb
    go_wp2
    go_ret
    exact ⟨rfl, HF.out⟩
  have OC := OKC hR
  rw [hR] at CR
  rw [lineCE_yes hR] at CE
  have ly1 := lineC_len OC.i OC.wf OC.r
  have ly2 := lex_lineC OC.i OC.wf OC.r
  have ly3 := parse_words OC.wf OC.r
  obtain ⟨T, hT⟩ : ∃ T : ByteArray, T = ⟨(lineC c).toArray⟩ := ⟨_, rfl⟩
  have hTd : T.data.toList = lineC c := by rw [hT]
  have hTs : T.size = (lineC c).length := by rw [hT]; exact List.size_toArray
  rw [← hT] at CE
  dsimp only at CE
  rw [← hTd] at ly2
  obtain ⟨N, hN⟩ : ∃ N, (wordsC c).length = N := ⟨_, rfl⟩
  have CL := fun W (h : Below w.heap.size w W) => Aside0.mk (Lx.Words_to T (wordsC c) (-1) N hN ly2 (by omega) W (HL W h))
  have CP := fun B d W (h : Below w.heap.size w W) hK hd => Aside0.mk (readC_calls c OC (wordsC c) ly3 B N d W hN hK hd (HP W h).pa)
  have LS := fun (h : Ok d) U hU => lines_same OC h T U hT hU
  clear ly1 ly2 ly3 hTd hTs hT hN OKC OC hR
  by_cases hRd : rightC d = true
  case neg =>
    have hR' : rightC d = false := by simpa using hRd
    rw [lineCE_no hR'] at CF
    dsimp only at CF
    have u1 : ((110 : Int) == 0) = false := by decide
    clear CS OKD LS hRd hR'
    unfold cmA agg at *
    obtain ⟨wd, NS, ms, lo, hi, hl, hh, ⟨o, nm, os, xs⟩⟩ := c
    obtain ⟨we, NS9, ms9, lo9, hi9, hl9, hh9, ⟨p, qm, os9, ys⟩⟩ := d
    dsimp only at *
    generalize NS.length = N1 at *
    generalize ms.length = N2 at *
    generalize os.length = n3 at *
    generalize xs.length = n4 at *
    generalize NS9.length = M1 at *
    generalize ms9.length = M2 at *
    generalize os9.length = m3 at *
    generalize ys.length = m4 at *
    have hk0 : ((w.alloc (cmO wd A1 N1 c1 A2 N2 c2 lo hi hl hh o nm A3 n3 c3 A4 n4 c4)).alloc (cmO we B1 M1 d1 B2 M2 d2 lo9 hi9 hl9 hh9 p qm B3 m3 d3 B4 m4 d4)).heap[w.heap.size]? = some (cmO wd A1 N1 c1 A2 N2 c2 lo hi hl hh o nm A3 n3 c3 A4 n4 c4) := blk_below (blk_new w (cmO wd A1 N1 c1 A2 N2 c2 lo hi hl hh o nm A3 n3 c3 A4 n4 c4)) (below_alloc (Below.refl _ _) _)
    have hk1 : ((w.alloc (cmO wd A1 N1 c1 A2 N2 c2 lo hi hl hh o nm A3 n3 c3 A4 n4 c4)).alloc (cmO we B1 M1 d1 B2 M2 d2 lo9 hi9 hl9 hh9 p qm B3 m3 d3 B4 m4 d4)).heap[w.heap.size + 1]? = some (cmO we B1 M1 d1 B2 M2 d2 lo9 hi9 hl9 hh9 p qm B3 m3 d3 B4 m4 d4) := by have h := blk_new (w.alloc (cmO wd A1 N1 c1 A2 N2 c2 lo hi hl hh o nm A3 n3 c3 A4 n4 c4)) (cmO we B1 M1 d1 B2 M2 d2 lo9 hi9 hl9 hh9 p qm B3 m3 d3 B4 m4 d4); rwa [show (w.alloc (cmO wd A1 N1 c1 A2 N2 c2 lo hi hl hh o nm A3 n3 c3 A4 n4 c4)).heap.size = w.heap.size + 1 from Array.size_push ..] at h
    have HB1 := Aside0.mk (show Below w.heap.size w ((w.alloc (cmO wd A1 N1 c1 A2 N2 c2 lo hi hl hh o nm A3 n3 c3 A4 n4 c4)).alloc (cmO we B1 M1 d1 B2 M2 d2 lo9 hi9 hl9 hh9 p qm B3 m3 d3 B4 m4 d4)) from below_alloc (below_alloc (Below.refl _ _) _) _)
    have HY1 := Aside0.mk hk0
    have HZ1 := Aside0.mk hk1
    obtain ⟨y0, y1, y2, y3, y4, y5, y6, y7, y8, y9, y10⟩ := cells11 HY1.out
    obtain ⟨z0, z1, z2, z3, z4, z5, z6, z7, z8, z9, z10⟩ := cells11 HZ1.out
    clear hk0 hk1
    go_enter Tryz.func4, Tryz.ntmps4
    go_wp2_with fail
    (with_reducible refine ((CC _ HB1.out).out).mono ?_)
    rintro e w2 ⟨rfl, hb⟩
    have HB2 := Aside0.mk (below_then HB1.out HB1.out.size hb)
    have HY2 := Aside0.mk (blk_below HY1.out hb)
    have HZ2 := Aside0.mk (blk_below HZ1.out hb)
    clear hb CC
    clear y0 y1 y2 y3 y4 y5 y6 y7 y8 y9 y10 z0 z1 z2 z3 z4 z5 z6 z7 z8 z9 z10
    clear HY1 HZ1
    obtain ⟨y0, y1, y2, y3, y4, y5, y6, y7, y8, y9, y10⟩ := cells11 HY2.out
    obtain ⟨z0, z1, z2, z3, z4, z5, z6, z7, z8, z9, z10⟩ := cells11 HZ2.out
    go_wp2_with fail
    (with_reducible refine ((CD _ HB2.out).out).mono ?_)
    rintro e w3 ⟨rfl, hb⟩
    have HB3 := Aside0.mk (below_then HB2.out HB2.out.size hb)
    have HY3 := Aside0.mk (blk_below HY2.out hb)
    have HZ3 := Aside0.mk (blk_below HZ2.out hb)
    clear hb CD
    clear y0 y1 y2 y3 y4 y5 y6 y7 y8 y9 y10 z0 z1 z2 z3 z4 z5 z6 z7 z8 z9 z10
    clear HY2 HZ2
    obtain ⟨y0, y1, y2, y3, y4, y5, y6, y7, y8, y9, y10⟩ := cells11 HY3.out
    obtain ⟨z0, z1, z2, z3, z4, z5, z6, z7, z8, z9, z10⟩ := cells11 HZ3.out
    go_wp2_with fail
    (with_reducible refine ((CE _ HB3.out).out).mono ?_)
    rintro e w4 ⟨rfl, hb⟩
    have HB4 := Aside0.mk (below_then HB3.out HB3.out.size hb)
    have HY4 := Aside0.mk (blk_below HY3.out hb)
    have HZ4 := Aside0.mk (blk_below HZ3.out hb)
    clear hb CE
    clear y0 y1 y2 y3 y4 y5 y6 y7 y8 y9 y10 z0 z1 z2 z3 z4 z5 z6 z7 z8 z9 z10
    clear HY3 HZ3
    obtain ⟨y0, y1, y2, y3, y4, y5, y6, y7, y8, y9, y10⟩ := cells11 HY4.out
    obtain ⟨z0, z1, z2, z3, z4, z5, z6, z7, z8, z9, z10⟩ := cells11 HZ4.out
    go_wp2_with fail
    (with_reducible refine ((CF _ HB4.out).out).mono ?_)
    rintro e w5 ⟨rfl, hb⟩
    have HB5 := Aside0.mk (below_then HB4.out HB4.out.size hb)
    have HY5 := Aside0.mk (blk_below HY4.out hb)
    have HZ5 := Aside0.mk (blk_below HZ4.out hb)
    clear hb CF
    clear y0 y1 y2 y3 y4 y5 y6 y7 y8 y9 y10 z0 z1 z2 z3 z4 z5 z6 z7 z8 z9 z10
    clear HY4 HZ4
    obtain ⟨y0, y1, y2, y3, y4, y5, y6, y7, y8, y9, y10⟩ := cells11 HY5.out
    obtain ⟨z0, z1, z2, z3, z4, z5, z6, z7, z8, z9, z10⟩ := cells11 HZ5.out
    go_wp2_with fail
    (with_reducible refine ((CR _ HB5.out).out).mono ?_)
    rintro e w6 ⟨rfl, hb⟩
    have HB6 := Aside0.mk (below_then HB5.out HB5.out.size hb)
    have HY6 := Aside0.mk (blk_below HY5.out hb)
    have HZ6 := Aside0.mk (blk_below HZ5.out hb)
    clear hb CR
    clear y0 y1 y2 y3 y4 y5 y6 y7 y8 y9 y10 z0 z1 z2 z3 z4 z5 z6 z7 z8 z9 z10
    clear HY5 HZ5
    obtain ⟨y0, y1, y2, y3, y4, y5, y6, y7, y8, y9, y10⟩ := cells11 HY6.out
    obtain ⟨z0, z1, z2, z3, z4, z5, z6, z7, z8, z9, z10⟩ := cells11 HZ6.out
    go_wp2_with fail
    (with_reducible refine (CL _ HB6.out).out.mono ?_)
    rintro e w7 ⟨B, db, rfl, hK7, hd7, hlt⟩
    have hb := hlt.out
    clear hlt CL
    have HB7 := Aside0.mk (below_then HB6.out HB6.out.size hb)
    have HY7 := Aside0.mk (blk_below HY6.out hb)
    have HZ7 := Aside0.mk (blk_below HZ6.out hb)
    clear hb
    clear y0 y1 y2 y3 y4 y5 y6 y7 y8 y9 y10 z0 z1 z2 z3 z4 z5 z6 z7 z8 z9 z10
    clear HY6 HZ6
    obtain ⟨y0, y1, y2, y3, y4, y5, y6, y7, y8, y9, y10⟩ := cells11 HY7.out
    obtain ⟨z0, z1, z2, z3, z4, z5, z6, z7, z8, z9, z10⟩ := cells11 HZ7.out
    go_wp2_with fail
    (with_reducible refine (CP _ _ _ HB7.out hK7 hd7).out.mono ?_)
    rintro e w8 ⟨E1, f1, E2, f2, E3, f3, E4, f4, rfl, hz, hb⟩
    have hbA : Below w8.heap.size w8 (w8.alloc (cmO wd E1 N1 f1 E2 N2 f2 lo hi hl hh o nm E3 n3 f3 E4 n4 f4)) := below_alloc (Below.refl _ _) _
    have HQ8 := Aside0.mk (blk_new w8 (cmO wd E1 N1 f1 E2 N2 f2 lo hi hl hh o nm E3 n3 f3 E4 n4 f4))
    have HB0 := Aside0.mk (below_then HB7.out HB7.out.size hb)
    have HB8 := Aside0.mk (below_then HB0.out HB0.out.size hbA)
    have HY8 := Aside0.mk (blk_below (blk_below HY7.out hb) hbA)
    have HZ8 := Aside0.mk (blk_below (blk_below HZ7.out hb) hbA)
    have CZ := Aside0.mk (CZ _ HB8.out _ _ _ _ _ _ _ _ (hz.below hbA)).out
    clear hb hbA hz hK7 hd7 CP HY7 HZ7 HB0
    clear y0 y1 y2 y3 y4 y5 y6 y7 y8 y9 y10 z0 z1 z2 z3 z4 z5 z6 z7 z8 z9 z10
    obtain ⟨y0, y1, y2, y3, y4, y5, y6, y7, y8, y9, y10⟩ := cells11 HY8.out
    obtain ⟨z0, z1, z2, z3, z4, z5, z6, z7, z8, z9, z10⟩ := cells11 HZ8.out
    obtain ⟨q0, q1, q2, q3, q4, q5, q6, q7, q8, q9, q10⟩ := cells11 HQ8.out
    go_wp2_with fail
    (with_reducible refine CZ.out.mono ?_)
    rintro e w9 ⟨rfl, hb⟩
    clear CZ HQ8 q0 q1 q2 q3 q4 q5 q6 q7 q8 q9 q10
    have HB9 := Aside0.mk (below_then HB8.out HB8.out.size hb)
    have HY9 := Aside0.mk (blk_below HY8.out hb)
    have HZ9 := Aside0.mk (blk_below HZ8.out hb)
    clear hb
    clear y0 y1 y2 y3 y4 y5 y6 y7 y8 y9 y10 z0 z1 z2 z3 z4 z5 z6 z7 z8 z9 z10
    clear HY8 HZ8
    obtain ⟨y0, y1, y2, y3, y4, y5, y6, y7, y8, y9, y10⟩ := cells11 HY9.out
    obtain ⟨z0, z1, z2, z3, z4, z5, z6, z7, z8, z9, z10⟩ := cells11 HZ9.out
    clear y0 y1 y2 y3 y4 y5 y6 y7 y8 y9 y10 z0 z1 z2 z3 z4 z5 z6 z7 z8 z9 z10
    clear HY9 HZ9
    by_cases hk : k = -1
    case neg =>
      have t1 : (k == -1) = false := beq_eq_false_iff_ne.2 hk
      go_wp2_with fail
      (with_reducible refine (CW _ HB9.out).out.mono ?_)
      rintro e wa ⟨B, db, rfl, hKa, hda, hlt⟩
      have hb := hlt.out
      clear hlt CW
      have HBa := Aside0.mk (below_then HB9.out HB9.out.size hb)
      clear hb
      go_wp2_with fail
      (with_reducible refine (CQ _ _ _ HBa.out hKa hda).out.mono ?_)
      rintro e wb ⟨E1, e1, f1, E2, e2, f2, E3, e3, f3, E4, e4, f4, rfl, hb⟩
      have HBb := Aside0.mk (below_then HBa.out HBa.out.size hb)
      have HBc := Aside0.mk (below_then HBb.out HBb.out.size (below_alloc (Below.refl _ _) (.cells #[.string C.word, .slice E1 e1 f1, .slice E2 e2 f2, .int .i64 C.lo, .int .i64 C.hi, .bool C.hl, .bool C.hh, .int .u8 C.x.f0, .string C.x.f1, .slice E3 e3 f3, .slice E4 e4 f4] CT)))
      clear hb hKa hda CQ HN HPC TAIL
      go_wp2_with fail
      (with_reducible refine (AW _ HBc.out).out.mono ?_)
      rintro e wf ⟨rfl, hb⟩
      have HF := Aside0.mk (below_then HBc.out HBc.out.size hb)
      clear hb
      go_wp2
      go_ret
      exact ⟨rfl, HF.out⟩
    subst hk
    by_cases hg : g = 0
    case neg =>
      have t1 : (g == 0) = false := beq_eq_false_iff_ne.2 hg
      go_wp2_with fail
      (with_reducible refine (CW _ HB9.out).out.mono ?_)
      rintro e wa ⟨B, db, rfl, hKa, hda, hlt⟩
      have hb := hlt.out
      clear hlt CW
      have HBa := Aside0.mk (below_then HB9.out HB9.out.size hb)
      clear hb
      go_wp2_with fail
      (with_reducible refine (CQ _ _ _ HBa.out hKa hda).out.mono ?_)
      rintro e wb ⟨E1, e1, f1, E2, e2, f2, E3, e3, f3, E4, e4, f4, rfl, hb⟩
      have HBb := Aside0.mk (below_then HBa.out HBa.out.size hb)
      have HBc := Aside0.mk (below_then HBb.out HBb.out.size (below_alloc (Below.refl _ _) (.cells #[.string C.word, .slice E1 e1 f1, .slice E2 e2 f2, .int .i64 C.lo, .int .i64 C.hi, .bool C.hl, .bool C.hh, .int .u8 C.x.f0, .string C.x.f1, .slice E3 e3 f3, .slice E4 e4 f4] CT)))
      clear hb hKa hda CQ HN HPC TAIL
      go_wp2_with fail
      (with_reducible refine (AW _ HBc.out).out.mono ?_)
      rintro e wf ⟨rfl, hb⟩
      have HF := Aside0.mk (below_then HBc.out HBc.out.size hb)
      clear hb
      go_wp2
      go_ret
      exact ⟨rfl, HF.out⟩
    subst hg
    obtain ⟨c', hO, hPG⟩ := TAIL rfl
    have CQ := fun B d W (h : Below w.heap.size w W) hK hd => Aside0.mk (readC_calls c' hO G hPG B n d W HN.out hK hd (HP W h).pa)
    have CE2 := fun E1 g1 E2 g2 E3 g3 E4 g4 W (h : Below w.heap.size w W) hz => Aside0.mk (line_calls c' hO E1 g1 E2 g2 E3 g3 E4 g4 W (HP W h) hz)
    have lx1 := lineC_len hO.i hO.wf hO.r
    have lx2 := lex_lineC hO.i hO.wf hO.r
    have lx3 := parse_words hO.wf hO.r
    obtain ⟨V, hV⟩ : ∃ V : ByteArray, V = ⟨(lineC c').toArray⟩ := ⟨_, rfl⟩
    have hVd : V.data.toList = lineC c' := by rw [hV]
    have hVs : V.size = (lineC c').length := by rw [hV]; exact List.size_toArray
    rw [← hV] at CE2
    rw [← hVd] at lx2
    obtain ⟨n2', hn2⟩ : ∃ n, (wordsC c').length = n := ⟨_, rfl⟩
    have CW2 := fun W (h : Below w.heap.size w W) => Aside0.mk (Lx.Words_to V (wordsC c') (-1) n2' hn2 lx2 (by omega) W (HL W h))
    have CQ2 := fun B d W (h : Below w.heap.size w W) hK hd => Aside0.mk (readC_calls c' hO (wordsC c') lx3 B n2' d W hn2 hK hd (HP W h).pa)
    have CZ2 := fun E1 g1 E2 g2 E3 g3 E4 g4 F1 i1 F2 i2 F3 i3 F4 i4 W h1 h2 => Aside0.mk (same_calls c' E1 g1 E2 g2 E3 g3 E4 g4 c' F1 i1 F2 i2 F3 i3 F4 i4 W h1 h2)
    rw [sameC_self c'] at CZ2
    clear hO hPG lx1 lx2 lx3 hV hVd hVs TAIL HPC
    unfold cmA at CQ CE2 CQ2 CZ2
    obtain ⟨wd9, NS8, ms8, lo8, hi8, hl8, hh8, ⟨o8, nm8, os8, xs8⟩⟩ := c'
    dsimp only at CQ CE2 CQ2 CZ2
    generalize NS8.length = K1 at CQ CE2 CQ2 CZ2
    generalize ms8.length = K2 at CQ CE2 CQ2 CZ2
    generalize os8.length = k3 at CQ CE2 CQ2 CZ2
    generalize xs8.length = k4 at CQ CE2 CQ2 CZ2
    go_wp2_with fail
    (with_reducible refine (CW _ HB9.out).out.mono ?_)
    rintro e wa ⟨B, db, rfl, hKa, hda, hlt⟩
    have hb := hlt.out
    clear hlt CW
    have HBa := Aside0.mk (below_then HB9.out HB9.out.size hb)
    clear hb
    go_wp2_with fail
    (with_reducible refine (CQ _ _ _ HBa.out hKa hda).out.mono ?_)
    rintro e wb ⟨E1, f1, E2, f2, E3, f3, E4, f4, rfl, hz, hb⟩
    have hbA : Below wb.heap.size wb (wb.alloc (cmO wd9 E1 K1 f1 E2 K2 f2 lo8 hi8 hl8 hh8 o8 nm8 E3 k3 f3 E4 k4 f4)) := below_alloc (Below.refl _ _) _
    have HXb := Aside0.mk (blk_new wb (cmO wd9 E1 K1 f1 E2 K2 f2 lo8 hi8 hl8 hh8 o8 nm8 E3 k3 f3 E4 k4 f4))
    have HBb := Aside0.mk (below_then HBa.out HBa.out.size hb)
    have HBc := Aside0.mk (below_then HBb.out HBb.out.size hbA)
    have HZb := Aside0.mk (hz.below hbA)
    clear hb hbA hz hKa hda CQ
    obtain ⟨q0, q1, q2, q3, q4, q5, q6, q7, q8, q9, q10⟩ := cells11 HXb.out
    go_wp2_with fail
    (with_reducible refine (CE2 _ _ _ _ _ _ _ _ _ HBc.out HZb.out).out.mono ?_)
    rintro e wd1 ⟨rfl, hb⟩
    have HBd := Aside0.mk (below_then HBc.out HBc.out.size hb)
    have HXd := Aside0.mk (blk_below HXb.out hb)
    have HZd := Aside0.mk (HZb.out.below hb)
    clear hb CE2 HXb HZb q0 q1 q2 q3 q4 q5 q6 q7 q8 q9 q10
    go_wp2_with fail
    (with_reducible refine (CW2 _ HBd.out).out.mono ?_)
    rintro e we1 ⟨B9, db9, rfl, hKe, hde, hlt⟩
    have hb := hlt.out
    have HBe := Aside0.mk (below_then HBd.out HBd.out.size hb)
    have HXe := Aside0.mk (blk_below HXd.out hb)
    have HZe := Aside0.mk (HZd.out.below hb)
    clear hlt hb CW2 HXd HZd
    go_wp2_with fail
    (with_reducible refine (CQ2 _ _ _ HBe.out hKe hde).out.mono ?_)
    rintro e wg ⟨F1, i1, F2, i2, F3, i3, F4, i4, rfl, hz, hb⟩
    have hbA : Below wg.heap.size wg (wg.alloc (cmO wd9 F1 K1 i1 F2 K2 i2 lo8 hi8 hl8 hh8 o8 nm8 F3 k3 i3 F4 k4 i4)) := below_alloc (Below.refl _ _) _
    have HYg := Aside0.mk (blk_new wg (cmO wd9 F1 K1 i1 F2 K2 i2 lo8 hi8 hl8 hh8 o8 nm8 F3 k3 i3 F4 k4 i4))
    have HBg := Aside0.mk (below_then HBe.out HBe.out.size hb)
    have HBh := Aside0.mk (below_then HBg.out HBg.out.size hbA)
    have HXg := Aside0.mk (blk_below (blk_below HXe.out hb) hbA)
    have HZg := Aside0.mk ((HZe.out.below hb).below hbA)
    have HVg := Aside0.mk (hz.below hbA)
    clear hb hbA hz hKe hde CQ2 HXe HZe
    obtain ⟨q0, q1, q2, q3, q4, q5, q6, q7, q8, q9, q10⟩ := cells11 HXg.out
    obtain ⟨r0, r1, r2, r3, r4, r5, r6, r7, r8, r9, r10⟩ := cells11 HYg.out
    go_wp2_with fail
    (with_reducible refine (CZ2 _ _ _ _ _ _ _ _ _ _ _ _ _ _ _ _ _ HZg.out HVg.out).out.mono ?_)
    rintro e wi ⟨rfl, hb⟩
    have HBi := Aside0.mk (below_then HBh.out HBh.out.size hb)
    clear hb CZ2 HXg HYg HZg HVg q0 q1 q2 q3 q4 q5 q6 q7 q8 q9 q10 r0 r1 r2 r3 r4 r5 r6 r7 r8 r9 r10
    go_wp2_with fail
    (with_reducible refine (AW _ HBi.out).out.mono ?_)
    rintro e wf ⟨rfl, hb⟩
    have HF := Aside0.mk (below_then HBi.out HBi.out.size hb)
    clear hb
    go_wp2
    go_ret
    exact ⟨rfl, HF.out⟩
  obtain ⟨U, hU⟩ : ∃ U : ByteArray, U = ⟨(lineC d).toArray⟩ := ⟨_, rfl⟩
  have hTU := LS (OKD hRd) U hU
  rw [lineCE_yes hRd, ← hU] at CF
  dsimp only at CF
  obtain ⟨q, hq⟩ : ∃ q, q = sameC c d := ⟨_, rfl⟩
  rw [← hq] at CS hTU
  have hqq : (q == q) = true := beq_self_eq_true _
  clear LS OKD hU hq hRd
  unfold cmA agg at *
  obtain ⟨wd, NS, ms, lo, hi, hl, hh, ⟨o, nm, os, xs⟩⟩ := c
  obtain ⟨we, NS9, ms9, lo9, hi9, hl9, hh9, ⟨p, qm, os9, ys⟩⟩ := d
  dsimp only at *
  generalize NS.length = N1 at *
  generalize ms.length = N2 at *
  generalize os.length = n3 at *
  generalize xs.length = n4 at *
  generalize NS9.length = M1 at *
  generalize ms9.length = M2 at *
  generalize os9.length = m3 at *
  generalize ys.length = m4 at *
  have hk0 : ((w.alloc (cmO wd A1 N1 c1 A2 N2 c2 lo hi hl hh o nm A3 n3 c3 A4 n4 c4)).alloc (cmO we B1 M1 d1 B2 M2 d2 lo9 hi9 hl9 hh9 p qm B3 m3 d3 B4 m4 d4)).heap[w.heap.size]? = some (cmO wd A1 N1 c1 A2 N2 c2 lo hi hl hh o nm A3 n3 c3 A4 n4 c4) := blk_below (blk_new w (cmO wd A1 N1 c1 A2 N2 c2 lo hi hl hh o nm A3 n3 c3 A4 n4 c4)) (below_alloc (Below.refl _ _) _)
  have hk1 : ((w.alloc (cmO wd A1 N1 c1 A2 N2 c2 lo hi hl hh o nm A3 n3 c3 A4 n4 c4)).alloc (cmO we B1 M1 d1 B2 M2 d2 lo9 hi9 hl9 hh9 p qm B3 m3 d3 B4 m4 d4)).heap[w.heap.size + 1]? = some (cmO we B1 M1 d1 B2 M2 d2 lo9 hi9 hl9 hh9 p qm B3 m3 d3 B4 m4 d4) := by have h := blk_new (w.alloc (cmO wd A1 N1 c1 A2 N2 c2 lo hi hl hh o nm A3 n3 c3 A4 n4 c4)) (cmO we B1 M1 d1 B2 M2 d2 lo9 hi9 hl9 hh9 p qm B3 m3 d3 B4 m4 d4); rwa [show (w.alloc (cmO wd A1 N1 c1 A2 N2 c2 lo hi hl hh o nm A3 n3 c3 A4 n4 c4)).heap.size = w.heap.size + 1 from Array.size_push ..] at h
  have HB1 := Aside0.mk (show Below w.heap.size w ((w.alloc (cmO wd A1 N1 c1 A2 N2 c2 lo hi hl hh o nm A3 n3 c3 A4 n4 c4)).alloc (cmO we B1 M1 d1 B2 M2 d2 lo9 hi9 hl9 hh9 p qm B3 m3 d3 B4 m4 d4)) from below_alloc (below_alloc (Below.refl _ _) _) _)
  have HY1 := Aside0.mk hk0
  have HZ1 := Aside0.mk hk1
  obtain ⟨y0, y1, y2, y3, y4, y5, y6, y7, y8, y9, y10⟩ := cells11 HY1.out
  obtain ⟨z0, z1, z2, z3, z4, z5, z6, z7, z8, z9, z10⟩ := cells11 HZ1.out
  clear hk0 hk1
  go_enter Tryz.func4, Tryz.ntmps4
  go_wp2_with fail
  (with_reducible refine ((CC _ HB1.out).out).mono ?_)
  rintro e w2 ⟨rfl, hb⟩
  have HB2 := Aside0.mk (below_then HB1.out HB1.out.size hb)
  have HY2 := Aside0.mk (blk_below HY1.out hb)
  have HZ2 := Aside0.mk (blk_below HZ1.out hb)
  clear hb CC
  clear y0 y1 y2 y3 y4 y5 y6 y7 y8 y9 y10 z0 z1 z2 z3 z4 z5 z6 z7 z8 z9 z10
  clear HY1 HZ1
  obtain ⟨y0, y1, y2, y3, y4, y5, y6, y7, y8, y9, y10⟩ := cells11 HY2.out
  obtain ⟨z0, z1, z2, z3, z4, z5, z6, z7, z8, z9, z10⟩ := cells11 HZ2.out
  go_wp2_with fail
  (with_reducible refine ((CD _ HB2.out).out).mono ?_)
  rintro e w3 ⟨rfl, hb⟩
  have HB3 := Aside0.mk (below_then HB2.out HB2.out.size hb)
  have HY3 := Aside0.mk (blk_below HY2.out hb)
  have HZ3 := Aside0.mk (blk_below HZ2.out hb)
  clear hb CD
  clear y0 y1 y2 y3 y4 y5 y6 y7 y8 y9 y10 z0 z1 z2 z3 z4 z5 z6 z7 z8 z9 z10
  clear HY2 HZ2
  obtain ⟨y0, y1, y2, y3, y4, y5, y6, y7, y8, y9, y10⟩ := cells11 HY3.out
  obtain ⟨z0, z1, z2, z3, z4, z5, z6, z7, z8, z9, z10⟩ := cells11 HZ3.out
  go_wp2_with fail
  (with_reducible refine ((CE _ HB3.out).out).mono ?_)
  rintro e w4 ⟨rfl, hb⟩
  have HB4 := Aside0.mk (below_then HB3.out HB3.out.size hb)
  have HY4 := Aside0.mk (blk_below HY3.out hb)
  have HZ4 := Aside0.mk (blk_below HZ3.out hb)
  clear hb CE
  clear y0 y1 y2 y3 y4 y5 y6 y7 y8 y9 y10 z0 z1 z2 z3 z4 z5 z6 z7 z8 z9 z10
  clear HY3 HZ3
  obtain ⟨y0, y1, y2, y3, y4, y5, y6, y7, y8, y9, y10⟩ := cells11 HY4.out
  obtain ⟨z0, z1, z2, z3, z4, z5, z6, z7, z8, z9, z10⟩ := cells11 HZ4.out
  go_wp2_with fail
  (with_reducible refine ((CF _ HB4.out).out).mono ?_)
  rintro e w5 ⟨rfl, hb⟩
  have HB5 := Aside0.mk (below_then HB4.out HB4.out.size hb)
  have HY5 := Aside0.mk (blk_below HY4.out hb)
  have HZ5 := Aside0.mk (blk_below HZ4.out hb)
  clear hb CF
  clear y0 y1 y2 y3 y4 y5 y6 y7 y8 y9 y10 z0 z1 z2 z3 z4 z5 z6 z7 z8 z9 z10
  clear HY4 HZ4
  obtain ⟨y0, y1, y2, y3, y4, y5, y6, y7, y8, y9, y10⟩ := cells11 HY5.out
  obtain ⟨z0, z1, z2, z3, z4, z5, z6, z7, z8, z9, z10⟩ := cells11 HZ5.out
  go_wp2_with fail
  (with_reducible refine ((CR _ HB5.out).out).mono ?_)
  rintro e w6 ⟨rfl, hb⟩
  have HB6 := Aside0.mk (below_then HB5.out HB5.out.size hb)
  have HY6 := Aside0.mk (blk_below HY5.out hb)
  have HZ6 := Aside0.mk (blk_below HZ5.out hb)
  clear hb CR
  clear y0 y1 y2 y3 y4 y5 y6 y7 y8 y9 y10 z0 z1 z2 z3 z4 z5 z6 z7 z8 z9 z10
  clear HY5 HZ5
  obtain ⟨y0, y1, y2, y3, y4, y5, y6, y7, y8, y9, y10⟩ := cells11 HY6.out
  obtain ⟨z0, z1, z2, z3, z4, z5, z6, z7, z8, z9, z10⟩ := cells11 HZ6.out
  go_wp2_with fail
  (with_reducible refine (CL _ HB6.out).out.mono ?_)
  rintro e w7 ⟨B, db, rfl, hK7, hd7, hlt⟩
  have hb := hlt.out
  clear hlt CL
  have HB7 := Aside0.mk (below_then HB6.out HB6.out.size hb)
  have HY7 := Aside0.mk (blk_below HY6.out hb)
  have HZ7 := Aside0.mk (blk_below HZ6.out hb)
  clear hb
  clear y0 y1 y2 y3 y4 y5 y6 y7 y8 y9 y10 z0 z1 z2 z3 z4 z5 z6 z7 z8 z9 z10
  clear HY6 HZ6
  obtain ⟨y0, y1, y2, y3, y4, y5, y6, y7, y8, y9, y10⟩ := cells11 HY7.out
  obtain ⟨z0, z1, z2, z3, z4, z5, z6, z7, z8, z9, z10⟩ := cells11 HZ7.out
  go_wp2_with fail
  (with_reducible refine (CP _ _ _ HB7.out hK7 hd7).out.mono ?_)
  rintro e w8 ⟨E1, f1, E2, f2, E3, f3, E4, f4, rfl, hz, hb⟩
  have hbA : Below w8.heap.size w8 (w8.alloc (cmO wd E1 N1 f1 E2 N2 f2 lo hi hl hh o nm E3 n3 f3 E4 n4 f4)) := below_alloc (Below.refl _ _) _
  have HQ8 := Aside0.mk (blk_new w8 (cmO wd E1 N1 f1 E2 N2 f2 lo hi hl hh o nm E3 n3 f3 E4 n4 f4))
  have HB0 := Aside0.mk (below_then HB7.out HB7.out.size hb)
  have HB8 := Aside0.mk (below_then HB0.out HB0.out.size hbA)
  have HY8 := Aside0.mk (blk_below (blk_below HY7.out hb) hbA)
  have HZ8 := Aside0.mk (blk_below (blk_below HZ7.out hb) hbA)
  have CZ := Aside0.mk (CZ _ HB8.out _ _ _ _ _ _ _ _ (hz.below hbA)).out
  clear hb hbA hz hK7 hd7 CP HY7 HZ7 HB0
  clear y0 y1 y2 y3 y4 y5 y6 y7 y8 y9 y10 z0 z1 z2 z3 z4 z5 z6 z7 z8 z9 z10
  obtain ⟨y0, y1, y2, y3, y4, y5, y6, y7, y8, y9, y10⟩ := cells11 HY8.out
  obtain ⟨z0, z1, z2, z3, z4, z5, z6, z7, z8, z9, z10⟩ := cells11 HZ8.out
  obtain ⟨q0, q1, q2, q3, q4, q5, q6, q7, q8, q9, q10⟩ := cells11 HQ8.out
  go_wp2_with fail
  (with_reducible refine CZ.out.mono ?_)
  rintro e w9 ⟨rfl, hb⟩
  clear CZ HQ8 q0 q1 q2 q3 q4 q5 q6 q7 q8 q9 q10
  have HB9 := Aside0.mk (below_then HB8.out HB8.out.size hb)
  have HY9 := Aside0.mk (blk_below HY8.out hb)
  have HZ9 := Aside0.mk (blk_below HZ8.out hb)
  clear hb
  clear y0 y1 y2 y3 y4 y5 y6 y7 y8 y9 y10 z0 z1 z2 z3 z4 z5 z6 z7 z8 z9 z10
  clear HY8 HZ8
  obtain ⟨y0, y1, y2, y3, y4, y5, y6, y7, y8, y9, y10⟩ := cells11 HY9.out
  obtain ⟨z0, z1, z2, z3, z4, z5, z6, z7, z8, z9, z10⟩ := cells11 HZ9.out
  go_wp2_with fail
  (with_reducible refine ((CS _ HB9.out).out).mono ?_)
  rintro e wb9 ⟨rfl, hb⟩
  have HBA := Aside0.mk (below_then HB9.out HB9.out.size hb)
  clear hb CS HY9 HZ9 hTU hqq
  clear y0 y1 y2 y3 y4 y5 y6 y7 y8 y9 y10 z0 z1 z2 z3 z4 z5 z6 z7 z8 z9 z10
  by_cases hk : k = -1
  case neg =>
    have t1 : (k == -1) = false := beq_eq_false_iff_ne.2 hk
    go_wp2_with fail
    (with_reducible refine (CW _ HBA.out).out.mono ?_)
    rintro e wa ⟨B, db, rfl, hKa, hda, hlt⟩
    have hb := hlt.out
    clear hlt CW
    have HBa := Aside0.mk (below_then HBA.out HBA.out.size hb)
    clear hb
    go_wp2_with fail
    (with_reducible refine (CQ _ _ _ HBa.out hKa hda).out.mono ?_)
    rintro e wb ⟨E1, e1, f1, E2, e2, f2, E3, e3, f3, E4, e4, f4, rfl, hb⟩
    have HBb := Aside0.mk (below_then HBa.out HBa.out.size hb)
    have HBc := Aside0.mk (below_then HBb.out HBb.out.size (below_alloc (Below.refl _ _) (.cells #[.string C.word, .slice E1 e1 f1, .slice E2 e2 f2, .int .i64 C.lo, .int .i64 C.hi, .bool C.hl, .bool C.hh, .int .u8 C.x.f0, .string C.x.f1, .slice E3 e3 f3, .slice E4 e4 f4] CT)))
    clear hb hKa hda CQ HN HPC TAIL
    go_wp2_with fail
    (with_reducible refine (AW _ HBc.out).out.mono ?_)
    rintro e wf ⟨rfl, hb⟩
    have HF := Aside0.mk (below_then HBc.out HBc.out.size hb)
    clear hb
    go_wp2
    go_ret
    exact ⟨rfl, HF.out⟩
  subst hk
  by_cases hg : g = 0
  case neg =>
    have t1 : (g == 0) = false := beq_eq_false_iff_ne.2 hg
    go_wp2_with fail
    (with_reducible refine (CW _ HBA.out).out.mono ?_)
    rintro e wa ⟨B, db, rfl, hKa, hda, hlt⟩
    have hb := hlt.out
    clear hlt CW
    have HBa := Aside0.mk (below_then HBA.out HBA.out.size hb)
    clear hb
    go_wp2_with fail
    (with_reducible refine (CQ _ _ _ HBa.out hKa hda).out.mono ?_)
    rintro e wb ⟨E1, e1, f1, E2, e2, f2, E3, e3, f3, E4, e4, f4, rfl, hb⟩
    have HBb := Aside0.mk (below_then HBa.out HBa.out.size hb)
    have HBc := Aside0.mk (below_then HBb.out HBb.out.size (below_alloc (Below.refl _ _) (.cells #[.string C.word, .slice E1 e1 f1, .slice E2 e2 f2, .int .i64 C.lo, .int .i64 C.hi, .bool C.hl, .bool C.hh, .int .u8 C.x.f0, .string C.x.f1, .slice E3 e3 f3, .slice E4 e4 f4] CT)))
    clear hb hKa hda CQ HN HPC TAIL
    go_wp2_with fail
    (with_reducible refine (AW _ HBc.out).out.mono ?_)
    rintro e wf ⟨rfl, hb⟩
    have HF := Aside0.mk (below_then HBc.out HBc.out.size hb)
    clear hb
    go_wp2
    go_ret
    exact ⟨rfl, HF.out⟩
  subst hg
  obtain ⟨c', hO, hPG⟩ := TAIL rfl
  have CQ := fun B d W (h : Below w.heap.size w W) hK hd => Aside0.mk (readC_calls c' hO G hPG B n d W HN.out hK hd (HP W h).pa)
  have CE2 := fun E1 g1 E2 g2 E3 g3 E4 g4 W (h : Below w.heap.size w W) hz => Aside0.mk (line_calls c' hO E1 g1 E2 g2 E3 g3 E4 g4 W (HP W h) hz)
  have lx1 := lineC_len hO.i hO.wf hO.r
  have lx2 := lex_lineC hO.i hO.wf hO.r
  have lx3 := parse_words hO.wf hO.r
  obtain ⟨V, hV⟩ : ∃ V : ByteArray, V = ⟨(lineC c').toArray⟩ := ⟨_, rfl⟩
  have hVd : V.data.toList = lineC c' := by rw [hV]
  have hVs : V.size = (lineC c').length := by rw [hV]; exact List.size_toArray
  rw [← hV] at CE2
  rw [← hVd] at lx2
  obtain ⟨n2', hn2⟩ : ∃ n, (wordsC c').length = n := ⟨_, rfl⟩
  have CW2 := fun W (h : Below w.heap.size w W) => Aside0.mk (Lx.Words_to V (wordsC c') (-1) n2' hn2 lx2 (by omega) W (HL W h))
  have CQ2 := fun B d W (h : Below w.heap.size w W) hK hd => Aside0.mk (readC_calls c' hO (wordsC c') lx3 B n2' d W hn2 hK hd (HP W h).pa)
  have CZ2 := fun E1 g1 E2 g2 E3 g3 E4 g4 F1 i1 F2 i2 F3 i3 F4 i4 W h1 h2 => Aside0.mk (same_calls c' E1 g1 E2 g2 E3 g3 E4 g4 c' F1 i1 F2 i2 F3 i3 F4 i4 W h1 h2)
  rw [sameC_self c'] at CZ2
  clear hO hPG lx1 lx2 lx3 hV hVd hVs TAIL HPC
  unfold cmA at CQ CE2 CQ2 CZ2
  obtain ⟨wd9, NS8, ms8, lo8, hi8, hl8, hh8, ⟨o8, nm8, os8, xs8⟩⟩ := c'
  dsimp only at CQ CE2 CQ2 CZ2
  generalize NS8.length = K1 at CQ CE2 CQ2 CZ2
  generalize ms8.length = K2 at CQ CE2 CQ2 CZ2
  generalize os8.length = k3 at CQ CE2 CQ2 CZ2
  generalize xs8.length = k4 at CQ CE2 CQ2 CZ2
  go_wp2_with fail
  (with_reducible refine (CW _ HBA.out).out.mono ?_)
  rintro e wa ⟨B, db, rfl, hKa, hda, hlt⟩
  have hb := hlt.out
  clear hlt CW
  have HBa := Aside0.mk (below_then HBA.out HBA.out.size hb)
  clear hb
  go_wp2_with fail
  (with_reducible refine (CQ _ _ _ HBa.out hKa hda).out.mono ?_)
  rintro e wb ⟨E1, f1, E2, f2, E3, f3, E4, f4, rfl, hz, hb⟩
  have hbA : Below wb.heap.size wb (wb.alloc (cmO wd9 E1 K1 f1 E2 K2 f2 lo8 hi8 hl8 hh8 o8 nm8 E3 k3 f3 E4 k4 f4)) := below_alloc (Below.refl _ _) _
  have HXb := Aside0.mk (blk_new wb (cmO wd9 E1 K1 f1 E2 K2 f2 lo8 hi8 hl8 hh8 o8 nm8 E3 k3 f3 E4 k4 f4))
  have HBb := Aside0.mk (below_then HBa.out HBa.out.size hb)
  have HBc := Aside0.mk (below_then HBb.out HBb.out.size hbA)
  have HZb := Aside0.mk (hz.below hbA)
  clear hb hbA hz hKa hda CQ
  obtain ⟨q0, q1, q2, q3, q4, q5, q6, q7, q8, q9, q10⟩ := cells11 HXb.out
  go_wp2_with fail
  (with_reducible refine (CE2 _ _ _ _ _ _ _ _ _ HBc.out HZb.out).out.mono ?_)
  rintro e wd1 ⟨rfl, hb⟩
  have HBd := Aside0.mk (below_then HBc.out HBc.out.size hb)
  have HXd := Aside0.mk (blk_below HXb.out hb)
  have HZd := Aside0.mk (HZb.out.below hb)
  clear hb CE2 HXb HZb q0 q1 q2 q3 q4 q5 q6 q7 q8 q9 q10
  go_wp2_with fail
  (with_reducible refine (CW2 _ HBd.out).out.mono ?_)
  rintro e we1 ⟨B9, db9, rfl, hKe, hde, hlt⟩
  have hb := hlt.out
  have HBe := Aside0.mk (below_then HBd.out HBd.out.size hb)
  have HXe := Aside0.mk (blk_below HXd.out hb)
  have HZe := Aside0.mk (HZd.out.below hb)
  clear hlt hb CW2 HXd HZd
  go_wp2_with fail
  (with_reducible refine (CQ2 _ _ _ HBe.out hKe hde).out.mono ?_)
  rintro e wg ⟨F1, i1, F2, i2, F3, i3, F4, i4, rfl, hz, hb⟩
  have hbA : Below wg.heap.size wg (wg.alloc (cmO wd9 F1 K1 i1 F2 K2 i2 lo8 hi8 hl8 hh8 o8 nm8 F3 k3 i3 F4 k4 i4)) := below_alloc (Below.refl _ _) _
  have HYg := Aside0.mk (blk_new wg (cmO wd9 F1 K1 i1 F2 K2 i2 lo8 hi8 hl8 hh8 o8 nm8 F3 k3 i3 F4 k4 i4))
  have HBg := Aside0.mk (below_then HBe.out HBe.out.size hb)
  have HBh := Aside0.mk (below_then HBg.out HBg.out.size hbA)
  have HXg := Aside0.mk (blk_below (blk_below HXe.out hb) hbA)
  have HZg := Aside0.mk ((HZe.out.below hb).below hbA)
  have HVg := Aside0.mk (hz.below hbA)
  clear hb hbA hz hKe hde CQ2 HXe HZe
  obtain ⟨q0, q1, q2, q3, q4, q5, q6, q7, q8, q9, q10⟩ := cells11 HXg.out
  obtain ⟨r0, r1, r2, r3, r4, r5, r6, r7, r8, r9, r10⟩ := cells11 HYg.out
  go_wp2_with fail
  (with_reducible refine (CZ2 _ _ _ _ _ _ _ _ _ _ _ _ _ _ _ _ _ HZg.out HVg.out).out.mono ?_)
  rintro e wi ⟨rfl, hb⟩
  have HBi := Aside0.mk (below_then HBh.out HBh.out.size hb)
  clear hb CZ2 HXg HYg HZg HVg q0 q1 q2 q3 q4 q5 q6 q7 q8 q9 q10 r0 r1 r2 r3 r4 r5 r6 r7 r8 r9 r10
  go_wp2_with fail
  (with_reducible refine (AW _ HBi.out).out.mono ?_)
  rintro e wf ⟨rfl, hb⟩
  have HF := Aside0.mk (below_then HBi.out HBi.out.size hb)
  clear hb
  go_wp2
  go_ret
  exact ⟨rfl, HF.out⟩
end Go.Proofs.YtcinojbfjiohjaaGreatDoor.Pr
end
