/-
  Part 3 of what the row stands on, put together by a program: ParI, ParJ, ParK, ParL, PParseTellsx4, PParseTellsx5, PParseTellsx6.
-/
import Derived.Laws.RangeAny
import Derived.Laws.RangeString
import Derived.Test.YtjeofffddbibeaaDoorPdB
section
namespace Go.Proofs.YtjeofffddbibeaaDoor.Pa
open Go Go.RowKit Go.Proofs.YtjeofffddbibeaaDoor.PParseTells Go.Proofs.YtjeofffddbibeaaDoor.Ex Go.Proofs.YtjeofffddbibeaaDoorW.PrintWords Go.Proofs.YtjeofffddbibeaaDoorW.PrintLast Go.Proofs.YtjeofffddbibeaaDoorW.PrintMore
set_option linter.unusedVariables false
set_option linter.unusedSimpArgs false
structure Cmd where
  word : ByteArray
  names : List ByteArray
  nums : List Int
  lo : Int
  hi : Int
  hl : Bool
  hh : Bool
  x : X
abbrev TC : TypeId := 54
abbrev TS : TypeId := 9
abbrev kT : Kd ByteArray := Kd.string
abbrev sN : Value := .slice none 0 0
abbrev cCells (c : Cmd) (vN vM v2 v3 : Value) : Array Value := #[.string c.word, vN, vM, .int .i64 c.lo, .int .i64 c.hi, .bool c.hl, .bool c.hh, .int .u8 c.x.f0, .string c.x.f1, v2, v3]
/-- Within a command: the parser, and the command's box; its rows lie from B on. -/
structure PaSt (w0 W : World) (g b B : Nat) (a : Int) (L : List Tok) (p : Int) (c : Cmd) (vN vM v2 v3 : Value) : Prop where
  isp : IsP w0 W g L a p
  box : W.heap[b]? = some (.cells (cCells c vN vM v2 v3) TC (0, 0))
  names : kT.R TS W B (fun _ => True) vN c.names
  nums : kI.R 2 W B (fun _ => True) vM c.nums
  expr : kX.M W B (fun _ => True) c.x [.int .u8 c.x.f0, .string c.x.f1, v2, v3]
  gb : g < b
  bB : b < B
abbrev Pt (g b B : Nat) : Nat → Prop := fun k => k = g ∨ k = b ∨ B ≤ k
section
variable {w0 w W W2 : World} {g b B : Nat} {a : Int} {L L2 : List Tok} {p p2 : Int} {c : Cmd} {vN vM v2 v3 : Value}
theorem M_at {x : X} {cs : List Value} (h : kX.M W B (fun _ => True) x cs) (hk : Kept W W2 (At g)) (hg : g < B) : kX.M W2 B (fun _ => True) x cs :=
  kX.M_mono (fun _ _ => trivial) (Kd.M_kept (kX.M_bound h) hk (fun k ho hs => by have := ho.2.1; have : k = g := hs; omega))
theorem PaSt.at (h : PaSt w0 W g b B a L p c vN vM v2 v3) (hI : IsP w0 W2 g L2 a p2) (hk : Kept W W2 (At g)) : PaSt w0 W2 g b B a L2 p2 c vN vM v2 v3 := by
  have h1 := h.gb
  have h2 := h.bB
  exact ⟨hI, blk_kept h.box hk (fun hs => by have : b = g := hs; omega), R_at h.names hk (by omega), R_at h.nums hk (by omega), M_at h.expr hk (by omega), h1, h2⟩
theorem PaSt.later (h : PaSt w0 W g b B a L p c vN vM v2 v3) (hb : Below W.heap.size W W2) : PaSt w0 W2 g b B a L p c vN vM v2 v3 := h.at (h.isp.keep hb) (Kept.of_below hb _)
theorem PaSt.lt (h : PaSt w0 W g b B a L p c vN vM v2 v3) : b < W.heap.size := blk_lt h.box
theorem PaSt.grown_isp (h : PaSt w0 W g b B a L p c vN vM v2 v3) (hB : B ≤ W.heap.size) {row : Option Nat} (hg : W.grownBy W2 row) (hr : ∀ k, row = some k → B ≤ k) : IsP w0 W2 g L a p := by
  have h1 := h.gb
  have h2 := h.bB
  have h4 := h.isp.ge
  exact h.isp.mv (S := fun k => B ≤ k) (Kept.of_grown hg (Kept.refl W _) (fun k hk => .inl (hr k hk))) (h.isp.low.grown hg (by omega) (fun k hk => by have := hr k hk; omega)) (by show ¬ (B ≤ g); omega)
theorem PaSt.grown_box (h : PaSt w0 W g b B a L p c vN vM v2 v3) {row : Option Nat} (hg : W.grownBy W2 row) (hr : ∀ k, row = some k → B ≤ k) : W2.heap[b]? = some (.cells (cCells c vN vM v2 v3) TC (0, 0)) :=
  (hg.block b h.lt (fun he => by have := hr b he.symm; have := h.bB; omega)).trans h.box
theorem PaSt.setNames (h : PaSt w0 W g b B a L p c vN vM sN sN) (hx : c.x = zX) (hB : B ≤ W.heap.size) {t : ByteArray} {u : Value} (hR : kT.R TS W2 B (fun _ => True) u (c.names ++ [t])) (hg : W.grownBy W2 vN.ownBlock) :
    PaSt w0 (W2.setCell ⟨b, 1, none⟩ u) g b B a L p { c with names := c.names ++ [t] } u vM sN sN := by
  have h1 := h.gb
  have h2 := h.bB
  have h4 := h.isp.ge
  have hr := Kd.R_base h.names
  have hI := h.grown_isp hB hg hr
  exact ⟨hI.mv (S := At b) (by (repeat (first | (with_reducible exact Kept.refl _ _) | (with_reducible apply Kept.alloc) | (with_reducible apply Kept.drewN) | (with_reducible apply Kept.drew) | (with_reducible refine kept_at ?_ _ _) | (with_reducible refine kept_new ?_ _ _ (Nat.le_refl _)) | (with_reducible refine kept_new ?_ _ _ (by first | assumption | omega))))) (below_set hI.low (by show _ ≤ b; omega)) (by show ¬ (g = b); omega), blk_put (h.grown_box hg hr) 1 u rfl,
    R_put hR h2 1 u, R_put (Kd.R_over h.nums h.names (fun q hq => by simp [Kd.E, kI, Kd.int, Kd.scalar] at hq; subst hq; decide) hg) h2 1 u, by
      show kX.M _ B _ c.x [.int .u8 c.x.f0, .string c.x.f1, sN, sN]
      rw [hx]
      exact k25_mkM _ _ _ zX (Kd.R_nil _ _ _ _ _) (Kd.R_nil _ _ _ _ _), h1, h2⟩
theorem PaSt.setNums (h : PaSt w0 W g b B a L p c vN vM sN sN) (hx : c.x = zX) (hB : B ≤ W.heap.size) {n : Int} {u : Value} (hR : kI.R 2 W2 B (fun _ => True) u (c.nums ++ [n])) (hg : W.grownBy W2 vM.ownBlock) :
    PaSt w0 (W2.setCell ⟨b, 2, none⟩ u) g b B a L p { c with nums := c.nums ++ [n] } vN u sN sN := by
  have h1 := h.gb
  have h2 := h.bB
  have h4 := h.isp.ge
  have hr := Kd.R_base h.nums
  have hI := h.grown_isp hB hg hr
  exact ⟨hI.mv (S := At b) (by (repeat (first | (with_reducible exact Kept.refl _ _) | (with_reducible apply Kept.alloc) | (with_reducible apply Kept.drewN) | (with_reducible apply Kept.drew) | (with_reducible refine kept_at ?_ _ _) | (with_reducible refine kept_new ?_ _ _ (Nat.le_refl _)) | (with_reducible refine kept_new ?_ _ _ (by first | assumption | omega))))) (below_set hI.low (by show _ ≤ b; omega)) (by show ¬ (g = b); omega), blk_put (h.grown_box hg hr) 2 u rfl,
    R_put (Kd.R_over h.names h.nums (fun q hq => by simp [Kd.E, kT, Kd.string, Kd.scalar] at hq; subst hq; decide) hg) h2 2 u, R_put hR h2 2 u, by
      show kX.M _ B _ c.x [.int .u8 c.x.f0, .string c.x.f1, sN, sN]
      rw [hx]
      exact k25_mkM _ _ _ zX (Kd.R_nil _ _ _ _ _) (Kd.R_nil _ _ _ _ _), h1, h2⟩
theorem PaSt.setRange (h : PaSt w0 W g b B a L p c vN vM sN sN) (hx : c.x = zX) (r : Rng) :
    PaSt w0 ((((W.setCell ⟨b, 3, none⟩ (.int .i64 r.lo)).setCell ⟨b, 4, none⟩ (.int .i64 r.hi)).setCell ⟨b, 5, none⟩ (.bool r.hl)).setCell ⟨b, 6, none⟩ (.bool r.hh)) g b B a L p { c with lo := r.lo, hi := r.hi, hl := r.hl, hh := r.hh } vN vM sN sN := by
  have h1 := h.gb
  have h2 := h.bB
  have h4 := h.isp.ge
  have hw0 : w0.heap.size ≤ b := by omega
  exact ⟨h.isp.mv (S := At b) (by (repeat (first | (with_reducible exact Kept.refl _ _) | (with_reducible apply Kept.alloc) | (with_reducible apply Kept.drewN) | (with_reducible apply Kept.drew) | (with_reducible refine kept_at ?_ _ _) | (with_reducible refine kept_new ?_ _ _ (Nat.le_refl _)) | (with_reducible refine kept_new ?_ _ _ (by first | assumption | omega))))) (by (repeat (first | (with_reducible exact h.isp.low) | (with_reducible apply below_alloc) | (with_reducible apply pw_below_drewN) | (with_reducible apply below_drew1) | (with_reducible refine below_set ?_ (by first | assumption | omega))))) (by show ¬ (g = b); omega), blk_put (blk_put (blk_put (blk_put h.box 3 _ rfl) 4 _ rfl) 5 _ rfl) 6 _ rfl,
    R_put (R_put (R_put (R_put h.names h2 3 _) h2 4 _) h2 5 _) h2 6 _, R_put (R_put (R_put (R_put h.nums h2 3 _) h2 4 _) h2 5 _) h2 6 _, by
      show kX.M _ B _ c.x [.int .u8 c.x.f0, .string c.x.f1, sN, sN]
      rw [hx]
      exact k25_mkM _ _ _ zX (Kd.R_nil _ _ _ _ _) (Kd.R_nil _ _ _ _ _), h1, h2⟩
theorem PaSt.setExpr (h : PaSt w0 W g b B a L p c vN vM v2 v3) {x : X} {u2 u3 : Value} (hx : kX.M W B (fun _ => True) x [.int .u8 x.f0, .string x.f1, u2, u3]) :
    PaSt w0 ((((W.setCell ⟨b, 7, none⟩ (.int .u8 x.f0)).setCell ⟨b, 8, none⟩ (.string x.f1)).setCell ⟨b, 9, none⟩ u2).setCell ⟨b, 10, none⟩ u3) g b B a L p { c with x := x } vN vM u2 u3 := by
  have h1 := h.gb
  have h2 := h.bB
  have h4 := h.isp.ge
  have hw0 : w0.heap.size ≤ b := by omega
  exact ⟨h.isp.mv (S := At b) (by (repeat (first | (with_reducible exact Kept.refl _ _) | (with_reducible apply Kept.alloc) | (with_reducible apply Kept.drewN) | (with_reducible apply Kept.drew) | (with_reducible refine kept_at ?_ _ _) | (with_reducible refine kept_new ?_ _ _ (Nat.le_refl _)) | (with_reducible refine kept_new ?_ _ _ (by first | assumption | omega))))) (by (repeat (first | (with_reducible exact h.isp.low) | (with_reducible apply below_alloc) | (with_reducible apply pw_below_drewN) | (with_reducible apply below_drew1) | (with_reducible refine below_set ?_ (by first | assumption | omega))))) (by show ¬ (g = b); omega), blk_put (blk_put (blk_put (blk_put h.box 7 _ rfl) 8 _ rfl) 9 _ rfl) 10 _ rfl,
    R_put (R_put (R_put (R_put h.names h2 7 _) h2 8 _) h2 9 _) h2 10 _, R_put (R_put (R_put (R_put h.nums h2 7 _) h2 8 _) h2 9 _) h2 10 _, M_at hx (by (repeat (first | (with_reducible exact Kept.refl _ _) | (with_reducible apply Kept.alloc) | (with_reducible apply Kept.drewN) | (with_reducible apply Kept.drew) | (with_reducible refine kept_at ?_ _ _) | (with_reducible refine kept_new ?_ _ _ (Nat.le_refl _)) | (with_reducible refine kept_new ?_ _ _ (by first | assumption | omega))))) h2, h1, h2⟩
end
/-- A part of a command, by its letter. -/
def partF (l : Int) (c : Cmd) (L : List Tok) (p : Int) : Cmd × List Tok × Int × Int :=
  if l = 110 then ({ c with names := c.names ++ [(takeF [1] L).1.f1] }, (takeF [1] L).2.1, p, (takeF [1] L).2.2)
  else if l = 105 then ({ c with nums := c.nums ++ [(numF L).1.f2] }, (numF L).2.1, p, (numF L).2.2)
  else if l = 114 then ({ c with lo := (scopeF L).lo, hi := (scopeF L).hi, hl := (scopeF L).hl, hh := (scopeF L).hh }, (scopeF L).l, p, (scopeF L).e)
  else if l = 101 then ({ c with x := (exprF 40 p L).x }, (exprF 40 p L).l, (exprF 40 p L).p, (exprF 40 p L).e)
  else (c, (markF ⟨#[61]⟩ L).1, p, (markF ⟨#[61]⟩ L).2)
/-- What a part leaves. -/
def PartQ (w0 w : World) (g b B : Nat) (a : Int) (R : Cmd × List Tok × Int × Int) (e : Ending) (w' : World) : Prop :=
  ∃ vN vM v2 v3, e = .returned (.int .i64 R.2.2.2) ∧ PaSt w0 w' g b B a R.2.1 R.2.2.1 R.1 vN vM v2 v3 ∧ (R.1.x = zX → v2 = sN ∧ v3 = sN) ∧ Kept w w' (Pt g b B)
theorem info_s3 : (Tryd.prog.info? TS).map (fun i => (i.zero, i.size, i.bytes)) = some (some (.string nil8), 1, 16) := by kernel_rfl
theorem enc_eq : Utf8.encode 61 = (⟨#[61]⟩ : ByteArray) := by decide +kernel
set_option maxHeartbeats 8000000 in
theorem part_mark (w0 w : World) (g b B : Nat) (a : Int) (L : List Tok) (p : Int) (c : Cmd) (vN vM : Value) (h : PaSt w0 w g b B a L p c vN vM sN sN) (hx : c.x = zX) :
    Calls Tryd.prog 68 #[.pointer (some ⟨g, 0, none⟩), .pointer (some ⟨b, 0, none⟩), .int .i32 61] w (PartQ w0 w g b B a (partF 61 c L p)) := by
  have hP : partF 61 c L p = (c, (markF ⟨#[61]⟩ L).1, p, (markF ⟨#[61]⟩ L).2) := rfl
  rw [hP]
  have CM := Aside0.mk (mark_calls g ⟨#[61]⟩ L a p w0 w h.isp)
  obtain ⟨L1, e1, hm⟩ : ∃ L1 e1, markF ⟨#[61]⟩ L = (L1, e1) := ⟨_, _, rfl⟩
  rw [hm] at CM ⊢
  dsimp only at CM ⊢
  have H := Aside0.mk h
  clear h hP hm
  unfold PartQ
  dsimp only
  go_enter Tryd.func68, Tryd.ntmps68
  go_wp2_with fail
  rw [enc_eq]
  (with_reducible refine CM.out.mono ?_)
  rintro e w1 ⟨rfl, hI1, hk1⟩
  have ST1 := Aside0.mk (H.out.at hI1 hk1)
  have K1 := Aside0.mk (hk1.mono (S' := Pt g b B) (fun k hk => .inl hk))
  clear hI1 hk1 CM
  go_wp2
  go_ret
  exact ⟨_, _, _, _, rfl, ST1.out, fun _ => ⟨rfl, rfl⟩, K1.out⟩
set_option maxHeartbeats 8000000 in
set_option maxRecDepth 100000 in
theorem part_num (w0 w : World) (g b B : Nat) (a : Int) (L : List Tok) (p : Int) (c : Cmd) (vN vM : Value) (h : PaSt w0 w g b B a L p c vN vM sN sN) (hx : c.x = zX) (hB : B ≤ w.heap.size) (hl : c.nums.length ≤ 100) :
    Calls Tryd.prog 68 #[.pointer (some ⟨g, 0, none⟩), .pointer (some ⟨b, 0, none⟩), .int .i32 105] w (PartQ w0 w g b B a (partF 105 c L p)) := by
  have hP : partF 105 c L p = ({ c with nums := c.nums ++ [(numF L).1.f2] }, (numF L).2.1, p, (numF L).2.2) := rfl
  rw [hP]
  have CN := Aside0.mk (number_calls g L a p w0 w h.isp)
  obtain ⟨t, L1, e1, hm⟩ : ∃ t L1 e1, numF L = (t, L1, e1) := ⟨_, _, _, rfl⟩
  rw [hm] at CN ⊢
  dsimp only at CN ⊢
  have H := Aside0.mk h
  have HX := Aside0.mk hx
  have HB := Aside0.mk hB
  have HN := Aside0.mk h.bB
  clear h hP hm hx hB
  unfold PartQ
  dsimp only
  go_enter Tryd.func68, Tryd.ntmps68
  go_wp2_with fail
  (with_reducible refine CN.out.mono ?_)
  rintro e w1 ⟨rfl, hI1, hk1⟩
  have ST1 := Aside0.mk (H.out.at hI1 hk1)
  have K1 := Aside0.mk (hk1.mono (S' := Pt g b B) (fun k hk => .inl hk))
  have hbz : B ≤ w1.heap.size := Nat.le_trans HB.out hk1.1
  have q2 : w1.cell? ⟨b, 2, none⟩ = some vM := (blk_cell ST1.out.box 2).trans rfl
  clear hI1 hk1 CN H
  go_wp2_with (first | ((with_reducible refine gate_builtin (b := .append) (xs := #[.tmp 48, .tmp 50]) rfl ?_); at_builtin; refine Kd.R_append kI (w0 := w1) B rfl (.tmp 48) (.tmp 50) 22 2 (.int .i64 0) 8 rfl Tryd.underlying22 info_i3 rfl (by decide) (by decide) vM c.nums t.f2 [.int .i64 t.f2] (fun _ => True) (fun _ => False) rfl rfl rfl (fun _ hk => hk.elim) (fun _ _ => trivial) ST1.out.nums (Below.refl _ _) hbz (by omega) ?_; intro v8 w8 ho hb hg hat; obtain ⟨A8, c8, h8⟩ := Kd.R_slice ho; rw [List.length_append, List.length_singleton] at h8; subst h8; have HO := Aside0.mk ho; have HG := Aside0.mk hg; have f8 := blk_frozen (ST1.out.grown_box hg (Kd.R_base ST1.out.nums)) 2; have q8 : w8.cell? ⟨b, 2, none⟩ = some vM := (blk_cell (ST1.out.grown_box hg (Kd.R_base ST1.out.nums)) 2).trans rfl; clear ho hb hg hat))
  have ST8 := Aside0.mk (ST1.out.setNums HX.out hbz HO.out HG.out)
  have K8 := Aside0.mk (Kept.of_grown HG.out K1.out (fun k hk => .inl (.inr (.inr (Kd.R_base ST1.out.nums k hk)))))
  go_ret
  exact ⟨_, _, _, _, rfl, ST8.out, fun _ => ⟨rfl, rfl⟩, K8.out.setCell (p := ⟨b, 2, none⟩) (.inl (.inr (.inl rfl))) _⟩
set_option maxHeartbeats 8000000 in
set_option maxRecDepth 100000 in
theorem part_range (w0 w : World) (g b B : Nat) (a : Int) (L : List Tok) (p : Int) (c : Cmd) (vN vM : Value) (h : PaSt w0 w g b B a L p c vN vM sN sN) (hx : c.x = zX) :
    Calls Tryd.prog 68 #[.pointer (some ⟨g, 0, none⟩), .pointer (some ⟨b, 0, none⟩), .int .i32 114] w (PartQ w0 w g b B a (partF 114 c L p)) := by
  have hP : partF 114 c L p = ({ c with lo := (scopeF L).lo, hi := (scopeF L).hi, hl := (scopeF L).hl, hh := (scopeF L).hh }, (scopeF L).l, p, (scopeF L).e) := rfl
  rw [hP]
  have CN := Aside0.mk (scope_calls g L a p w0 w h.isp)
  generalize scopeF L = r at *
  have H := Aside0.mk h
  have HX := Aside0.mk hx
  clear h hP hx
  unfold PartQ
  dsimp only
  go_enter Tryd.func68, Tryd.ntmps68
  go_wp2_with fail
  (with_reducible refine CN.out.mono ?_)
  rintro e w1 ⟨rfl, hI1, hk1⟩
  have ST1 := Aside0.mk (H.out.at hI1 hk1)
  have K1 := Aside0.mk (hk1.mono (S' := Pt g b B) (fun k hk => .inl hk))
  have q3 : w1.cell? ⟨b, 3, none⟩ = some (.int .i64 c.lo) := (blk_cell ST1.out.box 3).trans rfl
  have q4 : w1.cell? ⟨b, 4, none⟩ = some (.int .i64 c.hi) := (blk_cell ST1.out.box 4).trans rfl
  have q5 : w1.cell? ⟨b, 5, none⟩ = some (.bool c.hl) := (blk_cell ST1.out.box 5).trans rfl
  have q6 : w1.cell? ⟨b, 6, none⟩ = some (.bool c.hh) := (blk_cell ST1.out.box 6).trans rfl
  have f3 := blk_frozen ST1.out.box 3
  have f4 := blk_frozen ST1.out.box 4
  have f5 := blk_frozen ST1.out.box 5
  have f6 := blk_frozen ST1.out.box 6
  clear hI1 hk1 CN H
  go_wp2
  have ST8 := Aside0.mk (ST1.out.setRange HX.out r)
  go_ret
  exact ⟨_, _, _, _, rfl, ST8.out, fun _ => ⟨rfl, rfl⟩, (((K1.out.setCell (p := ⟨b, 3, none⟩) (.inl (.inr (.inl rfl))) _).setCell (p := ⟨b, 4, none⟩) (.inl (.inr (.inl rfl))) _).setCell (p := ⟨b, 5, none⟩) (.inl (.inr (.inl rfl))) _).setCell (p := ⟨b, 6, none⟩) (.inl (.inr (.inl rfl))) _⟩
set_option maxHeartbeats 8000000 in
set_option maxRecDepth 100000 in
theorem part_expr (w0 w : World) (hC : Cal w0) (g b B : Nat) (a : Int) (L : List Tok) (p : Int) (p0 : 0 ≤ p) (p1 : p ≤ 2000) (c : Cmd) (vN vM v2 v3 : Value) (h : PaSt w0 w g b B a L p c vN vM v2 v3) (hB : B ≤ w.heap.size) :
    Calls Tryd.prog 68 #[.pointer (some ⟨g, 0, none⟩), .pointer (some ⟨b, 0, none⟩), .int .i32 101] w fun e w' => ∃ vN' vM' v2' v3', e = .returned (.int .i64 (partF 101 c L p).2.2.2) ∧ PaSt w0 w' g b B a (partF 101 c L p).2.1 (partF 101 c L p).2.2.1 (partF 101 c L p).1 vN' vM' v2' v3' ∧ Kept w w' (Pt g b B) := by
  have hP : partF 101 c L p = ({ c with x := (exprF 40 p L).x }, (exprF 40 p L).l, (exprF 40 p L).p, (exprF 40 p L).e) := rfl
  rw [hP]
  have CN := Aside0.mk (expr_calls w0 g a hC 40 (by omega) p L w h.isp p0 p1)
  rw [show (41 : Int) - ((40 : Nat) : Int) = 1 by decide] at CN
  generalize exprF 40 p L = r at *
  have H := Aside0.mk h
  have HB := Aside0.mk hB
  obtain ⟨A2, c2, A3, c3, z2, z3⟩ : ∃ A2 c2 A3 c3, v2 = .slice A2 c.x.f2.length c2 ∧ v3 = .slice A3 c.x.f3.length c3 := by
    obtain ⟨u2, u3, he, h2, h3⟩ := k25_openM h.expr
    simp only [List.cons.injEq, true_and, and_true] at he
    obtain ⟨rfl, rfl⟩ := he
    obtain ⟨A2, c2, e2⟩ := Kd.R_slice h2
    obtain ⟨A3, c3, e3⟩ := Kd.R_slice h3
    exact ⟨A2, c2, A3, c3, e2, e3⟩
  subst z2
  subst z3
  clear h hP hB
  go_enter Tryd.func68, Tryd.ntmps68
  go_wp2_with fail
  (with_reducible refine CN.out.mono ?_)
  rintro e w1 ⟨v5, v6, rfl, hI1, hk1, hg1⟩
  obtain ⟨A5, c5, A6, c6, rfl, rfl⟩ := hg1.slices
  have ST1 := Aside0.mk (H.out.at hI1 hk1)
  have HG := Aside0.mk (show kX.M w1 B (fun _ => True) r.x [.int .u8 r.x.f0, .string r.x.f1, .slice A5 r.x.f2.length c5, .slice A6 r.x.f3.length c6] from kX.M_lower HB.out hg1)
  have K1 := Aside0.mk (hk1.mono (S' := Pt g b B) (fun k hk => .inl hk))
  have q3 : w1.cell? ⟨b, 7, none⟩ = some (.int .u8 c.x.f0) := (blk_cell ST1.out.box 7).trans rfl
  have q4 : w1.cell? ⟨b, 8, none⟩ = some (.string c.x.f1) := (blk_cell ST1.out.box 8).trans rfl
  have q5 : w1.cell? ⟨b, 9, none⟩ = some (.slice A2 c.x.f2.length c2) := (blk_cell ST1.out.box 9).trans rfl
  have q6 : w1.cell? ⟨b, 10, none⟩ = some (.slice A3 c.x.f3.length c3) := (blk_cell ST1.out.box 10).trans rfl
  have f3 := blk_frozen ST1.out.box 7
  have f4 := blk_frozen ST1.out.box 8
  have f5 := blk_frozen ST1.out.box 9
  have f6 := blk_frozen ST1.out.box 10
  clear hI1 hk1 CN H hg1
  go_wp2
  have ST8 := Aside0.mk (ST1.out.setExpr HG.out)
  go_ret
  exact ⟨_, _, _, _, rfl, ST8.out, (((K1.out.setCell (p := ⟨b, 7, none⟩) (.inl (.inr (.inl rfl))) _).setCell (p := ⟨b, 8, none⟩) (.inl (.inr (.inl rfl))) _).setCell (p := ⟨b, 9, none⟩) (.inl (.inr (.inl rfl))) _).setCell (p := ⟨b, 10, none⟩) (.inl (.inr (.inl rfl))) _⟩
theorem cell_alloc {w : World} (o : Obj) {a : Addr} {v : Value} (h : w.cell? a = some v) : (w.alloc o).cell? a = some v := ((below_alloc (Below.refl w.heap.size w) o).cell (World.block_lt_of_cell? w a h)).trans h
set_option maxHeartbeats 8000000 in
set_option maxRecDepth 100000 in
theorem part_name (w0 w : World) (g b B : Nat) (a : Int) (L : List Tok) (p : Int) (c : Cmd) (vN vM : Value) (h : PaSt w0 w g b B a L p c vN vM sN sN) (hx : c.x = zX) (hB : B ≤ w.heap.size) (hl : c.names.length ≤ 100) :
    Calls Tryd.prog 68 #[.pointer (some ⟨g, 0, none⟩), .pointer (some ⟨b, 0, none⟩), .int .i32 110] w (PartQ w0 w g b B a (partF 110 c L p)) := by
  have hP : partF 110 c L p = ({ c with names := c.names ++ [(takeF [1] L).1.f1] }, (takeF [1] L).2.1, p, (takeF [1] L).2.2) := rfl
  rw [hP]
  have CT := fun A W h hC => Aside0.mk (take_calls g [1] asks1 A 1 1 L a p w0 W h rfl hC (Nat.le_refl _))
  obtain ⟨t, L1, e1, hm⟩ : ∃ t L1 e1, takeF [1] L = (t, L1, e1) := ⟨_, _, _, rfl⟩
  rw [hm] at CT ⊢
  dsimp only at CT ⊢
  have H := Aside0.mk h
  have HX := Aside0.mk hx
  have HB := Aside0.mk hB
  have hs : ∀ (W : World) o, (W.alloc o).heap.size = W.heap.size + 1 := fun W o => Array.size_push ..
  have HS := Aside0.mk hs
  clear h hP hm hx hB hs
  unfold PartQ
  dsimp only
  go_enter Tryd.func68, Tryd.ntmps68
  go_wp2_with fail
  (with_reducible refine (CT (some ⟨w.heap.size, 0, none⟩) _ ?i ?j).out.mono ?_)
  case i => exact H.out.isp.keep (below_alloc (Below.refl _ _) _)
  case j => exact kinds_C w [1] (by decide)
  rintro e w1 ⟨rfl, hI1, hk1⟩
  have ST1 := Aside0.mk ((H.out.later (below_alloc (Below.refl _ _) _)).at hI1 hk1)
  have K1 := Aside0.mk (((Kept.refl w (Pt g b B)).alloc (.cells #[.int .u8 1] 5)).then_ hk1 (fun k hk => .inl (.inl hk)))
  have hz1 : w.heap.size + 1 ≤ w1.heap.size := by have h1 := hk1.1; rw [HS.out] at h1; exact h1
  clear hI1 hk1 CT H
  go_wp2_with fail
  obtain ⟨w2, hw2⟩ : ∃ w2, w2 = w1.alloc (.cells #[.int .u8 t.f0, .string t.f1, .int .i64 t.f2] 61) := ⟨_, rfl⟩
  have ST2 := Aside0.mk (show PaSt w0 w2 g b B a L1 p c vN vM sN sN by rw [hw2]; exact ST1.out.later (below_alloc (Below.refl _ _) _))
  have K2 := Aside0.mk (show Kept w w2 (Pt g b B) by rw [hw2]; exact K1.out.alloc _)
  have hb6 : w2.heap[w1.heap.size]? = some (.cells #[.int .u8 t.f0, .string t.f1, .int .i64 t.f2] 61 (0, 0)) := by rw [hw2]; exact blk_new _ _
  have q6 : w2.cell? ⟨w1.heap.size, 1, none⟩ = some (.string t.f1) := (blk_cell hb6 1).trans rfl
  have q1 : w2.cell? ⟨b, 1, none⟩ = some vN := (blk_cell ST2.out.box 1).trans rfl
  have hbz : B ≤ w2.heap.size := Nat.le_trans HB.out K2.out.1
  have HLT := Aside0.mk (blk_lt hb6)
  have NE := Aside0.mk (Kd.R_ne ST2.out.names hb6 (by decide))
  rw [← hw2]
  clear hw2 hb6
  refine start_ (n := 14) (S := fun w' => w'.cell? ⟨b, 1, none⟩ = some vN ∧ w'.cell? ⟨w1.heap.size, 1, none⟩ = some (.string t.f1)) (ds := [12]) #[false, false, false, false, false, false, false, false, false, false, false, false, false, false] (by kernel_rfl) rfl rfl ⟨q1, q6⟩ (fun hHeld => ?_)
  refine pure_ (i := 0) (N := some 25) (v := ?_) (a' := ?_) #[true, false, false, false, false, false, false, false, false, false, false, false, false, false] rfl rfl (by kernel_rfl) (fun _ _ _ h => h) (Or.inl ⟨by rfl, ?_⟩) ?_ ?_
  rotate_left
  · intro w'
    go_simp
    with_reducible rfl
  rotate_left
  · simp only [Act.put, List.setIfInBounds_toArray, List.set_cons_zero, List.set_cons_succ, i64_w, i32_w]
    rfl
  refine pure_ (i := 1) (N := some 26) (v := ?_) (a' := ?_) #[true, true, false, false, false, false, false, false, false, false, false, false, false, false] rfl rfl (by kernel_rfl) (fun _ _ _ h => h) (Or.inl ⟨by rfl, ?_⟩) ?_ ?_
  rotate_left
  · intro w'
    go_simp
    with_reducible rfl
  rotate_left
  · simp only [Act.put, List.setIfInBounds_toArray, List.set_cons_zero, List.set_cons_succ, i64_w, i32_w]
    rfl
  refine pure_ (i := 2) (N := some 27) (v := ?_) (a' := ?_) #[true, true, true, false, false, false, false, false, false, false, false, false, false, false] rfl rfl (by kernel_rfl) (fun _ _ _ h => h) (Or.inl ⟨by rfl, ?_⟩) ?_ ?_
  rotate_left
  · intro w'
    go_simp
    with_reducible rfl
  rotate_left
  · simp only [Act.put, List.setIfInBounds_toArray, List.set_cons_zero, List.set_cons_succ, i64_w, i32_w]
    rfl
  refine pure_ (i := 3) (N := some 28) (v := ?_) (a' := ?_) #[true, true, true, true, false, false, false, false, false, false, false, false, false, false] rfl rfl (by kernel_rfl) (fun _ _ _ h => h) (Or.inl ⟨by rfl, ?_⟩) ?_ ?_
  rotate_left
  · intro w'
    go_simp
    with_reducible rfl
  rotate_left
  · simp only [Act.put, List.setIfInBounds_toArray, List.set_cons_zero, List.set_cons_succ, i64_w, i32_w]
    rfl
  refine pure_ (i := 5) (N := some 30) (v := ?_) (a' := ?_) #[true, true, true, true, false, true, false, false, false, false, false, false, false, false] rfl rfl (by kernel_rfl) (fun _ _ _ h => h) (Or.inl ⟨by rfl, ?_⟩) ?_ ?_
  rotate_left
  · intro w'
    go_simp
    with_reducible rfl
  rotate_left
  · simp only [Act.put, List.setIfInBounds_toArray, List.set_cons_zero, List.set_cons_succ, i64_w, i32_w]
    rfl
  refine pure_ (i := 9) (N := some 34) (v := ?_) (a' := ?_) #[true, true, true, true, false, true, false, false, false, true, false, false, false, false] rfl rfl (by kernel_rfl) (fun _ _ _ h => h) (Or.inl ⟨by rfl, ?_⟩) ?_ ?_
  rotate_left
  · intro w'
    go_simp
    with_reducible rfl
  rotate_left
  · simp only [Act.put, List.setIfInBounds_toArray, List.set_cons_zero, List.set_cons_succ, i64_w, i32_w]
    rfl
  refine take_ (i := 4) (N := some 29) (v := ?_) (a' := ?_) #[true, true, true, true, true, true, false, false, false, true, false, false, false, false] rfl rfl (by kernel_rfl) (fun _ _ _ h => h) (Or.inl ⟨by rfl, ?_⟩) hHeld ?_ ?_
  rotate_left
  · rintro w' ⟨s0, s1⟩
    go_simp
    with_reducible rfl
  rotate_left
  · simp only [Act.put, List.setIfInBounds_toArray, List.set_cons_zero, List.set_cons_succ, i64_w, i32_w]
    rfl
  refine take_ (i := 6) (N := some 31) (v := ?_) (a' := ?_) #[true, true, true, true, true, true, true, false, false, true, false, false, false, false] rfl rfl (by kernel_rfl) (fun _ _ _ h => h) (Or.inl ⟨by rfl, ?_⟩) hHeld ?_ ?_
  rotate_left
  · rintro w' ⟨s0, s1⟩
    go_simp
    with_reducible rfl
  rotate_left
  · simp only [Act.put, List.setIfInBounds_toArray, List.set_cons_zero, List.set_cons_succ, i64_w, i32_w]
    rfl
  refine one_ (i := 7) (N := some 32) #[true, true, true, true, true, true, true, true, false, true, false, false, false, false] rfl rfl (by kernel_rfl) (by decide) (fun K hK => ?_)
  refine value_ (w1 := ?_) (v := ?_) (by rfl) rfl ?_ ?_
  rotate_left 2
  · go_simp
    constructor
    · rfl
    · rfl
  refine hK.out _ _ ⟨(cell_alloc _ q1), (cell_alloc _ q6)⟩ (fun hHeld => ?_)
  clear hK K
  refine norm_ (a' := ?_) ?_ ?_
  rotate_left
  · show Act.put _ (some 32) _ = _
    simp only [Act.put, List.setIfInBounds_toArray, List.set_cons_zero, List.set_cons_succ, i64_w, i32_w]
    rfl
  refine one_ (i := 8) (N := some 33) #[true, true, true, true, true, true, true, true, true, true, false, false, false, false] rfl rfl (by kernel_rfl) (by decide) (fun K hK => ?_)
  refine Kd.R_append_step kT (w0 := w2.drew) B (by rfl) (.tmp 29) (.tmp 32) 28 TS (.string nil8) 16 rfl Tryd.underlying28 info_s3 rfl (by decide) (by decide) vN c.names t.f1 [.string t.f1] (fun _ => True) (fun _ => False) rfl rfl rfl (fun _ hk => hk.elim) (fun _ _ => trivial) (Kd.R_drew ST2.out.names) (Below.refl _ _) hbz (by omega) ?_
  intro v8 w8 ho hb hg hat
  obtain ⟨A8, c8, h8⟩ := Kd.R_slice ho
  rw [List.length_append, List.length_singleton] at h8
  subst h8
  have HO := Aside0.mk ho
  have HG := Aside0.mk (show w2.grownBy w8 vN.ownBlock from ⟨hg.1, hg.2, hg.3, hg.4, hg.5⟩)
  have hbx := ST2.out.grown_box HG.out (Kd.R_base ST2.out.names)
  have f8 := blk_frozen hbx 1
  have q8 : w8.cell? ⟨b, 1, none⟩ = some vN := (blk_cell hbx 1).trans rfl
  have hne : some w1.heap.size ≠ vN.ownBlock := NE.out
  have q9 := cell_of_heap (w := w2) (w1 := w8) (a := ⟨w1.heap.size, 1, none⟩) (HG.out.block w1.heap.size HLT.out hne) q6
  refine hK.out _ _ ⟨q8, q9⟩ (fun hHeld => ?_)
  clear hK K
  refine norm_ (a' := ?_) ?_ ?_
  rotate_left
  · show Act.put _ (some 33) _ = _
    simp only [Act.put, List.setIfInBounds_toArray, List.set_cons_zero, List.set_cons_succ, i64_w, i32_w]
    rfl
  refine pure_ (i := 10) (N := some 35) (v := ?_) (a' := ?_) #[true, true, true, true, true, true, true, true, true, true, true, false, false, false] rfl rfl (by kernel_rfl) (fun _ _ _ h => h) (Or.inl ⟨by rfl, ?_⟩) ?_ ?_
  rotate_left
  · intro w'
    go_simp
    with_reducible rfl
  rotate_left
  · simp only [Act.put, List.setIfInBounds_toArray, List.set_cons_zero, List.set_cons_succ, i64_w, i32_w]
    rfl
  refine pure_ (i := 11) (N := some 36) (v := ?_) (a' := ?_) #[true, true, true, true, true, true, true, true, true, true, true, true, false, false] rfl rfl (by kernel_rfl) (fun _ _ _ h => h) (Or.inl ⟨by rfl, ?_⟩) ?_ ?_
  rotate_left
  · intro w'
    go_simp
    with_reducible rfl
  rotate_left
  · simp only [Act.put, List.setIfInBounds_toArray, List.set_cons_zero, List.set_cons_succ, i64_w, i32_w]
    rfl
  refine last_ (i := 12) (N := none) #[true, true, true, true, true, true, true, true, true, true, true, true, true, false] rfl rfl (by kernel_rfl) (by decide) (fun K hK => ?_)
  refine skip_ (w1 := ?_) (by rfl) rfl ?_ ?_
  rotate_left
  · go_simp
    rfl
  refine hK.out _ _ ?_
  clear hK K
  refine pure_ (i := 13) (N := some 7) (v := ?_) (a' := ?_) #[true, true, true, true, true, true, true, true, true, true, true, true, true, true] rfl rfl (by kernel_rfl) (fun _ _ _ h => h) (Or.inl ⟨by rfl, ?_⟩) ?_ ?_
  rotate_left
  · intro w'
    go_simp
    with_reducible rfl
  rotate_left
  · simp only [Act.put, List.setIfInBounds_toArray, List.set_cons_zero, List.set_cons_succ, i64_w, i32_w]
    rfl
  refine done_ (by kernel_rfl) ?_

  have ST8 := Aside0.mk (ST2.out.setNames HX.out hbz HO.out HG.out)
  have K8 := Aside0.mk (Kept.of_grown HG.out K2.out (fun k hk => .inl (.inr (.inr (Kd.R_base ST2.out.names k hk)))))
  go_wp2
  go_ret
  exact ⟨_, _, _, _, rfl, ST8.out, fun _ => ⟨rfl, rfl⟩, K8.out.setCell (p := ⟨b, 1, none⟩) (.inl (.inr (.inl rfl))) _⟩
end Go.Proofs.YtjeofffddbibeaaDoor.Pa
end

section
namespace Go.Proofs.YtjeofffddbibeaaDoor.Pa
open Go Go.RowKit Go.Proofs.YtjeofffddbibeaaDoor.PParseTells Go.Proofs.YtjeofffddbibeaaDoor.Ex Go.Proofs.YtjeofffddbibeaaDoorW.PrintWords Go.Proofs.YtjeofffddbibeaaDoorW.PrintLast Go.Proofs.YtjeofffddbibeaaDoorW.PrintMore
set_option linter.unusedVariables false
set_option linter.unusedSimpArgs false
def rawL : List ByteArray := (Lib.fields SHAPES.data.toList).map fun l => ⟨l.toArray⟩
theorem rawL_len : rawL.length = 18 := by decide +kernel
theorem shapeL_len : shapeL.length = 18 := by decide +kernel
theorem shapeL_map : shapeL = rawL.map fun q => ((⟨(Lib.cut q.data.toList [58]).1.toArray⟩ : ByteArray), (⟨(Lib.cut q.data.toList [58]).2.1.toArray⟩ : ByteArray)) := by
  unfold shapeL rawL
  rw [List.map_map]
  rfl
theorem shapeL_at (k : Nat) (h : k < rawL.length) (h' : k < shapeL.length) : shapeL[k] = (⟨(Lib.cut (rawL[k]).data.toList [58]).1.toArray⟩, ⟨(Lib.cut (rawL[k]).data.toList [58]).2.1.toArray⟩) := by
  rw [List.getElem_of_eq shapeL_map h', List.getElem_map]
  try rfl
theorem raw_small : ∀ q ∈ rawL, q.size < 4294967281 := by decide +kernel
def shF : List (ByteArray × ByteArray) → ByteArray → ByteArray × Bool
  | [], _ => (nil8, false)
  | q :: r, s => if (q.2.toList == s.toList) = true then (q.1, true) else shF r s
def shapeF (s : ByteArray) : ByteArray × Bool := shF shapeL s
theorem shF_at (s : ByteArray) (k : Nat) (h : k < shapeL.length) : shF (shapeL.drop k) s = if ((shapeL[k]).2.toList == s.toList) = true then ((shapeL[k]).1, true) else shF (shapeL.drop (k + 1)) s := by
  rw [List.drop_eq_getElem_cons h, shF]
theorem shF_end (s : ByteArray) : shF (shapeL.drop 18) s = (nil8, false) := by
  rw [List.drop_of_length_le (by rw [shapeL_len]; exact Nat.le_refl 18), shF]
set_option maxHeartbeats 8000000 in
set_option maxRecDepth 100000 in
theorem Shape_calls (s : ByteArray) (w : World) (hC : Cal w) :
    Calls Tryd.prog 34 #[.string s] w fun e w' => e = .returned (.tuple #[.string (shapeF s).1, .bool (shapeF s).2]) ∧ Below w.heap.size w w' := by
  have CF : Aside0 (Calls Tryd.prog 61 #[.string SHAPES] w fun e w' => e = .returned (.slice (some ⟨w.heap.size, 0, none⟩) 18 18) ∧ w' = w.alloc (.cells (rawL.map Value.string).toArray 9)) := by
    refine ⟨(Tryd.strings_Fields_laid SHAPES w (by decide +kernel) shapes_ascii hC.space).mono ?_⟩
    rintro e w' ⟨rfl, rfl⟩
    have hl : (Lib.fields SHAPES.data.toList).length = 18 := by
      have := rawL_len
      unfold rawL at this
      rw [List.length_map] at this
      exact this
    refine ⟨by rw [hl], ?_⟩
    unfold rawL
    rw [List.map_map]
    rfl
  obtain ⟨m, hm⟩ := hC.maxl
  have hb0 := below_alloc (Below.refl w.heap.size w) (.cells (rawL.map Value.string).toArray 9)
  have CC : ∀ (k : Nat) (hk : k < rawL.length) (W : World), Below w.heap.size w W → Aside0 (Calls Tryd.prog 63 #[.string rawL[k], .string ⟨#[58]⟩] W fun e w' => e = .returned (.tuple #[.string (shapeL[k]'(by rw [shapeL_len]; rw [rawL_len] at hk; exact hk)).1, .string (shapeL[k]'(by rw [shapeL_len]; rw [rawL_len] at hk; exact hk)).2, .bool (Lib.cut (rawL[k]).data.toList [58]).2.2]) ∧ Drawn0 W w') := by
    intro k hk W hb
    refine ⟨(Tryd.strings_Cut rawL[k] ⟨#[58]⟩ m W (raw_small _ (List.getElem_mem hk)) ((hb.cell (World.block_lt_of_cell? w _ hm)).trans hm)).mono ?_⟩
    rintro e w' ⟨rfl, hd⟩
    rw [shapeL_at k hk]
    obtain ⟨n, rfl⟩ := hd
    exact ⟨rfl, n, rfl⟩
  have HB0 := Aside0.mk hb0
  have HCC := Aside0.mk CC
  have b1 := Aside0.mk (blk_new w (.cells (rawL.map Value.string).toArray 9))
  have h0 : shF (shapeL.drop 0) s = shapeF s := rfl
  have H0 := Aside0.mk h0
  clear hm hC hb0 CC h0
  obtain ⟨R, hR⟩ : ∃ R, shapeF s = R := ⟨_, rfl⟩
  rw [hR] at H0 ⊢
  clear hR
  go_enter Tryd.func34, Tryd.ntmps34
  go_wp2_with fail
  (with_reducible refine CF.out.mono ?_)
  rintro e w1 ⟨rfl, rfl⟩
  clear CF
  go_wp2_with fail
  go_loopw [11] (fun j wr => ∃ k n : Nat, k ≤ 18 ∧ j = .int .i64 k ∧ shF (shapeL.drop k) s = R ∧ wr = (w.alloc (.cells (rawL.map Value.string).toArray 9)).drewN n) (fun j _ => 18 - (intOf j).toNat)
  case atStart => exact ⟨0, 0, by omega, rfl, H0.out, rfl⟩
  case round =>
    obtain ⟨k, n, hk, rfl, hR, rfl⟩ := hrel
    by_cases hkn : k < 18
    · have hki : (k : Int) < 18 := by omega
      have hki' : decide ((k : Int) < 18) = true := decide_eq_true hki
      have hk1 : k < rawL.length := by rw [rawL_len]; exact hkn
      have hk2 : k < shapeL.length := by rw [shapeL_len]; exact hkn
      have q : ((w.alloc (.cells (rawL.map Value.string).toArray 9)).drewN n).cell? ⟨w.heap.size, k, none⟩ = some (.string rawL[k]) := by
        refine (blk_cell (blk_drewN b1.out n) k).trans ?_
        simp [hk1]
        try rfl
      have hBW := pw_below_drewN HB0.out n
      have CK := HCC.out k hk1 _ hBW
      have HR := Aside0.mk ((shF_at s k hk2).symm.trans hR)
      clear hR hBW
      generalize hsq : shapeL[k] = sq at *
      generalize rawL[k] = rq at *
      generalize (Lib.cut rq.data.toList [58]).2.2 = bq at *
      obtain ⟨s1, s2⟩ := sq
      dsimp only at CK HR
      clear hsq
      go_wp2_with fail
      (with_reducible refine CK.out.mono ?_)
      rintro e w2 ⟨rfl, ⟨m2, rfl⟩⟩
      clear CK q
      cases hq : (s2.toList == s.toList)
      · go_wp2_with fail
        go_roundw
        case rel => exact ⟨k + 1, n + m2, by omega, by go_num, by have := HR.out; rw [hq, if_neg (by simp)] at this; exact this, rfl⟩
        case measure => simp [intOf]; omega
      · have hF := HR.out
        rw [hq, if_pos rfl] at hF
        subst hF
        go_wp2
        go_ret2
        exact ⟨rfl, pw_below_drewN HB0.out (n + m2)⟩
    · obtain rfl : k = 18 := by omega
      have hF := hR
      rw [shF_end] at hF
      subst hF
      clear hR
      go_wp2
      go_ret2
      exact ⟨rfl, pw_below_drewN HB0.out n⟩
end Go.Proofs.YtjeofffddbibeaaDoor.Pa
end

section
namespace Go.Proofs.YtjeofffddbibeaaDoor.Pa
open Go Go.RowKit Go.Proofs.YtjeofffddbibeaaDoor.PParseTells Go.Proofs.YtjeofffddbibeaaDoor.Ex Go.Proofs.YtjeofffddbibeaaDoorW.PrintWords Go.Proofs.YtjeofffddbibeaaDoorW.PrintLast Go.Proofs.YtjeofffddbibeaaDoorW.PrintMore
set_option linter.unusedVariables false
set_option linter.unusedSimpArgs false
/-- A string's letters. -/
def lets (s : ByteArray) : List Int := s.data.toList.map fun b => (b.toNat : Int)
/-- Letters that a shape has: the expression's comes last. -/
def okL : List Int → Bool
  | [] => true
  | l :: ls => if l = 101 then ls.isEmpty else (l == 110 || l == 105 || l == 114 || l == 61) && okL ls
theorem shapes_ok : ∀ q ∈ shapeL, okL (lets q.1) = true ∧ q.1.size ≤ 10 ∧ ∀ b ∈ q.1.data.toList, b.toNat < 128 := by decide +kernel
theorem shF_mem (s : ByteArray) : ∀ l : List (ByteArray × ByteArray), (∀ q ∈ l, okL (lets q.1) = true ∧ q.1.size ≤ 10 ∧ ∀ b ∈ q.1.data.toList, b.toNat < 128) → okL (lets (shF l s).1) = true ∧ (shF l s).1.size ≤ 10 ∧ ∀ b ∈ (shF l s).1.data.toList, b.toNat < 128
  | [], _ => by
    rw [shF]
    exact ⟨rfl, by decide, by decide⟩
  | q :: r, h => by
    rw [shF]
    split
    · exact h q (by simp)
    · exact shF_mem s r (fun q' hq' => h q' (by simp [hq']))
theorem shape_ok (s : ByteArray) : okL (lets (shapeF s).1) = true ∧ (shapeF s).1.size ≤ 10 ∧ ∀ b ∈ (shapeF s).1.data.toList, b.toNat < 128 := shF_mem s shapeL shapes_ok
def foldF : List Int → Cmd → List Tok → Int → Cmd × List Tok × Int
  | [], c, L, _ => (c, L, 0)
  | l :: ls, c, L, p => if (partF l c L p).2.2.2 ≠ 0 then ((partF l c L p).1, (partF l c L p).2.1, (partF l c L p).2.2.2) else foldF ls (partF l c L p).1 (partF l c L p).2.1 (partF l c L p).2.2.1
abbrev zC : Cmd := ⟨nil8, [], [], 0, 0, false, false, zX⟩
abbrev wC (s : ByteArray) : Cmd := ⟨s, [], [], 0, 0, false, false, zX⟩
/-- The answer for a command whose parts are read. -/
def endC (a : Int) (R : Cmd × List Tok × Int) : Cmd × Int × Int := if (placeF a R.2.1 R.2.2).2 ≠ 0 then (zC, (placeF a R.2.1 R.2.2).1, (placeF a R.2.1 R.2.2).2) else (R.1, (placeF a R.2.1 R.2.2).1, 0)
def parseC : List Tok → Cmd × Int × Int
  | [] => (zC, 0, 110)
  | t :: r => if t.f0 ≠ 1 then (zC, 0, 110) else if (shapeF t.f1).2 = false then (zC, 0, 110) else endC ((r.length : Int) + 1) (foldF (lets (shapeF t.f1).1) (wC t.f1) r 0)
/-- The next letter of a string that is walked. -/
def turn (W : World) (k : Nat) (o : Obj) : World := { W with heap := W.heap.setIfInBounds k o }
theorem run_next_at {P : Program} (W : World) (gi : Nat) (s : ByteArray) (pos : Nat) (ty : TypeId) (hW : W.heap[gi]? = some (.stringIter s pos)) (h : pos < s.size) (ha : (s[pos]'h).toNat < 128) :
    (Instr.next (.pointer (some ⟨gi, 0, none⟩)) true ty).run P W = .ok (.tuple #[.bool true, .int .i64 pos, .int .i32 (s[pos]'h).toNat]) (turn W gi (.stringIter s (pos + 1))) := by
  have hlt := blk_lt hW
  simp only [Instr.next, getObj, setObj, Sem.run_bind, Sem.run, hW, Result.andThen, h, if_true, decode_ascii s pos h ha]
  simp [goInt, Sem.run, turn, hlt]
theorem run_next_stop {P : Program} (W : World) (gi : Nat) (s : ByteArray) (pos : Nat) (ty : TypeId) (hW : W.heap[gi]? = some (.stringIter s pos)) (h : ¬ pos < s.size) :
    (Instr.next (.pointer (some ⟨gi, 0, none⟩)) true ty).run P W = .ok (.tuple #[.bool false]) W := by
  simp [Instr.next, getObj, Sem.run, hW, h]
section
variable {w0 w W W2 : World} {g b B : Nat} {a : Int} {L L2 : List Tok} {p p2 : Int} {c : Cmd} {vN vM v2 v3 : Value}
theorem turn_size (W : World) (k : Nat) (o : Obj) : (turn W k o).heap.size = W.heap.size := by simp [turn]
theorem turn_kept (W : World) (k : Nat) (o : Obj) : Kept W (turn W k o) (At k) := ⟨by rw [turn_size]; exact Nat.le_refl _, fun i hi hn => by
  show (W.heap.setIfInBounds k o)[i]? = _
  rw [Array.getElem?_setIfInBounds_ne (fun h => hn h.symm)]⟩
theorem turn_below {n : Nat} (h : Below n w W) {k : Nat} (hk : n ≤ k) (o : Obj) : Below n w (turn W k o) :=
  h.trans ⟨rfl, rfl, rfl, by rw [turn_size]; exact Nat.le_refl _, fun i hi => by
    show (W.heap.setIfInBounds k o)[i]? = _
    rw [Array.getElem?_setIfInBounds_ne (by omega)]⟩
theorem turn_new (W : World) (k : Nat) (o o' : Obj) (h : W.heap[k]? = some o') : (turn W k o).heap[k]? = some o := by
  have := blk_lt h
  simp [turn, this]
theorem PaSt.away (h : PaSt w0 W g b B a L p c vN vM v2 v3) {j : Nat} (hj : b < j) (hB : j < B) (hk : Kept W W2 (At j)) (hb : Below w0.heap.size w0 W2) : PaSt w0 W2 g b B a L p c vN vM v2 v3 := by
  have h1 := h.gb
  have h2 := h.bB
  exact ⟨h.isp.mv hk hb (by show ¬ (g = j); omega), blk_kept h.box hk (fun hs => by have : b = j := hs; omega), R_at h.names hk hB, R_at h.nums hk hB, M_at h.expr hk hB, h1, h2⟩
abbrev cmdV (c : Cmd) (vN vM v2 v3 : Value) : Value := .agg (cCells c vN vM v2 v3)
def GivesC (w w' : World) (c : Cmd) (vN vM v2 v3 : Value) : Prop := kT.R TS w' w.heap.size (fun _ => True) vN c.names ∧ kI.R 2 w' w.heap.size (fun _ => True) vM c.nums ∧ kX.M w' w.heap.size (fun _ => True) c.x [.int .u8 c.x.f0, .string c.x.f1, v2, v3]
theorem givesC_zero (w w' : World) : GivesC w w' zC sN sN sN sN := ⟨Kd.R_nil _ _ _ _ _, Kd.R_nil _ _ _ _ _, k25_mkM _ _ _ zX (Kd.R_nil _ _ _ _ _) (Kd.R_nil _ _ _ _ _)⟩
theorem PaSt.givesC (h : PaSt w0 W g b B a L p c vN vM v2 v3) {j : Nat} (hj : j < B) (hk : Kept W W2 (At j)) (hw : w.heap.size ≤ B) : GivesC w W2 c vN vM v2 v3 :=
  ⟨Kd.R_lower (R_at h.names hk hj) hw, Kd.R_lower (R_at h.nums hk hj) hw, kX.M_lower hw (M_at h.expr hk hj)⟩
theorem PaSt.slices (h : PaSt w0 W g b B a L p c vN vM v2 v3) : ∃ A0 n0 c0 A1 n1 c1 A2 n2 c2 A3 n3 c3, vN = .slice A0 n0 c0 ∧ vM = .slice A1 n1 c1 ∧ v2 = .slice A2 n2 c2 ∧ v3 = .slice A3 n3 c3 := by
  obtain ⟨A0, c0, e0⟩ := Kd.R_slice h.names
  obtain ⟨A1, c1, e1⟩ := Kd.R_slice h.nums
  obtain ⟨u2, u3, he, h2, h3⟩ := k25_openM h.expr
  simp only [List.cons.injEq, true_and, and_true] at he
  obtain ⟨rfl, rfl⟩ := he
  obtain ⟨A2, c2, e2⟩ := Kd.R_slice h2
  obtain ⟨A3, c3, e3⟩ := Kd.R_slice h3
  exact ⟨A0, _, c0, A1, _, c1, A2, _, c2, A3, _, c3, e0, e1, e2, e3⟩
end
theorem part_calls (w0 w : World) (hC : Cal w0) (g b B : Nat) (a : Int) (L : List Tok) (p : Int) (p0 : 0 ≤ p) (p1 : p ≤ 2000) (c : Cmd) (vN vM v2 v3 : Value) (h : PaSt w0 w g b B a L p c vN vM v2 v3) (hB : B ≤ w.heap.size) (hn : c.names.length ≤ 100) (hm : c.nums.length ≤ 100)
    (l : Int) (hl : l = 101 ∨ (l = 110 ∨ l = 105 ∨ l = 114 ∨ l = 61) ∧ c.x = zX ∧ v2 = sN ∧ v3 = sN) :
    Calls Tryd.prog 68 #[.pointer (some ⟨g, 0, none⟩), .pointer (some ⟨b, 0, none⟩), .int .i32 l] w fun e w' => ∃ vN' vM' v2' v3', e = .returned (.int .i64 (partF l c L p).2.2.2) ∧ PaSt w0 w' g b B a (partF l c L p).2.1 (partF l c L p).2.2.1 (partF l c L p).1 vN' vM' v2' v3' ∧ Kept w w' (Pt g b B) ∧ (l = 101 ∨ (partF l c L p).1.x = zX ∧ v2' = sN ∧ v3' = sN) := by
  rcases hl with rfl | ⟨hl, hx, rfl, rfl⟩
  · refine (part_expr w0 w hC g b B a L p p0 p1 c vN vM v2 v3 h hB).mono ?_
    rintro e w' ⟨q1, q2, q3, q4, h1, h2, h3⟩
    exact ⟨q1, q2, q3, q4, h1, h2, h3, .inl rfl⟩
  · have fin : ∀ l, (partF l c L p).1.x = zX → ∀ e w', PartQ w0 w g b B a (partF l c L p) e w' → ∃ vN' vM' v2' v3', e = .returned (.int .i64 (partF l c L p).2.2.2) ∧ PaSt w0 w' g b B a (partF l c L p).2.1 (partF l c L p).2.2.1 (partF l c L p).1 vN' vM' v2' v3' ∧ Kept w w' (Pt g b B) ∧ (l = 101 ∨ (partF l c L p).1.x = zX ∧ v2' = sN ∧ v3' = sN) := by
      rintro l hz e w' ⟨q1, q2, q3, q4, h1, h2, h3, h4⟩
      exact ⟨q1, q2, q3, q4, h1, h2, h4, .inr ⟨hz, h3 hz⟩⟩
    rcases hl with rfl | rfl | rfl | rfl
    · exact (part_name w0 w g b B a L p c vN vM h hx hB hn).mono (fin 110 hx)
    · exact (part_num w0 w g b B a L p c vN vM h hx hB hm).mono (fin 105 hx)
    · exact (part_range w0 w g b B a L p c vN vM h hx).mono (fin 114 hx)
    · exact (part_mark w0 w g b B a L p c vN vM h hx).mono (fin 61 hx)
theorem part_facts (l : Int) (c : Cmd) (L : List Tok) (p : Int) (p0 : 0 ≤ p) (p1 : p ≤ 2000) : (partF l c L p).1.names.length ≤ c.names.length + 1 ∧ (partF l c L p).1.nums.length ≤ c.nums.length + 1 ∧ ((partF l c L p).2.2.2 = 0 → 0 ≤ (partF l c L p).2.2.1 ∧ (partF l c L p).2.2.1 ≤ 2000) := by
  have hG := expr_good 40 p L p0 p1
  unfold partF
  split
  · exact ⟨by simp, by simp, fun _ => ⟨p0, p1⟩⟩
  · split
    · exact ⟨by simp, by simp, fun _ => ⟨p0, p1⟩⟩
    · split
      · exact ⟨by simp, by simp, fun _ => ⟨p0, p1⟩⟩
      · split
        · exact ⟨by simp, by simp, fun h => ⟨Int.le_trans p0 hG.p0, hG.ok h⟩⟩
        · exact ⟨by simp, by simp, fun _ => ⟨p0, p1⟩⟩
/-- At the head of the loop over the letters. -/
structure CmRel (w W : World) (g : Nat) (a : Int) (s : ByteArray) (R : Cmd × List Tok × Int) (k : Nat) (c : Cmd) (L : List Tok) (p : Int) (vN vM v2 v3 : Value) : Prop where
  k1 : k ≤ s.size
  p0 : 0 ≤ p
  p1 : p ≤ 2000
  nn : c.names.length ≤ k
  nm : c.nums.length ≤ k
  ok : okL ((lets s).drop k) = true
  xz : (lets s).drop k = [] ∨ c.x = zX ∧ v2 = sN ∧ v3 = sN
  fold : foldF ((lets s).drop k) c L p = R
  st : PaSt w W g (g + 1) (g + 1 + 1 + 1) a L p c vN vM v2 v3
  it : W.heap[g + 1 + 1]? = some (.stringIter s k)
  zero : W.heap[w.heap.size]? = some (.cells (cCells zC sN sN sN sN) TC (0, 0))
  sz : g + 1 + 1 + 1 ≤ W.heap.size
  lg : w.heap.size < g
theorem lets_at (s : ByteArray) (k : Nat) (h : k < s.size) : (lets s).drop k = ((s[k]'h).toNat : Int) :: (lets s).drop (k + 1) := by
  have hl : k < (lets s).length := by unfold lets; rw [List.length_map, Array.length_toList]; exact h
  rw [List.drop_eq_getElem_cons hl]
  have e : (lets s)[k] = ((s[k]'h).toNat : Int) := by
    simp only [lets, List.getElem_map]
    rfl
  rw [e]
theorem okL_cons {l : Int} {ls : List Int} (h : okL (l :: ls) = true) : (l = 101 ∧ ls = []) ∨ ((l = 110 ∨ l = 105 ∨ l = 114 ∨ l = 61) ∧ l ≠ 101 ∧ okL ls = true) := by
  rw [okL] at h
  split at h
  · rename_i hl
    exact .inl ⟨hl, by simpa using h⟩
  · rename_i hl
    simp only [Bool.and_eq_true, Bool.or_eq_true, beq_iff_eq] at h
    exact .inr ⟨by omega, hl, h.2⟩
end Go.Proofs.YtjeofffddbibeaaDoor.Pa
end

section
namespace Go.Proofs.YtjeofffddbibeaaDoor.Pa
open Go Go.RowKit Go.Proofs.YtjeofffddbibeaaDoor.PParseTells Go.Proofs.YtjeofffddbibeaaDoor.Ex Go.Proofs.YtjeofffddbibeaaDoorW.PrintWords Go.Proofs.YtjeofffddbibeaaDoorW.PrintLast Go.Proofs.YtjeofffddbibeaaDoorW.PrintMore
set_option linter.unusedVariables false
set_option linter.unusedSimpArgs false
theorem info_c : (Tryd.prog.info? TC).map (·.size) = some 11 := by kernel_rfl
theorem put11 {W : World} {j : Nat} (h : W.heap[j]? = some (.cells (cCells zC sN sN sN sN) TC (0, 0))) (u0 u1 u2 u3 u4 u5 u6 u7 u8 u9 u10 : Value) :
    (((((((((((W.setCell ⟨j, 0, none⟩ u0).setCell ⟨j, 1, none⟩ u1).setCell ⟨j, 2, none⟩ u2).setCell ⟨j, 3, none⟩ u3).setCell ⟨j, 4, none⟩ u4).setCell ⟨j, 5, none⟩ u5).setCell ⟨j, 6, none⟩ u6).setCell ⟨j, 7, none⟩ u7).setCell ⟨j, 8, none⟩ u8).setCell ⟨j, 9, none⟩ u9).setCell ⟨j, 10, none⟩ u10).heap[j]? = some (.cells #[u0, u1, u2, u3, u4, u5, u6, u7, u8, u9, u10] TC (0, 0)) := by
  have h0 := blk_put h 0 u0 rfl
  have h1 := blk_put h0 1 u1 rfl
  have h2 := blk_put h1 2 u2 rfl
  have h3 := blk_put h2 3 u3 rfl
  have h4 := blk_put h3 4 u4 rfl
  have h5 := blk_put h4 5 u5 rfl
  have h6 := blk_put h5 6 u6 rfl
  have h7 := blk_put h6 7 u7 rfl
  have h8 := blk_put h7 8 u8 rfl
  have h9 := blk_put h8 9 u9 rfl
  have h10 := blk_put h9 10 u10 rfl
  simp only [List.setIfInBounds_toArray, List.set_cons_zero, List.set_cons_succ] at h10
  exact h10
/-- What a box of a command reads as. -/
theorem cells11 {W : World} {j : Nat} {c : Cmd} {vN vM v2 v3 : Value} (h : W.heap[j]? = some (.cells (cCells c vN vM v2 v3) TC (0, 0))) :
    W.cell? ⟨j, 0, none⟩ = some (.string c.word) ∧ W.cell? ⟨j, 1, none⟩ = some vN ∧ W.cell? ⟨j, 2, none⟩ = some vM ∧ W.cell? ⟨j, 3, none⟩ = some (.int .i64 c.lo) ∧ W.cell? ⟨j, 4, none⟩ = some (.int .i64 c.hi) ∧ W.cell? ⟨j, 5, none⟩ = some (.bool c.hl) ∧ W.cell? ⟨j, 6, none⟩ = some (.bool c.hh) ∧ W.cell? ⟨j, 7, none⟩ = some (.int .u8 c.x.f0) ∧ W.cell? ⟨j, 8, none⟩ = some (.string c.x.f1) ∧ W.cell? ⟨j, 9, none⟩ = some v2 ∧ W.cell? ⟨j, 10, none⟩ = some v3 :=
  ⟨(blk_cell h 0).trans rfl, (blk_cell h 1).trans rfl, (blk_cell h 2).trans rfl, (blk_cell h 3).trans rfl, (blk_cell h 4).trans rfl, (blk_cell h 5).trans rfl, (blk_cell h 6).trans rfl, (blk_cell h 7).trans rfl, (blk_cell h 8).trans rfl, (blk_cell h 9).trans rfl, (blk_cell h 10).trans rfl⟩
theorem free11 {W : World} {j : Nat} {cs : Array Value} (h : W.heap[j]? = some (.cells cs TC (0, 0))) :
    W.frozen? ⟨j, 0, none⟩ = false ∧ W.frozen? ⟨j, 1, none⟩ = false ∧ W.frozen? ⟨j, 2, none⟩ = false ∧ W.frozen? ⟨j, 3, none⟩ = false ∧ W.frozen? ⟨j, 4, none⟩ = false ∧ W.frozen? ⟨j, 5, none⟩ = false ∧ W.frozen? ⟨j, 6, none⟩ = false ∧ W.frozen? ⟨j, 7, none⟩ = false ∧ W.frozen? ⟨j, 8, none⟩ = false ∧ W.frozen? ⟨j, 9, none⟩ = false ∧ W.frozen? ⟨j, 10, none⟩ = false :=
  ⟨blk_frozen h 0, blk_frozen h 1, blk_frozen h 2, blk_frozen h 3, blk_frozen h 4, blk_frozen h 5, blk_frozen h 6, blk_frozen h 7, blk_frozen h 8, blk_frozen h 9, blk_frozen h 10⟩
set_option maxHeartbeats 16000000 in
set_option maxRecDepth 100000 in
theorem Command_calls (L : List Tok) (A : Option Addr) (n c : Nat) (w : World) (hn : n = L.length) (hC : Kd.C k61 w A L.length L) (hc : L.length ≤ c) (hL : Cal w) :
    Calls Tryd.prog 38 #[.slice A n c] w fun e w' => ∃ vN vM v2 v3, e = .returned (.tuple #[cmdV (parseC L).1 vN vM v2 v3, .int .i64 (parseC L).2.1, .int .i64 (parseC L).2.2]) ∧ GivesC w w' (parseC L).1 vN vM v2 v3 ∧ Below w.heap.size w w' := by
  subst hn
  have bz := blk_new w (.cells (cCells zC sN sN sN sN) TC (0, 0))
  cases L with
  | nil =>
    have hP : parseC [] = (zC, 0, 110) := rfl
    rw [hP]
    clear hP hC hL
    go_enter Tryd.func38, Tryd.ntmps38
    go_wp2
    refine bodyPost_ret (results_ctt rfl _ _ _ TC _ (0, 0) _ rfl (bz) Tryd.underlying54 rfl info_c) rfl ?_
    exact ⟨_, _, _, _, rfl, givesC_zero _ _, by (repeat (first | (with_reducible exact (Below.refl w.heap.size w)) | (with_reducible apply below_alloc) | (with_reducible apply pw_below_drewN) | (with_reducible apply below_drew1) | (with_reducible refine below_set ?_ (by first | assumption | omega))))⟩
  | cons t r =>
    have hm := hC.2.1
    rw [List.length_cons] at hm
    obtain ⟨ad, rfl, dd1, dd2, dd3⟩ := at_T61 hC 0 (by omega) (by simp)
    have e : ad.add ((0 : Int).toNat * 3) = ad := by show ad.add 0 = ad; exact Addr.add_zero' ad
    rw [e] at dd1 dd2 dd3
    have d1 : w.cell? ad = some (.int .u8 t.f0) := dd1
    have d2 : w.cell? ⟨ad.block, ad.off + 1, none⟩ = some (.string t.f1) := dd2
    have had := World.block_lt_of_cell? _ _ d1
    have hD := Aside0.mk (Kd.C_drop (m := 1) (c := c) hC (by simp) hc)
    obtain ⟨N, hN⟩ : ∃ N, N = r.length := ⟨_, rfl⟩
    rw [List.length_cons, ← hN] at hc ⊢
    rw [← hN] at hm
    have g1 : (0 : Int) < (N : Int) + 1 := by omega
    have g2 : 0 < N + 1 := by omega
    have g3 : ((N : Int) + 1 == 0) = false := beq_eq_false_iff_ne.2 (by omega)
    have g4 : ¬ (N + 1 = 0) := by omega
    clear hC e dd1 dd2 dd3
    by_cases h1 : t.f0 ≠ 1
    · have hP : parseC (t :: r) = (zC, 0, 110) := if_pos h1
      rw [hP]
      have f1 : (t.f0 != 1) = true := bne_iff_ne.2 h1
      have f2 : (t.f0 == 1) = false := beq_eq_false_iff_ne.2 h1
      clear hP hL hD hN
      go_enter Tryd.func38, Tryd.ntmps38
      go_wp2
      refine bodyPost_ret (results_ctt rfl _ _ _ TC _ (0, 0) _ rfl (bz) Tryd.underlying54 rfl info_c) rfl ?_
      exact ⟨_, _, _, _, rfl, givesC_zero _ _, by (repeat (first | (with_reducible exact (Below.refl w.heap.size w)) | (with_reducible apply below_alloc) | (with_reducible apply pw_below_drewN) | (with_reducible apply below_drew1) | (with_reducible refine below_set ?_ (by first | assumption | omega))))⟩
    · have h1' : t.f0 = 1 := by omega
      have f1 : (t.f0 != 1) = false := bne_eq_false_iff_eq.2 h1'
      have f2 : (t.f0 == 1) = true := beq_iff_eq.2 h1'
      have CS := fun W h => Aside0.mk (Shape_calls t.f1 W h)
      have hso := shape_ok t.f1
      have hP : parseC (t :: r) = if (shapeF t.f1).2 = false then (zC, 0, 110) else endC ((r.length : Int) + 1) (foldF (lets (shapeF t.f1).1) (wC t.f1) r 0) := if_neg h1
      obtain ⟨s, is, hs⟩ : ∃ s is, shapeF t.f1 = (s, is) := ⟨_, _, rfl⟩
      rw [hs] at CS hP hso
      rw [hP]
      dsimp only at CS hso ⊢
      have HL := Aside0.mk hL
      clear hP hs h1 h1' hL
      cases is with
      | false =>
        rw [if_pos rfl]
        go_enter Tryd.func38, Tryd.ntmps38
        go_wp2_with fail
        (with_reducible refine (CS _ ?i).out.mono ?_)
        case i => exact HL.out.l (below_alloc (Below.refl _ _) _)
        rintro e w1 ⟨rfl, hb1⟩
        have bz1 : w1.heap[w.heap.size]? = some (.cells (cCells zC sN sN sN sN) TC (0, 0)) := (hb1.block _ (blk_lt bz)).trans bz
        have hbw := below_then (below_alloc (Below.refl w.heap.size w) (.cells (cCells zC sN sN sN sN) TC (0, 0))) (below_alloc (Below.refl w.heap.size w) (.cells (cCells zC sN sN sN sN) TC (0, 0))).size hb1
        obtain ⟨z0, z1, z2, z3, z4, z5, z6, z7, z8, z9, z10⟩ := cells11 bz1
        obtain ⟨y0, y1, y2, y3, y4, y5, y6, y7, y8, y9, y10⟩ := free11 bz1
        clear hb1 CS
        go_wp2
        refine bodyPost_ret (results_ctt rfl _ _ _ TC _ (0, 0) _ rfl (put11 bz1 _ _ _ _ _ _ _ _ _ _ _) Tryd.underlying54 rfl info_c) rfl ?_
        exact ⟨_, _, _, _, rfl, givesC_zero _ _, by (repeat (first | (with_reducible exact hbw) | (with_reducible apply below_alloc) | (with_reducible apply pw_below_drewN) | (with_reducible apply below_drew1) | (with_reducible refine below_set ?_ (by first | assumption | omega))))⟩
      | true =>
        rw [if_neg (by simp)]
        obtain ⟨R, hR⟩ : ∃ R, foldF (lets s) (wC t.f1) r 0 = R := ⟨_, rfl⟩
        obtain ⟨a, ha⟩ : ∃ a : Int, a = (N : Int) + 1 := ⟨_, rfl⟩
        rw [hR, ← hN, ← ha]
        obtain ⟨K, hK⟩ : ∃ K, endC a R = K := ⟨_, rfl⟩
        rw [hK]
        have HK := Aside0.mk hK
        have HR := Aside0.mk hR
        have HA := Aside0.mk ha
        have HN := Aside0.mk hN
        have CP := Aside0.mk (fun (g : Nat) (L9 : List Tok) (p e9 : Int) W h => Aside0.mk (place_calls g L9 a p e9 w W h (by omega) (by omega)))
        have n3 : 1 ≤ N + 1 := by omega
        have n5 : N + 1 - 1 = N := by omega
        have HS := Aside0.mk hso
        have hs : ∀ (W : World) o, (W.alloc o).heap.size = W.heap.size + 1 := fun W o => Array.size_push ..
        have HZ := Aside0.mk hs
        clear hK hR ha hN hso hs
        by_cases hc1 : c = 1
        · subst hc1
          go_enter Tryd.func38, Tryd.ntmps38
          go_wp2_with fail
          (with_reducible refine (CS _ ?i).out.mono ?_)
          case i => exact HL.out.l (below_alloc (Below.refl _ _) _)
          rintro e w1 ⟨rfl, hb1⟩
          have bz1 : w1.heap[w.heap.size]? = some (.cells (cCells zC sN sN sN sN) TC (0, 0)) := (hb1.block _ (blk_lt bz)).trans bz
          have hbw := below_then (below_alloc (Below.refl w.heap.size w) (.cells (cCells zC sN sN sN sN) TC (0, 0))) (below_alloc (Below.refl w.heap.size w) (.cells (cCells zC sN sN sN sN) TC (0, 0))).size hb1
          have d1' : w1.cell? ad = some (.int .u8 t.f0) := (hbw.cell had).trans d1
          have d2' : w1.cell? ⟨ad.block, ad.off + 1, none⟩ = some (.string t.f1) := (hbw.cell (show (⟨ad.block, ad.off + 1, none⟩ : Addr).block < w.heap.size from had)).trans d2
          have had1 := World.block_lt_of_cell? _ _ d1'
          have hz1 := blk_lt bz1
          clear d1 d2 CS hb1
          have HB := Aside0.mk hbw
          have BZ := Aside0.mk bz1
          clear hbw bz1 bz
          have b94 := Aside0.mk (blk_alloc (blk_alloc (blk_new w1 (.cells #[.slice (some ad) N (1 - 1), .int .i64 ((N : Int) + 1), .int .i64 0] 94)) (.cells (cCells (wC t.f1) sN sN sN sN) TC)) (.stringIter s 0))
          have b54 := blk_alloc (blk_new (w1.alloc (.cells #[.slice (some ad) N (1 - 1), .int .i64 ((N : Int) + 1), .int .i64 0] 94)) (.cells (cCells (wC t.f1) sN sN sN sN) TC)) (.stringIter s 0)
          rw [HZ.out] at b54
          have bit := World.iter_heap ((w1.alloc (.cells #[.slice (some ad) N (1 - 1), .int .i64 ((N : Int) + 1), .int .i64 0] 94)).alloc (.cells (cCells (wC t.f1) sN sN sN sN) TC)) s 0
          rw [HZ.out, HZ.out] at bit
          have bzz := blk_alloc (blk_alloc (blk_alloc BZ.out (.cells #[.slice (some ad) N (1 - 1), .int .i64 ((N : Int) + 1), .int .i64 0] 94)) (.cells (cCells (wC t.f1) sN sN sN sN) TC)) (.stringIter s 0)
          have B54 := Aside0.mk b54
          have BIT := Aside0.mk bit
          have BZZ := Aside0.mk bzz
          clear b54 bit bzz
          go_wp2_with fail
          go_loopw [9] (fun j wr => ∃ k c' L1 p1 vN vM v2 v3, j = .int .i64 0 ∧ CmRel w wr w1.heap.size a s R k c' L1 p1 vN vM v2 v3) (fun _ wr => s.size - wr.iterPos (w1.heap.size + 1 + 1))
          case atStart =>
            refine ⟨0, wC t.f1, r, 0, sN, sN, sN, sN, rfl, ?_⟩
            refine { k1 := Nat.zero_le _, p0 := Int.le_refl 0, p1 := by omega, nn := Nat.le_refl 0, nm := Nat.le_refl 0, ok := HS.out.1, xz := .inr ⟨rfl, rfl, rfl⟩, fold := HR.out, st := ?_, it := BIT.out, zero := BZZ.out, sz := ?_, lg := hz1 }
            · refine ⟨⟨(some ad), (1 - 1), ?_, by omega, ?_, ?_, ?_⟩, B54.out, Kd.R_nil _ _ _ _ _, Kd.R_nil _ _ _ _ _, k25_mkM _ _ _ zX (Kd.R_nil _ _ _ _ _) (Kd.R_nil _ _ _ _ _), by omega, by omega⟩
              · rw [← HN.out, HA.out]; exact b94.out
              · rw [← HN.out]; omega
              · exact by have h := hD.out; simp only [if_true] at h; exact h
              · exact below_alloc (below_alloc (below_alloc HB.out _) _) _
            · show _ ≤ (((w1.alloc (.cells #[.slice (some ad) N (1 - 1), .int .i64 ((N : Int) + 1), .int .i64 0] 94)).alloc (.cells (cCells (wC t.f1) sN sN sN sN) TC)).alloc (.stringIter s 0)).heap.size
              rw [HZ.out, HZ.out, HZ.out]
              exact Nat.le_refl _
          case round =>
            obtain ⟨k, c', L1, p1, vN, vM, v2, v3, rfl, H⟩ := hrel
            have H := Aside0.mk H
            have hgz := H.out.lg
            by_cases hk : k < s.size
            · have hlt : (s[k]'hk).toNat < 128 := HS.out.2.2 _ (Array.getElem_mem_toList (xs := s.data) hk)
              have hnx := fun ty => run_next_at (P := Tryd.prog) wr (w1.heap.size + 1 + 1) s k ty H.out.it hk hlt
              have hd := lets_at s k hk
              obtain ⟨l, hl⟩ : ∃ l : Int, l = ((s[k]'hk).toNat : Int) := ⟨_, rfl⟩
              rw [← hl] at hnx hd
              have hok := H.out.ok
              have hxz := H.out.xz
              have hfo := H.out.fold
              rw [hd] at hok hxz hfo
              have hxz : c'.x = zX ∧ v2 = sN ∧ v3 = sN := hxz.resolve_left (by simp)
              have hoc := okL_cons hok
              have hll : l = 101 ∨ (l = 110 ∨ l = 105 ∨ l = 114 ∨ l = 61) ∧ c'.x = zX ∧ v2 = sN ∧ v3 = sN := by
                rcases hoc with h | h
                · exact .inl h.1
                · exact .inr ⟨h.1, hxz⟩
              have ST1 := H.out.st.away (j := w1.heap.size + 1 + 1) (by omega) (by omega) (turn_kept wr _ (.stringIter s (k + 1))) (turn_below H.out.st.isp.low (by omega) _)
              have hsz : k + 1 ≤ 10 := by have := HS.out.2.1; omega
              have CU := Aside0.mk (part_calls w _ HL.out w1.heap.size (w1.heap.size + 1) (w1.heap.size + 1 + 1 + 1) a L1 p1 H.out.p0 H.out.p1 c' vN vM v2 v3 ST1 (by rw [turn_size]; exact H.out.sz) (by have := H.out.nn; omega) (by have := H.out.nm; omega) l hll)
              have hpf := part_facts l c' L1 p1 H.out.p0 H.out.p1
              have hit1 := turn_new wr (w1.heap.size + 1 + 1) (.stringIter s (k + 1)) _ H.out.it
              have hz1' := blk_kept H.out.zero (turn_kept wr (w1.heap.size + 1 + 1) (.stringIter s (k + 1))) (fun h => by have h1 : w.heap.size = w1.heap.size + 1 + 1 := h; omega)
              rw [foldF] at hfo
              obtain ⟨c9, L9, p9, e9, hp⟩ : ∃ c9 L9 p9 e9, partF l c' L1 p1 = (c9, L9, p9, e9) := ⟨_, _, _, _, rfl⟩
              rw [hp] at CU hfo hpf
              dsimp only at CU hfo hpf
              have HIT := Aside0.mk hit1
              have HZ1 := Aside0.mk hz1'
              have HPF := Aside0.mk hpf
              have HOC := Aside0.mk hoc
              have hnnk := H.out.nn
              have hnmk := H.out.nm
              have HSZ := Aside0.mk (show w1.heap.size + 1 + 1 + 1 ≤ (turn wr (w1.heap.size + 1 + 1) (.stringIter s (k + 1))).heap.size by rw [turn_size]; exact H.out.sz)
              have hmea : wr.iterPos (w1.heap.size + 1 + 1) = k := by have h := H.out.it; simp only [World.iterPos, h]
              clear hp ST1 hd hok hxz hoc hll hit1 hz1' hpf H hl
              by_cases he9 : e9 ≠ 0
              · have f1 : (e9 != 0) = true := bne_iff_ne.2 he9
                have f2 : (e9 == 0) = false := beq_eq_false_iff_ne.2 he9
                rw [if_pos he9] at hfo
                have HF := Aside0.mk hfo
                clear hfo hmea
                go_wp2_with fail
                (with_reducible refine CU.out.mono ?_)
                rintro e w5 ⟨u0, u1, u2, u3, rfl, hst, hkp, hx⟩
                have ST := Aside0.mk hst
                have ZZ := Aside0.mk (blk_kept HZ1.out hkp (fun h => by rcases h with h | h | h <;> omega))
                clear hst hkp hx CU hnx
                go_wp2_with fail
                (with_reducible refine (CP.out w1.heap.size L9 p9 e9 _ ST.out.isp).out.mono ?_)
                rintro e w9 ⟨rfl, ⟨m9, rfl⟩⟩
                have ST9 := Aside0.mk (ST.out.later (pw_below_drewN (Below.refl _ _) m9))
                have ZZ9 := Aside0.mk (blk_drewN ZZ.out m9)
                obtain ⟨at1, e2, hp⟩ : ∃ at1 e2, placeF a L9 e9 = (at1, e2) := ⟨_, _, rfl⟩
                have hK := HK.out
                rw [← HF.out] at hK
                unfold endC at hK
                dsimp only at hK
                rw [hp] at hK ⊢
                dsimp only at hK ⊢
                clear hp ST ZZ
                by_cases he : e2 ≠ 0
                · have f1 : (e2 != 0) = true := bne_iff_ne.2 he
                  have f2 : (e2 == 0) = false := beq_eq_false_iff_ne.2 he
                  rw [if_pos he] at hK
                  subst hK
                  obtain ⟨z0, z1, z2, z3, z4, z5, z6, z7, z8, z9, z10⟩ := cells11 ZZ9.out
                  obtain ⟨y0, y1, y2, y3, y4, y5, y6, y7, y8, y9, y10⟩ := free11 ZZ9.out
                  go_wp2
                  refine bodyPost_ret (results_ctt rfl _ _ _ TC _ (0, 0) _ rfl (put11 ZZ9.out _ _ _ _ _ _ _ _ _ _ _) Tryd.underlying54 rfl info_c) rfl ?_
                  exact ⟨_, _, _, _, rfl, givesC_zero _ _, by (repeat (first | (with_reducible exact ST9.out.isp.low) | (with_reducible apply below_alloc) | (with_reducible apply pw_below_drewN) | (with_reducible apply below_drew1) | (with_reducible refine below_set ?_ (by first | assumption | omega))))⟩
                · have f1 : (e2 != 0) = false := bne_eq_false_iff_eq.2 (by omega)
                  have f2 : (e2 == 0) = true := beq_iff_eq.2 (by omega)
                  rw [if_neg he] at hK
                  subst hK
                  obtain ⟨A0, n0, c0, A1, n1, c1, A2, n2, c2, A3, n3, c3, rfl, rfl, rfl, rfl⟩ := ST9.out.slices
                  obtain ⟨z0, z1, z2, z3, z4, z5, z6, z7, z8, z9, z10⟩ := cells11 ZZ9.out
                  obtain ⟨y0, y1, y2, y3, y4, y5, y6, y7, y8, y9, y10⟩ := free11 ZZ9.out
                  obtain ⟨x0, x1, x2, x3, x4, x5, x6, x7, x8, x9, x10⟩ := cells11 ST9.out.box
                  go_wp2
                  refine bodyPost_ret (results_ctt rfl _ _ _ TC _ (0, 0) _ rfl (put11 ZZ9.out _ _ _ _ _ _ _ _ _ _ _) Tryd.underlying54 rfl info_c) rfl ?_
                  exact ⟨_, _, _, _, rfl, ST9.out.givesC (j := w.heap.size) (by omega) (by (repeat (first | (with_reducible exact Kept.refl _ _) | (with_reducible apply Kept.alloc) | (with_reducible apply Kept.drewN) | (with_reducible apply Kept.drew) | (with_reducible refine kept_at ?_ _ _) | (with_reducible refine kept_new ?_ _ _ (Nat.le_refl _)) | (with_reducible refine kept_new ?_ _ _ (by first | assumption | omega))))) (by omega), by (repeat (first | (with_reducible exact ST9.out.isp.low) | (with_reducible apply below_alloc) | (with_reducible apply pw_below_drewN) | (with_reducible apply below_drew1) | (with_reducible refine below_set ?_ (by first | assumption | omega))))⟩
              · have he9' : e9 = 0 := by omega
                subst he9'
                rw [if_neg (by simp)] at hfo
                have HF := Aside0.mk hfo
                clear hfo
                go_wp2_with fail
                (with_reducible refine CU.out.mono ?_)
                rintro e w5 ⟨u0, u1, u2, u3, rfl, hst, hkp, hx⟩
                have ST := Aside0.mk hst
                have ZZ := Aside0.mk (blk_kept HZ1.out hkp (fun h => by rcases h with h | h | h <;> omega))
                have IT := Aside0.mk (blk_kept HIT.out hkp (fun h => by rcases h with h | h | h <;> omega))
                have HX := Aside0.mk hx
                have SZ := Aside0.mk (Nat.le_trans HSZ.out hkp.1)
                have hmea2 : w5.iterPos (w1.heap.size + 1 + 1) = k + 1 := by have h := IT.out; simp only [World.iterPos, h]
                clear hst hkp hx CU hnx
                go_wp2_with fail
                go_roundw
                case rel =>
                  refine ⟨k + 1, c9, L9, p9, u0, u1, u2, u3, rfl, ?_⟩
                  have hq := HPF.out.2.2 (by trivial)
                  refine { k1 := hk, p0 := hq.1, p1 := hq.2, nn := by have := HPF.out.1; omega, nm := by have := HPF.out.2.1; omega, ok := ?_, xz := ?_, fold := HF.out, st := ST.out, it := IT.out, zero := ZZ.out, sz := SZ.out, lg := hgz }
                  · rcases HOC.out with h | h
                    · rw [h.2]; rfl
                    · exact h.2.2
                  · rcases HOC.out with h | h
                    · exact .inl h.2
                    · exact .inr (HX.out.resolve_left h.2.1)
                case measure => rw [hmea, hmea2]; omega
            · have hks : k = s.size := by have := H.out.k1; omega
              have hnx := fun ty => run_next_stop (P := Tryd.prog) wr (w1.heap.size + 1 + 1) s k ty H.out.it hk
              have hfo := H.out.fold
              rw [show (lets s).drop k = [] from List.drop_of_length_le (by unfold lets; rw [List.length_map, Array.length_toList, hks]; exact Nat.le_refl _), foldF] at hfo
              have HF := Aside0.mk hfo
              have ST := Aside0.mk H.out.st
              have ZZ := Aside0.mk H.out.zero
              obtain ⟨L9, hL9⟩ : ∃ L9, L9 = L1 := ⟨_, rfl⟩
              obtain ⟨p9, hp9⟩ : ∃ p9, p9 = p1 := ⟨_, rfl⟩
              rw [← hL9] at HF ST
              rw [← hp9] at ST
              clear hfo H hL9 hp9
              go_wp2_with fail
              (with_reducible refine (CP.out w1.heap.size L9 p9 0 _ ST.out.isp).out.mono ?_)
              rintro e w9 ⟨rfl, ⟨m9, rfl⟩⟩
              have ST9 := Aside0.mk (ST.out.later (pw_below_drewN (Below.refl _ _) m9))
              have ZZ9 := Aside0.mk (blk_drewN ZZ.out m9)
              obtain ⟨at1, e2, hp⟩ : ∃ at1 e2, placeF a L9 0 = (at1, e2) := ⟨_, _, rfl⟩
              have hK := HK.out
              rw [← HF.out] at hK
              unfold endC at hK
              dsimp only at hK
              rw [hp] at hK ⊢
              dsimp only at hK ⊢
              clear hp ST ZZ
              by_cases he : e2 ≠ 0
              · have f1 : (e2 != 0) = true := bne_iff_ne.2 he
                have f2 : (e2 == 0) = false := beq_eq_false_iff_ne.2 he
                rw [if_pos he] at hK
                subst hK
                obtain ⟨z0, z1, z2, z3, z4, z5, z6, z7, z8, z9, z10⟩ := cells11 ZZ9.out
                obtain ⟨y0, y1, y2, y3, y4, y5, y6, y7, y8, y9, y10⟩ := free11 ZZ9.out
                go_wp2
                refine bodyPost_ret (results_ctt rfl _ _ _ TC _ (0, 0) _ rfl (put11 ZZ9.out _ _ _ _ _ _ _ _ _ _ _) Tryd.underlying54 rfl info_c) rfl ?_
                exact ⟨_, _, _, _, rfl, givesC_zero _ _, by (repeat (first | (with_reducible exact ST9.out.isp.low) | (with_reducible apply below_alloc) | (with_reducible apply pw_below_drewN) | (with_reducible apply below_drew1) | (with_reducible refine below_set ?_ (by first | assumption | omega))))⟩
              · have f1 : (e2 != 0) = false := bne_eq_false_iff_eq.2 (by omega)
                have f2 : (e2 == 0) = true := beq_iff_eq.2 (by omega)
                rw [if_neg he] at hK
                subst hK
                obtain ⟨A0, n0, c0, A1, n1, c1, A2, n2, c2, A3, n3, c3, rfl, rfl, rfl, rfl⟩ := ST9.out.slices
                obtain ⟨z0, z1, z2, z3, z4, z5, z6, z7, z8, z9, z10⟩ := cells11 ZZ9.out
                obtain ⟨y0, y1, y2, y3, y4, y5, y6, y7, y8, y9, y10⟩ := free11 ZZ9.out
                obtain ⟨x0, x1, x2, x3, x4, x5, x6, x7, x8, x9, x10⟩ := cells11 ST9.out.box
                go_wp2
                refine bodyPost_ret (results_ctt rfl _ _ _ TC _ (0, 0) _ rfl (put11 ZZ9.out _ _ _ _ _ _ _ _ _ _ _) Tryd.underlying54 rfl info_c) rfl ?_
                exact ⟨_, _, _, _, rfl, ST9.out.givesC (j := w.heap.size) (by omega) (by (repeat (first | (with_reducible exact Kept.refl _ _) | (with_reducible apply Kept.alloc) | (with_reducible apply Kept.drewN) | (with_reducible apply Kept.drew) | (with_reducible refine kept_at ?_ _ _) | (with_reducible refine kept_new ?_ _ _ (Nat.le_refl _)) | (with_reducible refine kept_new ?_ _ _ (by first | assumption | omega))))) (by omega), by (repeat (first | (with_reducible exact ST9.out.isp.low) | (with_reducible apply below_alloc) | (with_reducible apply pw_below_drewN) | (with_reducible apply below_drew1) | (with_reducible refine below_set ?_ (by first | assumption | omega))))⟩
        · go_enter Tryd.func38, Tryd.ntmps38
          go_wp2_with fail
          (with_reducible refine (CS _ ?i).out.mono ?_)
          case i => exact HL.out.l (below_alloc (Below.refl _ _) _)
          rintro e w1 ⟨rfl, hb1⟩
          have bz1 : w1.heap[w.heap.size]? = some (.cells (cCells zC sN sN sN sN) TC (0, 0)) := (hb1.block _ (blk_lt bz)).trans bz
          have hbw := below_then (below_alloc (Below.refl w.heap.size w) (.cells (cCells zC sN sN sN sN) TC (0, 0))) (below_alloc (Below.refl w.heap.size w) (.cells (cCells zC sN sN sN sN) TC (0, 0))).size hb1
          have d1' : w1.cell? ad = some (.int .u8 t.f0) := (hbw.cell had).trans d1
          have d2' : w1.cell? ⟨ad.block, ad.off + 1, none⟩ = some (.string t.f1) := (hbw.cell (show (⟨ad.block, ad.off + 1, none⟩ : Addr).block < w.heap.size from had)).trans d2
          have had1 := World.block_lt_of_cell? _ _ d1'
          have hz1 := blk_lt bz1
          clear d1 d2 CS hb1
          have HB := Aside0.mk hbw
          have BZ := Aside0.mk bz1
          clear hbw bz1 bz
          have b94 := Aside0.mk (blk_alloc (blk_alloc (blk_new w1 (.cells #[.slice (some (ad.add 3)) N (c - 1), .int .i64 ((N : Int) + 1), .int .i64 0] 94)) (.cells (cCells (wC t.f1) sN sN sN sN) TC)) (.stringIter s 0))
          have b54 := blk_alloc (blk_new (w1.alloc (.cells #[.slice (some (ad.add 3)) N (c - 1), .int .i64 ((N : Int) + 1), .int .i64 0] 94)) (.cells (cCells (wC t.f1) sN sN sN sN) TC)) (.stringIter s 0)
          rw [HZ.out] at b54
          have bit := World.iter_heap ((w1.alloc (.cells #[.slice (some (ad.add 3)) N (c - 1), .int .i64 ((N : Int) + 1), .int .i64 0] 94)).alloc (.cells (cCells (wC t.f1) sN sN sN sN) TC)) s 0
          rw [HZ.out, HZ.out] at bit
          have bzz := blk_alloc (blk_alloc (blk_alloc BZ.out (.cells #[.slice (some (ad.add 3)) N (c - 1), .int .i64 ((N : Int) + 1), .int .i64 0] 94)) (.cells (cCells (wC t.f1) sN sN sN sN) TC)) (.stringIter s 0)
          have B54 := Aside0.mk b54
          have BIT := Aside0.mk bit
          have BZZ := Aside0.mk bzz
          clear b54 bit bzz
          go_wp2_with fail
          go_loopw [9] (fun j wr => ∃ k c' L1 p1 vN vM v2 v3, j = .int .i64 0 ∧ CmRel w wr w1.heap.size a s R k c' L1 p1 vN vM v2 v3) (fun _ wr => s.size - wr.iterPos (w1.heap.size + 1 + 1))
          case atStart =>
            refine ⟨0, wC t.f1, r, 0, sN, sN, sN, sN, rfl, ?_⟩
            refine { k1 := Nat.zero_le _, p0 := Int.le_refl 0, p1 := by omega, nn := Nat.le_refl 0, nm := Nat.le_refl 0, ok := HS.out.1, xz := .inr ⟨rfl, rfl, rfl⟩, fold := HR.out, st := ?_, it := BIT.out, zero := BZZ.out, sz := ?_, lg := hz1 }
            · refine ⟨⟨(some (ad.add 3)), (c - 1), ?_, by omega, ?_, ?_, ?_⟩, B54.out, Kd.R_nil _ _ _ _ _, Kd.R_nil _ _ _ _ _, k25_mkM _ _ _ zX (Kd.R_nil _ _ _ _ _) (Kd.R_nil _ _ _ _ _), by omega, by omega⟩
              · rw [← HN.out, HA.out]; exact b94.out
              · rw [← HN.out]; omega
              · exact by have h := hD.out; rw [if_neg hc1] at h; exact h
              · exact below_alloc (below_alloc (below_alloc HB.out _) _) _
            · show _ ≤ (((w1.alloc (.cells #[.slice (some (ad.add 3)) N (c - 1), .int .i64 ((N : Int) + 1), .int .i64 0] 94)).alloc (.cells (cCells (wC t.f1) sN sN sN sN) TC)).alloc (.stringIter s 0)).heap.size
              rw [HZ.out, HZ.out, HZ.out]
              exact Nat.le_refl _
          case round =>
            obtain ⟨k, c', L1, p1, vN, vM, v2, v3, rfl, H⟩ := hrel
            have H := Aside0.mk H
            have hgz := H.out.lg
            by_cases hk : k < s.size
            · have hlt : (s[k]'hk).toNat < 128 := HS.out.2.2 _ (Array.getElem_mem_toList (xs := s.data) hk)
              have hnx := fun ty => run_next_at (P := Tryd.prog) wr (w1.heap.size + 1 + 1) s k ty H.out.it hk hlt
              have hd := lets_at s k hk
              obtain ⟨l, hl⟩ : ∃ l : Int, l = ((s[k]'hk).toNat : Int) := ⟨_, rfl⟩
              rw [← hl] at hnx hd
              have hok := H.out.ok
              have hxz := H.out.xz
              have hfo := H.out.fold
              rw [hd] at hok hxz hfo
              have hxz : c'.x = zX ∧ v2 = sN ∧ v3 = sN := hxz.resolve_left (by simp)
              have hoc := okL_cons hok
              have hll : l = 101 ∨ (l = 110 ∨ l = 105 ∨ l = 114 ∨ l = 61) ∧ c'.x = zX ∧ v2 = sN ∧ v3 = sN := by
                rcases hoc with h | h
                · exact .inl h.1
                · exact .inr ⟨h.1, hxz⟩
              have ST1 := H.out.st.away (j := w1.heap.size + 1 + 1) (by omega) (by omega) (turn_kept wr _ (.stringIter s (k + 1))) (turn_below H.out.st.isp.low (by omega) _)
              have hsz : k + 1 ≤ 10 := by have := HS.out.2.1; omega
              have CU := Aside0.mk (part_calls w _ HL.out w1.heap.size (w1.heap.size + 1) (w1.heap.size + 1 + 1 + 1) a L1 p1 H.out.p0 H.out.p1 c' vN vM v2 v3 ST1 (by rw [turn_size]; exact H.out.sz) (by have := H.out.nn; omega) (by have := H.out.nm; omega) l hll)
              have hpf := part_facts l c' L1 p1 H.out.p0 H.out.p1
              have hit1 := turn_new wr (w1.heap.size + 1 + 1) (.stringIter s (k + 1)) _ H.out.it
              have hz1' := blk_kept H.out.zero (turn_kept wr (w1.heap.size + 1 + 1) (.stringIter s (k + 1))) (fun h => by have h1 : w.heap.size = w1.heap.size + 1 + 1 := h; omega)
              rw [foldF] at hfo
              obtain ⟨c9, L9, p9, e9, hp⟩ : ∃ c9 L9 p9 e9, partF l c' L1 p1 = (c9, L9, p9, e9) := ⟨_, _, _, _, rfl⟩
              rw [hp] at CU hfo hpf
              dsimp only at CU hfo hpf
              have HIT := Aside0.mk hit1
              have HZ1 := Aside0.mk hz1'
              have HPF := Aside0.mk hpf
              have HOC := Aside0.mk hoc
              have hnnk := H.out.nn
              have hnmk := H.out.nm
              have HSZ := Aside0.mk (show w1.heap.size + 1 + 1 + 1 ≤ (turn wr (w1.heap.size + 1 + 1) (.stringIter s (k + 1))).heap.size by rw [turn_size]; exact H.out.sz)
              have hmea : wr.iterPos (w1.heap.size + 1 + 1) = k := by have h := H.out.it; simp only [World.iterPos, h]
              clear hp ST1 hd hok hxz hoc hll hit1 hz1' hpf H hl
              by_cases he9 : e9 ≠ 0
              · have f1 : (e9 != 0) = true := bne_iff_ne.2 he9
                have f2 : (e9 == 0) = false := beq_eq_false_iff_ne.2 he9
                rw [if_pos he9] at hfo
                have HF := Aside0.mk hfo
                clear hfo hmea
                go_wp2_with fail
                (with_reducible refine CU.out.mono ?_)
                rintro e w5 ⟨u0, u1, u2, u3, rfl, hst, hkp, hx⟩
                have ST := Aside0.mk hst
                have ZZ := Aside0.mk (blk_kept HZ1.out hkp (fun h => by rcases h with h | h | h <;> omega))
                clear hst hkp hx CU hnx
                go_wp2_with fail
                (with_reducible refine (CP.out w1.heap.size L9 p9 e9 _ ST.out.isp).out.mono ?_)
                rintro e w9 ⟨rfl, ⟨m9, rfl⟩⟩
                have ST9 := Aside0.mk (ST.out.later (pw_below_drewN (Below.refl _ _) m9))
                have ZZ9 := Aside0.mk (blk_drewN ZZ.out m9)
                obtain ⟨at1, e2, hp⟩ : ∃ at1 e2, placeF a L9 e9 = (at1, e2) := ⟨_, _, rfl⟩
                have hK := HK.out
                rw [← HF.out] at hK
                unfold endC at hK
                dsimp only at hK
                rw [hp] at hK ⊢
                dsimp only at hK ⊢
                clear hp ST ZZ
                by_cases he : e2 ≠ 0
                · have f1 : (e2 != 0) = true := bne_iff_ne.2 he
                  have f2 : (e2 == 0) = false := beq_eq_false_iff_ne.2 he
                  rw [if_pos he] at hK
                  subst hK
                  obtain ⟨z0, z1, z2, z3, z4, z5, z6, z7, z8, z9, z10⟩ := cells11 ZZ9.out
                  obtain ⟨y0, y1, y2, y3, y4, y5, y6, y7, y8, y9, y10⟩ := free11 ZZ9.out
                  go_wp2
                  refine bodyPost_ret (results_ctt rfl _ _ _ TC _ (0, 0) _ rfl (put11 ZZ9.out _ _ _ _ _ _ _ _ _ _ _) Tryd.underlying54 rfl info_c) rfl ?_
                  exact ⟨_, _, _, _, rfl, givesC_zero _ _, by (repeat (first | (with_reducible exact ST9.out.isp.low) | (with_reducible apply below_alloc) | (with_reducible apply pw_below_drewN) | (with_reducible apply below_drew1) | (with_reducible refine below_set ?_ (by first | assumption | omega))))⟩
                · have f1 : (e2 != 0) = false := bne_eq_false_iff_eq.2 (by omega)
                  have f2 : (e2 == 0) = true := beq_iff_eq.2 (by omega)
                  rw [if_neg he] at hK
                  subst hK
                  obtain ⟨A0, n0, c0, A1, n1, c1, A2, n2, c2, A3, n3, c3, rfl, rfl, rfl, rfl⟩ := ST9.out.slices
                  obtain ⟨z0, z1, z2, z3, z4, z5, z6, z7, z8, z9, z10⟩ := cells11 ZZ9.out
                  obtain ⟨y0, y1, y2, y3, y4, y5, y6, y7, y8, y9, y10⟩ := free11 ZZ9.out
                  obtain ⟨x0, x1, x2, x3, x4, x5, x6, x7, x8, x9, x10⟩ := cells11 ST9.out.box
                  go_wp2
                  refine bodyPost_ret (results_ctt rfl _ _ _ TC _ (0, 0) _ rfl (put11 ZZ9.out _ _ _ _ _ _ _ _ _ _ _) Tryd.underlying54 rfl info_c) rfl ?_
                  exact ⟨_, _, _, _, rfl, ST9.out.givesC (j := w.heap.size) (by omega) (by (repeat (first | (with_reducible exact Kept.refl _ _) | (with_reducible apply Kept.alloc) | (with_reducible apply Kept.drewN) | (with_reducible apply Kept.drew) | (with_reducible refine kept_at ?_ _ _) | (with_reducible refine kept_new ?_ _ _ (Nat.le_refl _)) | (with_reducible refine kept_new ?_ _ _ (by first | assumption | omega))))) (by omega), by (repeat (first | (with_reducible exact ST9.out.isp.low) | (with_reducible apply below_alloc) | (with_reducible apply pw_below_drewN) | (with_reducible apply below_drew1) | (with_reducible refine below_set ?_ (by first | assumption | omega))))⟩
              · have he9' : e9 = 0 := by omega
                subst he9'
                rw [if_neg (by simp)] at hfo
                have HF := Aside0.mk hfo
                clear hfo
                go_wp2_with fail
                (with_reducible refine CU.out.mono ?_)
                rintro e w5 ⟨u0, u1, u2, u3, rfl, hst, hkp, hx⟩
                have ST := Aside0.mk hst
                have ZZ := Aside0.mk (blk_kept HZ1.out hkp (fun h => by rcases h with h | h | h <;> omega))
                have IT := Aside0.mk (blk_kept HIT.out hkp (fun h => by rcases h with h | h | h <;> omega))
                have HX := Aside0.mk hx
                have SZ := Aside0.mk (Nat.le_trans HSZ.out hkp.1)
                have hmea2 : w5.iterPos (w1.heap.size + 1 + 1) = k + 1 := by have h := IT.out; simp only [World.iterPos, h]
                clear hst hkp hx CU hnx
                go_wp2_with fail
                go_roundw
                case rel =>
                  refine ⟨k + 1, c9, L9, p9, u0, u1, u2, u3, rfl, ?_⟩
                  have hq := HPF.out.2.2 (by trivial)
                  refine { k1 := hk, p0 := hq.1, p1 := hq.2, nn := by have := HPF.out.1; omega, nm := by have := HPF.out.2.1; omega, ok := ?_, xz := ?_, fold := HF.out, st := ST.out, it := IT.out, zero := ZZ.out, sz := SZ.out, lg := hgz }
                  · rcases HOC.out with h | h
                    · rw [h.2]; rfl
                    · exact h.2.2
                  · rcases HOC.out with h | h
                    · exact .inl h.2
                    · exact .inr (HX.out.resolve_left h.2.1)
                case measure => rw [hmea, hmea2]; omega
            · have hks : k = s.size := by have := H.out.k1; omega
              have hnx := fun ty => run_next_stop (P := Tryd.prog) wr (w1.heap.size + 1 + 1) s k ty H.out.it hk
              have hfo := H.out.fold
              rw [show (lets s).drop k = [] from List.drop_of_length_le (by unfold lets; rw [List.length_map, Array.length_toList, hks]; exact Nat.le_refl _), foldF] at hfo
              have HF := Aside0.mk hfo
              have ST := Aside0.mk H.out.st
              have ZZ := Aside0.mk H.out.zero
              obtain ⟨L9, hL9⟩ : ∃ L9, L9 = L1 := ⟨_, rfl⟩
              obtain ⟨p9, hp9⟩ : ∃ p9, p9 = p1 := ⟨_, rfl⟩
              rw [← hL9] at HF ST
              rw [← hp9] at ST
              clear hfo H hL9 hp9
              go_wp2_with fail
              (with_reducible refine (CP.out w1.heap.size L9 p9 0 _ ST.out.isp).out.mono ?_)
              rintro e w9 ⟨rfl, ⟨m9, rfl⟩⟩
              have ST9 := Aside0.mk (ST.out.later (pw_below_drewN (Below.refl _ _) m9))
              have ZZ9 := Aside0.mk (blk_drewN ZZ.out m9)
              obtain ⟨at1, e2, hp⟩ : ∃ at1 e2, placeF a L9 0 = (at1, e2) := ⟨_, _, rfl⟩
              have hK := HK.out
              rw [← HF.out] at hK
              unfold endC at hK
              dsimp only at hK
              rw [hp] at hK ⊢
              dsimp only at hK ⊢
              clear hp ST ZZ
              by_cases he : e2 ≠ 0
              · have f1 : (e2 != 0) = true := bne_iff_ne.2 he
                have f2 : (e2 == 0) = false := beq_eq_false_iff_ne.2 he
                rw [if_pos he] at hK
                subst hK
                obtain ⟨z0, z1, z2, z3, z4, z5, z6, z7, z8, z9, z10⟩ := cells11 ZZ9.out
                obtain ⟨y0, y1, y2, y3, y4, y5, y6, y7, y8, y9, y10⟩ := free11 ZZ9.out
                go_wp2
                refine bodyPost_ret (results_ctt rfl _ _ _ TC _ (0, 0) _ rfl (put11 ZZ9.out _ _ _ _ _ _ _ _ _ _ _) Tryd.underlying54 rfl info_c) rfl ?_
                exact ⟨_, _, _, _, rfl, givesC_zero _ _, by (repeat (first | (with_reducible exact ST9.out.isp.low) | (with_reducible apply below_alloc) | (with_reducible apply pw_below_drewN) | (with_reducible apply below_drew1) | (with_reducible refine below_set ?_ (by first | assumption | omega))))⟩
              · have f1 : (e2 != 0) = false := bne_eq_false_iff_eq.2 (by omega)
                have f2 : (e2 == 0) = true := beq_iff_eq.2 (by omega)
                rw [if_neg he] at hK
                subst hK
                obtain ⟨A0, n0, c0, A1, n1, c1, A2, n2, c2, A3, n3, c3, rfl, rfl, rfl, rfl⟩ := ST9.out.slices
                obtain ⟨z0, z1, z2, z3, z4, z5, z6, z7, z8, z9, z10⟩ := cells11 ZZ9.out
                obtain ⟨y0, y1, y2, y3, y4, y5, y6, y7, y8, y9, y10⟩ := free11 ZZ9.out
                obtain ⟨x0, x1, x2, x3, x4, x5, x6, x7, x8, x9, x10⟩ := cells11 ST9.out.box
                go_wp2
                refine bodyPost_ret (results_ctt rfl _ _ _ TC _ (0, 0) _ rfl (put11 ZZ9.out _ _ _ _ _ _ _ _ _ _ _) Tryd.underlying54 rfl info_c) rfl ?_
                exact ⟨_, _, _, _, rfl, ST9.out.givesC (j := w.heap.size) (by omega) (by (repeat (first | (with_reducible exact Kept.refl _ _) | (with_reducible apply Kept.alloc) | (with_reducible apply Kept.drewN) | (with_reducible apply Kept.drew) | (with_reducible refine kept_at ?_ _ _) | (with_reducible refine kept_new ?_ _ _ (Nat.le_refl _)) | (with_reducible refine kept_new ?_ _ _ (by first | assumption | omega))))) (by omega), by (repeat (first | (with_reducible exact ST9.out.isp.low) | (with_reducible apply below_alloc) | (with_reducible apply pw_below_drewN) | (with_reducible apply below_drew1) | (with_reducible refine below_set ?_ (by first | assumption | omega))))⟩
end Go.Proofs.YtjeofffddbibeaaDoor.Pa
end

section
namespace Go.Proofs.YtjeofffddbibeaaDoor.PParseTells
open Go.RowKit Go.Proofs.YtjeofffddbibeaaDoorW.PrintWords Go.Proofs.YtjeofffddbibeaaDoorW.PrintLast Go.Proofs.YtjeofffddbibeaaDoorW.PrintMore
attribute [local go_sem] max2_int min2_int max_two min_two max_three min_three max_four min_four   -- for this text's walks alone
set_option linter.unusedVariables false
set_option linter.unusedSimpArgs false
mutual
def epactref09_Name.j0 : Nat → ByteArray → Bool → Option (Bool)
  | 0, _, _ => none
  | k + 1, x0, x22 => if x22 = true then (some false) else (epactref09_Name.l0 k x0 0)
def epactref09_Name.l0 : Nat → ByteArray → Int → Option (Bool)
  | 0, _, _ => none
  | k + 1, x0, x3 => if x3 < (x0.size : Int) then (if 0 ≤ x3 then (if (bt x0 x3) = 95 then (epactref09_Name.l0 k x0 (wrap64 (x3 + 1))) else (if (bt x0 x3) < 48 then (if (bt x0 x3) < 97 then (if (bt x0 x3) < 65 then (some false) else (if (bt x0 x3) > 90 then (some false) else (epactref09_Name.l0 k x0 (wrap64 (x3 + 1))))) else (if (bt x0 x3) > 122 then (if (bt x0 x3) < 65 then (some false) else (if (bt x0 x3) > 90 then (some false) else (epactref09_Name.l0 k x0 (wrap64 (x3 + 1))))) else (epactref09_Name.l0 k x0 (wrap64 (x3 + 1))))) else (if (bt x0 x3) > 57 then (if (bt x0 x3) < 97 then (if (bt x0 x3) < 65 then (some false) else (if (bt x0 x3) > 90 then (some false) else (epactref09_Name.l0 k x0 (wrap64 (x3 + 1))))) else (if (bt x0 x3) > 122 then (if (bt x0 x3) < 65 then (some false) else (if (bt x0 x3) > 90 then (some false) else (epactref09_Name.l0 k x0 (wrap64 (x3 + 1))))) else (epactref09_Name.l0 k x0 (wrap64 (x3 + 1))))) else (epactref09_Name.l0 k x0 (wrap64 (x3 + 1)))))) else (none)) else (some true)
end
def epactref09_Name.f (k : Nat) (a0 : ByteArray) : Option (Bool) := if (a0.size : Int) < 1 then (epactref09_Name.j0 k a0 true) else (if (a0.size : Int) > 30 then (epactref09_Name.j0 k a0 true) else (if 0 < (a0.size : Int) then (if (bt a0 0) ≥ 48 then (epactref09_Name.j0 k a0 (decide ((bt a0 0) ≤ 57))) else (epactref09_Name.j0 k a0 false)) else (none)))
set_option maxHeartbeats 8000000 in
set_option maxRecDepth 100000 in
theorem epactref09_Name.calls (k : Nat) (a0 : ByteArray) (r : Bool) (w : World) (h : epactref09_Name.f k a0 = some r) :
    Calls Tryd.prog 74 #[.string a0] w fun e w' => e = .returned (.bool r) ∧ Drawn0 w w' := by
  have H : (if (a0.size : Int) < 1 then (epactref09_Name.j0 k a0 true) else (if (a0.size : Int) > 30 then (epactref09_Name.j0 k a0 true) else (if 0 < (a0.size : Int) then (if (bt a0 0) ≥ 48 then (epactref09_Name.j0 k a0 (decide ((bt a0 0) ≤ 57))) else (epactref09_Name.j0 k a0 false)) else (none)))) = some r := h
  clear h
  have HC2 := Aside0.mk H
  clear H
  go_enter Tryd.func74, Tryd.ntmps74
  go_upto_region 1 with (fail)
  go_cut [22] (fun v22 wc => ∃ (kq : Nat) (x22_1 : Bool), v22 = .bool x22_1 ∧ Aside0 (epactref09_Name.j0 kq a0 x22_1 = some r) ∧ Aside0 (kq ≤ k) ∧ Drawn0 w wc)
  case first =>
    have H := HC2.out
    clear HC2
    by_cases c3 : (a0.size : Int) < 1
    · rw [if_pos c3] at H
      have c3b0 : decide ((a0.size : Int) < 1) = true := decide_eq_true c3
      have c3b1 : decide (a0.size < 1) = true := decide_eq_true (by omega)
      clear c3
      (first | rw [c3b0] | (simp only [i64_w, i32_w]; rw [c3b0]) | skip)
      have H' := Aside0.mk H
      clear H
      go_wp2
      go_meet
      case rel => exact ⟨_, (true), (by first | rfl | (simp; done) | (simp [*]; done)), H', ⟨by first | omega | exact Nat.le_refl _⟩, by repeat (first | exact Drawn0.refl _ | apply Drawn0.step)⟩
    · rw [if_neg c3] at H
      have c3b0 : decide ((a0.size : Int) < 1) = false := decide_eq_false c3
      have c3b1 : decide (a0.size < 1) = false := decide_eq_false (by omega)
      clear c3
      (first | rw [c3b0] | (simp only [i64_w, i32_w]; rw [c3b0]) | skip)
      by_cases c4 : (a0.size : Int) > 30
      · rw [if_pos c4] at H
        have c4b0 : decide (30 < (a0.size : Int)) = true := decide_eq_true c4
        have c4b1 : decide (30 < a0.size) = true := decide_eq_true (by omega)
        clear c4
        have H' := Aside0.mk H
        clear H
        go_wp2
        go_meet
        case rel => exact ⟨_, (true), (by first | rfl | (simp; done) | (simp [*]; done)), H', ⟨by first | omega | exact Nat.le_refl _⟩, by repeat (first | exact Drawn0.refl _ | apply Drawn0.step)⟩
      · rw [if_neg c4] at H
        have c4b0 : decide (30 < (a0.size : Int)) = false := decide_eq_false c4
        have c4b1 : decide (30 < a0.size) = false := decide_eq_false (by omega)
        clear c4
        by_cases c5 : 0 < (a0.size : Int)
        · rw [if_pos c5] at H
          have c5b0 : decide (0 < (a0.size : Int)) = true := decide_eq_true c5
          have c5b1 : decide (0 < a0.size) = true := decide_eq_true (by omega)
          clear c5
          by_cases c7 : (bt a0 0) ≥ 48
          · rw [if_pos c7] at H
            have c7b0 : decide (48 ≤ (bt a0 0)) = true := decide_eq_true c7
            clear c7
            have H' := Aside0.mk H
            clear H
            have p6 : 0 ≤ (0 : Int) := (by omega)
            have q6 : 0 < a0.size := (by have : (0 : Int) < (a0.size : Int) := of_decide_eq_true (by first | (with_reducible assumption) | assumption); omega)
            have hx6 : ∀ h : 0 < a0.size, ((a0[0]'h).toNat : Int) = bt a0 0 := bt_at a0 0
            clear p6
            have qi6 : (0 < (a0.size : Int)) = True := eq_true (of_decide_eq_true (by first | (with_reducible assumption) | assumption))
            replace q6 := eq_true q6
            have p8 : 0 ≤ (0 : Int) := (by omega)
            have q8 : 0 < a0.size := (by have : (0 : Int) < (a0.size : Int) := of_decide_eq_true (by first | (with_reducible assumption) | assumption); omega)
            have hx8 : ∀ h : 0 < a0.size, ((a0[0]'h).toNat : Int) = bt a0 0 := bt_at a0 0
            clear p8
            have qi8 : (0 < (a0.size : Int)) = True := eq_true (of_decide_eq_true (by first | (with_reducible assumption) | assumption))
            replace q8 := eq_true q8
            go_wp2
            go_meet
            case rel => exact ⟨_, (decide ((bt a0 0) ≤ 57)), (by first | rfl | (simp; done) | (simp [*]; done)), H', ⟨by first | omega | exact Nat.le_refl _⟩, by repeat (first | exact Drawn0.refl _ | apply Drawn0.step)⟩
          · rw [if_neg c7] at H
            have c7b0 : decide (48 ≤ (bt a0 0)) = false := decide_eq_false c7
            clear c7
            have H' := Aside0.mk H
            clear H
            have p6 : 0 ≤ (0 : Int) := (by omega)
            have q6 : 0 < a0.size := (by have : (0 : Int) < (a0.size : Int) := of_decide_eq_true (by first | (with_reducible assumption) | assumption); omega)
            have hx6 : ∀ h : 0 < a0.size, ((a0[0]'h).toNat : Int) = bt a0 0 := bt_at a0 0
            clear p6
            have qi6 : (0 < (a0.size : Int)) = True := eq_true (of_decide_eq_true (by first | (with_reducible assumption) | assumption))
            replace q6 := eq_true q6
            go_wp2
            go_meet
            case rel => exact ⟨_, (false), (by first | rfl | (simp; done) | (simp [*]; done)), H', ⟨by first | omega | exact Nat.le_refl _⟩, by repeat (first | exact Drawn0.refl _ | apply Drawn0.step)⟩
        · rw [if_neg c5] at H
          exact absurd H (by simp)
  case rest =>
    clear HC2
    try clear p2
    try clear c3
    try clear c3b0
    try clear c3b1
    try clear c4
    try clear c4b0
    try clear c4b1
    try clear c5
    try clear c5b0
    try clear c5b1
    try clear p6
    try clear q6
    try clear hx6
    try clear qi6
    try clear c7
    try clear c7b0
    try clear p8
    try clear q8
    try clear hx8
    try clear qi8
    try clear p6
    try clear p8
    try clear q6
    try clear q8
    obtain ⟨kq, x22_1, rfl, HA, HJ1, ⟨mc1, rfl⟩⟩ := hcut
    cases kq with
    | zero => exact absurd HA.out (by simp [epactref09_Name.j0])
    | succ kj1 =>
      have H := HA.out
      clear HA
      simp only [epactref09_Name.j0] at H
      by_cases c9 : x22_1 = true
      · subst c9
        have H1 : (some false) = some r := by rw [if_pos rfl] at H; exact H
        clear H
        have H := H1
        clear H1
        obtain rfl := Option.some.inj H
        go_wp2
        go_ret
        exact ⟨by first | rfl | (simp; done) | (simp [*]; done), by repeat (first | exact Drawn0.refl _ | apply Drawn0.step)⟩
      · replace c9 := Bool.eq_false_iff.mpr c9
        subst c9
        have H1 : (epactref09_Name.l0 kj1 a0 0) = some r := by rw [if_neg (show ¬ (false = true) by decide)] at H; exact H
        clear H
        have H := H1
        clear H1
        have H' := Aside0.mk H
        clear H
        go_wp2
        go_loopg [3] kj1 (fun kq v3 w' => ∃ (x3_2 : Int), v3 = .int .i64 x3_2 ∧ Aside0 (epactref09_Name.l0 kq a0 x3_2 = some r) ∧ Aside0 (kq ≤ kj1) ∧ Drawn0 w w')
        case atStart => exact ⟨(0), (by first | rfl | (simp; done) | (simp [*]; done)), H', ⟨Nat.le_refl _⟩, by repeat (first | exact Drawn0.refl _ | apply Drawn0.step)⟩
        case round =>
          clear H'
          try clear c1
          try clear p2
          try clear c3
          try clear c3b0
          try clear c3b1
          try clear c4
          try clear c4b0
          try clear c4b1
          try clear c5
          try clear c5b0
          try clear c5b1
          try clear p6
          try clear q6
          try clear hx6
          try clear qi6
          try clear c7
          try clear c7b0
          try clear p8
          try clear q8
          try clear hx8
          try clear qi8
          try clear c9
          try clear p2
          try clear p6
          try clear p8
          try clear q6
          try clear q8
          obtain ⟨x3_2, rfl, HA, HK2, ⟨m2, rfl⟩⟩ := hrel
          cases gk with
          | zero => exact absurd HA.out (by simp [epactref09_Name.l0])
          | succ k2 =>
            have H := HA.out
            clear HA
            simp only [epactref09_Name.l0] at H
            by_cases c10 : x3_2 < (a0.size : Int)
            · rw [if_pos c10] at H
              have c10b0 : decide (x3_2 < (a0.size : Int)) = true := decide_eq_true c10
              clear c10
              by_cases c11 : 0 ≤ x3_2
              · rw [if_pos c11] at H
                have c11b0 : decide (0 ≤ x3_2) = true := decide_eq_true c11
                clear c11
                by_cases c13 : (bt a0 x3_2) = 95
                · rw [if_pos c13] at H
                  have c13b0 : ((bt a0 x3_2) == 95) = true := beq_iff_eq.mpr c13
                  have c13b1 : ((bt a0 x3_2) != 95) = false := bne_eq_false_iff_eq.mpr c13
                  clear c13
                  have H' := Aside0.mk H
                  clear H
                  have p12 : 0 ≤ (x3_2 : Int) := of_decide_eq_true (by first | (with_reducible assumption) | assumption)
                  have q12 : x3_2 < (a0.size : Int) := of_decide_eq_true (by first | (with_reducible assumption) | assumption)
                  have hx12 := bt_at a0 x3_2
                  replace p12 := eq_true p12
                  replace q12 := eq_true q12
                  go_wp2
                  go_roundg k2
                  case measure => have := HJ1.out; have := HK2.out; omega
                  case rel => exact ⟨(wrap64 (x3_2 + 1)), (by first | rfl | (simp; done) | (simp [*]; done)), H', ⟨by have := HJ1.out; have := HK2.out; omega⟩, by repeat (first | exact Drawn0.refl _ | apply Drawn0.step)⟩
                · rw [if_neg c13] at H
                  have c13b0 : ((bt a0 x3_2) == 95) = false := beq_eq_false_iff_ne.mpr c13
                  have c13b1 : ((bt a0 x3_2) != 95) = true := bne_iff_ne.mpr c13
                  by_cases c14 : (bt a0 x3_2) < 48
                  · rw [if_pos c14] at H
                    have c14b0 : decide ((bt a0 x3_2) < 48) = true := decide_eq_true c14
                    clear c14
                    by_cases c15 : (bt a0 x3_2) < 97
                    · rw [if_pos c15] at H
                      have c15b0 : decide ((bt a0 x3_2) < 97) = true := decide_eq_true c15
                      clear c15
                      by_cases c16 : (bt a0 x3_2) < 65
                      · rw [if_pos c16] at H
                        have c16b0 : decide ((bt a0 x3_2) < 65) = true := decide_eq_true c16
                        clear c16
                        obtain rfl := Option.some.inj H
                        have p12 : 0 ≤ (x3_2 : Int) := of_decide_eq_true (by first | (with_reducible assumption) | assumption)
                        have q12 : x3_2 < (a0.size : Int) := of_decide_eq_true (by first | (with_reducible assumption) | assumption)
                        have hx12 := bt_at a0 x3_2
                        replace p12 := eq_true p12
                        replace q12 := eq_true q12
                        go_wp2
                        go_ret
                        exact ⟨by first | rfl | (simp; done) | (simp [*]; done), by repeat (first | exact Drawn0.refl _ | apply Drawn0.step)⟩
                      · rw [if_neg c16] at H
                        have c16b0 : decide ((bt a0 x3_2) < 65) = false := decide_eq_false c16
                        clear c16
                        by_cases c17 : (bt a0 x3_2) > 90
                        · rw [if_pos c17] at H
                          have c17b0 : decide (90 < (bt a0 x3_2)) = true := decide_eq_true c17
                          clear c17
                          obtain rfl := Option.some.inj H
                          have p12 : 0 ≤ (x3_2 : Int) := of_decide_eq_true (by first | (with_reducible assumption) | assumption)
                          have q12 : x3_2 < (a0.size : Int) := of_decide_eq_true (by first | (with_reducible assumption) | assumption)
                          have hx12 := bt_at a0 x3_2
                          replace p12 := eq_true p12
                          replace q12 := eq_true q12
                          go_wp2
                          go_ret
                          exact ⟨by first | rfl | (simp; done) | (simp [*]; done), by repeat (first | exact Drawn0.refl _ | apply Drawn0.step)⟩
                        · rw [if_neg c17] at H
                          have c17b0 : decide (90 < (bt a0 x3_2)) = false := decide_eq_false c17
                          clear c17
                          have H' := Aside0.mk H
                          clear H
                          have p12 : 0 ≤ (x3_2 : Int) := of_decide_eq_true (by first | (with_reducible assumption) | assumption)
                          have q12 : x3_2 < (a0.size : Int) := of_decide_eq_true (by first | (with_reducible assumption) | assumption)
                          have hx12 := bt_at a0 x3_2
                          replace p12 := eq_true p12
                          replace q12 := eq_true q12
                          go_wp2
                          go_roundg k2
                          case measure => have := HJ1.out; have := HK2.out; omega
                          case rel => exact ⟨(wrap64 (x3_2 + 1)), (by first | rfl | (simp; done) | (simp [*]; done)), H', ⟨by have := HJ1.out; have := HK2.out; omega⟩, by repeat (first | exact Drawn0.refl _ | apply Drawn0.step)⟩
                    · rw [if_neg c15] at H
                      have c15b0 : decide ((bt a0 x3_2) < 97) = false := decide_eq_false c15
                      clear c15
                      by_cases c18 : (bt a0 x3_2) > 122
                      · rw [if_pos c18] at H
                        have c18b0 : decide (122 < (bt a0 x3_2)) = true := decide_eq_true c18
                        clear c18
                        by_cases c19 : (bt a0 x3_2) < 65
                        · rw [if_pos c19] at H
                          have c19b0 : decide ((bt a0 x3_2) < 65) = true := decide_eq_true c19
                          clear c19
                          obtain rfl := Option.some.inj H
                          have p12 : 0 ≤ (x3_2 : Int) := of_decide_eq_true (by first | (with_reducible assumption) | assumption)
                          have q12 : x3_2 < (a0.size : Int) := of_decide_eq_true (by first | (with_reducible assumption) | assumption)
                          have hx12 := bt_at a0 x3_2
                          replace p12 := eq_true p12
                          replace q12 := eq_true q12
                          go_wp2
                          go_ret
                          exact ⟨by first | rfl | (simp; done) | (simp [*]; done), by repeat (first | exact Drawn0.refl _ | apply Drawn0.step)⟩
                        · rw [if_neg c19] at H
                          have c19b0 : decide ((bt a0 x3_2) < 65) = false := decide_eq_false c19
                          clear c19
                          by_cases c20 : (bt a0 x3_2) > 90
                          · rw [if_pos c20] at H
                            have c20b0 : decide (90 < (bt a0 x3_2)) = true := decide_eq_true c20
                            clear c20
                            obtain rfl := Option.some.inj H
                            have p12 : 0 ≤ (x3_2 : Int) := of_decide_eq_true (by first | (with_reducible assumption) | assumption)
                            have q12 : x3_2 < (a0.size : Int) := of_decide_eq_true (by first | (with_reducible assumption) | assumption)
                            have hx12 := bt_at a0 x3_2
                            replace p12 := eq_true p12
                            replace q12 := eq_true q12
                            go_wp2
                            go_ret
                            exact ⟨by first | rfl | (simp; done) | (simp [*]; done), by repeat (first | exact Drawn0.refl _ | apply Drawn0.step)⟩
                          · rw [if_neg c20] at H
                            have c20b0 : decide (90 < (bt a0 x3_2)) = false := decide_eq_false c20
                            clear c20
                            have H' := Aside0.mk H
                            clear H
                            have p12 : 0 ≤ (x3_2 : Int) := of_decide_eq_true (by first | (with_reducible assumption) | assumption)
                            have q12 : x3_2 < (a0.size : Int) := of_decide_eq_true (by first | (with_reducible assumption) | assumption)
                            have hx12 := bt_at a0 x3_2
                            replace p12 := eq_true p12
                            replace q12 := eq_true q12
                            go_wp2
                            go_roundg k2
                            case measure => have := HJ1.out; have := HK2.out; omega
                            case rel => exact ⟨(wrap64 (x3_2 + 1)), (by first | rfl | (simp; done) | (simp [*]; done)), H', ⟨by have := HJ1.out; have := HK2.out; omega⟩, by repeat (first | exact Drawn0.refl _ | apply Drawn0.step)⟩
                      · rw [if_neg c18] at H
                        have c18b0 : decide (122 < (bt a0 x3_2)) = false := decide_eq_false c18
                        clear c18
                        have H' := Aside0.mk H
                        clear H
                        have p12 : 0 ≤ (x3_2 : Int) := of_decide_eq_true (by first | (with_reducible assumption) | assumption)
                        have q12 : x3_2 < (a0.size : Int) := of_decide_eq_true (by first | (with_reducible assumption) | assumption)
                        have hx12 := bt_at a0 x3_2
                        replace p12 := eq_true p12
                        replace q12 := eq_true q12
                        go_wp2
                        go_roundg k2
                        case measure => have := HJ1.out; have := HK2.out; omega
                        case rel => exact ⟨(wrap64 (x3_2 + 1)), (by first | rfl | (simp; done) | (simp [*]; done)), H', ⟨by have := HJ1.out; have := HK2.out; omega⟩, by repeat (first | exact Drawn0.refl _ | apply Drawn0.step)⟩
                  · rw [if_neg c14] at H
                    have c14b0 : decide ((bt a0 x3_2) < 48) = false := decide_eq_false c14
                    clear c14
                    by_cases c21 : (bt a0 x3_2) > 57
                    · rw [if_pos c21] at H
                      have c21b0 : decide (57 < (bt a0 x3_2)) = true := decide_eq_true c21
                      clear c21
                      by_cases c22 : (bt a0 x3_2) < 97
                      · rw [if_pos c22] at H
                        have c22b0 : decide ((bt a0 x3_2) < 97) = true := decide_eq_true c22
                        clear c22
                        by_cases c23 : (bt a0 x3_2) < 65
                        · rw [if_pos c23] at H
                          have c23b0 : decide ((bt a0 x3_2) < 65) = true := decide_eq_true c23
                          clear c23
                          obtain rfl := Option.some.inj H
                          have p12 : 0 ≤ (x3_2 : Int) := of_decide_eq_true (by first | (with_reducible assumption) | assumption)
                          have q12 : x3_2 < (a0.size : Int) := of_decide_eq_true (by first | (with_reducible assumption) | assumption)
                          have hx12 := bt_at a0 x3_2
                          replace p12 := eq_true p12
                          replace q12 := eq_true q12
                          go_wp2
                          go_ret
                          exact ⟨by first | rfl | (simp; done) | (simp [*]; done), by repeat (first | exact Drawn0.refl _ | apply Drawn0.step)⟩
                        · rw [if_neg c23] at H
                          have c23b0 : decide ((bt a0 x3_2) < 65) = false := decide_eq_false c23
                          clear c23
                          by_cases c24 : (bt a0 x3_2) > 90
                          · rw [if_pos c24] at H
                            have c24b0 : decide (90 < (bt a0 x3_2)) = true := decide_eq_true c24
                            clear c24
                            obtain rfl := Option.some.inj H
                            have p12 : 0 ≤ (x3_2 : Int) := of_decide_eq_true (by first | (with_reducible assumption) | assumption)
                            have q12 : x3_2 < (a0.size : Int) := of_decide_eq_true (by first | (with_reducible assumption) | assumption)
                            have hx12 := bt_at a0 x3_2
                            replace p12 := eq_true p12
                            replace q12 := eq_true q12
                            go_wp2
                            go_ret
                            exact ⟨by first | rfl | (simp; done) | (simp [*]; done), by repeat (first | exact Drawn0.refl _ | apply Drawn0.step)⟩
                          · rw [if_neg c24] at H
                            have c24b0 : decide (90 < (bt a0 x3_2)) = false := decide_eq_false c24
                            clear c24
                            have H' := Aside0.mk H
                            clear H
                            have p12 : 0 ≤ (x3_2 : Int) := of_decide_eq_true (by first | (with_reducible assumption) | assumption)
                            have q12 : x3_2 < (a0.size : Int) := of_decide_eq_true (by first | (with_reducible assumption) | assumption)
                            have hx12 := bt_at a0 x3_2
                            replace p12 := eq_true p12
                            replace q12 := eq_true q12
                            go_wp2
                            go_roundg k2
                            case measure => have := HJ1.out; have := HK2.out; omega
                            case rel => exact ⟨(wrap64 (x3_2 + 1)), (by first | rfl | (simp; done) | (simp [*]; done)), H', ⟨by have := HJ1.out; have := HK2.out; omega⟩, by repeat (first | exact Drawn0.refl _ | apply Drawn0.step)⟩
                      · rw [if_neg c22] at H
                        have c22b0 : decide ((bt a0 x3_2) < 97) = false := decide_eq_false c22
                        clear c22
                        by_cases c25 : (bt a0 x3_2) > 122
                        · rw [if_pos c25] at H
                          have c25b0 : decide (122 < (bt a0 x3_2)) = true := decide_eq_true c25
                          clear c25
                          by_cases c26 : (bt a0 x3_2) < 65
                          · rw [if_pos c26] at H
                            have c26b0 : decide ((bt a0 x3_2) < 65) = true := decide_eq_true c26
                            clear c26
                            obtain rfl := Option.some.inj H
                            have p12 : 0 ≤ (x3_2 : Int) := of_decide_eq_true (by first | (with_reducible assumption) | assumption)
                            have q12 : x3_2 < (a0.size : Int) := of_decide_eq_true (by first | (with_reducible assumption) | assumption)
                            have hx12 := bt_at a0 x3_2
                            replace p12 := eq_true p12
                            replace q12 := eq_true q12
                            go_wp2
                            go_ret
                            exact ⟨by first | rfl | (simp; done) | (simp [*]; done), by repeat (first | exact Drawn0.refl _ | apply Drawn0.step)⟩
                          · rw [if_neg c26] at H
                            have c26b0 : decide ((bt a0 x3_2) < 65) = false := decide_eq_false c26
                            clear c26
                            by_cases c27 : (bt a0 x3_2) > 90
                            · rw [if_pos c27] at H
                              have c27b0 : decide (90 < (bt a0 x3_2)) = true := decide_eq_true c27
                              clear c27
                              obtain rfl := Option.some.inj H
                              have p12 : 0 ≤ (x3_2 : Int) := of_decide_eq_true (by first | (with_reducible assumption) | assumption)
                              have q12 : x3_2 < (a0.size : Int) := of_decide_eq_true (by first | (with_reducible assumption) | assumption)
                              have hx12 := bt_at a0 x3_2
                              replace p12 := eq_true p12
                              replace q12 := eq_true q12
                              go_wp2
                              go_ret
                              exact ⟨by first | rfl | (simp; done) | (simp [*]; done), by repeat (first | exact Drawn0.refl _ | apply Drawn0.step)⟩
                            · rw [if_neg c27] at H
                              have c27b0 : decide (90 < (bt a0 x3_2)) = false := decide_eq_false c27
                              clear c27
                              have H' := Aside0.mk H
                              clear H
                              have p12 : 0 ≤ (x3_2 : Int) := of_decide_eq_true (by first | (with_reducible assumption) | assumption)
                              have q12 : x3_2 < (a0.size : Int) := of_decide_eq_true (by first | (with_reducible assumption) | assumption)
                              have hx12 := bt_at a0 x3_2
                              replace p12 := eq_true p12
                              replace q12 := eq_true q12
                              go_wp2
                              go_roundg k2
                              case measure => have := HJ1.out; have := HK2.out; omega
                              case rel => exact ⟨(wrap64 (x3_2 + 1)), (by first | rfl | (simp; done) | (simp [*]; done)), H', ⟨by have := HJ1.out; have := HK2.out; omega⟩, by repeat (first | exact Drawn0.refl _ | apply Drawn0.step)⟩
                        · rw [if_neg c25] at H
                          have c25b0 : decide (122 < (bt a0 x3_2)) = false := decide_eq_false c25
                          clear c25
                          have H' := Aside0.mk H
                          clear H
                          have p12 : 0 ≤ (x3_2 : Int) := of_decide_eq_true (by first | (with_reducible assumption) | assumption)
                          have q12 : x3_2 < (a0.size : Int) := of_decide_eq_true (by first | (with_reducible assumption) | assumption)
                          have hx12 := bt_at a0 x3_2
                          replace p12 := eq_true p12
                          replace q12 := eq_true q12
                          go_wp2
                          go_roundg k2
                          case measure => have := HJ1.out; have := HK2.out; omega
                          case rel => exact ⟨(wrap64 (x3_2 + 1)), (by first | rfl | (simp; done) | (simp [*]; done)), H', ⟨by have := HJ1.out; have := HK2.out; omega⟩, by repeat (first | exact Drawn0.refl _ | apply Drawn0.step)⟩
                    · rw [if_neg c21] at H
                      have c21b0 : decide (57 < (bt a0 x3_2)) = false := decide_eq_false c21
                      clear c21
                      have H' := Aside0.mk H
                      clear H
                      have p12 : 0 ≤ (x3_2 : Int) := of_decide_eq_true (by first | (with_reducible assumption) | assumption)
                      have q12 : x3_2 < (a0.size : Int) := of_decide_eq_true (by first | (with_reducible assumption) | assumption)
                      have hx12 := bt_at a0 x3_2
                      replace p12 := eq_true p12
                      replace q12 := eq_true q12
                      go_wp2
                      go_roundg k2
                      case measure => have := HJ1.out; have := HK2.out; omega
                      case rel => exact ⟨(wrap64 (x3_2 + 1)), (by first | rfl | (simp; done) | (simp [*]; done)), H', ⟨by have := HJ1.out; have := HK2.out; omega⟩, by repeat (first | exact Drawn0.refl _ | apply Drawn0.step)⟩
              · rw [if_neg c11] at H
                exact absurd H (by simp)
            · rw [if_neg c10] at H
              have c10b0 : decide (x3_2 < (a0.size : Int)) = false := decide_eq_false c10
              clear c10
              obtain rfl := Option.some.inj H
              go_wp2
              go_ret
              exact ⟨by first | rfl | (simp; done) | (simp [*]; done), by repeat (first | exact Drawn0.refl _ | apply Drawn0.step)⟩
def epactref10_mark.f (a0 : Int) : Option (Bool) := if a0 = 40 then (some true) else (if a0 = 41 then (some true) else (if a0 = 44 then (some true) else (if a0 = 61 then (some true) else (if a0 = 58 then (some true) else (if a0 = 91 then (some true) else (some (a0 == 93)))))))
set_option maxHeartbeats 8000000 in
set_option maxRecDepth 100000 in
theorem epactref10_mark.calls (a0 : Int) (r : Bool) (w : World) (h : epactref10_mark.f a0 = some r) :
    Calls Tryd.prog 106 #[.int .u8 a0] w fun e w' => e = .returned (.bool r) ∧ Drawn0 w w' := by
  have H : (if a0 = 40 then (some true) else (if a0 = 41 then (some true) else (if a0 = 44 then (some true) else (if a0 = 61 then (some true) else (if a0 = 58 then (some true) else (if a0 = 91 then (some true) else (some (a0 == 93)))))))) = some r := h
  clear h
  by_cases c2 : a0 = 40
  · rw [if_pos c2] at H
    have c2b0 : (a0 == 40) = true := beq_iff_eq.mpr c2
    have c2b1 : (a0 != 40) = false := bne_eq_false_iff_eq.mpr c2
    clear c2
    obtain rfl := Option.some.inj H
    go_enter Tryd.func106, Tryd.ntmps106
    go_wp2
    go_ret
    exact ⟨by first | rfl | (simp; done) | (simp [*]; done), by repeat (first | exact Drawn0.refl _ | apply Drawn0.step)⟩
  · rw [if_neg c2] at H
    have c2b0 : (a0 == 40) = false := beq_eq_false_iff_ne.mpr c2
    have c2b1 : (a0 != 40) = true := bne_iff_ne.mpr c2
    by_cases c3 : a0 = 41
    · rw [if_pos c3] at H
      have c3b0 : (a0 == 41) = true := beq_iff_eq.mpr c3
      have c3b1 : (a0 != 41) = false := bne_eq_false_iff_eq.mpr c3
      clear c3
      obtain rfl := Option.some.inj H
      go_enter Tryd.func106, Tryd.ntmps106
      go_wp2
      go_ret
      exact ⟨by first | rfl | (simp; done) | (simp [*]; done), by repeat (first | exact Drawn0.refl _ | apply Drawn0.step)⟩
    · rw [if_neg c3] at H
      have c3b0 : (a0 == 41) = false := beq_eq_false_iff_ne.mpr c3
      have c3b1 : (a0 != 41) = true := bne_iff_ne.mpr c3
      by_cases c4 : a0 = 44
      · rw [if_pos c4] at H
        have c4b0 : (a0 == 44) = true := beq_iff_eq.mpr c4
        have c4b1 : (a0 != 44) = false := bne_eq_false_iff_eq.mpr c4
        clear c4
        obtain rfl := Option.some.inj H
        go_enter Tryd.func106, Tryd.ntmps106
        go_wp2
        go_ret
        exact ⟨by first | rfl | (simp; done) | (simp [*]; done), by repeat (first | exact Drawn0.refl _ | apply Drawn0.step)⟩
      · rw [if_neg c4] at H
        have c4b0 : (a0 == 44) = false := beq_eq_false_iff_ne.mpr c4
        have c4b1 : (a0 != 44) = true := bne_iff_ne.mpr c4
        by_cases c5 : a0 = 61
        · rw [if_pos c5] at H
          have c5b0 : (a0 == 61) = true := beq_iff_eq.mpr c5
          have c5b1 : (a0 != 61) = false := bne_eq_false_iff_eq.mpr c5
          clear c5
          obtain rfl := Option.some.inj H
          go_enter Tryd.func106, Tryd.ntmps106
          go_wp2
          go_ret
          exact ⟨by first | rfl | (simp; done) | (simp [*]; done), by repeat (first | exact Drawn0.refl _ | apply Drawn0.step)⟩
        · rw [if_neg c5] at H
          have c5b0 : (a0 == 61) = false := beq_eq_false_iff_ne.mpr c5
          have c5b1 : (a0 != 61) = true := bne_iff_ne.mpr c5
          by_cases c6 : a0 = 58
          · rw [if_pos c6] at H
            have c6b0 : (a0 == 58) = true := beq_iff_eq.mpr c6
            have c6b1 : (a0 != 58) = false := bne_eq_false_iff_eq.mpr c6
            clear c6
            obtain rfl := Option.some.inj H
            go_enter Tryd.func106, Tryd.ntmps106
            go_wp2
            go_ret
            exact ⟨by first | rfl | (simp; done) | (simp [*]; done), by repeat (first | exact Drawn0.refl _ | apply Drawn0.step)⟩
          · rw [if_neg c6] at H
            have c6b0 : (a0 == 58) = false := beq_eq_false_iff_ne.mpr c6
            have c6b1 : (a0 != 58) = true := bne_iff_ne.mpr c6
            by_cases c7 : a0 = 91
            · rw [if_pos c7] at H
              have c7b0 : (a0 == 91) = true := beq_iff_eq.mpr c7
              have c7b1 : (a0 != 91) = false := bne_eq_false_iff_eq.mpr c7
              clear c7
              obtain rfl := Option.some.inj H
              go_enter Tryd.func106, Tryd.ntmps106
              go_wp2
              go_ret
              exact ⟨by first | rfl | (simp; done) | (simp [*]; done), by repeat (first | exact Drawn0.refl _ | apply Drawn0.step)⟩
            · rw [if_neg c7] at H
              have c7b0 : (a0 == 91) = false := beq_eq_false_iff_ne.mpr c7
              have c7b1 : (a0 != 91) = true := bne_iff_ne.mpr c7
              obtain rfl := Option.some.inj H
              go_enter Tryd.func106, Tryd.ntmps106
              go_wp2
              go_ret
              exact ⟨by first | rfl | (simp; done) | (simp [*]; done), by repeat (first | exact Drawn0.refl _ | apply Drawn0.step)⟩
def epactref10_letter.f (a0 : Int) : Option (Bool) := if a0 = 95 then (some true) else (if a0 ≥ 48 then (if a0 ≤ 57 then (some true) else (if a0 ≥ 97 then (if a0 ≤ 122 then (some true) else (if a0 ≥ 65 then (some (decide (a0 ≤ 90))) else (some false))) else (if a0 ≥ 65 then (some (decide (a0 ≤ 90))) else (some false)))) else (if a0 ≥ 97 then (if a0 ≤ 122 then (some true) else (if a0 ≥ 65 then (some (decide (a0 ≤ 90))) else (some false))) else (if a0 ≥ 65 then (some (decide (a0 ≤ 90))) else (some false))))
set_option maxHeartbeats 8000000 in
set_option maxRecDepth 100000 in
theorem epactref10_letter.calls (a0 : Int) (r : Bool) (w : World) (h : epactref10_letter.f a0 = some r) :
    Calls Tryd.prog 107 #[.int .u8 a0] w fun e w' => e = .returned (.bool r) ∧ Drawn0 w w' := by
  have H : (if a0 = 95 then (some true) else (if a0 ≥ 48 then (if a0 ≤ 57 then (some true) else (if a0 ≥ 97 then (if a0 ≤ 122 then (some true) else (if a0 ≥ 65 then (some (decide (a0 ≤ 90))) else (some false))) else (if a0 ≥ 65 then (some (decide (a0 ≤ 90))) else (some false)))) else (if a0 ≥ 97 then (if a0 ≤ 122 then (some true) else (if a0 ≥ 65 then (some (decide (a0 ≤ 90))) else (some false))) else (if a0 ≥ 65 then (some (decide (a0 ≤ 90))) else (some false))))) = some r := h
  clear h
  by_cases c2 : a0 = 95
  · rw [if_pos c2] at H
    have c2b0 : (a0 == 95) = true := beq_iff_eq.mpr c2
    have c2b1 : (a0 != 95) = false := bne_eq_false_iff_eq.mpr c2
    clear c2
    obtain rfl := Option.some.inj H
    go_enter Tryd.func107, Tryd.ntmps107
    go_wp2
    go_ret
    exact ⟨by first | rfl | (simp; done) | (simp [*]; done), by repeat (first | exact Drawn0.refl _ | apply Drawn0.step)⟩
  · rw [if_neg c2] at H
    have c2b0 : (a0 == 95) = false := beq_eq_false_iff_ne.mpr c2
    have c2b1 : (a0 != 95) = true := bne_iff_ne.mpr c2
    by_cases c3 : a0 ≥ 48
    · rw [if_pos c3] at H
      have c3b0 : decide (48 ≤ a0) = true := decide_eq_true c3
      clear c3
      by_cases c4 : a0 ≤ 57
      · rw [if_pos c4] at H
        have c4b0 : decide (a0 ≤ 57) = true := decide_eq_true c4
        clear c4
        obtain rfl := Option.some.inj H
        go_enter Tryd.func107, Tryd.ntmps107
        go_wp2
        go_ret
        exact ⟨by first | rfl | (simp; done) | (simp [*]; done), by repeat (first | exact Drawn0.refl _ | apply Drawn0.step)⟩
      · rw [if_neg c4] at H
        have c4b0 : decide (a0 ≤ 57) = false := decide_eq_false c4
        clear c4
        by_cases c5 : a0 ≥ 97
        · rw [if_pos c5] at H
          have c5b0 : decide (97 ≤ a0) = true := decide_eq_true c5
          clear c5
          by_cases c6 : a0 ≤ 122
          · rw [if_pos c6] at H
            have c6b0 : decide (a0 ≤ 122) = true := decide_eq_true c6
            clear c6
            obtain rfl := Option.some.inj H
            go_enter Tryd.func107, Tryd.ntmps107
            go_wp2
            go_ret
            exact ⟨by first | rfl | (simp; done) | (simp [*]; done), by repeat (first | exact Drawn0.refl _ | apply Drawn0.step)⟩
          · rw [if_neg c6] at H
            have c6b0 : decide (a0 ≤ 122) = false := decide_eq_false c6
            clear c6
            by_cases c7 : a0 ≥ 65
            · rw [if_pos c7] at H
              have c7b0 : decide (65 ≤ a0) = true := decide_eq_true c7
              clear c7
              obtain rfl := Option.some.inj H
              go_enter Tryd.func107, Tryd.ntmps107
              go_wp2
              go_ret
              exact ⟨by first | rfl | (simp; done) | (simp [*]; done), by repeat (first | exact Drawn0.refl _ | apply Drawn0.step)⟩
            · rw [if_neg c7] at H
              have c7b0 : decide (65 ≤ a0) = false := decide_eq_false c7
              clear c7
              obtain rfl := Option.some.inj H
              go_enter Tryd.func107, Tryd.ntmps107
              go_wp2
              go_ret
              exact ⟨by first | rfl | (simp; done) | (simp [*]; done), by repeat (first | exact Drawn0.refl _ | apply Drawn0.step)⟩
        · rw [if_neg c5] at H
          have c5b0 : decide (97 ≤ a0) = false := decide_eq_false c5
          clear c5
          by_cases c8 : a0 ≥ 65
          · rw [if_pos c8] at H
            have c8b0 : decide (65 ≤ a0) = true := decide_eq_true c8
            clear c8
            obtain rfl := Option.some.inj H
            go_enter Tryd.func107, Tryd.ntmps107
            go_wp2
            go_ret
            exact ⟨by first | rfl | (simp; done) | (simp [*]; done), by repeat (first | exact Drawn0.refl _ | apply Drawn0.step)⟩
          · rw [if_neg c8] at H
            have c8b0 : decide (65 ≤ a0) = false := decide_eq_false c8
            clear c8
            obtain rfl := Option.some.inj H
            go_enter Tryd.func107, Tryd.ntmps107
            go_wp2
            go_ret
            exact ⟨by first | rfl | (simp; done) | (simp [*]; done), by repeat (first | exact Drawn0.refl _ | apply Drawn0.step)⟩
    · rw [if_neg c3] at H
      have c3b0 : decide (48 ≤ a0) = false := decide_eq_false c3
      clear c3
      by_cases c9 : a0 ≥ 97
      · rw [if_pos c9] at H
        have c9b0 : decide (97 ≤ a0) = true := decide_eq_true c9
        clear c9
        by_cases c10 : a0 ≤ 122
        · rw [if_pos c10] at H
          have c10b0 : decide (a0 ≤ 122) = true := decide_eq_true c10
          clear c10
          obtain rfl := Option.some.inj H
          go_enter Tryd.func107, Tryd.ntmps107
          go_wp2
          go_ret
          exact ⟨by first | rfl | (simp; done) | (simp [*]; done), by repeat (first | exact Drawn0.refl _ | apply Drawn0.step)⟩
        · rw [if_neg c10] at H
          have c10b0 : decide (a0 ≤ 122) = false := decide_eq_false c10
          clear c10
          by_cases c11 : a0 ≥ 65
          · rw [if_pos c11] at H
            have c11b0 : decide (65 ≤ a0) = true := decide_eq_true c11
            clear c11
            obtain rfl := Option.some.inj H
            go_enter Tryd.func107, Tryd.ntmps107
            go_wp2
            go_ret
            exact ⟨by first | rfl | (simp; done) | (simp [*]; done), by repeat (first | exact Drawn0.refl _ | apply Drawn0.step)⟩
          · rw [if_neg c11] at H
            have c11b0 : decide (65 ≤ a0) = false := decide_eq_false c11
            clear c11
            obtain rfl := Option.some.inj H
            go_enter Tryd.func107, Tryd.ntmps107
            go_wp2
            go_ret
            exact ⟨by first | rfl | (simp; done) | (simp [*]; done), by repeat (first | exact Drawn0.refl _ | apply Drawn0.step)⟩
      · rw [if_neg c9] at H
        have c9b0 : decide (97 ≤ a0) = false := decide_eq_false c9
        clear c9
        by_cases c12 : a0 ≥ 65
        · rw [if_pos c12] at H
          have c12b0 : decide (65 ≤ a0) = true := decide_eq_true c12
          clear c12
          obtain rfl := Option.some.inj H
          go_enter Tryd.func107, Tryd.ntmps107
          go_wp2
          go_ret
          exact ⟨by first | rfl | (simp; done) | (simp [*]; done), by repeat (first | exact Drawn0.refl _ | apply Drawn0.step)⟩
        · rw [if_neg c12] at H
          have c12b0 : decide (65 ≤ a0) = false := decide_eq_false c12
          clear c12
          obtain rfl := Option.some.inj H
          go_enter Tryd.func107, Tryd.ntmps107
          go_wp2
          go_ret
          exact ⟨by first | rfl | (simp; done) | (simp [*]; done), by repeat (first | exact Drawn0.refl _ | apply Drawn0.step)⟩
def epactref04_number.l0 : Nat → ByteArray → Int → Int → Option (Int)
  | 0, _, _, _ => none
  | k + 1, x0, x3, x4 => if x4 < (x0.size : Int) then (if 0 ≤ x4 then (if (bt x0 x4) < 48 then (some (-1)) else (if (bt x0 x4) > 57 then (some (-1)) else (epactref04_number.l0 k x0 (wrap64 ((wrap64 (x3 * 10)) + (((bt x0 x4) - 48) % 256))) (wrap64 (x4 + 1))))) else (none)) else (some x3)
def epactref04_number.f (k : Nat) (a0 : ByteArray) : Option (Int) := epactref04_number.l0 k a0 0 0
set_option maxHeartbeats 8000000 in
set_option maxRecDepth 100000 in
theorem epactref04_number.calls (k : Nat) (a0 : ByteArray) (r : Int) (w : World) (h : epactref04_number.f k a0 = some r) :
    Calls Tryd.prog 122 #[.string a0] w fun e w' => e = .returned (.int .i64 r) ∧ Drawn0 w w' := by
  have H : (epactref04_number.l0 k a0 0 0) = some r := h
  clear h
  have H' := Aside0.mk H
  clear H
  go_enter Tryd.func122, Tryd.ntmps122
  go_wp2
  go_loopg [3, 4] k (fun kq v3 v4 w' => ∃ (x3_1 : Int) (x4_1 : Int), v3 = .int .i64 x3_1 ∧ v4 = .int .i64 x4_1 ∧ Aside0 (epactref04_number.l0 kq a0 x3_1 x4_1 = some r) ∧ Aside0 (kq ≤ k) ∧ Drawn0 w w')
  case atStart => exact ⟨(0), (0), (by first | rfl | (simp; done) | (simp [*]; done)), (by first | rfl | (simp; done) | (simp [*]; done)), H', ⟨Nat.le_refl _⟩, by repeat (first | exact Drawn0.refl _ | apply Drawn0.step)⟩
  case round =>
    clear H'
    try clear c1
    obtain ⟨x3_1, x4_1, rfl, rfl, HA, HK1, ⟨m1, rfl⟩⟩ := hrel
    cases gk with
    | zero => exact absurd HA.out (by simp [epactref04_number.l0])
    | succ k1 =>
      have H := HA.out
      clear HA
      simp only [epactref04_number.l0] at H
      by_cases c2 : x4_1 < (a0.size : Int)
      · rw [if_pos c2] at H
        have c2b0 : decide (x4_1 < (a0.size : Int)) = true := decide_eq_true c2
        clear c2
        by_cases c3 : 0 ≤ x4_1
        · rw [if_pos c3] at H
          have c3b0 : decide (0 ≤ x4_1) = true := decide_eq_true c3
          clear c3
          by_cases c5 : (bt a0 x4_1) < 48
          · rw [if_pos c5] at H
            have c5b0 : decide ((bt a0 x4_1) < 48) = true := decide_eq_true c5
            clear c5
            obtain rfl := Option.some.inj H
            have p4 : 0 ≤ (x4_1 : Int) := of_decide_eq_true (by first | (with_reducible assumption) | assumption)
            have q4 : x4_1 < (a0.size : Int) := of_decide_eq_true (by first | (with_reducible assumption) | assumption)
            have hx4 := bt_at a0 x4_1
            replace p4 := eq_true p4
            replace q4 := eq_true q4
            go_wp2
            go_ret
            exact ⟨by first | rfl | (simp; done) | (simp [*]; done), by repeat (first | exact Drawn0.refl _ | apply Drawn0.step)⟩
          · rw [if_neg c5] at H
            have c5b0 : decide ((bt a0 x4_1) < 48) = false := decide_eq_false c5
            clear c5
            by_cases c7 : (bt a0 x4_1) > 57
            · rw [if_pos c7] at H
              have c7b0 : decide (57 < (bt a0 x4_1)) = true := decide_eq_true c7
              clear c7
              obtain rfl := Option.some.inj H
              have p4 : 0 ≤ (x4_1 : Int) := of_decide_eq_true (by first | (with_reducible assumption) | assumption)
              have q4 : x4_1 < (a0.size : Int) := of_decide_eq_true (by first | (with_reducible assumption) | assumption)
              have hx4 := bt_at a0 x4_1
              replace p4 := eq_true p4
              replace q4 := eq_true q4
              have p6 : 0 ≤ (x4_1 : Int) := of_decide_eq_true (by first | (with_reducible assumption) | assumption)
              have q6 : x4_1 < (a0.size : Int) := of_decide_eq_true (by first | (with_reducible assumption) | assumption)
              have hx6 := bt_at a0 x4_1
              replace p6 := eq_true p6
              replace q6 := eq_true q6
              go_wp2
              go_ret
              exact ⟨by first | rfl | (simp; done) | (simp [*]; done), by repeat (first | exact Drawn0.refl _ | apply Drawn0.step)⟩
            · rw [if_neg c7] at H
              have c7b0 : decide (57 < (bt a0 x4_1)) = false := decide_eq_false c7
              clear c7
              have H' := Aside0.mk H
              clear H
              have p4 : 0 ≤ (x4_1 : Int) := of_decide_eq_true (by first | (with_reducible assumption) | assumption)
              have q4 : x4_1 < (a0.size : Int) := of_decide_eq_true (by first | (with_reducible assumption) | assumption)
              have hx4 := bt_at a0 x4_1
              replace p4 := eq_true p4
              replace q4 := eq_true q4
              have p6 : 0 ≤ (x4_1 : Int) := of_decide_eq_true (by first | (with_reducible assumption) | assumption)
              have q6 : x4_1 < (a0.size : Int) := of_decide_eq_true (by first | (with_reducible assumption) | assumption)
              have hx6 := bt_at a0 x4_1
              replace p6 := eq_true p6
              replace q6 := eq_true q6
              have p8 : 0 ≤ (x4_1 : Int) := of_decide_eq_true (by first | (with_reducible assumption) | assumption)
              have q8 : x4_1 < (a0.size : Int) := of_decide_eq_true (by first | (with_reducible assumption) | assumption)
              have hx8 := bt_at a0 x4_1
              replace p8 := eq_true p8
              replace q8 := eq_true q8
              go_wp2
              go_roundg k1
              case measure => have := HK1.out; omega
              case rel => exact ⟨(wrap64 ((wrap64 (x3_1 * 10)) + (((bt a0 x4_1) - 48) % 256))), (wrap64 (x4_1 + 1)), (by first | rfl | (simp; done) | (simp [*]; done)), (by first | rfl | (simp; done) | (simp [*]; done)), H', ⟨by have := HK1.out; omega⟩, by repeat (first | exact Drawn0.refl _ | apply Drawn0.step)⟩
        · rw [if_neg c3] at H
          exact absurd H (by simp)
      · rw [if_neg c2] at H
        have c2b0 : decide (x4_1 < (a0.size : Int)) = false := decide_eq_false c2
        clear c2
        obtain rfl := Option.some.inj H
        go_wp2
        go_ret
        exact ⟨by first | rfl | (simp; done) | (simp [*]; done), by repeat (first | exact Drawn0.refl _ | apply Drawn0.step)⟩
end Go.Proofs.YtjeofffddbibeaaDoor.PParseTells
end

section
namespace Go.Proofs.YtjeofffddbibeaaDoor.PParseTells
open Go.RowKit Go.Proofs.YtjeofffddbibeaaDoorW.PrintWords Go.Proofs.YtjeofffddbibeaaDoorW.PrintLast Go.Proofs.YtjeofffddbibeaaDoorW.PrintMore
attribute [local go_sem] max2_int min2_int max_two min_two max_three min_three max_four min_four   -- for this text's walks alone
set_option linter.unusedVariables false
set_option linter.unusedSimpArgs false
def epactref03_Leap.f (a0 : Int) : Option (Bool) := if (Int.tmod a0 400) = 0 then (some true) else (if (Int.tmod a0 4) = 0 then (some ((Int.tmod a0 100) != 0)) else (some false))
set_option maxHeartbeats 8000000 in
set_option maxRecDepth 100000 in
theorem epactref03_Leap.calls (a0 : Int) (r : Bool) (w : World) (h : epactref03_Leap.f a0 = some r) :
    Calls Tryd.prog 137 #[.int .i64 a0] w fun e w' => e = .returned (.bool r) ∧ Drawn0 w w' := by
  have H : (if (Int.tmod a0 400) = 0 then (some true) else (if (Int.tmod a0 4) = 0 then (some ((Int.tmod a0 100) != 0)) else (some false))) = some r := h
  clear h
  by_cases c2 : (Int.tmod a0 400) = 0
  · rw [if_pos c2] at H
    have c2b0 : ((Int.tmod a0 400) == 0) = true := beq_iff_eq.mpr c2
    have c2b1 : ((Int.tmod a0 400) != 0) = false := bne_eq_false_iff_eq.mpr c2
    clear c2
    obtain rfl := Option.some.inj H
    go_enter Tryd.func137, Tryd.ntmps137
    go_wp2
    go_ret
    exact ⟨by first | rfl | (simp; done) | (simp [*]; done), by repeat (first | exact Drawn0.refl _ | apply Drawn0.step)⟩
  · rw [if_neg c2] at H
    have c2b0 : ((Int.tmod a0 400) == 0) = false := beq_eq_false_iff_ne.mpr c2
    have c2b1 : ((Int.tmod a0 400) != 0) = true := bne_iff_ne.mpr c2
    by_cases c3 : (Int.tmod a0 4) = 0
    · rw [if_pos c3] at H
      have c3b0 : ((Int.tmod a0 4) == 0) = true := beq_iff_eq.mpr c3
      have c3b1 : ((Int.tmod a0 4) != 0) = false := bne_eq_false_iff_eq.mpr c3
      clear c3
      obtain rfl := Option.some.inj H
      go_enter Tryd.func137, Tryd.ntmps137
      go_wp2
      go_ret
      exact ⟨by first | rfl | (simp; done) | (simp [*]; done), by repeat (first | exact Drawn0.refl _ | apply Drawn0.step)⟩
    · rw [if_neg c3] at H
      have c3b0 : ((Int.tmod a0 4) == 0) = false := beq_eq_false_iff_ne.mpr c3
      have c3b1 : ((Int.tmod a0 4) != 0) = true := bne_iff_ne.mpr c3
      obtain rfl := Option.some.inj H
      go_enter Tryd.func137, Tryd.ntmps137
      go_wp2
      go_ret
      exact ⟨by first | rfl | (simp; done) | (simp [*]; done), by repeat (first | exact Drawn0.refl _ | apply Drawn0.step)⟩
def epactref03_Length.j0 : Nat → Int → Bool → Option (Int)
  | 0, _, _ => none
  | k + 1, x5, x10 => if x10 = true then (some 30) else (if x5 = 1 then (some 31) else (if x5 = 3 then (some 31) else (if x5 = 5 then (some 31) else (if x5 = 7 then (some 31) else (if x5 = 8 then (some 31) else (if x5 = 10 then (some 31) else (if x5 = 12 then (some 31) else (some 0))))))))
def epactref03_Length.f (k : Nat) (a0 : Int) (a1 : Int) : Option (Int) := if a1 = 2 then ((epactref03_Leap.f a0).bind fun t147 => (if t147 = true then (some 29) else (some 28))) else (if a1 = 4 then (epactref03_Length.j0 k a1 (a1 == 4)) else (if a1 = 6 then (epactref03_Length.j0 k a1 (a1 == 6)) else (if a1 = 9 then (epactref03_Length.j0 k a1 (a1 == 9)) else (epactref03_Length.j0 k a1 (a1 == 11)))))
set_option maxHeartbeats 8000000 in
set_option maxRecDepth 100000 in
theorem epactref03_Length.calls (k : Nat) (a0 : Int) (a1 : Int) (r : Int) (w : World) (h : epactref03_Length.f k a0 a1 = some r) :
    Calls Tryd.prog 129 #[.int .i64 a0, .int .i64 a1] w fun e w' => e = .returned (.int .i64 r) ∧ Drawn0 w w' := by
  have H : (if a1 = 2 then ((epactref03_Leap.f a0).bind fun t147 => (if t147 = true then (some 29) else (some 28))) else (if a1 = 4 then (epactref03_Length.j0 k a1 (a1 == 4)) else (if a1 = 6 then (epactref03_Length.j0 k a1 (a1 == 6)) else (if a1 = 9 then (epactref03_Length.j0 k a1 (a1 == 9)) else (epactref03_Length.j0 k a1 (a1 == 11)))))) = some r := h
  clear h
  by_cases c3 : a1 = 2
  · rw [if_pos c3] at H
    have c3b0 : (a1 == 2) = true := beq_iff_eq.mpr c3
    have c3b1 : (a1 != 2) = false := bne_eq_false_iff_eq.mpr c3
    clear c3
    replace H := Option.bind_eq_some_iff.mp H
    obtain ⟨t147, A40, H⟩ := H
    replace H : (if t147 = true then (some 29) else (some 28)) = some r := H
    have A4 := Aside0.mk A40
    clear A40
    by_cases c5 : t147 = true
    · subst c5
      have H1 : (some 29) = some r := by rw [if_pos rfl] at H; exact H
      clear H
      have H := H1
      clear H1
      obtain rfl := Option.some.inj H
      go_enter Tryd.func129, Tryd.ntmps129
      go_wp2_with (first | ((with_reducible refine gate_callee (f := 137) rfl ?_); refine goesL_ (some 9) rfl rfl Tryd.func137 (by kernel_rfl) rfl #[.int .i64 a0] rfl (by (try simp only [List.map_toArray, List.map_cons, List.map_nil]); first | done | rfl | (simp only [List.length_drop, List.length_take]; rfl)) ?_; (with_reducible refine (epactref03_Leap.calls a0 true _ A4.out).mono ?_); rintro e w' ⟨rfl, ⟨nd, rfl⟩⟩; refine ⟨_, rfl, ?_⟩))
      go_ret
      exact ⟨by first | rfl | (simp; done) | (simp [*]; done), by repeat (first | exact Drawn0.refl _ | apply Drawn0.step)⟩
    · replace c5 := Bool.eq_false_iff.mpr c5
      subst c5
      have H1 : (some 28) = some r := by rw [if_neg (show ¬ (false = true) by decide)] at H; exact H
      clear H
      have H := H1
      clear H1
      obtain rfl := Option.some.inj H
      go_enter Tryd.func129, Tryd.ntmps129
      go_wp2_with (first | ((with_reducible refine gate_callee (f := 137) rfl ?_); refine goesL_ (some 9) rfl rfl Tryd.func137 (by kernel_rfl) rfl #[.int .i64 a0] rfl (by (try simp only [List.map_toArray, List.map_cons, List.map_nil]); first | done | rfl | (simp only [List.length_drop, List.length_take]; rfl)) ?_; (with_reducible refine (epactref03_Leap.calls a0 false _ A4.out).mono ?_); rintro e w' ⟨rfl, ⟨nd, rfl⟩⟩; refine ⟨_, rfl, ?_⟩))
      go_ret
      exact ⟨by first | rfl | (simp; done) | (simp [*]; done), by repeat (first | exact Drawn0.refl _ | apply Drawn0.step)⟩
  · rw [if_neg c3] at H
    have c3b0 : (a1 == 2) = false := beq_eq_false_iff_ne.mpr c3
    have c3b1 : (a1 != 2) = true := bne_iff_ne.mpr c3
    have HC6 := Aside0.mk H
    clear H
    go_enter Tryd.func129, Tryd.ntmps129
    go_upto_if 10 with (fail)
    go_cut [10] (fun v10 wc => ∃ (kq : Nat) (x10_5 : Bool), v10 = .bool x10_5 ∧ Aside0 (epactref03_Length.j0 kq a1 x10_5 = some r) ∧ Aside0 (kq ≤ k) ∧ Drawn0 w wc)
    case first =>
      have H := HC6.out
      clear HC6
      by_cases c7 : a1 = 4
      · rw [if_pos c7] at H
        have c7b0 : (a1 == 4) = true := beq_iff_eq.mpr c7
        have c7b1 : (a1 != 4) = false := bne_eq_false_iff_eq.mpr c7
        clear c7
        (first | rw [c7b0] | (simp only [i64_w, i32_w]; rw [c7b0]) | skip)
        have H' := Aside0.mk H
        clear H
        go_wp2
        go_meet
        case rel => exact ⟨_, ((a1 == 4)), (by first | rfl | (simp; done) | (simp [*]; done)), H', ⟨by first | omega | exact Nat.le_refl _⟩, by repeat (first | exact Drawn0.refl _ | apply Drawn0.step)⟩
      · rw [if_neg c7] at H
        have c7b0 : (a1 == 4) = false := beq_eq_false_iff_ne.mpr c7
        have c7b1 : (a1 != 4) = true := bne_iff_ne.mpr c7
        (first | rw [c7b0] | (simp only [i64_w, i32_w]; rw [c7b0]) | skip)
        by_cases c8 : a1 = 6
        · rw [if_pos c8] at H
          have c8b0 : (a1 == 6) = true := beq_iff_eq.mpr c8
          have c8b1 : (a1 != 6) = false := bne_eq_false_iff_eq.mpr c8
          clear c8
          have H' := Aside0.mk H
          clear H
          go_wp2
          go_meet
          case rel => exact ⟨_, ((a1 == 6)), (by first | rfl | (simp; done) | (simp [*]; done)), H', ⟨by first | omega | exact Nat.le_refl _⟩, by repeat (first | exact Drawn0.refl _ | apply Drawn0.step)⟩
        · rw [if_neg c8] at H
          have c8b0 : (a1 == 6) = false := beq_eq_false_iff_ne.mpr c8
          have c8b1 : (a1 != 6) = true := bne_iff_ne.mpr c8
          by_cases c9 : a1 = 9
          · rw [if_pos c9] at H
            have c9b0 : (a1 == 9) = true := beq_iff_eq.mpr c9
            have c9b1 : (a1 != 9) = false := bne_eq_false_iff_eq.mpr c9
            clear c9
            have H' := Aside0.mk H
            clear H
            go_wp2
            go_meet
            case rel => exact ⟨_, ((a1 == 9)), (by first | rfl | (simp; done) | (simp [*]; done)), H', ⟨by first | omega | exact Nat.le_refl _⟩, by repeat (first | exact Drawn0.refl _ | apply Drawn0.step)⟩
          · rw [if_neg c9] at H
            have c9b0 : (a1 == 9) = false := beq_eq_false_iff_ne.mpr c9
            have c9b1 : (a1 != 9) = true := bne_iff_ne.mpr c9
            have H' := Aside0.mk H
            clear H
            go_wp2
            go_meet
            case rel => exact ⟨_, ((a1 == 11)), (by first | rfl | (simp; done) | (simp [*]; done)), H', ⟨by first | omega | exact Nat.le_refl _⟩, by repeat (first | exact Drawn0.refl _ | apply Drawn0.step)⟩
    case rest =>
      clear HC6
      try clear c1
      try clear p2
      try clear c3
      try clear c3b0
      try clear c3b1
      try clear c5
      try clear c7
      try clear c7b0
      try clear c7b1
      try clear c8
      try clear c8b0
      try clear c8b1
      try clear c9
      try clear c9b0
      try clear c9b1
      obtain ⟨kq, x10_5, rfl, HA, HJ5, ⟨mc5, rfl⟩⟩ := hcut
      cases kq with
      | zero => exact absurd HA.out (by simp [epactref03_Length.j0])
      | succ kj5 =>
        have H := HA.out
        clear HA
        simp only [epactref03_Length.j0] at H
        by_cases c10 : x10_5 = true
        · subst c10
          have H1 : (some 30) = some r := by rw [if_pos rfl] at H; exact H
          clear H
          have H := H1
          clear H1
          obtain rfl := Option.some.inj H
          go_wp2
          go_ret
          exact ⟨by first | rfl | (simp; done) | (simp [*]; done), by repeat (first | exact Drawn0.refl _ | apply Drawn0.step)⟩
        · replace c10 := Bool.eq_false_iff.mpr c10
          subst c10
          have H1 : (if a1 = 1 then (some 31) else (if a1 = 3 then (some 31) else (if a1 = 5 then (some 31) else (if a1 = 7 then (some 31) else (if a1 = 8 then (some 31) else (if a1 = 10 then (some 31) else (if a1 = 12 then (some 31) else (some 0)))))))) = some r := by rw [if_neg (show ¬ (false = true) by decide)] at H; exact H
          clear H
          have H := H1
          clear H1
          by_cases c11 : a1 = 1
          · rw [if_pos c11] at H
            have c11b0 : (a1 == 1) = true := beq_iff_eq.mpr c11
            have c11b1 : (a1 != 1) = false := bne_eq_false_iff_eq.mpr c11
            clear c11
            obtain rfl := Option.some.inj H
            go_wp2
            go_ret
            exact ⟨by first | rfl | (simp; done) | (simp [*]; done), by repeat (first | exact Drawn0.refl _ | apply Drawn0.step)⟩
          · rw [if_neg c11] at H
            have c11b0 : (a1 == 1) = false := beq_eq_false_iff_ne.mpr c11
            have c11b1 : (a1 != 1) = true := bne_iff_ne.mpr c11
            by_cases c12 : a1 = 3
            · rw [if_pos c12] at H
              have c12b0 : (a1 == 3) = true := beq_iff_eq.mpr c12
              have c12b1 : (a1 != 3) = false := bne_eq_false_iff_eq.mpr c12
              clear c12
              obtain rfl := Option.some.inj H
              go_wp2
              go_ret
              exact ⟨by first | rfl | (simp; done) | (simp [*]; done), by repeat (first | exact Drawn0.refl _ | apply Drawn0.step)⟩
            · rw [if_neg c12] at H
              have c12b0 : (a1 == 3) = false := beq_eq_false_iff_ne.mpr c12
              have c12b1 : (a1 != 3) = true := bne_iff_ne.mpr c12
              by_cases c13 : a1 = 5
              · rw [if_pos c13] at H
                have c13b0 : (a1 == 5) = true := beq_iff_eq.mpr c13
                have c13b1 : (a1 != 5) = false := bne_eq_false_iff_eq.mpr c13
                clear c13
                obtain rfl := Option.some.inj H
                go_wp2
                go_ret
                exact ⟨by first | rfl | (simp; done) | (simp [*]; done), by repeat (first | exact Drawn0.refl _ | apply Drawn0.step)⟩
              · rw [if_neg c13] at H
                have c13b0 : (a1 == 5) = false := beq_eq_false_iff_ne.mpr c13
                have c13b1 : (a1 != 5) = true := bne_iff_ne.mpr c13
                by_cases c14 : a1 = 7
                · rw [if_pos c14] at H
                  have c14b0 : (a1 == 7) = true := beq_iff_eq.mpr c14
                  have c14b1 : (a1 != 7) = false := bne_eq_false_iff_eq.mpr c14
                  clear c14
                  obtain rfl := Option.some.inj H
                  go_wp2
                  go_ret
                  exact ⟨by first | rfl | (simp; done) | (simp [*]; done), by repeat (first | exact Drawn0.refl _ | apply Drawn0.step)⟩
                · rw [if_neg c14] at H
                  have c14b0 : (a1 == 7) = false := beq_eq_false_iff_ne.mpr c14
                  have c14b1 : (a1 != 7) = true := bne_iff_ne.mpr c14
                  by_cases c15 : a1 = 8
                  · rw [if_pos c15] at H
                    have c15b0 : (a1 == 8) = true := beq_iff_eq.mpr c15
                    have c15b1 : (a1 != 8) = false := bne_eq_false_iff_eq.mpr c15
                    clear c15
                    obtain rfl := Option.some.inj H
                    go_wp2
                    go_ret
                    exact ⟨by first | rfl | (simp; done) | (simp [*]; done), by repeat (first | exact Drawn0.refl _ | apply Drawn0.step)⟩
                  · rw [if_neg c15] at H
                    have c15b0 : (a1 == 8) = false := beq_eq_false_iff_ne.mpr c15
                    have c15b1 : (a1 != 8) = true := bne_iff_ne.mpr c15
                    by_cases c16 : a1 = 10
                    · rw [if_pos c16] at H
                      have c16b0 : (a1 == 10) = true := beq_iff_eq.mpr c16
                      have c16b1 : (a1 != 10) = false := bne_eq_false_iff_eq.mpr c16
                      clear c16
                      obtain rfl := Option.some.inj H
                      go_wp2
                      go_ret
                      exact ⟨by first | rfl | (simp; done) | (simp [*]; done), by repeat (first | exact Drawn0.refl _ | apply Drawn0.step)⟩
                    · rw [if_neg c16] at H
                      have c16b0 : (a1 == 10) = false := beq_eq_false_iff_ne.mpr c16
                      have c16b1 : (a1 != 10) = true := bne_iff_ne.mpr c16
                      by_cases c17 : a1 = 12
                      · rw [if_pos c17] at H
                        have c17b0 : (a1 == 12) = true := beq_iff_eq.mpr c17
                        have c17b1 : (a1 != 12) = false := bne_eq_false_iff_eq.mpr c17
                        clear c17
                        obtain rfl := Option.some.inj H
                        go_wp2
                        go_ret
                        exact ⟨by first | rfl | (simp; done) | (simp [*]; done), by repeat (first | exact Drawn0.refl _ | apply Drawn0.step)⟩
                      · rw [if_neg c17] at H
                        have c17b0 : (a1 == 12) = false := beq_eq_false_iff_ne.mpr c17
                        have c17b1 : (a1 != 12) = true := bne_iff_ne.mpr c17
                        obtain rfl := Option.some.inj H
                        go_wp2
                        go_ret
                        exact ⟨by first | rfl | (simp; done) | (simp [*]; done), by repeat (first | exact Drawn0.refl _ | apply Drawn0.step)⟩
def epactref03_whole.f (a0 : Int) : Option (Int) := (epactref03_Leap.f a0).bind fun t148 => (if t148 = true then (some 366) else (some 365))
set_option maxHeartbeats 8000000 in
set_option maxRecDepth 100000 in
theorem epactref03_whole.calls (a0 : Int) (r : Int) (w : World) (h : epactref03_whole.f a0 = some r) :
    Calls Tryd.prog 138 #[.int .i64 a0] w fun e w' => e = .returned (.int .i64 r) ∧ Drawn0 w w' := by
  have H : ((epactref03_Leap.f a0).bind fun t148 => (if t148 = true then (some 366) else (some 365))) = some r := h
  clear h
  replace H := Option.bind_eq_some_iff.mp H
  obtain ⟨t148, A20, H⟩ := H
  replace H : (if t148 = true then (some 366) else (some 365)) = some r := H
  have A2 := Aside0.mk A20
  clear A20
  by_cases c3 : t148 = true
  · subst c3
    have H1 : (some 366) = some r := by rw [if_pos rfl] at H; exact H
    clear H
    have H := H1
    clear H1
    obtain rfl := Option.some.inj H
    go_enter Tryd.func138, Tryd.ntmps138
    go_wp2_with (first | ((with_reducible refine gate_callee (f := 137) rfl ?_); refine goesL_ (some 4) rfl rfl Tryd.func137 (by kernel_rfl) rfl #[.int .i64 a0] rfl (by (try simp only [List.map_toArray, List.map_cons, List.map_nil]); first | done | rfl | (simp only [List.length_drop, List.length_take]; rfl)) ?_; (with_reducible refine (epactref03_Leap.calls a0 true _ A2.out).mono ?_); rintro e w' ⟨rfl, ⟨nd, rfl⟩⟩; refine ⟨_, rfl, ?_⟩))
    go_ret
    exact ⟨by first | rfl | (simp; done) | (simp [*]; done), by repeat (first | exact Drawn0.refl _ | apply Drawn0.step)⟩
  · replace c3 := Bool.eq_false_iff.mpr c3
    subst c3
    have H1 : (some 365) = some r := by rw [if_neg (show ¬ (false = true) by decide)] at H; exact H
    clear H
    have H := H1
    clear H1
    obtain rfl := Option.some.inj H
    go_enter Tryd.func138, Tryd.ntmps138
    go_wp2_with (first | ((with_reducible refine gate_callee (f := 137) rfl ?_); refine goesL_ (some 4) rfl rfl Tryd.func137 (by kernel_rfl) rfl #[.int .i64 a0] rfl (by (try simp only [List.map_toArray, List.map_cons, List.map_nil]); first | done | rfl | (simp only [List.length_drop, List.length_take]; rfl)) ?_; (with_reducible refine (epactref03_Leap.calls a0 false _ A2.out).mono ?_); rintro e w' ⟨rfl, ⟨nd, rfl⟩⟩; refine ⟨_, rfl, ?_⟩))
    go_ret
    exact ⟨by first | rfl | (simp; done) | (simp [*]; done), by repeat (first | exact Drawn0.refl _ | apply Drawn0.step)⟩
mutual
def epactref03_begin.l0 : Nat → Int → Int → Int → Option (Int)
  | 0, _, _, _ => none
  | k + 1, x0, x3, x4 => if (wrap64 (x4 + 400)) ≤ x0 then (epactref03_begin.l0 k x0 (wrap64 (x3 + 146097)) (wrap64 (x4 + 400))) else (epactref03_begin.l1 k x0 x3 x4)
def epactref03_begin.l1 : Nat → Int → Int → Int → Option (Int)
  | 0, _, _, _ => none
  | k + 1, x0, x3, x4 => if (wrap64 (x4 - 400)) ≥ x0 then (epactref03_begin.l1 k x0 (wrap64 (x3 - 146097)) (wrap64 (x4 - 400))) else (epactref03_begin.l2 k x0 x3 x4)
def epactref03_begin.l2 : Nat → Int → Int → Int → Option (Int)
  | 0, _, _, _ => none
  | k + 1, x0, x3, x4 => if x4 < x0 then ((epactref03_whole.f x4).bind fun t149 => (epactref03_begin.l2 k x0 (wrap64 (x3 + t149)) (wrap64 (x4 + 1)))) else (epactref03_begin.l3 k x0 x3 x4)
def epactref03_begin.l3 : Nat → Int → Int → Int → Option (Int)
  | 0, _, _, _ => none
  | k + 1, x0, x3, x4 => if x4 > x0 then ((epactref03_whole.f (wrap64 (x4 - 1))).bind fun t150 => (epactref03_begin.l3 k x0 (wrap64 (x3 - t150)) (wrap64 (x4 - 1)))) else (some x3)
end
def epactref03_begin.f (k : Nat) (a0 : Int) : Option (Int) := epactref03_begin.l0 k a0 0 1970
set_option maxHeartbeats 8000000 in
set_option maxRecDepth 100000 in
theorem epactref03_begin.calls (k : Nat) (a0 : Int) (r : Int) (w : World) (h : epactref03_begin.f k a0 = some r) :
    Calls Tryd.prog 130 #[.int .i64 a0] w fun e w' => e = .returned (.int .i64 r) ∧ Drawn0 w w' := by
  have H : (epactref03_begin.l0 k a0 0 1970) = some r := h
  clear h
  have H' := Aside0.mk H
  clear H
  go_enter Tryd.func130, Tryd.ntmps130
  go_wp2
  go_loopg [3, 4] k (fun kq v3 v4 w' => ∃ (x3_1 : Int) (x4_1 : Int), v3 = .int .i64 x3_1 ∧ v4 = .int .i64 x4_1 ∧ Aside0 (epactref03_begin.l0 kq a0 x3_1 x4_1 = some r) ∧ Aside0 (kq ≤ k) ∧ Drawn0 w w')
  case atStart => exact ⟨(0), (1970), (by first | rfl | (simp; done) | (simp [*]; done)), (by first | rfl | (simp; done) | (simp [*]; done)), H', ⟨Nat.le_refl _⟩, by repeat (first | exact Drawn0.refl _ | apply Drawn0.step)⟩
  case round =>
    clear H'
    try clear c1
    obtain ⟨x3_1, x4_1, rfl, rfl, HA, HK1, ⟨m1, rfl⟩⟩ := hrel
    cases gk with
    | zero => exact absurd HA.out (by simp [epactref03_begin.l0])
    | succ k1 =>
      have H := HA.out
      clear HA
      simp only [epactref03_begin.l0] at H
      by_cases c2 : (wrap64 (x4_1 + 400)) ≤ a0
      · rw [if_pos c2] at H
        have c2b0 : decide ((wrap64 (x4_1 + 400)) ≤ a0) = true := decide_eq_true c2
        clear c2
        have H' := Aside0.mk H
        clear H
        go_wp2
        go_roundg k1
        case measure => have := HK1.out; omega
        case rel => exact ⟨(wrap64 (x3_1 + 146097)), (wrap64 (x4_1 + 400)), (by first | rfl | (simp; done) | (simp [*]; done)), (by first | rfl | (simp; done) | (simp [*]; done)), H', ⟨by have := HK1.out; omega⟩, by repeat (first | exact Drawn0.refl _ | apply Drawn0.step)⟩
      · rw [if_neg c2] at H
        have c2b0 : decide ((wrap64 (x4_1 + 400)) ≤ a0) = false := decide_eq_false c2
        clear c2
        have H' := Aside0.mk H
        clear H
        go_wp2
        go_loopg [3, 4] k1 (fun kq v3 v4 w' => ∃ (x3_2 : Int) (x4_2 : Int), v3 = .int .i64 x3_2 ∧ v4 = .int .i64 x4_2 ∧ Aside0 (epactref03_begin.l1 kq a0 x3_2 x4_2 = some r) ∧ Aside0 (kq ≤ k1) ∧ Drawn0 w w')
        case atStart => exact ⟨(x3_1), (x4_1), (by first | rfl | (simp; done) | (simp [*]; done)), (by first | rfl | (simp; done) | (simp [*]; done)), H', ⟨Nat.le_refl _⟩, by repeat (first | exact Drawn0.refl _ | apply Drawn0.step)⟩
        case round =>
          clear H'
          try clear c1
          try clear c2
          try clear c2b0
          try clear p2
          obtain ⟨x3_2, x4_2, rfl, rfl, HA, HK2, ⟨m2, rfl⟩⟩ := hrel
          cases gk with
          | zero => exact absurd HA.out (by simp [epactref03_begin.l1])
          | succ k2 =>
            have H := HA.out
            clear HA
            simp only [epactref03_begin.l1] at H
            by_cases c3 : (wrap64 (x4_2 - 400)) ≥ a0
            · rw [if_pos c3] at H
              have c3b0 : decide (a0 ≤ (wrap64 (x4_2 - 400))) = true := decide_eq_true c3
              clear c3
              have H' := Aside0.mk H
              clear H
              go_wp2
              go_roundg k2
              case measure => have := HK1.out; have := HK2.out; omega
              case rel => exact ⟨(wrap64 (x3_2 - 146097)), (wrap64 (x4_2 - 400)), (by first | rfl | (simp; done) | (simp [*]; done)), (by first | rfl | (simp; done) | (simp [*]; done)), H', ⟨by have := HK1.out; have := HK2.out; omega⟩, by repeat (first | exact Drawn0.refl _ | apply Drawn0.step)⟩
            · rw [if_neg c3] at H
              have c3b0 : decide (a0 ≤ (wrap64 (x4_2 - 400))) = false := decide_eq_false c3
              clear c3
              have H' := Aside0.mk H
              clear H
              go_wp2
              go_loopg [3, 4] k2 (fun kq v3 v4 w' => ∃ (x3_3 : Int) (x4_3 : Int), v3 = .int .i64 x3_3 ∧ v4 = .int .i64 x4_3 ∧ Aside0 (epactref03_begin.l2 kq a0 x3_3 x4_3 = some r) ∧ Aside0 (kq ≤ k2) ∧ Drawn0 w w')
              case atStart => exact ⟨(x3_2), (x4_2), (by first | rfl | (simp; done) | (simp [*]; done)), (by first | rfl | (simp; done) | (simp [*]; done)), H', ⟨Nat.le_refl _⟩, by repeat (first | exact Drawn0.refl _ | apply Drawn0.step)⟩
              case round =>
                clear H'
                try clear c1
                try clear c2
                try clear c2b0
                try clear p2
                try clear c3
                try clear c3b0
                try clear p2
                obtain ⟨x3_3, x4_3, rfl, rfl, HA, HK3, ⟨m3, rfl⟩⟩ := hrel
                cases gk with
                | zero => exact absurd HA.out (by simp [epactref03_begin.l2])
                | succ k3 =>
                  have H := HA.out
                  clear HA
                  simp only [epactref03_begin.l2] at H
                  by_cases c4 : x4_3 < a0
                  · rw [if_pos c4] at H
                    have c4b0 : decide (x4_3 < a0) = true := decide_eq_true c4
                    clear c4
                    replace H := Option.bind_eq_some_iff.mp H
                    obtain ⟨t149, A50, H⟩ := H
                    replace H : (epactref03_begin.l2 k3 a0 (wrap64 (x3_3 + t149)) (wrap64 (x4_3 + 1))) = some r := H
                    have A5 := Aside0.mk A50
                    clear A50
                    have H' := Aside0.mk H
                    clear H
                    go_wp2_with (first | ((with_reducible refine gate_callee (f := 138) rfl ?_); refine goesL_ (some 26) rfl rfl Tryd.func138 (by kernel_rfl) rfl #[.int .i64 x4_3] rfl (by (try simp only [List.map_toArray, List.map_cons, List.map_nil]); first | done | rfl | (simp only [List.length_drop, List.length_take]; rfl)) ?_; (with_reducible refine (epactref03_whole.calls x4_3 t149 _ A5.out).mono ?_); rintro e w' ⟨rfl, ⟨nd, rfl⟩⟩; refine ⟨_, rfl, ?_⟩))
                    go_roundg k3
                    case measure => have := HK1.out; have := HK2.out; have := HK3.out; omega
                    case rel => exact ⟨(wrap64 (x3_3 + t149)), (wrap64 (x4_3 + 1)), (by first | rfl | (simp; done) | (simp [*]; done)), (by first | rfl | (simp; done) | (simp [*]; done)), H', ⟨by have := HK1.out; have := HK2.out; have := HK3.out; omega⟩, by repeat (first | exact Drawn0.refl _ | apply Drawn0.step)⟩
                  · rw [if_neg c4] at H
                    have c4b0 : decide (x4_3 < a0) = false := decide_eq_false c4
                    clear c4
                    have H' := Aside0.mk H
                    clear H
                    go_wp2
                    go_loopg [3, 4] k3 (fun kq v3 v4 w' => ∃ (x3_4 : Int) (x4_4 : Int), v3 = .int .i64 x3_4 ∧ v4 = .int .i64 x4_4 ∧ Aside0 (epactref03_begin.l3 kq a0 x3_4 x4_4 = some r) ∧ Aside0 (kq ≤ k3) ∧ Drawn0 w w')
                    case atStart => exact ⟨(x3_3), (x4_3), (by first | rfl | (simp; done) | (simp [*]; done)), (by first | rfl | (simp; done) | (simp [*]; done)), H', ⟨Nat.le_refl _⟩, by repeat (first | exact Drawn0.refl _ | apply Drawn0.step)⟩
                    case round =>
                      clear H'
                      try clear c1
                      try clear c2
                      try clear c2b0
                      try clear p2
                      try clear c3
                      try clear c3b0
                      try clear c4
                      try clear c4b0
                      try clear p2
                      obtain ⟨x3_4, x4_4, rfl, rfl, HA, HK4, ⟨m4, rfl⟩⟩ := hrel
                      cases gk with
                      | zero => exact absurd HA.out (by simp [epactref03_begin.l3])
                      | succ k4 =>
                        have H := HA.out
                        clear HA
                        simp only [epactref03_begin.l3] at H
                        by_cases c6 : x4_4 > a0
                        · rw [if_pos c6] at H
                          have c6b0 : decide (a0 < x4_4) = true := decide_eq_true c6
                          clear c6
                          replace H := Option.bind_eq_some_iff.mp H
                          obtain ⟨t150, A70, H⟩ := H
                          replace H : (epactref03_begin.l3 k4 a0 (wrap64 (x3_4 - t150)) (wrap64 (x4_4 - 1))) = some r := H
                          have A7 := Aside0.mk A70
                          clear A70
                          have H' := Aside0.mk H
                          clear H
                          go_wp2_with (first | ((with_reducible refine gate_callee (f := 138) rfl ?_); refine goesL_ (some 37) rfl rfl Tryd.func138 (by kernel_rfl) rfl #[.int .i64 (wrap64 (x4_4 - 1))] rfl (by (try simp only [List.map_toArray, List.map_cons, List.map_nil]); first | done | rfl | (simp only [List.length_drop, List.length_take]; rfl)) ?_; (with_reducible refine (epactref03_whole.calls (wrap64 (x4_4 - 1)) t150 _ A7.out).mono ?_); rintro e w' ⟨rfl, ⟨nd, rfl⟩⟩; refine ⟨_, rfl, ?_⟩))
                          go_roundg k4
                          case measure => have := HK1.out; have := HK2.out; have := HK3.out; have := HK4.out; omega
                          case rel => exact ⟨(wrap64 (x3_4 - t150)), (wrap64 (x4_4 - 1)), (by first | rfl | (simp; done) | (simp [*]; done)), (by first | rfl | (simp; done) | (simp [*]; done)), H', ⟨by have := HK1.out; have := HK2.out; have := HK3.out; have := HK4.out; omega⟩, by repeat (first | exact Drawn0.refl _ | apply Drawn0.step)⟩
                        · rw [if_neg c6] at H
                          have c6b0 : decide (a0 < x4_4) = false := decide_eq_false c6
                          clear c6
                          obtain rfl := Option.some.inj H
                          go_wp2
                          go_ret
                          exact ⟨by first | rfl | (simp; done) | (simp [*]; done), by repeat (first | exact Drawn0.refl _ | apply Drawn0.step)⟩
mutual
def epactref03_Days.j0 : Nat → Int → Int → Int → Bool → Option (Int × Int)
  | 0, _, _, _, _ => none
  | k + 1, x0, x1, x2, x26 => if x26 = true then (some (0, 30)) else ((epactref03_begin.f k x0).bind fun t152 => (epactref03_Days.l0 k x0 x1 x2 t152 1))
def epactref03_Days.l0 : Nat → Int → Int → Int → Int → Int → Option (Int × Int)
  | 0, _, _, _, _, _ => none
  | k + 1, x0, x1, x2, x8, x9 => if x9 < x1 then ((epactref03_Length.f k x0 x9).bind fun t153 => (epactref03_Days.l0 k x0 x1 x2 (wrap64 (x8 + t153)) (wrap64 (x9 + 1)))) else (some (wrap64 ((wrap64 (x8 + x2)) - 1), 0))
end
def epactref03_Days.f (k : Nat) (a0 : Int) (a1 : Int) (a2 : Int) : Option (Int × Int) := if a0 < (-9999) then (epactref03_Days.j0 k a0 a1 a2 true) else (if a0 > 9999 then (epactref03_Days.j0 k a0 a1 a2 true) else (if a2 < 1 then (epactref03_Days.j0 k a0 a1 a2 true) else ((epactref03_Length.f k a0 a1).bind fun t151 => (epactref03_Days.j0 k a0 a1 a2 (decide (a2 > t151))))))
set_option maxHeartbeats 8000000 in
set_option maxRecDepth 100000 in
theorem epactref03_Days.calls (k : Nat) (a0 : Int) (a1 : Int) (a2 : Int) (r1 : Int) (r2 : Int) (w : World) (h : epactref03_Days.f k a0 a1 a2 = some (r1, r2)) :
    Calls Tryd.prog 123 #[.int .i64 a0, .int .i64 a1, .int .i64 a2] w fun e w' => e = .returned (.tuple #[.int .i64 r1, .int .i64 r2]) ∧ Drawn0 w w' := by
  have H : (if a0 < (-9999) then (epactref03_Days.j0 k a0 a1 a2 true) else (if a0 > 9999 then (epactref03_Days.j0 k a0 a1 a2 true) else (if a2 < 1 then (epactref03_Days.j0 k a0 a1 a2 true) else ((epactref03_Length.f k a0 a1).bind fun t151 => (epactref03_Days.j0 k a0 a1 a2 (decide (a2 > t151))))))) = some (r1, r2) := h
  clear h
  have HC4 := Aside0.mk H
  clear H
  go_enter Tryd.func123, Tryd.ntmps123
  go_upto_region 1 with (fail)
  go_cut [26] (fun v26 wc => ∃ (kq : Nat) (x26_3 : Bool), v26 = .bool x26_3 ∧ Aside0 (epactref03_Days.j0 kq a0 a1 a2 x26_3 = some (r1, r2)) ∧ Aside0 (kq ≤ k) ∧ Drawn0 w wc)
  case first =>
    have H := HC4.out
    clear HC4
    by_cases c5 : a0 < (-9999)
    · rw [if_pos c5] at H
      have c5b0 : decide (a0 < (-9999)) = true := decide_eq_true c5
      clear c5
      (first | rw [c5b0] | (simp only [i64_w, i32_w]; rw [c5b0]) | skip)
      have H' := Aside0.mk H
      clear H
      go_wp2
      go_meet
      case rel => exact ⟨_, (true), (by first | rfl | (simp; done) | (simp [*]; done)), H', ⟨by first | omega | exact Nat.le_refl _⟩, by repeat (first | exact Drawn0.refl _ | apply Drawn0.step)⟩
    · rw [if_neg c5] at H
      have c5b0 : decide (a0 < (-9999)) = false := decide_eq_false c5
      clear c5
      (first | rw [c5b0] | (simp only [i64_w, i32_w]; rw [c5b0]) | skip)
      by_cases c6 : a0 > 9999
      · rw [if_pos c6] at H
        have c6b0 : decide (9999 < a0) = true := decide_eq_true c6
        clear c6
        have H' := Aside0.mk H
        clear H
        go_wp2
        go_meet
        case rel => exact ⟨_, (true), (by first | rfl | (simp; done) | (simp [*]; done)), H', ⟨by first | omega | exact Nat.le_refl _⟩, by repeat (first | exact Drawn0.refl _ | apply Drawn0.step)⟩
      · rw [if_neg c6] at H
        have c6b0 : decide (9999 < a0) = false := decide_eq_false c6
        clear c6
        by_cases c7 : a2 < 1
        · rw [if_pos c7] at H
          have c7b0 : decide (a2 < 1) = true := decide_eq_true c7
          clear c7
          have H' := Aside0.mk H
          clear H
          go_wp2
          go_meet
          case rel => exact ⟨_, (true), (by first | rfl | (simp; done) | (simp [*]; done)), H', ⟨by first | omega | exact Nat.le_refl _⟩, by repeat (first | exact Drawn0.refl _ | apply Drawn0.step)⟩
        · rw [if_neg c7] at H
          have c7b0 : decide (a2 < 1) = false := decide_eq_false c7
          clear c7
          replace H := Option.bind_eq_some_iff.mp H
          obtain ⟨t151, A80, H⟩ := H
          replace H : (epactref03_Days.j0 k a0 a1 a2 (decide (a2 > t151))) = some (r1, r2) := H
          have A8 := Aside0.mk A80
          clear A80
          have H' := Aside0.mk H
          clear H
          go_wp2_with (first | (go_at_call 129; (with_reducible refine (epactref03_Length.calls k a0 a1 t151 _ A8.out).mono ?_); rintro e w' ⟨rfl, ⟨nd, rfl⟩⟩))
          go_meet
          case rel => exact ⟨_, (decide (a2 > t151)), (by first | rfl | (simp; done) | (simp [*]; done)), H', ⟨by first | omega | exact Nat.le_refl _⟩, by repeat (first | exact Drawn0.refl _ | apply Drawn0.step)⟩
  case rest =>
    clear HC4
    try clear c1
    try clear p2
    try clear c5
    try clear c5b0
    try clear c6
    try clear c6b0
    try clear c7
    try clear c7b0
    obtain ⟨kq, x26_3, rfl, HA, HJ3, ⟨mc3, rfl⟩⟩ := hcut
    cases kq with
    | zero => exact absurd HA.out (by simp [epactref03_Days.j0])
    | succ kj3 =>
      have H := HA.out
      clear HA
      simp only [epactref03_Days.j0] at H
      by_cases c9 : x26_3 = true
      · subst c9
        have H1 : (some (0, 30)) = some (r1, r2) := by rw [if_pos rfl] at H; exact H
        clear H
        have H := H1
        clear H1
        simp only [Option.some.injEq, Prod.mk.injEq] at H
        obtain ⟨rfl, rfl⟩ := H
        go_wp2
        go_ret2
        exact ⟨by first | rfl | (simp; done) | (simp [*]; done), by repeat (first | exact Drawn0.refl _ | apply Drawn0.step)⟩
      · replace c9 := Bool.eq_false_iff.mpr c9
        subst c9
        have H1 : ((epactref03_begin.f kj3 a0).bind fun t152 => (epactref03_Days.l0 kj3 a0 a1 a2 t152 1)) = some (r1, r2) := by rw [if_neg (show ¬ (false = true) by decide)] at H; exact H
        clear H
        have H := H1
        clear H1
        replace H := Option.bind_eq_some_iff.mp H
        obtain ⟨t152, A100, H⟩ := H
        replace H : (epactref03_Days.l0 kj3 a0 a1 a2 t152 1) = some (r1, r2) := H
        have A10 := Aside0.mk A100
        clear A100
        have H' := Aside0.mk H
        clear H
        go_wp2_with (first | ((with_reducible refine gate_callee (f := 130) rfl ?_); refine goesL_ (some 28) rfl rfl Tryd.func130 (by kernel_rfl) rfl #[.int .i64 a0] rfl (by (try simp only [List.map_toArray, List.map_cons, List.map_nil]); first | done | rfl | (simp only [List.length_drop, List.length_take]; rfl)) ?_; (with_reducible refine (epactref03_begin.calls kj3 a0 t152 _ A10.out).mono ?_); rintro e w' ⟨rfl, ⟨nd, rfl⟩⟩; refine ⟨_, rfl, ?_⟩))
        go_loopg [8, 9] kj3 (fun kq v8 v9 w' => ∃ (x8_2 : Int) (x9_2 : Int), v8 = .int .i64 x8_2 ∧ v9 = .int .i64 x9_2 ∧ Aside0 (epactref03_Days.l0 kq a0 a1 a2 x8_2 x9_2 = some (r1, r2)) ∧ Aside0 (kq ≤ kj3) ∧ Drawn0 w w')
        case atStart => exact ⟨(t152), (1), (by first | rfl | (simp; done) | (simp [*]; done)), (by first | rfl | (simp; done) | (simp [*]; done)), H', ⟨Nat.le_refl _⟩, by repeat (first | exact Drawn0.refl _ | apply Drawn0.step)⟩
        case round =>
          clear H'
          try clear c1
          try clear p2
          try clear c3
          try clear c5
          try clear c5b0
          try clear c6
          try clear c6b0
          try clear c7
          try clear c7b0
          try clear c9
          try clear p2
          obtain ⟨x8_2, x9_2, rfl, rfl, HA, HK2, ⟨m2, rfl⟩⟩ := hrel
          cases gk with
          | zero => exact absurd HA.out (by simp [epactref03_Days.l0])
          | succ k2 =>
            have H := HA.out
            clear HA
            simp only [epactref03_Days.l0] at H
            by_cases c11 : x9_2 < a1
            · rw [if_pos c11] at H
              have c11b0 : decide (x9_2 < a1) = true := decide_eq_true c11
              clear c11
              replace H := Option.bind_eq_some_iff.mp H
              obtain ⟨t153, A120, H⟩ := H
              replace H : (epactref03_Days.l0 k2 a0 a1 a2 (wrap64 (x8_2 + t153)) (wrap64 (x9_2 + 1))) = some (r1, r2) := H
              have A12 := Aside0.mk A120
              clear A120
              have H' := Aside0.mk H
              clear H
              go_wp2_with (first | ((with_reducible refine gate_callee (f := 129) rfl ?_); refine goesL_ (some 37) rfl rfl Tryd.func129 (by kernel_rfl) rfl #[.int .i64 a0, .int .i64 x9_2] rfl (by (try simp only [List.map_toArray, List.map_cons, List.map_nil]); first | done | rfl | (simp only [List.length_drop, List.length_take]; rfl)) ?_; (with_reducible refine (epactref03_Length.calls k2 a0 x9_2 t153 _ A12.out).mono ?_); rintro e w' ⟨rfl, ⟨nd, rfl⟩⟩; refine ⟨_, rfl, ?_⟩))
              go_roundg k2
              case measure => have := HJ3.out; have := HK2.out; omega
              case rel => exact ⟨(wrap64 (x8_2 + t153)), (wrap64 (x9_2 + 1)), (by first | rfl | (simp; done) | (simp [*]; done)), (by first | rfl | (simp; done) | (simp [*]; done)), H', ⟨by have := HJ3.out; have := HK2.out; omega⟩, by repeat (first | exact Drawn0.refl _ | apply Drawn0.step)⟩
            · rw [if_neg c11] at H
              have c11b0 : decide (x9_2 < a1) = false := decide_eq_false c11
              clear c11
              simp only [Option.some.injEq, Prod.mk.injEq] at H
              obtain ⟨rfl, rfl⟩ := H
              go_wp2
              go_ret2
              exact ⟨by first | rfl | (simp; done) | (simp [*]; done), by repeat (first | exact Drawn0.refl _ | apply Drawn0.step)⟩
end Go.Proofs.YtjeofffddbibeaaDoor.PParseTells
end

section
namespace Go.Proofs.YtjeofffddbibeaaDoor.PParseTells
open Go.RowKit Go.Proofs.YtjeofffddbibeaaDoorW.PrintWords Go.Proofs.YtjeofffddbibeaaDoorW.PrintLast Go.Proofs.YtjeofffddbibeaaDoorW.PrintMore
attribute [local go_sem] max2_int min2_int max_two min_two max_three min_three max_four min_four   -- for this text's walks alone
set_option linter.unusedVariables false
set_option linter.unusedSimpArgs false
mutual
def epactref03_Date.j0 : Nat → Int → Bool → Option (Int × Int × Int × Int)
  | 0, _, _ => none
  | k + 1, x0, x18 => if x18 = true then (some (0, 0, 0, 30)) else (epactref03_Date.l0 k x0 (-9999) 9999)
def epactref03_Date.l0 : Nat → Int → Int → Int → Option (Int × Int × Int × Int)
  | 0, _, _, _ => none
  | k + 1, x0, x6, x7 => if x6 < x7 then ((epactref03_begin.f k (wrap64 (x6 + (wrap64 (Int.tdiv (wrap64 ((wrap64 (x7 - x6)) + 1)) 2))))).bind fun t156 => (if t156 ≤ x0 then (epactref03_Date.l0 k x0 (wrap64 (x6 + (wrap64 (Int.tdiv (wrap64 ((wrap64 (x7 - x6)) + 1)) 2)))) x7) else (epactref03_Date.l0 k x0 x6 (wrap64 ((wrap64 (x6 + (wrap64 (Int.tdiv (wrap64 ((wrap64 (x7 - x6)) + 1)) 2)))) - 1))))) else ((epactref03_begin.f k x6).bind fun t157 => (epactref03_Date.l1 k x6 (wrap64 (x0 - t157)) 1))
def epactref03_Date.l1 : Nat → Int → Int → Int → Option (Int × Int × Int × Int)
  | 0, _, _, _ => none
  | k + 1, x6, x9, x10 => (epactref03_Length.f k x6 x10).bind fun t158 => (if x9 ≥ t158 then ((epactref03_Length.f k x6 x10).bind fun t159 => (epactref03_Date.l1 k x6 (wrap64 (x9 - t159)) (wrap64 (x10 + 1)))) else (some (x6, x10, wrap64 (x9 + 1), 0)))
end
def epactref03_Date.f (k : Nat) (a0 : Int) : Option (Int × Int × Int × Int) := (epactref03_begin.f k (-9999)).bind fun t154 => (if a0 < t154 then (epactref03_Date.j0 k a0 true) else ((epactref03_begin.f k 10000).bind fun t155 => (epactref03_Date.j0 k a0 (decide (a0 ≥ t155)))))
set_option maxHeartbeats 8000000 in
set_option maxRecDepth 100000 in
theorem epactref03_Date.calls (k : Nat) (a0 : Int) (r1 : Int) (r2 : Int) (r3 : Int) (r4 : Int) (w : World) (h : epactref03_Date.f k a0 = some (r1, r2, r3, r4)) :
    Calls Tryd.prog 131 #[.int .i64 a0] w fun e w' => e = .returned (.tuple #[.int .i64 r1, .int .i64 r2, .int .i64 r3, .int .i64 r4]) ∧ Drawn0 w w' := by
  have H : ((epactref03_begin.f k (-9999)).bind fun t154 => (if a0 < t154 then (epactref03_Date.j0 k a0 true) else ((epactref03_begin.f k 10000).bind fun t155 => (epactref03_Date.j0 k a0 (decide (a0 ≥ t155)))))) = some (r1, r2, r3, r4) := h
  clear h
  have HC2 := Aside0.mk H
  clear H
  go_enter Tryd.func131, Tryd.ntmps131
  go_upto_region 1 with (fail)
  go_cut [18] (fun v18 wc => ∃ (kq : Nat) (x18_1 : Bool), v18 = .bool x18_1 ∧ Aside0 (epactref03_Date.j0 kq a0 x18_1 = some (r1, r2, r3, r4)) ∧ Aside0 (kq ≤ k) ∧ Drawn0 w wc)
  case first =>
    have H := HC2.out
    clear HC2
    replace H := Option.bind_eq_some_iff.mp H
    obtain ⟨t154, A30, H⟩ := H
    replace H : (if a0 < t154 then (epactref03_Date.j0 k a0 true) else ((epactref03_begin.f k 10000).bind fun t155 => (epactref03_Date.j0 k a0 (decide (a0 ≥ t155))))) = some (r1, r2, r3, r4) := H
    have A3 := Aside0.mk A30
    clear A30
    by_cases c4 : a0 < t154
    · rw [if_pos c4] at H
      have c4b0 : decide (a0 < t154) = true := decide_eq_true c4
      clear c4
      (first | rw [c4b0] | (simp only [i64_w, i32_w]; rw [c4b0]) | skip)
      have H' := Aside0.mk H
      clear H
      go_wp2_with (first | ((with_reducible refine gate_callee (f := 130) rfl ?_); refine goesL_ (some 12) rfl rfl Tryd.func130 (by kernel_rfl) rfl #[.int .i64 (-9999)] rfl (by (try simp only [List.map_toArray, List.map_cons, List.map_nil]); first | done | rfl | (simp only [List.length_drop, List.length_take]; rfl)) ?_; (with_reducible refine (epactref03_begin.calls k (-9999) t154 _ A3.out).mono ?_); rintro e w' ⟨rfl, ⟨nd, rfl⟩⟩; refine ⟨_, rfl, ?_⟩))
      go_meet
      case rel => exact ⟨_, (true), (by first | rfl | (simp; done) | (simp [*]; done)), H', ⟨by first | omega | exact Nat.le_refl _⟩, by repeat (first | exact Drawn0.refl _ | apply Drawn0.step)⟩
    · rw [if_neg c4] at H
      have c4b0 : decide (a0 < t154) = false := decide_eq_false c4
      clear c4
      (first | rw [c4b0] | (simp only [i64_w, i32_w]; rw [c4b0]) | skip)
      replace H := Option.bind_eq_some_iff.mp H
      obtain ⟨t155, A50, H⟩ := H
      replace H : (epactref03_Date.j0 k a0 (decide (a0 ≥ t155))) = some (r1, r2, r3, r4) := H
      have A5 := Aside0.mk A50
      clear A50
      have H' := Aside0.mk H
      clear H
      go_wp2_with (first | ((with_reducible refine gate_callee (f := 130) rfl ?_); refine goesL_ (some 12) rfl rfl Tryd.func130 (by kernel_rfl) rfl #[.int .i64 (-9999)] rfl (by (try simp only [List.map_toArray, List.map_cons, List.map_nil]); first | done | rfl | (simp only [List.length_drop, List.length_take]; rfl)) ?_; (with_reducible refine (epactref03_begin.calls k (-9999) t154 _ A3.out).mono ?_); rintro e w' ⟨rfl, ⟨nd, rfl⟩⟩; refine ⟨_, rfl, ?_⟩) | (go_at_call 130; (with_reducible refine (epactref03_begin.calls k 10000 t155 _ A5.out).mono ?_); rintro e w' ⟨rfl, ⟨nd, rfl⟩⟩))
      go_meet
      case rel => exact ⟨_, (decide (a0 ≥ t155)), (by first | rfl | (simp; done) | (simp [*]; done)), H', ⟨by first | omega | exact Nat.le_refl _⟩, by repeat (first | exact Drawn0.refl _ | apply Drawn0.step)⟩
  case rest =>
    clear HC2
    try clear c1
    try clear p2
    try clear c4
    try clear c4b0
    obtain ⟨kq, x18_1, rfl, HA, HJ1, ⟨mc1, rfl⟩⟩ := hcut
    cases kq with
    | zero => exact absurd HA.out (by simp [epactref03_Date.j0])
    | succ kj1 =>
      have H := HA.out
      clear HA
      simp only [epactref03_Date.j0] at H
      by_cases c6 : x18_1 = true
      · subst c6
        have H1 : (some (0, 0, 0, 30)) = some (r1, r2, r3, r4) := by rw [if_pos rfl] at H; exact H
        clear H
        have H := H1
        clear H1
        simp only [Option.some.injEq, Prod.mk.injEq] at H
        obtain ⟨rfl, rfl, rfl, rfl⟩ := H
        go_wp2
        refine bodyPost_ret (results_list (rs := [.tmp 2, .tmp 3, .tmp 4, .tmp 5]) rfl (by simp) (.tmp (.tmp (.tmp (.tmp .nil))))) rfl ?_
        exact ⟨by first | rfl | (simp; done) | (simp [*]; done), by repeat (first | exact Drawn0.refl _ | apply Drawn0.step)⟩
      · replace c6 := Bool.eq_false_iff.mpr c6
        subst c6
        have H1 : (epactref03_Date.l0 kj1 a0 (-9999) 9999) = some (r1, r2, r3, r4) := by rw [if_neg (show ¬ (false = true) by decide)] at H; exact H
        clear H
        have H := H1
        clear H1
        have H' := Aside0.mk H
        clear H
        go_wp2
        go_loopg [6, 7] kj1 (fun kq v6 v7 w' => ∃ (x6_2 : Int) (x7_2 : Int), v6 = .int .i64 x6_2 ∧ v7 = .int .i64 x7_2 ∧ Aside0 (epactref03_Date.l0 kq a0 x6_2 x7_2 = some (r1, r2, r3, r4)) ∧ Aside0 (kq ≤ kj1) ∧ Drawn0 w w')
        case atStart => exact ⟨((-9999)), (9999), (by first | rfl | (simp; done) | (simp [*]; done)), (by first | rfl | (simp; done) | (simp [*]; done)), H', ⟨Nat.le_refl _⟩, by repeat (first | exact Drawn0.refl _ | apply Drawn0.step)⟩
        case round =>
          clear H'
          try clear c1
          try clear p2
          try clear c4
          try clear c4b0
          try clear c6
          try clear p2
          obtain ⟨x6_2, x7_2, rfl, rfl, HA, HK2, ⟨m2, rfl⟩⟩ := hrel
          cases gk with
          | zero => exact absurd HA.out (by simp [epactref03_Date.l0])
          | succ k2 =>
            have H := HA.out
            clear HA
            simp only [epactref03_Date.l0] at H
            by_cases c7 : x6_2 < x7_2
            · rw [if_pos c7] at H
              have c7b0 : decide (x6_2 < x7_2) = true := decide_eq_true c7
              clear c7
              replace H := Option.bind_eq_some_iff.mp H
              obtain ⟨t156, A80, H⟩ := H
              replace H : (if t156 ≤ a0 then (epactref03_Date.l0 k2 a0 (wrap64 (x6_2 + (wrap64 (Int.tdiv (wrap64 ((wrap64 (x7_2 - x6_2)) + 1)) 2)))) x7_2) else (epactref03_Date.l0 k2 a0 x6_2 (wrap64 ((wrap64 (x6_2 + (wrap64 (Int.tdiv (wrap64 ((wrap64 (x7_2 - x6_2)) + 1)) 2)))) - 1)))) = some (r1, r2, r3, r4) := H
              have A8 := Aside0.mk A80
              clear A80
              by_cases c9 : t156 ≤ a0
              · rw [if_pos c9] at H
                have c9b0 : decide (t156 ≤ a0) = true := decide_eq_true c9
                clear c9
                have H' := Aside0.mk H
                clear H
                go_wp2_with (first | ((with_reducible refine gate_callee (f := 130) rfl ?_); refine goesL_ (some 30) rfl rfl Tryd.func130 (by kernel_rfl) rfl #[.int .i64 (wrap64 (x6_2 + (wrap64 (Int.tdiv (wrap64 ((wrap64 (x7_2 - x6_2)) + 1)) 2))))] rfl (by (try simp only [List.map_toArray, List.map_cons, List.map_nil]); first | done | rfl | (simp only [List.length_drop, List.length_take]; rfl)) ?_; (with_reducible refine (epactref03_begin.calls k2 (wrap64 (x6_2 + (wrap64 (Int.tdiv (wrap64 ((wrap64 (x7_2 - x6_2)) + 1)) 2)))) t156 _ A8.out).mono ?_); rintro e w' ⟨rfl, ⟨nd, rfl⟩⟩; refine ⟨_, rfl, ?_⟩))
                go_roundg k2
                case measure => have := HJ1.out; have := HK2.out; omega
                case rel => exact ⟨(wrap64 (x6_2 + (wrap64 (Int.tdiv (wrap64 ((wrap64 (x7_2 - x6_2)) + 1)) 2)))), (x7_2), (by first | rfl | (simp; done) | (simp [*]; done)), (by first | rfl | (simp; done) | (simp [*]; done)), H', ⟨by have := HJ1.out; have := HK2.out; omega⟩, by repeat (first | exact Drawn0.refl _ | apply Drawn0.step)⟩
              · rw [if_neg c9] at H
                have c9b0 : decide (t156 ≤ a0) = false := decide_eq_false c9
                clear c9
                have H' := Aside0.mk H
                clear H
                go_wp2_with (first | ((with_reducible refine gate_callee (f := 130) rfl ?_); refine goesL_ (some 30) rfl rfl Tryd.func130 (by kernel_rfl) rfl #[.int .i64 (wrap64 (x6_2 + (wrap64 (Int.tdiv (wrap64 ((wrap64 (x7_2 - x6_2)) + 1)) 2))))] rfl (by (try simp only [List.map_toArray, List.map_cons, List.map_nil]); first | done | rfl | (simp only [List.length_drop, List.length_take]; rfl)) ?_; (with_reducible refine (epactref03_begin.calls k2 (wrap64 (x6_2 + (wrap64 (Int.tdiv (wrap64 ((wrap64 (x7_2 - x6_2)) + 1)) 2)))) t156 _ A8.out).mono ?_); rintro e w' ⟨rfl, ⟨nd, rfl⟩⟩; refine ⟨_, rfl, ?_⟩))
                go_roundg k2
                case measure => have := HJ1.out; have := HK2.out; omega
                case rel => exact ⟨(x6_2), (wrap64 ((wrap64 (x6_2 + (wrap64 (Int.tdiv (wrap64 ((wrap64 (x7_2 - x6_2)) + 1)) 2)))) - 1)), (by first | rfl | (simp; done) | (simp [*]; done)), (by first | rfl | (simp; done) | (simp [*]; done)), H', ⟨by have := HJ1.out; have := HK2.out; omega⟩, by repeat (first | exact Drawn0.refl _ | apply Drawn0.step)⟩
            · rw [if_neg c7] at H
              have c7b0 : decide (x6_2 < x7_2) = false := decide_eq_false c7
              clear c7
              replace H := Option.bind_eq_some_iff.mp H
              obtain ⟨t157, A100, H⟩ := H
              replace H : (epactref03_Date.l1 k2 x6_2 (wrap64 (a0 - t157)) 1) = some (r1, r2, r3, r4) := H
              have A10 := Aside0.mk A100
              clear A100
              have H' := Aside0.mk H
              clear H
              go_wp2_with (first | ((with_reducible refine gate_callee (f := 130) rfl ?_); refine goesL_ (some 38) rfl rfl Tryd.func130 (by kernel_rfl) rfl #[.int .i64 x6_2] rfl (by (try simp only [List.map_toArray, List.map_cons, List.map_nil]); first | done | rfl | (simp only [List.length_drop, List.length_take]; rfl)) ?_; (with_reducible refine (epactref03_begin.calls k2 x6_2 t157 _ A10.out).mono ?_); rintro e w' ⟨rfl, ⟨nd, rfl⟩⟩; refine ⟨_, rfl, ?_⟩))
              go_loopg [9, 10] k2 (fun kq v9 v10 w' => ∃ (x9_3 : Int) (x10_3 : Int), v9 = .int .i64 x9_3 ∧ v10 = .int .i64 x10_3 ∧ Aside0 (epactref03_Date.l1 kq x6_2 x9_3 x10_3 = some (r1, r2, r3, r4)) ∧ Aside0 (kq ≤ k2) ∧ Drawn0 w w')
              case atStart => exact ⟨(wrap64 (a0 - t157)), (1), (by first | rfl | (simp; done) | (simp [*]; done)), (by first | rfl | (simp; done) | (simp [*]; done)), H', ⟨Nat.le_refl _⟩, by repeat (first | exact Drawn0.refl _ | apply Drawn0.step)⟩
              case round =>
                clear H'
                try clear c1
                try clear p2
                try clear c4
                try clear c4b0
                try clear c6
                try clear p6
                try clear c7
                try clear c7b0
                try clear c9
                try clear c9b0
                try clear p2
                obtain ⟨x9_3, x10_3, rfl, rfl, HA, HK3, ⟨m3, rfl⟩⟩ := hrel
                cases gk with
                | zero => exact absurd HA.out (by simp [epactref03_Date.l1])
                | succ k3 =>
                  have H := HA.out
                  clear HA
                  simp only [epactref03_Date.l1] at H
                  replace H := Option.bind_eq_some_iff.mp H
                  obtain ⟨t158, A110, H⟩ := H
                  replace H : (if x9_3 ≥ t158 then ((epactref03_Length.f k3 x6_2 x10_3).bind fun t159 => (epactref03_Date.l1 k3 x6_2 (wrap64 (x9_3 - t159)) (wrap64 (x10_3 + 1)))) else (some (x6_2, x10_3, wrap64 (x9_3 + 1), 0))) = some (r1, r2, r3, r4) := H
                  have A11 := Aside0.mk A110
                  clear A110
                  by_cases c12 : x9_3 ≥ t158
                  · rw [if_pos c12] at H
                    have c12b0 : decide (t158 ≤ x9_3) = true := decide_eq_true c12
                    clear c12
                    replace H := Option.bind_eq_some_iff.mp H
                    obtain ⟨t159, A130, H⟩ := H
                    replace H : (epactref03_Date.l1 k3 x6_2 (wrap64 (x9_3 - t159)) (wrap64 (x10_3 + 1))) = some (r1, r2, r3, r4) := H
                    have A13 := Aside0.mk A130
                    clear A130
                    have H' := Aside0.mk H
                    clear H
                    go_wp2_with (first | ((with_reducible refine gate_callee (f := 129) rfl ?_); refine goesL_ (some 43) rfl rfl Tryd.func129 (by kernel_rfl) rfl #[.int .i64 x6_2, .int .i64 x10_3] rfl (by (try simp only [List.map_toArray, List.map_cons, List.map_nil]); first | done | rfl | (simp only [List.length_drop, List.length_take]; rfl)) ?_; (with_reducible refine (epactref03_Length.calls k3 x6_2 x10_3 t158 _ A11.out).mono ?_); rintro e w' ⟨rfl, ⟨nd, rfl⟩⟩; refine ⟨_, rfl, ?_⟩) | ((with_reducible refine gate_callee (f := 129) rfl ?_); refine goesL_ (some 48) rfl rfl Tryd.func129 (by kernel_rfl) rfl #[.int .i64 x6_2, .int .i64 x10_3] rfl (by (try simp only [List.map_toArray, List.map_cons, List.map_nil]); first | done | rfl | (simp only [List.length_drop, List.length_take]; rfl)) ?_; (with_reducible refine (epactref03_Length.calls k3 x6_2 x10_3 t159 _ A13.out).mono ?_); rintro e w' ⟨rfl, ⟨nd, rfl⟩⟩; refine ⟨_, rfl, ?_⟩))
                    go_roundg k3
                    case measure => have := HJ1.out; have := HK2.out; have := HK3.out; omega
                    case rel => exact ⟨(wrap64 (x9_3 - t159)), (wrap64 (x10_3 + 1)), (by first | rfl | (simp; done) | (simp [*]; done)), (by first | rfl | (simp; done) | (simp [*]; done)), H', ⟨by have := HJ1.out; have := HK2.out; have := HK3.out; omega⟩, by repeat (first | exact Drawn0.refl _ | apply Drawn0.step)⟩
                  · rw [if_neg c12] at H
                    have c12b0 : decide (t158 ≤ x9_3) = false := decide_eq_false c12
                    clear c12
                    simp only [Option.some.injEq, Prod.mk.injEq] at H
                    obtain ⟨rfl, rfl, rfl, rfl⟩ := H
                    go_wp2_with (first | ((with_reducible refine gate_callee (f := 129) rfl ?_); refine goesL_ (some 43) rfl rfl Tryd.func129 (by kernel_rfl) rfl #[.int .i64 x6_2, .int .i64 x10_3] rfl (by (try simp only [List.map_toArray, List.map_cons, List.map_nil]); first | done | rfl | (simp only [List.length_drop, List.length_take]; rfl)) ?_; (with_reducible refine (epactref03_Length.calls k3 x6_2 x10_3 t158 _ A11.out).mono ?_); rintro e w' ⟨rfl, ⟨nd, rfl⟩⟩; refine ⟨_, rfl, ?_⟩))
                    refine bodyPost_ret (results_list (rs := [.tmp 2, .tmp 3, .tmp 4, .tmp 5]) rfl (by simp) (.tmp (.tmp (.tmp (.tmp .nil))))) rfl ?_
                    exact ⟨by first | rfl | (simp; done) | (simp [*]; done), by repeat (first | exact Drawn0.refl _ | apply Drawn0.step)⟩
def epactref04_digits.l0 : Nat → Int → Int → ByteArray → Int → Option (ByteArray)
  | 0, _, _, _, _ => none
  | k + 1, x0, x1, x5, x6 => if x6 < x1 then ((some (([(48 + ((Int.tmod x0 10) % 256)) % 256] : List Int) : List Int)).bind fun y160 => (if (strOfNums y160).size + x5.size ≤ 9223372036854775807 then (epactref04_digits.l0 k (wrap64 (Int.tdiv x0 10)) x1 ((strOfNums y160) ++ x5) (wrap64 (x6 + 1))) else (none))) else (some x5)
def epactref04_digits.f (k : Nat) (a0 : Int) (a1 : Int) : Option (ByteArray) := epactref04_digits.l0 k a0 a1 (⟨#[]⟩ : ByteArray) 0
set_option maxHeartbeats 8000000 in
set_option maxRecDepth 100000 in
theorem epactref04_digits.calls (k : Nat) (a0 : Int) (a1 : Int) (r : ByteArray) (w : World) (h : epactref04_digits.f k a0 a1 = some r) :
    Calls Tryd.prog 133 #[.int .i64 a0, .int .i64 a1] w fun e w' => e = .returned (.string r) ∧ Below w.heap.size w w' := by
  have HB := Aside0.mk (Below.refl w.heap.size w)
  have H : (epactref04_digits.l0 k a0 a1 (⟨#[]⟩ : ByteArray) 0) = some r := h
  clear h
  have H' := Aside0.mk H
  clear H
  go_enter Tryd.func133, Tryd.ntmps133
  go_wp2
  go_loopg [0, 5, 6] k (fun kq v0 v5 v6 w' => ∃ (x0_1 : Int) (x5_1 : ByteArray) (x6_1 : Int), v0 = .int .i64 x0_1 ∧ v5 = .string x5_1 ∧ v6 = .int .i64 x6_1 ∧ Aside0 (epactref04_digits.l0 kq x0_1 a1 x5_1 x6_1 = some r) ∧ Aside0 (kq ≤ k) ∧ Aside0 (Below w.heap.size w w'))
  case atStart => exact ⟨(a0), ((⟨#[]⟩ : ByteArray)), (0), (by first | rfl | (simp; done) | (simp [*]; done)), (by first | rfl | (simp; done) | (simp [*]; done)), (by first | rfl | (simp; done) | (simp [*]; done)), H', ⟨Nat.le_refl _⟩, ⟨by repeat (first | (with_reducible first | exact HB.out | apply below_alloc | apply pw_below_drewN | apply below_drew1) | exact HB.out)⟩⟩
  case round =>
    clear H'
    try clear c1
    try clear p2
    obtain ⟨x0_1, x5_1, x6_1, rfl, rfl, rfl, HA, HK1, HB⟩ := hrel
    cases gk with
    | zero => exact absurd HA.out (by simp [epactref04_digits.l0])
    | succ k1 =>
      have H := HA.out
      clear HA
      simp only [epactref04_digits.l0] at H
      by_cases c3 : x6_1 < a1
      · rw [if_pos c3] at H
        have c3b0 : decide (x6_1 < a1) = true := decide_eq_true c3
        clear c3
        obtain ⟨y160, hy160⟩ : ∃ y_ : List Int, y_ = (([(48 + ((Int.tmod x0_1 10) % 256)) % 256] : List Int)) := ⟨_, rfl⟩
        replace H : (if (strOfNums y160).size + x5_1.size ≤ 9223372036854775807 then (epactref04_digits.l0 k1 (wrap64 (Int.tdiv x0_1 10)) a1 ((strOfNums y160) ++ x5_1) (wrap64 (x6_1 + 1))) else (none)) = some r := by first | (rw [hy160]; with_reducible exact H) | (have H2_ := (Option.bind_some _ _).symm.trans H; rw [hy160]; with_reducible exact H2_) | (have H2_ := (Option.bind_some _ _).symm.trans H; with_reducible exact H2_) | with_reducible exact H | (rw [hy160]; exact H) | exact H
        have Ny160 := Aside0.mk hy160
        clear hy160
        by_cases c4 : (strOfNums y160).size + x5_1.size ≤ 9223372036854775807
        · rw [if_pos c4] at H
          have c4b0 := eq_true c4
          have c4b1 : decide ((strOfNums y160).size + x5_1.size ≤ 9223372036854775807) = true := decide_eq_true c4
          try have c4b2 : (9223372036854775807 < (strOfNums y160).size + x5_1.size) = False := eq_false (Nat.not_lt.2 c4)
          have H' := Aside0.mk H
          clear H
          go_wp2_with (first | ((with_reducible refine gate_dst (N := 16) rfl ?_); refine Kd.R_lit (Kd.int .u8) _ 5 ?hg (N := 16) ?hd (xs := ([(48 + ((Int.tmod x0_1 10) % 256)) % 256] : List Int)) (inner := [.int .u8 ((48 + ((Int.tmod x0_1 10) % 256)) % 256)]) (ok := fun _ => True) (okp := fun _ => True) ?hr ?hp (fun _ hk => hk) trivial (Below.refl _ _) (Nat.le_refl _) (by simp) ?_; (case hd => rfl); (case hg => rfl); (case hr => first | (go_simp; done) | (go_simp; rfl)); (case hp => exact (Reps.one (show Kd.M (Kd.int .u8) _ _ _ ((48 + ((Int.tmod x0_1 10) % 256)) % 256) [.int .u8 ((48 + ((Int.tmod x0_1 10) % 256)) % 256)] from rfl) (Reps.none _ _))); intro v161 w5 ho6 hb hg_ hnew_; clear hg_ hnew_; (first | rw [← Ny160.out] at ho6 | (simp only [Int.reduceToNat] at ho6; rw [← Ny160.out] at ho6)); have n0_ := Aside0.mk (Kd.R_lower ho6 (below_size (by repeat (first | (with_reducible first | exact HB.out | apply below_alloc | apply pw_below_drewN | apply below_drew1) | exact HB.out)))); have n1_ := Aside0.mk (below_step (by repeat (first | (with_reducible first | exact HB.out | apply below_alloc | apply pw_below_drewN | apply below_drew1) | exact HB.out)) hb); clear HB; have HO162 := n0_; have HB := n1_; clear n0_ n1_; clear hb ho6; have hcv7 := own_string (P := Tryd.prog) Tryd.underlying40 Tryd.underlying5 Tryd.underlying9 (Kd.own_of_R HO162.out)))
          go_roundg k1
          case measure => have := HK1.out; omega
          case rel => exact ⟨(wrap64 (Int.tdiv x0_1 10)), ((strOfNums y160) ++ x5_1), (wrap64 (x6_1 + 1)), (by first | rfl | (simp; done) | (simp [*]; done)), (by first | rfl | (simp; done) | (simp [*]; done)), (by first | rfl | (simp; done) | (simp [*]; done)), H', ⟨by have := HK1.out; omega⟩, ⟨by repeat (first | (with_reducible first | exact HB.out | apply below_alloc | apply pw_below_drewN | apply below_drew1) | exact HB.out)⟩⟩
        · rw [if_neg c4] at H
          exact absurd H (by simp)
      · rw [if_neg c3] at H
        have c3b0 : decide (x6_1 < a1) = false := decide_eq_false c3
        clear c3
        obtain rfl := Option.some.inj H
        go_wp2
        go_ret
        exact ⟨by first | rfl | (simp [errW_none, errW_some] <;> rfl) | (simp [*, errW_none, errW_some] <;> rfl), by repeat (first | (with_reducible first | exact HB.out | apply below_alloc | apply pw_below_drewN | apply below_drew1) | exact HB.out)⟩
def epactref04_year.f (k : Nat) (a0 : Int) : Option (ByteArray) := if a0 < 0 then ((epactref04_digits.f k (wrap64 (-a0)) 4).bind fun t163 => (if 1 + t163.size ≤ 9223372036854775807 then (some ((⟨#[45]⟩ : ByteArray) ++ t163)) else (none))) else ((epactref04_digits.f k a0 4).bind fun t164 => (some t164))
set_option maxHeartbeats 8000000 in
set_option maxRecDepth 100000 in
theorem epactref04_year.calls (k : Nat) (a0 : Int) (r : ByteArray) (w : World) (h : epactref04_year.f k a0 = some r) :
    Calls Tryd.prog 132 #[.int .i64 a0] w fun e w' => e = .returned (.string r) ∧ Below w.heap.size w w' := by
  have HB := Aside0.mk (Below.refl w.heap.size w)
  have H : (if a0 < 0 then ((epactref04_digits.f k (wrap64 (-a0)) 4).bind fun t163 => (if 1 + t163.size ≤ 9223372036854775807 then (some ((⟨#[45]⟩ : ByteArray) ++ t163)) else (none))) else ((epactref04_digits.f k a0 4).bind fun t164 => (some t164))) = some r := h
  clear h
  by_cases c2 : a0 < 0
  · rw [if_pos c2] at H
    have c2b0 : decide (a0 < 0) = true := decide_eq_true c2
    clear c2
    replace H := Option.bind_eq_some_iff.mp H
    obtain ⟨t163, A30, H⟩ := H
    replace H : (if 1 + t163.size ≤ 9223372036854775807 then (some ((⟨#[45]⟩ : ByteArray) ++ t163)) else (none)) = some r := H
    have A3 := Aside0.mk A30
    clear A30
    by_cases c4 : 1 + t163.size ≤ 9223372036854775807
    · rw [if_pos c4] at H
      have c4b0 := eq_true c4
      have c4b1 : decide (1 + t163.size ≤ 9223372036854775807) = true := decide_eq_true c4
      try have c4b2 : (9223372036854775807 < 1 + t163.size) = False := eq_false (Nat.not_lt.2 c4)
      obtain rfl := Option.some.inj H
      go_enter Tryd.func132, Tryd.ntmps132
      go_wp2_with (first | ((with_reducible refine gate_callee (f := 133) rfl ?_); refine goesL_ (some 7) rfl rfl Tryd.func133 (by kernel_rfl) rfl #[.int .i64 (wrap64 (-a0)), .int .i64 4] rfl (by (try simp only [List.map_toArray, List.map_cons, List.map_nil]); first | done | rfl | (simp only [List.length_drop, List.length_take]; rfl)) ?_; (with_reducible refine (epactref04_digits.calls k (wrap64 (-a0)) 4 t163 _ A3.out).mono ?_); rintro e w5 ⟨rfl, hb⟩; refine ⟨_, rfl, ?_⟩; have n0_ := Aside0.mk (below_step (by repeat (first | (with_reducible first | exact HB.out | apply below_alloc | apply pw_below_drewN | apply below_drew1) | exact HB.out)) hb); clear HB; have HB := n0_; clear n0_; (try clear hb); (try clear hb2); (try clear hk); (try clear hi)))
      go_ret
      exact ⟨by first | rfl | (simp [errW_none, errW_some] <;> rfl) | (simp [*, errW_none, errW_some] <;> rfl), by repeat (first | (with_reducible first | exact HB.out | apply below_alloc | apply pw_below_drewN | apply below_drew1) | exact HB.out)⟩
    · rw [if_neg c4] at H
      exact absurd H (by simp)
  · rw [if_neg c2] at H
    have c2b0 : decide (a0 < 0) = false := decide_eq_false c2
    clear c2
    replace H := Option.bind_eq_some_iff.mp H
    obtain ⟨t164, A60, H⟩ := H
    replace H : (some t164) = some r := H
    have A6 := Aside0.mk A60
    clear A60
    obtain rfl := Option.some.inj H
    go_enter Tryd.func132, Tryd.ntmps132
    go_wp2_with (first | ((with_reducible refine gate_callee (f := 133) rfl ?_); refine goesL_ (some 10) rfl rfl Tryd.func133 (by kernel_rfl) rfl #[.int .i64 a0, .int .i64 4] rfl (by (try simp only [List.map_toArray, List.map_cons, List.map_nil]); first | done | rfl | (simp only [List.length_drop, List.length_take]; rfl)) ?_; (with_reducible refine (epactref04_digits.calls k a0 4 t164 _ A6.out).mono ?_); rintro e w7 ⟨rfl, hb⟩; refine ⟨_, rfl, ?_⟩; have n0_ := Aside0.mk (below_step (by repeat (first | (with_reducible first | exact HB.out | apply below_alloc | apply pw_below_drewN | apply below_drew1) | exact HB.out)) hb); clear HB; have HB := n0_; clear n0_; (try clear hb); (try clear hb2); (try clear hk); (try clear hi)))
    go_ret
    exact ⟨by first | rfl | (simp [errW_none, errW_some] <;> rfl) | (simp [*, errW_none, errW_some] <;> rfl), by repeat (first | (with_reducible first | exact HB.out | apply below_alloc | apply pw_below_drewN | apply below_drew1) | exact HB.out)⟩
def epactref04_Nth.f (k : Nat) (a0 : Int) : Option (Int × Int × Int) := (epactref03_Date.f k a0).bind fun bt165 => (if bt165.2.2.2 = 0 then ((epactref03_Days.f k bt165.1 1 1).bind fun bt169 => (some (bt165.1, wrap64 ((wrap64 (a0 - bt169.1)) + 1), 0))) else (some (0, 0, 30)))
set_option maxHeartbeats 8000000 in
set_option maxRecDepth 100000 in
theorem epactref04_Nth.calls (k : Nat) (a0 : Int) (r1 : Int) (r2 : Int) (r3 : Int) (w : World) (h : epactref04_Nth.f k a0 = some (r1, r2, r3)) :
    Calls Tryd.prog 134 #[.int .i64 a0] w fun e w' => e = .returned (.tuple #[.int .i64 r1, .int .i64 r2, .int .i64 r3]) ∧ Drawn0 w w' := by
  have H : ((epactref03_Date.f k a0).bind fun bt165 => (if bt165.2.2.2 = 0 then ((epactref03_Days.f k bt165.1 1 1).bind fun bt169 => (some (bt165.1, wrap64 ((wrap64 (a0 - bt169.1)) + 1), 0))) else (some (0, 0, 30)))) = some (r1, r2, r3) := h
  clear h
  replace H := Option.bind_eq_some_iff.mp H
  obtain ⟨⟨t165, t166, t167, t168⟩, A20, H⟩ := H
  replace H : (if t168 = 0 then ((epactref03_Days.f k t165 1 1).bind fun bt169 => (some (t165, wrap64 ((wrap64 (a0 - bt169.1)) + 1), 0))) else (some (0, 0, 30))) = some (r1, r2, r3) := H
  have A2 := Aside0.mk A20
  clear A20
  by_cases c3 : t168 = 0
  · rw [if_pos c3] at H
    have c3b0 : (t168 == 0) = true := beq_iff_eq.mpr c3
    have c3b1 : (t168 != 0) = false := bne_eq_false_iff_eq.mpr c3
    clear c3
    replace H := Option.bind_eq_some_iff.mp H
    obtain ⟨⟨t169, t170⟩, A40, H⟩ := H
    replace H : (some (t165, wrap64 ((wrap64 (a0 - t169)) + 1), 0)) = some (r1, r2, r3) := H
    have A4 := Aside0.mk A40
    clear A40
    simp only [Option.some.injEq, Prod.mk.injEq] at H
    obtain ⟨rfl, rfl, rfl⟩ := H
    go_enter Tryd.func134, Tryd.ntmps134
    go_wp2_with (first | ((with_reducible refine gate_callee (f := 131) rfl ?_); refine goesL_ (some 13) rfl rfl Tryd.func131 (by kernel_rfl) rfl #[.int .i64 a0] rfl (by (try simp only [List.map_toArray, List.map_cons, List.map_nil]); first | done | rfl | (simp only [List.length_drop, List.length_take]; rfl)) ?_; (with_reducible refine (epactref03_Date.calls k a0 t165 t166 t167 t168 _ A2.out).mono ?_); rintro e w' ⟨rfl, ⟨nd, rfl⟩⟩; refine ⟨_, rfl, ?_⟩) | ((with_reducible refine gate_callee (f := 123) rfl ?_); refine goesL_ (some 22) rfl rfl Tryd.func123 (by kernel_rfl) rfl #[.int .i64 t165, .int .i64 1, .int .i64 1] rfl (by (try simp only [List.map_toArray, List.map_cons, List.map_nil]); first | done | rfl | (simp only [List.length_drop, List.length_take]; rfl)) ?_; (with_reducible refine (epactref03_Days.calls k t165 1 1 t169 t170 _ A4.out).mono ?_); rintro e w' ⟨rfl, ⟨nd, rfl⟩⟩; refine ⟨_, rfl, ?_⟩))
    go_ret3
    exact ⟨by first | rfl | (simp; done) | (simp [*]; done), by repeat (first | exact Drawn0.refl _ | apply Drawn0.step)⟩
  · rw [if_neg c3] at H
    have c3b0 : (t168 == 0) = false := beq_eq_false_iff_ne.mpr c3
    have c3b1 : (t168 != 0) = true := bne_iff_ne.mpr c3
    simp only [Option.some.injEq, Prod.mk.injEq] at H
    obtain ⟨rfl, rfl, rfl⟩ := H
    go_enter Tryd.func134, Tryd.ntmps134
    go_wp2_with (first | ((with_reducible refine gate_callee (f := 131) rfl ?_); refine goesL_ (some 13) rfl rfl Tryd.func131 (by kernel_rfl) rfl #[.int .i64 a0] rfl (by (try simp only [List.map_toArray, List.map_cons, List.map_nil]); first | done | rfl | (simp only [List.length_drop, List.length_take]; rfl)) ?_; (with_reducible refine (epactref03_Date.calls k a0 t165 t166 t167 t168 _ A2.out).mono ?_); rintro e w' ⟨rfl, ⟨nd, rfl⟩⟩; refine ⟨_, rfl, ?_⟩))
    go_ret3
    exact ⟨by first | rfl | (simp; done) | (simp [*]; done), by repeat (first | exact Drawn0.refl _ | apply Drawn0.step)⟩
def epactref04_inside.f (a0 : Int) : Option (Bool) := if a0 ≥ (-9999) then (some (decide (a0 ≤ 9999))) else (some false)
set_option maxHeartbeats 8000000 in
set_option maxRecDepth 100000 in
theorem epactref04_inside.calls (a0 : Int) (r : Bool) (w : World) (h : epactref04_inside.f a0 = some r) :
    Calls Tryd.prog 139 #[.int .i64 a0] w fun e w' => e = .returned (.bool r) ∧ Drawn0 w w' := by
  have H : (if a0 ≥ (-9999) then (some (decide (a0 ≤ 9999))) else (some false)) = some r := h
  clear h
  by_cases c2 : a0 ≥ (-9999)
  · rw [if_pos c2] at H
    have c2b0 : decide ((-9999) ≤ a0) = true := decide_eq_true c2
    clear c2
    obtain rfl := Option.some.inj H
    go_enter Tryd.func139, Tryd.ntmps139
    go_wp2
    go_ret
    exact ⟨by first | rfl | (simp; done) | (simp [*]; done), by repeat (first | exact Drawn0.refl _ | apply Drawn0.step)⟩
  · rw [if_neg c2] at H
    have c2b0 : decide ((-9999) ≤ a0) = false := decide_eq_false c2
    clear c2
    obtain rfl := Option.some.inj H
    go_enter Tryd.func139, Tryd.ntmps139
    go_wp2
    go_ret
    exact ⟨by first | rfl | (simp; done) | (simp [*]; done), by repeat (first | exact Drawn0.refl _ | apply Drawn0.step)⟩
def epactref03_Weekday.f (a0 : Int) : Option (Int) := if (Int.tmod a0 7) < 0 then (some (wrap64 ((Int.tmod (wrap64 ((wrap64 ((Int.tmod a0 7) + 7)) + 3)) 7) + 1))) else (some (wrap64 ((Int.tmod (wrap64 ((Int.tmod a0 7) + 3)) 7) + 1)))
set_option maxHeartbeats 8000000 in
set_option maxRecDepth 100000 in
theorem epactref03_Weekday.calls (a0 : Int) (r : Int) (w : World) (h : epactref03_Weekday.f a0 = some r) :
    Calls Tryd.prog 141 #[.int .i64 a0] w fun e w' => e = .returned (.int .i64 r) ∧ Drawn0 w w' := by
  have H : (if (Int.tmod a0 7) < 0 then (some (wrap64 ((Int.tmod (wrap64 ((wrap64 ((Int.tmod a0 7) + 7)) + 3)) 7) + 1))) else (some (wrap64 ((Int.tmod (wrap64 ((Int.tmod a0 7) + 3)) 7) + 1)))) = some r := h
  clear h
  by_cases c2 : (Int.tmod a0 7) < 0
  · rw [if_pos c2] at H
    have c2b0 : decide ((Int.tmod a0 7) < 0) = true := decide_eq_true c2
    clear c2
    obtain rfl := Option.some.inj H
    go_enter Tryd.func141, Tryd.ntmps141
    go_wp2
    go_ret
    exact ⟨by first | rfl | (simp; done) | (simp [*]; done), by repeat (first | exact Drawn0.refl _ | apply Drawn0.step)⟩
  · rw [if_neg c2] at H
    have c2b0 : decide ((Int.tmod a0 7) < 0) = false := decide_eq_false c2
    clear c2
    obtain rfl := Option.some.inj H
    go_enter Tryd.func141, Tryd.ntmps141
    go_wp2
    go_ret
    exact ⟨by first | rfl | (simp; done) | (simp [*]; done), by repeat (first | exact Drawn0.refl _ | apply Drawn0.step)⟩
def epactref04_first.f (k : Nat) (a0 : Int) : Option (Int) := (epactref04_inside.f a0).bind fun t171 => (if t171 = true then ((epactref03_Days.f k a0 1 4).bind fun bt172 => ((epactref03_Weekday.f bt172.1).bind fun t174 => (some (wrap64 ((wrap64 (bt172.1 - t174)) + 1))))) else (if a0 > 9999 then ((epactref03_Days.f k 9999 12 31).bind fun bt175 => ((epactref03_Weekday.f (wrap64 (bt175.1 + 4))).bind fun t177 => (some (wrap64 ((wrap64 ((wrap64 (bt175.1 + 4)) - t177)) + 1))))) else ((epactref03_Weekday.f 0).bind fun t178 => (some (wrap64 ((wrap64 (-t178)) + 1))))))
set_option maxHeartbeats 8000000 in
set_option maxRecDepth 100000 in
theorem epactref04_first.calls (k : Nat) (a0 : Int) (r : Int) (w : World) (h : epactref04_first.f k a0 = some r) :
    Calls Tryd.prog 140 #[.int .i64 a0] w fun e w' => e = .returned (.int .i64 r) ∧ Drawn0 w w' := by
  have H : ((epactref04_inside.f a0).bind fun t171 => (if t171 = true then ((epactref03_Days.f k a0 1 4).bind fun bt172 => ((epactref03_Weekday.f bt172.1).bind fun t174 => (some (wrap64 ((wrap64 (bt172.1 - t174)) + 1))))) else (if a0 > 9999 then ((epactref03_Days.f k 9999 12 31).bind fun bt175 => ((epactref03_Weekday.f (wrap64 (bt175.1 + 4))).bind fun t177 => (some (wrap64 ((wrap64 ((wrap64 (bt175.1 + 4)) - t177)) + 1))))) else ((epactref03_Weekday.f 0).bind fun t178 => (some (wrap64 ((wrap64 (-t178)) + 1))))))) = some r := h
  clear h
  replace H := Option.bind_eq_some_iff.mp H
  obtain ⟨t171, A20, H⟩ := H
  replace H : (if t171 = true then ((epactref03_Days.f k a0 1 4).bind fun bt172 => ((epactref03_Weekday.f bt172.1).bind fun t174 => (some (wrap64 ((wrap64 (bt172.1 - t174)) + 1))))) else (if a0 > 9999 then ((epactref03_Days.f k 9999 12 31).bind fun bt175 => ((epactref03_Weekday.f (wrap64 (bt175.1 + 4))).bind fun t177 => (some (wrap64 ((wrap64 ((wrap64 (bt175.1 + 4)) - t177)) + 1))))) else ((epactref03_Weekday.f 0).bind fun t178 => (some (wrap64 ((wrap64 (-t178)) + 1)))))) = some r := H
  have A2 := Aside0.mk A20
  clear A20
  by_cases c3 : t171 = true
  · subst c3
    have H1 : ((epactref03_Days.f k a0 1 4).bind fun bt172 => ((epactref03_Weekday.f bt172.1).bind fun t174 => (some (wrap64 ((wrap64 (bt172.1 - t174)) + 1))))) = some r := by rw [if_pos rfl] at H; exact H
    clear H
    have H := H1
    clear H1
    replace H := Option.bind_eq_some_iff.mp H
    obtain ⟨⟨t172, t173⟩, A40, H⟩ := H
    replace H : ((epactref03_Weekday.f t172).bind fun t174 => (some (wrap64 ((wrap64 (t172 - t174)) + 1)))) = some r := H
    have A4 := Aside0.mk A40
    clear A40
    replace H := Option.bind_eq_some_iff.mp H
    obtain ⟨t174, A50, H⟩ := H
    replace H : (some (wrap64 ((wrap64 (t172 - t174)) + 1))) = some r := H
    have A5 := Aside0.mk A50
    clear A50
    obtain rfl := Option.some.inj H
    go_enter Tryd.func140, Tryd.ntmps140
    go_wp2_with (first | ((with_reducible refine gate_callee (f := 139) rfl ?_); refine goesL_ (some 5) rfl rfl Tryd.func139 (by kernel_rfl) rfl #[.int .i64 a0] rfl (by (try simp only [List.map_toArray, List.map_cons, List.map_nil]); first | done | rfl | (simp only [List.length_drop, List.length_take]; rfl)) ?_; (with_reducible refine (epactref04_inside.calls a0 true _ A2.out).mono ?_); rintro e w' ⟨rfl, ⟨nd, rfl⟩⟩; refine ⟨_, rfl, ?_⟩) | ((with_reducible refine gate_callee (f := 123) rfl ?_); refine goesL_ (some 8) rfl rfl Tryd.func123 (by kernel_rfl) rfl #[.int .i64 a0, .int .i64 1, .int .i64 4] rfl (by (try simp only [List.map_toArray, List.map_cons, List.map_nil]); first | done | rfl | (simp only [List.length_drop, List.length_take]; rfl)) ?_; (with_reducible refine (epactref03_Days.calls k a0 1 4 t172 t173 _ A4.out).mono ?_); rintro e w' ⟨rfl, ⟨nd, rfl⟩⟩; refine ⟨_, rfl, ?_⟩) | ((with_reducible refine gate_callee (f := 141) rfl ?_); refine goesL_ (some 21) rfl rfl Tryd.func141 (by kernel_rfl) rfl #[.int .i64 t172] rfl (by (try simp only [List.map_toArray, List.map_cons, List.map_nil]); first | done | rfl | (simp only [List.length_drop, List.length_take]; rfl)) ?_; (with_reducible refine (epactref03_Weekday.calls t172 t174 _ A5.out).mono ?_); rintro e w' ⟨rfl, ⟨nd, rfl⟩⟩; refine ⟨_, rfl, ?_⟩))
    go_ret
    exact ⟨by first | rfl | (simp; done) | (simp [*]; done), by repeat (first | exact Drawn0.refl _ | apply Drawn0.step)⟩
  · replace c3 := Bool.eq_false_iff.mpr c3
    subst c3
    have H1 : (if a0 > 9999 then ((epactref03_Days.f k 9999 12 31).bind fun bt175 => ((epactref03_Weekday.f (wrap64 (bt175.1 + 4))).bind fun t177 => (some (wrap64 ((wrap64 ((wrap64 (bt175.1 + 4)) - t177)) + 1))))) else ((epactref03_Weekday.f 0).bind fun t178 => (some (wrap64 ((wrap64 (-t178)) + 1))))) = some r := by rw [if_neg (show ¬ (false = true) by decide)] at H; exact H
    clear H
    have H := H1
    clear H1
    by_cases c6 : a0 > 9999
    · rw [if_pos c6] at H
      have c6b0 : decide (9999 < a0) = true := decide_eq_true c6
      clear c6
      replace H := Option.bind_eq_some_iff.mp H
      obtain ⟨⟨t175, t176⟩, A70, H⟩ := H
      replace H : ((epactref03_Weekday.f (wrap64 (t175 + 4))).bind fun t177 => (some (wrap64 ((wrap64 ((wrap64 (t175 + 4)) - t177)) + 1)))) = some r := H
      have A7 := Aside0.mk A70
      clear A70
      replace H := Option.bind_eq_some_iff.mp H
      obtain ⟨t177, A80, H⟩ := H
      replace H : (some (wrap64 ((wrap64 ((wrap64 (t175 + 4)) - t177)) + 1))) = some r := H
      have A8 := Aside0.mk A80
      clear A80
      obtain rfl := Option.some.inj H
      go_enter Tryd.func140, Tryd.ntmps140
      go_wp2_with (first | ((with_reducible refine gate_callee (f := 139) rfl ?_); refine goesL_ (some 5) rfl rfl Tryd.func139 (by kernel_rfl) rfl #[.int .i64 a0] rfl (by (try simp only [List.map_toArray, List.map_cons, List.map_nil]); first | done | rfl | (simp only [List.length_drop, List.length_take]; rfl)) ?_; (with_reducible refine (epactref04_inside.calls a0 false _ A2.out).mono ?_); rintro e w' ⟨rfl, ⟨nd, rfl⟩⟩; refine ⟨_, rfl, ?_⟩) | ((with_reducible refine gate_callee (f := 123) rfl ?_); refine goesL_ (some 14) rfl rfl Tryd.func123 (by kernel_rfl) rfl #[.int .i64 9999, .int .i64 12, .int .i64 31] rfl (by (try simp only [List.map_toArray, List.map_cons, List.map_nil]); first | done | rfl | (simp only [List.length_drop, List.length_take]; rfl)) ?_; (with_reducible refine (epactref03_Days.calls k 9999 12 31 t175 t176 _ A7.out).mono ?_); rintro e w' ⟨rfl, ⟨nd, rfl⟩⟩; refine ⟨_, rfl, ?_⟩) | ((with_reducible refine gate_callee (f := 141) rfl ?_); refine goesL_ (some 21) rfl rfl Tryd.func141 (by kernel_rfl) rfl #[.int .i64 (wrap64 (t175 + 4))] rfl (by (try simp only [List.map_toArray, List.map_cons, List.map_nil]); first | done | rfl | (simp only [List.length_drop, List.length_take]; rfl)) ?_; (with_reducible refine (epactref03_Weekday.calls (wrap64 (t175 + 4)) t177 _ A8.out).mono ?_); rintro e w' ⟨rfl, ⟨nd, rfl⟩⟩; refine ⟨_, rfl, ?_⟩))
      go_ret
      exact ⟨by first | rfl | (simp; done) | (simp [*]; done), by repeat (first | exact Drawn0.refl _ | apply Drawn0.step)⟩
    · rw [if_neg c6] at H
      have c6b0 : decide (9999 < a0) = false := decide_eq_false c6
      clear c6
      replace H := Option.bind_eq_some_iff.mp H
      obtain ⟨t178, A90, H⟩ := H
      replace H : (some (wrap64 ((wrap64 (-t178)) + 1))) = some r := H
      have A9 := Aside0.mk A90
      clear A90
      obtain rfl := Option.some.inj H
      go_enter Tryd.func140, Tryd.ntmps140
      go_wp2_with (first | ((with_reducible refine gate_callee (f := 139) rfl ?_); refine goesL_ (some 5) rfl rfl Tryd.func139 (by kernel_rfl) rfl #[.int .i64 a0] rfl (by (try simp only [List.map_toArray, List.map_cons, List.map_nil]); first | done | rfl | (simp only [List.length_drop, List.length_take]; rfl)) ?_; (with_reducible refine (epactref04_inside.calls a0 false _ A2.out).mono ?_); rintro e w' ⟨rfl, ⟨nd, rfl⟩⟩; refine ⟨_, rfl, ?_⟩) | ((with_reducible refine gate_callee (f := 141) rfl ?_); refine goesL_ (some 21) rfl rfl Tryd.func141 (by kernel_rfl) rfl #[.int .i64 0] rfl (by (try simp only [List.map_toArray, List.map_cons, List.map_nil]); first | done | rfl | (simp only [List.length_drop, List.length_take]; rfl)) ?_; (with_reducible refine (epactref03_Weekday.calls 0 t178 _ A9.out).mono ?_); rintro e w' ⟨rfl, ⟨nd, rfl⟩⟩; refine ⟨_, rfl, ?_⟩))
      go_ret
      exact ⟨by first | rfl | (simp; done) | (simp [*]; done), by repeat (first | exact Drawn0.refl _ | apply Drawn0.step)⟩
def epactref04_Week.l0 : Nat → Int → Int → Int → Option (Int × Int × Int × Int)
  | 0, _, _, _ => none
  | k + 1, x0, x6, x10 => if x10 ≤ (wrap64 (x6 + 1)) then ((epactref04_inside.f x10).bind fun t183 => (if t183 = true then ((epactref04_first.f k x10).bind fun t184 => (if x0 ≥ t184 then ((epactref04_first.f k (wrap64 (x10 + 1))).bind fun t185 => (if x0 < t185 then ((epactref04_first.f k x10).bind fun t186 => (some (x10, wrap64 ((wrap64 (Int.tdiv (wrap64 (x0 - t186)) 7)) + 1), wrap64 ((Int.tmod (wrap64 (x0 - t186)) 7) + 1), 0))) else (epactref04_Week.l0 k x0 x6 (wrap64 (x10 + 1))))) else (epactref04_Week.l0 k x0 x6 (wrap64 (x10 + 1))))) else (epactref04_Week.l0 k x0 x6 (wrap64 (x10 + 1))))) else (some (0, 0, 0, 30))
def epactref04_Week.f (k : Nat) (a0 : Int) : Option (Int × Int × Int × Int) := (epactref03_Date.f k a0).bind fun bt179 => (if bt179.2.2.2 = 0 then (epactref04_Week.l0 k a0 bt179.1 (wrap64 (bt179.1 - 1))) else (some (0, 0, 0, 30)))
set_option maxHeartbeats 8000000 in
set_option maxRecDepth 100000 in
theorem epactref04_Week.calls (k : Nat) (a0 : Int) (r1 : Int) (r2 : Int) (r3 : Int) (r4 : Int) (w : World) (h : epactref04_Week.f k a0 = some (r1, r2, r3, r4)) :
    Calls Tryd.prog 135 #[.int .i64 a0] w fun e w' => e = .returned (.tuple #[.int .i64 r1, .int .i64 r2, .int .i64 r3, .int .i64 r4]) ∧ Drawn0 w w' := by
  have H : ((epactref03_Date.f k a0).bind fun bt179 => (if bt179.2.2.2 = 0 then (epactref04_Week.l0 k a0 bt179.1 (wrap64 (bt179.1 - 1))) else (some (0, 0, 0, 30)))) = some (r1, r2, r3, r4) := h
  clear h
  replace H := Option.bind_eq_some_iff.mp H
  obtain ⟨⟨t179, t180, t181, t182⟩, A20, H⟩ := H
  replace H : (if t182 = 0 then (epactref04_Week.l0 k a0 t179 (wrap64 (t179 - 1))) else (some (0, 0, 0, 30))) = some (r1, r2, r3, r4) := H
  have A2 := Aside0.mk A20
  clear A20
  by_cases c3 : t182 = 0
  · rw [if_pos c3] at H
    have c3b0 : (t182 == 0) = true := beq_iff_eq.mpr c3
    have c3b1 : (t182 != 0) = false := bne_eq_false_iff_eq.mpr c3
    clear c3
    have H' := Aside0.mk H
    clear H
    go_enter Tryd.func135, Tryd.ntmps135
    go_wp2_with (first | ((with_reducible refine gate_callee (f := 131) rfl ?_); refine goesL_ (some 14) rfl rfl Tryd.func131 (by kernel_rfl) rfl #[.int .i64 a0] rfl (by (try simp only [List.map_toArray, List.map_cons, List.map_nil]); first | done | rfl | (simp only [List.length_drop, List.length_take]; rfl)) ?_; (with_reducible refine (epactref03_Date.calls k a0 t179 t180 t181 t182 _ A2.out).mono ?_); rintro e w' ⟨rfl, ⟨nd, rfl⟩⟩; refine ⟨_, rfl, ?_⟩))
    go_loopg [10] k (fun kq v10 w' => ∃ (x10_1 : Int), v10 = .int .i64 x10_1 ∧ Aside0 (epactref04_Week.l0 kq a0 t179 x10_1 = some (r1, r2, r3, r4)) ∧ Aside0 (kq ≤ k) ∧ Drawn0 w w')
    case atStart => exact ⟨(wrap64 (t179 - 1)), (by first | rfl | (simp; done) | (simp [*]; done)), H', ⟨Nat.le_refl _⟩, by repeat (first | exact Drawn0.refl _ | apply Drawn0.step)⟩
    case round =>
      clear H'
      try clear c1
      try clear p2
      try clear c3
      try clear c3b0
      try clear c3b1
      obtain ⟨x10_1, rfl, HA, HK1, ⟨m1, rfl⟩⟩ := hrel
      cases gk with
      | zero => exact absurd HA.out (by simp [epactref04_Week.l0])
      | succ k1 =>
        have H := HA.out
        clear HA
        simp only [epactref04_Week.l0] at H
        by_cases c4 : x10_1 ≤ (wrap64 (t179 + 1))
        · rw [if_pos c4] at H
          have c4b0 : decide (x10_1 ≤ (wrap64 (t179 + 1))) = true := decide_eq_true c4
          clear c4
          replace H := Option.bind_eq_some_iff.mp H
          obtain ⟨t183, A50, H⟩ := H
          replace H : (if t183 = true then ((epactref04_first.f k1 x10_1).bind fun t184 => (if a0 ≥ t184 then ((epactref04_first.f k1 (wrap64 (x10_1 + 1))).bind fun t185 => (if a0 < t185 then ((epactref04_first.f k1 x10_1).bind fun t186 => (some (x10_1, wrap64 ((wrap64 (Int.tdiv (wrap64 (a0 - t186)) 7)) + 1), wrap64 ((Int.tmod (wrap64 (a0 - t186)) 7) + 1), 0))) else (epactref04_Week.l0 k1 a0 t179 (wrap64 (x10_1 + 1))))) else (epactref04_Week.l0 k1 a0 t179 (wrap64 (x10_1 + 1))))) else (epactref04_Week.l0 k1 a0 t179 (wrap64 (x10_1 + 1)))) = some (r1, r2, r3, r4) := H
          have A5 := Aside0.mk A50
          clear A50
          by_cases c6 : t183 = true
          · subst c6
            have H1 : ((epactref04_first.f k1 x10_1).bind fun t184 => (if a0 ≥ t184 then ((epactref04_first.f k1 (wrap64 (x10_1 + 1))).bind fun t185 => (if a0 < t185 then ((epactref04_first.f k1 x10_1).bind fun t186 => (some (x10_1, wrap64 ((wrap64 (Int.tdiv (wrap64 (a0 - t186)) 7)) + 1), wrap64 ((Int.tmod (wrap64 (a0 - t186)) 7) + 1), 0))) else (epactref04_Week.l0 k1 a0 t179 (wrap64 (x10_1 + 1))))) else (epactref04_Week.l0 k1 a0 t179 (wrap64 (x10_1 + 1))))) = some (r1, r2, r3, r4) := by rw [if_pos rfl] at H; exact H
            clear H
            have H := H1
            clear H1
            replace H := Option.bind_eq_some_iff.mp H
            obtain ⟨t184, A70, H⟩ := H
            replace H : (if a0 ≥ t184 then ((epactref04_first.f k1 (wrap64 (x10_1 + 1))).bind fun t185 => (if a0 < t185 then ((epactref04_first.f k1 x10_1).bind fun t186 => (some (x10_1, wrap64 ((wrap64 (Int.tdiv (wrap64 (a0 - t186)) 7)) + 1), wrap64 ((Int.tmod (wrap64 (a0 - t186)) 7) + 1), 0))) else (epactref04_Week.l0 k1 a0 t179 (wrap64 (x10_1 + 1))))) else (epactref04_Week.l0 k1 a0 t179 (wrap64 (x10_1 + 1)))) = some (r1, r2, r3, r4) := H
            have A7 := Aside0.mk A70
            clear A70
            by_cases c8 : a0 ≥ t184
            · rw [if_pos c8] at H
              have c8b0 : decide (t184 ≤ a0) = true := decide_eq_true c8
              clear c8
              replace H := Option.bind_eq_some_iff.mp H
              obtain ⟨t185, A90, H⟩ := H
              replace H : (if a0 < t185 then ((epactref04_first.f k1 x10_1).bind fun t186 => (some (x10_1, wrap64 ((wrap64 (Int.tdiv (wrap64 (a0 - t186)) 7)) + 1), wrap64 ((Int.tmod (wrap64 (a0 - t186)) 7) + 1), 0))) else (epactref04_Week.l0 k1 a0 t179 (wrap64 (x10_1 + 1)))) = some (r1, r2, r3, r4) := H
              have A9 := Aside0.mk A90
              clear A90
              by_cases c10 : a0 < t185
              · rw [if_pos c10] at H
                have c10b0 : decide (a0 < t185) = true := decide_eq_true c10
                clear c10
                replace H := Option.bind_eq_some_iff.mp H
                obtain ⟨t186, A110, H⟩ := H
                replace H : (some (x10_1, wrap64 ((wrap64 (Int.tdiv (wrap64 (a0 - t186)) 7)) + 1), wrap64 ((Int.tmod (wrap64 (a0 - t186)) 7) + 1), 0)) = some (r1, r2, r3, r4) := H
                have A11 := Aside0.mk A110
                clear A110
                simp only [Option.some.injEq, Prod.mk.injEq] at H
                obtain ⟨rfl, rfl, rfl, rfl⟩ := H
                go_wp2_with (first | ((with_reducible refine gate_callee (f := 139) rfl ?_); refine goesL_ (some 30) rfl rfl Tryd.func139 (by kernel_rfl) rfl #[.int .i64 x10_1] rfl (by (try simp only [List.map_toArray, List.map_cons, List.map_nil]); first | done | rfl | (simp only [List.length_drop, List.length_take]; rfl)) ?_; (with_reducible refine (epactref04_inside.calls x10_1 true _ A5.out).mono ?_); rintro e w' ⟨rfl, ⟨nd, rfl⟩⟩; refine ⟨_, rfl, ?_⟩) | (go_at_call 140; (with_reducible refine (epactref04_first.calls k1 x10_1 t184 _ A7.out).mono ?_); rintro e w' ⟨rfl, ⟨nd, rfl⟩⟩) | (go_at_call 140; (with_reducible refine (epactref04_first.calls k1 (wrap64 (x10_1 + 1)) t185 _ A9.out).mono ?_); rintro e w' ⟨rfl, ⟨nd, rfl⟩⟩) | ((with_reducible refine gate_callee (f := 140) rfl ?_); refine goesL_ (some 46) rfl rfl Tryd.func140 (by kernel_rfl) rfl #[.int .i64 x10_1] rfl (by (try simp only [List.map_toArray, List.map_cons, List.map_nil]); first | done | rfl | (simp only [List.length_drop, List.length_take]; rfl)) ?_; (with_reducible refine (epactref04_first.calls k1 x10_1 t186 _ A11.out).mono ?_); rintro e w' ⟨rfl, ⟨nd, rfl⟩⟩; refine ⟨_, rfl, ?_⟩))
                refine bodyPost_ret (results_list (rs := [.tmp 2, .tmp 3, .tmp 4, .tmp 5]) rfl (by simp) (.tmp (.tmp (.tmp (.tmp .nil))))) rfl ?_
                exact ⟨by first | rfl | (simp; done) | (simp [*]; done), by repeat (first | exact Drawn0.refl _ | apply Drawn0.step)⟩
              · rw [if_neg c10] at H
                have c10b0 : decide (a0 < t185) = false := decide_eq_false c10
                clear c10
                have H' := Aside0.mk H
                clear H
                go_wp2_with (first | ((with_reducible refine gate_callee (f := 139) rfl ?_); refine goesL_ (some 30) rfl rfl Tryd.func139 (by kernel_rfl) rfl #[.int .i64 x10_1] rfl (by (try simp only [List.map_toArray, List.map_cons, List.map_nil]); first | done | rfl | (simp only [List.length_drop, List.length_take]; rfl)) ?_; (with_reducible refine (epactref04_inside.calls x10_1 true _ A5.out).mono ?_); rintro e w' ⟨rfl, ⟨nd, rfl⟩⟩; refine ⟨_, rfl, ?_⟩) | (go_at_call 140; (with_reducible refine (epactref04_first.calls k1 x10_1 t184 _ A7.out).mono ?_); rintro e w' ⟨rfl, ⟨nd, rfl⟩⟩) | (go_at_call 140; (with_reducible refine (epactref04_first.calls k1 (wrap64 (x10_1 + 1)) t185 _ A9.out).mono ?_); rintro e w' ⟨rfl, ⟨nd, rfl⟩⟩))
                go_roundg k1
                case measure => have := HK1.out; omega
                case rel => exact ⟨(wrap64 (x10_1 + 1)), (by first | rfl | (simp; done) | (simp [*]; done)), H', ⟨by have := HK1.out; omega⟩, by repeat (first | exact Drawn0.refl _ | apply Drawn0.step)⟩
            · rw [if_neg c8] at H
              have c8b0 : decide (t184 ≤ a0) = false := decide_eq_false c8
              clear c8
              have H' := Aside0.mk H
              clear H
              go_wp2_with (first | ((with_reducible refine gate_callee (f := 139) rfl ?_); refine goesL_ (some 30) rfl rfl Tryd.func139 (by kernel_rfl) rfl #[.int .i64 x10_1] rfl (by (try simp only [List.map_toArray, List.map_cons, List.map_nil]); first | done | rfl | (simp only [List.length_drop, List.length_take]; rfl)) ?_; (with_reducible refine (epactref04_inside.calls x10_1 true _ A5.out).mono ?_); rintro e w' ⟨rfl, ⟨nd, rfl⟩⟩; refine ⟨_, rfl, ?_⟩) | (go_at_call 140; (with_reducible refine (epactref04_first.calls k1 x10_1 t184 _ A7.out).mono ?_); rintro e w' ⟨rfl, ⟨nd, rfl⟩⟩))
              go_roundg k1
              case measure => have := HK1.out; omega
              case rel => exact ⟨(wrap64 (x10_1 + 1)), (by first | rfl | (simp; done) | (simp [*]; done)), H', ⟨by have := HK1.out; omega⟩, by repeat (first | exact Drawn0.refl _ | apply Drawn0.step)⟩
          · replace c6 := Bool.eq_false_iff.mpr c6
            subst c6
            have H1 : (epactref04_Week.l0 k1 a0 t179 (wrap64 (x10_1 + 1))) = some (r1, r2, r3, r4) := by rw [if_neg (show ¬ (false = true) by decide)] at H; exact H
            clear H
            have H := H1
            clear H1
            have H' := Aside0.mk H
            clear H
            go_wp2_with (first | ((with_reducible refine gate_callee (f := 139) rfl ?_); refine goesL_ (some 30) rfl rfl Tryd.func139 (by kernel_rfl) rfl #[.int .i64 x10_1] rfl (by (try simp only [List.map_toArray, List.map_cons, List.map_nil]); first | done | rfl | (simp only [List.length_drop, List.length_take]; rfl)) ?_; (with_reducible refine (epactref04_inside.calls x10_1 false _ A5.out).mono ?_); rintro e w' ⟨rfl, ⟨nd, rfl⟩⟩; refine ⟨_, rfl, ?_⟩))
            go_roundg k1
            case measure => have := HK1.out; omega
            case rel => exact ⟨(wrap64 (x10_1 + 1)), (by first | rfl | (simp; done) | (simp [*]; done)), H', ⟨by have := HK1.out; omega⟩, by repeat (first | exact Drawn0.refl _ | apply Drawn0.step)⟩
        · rw [if_neg c4] at H
          have c4b0 : decide (x10_1 ≤ (wrap64 (t179 + 1))) = false := decide_eq_false c4
          clear c4
          simp only [Option.some.injEq, Prod.mk.injEq] at H
          obtain ⟨rfl, rfl, rfl, rfl⟩ := H
          go_wp2
          refine bodyPost_ret (results_list (rs := [.tmp 2, .tmp 3, .tmp 4, .tmp 5]) rfl (by simp) (.tmp (.tmp (.tmp (.tmp .nil))))) rfl ?_
          exact ⟨by first | rfl | (simp; done) | (simp [*]; done), by repeat (first | exact Drawn0.refl _ | apply Drawn0.step)⟩
  · rw [if_neg c3] at H
    have c3b0 : (t182 == 0) = false := beq_eq_false_iff_ne.mpr c3
    have c3b1 : (t182 != 0) = true := bne_iff_ne.mpr c3
    simp only [Option.some.injEq, Prod.mk.injEq] at H
    obtain ⟨rfl, rfl, rfl, rfl⟩ := H
    go_enter Tryd.func135, Tryd.ntmps135
    go_wp2_with (first | ((with_reducible refine gate_callee (f := 131) rfl ?_); refine goesL_ (some 14) rfl rfl Tryd.func131 (by kernel_rfl) rfl #[.int .i64 a0] rfl (by (try simp only [List.map_toArray, List.map_cons, List.map_nil]); first | done | rfl | (simp only [List.length_drop, List.length_take]; rfl)) ?_; (with_reducible refine (epactref03_Date.calls k a0 t179 t180 t181 t182 _ A2.out).mono ?_); rintro e w' ⟨rfl, ⟨nd, rfl⟩⟩; refine ⟨_, rfl, ?_⟩))
    refine bodyPost_ret (results_list (rs := [.tmp 2, .tmp 3, .tmp 4, .tmp 5]) rfl (by simp) (.tmp (.tmp (.tmp (.tmp .nil))))) rfl ?_
    exact ⟨by first | rfl | (simp; done) | (simp [*]; done), by repeat (first | exact Drawn0.refl _ | apply Drawn0.step)⟩
end Go.Proofs.YtjeofffddbibeaaDoor.PParseTells
end
