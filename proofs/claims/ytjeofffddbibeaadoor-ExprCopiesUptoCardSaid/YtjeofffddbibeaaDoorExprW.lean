/-
  expr.Names: all names, each once, in the order in which they occur.
-/
import Derived.Test.YtjeofffddbibeaaDoorExprR
import Derived.Maps.OwnOps
import Derived.Maps.OwnSet
import Derived.Maps.Views
import Derived.StringKeys
import Derived.WideShapes
namespace Go.Proofs.YtjeofffddbibeaaDoor.Ex
open Go Go.Maps Go.RowKit Go.Proofs.YtjeofffddbibeaaDoor.PExprTells Go.Proofs.YtjeofffddbibeaaDoorW.PrintWords Go.Proofs.YtjeofffddbibeaaDoorW.PrintLast Go.Proofs.YtjeofffddbibeaaDoorW.PrintMore
set_option linter.unusedVariables false
set_option linter.unusedSimpArgs false

abbrev nil8 : ByteArray := { data := #[] }
def eqB (a b : ByteArray) : Bool := a.data.toList == b.data.toList
theorem eqB_iff (a b : ByteArray) : eqB a b = true ↔ a = b := by
  unfold eqB
  rw [beq_iff_eq]
  exact ⟨fun h => WideShapes.bytes_inj h, fun h => by rw [h]⟩
/-- Was a text met? (The empty one was, from the first.) -/
def seenB (s : List ByteArray) (t : ByteArray) : Bool := t.data.toList.isEmpty || s.any (eqB · t)
def namF (s : List ByteArray) (x : X) (_ : Int) : List ByteArray × Bool := (if seenB s x.f1 = true then s else s ++ [x.f1], true)
abbrev kS : Kd ByteArray := Kd.string
theorem seen_snoc (s : List ByteArray) (n t : ByteArray) : seenB (s ++ [n]) t = (seenB s t || eqB n t) := by
  unfold seenB
  rw [List.any_append, List.any_cons, List.any_nil, Bool.or_false, Bool.or_assoc]
/-- What the map says of a text. -/
def Met (D : DataW Unit) (s : List ByteArray) : Prop := ∀ t : ByteArray, D.atKey (.string t.data.toList) (.lit (.int .i64 0)) = .lit (.int .i64 (if seenB s t = true then 1 else 0))
theorem isKeyS {l : List UInt8} : WideAt.IsKeyLit (.string l) := by unfold WideAt.IsKeyLit; trivial
theorem Met.put {D : DataW Unit} {s : List ByteArray} (h : Met D s) (hm : Maps.IsMap D) (n : ByteArray) : Met (D.put (.string n.data.toList) (.lit (.int .i64 1))) (s ++ [n]) := by
  intro t
  rw [seen_snoc]
  by_cases e : eqB n t = true
  · have e' := (eqB_iff n t).1 e
    subst e'
    rw [Maps.atKey_put_same hm isKeyS, e, Bool.or_true]
    rfl
  · rw [Maps.atKey_put_other (fun h2 => e ((eqB_iff n t).2 (WideShapes.bytes_inj (Lit.string.inj h2).symm))), h t, Bool.eq_false_iff.2 e, Bool.or_false]
theorem Met.first : Met ((DataW.map []).put (.string nil8.data.toList) (.lit (.int .i64 1))) [] := by
  intro t
  by_cases e : t.data.toList = []
  · rw [e]
    have hs : seenB [] t = true := by unfold seenB; rw [e]; rfl
    rw [hs]
    exact Maps.atKey_put_same Maps.isMap_empty isKeyS _ _
  · have hs : seenB [] t = false := by
      unfold seenB
      rw [List.any_nil, Bool.or_false, List.isEmpty_eq_false_iff]
      exact e
    rw [hs, Maps.atKey_put_other (fun h2 => e (Lit.string.inj h2))]
    rfl
theorem cell_alloc {w : World} {a : Addr} {v : Value} (o : Obj) (h : w.cell? a = some v) : (w.alloc o).cell? a = some v := cell_later (below_alloc (Below.refl _ _) _) h
theorem R_is_slice {d : Kd ByteArray} {e : Nat} {w : World} {base : Nat} {ok : Nat → Prop} {v : Value} {xs : List ByteArray} (h : d.R e w base ok v xs) : ∃ A n c, v = .slice A n c := by
  obtain ⟨A, c, h⟩ := Kd.R_slice h
  exact ⟨A, _, c, h⟩
structure NI (w0 : World) (K0 bm mb bo : Nat) (s : List ByteArray) (w : World) : Prop where
  xm : Box bm 71 (.map (some mb)) w
  out : ∃ v, Box bo 28 v w ∧ kS.R 9 w w0.heap.size (fun k => K0 ≤ k) v s
  map : ∃ n D, w.ownsMap Tryd.prog 9 (plainElem Tryd.prog 3) mb n D ∧ n ≤ s.length + 1 ∧ Maps.IsMap D ∧ Met D s
theorem keyLaw : Maps.Keyed Tryd.prog 9 := string_keyed Tryd.underlying9
theorem zeroI (w : World) : (zeroValue 3).run Tryd.prog w = .ok (.int .i64 0) w := by kernel_rfl
theorem namF_len (s : List ByteArray) (x : X) (d : Int) : (namF s x d).1.length ≤ s.length + 1 := by
  unfold namF
  split
  · simp
  · simp
theorem NI.d {w0 : World} {K0 bm mb bo : Nat} {s : List ByteArray} {w : World} (h : NI w0 K0 bm mb bo s w) (n : Nat) : NI w0 K0 bm mb bo s (w.drewN n) :=
  ⟨h.xm.d n, by obtain ⟨v, hv, hr⟩ := h.out; exact ⟨v, hv.d n, Kd.R_drewN hr n⟩, by obtain ⟨n, D, ho, r⟩ := h.map; exact ⟨n, D, ho, r⟩⟩
set_option maxHeartbeats 4000000 in
set_option maxRecDepth 100000 in
theorem Names1_calls (w0 : World) (K0 bm mb bo : Nat) (hbm : w0.heap.size ≤ bm) (hmb : w0.heap.size ≤ mb) (hbo : w0.heap.size ≤ bo) (hK0 : w0.heap.size ≤ K0) (h1 : bm ≠ mb) (h2 : bm ≠ bo) (h3 : mb ≠ bo) (hm : bm < K0 ∧ mb < K0 ∧ bo < K0) (L : Nat) (hL : L ≤ 1099511627776) (D : Int) :
    Does 46 #[.pointer (some ⟨bm, 0, none⟩), .pointer (some ⟨bo, 0, none⟩)] (fun k => k = mb ∨ k = bo ∨ K0 ≤ k) w0 namF (NI w0 K0 bm mb bo) D List.length L K0 where
  enter := fun args w => by kernel_rfl
  draws := fun s w n h => ⟨h.xm.d n, by obtain ⟨v, hv, hr⟩ := h.out; exact ⟨v, hv.d n, Kd.R_drewN hr n⟩, by obtain ⟨n, D, ho, r⟩ := h.map; exact ⟨n, D, ho, r⟩⟩
  allocs := fun s w o h => ⟨h.xm.a o, by obtain ⟨v, hv, hr⟩ := h.out; exact ⟨v, hv.a o, Kd.R_alloc hr o⟩, by obtain ⟨n, D, ho, r⟩ := h.map; exact ⟨n, D, ho.alloc o, r⟩⟩
  above := fun k h => by rcases h with h | h | h <;> omega
  step := namF_len
  run := by
    intro s w p x d A2 c2 A3 c3 hwf hpot hZ hI hB hN hp hd hdD
    show Calls Tryd.prog 46 #[.pointer (some p), .int .i64 d, .pointer (some ⟨bm, 0, none⟩), .pointer (some ⟨bo, 0, none⟩)] w _
    obtain ⟨xm, ⟨v, xo, hr⟩, ⟨n, D, ho, hn, hmap, hmet⟩⟩ := id hI
    have cm := xm.cell
    have co := xo.cell
    have fo := xo.free
    have q1 : w.cell? ⟨p.block, p.off + 1, none⟩ = some (.string x.f1) := hN.q1
    have hkey : keyOf Tryd.prog 9 (.string x.f1) = some (.string x.f1.data.toList) := Go.WideMaps.keyOf_string_mk Tryd.underlying9 (by have := hwf.name; unfold maxLen; omega)
    have hlook : ∀ k : Nat, (Instr.lookup 71 (.map (some mb)) (.string x.f1) false).run Tryd.prog (w.drewN k) = .ok (.int .i64 (if seenB s x.f1 = true then 1 else 0)) (w.drewN k) := by
      intro k
      have hok : (w.drewN k).ownsMap Tryd.prog 9 (plainElem Tryd.prog 3) mb n D := ho
      obtain ⟨c, hrun, hat, _⟩ := hok.lookup_int keyLaw Tryd.underlying71 Tryd.underlying3 (zeroI _) hkey
      rw [hmet] at hat
      have : c = if seenB s x.f1 = true then 1 else 0 := by
        injection hat with hat
        injection hat with _ hat
        exact hat.symm
      rw [← this]
      exact hrun
    have HI := Aside0.mk hI
    have HB := Aside0.mk hB
    clear hI hN hB
    by_cases hs : seenB s x.f1 = true
    · rw [if_pos hs] at hlook
      have hF : namF s x d = (s, true) := by unfold namF; rw [if_pos hs]
      rw [hF]
      clear hs hF ho hmet hmap hr xm xo
      go_enter Tryd.func46, Tryd.ntmps46
      go_wp2_with fail
      go_quiet (fail)
      go_wp2
      go_ret
      exact ⟨rfl, HI.out.d nq, pw_below_drewN HB.out nq, (Kept.refl w _).drewN nq⟩
    · have hs' := Bool.eq_false_iff.2 hs
      rw [if_neg hs] at hlook
      have hF : namF s x d = (s ++ [x.f1], true) := by unfold namF; rw [if_neg hs]
      rw [hF]
      clear hs hF hs'
      go_enter Tryd.func46, Tryd.ntmps46
      go_wp2_with fail
      go_quiet (fail)
      have cm1 : (w.drewN nq).cell? ⟨bm, 0, none⟩ = some (.map (some mb)) := cm
      have q11 : (w.drewN nq).cell? ⟨p.block, p.off + 1, none⟩ = some (.string x.f1) := q1
      have hlook1 := hlook (nq + 1)
      rw [← World.drew_drewN] at hlook1
      have B1 := Aside0.mk (pw_below_drewN HB.out nq)
      have K1 := Aside0.mk ((Kept.refl w (fun k => k = mb ∨ k = bo ∨ K0 ≤ k)).drewN nq)
      have XM1 := Aside0.mk (xm.d nq)
      have XO1 := Aside0.mk (xo.d nq)
      have HR1 := Aside0.mk (Kd.R_drewN hr nq)
      have HM1 : Aside0 ((w.drewN nq).ownsMap Tryd.prog 9 (plainElem Tryd.prog 3) mb n D) := ⟨ho⟩
      clear cm co fo q1 hlook xm xo hr ho HI HB
      generalize w.drewN nq = w1 at *
      have hlook2 : (Instr.lookup 71 (.map (some mb)) (.string x.f1) false).run Tryd.prog { heap := w1.heap, tape := w1.tape, drawn := w1.drawn + 1, os := w1.os, output := w1.output } = .ok (.int .i64 0) { heap := w1.heap, tape := w1.tape, drawn := w1.drawn + 1, os := w1.os, output := w1.output } := hlook1
      go_wp2_with fail
      go_still_tail 7, (by kernel_rfl)
      change wpList _ _ _ _ _ w1.drew
      obtain ⟨w2, hupd, hown2, hgr2⟩ := (show w1.drew.ownsMap Tryd.prog 9 (plainElem Tryd.prog 3) mb n D from HM1.out).update keyLaw Tryd.underlying71 (val := .int .i64 1) (by unfold maxLen; omega) hkey (plainElem_int Tryd.underlying3 (by decide))
      have B2 := Aside0.mk (pw_below_grown (below_drew B1.out) (some mb) (by have := B1.out.size; exact this) hgr2 (fun k hk => by cases hk; exact hmb))
      have K2 := Aside0.mk (Kept.of_grown hgr2 (Kept.drew K1.out) (fun k hk => by cases hk; exact .inl (.inl rfl)))
      have KK := Kept.of_grown hgr2 (Kept.refl w1.drew (fun k => k = mb)) (fun k hk => by cases hk; exact .inl rfl)
      have XM2 := Aside0.mk ((show Box bm _ _ w1.drew from XM1.out).keep KK h1)
      have XO2 := Aside0.mk ((show Box bo _ _ w1.drew from XO1.out).keep KK (fun h => h3 h.symm))
      have HR2 := Aside0.mk (Kd.R_kept (Kd.R_drew HR1.out) KK (fun k hk h => by subst h; exact absurd hm.2.1 (Nat.not_lt.2 hk)))
      have q12 : w2.cell? ⟨p.block, p.off + 1, none⟩ = some (.string x.f1) := cell_kept (W := w1.drew) q11 KK (fun h => hp (.inl h))
      have HMo2 := Aside0.mk hown2
      clear hlook1 hlook2 hgr2 hown2 KK B1 K1 XM1 XO1 HR1 HM1 q11 cm1
      go_wp2_with fail
      rw [hupd]
      clear hupd
      have hK2 : K0 ≤ w2.drew.heap.size := Nat.le_trans hZ K2.out.1
      have hs2 : w0.heap.size ≤ w2.drew.heap.size := B2.out.size
      have co2 := XO2.out.cell
      go_wp2_with fail
      refine start_ (n := 8) (S := fun w' => w'.cell? ⟨bo, 0, none⟩ = some v ∧ w'.cell? ⟨p.block, p.off + 1, none⟩ = some (.string x.f1)) (ds := [7]) #[false, false, false, false, false, false, false, false] (by kernel_rfl) rfl rfl ⟨co2, q12⟩ (fun hHeld => ?_)
      refine pure_ (i := 1) (N := some 22) (v := ?_) (a' := ?_) #[false, true, false, false, false, false, false, false] rfl rfl (by kernel_rfl) (fun _ _ _ h => h) (Or.inl ⟨by rfl, ?_⟩) ?_ ?_
      rotate_left
      · intro w'
        go_simp
        with_reducible rfl
      rotate_left
      · simp only [Act.put, List.setIfInBounds_toArray, List.set_cons_zero, List.set_cons_succ, i64_w, i32_w]
        rfl
      refine pure_ (i := 2) (N := some 23) (v := ?_) (a' := ?_) #[false, true, true, false, false, false, false, false] rfl rfl (by kernel_rfl) (fun _ _ _ h => h) (Or.inl ⟨by rfl, ?_⟩) ?_ ?_
      rotate_left
      · intro w'
        go_simp
        with_reducible rfl
      rotate_left
      · simp only [Act.put, List.setIfInBounds_toArray, List.set_cons_zero, List.set_cons_succ, i64_w, i32_w]
        rfl
      refine pure_ (i := 3) (N := some 24) (v := ?_) (a' := ?_) #[false, true, true, true, false, false, false, false] rfl rfl (by kernel_rfl) (fun _ _ _ h => h) (Or.inl ⟨by rfl, ?_⟩) ?_ ?_
      rotate_left
      · intro w'
        go_simp
        with_reducible rfl
      rotate_left
      · simp only [Act.put, List.setIfInBounds_toArray, List.set_cons_zero, List.set_cons_succ, i64_w, i32_w]
        rfl
      refine take_ (i := 0) (N := some 21) (v := ?_) (a' := ?_) #[true, true, true, true, false, false, false, false] rfl rfl (by kernel_rfl) (fun _ _ _ h => h) (Or.inl ⟨by rfl, ?_⟩) hHeld ?_ ?_
      rotate_left
      · rintro w' ⟨s0, s1⟩
        go_simp
        with_reducible rfl
      rotate_left
      · simp only [Act.put, List.setIfInBounds_toArray, List.set_cons_zero, List.set_cons_succ, i64_w, i32_w]
        rfl
      refine take_ (i := 4) (N := some 25) (v := ?_) (a' := ?_) #[true, true, true, true, true, false, false, false] rfl rfl (by kernel_rfl) (fun _ _ _ h => h) (Or.inl ⟨by rfl, ?_⟩) hHeld ?_ ?_
      rotate_left
      · rintro w' ⟨s0, s1⟩
        go_simp
        with_reducible rfl
      rotate_left
      · simp only [Act.put, List.setIfInBounds_toArray, List.set_cons_zero, List.set_cons_succ, i64_w, i32_w]
        rfl
      refine one_ (i := 5) (N := some 26) #[true, true, true, true, true, true, false, false] rfl rfl (by kernel_rfl) (by decide) (fun K hK => ?_)
      refine value_ (w1 := ?_) (v := ?_) (by rfl) rfl ?_ ?_
      rotate_left 2
      · go_simp
        constructor
        · rfl
        · rfl
      refine hK.out _ _ ⟨(cell_alloc _ co2), (cell_alloc _ q12)⟩ (fun hHeld => ?_)
      clear hK K
      refine norm_ (a' := ?_) ?_ ?_
      rotate_left
      · show Act.put _ (some 26) _ = _
        simp only [Act.put, List.setIfInBounds_toArray, List.set_cons_zero, List.set_cons_succ, i64_w, i32_w]
        rfl
      refine one_ (i := 6) (N := some 27) #[true, true, true, true, true, true, true, false] rfl rfl (by kernel_rfl) (by decide) (fun K hK => ?_)
      refine Kd.R_append_step kS (w0 := w0) w0.heap.size (by rfl) (.tmp 21) (.tmp 26) 28 9 (.string nil8) 16 rfl Tryd.underlying28 info9 rfl (by decide) (by omega) v s x.f1 [.string x.f1] (fun k => K0 ≤ k) (fun _ => False) rfl rfl ?aP (fun _ hk => hk.elim) ?aF (Kd.R_drew HR2.out) ?aB ?aS ?aL ?_
      case aP => exact rfl
      case aF => exact fun k hk => Nat.le_trans hK2 hk
      case aB => exact below_drew B2.out
      case aS => exact hs2
      case aL => omega
      intro v1 w3 ho hb hg hat
      obtain ⟨A1, n1, c1, hv1⟩ := R_is_slice ho
      subst hv1
      have KA := Kept.of_grown hg (Kept.refl w2.drew (fun k => K0 ≤ k)) (fun k hk => .inl (HR2.out.1 k hk))
      have XO3 := (show Box bo _ _ w2.drew from XO2.out).keep KA (fun h => Nat.lt_irrefl _ (Nat.lt_of_lt_of_le hm.2.2 h))
      have fo3 := XO3.free
      have co3 := XO3.cell
      refine hK.out _ _ ⟨co3, (cell_kept (W := w2.drew) q12 KA (fun h => hp (.inr (.inr h))))⟩ (fun hHeld => ?_)
      clear hK K
      refine norm_ (a' := ?_) ?_ ?_
      rotate_left
      · show Act.put _ (some 27) _ = _
        simp only [Act.put, List.setIfInBounds_toArray, List.set_cons_zero, List.set_cons_succ, i64_w, i32_w]
        rfl
      refine last_ (i := 7) (N := none) #[true, true, true, true, true, true, true, true] rfl rfl (by kernel_rfl) (by decide) (fun K hK => ?_)
      refine skip_ (w1 := ?_) (by rfl) rfl ?_ ?_
      rotate_left
      · go_simp
        rfl
      refine hK.out _ _ ?_
      clear hK K
      refine done_ (by kernel_rfl) ?_

      have XO4 := Aside0.mk (XO3.set (u := .slice A1 n1 c1))
      have KS := Aside0.mk ((Kept.refl w3 (fun k => k = bo)).setCell (p := ⟨bo, 0, none⟩) (.inl rfl) (.slice A1 n1 c1))
      have XM4 := Aside0.mk (((show Box bm _ _ w2.drew from XM2.out).keep KA (fun h => Nat.lt_irrefl _ (Nat.lt_of_lt_of_le hm.1 h))).keep KS.out h2)
      have HR4 := Aside0.mk (Kd.R_kept ho KS.out (fun k hk h => by subst h; exact absurd hm.2.2 (Nat.not_lt.2 hk)))
      have HMo4 := Aside0.mk (((show w2.drew.ownsMap _ _ _ mb _ _ from HMo2.out).kept hg (fun h => by have := HR2.out.1 mb h.symm; exact absurd hm.2.1 (Nat.not_lt.2 this))).setCell (a := ⟨bo, 0, none⟩) h3 (.slice A1 n1 c1))
      have B4 := Aside0.mk (hb.setCell (p := ⟨bo, 0, none⟩) hbo (.slice A1 n1 c1))
      have K4 := Aside0.mk (((K2.out.drew).then_ KA (fun k hk => .inl (.inr (.inr hk)))).then_ KS.out (fun k hk => .inl (.inr (.inl hk))))
      clear XO3 ho hb hg hat KA
      go_wp2
      go_ret
      exact ⟨rfl, ⟨XM4.out, ⟨_, XO4.out, HR4.out⟩, ⟨n + 1, _, HMo4.out, by rw [List.length_append]; simp; omega, hmap.put _ _, hmet.put hmap _⟩⟩, B4.out, K4.out⟩
end Go.Proofs.YtjeofffddbibeaaDoor.Ex
