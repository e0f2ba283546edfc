/-
  Part 4 of what the row stands on, put together by a program: LxD, LxE, LxF, LxG, LxH, LxP, LxT, PPar, Par1, Par2, Par3, ParM, ParE, ParF, ParG, Bkp, EqI, ExprS, PbP, ParJ.
-/
import Derived.Laws.RangeString
import Derived.Lib.AtoiAllCases
import Derived.Lib.ItoaMem
import Derived.Lib.ParseIntBTie
import Derived.Lib.SliceRun
import Derived.WalkMore
import Derived.Test.YtcinojbfjiohjaaGreatDoorPwC
section
namespace Go.Proofs.YtcinojbfjiohjaaGreatDoor.Lx
open Go Go.RowKit Go.Proofs.YtcinojbfjiohjaaGreatDoor.PPrintTells Go.Proofs.YtcinojbfjiohjaaGreatDoor.Ex Go.Proofs.YtcinojbfjiohjaaGreatDoor.Civ Go.Proofs.YtcinojbfjiohjaaGreatDoorW.PrintWords Go.Proofs.YtcinojbfjiohjaaGreatDoorW.PrintLast Go.Proofs.YtcinojbfjiohjaaGreatDoorW.PrintMore
set_option linter.unusedVariables false
set_option linter.unusedSimpArgs false
def marksL : List UInt8 := [40, 41, 44, 61, 58, 91, 93]
abbrev MARKS : ByteArray := ⟨#[40, 41, 44, 61, 58, 91, 93]⟩
abbrev BLNK : ByteArray := ⟨#[32, 9]⟩
def markB (b : UInt8) : Bool := marksL.contains b
def blankB (b : UInt8) : Bool := [32, 9].contains b
def nextL : List UInt8 → Tok × Nat × Bool
  | [] => (⟨0, nil8, 0⟩, 0, false)
  | b :: l =>
    if markB b = true then (⟨4, toB [b], 0⟩, 1, true)
    else if b.toNat = 64 then (⟨3, nil8, (readF (toB (l.take (spanN dashB l)))).1⟩, spanN dashB l + 1, decide ((readF (toB (l.take (spanN dashB l)))).2 = 0))
    else if b.toNat = 45 ∨ digitB b = true then (⟨2, nil8, (numT (b :: l.take (spanN letterB l))).1⟩, spanN letterB l + 1, (numT (b :: l.take (spanN letterB l))).2)
    else (⟨1, toB ((b :: l).take (spanN letterB (b :: l))), 0⟩, spanN letterB (b :: l), namedL ((b :: l).take (spanN letterB (b :: l))))
theorem ext_toB' (l : List UInt8) (i j : Nat) : (toB l).extract i j = toB ((l.drop i).take (j - i)) := by
  apply ByteArray.ext
  apply Array.toList_inj.1
  have h : ((toB l).extract i j).data.toList = ((toB l).data.toList.drop i).take (j - i) := by rw [Lib.extract_data]; first | done | simp
  rw [h, toB_list]
  exact (toB_list _).symm
theorem ext_list (s : ByteArray) (i n : Nat) : s.extract i (i + n) = toB ((s.data.toList.drop i).take n) := by
  have h := ext_toB' s.data.toList i (i + n)
  have e : Civ.toB s.data.toList = s := by cases s; rfl
  rw [e, show i + n - i = n by omega] at h
  exact h
theorem ext_size (s : ByteArray) (i j : Nat) : (s.extract i j).size ≤ s.size := by
  rw [ByteArray.size_extract]
  omega
theorem nextL_else {b : UInt8} {l : List UInt8} (h : ¬ (markB b = true)) : nextL (b :: l) =
    (if b.toNat = 64 then (⟨3, nil8, (readF (toB (l.take (spanN dashB l)))).1⟩, spanN dashB l + 1, decide ((readF (toB (l.take (spanN dashB l)))).2 = 0))
    else if b.toNat = 45 ∨ digitB b = true then (⟨2, nil8, (numT (b :: l.take (spanN letterB l))).1⟩, spanN letterB l + 1, (numT (b :: l.take (spanN letterB l))).2)
    else (⟨1, toB ((b :: l).take (spanN letterB (b :: l))), 0⟩, spanN letterB (b :: l), namedL ((b :: l).take (spanN letterB (b :: l))))) := if_neg h
theorem run_to (p : UInt8 → Bool) (g : FuncId) (eg : ∀ args w, (callFunc g args).run Tryz.prog w = .ok (.enter g args) w) (hp : ∀ (b : UInt8) w, Calls Tryz.prog g #[.int .i32 (b.toNat : Int)] w fun e w' => e = .returned (.bool (p b)) ∧ Lt w w')
    (s : ByteArray) (a : Nat) (ha : a ≤ s.size) (hs : s.size < 4294967281) (n : Nat) (hn : n = spanN p (s.data.toList.drop a)) (W : World) :
    Calls Tryz.prog 86 #[.string s, .int .i64 (a : Int), .func (.func g) #[] #[]] W fun e w' => e = .returned (.int .i64 ((a : Int) + (n : Int))) ∧ Lt W w' :=
  (run_calls p g eg hp s a ha (by omega) W).mono fun e w' ⟨he, hl⟩ => ⟨by rw [he, ← hn, Int.natCast_add], hl⟩
theorem blk_newW (w : World) : ((w.alloc zTok).alloc zTok).heap[w.heap.size + 1]? = some zTok := by
  have h := blk_new (w.alloc zTok) zTok
  rwa [show (w.alloc zTok).heap.size = w.heap.size + 1 from Array.size_push ..] at h
set_option maxHeartbeats 8000000 in
set_option maxRecDepth 100000 in
theorem next_calls (s : ByteArray) (at0 : Nat) (b : UInt8) (l : List UInt8) (hL : s.data.toList.drop at0 = b :: l) (hs : s.size < 4294967281) (w : World) (hC : LCal w) :
    Calls Tryz.prog 43 #[.string s, .int .i64 (at0 : Int)] w fun e w' => e = .returned (.tuple #[tokV (nextL (b :: l)).1, .int .i64 ((at0 + (nextL (b :: l)).2.1 : Nat) : Int), .bool (nextL (b :: l)).2.2]) ∧ Lt w w' := by
  have hsz : s.size = s.data.toList.length := (Array.length_toList).symm
  have hlen : s.size = at0 + (l.length + 1) := by
    have h := congrArg List.length hL
    rw [List.length_drop, List.length_cons] at h
    omega
  have hL1 : s.data.toList.drop (at0 + 1) = l := by
    have h : (s.data.toList.drop at0).drop 1 = l := by rw [hL]; rfl
    rwa [List.drop_drop] at h
  have h0 : at0 < s.size := by omega
  have h1 : (at0 : Int) < (s.size : Int) := by omega
  have i1 : decide ((at0 : Int) < (s.size : Int)) = true := decide_eq_true h1
  have i2 : (0 : Int) ≤ (at0 : Int) := by omega
  have i3 : decide ((0 : Int) ≤ (at0 : Int)) = true := decide_eq_true i2
  have i4 : ¬ ((at0 : Int) < 0) := by omega
  have i5 : ¬ ((s.size : Int) ≤ (at0 : Int)) := by omega
  have hb : s[at0] = b := by
    have e : s.data.toList[at0]? = some b := by
      have h : (s.data.toList.drop at0)[0]? = some b := by rw [hL]; rfl
      rwa [List.getElem?_drop, Nat.add_zero] at h
    rw [List.getElem?_eq_getElem (by rw [Array.length_toList]; exact h0)] at e
    exact Option.some.inj e
  have hbb : ((b.toNat : Int).toNat.toUInt8) = b := by simp
  have CI := Aside0.mk (fun w => Tryz.strings_IndexByte MARKS (b.toNat : Int) w)
  rw [hbb] at CI
  have hm : decide (Lib.indexByte MARKS.data.toList b ≥ 0) = markB b := by
    rw [Bool.eq_iff_iff, decide_eq_true_eq]
    exact indexByte_ge marksL b
  have LE : ∀ args w, (callFunc 88 args).run Tryz.prog w = .ok (.enter 88 args) w := fun args w => by kernel_rfl
  have DE : ∀ args w, (callFunc 87 args).run Tryz.prog w = .ok (.enter 87 args) w := fun args w => by kernel_rfl
  have HC := Aside0.mk hC
  obtain ⟨j, hj⟩ : ∃ j, j = Lib.indexByte MARKS.data.toList b := ⟨_, rfl⟩
  rw [← hj] at CI hm
  have HH := Aside0.mk ((Lt.refl w).a zTok)
  have HW := Aside0.mk (((Lt.refl w).a zTok).a zTok)
  by_cases hmk : markB b = true
  · have hn : nextL (b :: l) = (⟨4, toB [b], 0⟩, 1, true) := by show (if markB b = true then _ else _) = _; rw [if_pos hmk]
    have hx : s.extract at0 (at0 + 1) = toB [b] := by rw [ext_list, hL]; rfl
    rw [hn]
    rw [hmk] at hm
    have hm' : (j ≥ 0) := by simpa using hm
    clear hn hmk hC hL hL1 LE DE hj hbb hlen hsz
    go_enter Tryz.func43, Tryz.ntmps43
    go_wp2_with fail
    (with_reducible refine (CI.out _).mono ?_)
    rintro e w2 ⟨rfl, rfl⟩
    go_wp2_with fail
    refine bodyPost_ret (results_ctt rfl _ _ _ TT _ (0, 0) _ rfl (blk_alloc (blk_new w _) _) Tryz.underlying51 rfl info_tk) rfl ?_
    exact ⟨by first | rfl | go_num, ((Lt.refl _).a _).a _⟩
  · have hn := nextL_else hmk (l := l)
    have hm' : ¬ (j ≥ 0) := fun h => hmk (by rw [← hm]; exact decide_eq_true h)
    have hm2 : decide (j ≥ 0) = false := decide_eq_false hm'
    have RUN := fun (p : UInt8 → Bool) (g : FuncId) (eg) (hp) (a : Nat) (ha) (n : Nat) (hn : n = spanN p (s.data.toList.drop a)) (W : World) => run_to p g eg hp s a ha hs n hn W
    clear hm hbb hj hC
    by_cases h64 : b.toNat = 64
    · have e1 : ((b.toNat : Int) == 64) = true := beq_iff_eq.2 (by omega)
      rw [if_pos h64] at hn
      obtain ⟨n, hn1⟩ : ∃ n, n = spanN dashB l := ⟨_, rfl⟩
      have hnl := span_le dashB l
      rw [← hn1] at hn hnl
      obtain ⟨T, hT⟩ : ∃ T, T = toB (l.take n) := ⟨_, rfl⟩
      rw [← hT] at hn
      have hx : s.extract (at0 + 1) (at0 + 1 + n) = T := by rw [ext_list, hL1, hT]
      have hts : T.size < 4294967281 := by rw [← hx]; have := ext_size s (at0 + 1) (at0 + 1 + n); omega
      have CD := fun W h => Aside0.mk (dated_calls T W h hts)
      have CR := fun W => Aside0.mk (RUN dashB _ DE dash_calls (at0 + 1) (by omega) n (by rw [hL1]; exact hn1) W)
      rw [Int.natCast_add, Int.natCast_one] at CR
      obtain ⟨d, ok, hd⟩ : ∃ d ok, readF T = (d, ok) := ⟨_, _, rfl⟩
      rw [hd] at hn CD
      dsimp only at hn CD
      rw [hn]
      generalize decide (ok = 0) = okb at *
      have k1 : (at0 : Int) + 1 + (n : Int) ≤ (s.size : Int) := by omega
      have k2 : (at0 : Int) + 1 ≤ (at0 : Int) + 1 + (n : Int) := by omega
      have k3 : (0 : Int) ≤ (at0 : Int) + 1 := by omega
      have k4 : (at0 : Int) + 1 ≤ (s.size : Int) := by omega
      clear hn hmk h64 hL hL1 LE DE hlen hsz hn1 hT hd hts RUN hnl
      go_enter Tryz.func43, Tryz.ntmps43
      go_wp2_with fail
      (with_reducible refine (CI.out _).mono ?_)
      rintro e w2 ⟨rfl, rfl⟩
      go_wp2_with fail
      (with_reducible refine (CR _).out.mono ?_)
      rintro e w3 ⟨rfl, hl⟩
      have HW := Aside0.mk (HW.out.trans hl)
      have b3 := blk_lt_on hl (blk_alloc (blk_new w zTok) zTok)
      have c3 := blk_lt_on hl (blk_newW w)
      clear hl CR
      go_wp2_with fail
      (with_reducible refine (CD _ (HC.out.l HW.out)).out.mono ?_)
      rintro e w4 ⟨rfl, hl⟩
      have HW := Aside0.mk (HW.out.trans hl)
      have b4 := blk_lt_on hl b3
      have c4 := blk_lt_on hl c3
      clear hl CD b3 c3
      obtain ⟨z0, z1, z2⟩ := cells3 b4
      obtain ⟨y0, y1, y2⟩ := free3 b4
      obtain ⟨q0, q1, q2⟩ := cells3 c4
      obtain ⟨r0, r1, r2⟩ := free3 c4
      have hne : ¬ (w.heap.size = w.heap.size + 1) := by omega
      have hne2 : ¬ (w.heap.size + 1 = w.heap.size) := by omega
      go_wp2_with fail
      refine bodyPost_ret (results_ctt rfl _ _ _ TT _ (0, 0) _ rfl (blk_put (blk_put (blk_put (blk_far (blk_far (blk_far b4 hne _) hne _) hne _) 0 _ rfl) 1 _ rfl) 2 _ rfl) Tryz.underlying51 rfl info_tk) rfl ?_
      exact ⟨by first | rfl | go_num, Lt_s (Lt_s (Lt_s (Lt_s (Lt_s (Lt_s HW.out (Nat.le_succ _)) (Nat.le_succ _)) (Nat.le_succ _)) (Nat.le_refl _)) (Nat.le_refl _)) (Nat.le_refl _)⟩
    · have e0 : ((b.toNat : Int) == 64) = false := beq_eq_false_iff_ne.2 (by omega)
      rw [if_neg h64] at hn
      have hdg : digitB b = (decide (48 ≤ b.toNat) && decide (b.toNat ≤ 57)) := rfl
      have head : b.toNat = 45 ∨ digitB b = true → Calls Tryz.prog 43 #[.string s, .int .i64 (at0 : Int)] w fun e w' => e = .returned (.tuple #[tokV (nextL (b :: l)).1, .int .i64 ((at0 + (nextL (b :: l)).2.1 : Nat) : Int), .bool (nextL (b :: l)).2.2]) ∧ Lt w w' := by
        intro hnum
        rw [if_pos hnum] at hn
        obtain ⟨n, hn1⟩ : ∃ n, n = spanN letterB l := ⟨_, rfl⟩
        have hnl := span_le letterB l
        rw [← hn1] at hn hnl
        obtain ⟨T, hT⟩ : ∃ T, T = toB (b :: l.take n) := ⟨_, rfl⟩
        have hTl : T.data.toList = b :: l.take n := by rw [hT]; exact toB_list _
        rw [← hTl] at hn
        have hx : s.extract at0 (at0 + 1 + n) = T := by rw [show at0 + 1 + n = at0 + (n + 1) by omega, ext_list, hL, hT]; rfl
        have hts : T.size ≤ 281474976710656 := by rw [← hx]; have := ext_size s at0 (at0 + 1 + n); omega
        have CD := fun W h => Aside0.mk (numbered_calls T W h hts)
        have CR := fun W => Aside0.mk (RUN letterB _ LE letter_calls (at0 + 1) (by omega) n (by rw [hL1]; exact hn1) W)
        rw [Int.natCast_add, Int.natCast_one] at CR
        obtain ⟨d, okb, hd⟩ : ∃ d ok, numT T.data.toList = (d, ok) := ⟨_, _, rfl⟩
        rw [hd] at hn CD
        dsimp only at hn CD
        rw [hn]
        have k1 : (at0 : Int) + 1 + (n : Int) ≤ (s.size : Int) := by omega
        have k2 : (at0 : Int) ≤ (at0 : Int) + 1 + (n : Int) := by omega
        have k3 : (0 : Int) ≤ (at0 : Int) + 1 := by omega
        have k4 : (at0 : Int) + 1 ≤ (s.size : Int) := by omega
        by_cases h45 : b.toNat = 45
        · have e2 : ((b.toNat : Int) == 45) = true := beq_iff_eq.2 (by omega)
          clear hn hmk h64 hL hL1 LE DE hlen hsz hn1 hT hTl hd hts RUN hnl hnum h45 hdg
          go_enter Tryz.func43, Tryz.ntmps43
          go_wp2_with fail
          (with_reducible refine (CI.out _).mono ?_)
          rintro e w2 ⟨rfl, rfl⟩
          go_wp2_with fail
          (with_reducible refine (CR _).out.mono ?_)
          rintro e w3 ⟨rfl, hl⟩
          have HW := Aside0.mk (HW.out.trans hl)
          have b3 := blk_lt_on hl (blk_alloc (blk_new w zTok) zTok)
          have c3 := blk_lt_on hl (blk_newW w)
          clear hl CR
          go_wp2_with fail
          (with_reducible refine (CD _ (HC.out.l HW.out)).out.mono ?_)
          rintro e w4 ⟨rfl, hl⟩
          have HW := Aside0.mk (HW.out.trans hl)
          have b4 := blk_lt_on hl b3
          have c4 := blk_lt_on hl c3
          clear hl CD b3 c3
          obtain ⟨z0, z1, z2⟩ := cells3 b4
          obtain ⟨y0, y1, y2⟩ := free3 b4
          obtain ⟨q0, q1, q2⟩ := cells3 c4
          obtain ⟨r0, r1, r2⟩ := free3 c4
          have hne : ¬ (w.heap.size = w.heap.size + 1) := by omega
          have hne2 : ¬ (w.heap.size + 1 = w.heap.size) := by omega
          go_wp2_with fail
          refine bodyPost_ret (results_ctt rfl _ _ _ TT _ (0, 0) _ rfl (blk_put (blk_put (blk_put (blk_far (blk_far (blk_far b4 hne _) hne _) hne _) 0 _ rfl) 1 _ rfl) 2 _ rfl) Tryz.underlying51 rfl info_tk) rfl ?_
          exact ⟨by first | rfl | go_num, Lt_s (Lt_s (Lt_s (Lt_s (Lt_s (Lt_s HW.out (Nat.le_succ _)) (Nat.le_succ _)) (Nat.le_succ _)) (Nat.le_refl _)) (Nat.le_refl _)) (Nat.le_refl _)⟩
        · have e2 : ((b.toNat : Int) == 45) = false := beq_eq_false_iff_ne.2 (by omega)
          have hdd : digitB b = true := hnum.resolve_left h45
          rw [hdg, Bool.and_eq_true, decide_eq_true_eq, decide_eq_true_eq] at hdd
          have e3 : (48 : Int) ≤ (b.toNat : Int) := by omega
          have e4 : decide ((48 : Int) ≤ (b.toNat : Int)) = true := decide_eq_true e3
          have e5 : (b.toNat : Int) ≤ 57 := by omega
          have e6 : decide ((b.toNat : Int) ≤ 57) = true := decide_eq_true e5
          clear hn hmk h64 hL hL1 LE DE hlen hsz hn1 hT hTl hd hts RUN hnl hnum h45 hdg hdd
          go_enter Tryz.func43, Tryz.ntmps43
          go_wp2_with fail
          (with_reducible refine (CI.out _).mono ?_)
          rintro e w2 ⟨rfl, rfl⟩
          go_wp2_with fail
          (with_reducible refine (CR _).out.mono ?_)
          rintro e w3 ⟨rfl, hl⟩
          have HW := Aside0.mk (HW.out.trans hl)
          have b3 := blk_lt_on hl (blk_alloc (blk_new w zTok) zTok)
          have c3 := blk_lt_on hl (blk_newW w)
          clear hl CR
          go_wp2_with fail
          (with_reducible refine (CD _ (HC.out.l HW.out)).out.mono ?_)
          rintro e w4 ⟨rfl, hl⟩
          have HW := Aside0.mk (HW.out.trans hl)
          have b4 := blk_lt_on hl b3
          have c4 := blk_lt_on hl c3
          clear hl CD b3 c3
          obtain ⟨z0, z1, z2⟩ := cells3 b4
          obtain ⟨y0, y1, y2⟩ := free3 b4
          obtain ⟨q0, q1, q2⟩ := cells3 c4
          obtain ⟨r0, r1, r2⟩ := free3 c4
          have hne : ¬ (w.heap.size = w.heap.size + 1) := by omega
          have hne2 : ¬ (w.heap.size + 1 = w.heap.size) := by omega
          go_wp2_with fail
          refine bodyPost_ret (results_ctt rfl _ _ _ TT _ (0, 0) _ rfl (blk_put (blk_put (blk_put (blk_far (blk_far (blk_far b4 hne _) hne _) hne _) 0 _ rfl) 1 _ rfl) 2 _ rfl) Tryz.underlying51 rfl info_tk) rfl ?_
          exact ⟨by first | rfl | go_num, Lt_s (Lt_s (Lt_s (Lt_s (Lt_s (Lt_s HW.out (Nat.le_succ _)) (Nat.le_succ _)) (Nat.le_succ _)) (Nat.le_refl _)) (Nat.le_refl _)) (Nat.le_refl _)⟩
      by_cases hnum : b.toNat = 45 ∨ digitB b = true
      · exact head hnum
      clear head
      rw [if_neg hnum] at hn
      have e2 : ((b.toNat : Int) == 45) = false := beq_eq_false_iff_ne.2 (by omega)
      obtain ⟨n, hn1⟩ : ∃ n, n = spanN letterB (b :: l) := ⟨_, rfl⟩
      have hnl := span_le letterB (b :: l)
      rw [List.length_cons] at hnl
      rw [← hn1] at hn hnl
      obtain ⟨T, hT⟩ : ∃ T, T = toB ((b :: l).take n) := ⟨_, rfl⟩
      have hTl : T.data.toList = (b :: l).take n := by rw [hT]; exact toB_list _
      rw [← hT, ← hTl] at hn
      have hx : s.extract at0 (at0 + n) = T := by rw [ext_list, hL, hT]
      have hts : T.size ≤ 9223372036854775807 := by rw [← hx]; have := ext_size s at0 (at0 + n); omega
      have CD := fun W (h : LCal W) => Aside0.mk (named_calls T W hts)
      have CR := fun W => Aside0.mk (RUN letterB _ LE letter_calls at0 (by omega) n (by rw [hL]; exact hn1) W)
      generalize namedL T.data.toList = okb at *
      rw [hn]
      have k1 : (at0 : Int) + (n : Int) ≤ (s.size : Int) := by omega
      have k2 : (at0 : Int) ≤ (at0 : Int) + (n : Int) := by omega
      have k4 : (at0 : Int) + 1 ≤ (s.size : Int) := by omega
      have hdd : ¬ (48 ≤ b.toNat ∧ b.toNat ≤ 57) := by
        intro h
        apply hnum
        right
        rw [hdg, decide_eq_true h.1, decide_eq_true h.2]
        rfl
      by_cases h48 : 48 ≤ b.toNat
      · have e3 : (48 : Int) ≤ (b.toNat : Int) := by omega
        have e4 : decide ((48 : Int) ≤ (b.toNat : Int)) = true := decide_eq_true e3
        have e5 : ¬ (b.toNat : Int) ≤ 57 := by omega
        have e6 : decide ((b.toNat : Int) ≤ 57) = false := decide_eq_false e5
        clear hn hmk h64 hL hL1 LE DE hlen hsz hn1 hT hTl hts RUN hnl hnum hdg hdd h48
        go_enter Tryz.func43, Tryz.ntmps43
        go_wp2_with fail
        (with_reducible refine (CI.out _).mono ?_)
        rintro e w2 ⟨rfl, rfl⟩
        go_wp2_with fail
        (with_reducible refine (CR _).out.mono ?_)
        rintro e w3 ⟨rfl, hl⟩
        have HW := Aside0.mk (HW.out.trans hl)
        have b3 := blk_lt_on hl (blk_alloc (blk_new w zTok) zTok)
        have c3 := blk_lt_on hl (blk_newW w)
        clear hl CR
        go_wp2_with fail
        (with_reducible refine (CD _ (HC.out.l HW.out)).out.mono ?_)
        rintro e w4 ⟨rfl, hl⟩
        have HW := Aside0.mk (HW.out.trans hl)
        have b4 := blk_lt_on hl b3
        have c4 := blk_lt_on hl c3
        clear hl CD b3 c3
        obtain ⟨z0, z1, z2⟩ := cells3 b4
        obtain ⟨y0, y1, y2⟩ := free3 b4
        obtain ⟨q0, q1, q2⟩ := cells3 c4
        obtain ⟨r0, r1, r2⟩ := free3 c4
        have hne : ¬ (w.heap.size = w.heap.size + 1) := by omega
        have hne2 : ¬ (w.heap.size + 1 = w.heap.size) := by omega
        go_wp2_with fail
        refine bodyPost_ret (results_ctt rfl _ _ _ TT _ (0, 0) _ rfl (blk_put (blk_put (blk_put (blk_far (blk_far (blk_far b4 hne _) hne _) hne _) 0 _ rfl) 1 _ rfl) 2 _ rfl) Tryz.underlying51 rfl info_tk) rfl ?_
        exact ⟨by first | rfl | go_num, Lt_s (Lt_s (Lt_s (Lt_s (Lt_s (Lt_s HW.out (Nat.le_succ _)) (Nat.le_succ _)) (Nat.le_succ _)) (Nat.le_refl _)) (Nat.le_refl _)) (Nat.le_refl _)⟩
      · have e3 : ¬ (48 : Int) ≤ (b.toNat : Int) := by omega
        have e4 : decide ((48 : Int) ≤ (b.toNat : Int)) = false := decide_eq_false e3
        clear hn hmk h64 hL hL1 LE DE hlen hsz hn1 hT hTl hts RUN hnl hnum hdg hdd h48
        go_enter Tryz.func43, Tryz.ntmps43
        go_wp2_with fail
        (with_reducible refine (CI.out _).mono ?_)
        rintro e w2 ⟨rfl, rfl⟩
        go_wp2_with fail
        (with_reducible refine (CR _).out.mono ?_)
        rintro e w3 ⟨rfl, hl⟩
        have HW := Aside0.mk (HW.out.trans hl)
        have b3 := blk_lt_on hl (blk_alloc (blk_new w zTok) zTok)
        have c3 := blk_lt_on hl (blk_newW w)
        clear hl CR
        go_wp2_with fail
        (with_reducible refine (CD _ (HC.out.l HW.out)).out.mono ?_)
        rintro e w4 ⟨rfl, hl⟩
        have HW := Aside0.mk (HW.out.trans hl)
        have b4 := blk_lt_on hl b3
        have c4 := blk_lt_on hl c3
        clear hl CD b3 c3
        obtain ⟨z0, z1, z2⟩ := cells3 b4
        obtain ⟨y0, y1, y2⟩ := free3 b4
        obtain ⟨q0, q1, q2⟩ := cells3 c4
        obtain ⟨r0, r1, r2⟩ := free3 c4
        have hne : ¬ (w.heap.size = w.heap.size + 1) := by omega
        have hne2 : ¬ (w.heap.size + 1 = w.heap.size) := by omega
        go_wp2_with fail
        refine bodyPost_ret (results_ctt rfl _ _ _ TT _ (0, 0) _ rfl (blk_put (blk_put (blk_put (blk_far (blk_far (blk_far b4 hne _) hne _) hne _) 0 _ rfl) 1 _ rfl) 2 _ rfl) Tryz.underlying51 rfl info_tk) rfl ?_
        exact ⟨by first | rfl | go_num, Lt_s (Lt_s (Lt_s (Lt_s (Lt_s (Lt_s HW.out (Nat.le_succ _)) (Nat.le_succ _)) (Nat.le_succ _)) (Nat.le_refl _)) (Nat.le_refl _)) (Nat.le_refl _)⟩
end Go.Proofs.YtcinojbfjiohjaaGreatDoor.Lx
end

section
namespace Go.Proofs.YtcinojbfjiohjaaGreatDoor.Lx
open Go Go.RowKit Go.Proofs.YtcinojbfjiohjaaGreatDoor.PPrintTells Go.Proofs.YtcinojbfjiohjaaGreatDoor.Ex Go.Proofs.YtcinojbfjiohjaaGreatDoor.Civ Go.Proofs.YtcinojbfjiohjaaGreatDoorW.PrintWords Go.Proofs.YtcinojbfjiohjaaGreatDoorW.PrintLast Go.Proofs.YtcinojbfjiohjaaGreatDoorW.PrintMore
set_option linter.unusedVariables false
set_option linter.unusedSimpArgs false
def consE (t : List Tok) (k : Nat) (r : List Tok × Int) : List Tok × Int := if r.2 = -1 then (t ++ r.1, -1) else ([], r.2 + k)
def lexN : Nat → List UInt8 → List Tok × Int
  | _, [] => ([], -1)
  | 0, _ :: _ => ([], -1)
  | n + 1, b :: l =>
    if blankB b = true then consE [] 1 (lexN n l)
    else if (nextL (b :: l)).2.2 = true then consE [(nextL (b :: l)).1] (nextL (b :: l)).2.1 (lexN n (l.drop ((nextL (b :: l)).2.1 - 1)))
    else ([], 0)
def lexL (l : List UInt8) : List Tok × Int := lexN l.length l
theorem lexN_nil (n : Nat) : lexN n [] = ([], -1) := by cases n <;> rfl
theorem lexN_succ (n : Nat) (b : UInt8) (l : List UInt8) : lexN (n + 1) (b :: l) = (if blankB b = true then consE [] 1 (lexN n l)
    else if (nextL (b :: l)).2.2 = true then consE [(nextL (b :: l)).1] (nextL (b :: l)).2.1 (lexN n (l.drop ((nextL (b :: l)).2.1 - 1)))
    else ([], 0)) := rfl
theorem lexN_fuel : ∀ (n m : Nat) (l : List UInt8), l.length ≤ n → l.length ≤ m → lexN n l = lexN m l := by
  intro n
  induction n with
  | zero =>
    intro m l h _
    obtain rfl : l = [] := List.eq_nil_of_length_eq_zero (by omega)
    rw [lexN_nil, lexN_nil]
  | succ n ih =>
    intro m l h hm
    cases l with
    | nil => rw [lexN_nil, lexN_nil]
    | cons b l =>
      rw [List.length_cons] at h hm
      obtain ⟨m, rfl⟩ : ∃ k, m = k + 1 := ⟨m - 1, by omega⟩
      rw [lexN_succ, lexN_succ, ih m l (by omega) (by omega), ih m (l.drop _) (by rw [List.length_drop]; omega) (by rw [List.length_drop]; omega)]
theorem lexL_nil : lexL [] = ([], -1) := rfl
theorem lexL_cons (b : UInt8) (l : List UInt8) : lexL (b :: l) = (if blankB b = true then consE [] 1 (lexL l)
    else if (nextL (b :: l)).2.2 = true then consE [(nextL (b :: l)).1] (nextL (b :: l)).2.1 (lexL (l.drop ((nextL (b :: l)).2.1 - 1)))
    else ([], 0)) := by
  show lexN (l.length + 1) (b :: l) = _
  rw [lexN_succ, lexN_fuel l.length (l.drop _).length (l.drop _) (by rw [List.length_drop]; omega) (Nat.le_refl _)]
  rfl
theorem namedL_pos {l : List UInt8} (h : namedL l = true) : 0 < l.length := by
  cases l with
  | nil => cases h
  | cons b l => simp
theorem next_pos {b : UInt8} {l : List UInt8} (h : (nextL (b :: l)).2.2 = true) : 1 ≤ (nextL (b :: l)).2.1 ∧ (nextL (b :: l)).2.1 ≤ l.length + 1 := by
  by_cases hm : markB b = true
  · have hn : nextL (b :: l) = (⟨4, toB [b], 0⟩, 1, true) := by show (if markB b = true then _ else _) = _; rw [if_pos hm]
    rw [hn]
    exact ⟨Nat.le_refl _, by simp⟩
  · rw [nextL_else hm] at h ⊢
    by_cases h64 : b.toNat = 64
    · rw [if_pos h64] at h ⊢
      have := span_le dashB l
      dsimp only
      omega
    · rw [if_neg h64] at h ⊢
      by_cases hd : b.toNat = 45 ∨ digitB b = true
      · rw [if_pos hd] at h ⊢
        have := span_le letterB l
        dsimp only
        omega
      · rw [if_neg hd] at h ⊢
        have h1 := span_le letterB (b :: l)
        have h2 := namedL_pos h
        rw [List.length_take] at h2
        rw [List.length_cons] at h1
        dsimp only
        omega
def finE (ts : List Tok) (i : Nat) (r : List Tok × Int) : List Tok × Int := if r.2 = -1 then (ts ++ r.1, -1) else ([], (i : Int) + r.2)
theorem fin_cons (ts t : List Tok) (i k : Nat) (r : List Tok × Int) (hr : -1 ≤ r.2) : finE ts i (consE t k r) = finE (ts ++ t) (i + k) r := by
  unfold finE consE
  by_cases h : r.2 = -1
  · rw [if_pos h, if_pos rfl, if_pos h, List.append_assoc]
  · rw [if_neg h, if_neg (by show ¬ (r.2 + (k : Int) = -1); omega), if_neg h]
    congr 1
    show (i : Int) + (r.2 + (k : Int)) = ((i + k : Nat) : Int) + r.2
    omega
theorem lexN_ge : ∀ (n : Nat) (l : List UInt8), -1 ≤ (lexN n l).2 := by
  intro n
  induction n with
  | zero => intro l; cases l <;> exact Int.le_refl _
  | succ n ih =>
    intro l
    cases l with
    | nil => rw [lexN_nil]; decide
    | cons b l =>
      have hc : ∀ t k m, -1 ≤ (consE t k (lexN n m)).2 := fun t k m => by
        unfold consE
        have := ih m
        split
        · exact Int.le_refl _
        · show -1 ≤ (lexN n m).2 + (k : Int)
          omega
      rw [lexN_succ]
      split
      · exact hc _ _ _
      · split
        · exact hc _ _ _
        · decide
theorem lexL_ge (l : List UInt8) : -1 ≤ (lexL l).2 := lexN_ge _ _
theorem lexN_err : ∀ (n : Nat) (l : List UInt8), ¬ ((lexN n l).2 = -1) → (lexN n l).1 = [] := by
  intro n
  cases n with
  | zero => intro l h; cases l <;> exact absurd rfl h
  | succ n =>
    intro l h
    cases l with
    | nil => rw [lexN_nil] at h; exact absurd rfl h
    | cons b l =>
      have hc : ∀ t k r, ¬ ((consE t k r).2 = -1) → (consE t k r).1 = [] := fun t k r => by
        unfold consE
        split
        · intro h; exact absurd rfl h
        · intro _; rfl
      rw [lexN_succ] at h ⊢
      split at h
      · rename_i h1; rw [if_pos h1]; exact hc _ _ _ h
      · rename_i h1
        rw [if_neg h1]
        split at h
        · rename_i h2; rw [if_pos h2]; exact hc _ _ _ h
        · rename_i h2; rw [if_neg h2]
theorem lexL_err (l : List UInt8) (h : ¬ ((lexL l).2 = -1)) : (lexL l).1 = [] := lexN_err _ _ h
theorem info_tkz : (Tryz.prog.info? TT).map (fun i => (i.zero, i.size, i.bytes)) = some (some (.agg #[.int .u8 0, .string nil8, .int .i64 0]), 3, 32) := by kernel_rfl
set_option maxHeartbeats 8000000 in
set_option maxRecDepth 100000 in
theorem Words_calls (s : ByteArray) (hs : s.size < 4294967281) (w : World) (hC : LCal w) :
    Calls Tryz.prog 14 #[.string s] w fun e w' => ∃ v, e = .returned (.tuple #[v, .int .i64 (lexL s.data.toList).2]) ∧ Kd.R kTk TT w' w.heap.size (fun _ => True) v (lexL s.data.toList).1 ∧ Lt w w' := by
  have hsz : s.size = s.data.toList.length := (Array.length_toList).symm
  have HC := Aside0.mk hC
  obtain ⟨A, hA⟩ : ∃ A, lexL s.data.toList = A := ⟨_, rfl⟩
  have HA0 := Aside0.mk (show finE [] 0 (lexL (s.data.toList.drop 0)) = A by
    rw [List.drop_zero, ← hA]
    unfold finE
    split
    · rename_i h; rw [List.nil_append]; exact Prod.ext rfl h.symm
    · rename_i h
      have hne : (lexL s.data.toList).1 = [] := lexL_err _ h
      exact Prod.ext hne.symm (by show ((0 : Nat) : Int) + _ = _; omega))
  rw [hA]
  have HS := Aside0.mk hsz
  clear hA hC hsz
  go_enter Tryz.func14, Tryz.ntmps14
  go_wp2_with fail
  go_step3
  go_wp2_with fail
  go_step3
  go_wp2_with fail
  go_loopw [4, 5] (fun v j wr => ∃ (i : Nat) (ts : List Tok), j = .int .i64 (i : Int) ∧ i ≤ s.size ∧ ts.length ≤ i ∧ Kd.R kTk TT wr w.heap.size (fun _ => True) v ts ∧ Lt w wr ∧ finE ts i (lexL (s.data.toList.drop i)) = A) (fun v j _ => s.size - (intOf j).toNat)
  case atStart => exact ⟨0, [], rfl, Nat.zero_le _, Nat.zero_le _, Kd.R_nil _ _ _ _ _, Lt.refl _, HA0.out⟩
  case round =>
    obtain ⟨i, ts, rfl, hi, hts, hr, hlt, hA⟩ := hrel
    have HR := Aside0.mk hr
    have HT := Aside0.mk hlt
    have HA := Aside0.mk hA
    have HK := Aside0.mk hts
    obtain ⟨B, c, rfl⟩ := Kd.R_slice hr
    clear hr hlt hA hts
    by_cases hin : i < s.size
    · have h1 : (i : Int) < (s.size : Int) := by omega
      have h2 : decide ((i : Int) < (s.size : Int)) = true := decide_eq_true h1
      have h3 : (0 : Int) ≤ (i : Int) := by omega
      obtain ⟨b, l, hL⟩ : ∃ b l, s.data.toList.drop i = b :: l := by
        cases h : s.data.toList.drop i with
        | nil => have h9 := congrArg List.length h; rw [List.length_drop, List.length_nil] at h9; have := HS.out; omega
        | cons b l => exact ⟨b, l, rfl⟩
      have hb : s[i] = b := by
        have e : s.data.toList[i]? = some b := by
          have h : (s.data.toList.drop i)[0]? = some b := by rw [hL]; rfl
          rwa [List.getElem?_drop, Nat.add_zero] at h
        rw [List.getElem?_eq_getElem (by rw [Array.length_toList]; exact hin)] at e
        exact Option.some.inj e
      have hlen : l.length + 1 = s.size - i := by
        have h := congrArg List.length hL
        rw [List.length_drop, List.length_cons] at h
        have := HS.out
        omega
      have hdr : ∀ k, 1 ≤ k → s.data.toList.drop (i + k) = l.drop (k - 1) := fun k hk => by
        rw [← List.drop_drop, hL]
        obtain ⟨m, rfl⟩ : ∃ m, k = m + 1 := ⟨k - 1, by omega⟩
        rfl
      have HF := HA.out
      rw [hL, lexL_cons] at HF
      have hbb : ((b.toNat : Int).toNat.toUInt8) = b := by simp
      have CI := Aside0.mk (fun w => Tryz.strings_IndexByte BLNK (b.toNat : Int) w)
      rw [hbb] at CI
      have hm : decide (Lib.indexByte BLNK.data.toList b ≥ 0) = blankB b := by
        rw [Bool.eq_iff_iff, decide_eq_true_eq]
        exact indexByte_ge [32, 9] b
      obtain ⟨j, hj⟩ : ∃ j, j = Lib.indexByte BLNK.data.toList b := ⟨_, rfl⟩
      rw [← hj] at CI hm
      have HLEN := Aside0.mk hlen
      have HDR := Aside0.mk hdr
      clear hj hbb hdr
      by_cases hbl : blankB b = true
      · rw [if_pos hbl, fin_cons ts [] i 1 _ (lexL_ge _), List.append_nil] at HF
        have HF' := Aside0.mk HF
        rw [hbl] at hm
        have hm' : j ≥ 0 := by simpa using hm
        have HD1 := Aside0.mk (show s.data.toList.drop (i + 1) = l from by rw [HDR.out 1 (Nat.le_refl _)]; rfl)
        clear HF hbl hL hlen HDR
        go_wp2_with fail
        (with_reducible refine (CI.out _).mono ?_)
        rintro e w2 ⟨rfl, rfl⟩
        go_wp2
        go_roundw
        case rel => exact ⟨i + 1, ts, by go_num, by omega, by have := HK.out; omega, HR.out, HT.out, by rw [HD1.out]; exact HF'.out⟩
        case measure => simp [intOf]; omega
      · rw [if_neg hbl] at HF
        have hm' : ¬ (j ≥ 0) := fun h => hbl (by rw [← hm]; exact decide_eq_true h)
        have hm2 : decide (j ≥ 0) = false := decide_eq_false hm'
        have CN := Aside0.mk (next_calls s i b l hL hs wr (HC.out.l HT.out))
        have hpos := next_pos (b := b) (l := l)
        obtain ⟨t, k, ok, hn⟩ : ∃ t k ok, nextL (b :: l) = (t, k, ok) := ⟨_, _, _, rfl⟩
        rw [hn] at CN hpos HF
        dsimp only at CN hpos HF
        clear hm hbl hL hn
        cases ok with
        | false =>
          rw [if_neg (by simp)] at HF
          have HF2 : A = ([], (i : Int)) := by
            rw [← HF]
            unfold finE
            rw [if_neg (by decide)]
            exact Prod.ext rfl (by show (i : Int) + 0 = i; omega)
          subst HF2
          clear HF hpos
          go_wp2_with fail
          (with_reducible refine (CI.out _).mono ?_)
          rintro e w2 ⟨rfl, rfl⟩
          go_wp2_with fail
          (with_reducible refine CN.out.mono ?_)
          rintro e w2 ⟨rfl, hl⟩
          have HT := Aside0.mk ((HT.out.trans hl).a (tokC t))
          clear hl CN
          go_wp2_with fail
          rw [Exit.noGoto_ret]
          go_ret2
          exact ⟨_, rfl, Kd.R_nil _ _ _ _ _, HT.out⟩
        | true =>
          rw [if_pos rfl, fin_cons ts [t] i k _ (lexL_ge _)] at HF
          obtain ⟨hk1, hk2⟩ := hpos rfl
          have HD1 := Aside0.mk (HDR.out k hk1)
          have HF' := Aside0.mk HF
          have HK1 := Aside0.mk hk1
          have HK2 := Aside0.mk hk2
          clear HF hpos HDR hk1 hk2 hlen
          go_wp2_with fail
          (with_reducible refine (CI.out _).mono ?_)
          rintro e w2 ⟨rfl, rfl⟩
          go_wp2_with fail
          (with_reducible refine CN.out.mono ?_)
          rintro e w3 ⟨rfl, hl⟩
          have HR := Aside0.mk (Kd.R_below HR.out ((hl.a (tokC t)).out))
          have HT := Aside0.mk ((HT.out.trans hl).a (tokC t))
          clear hl CN
          go_wp2_with ((with_reducible refine gate_builtin (b := .append) (xs := #[.tmp 30, .tmp 32]) rfl ?_); at_builtin; refine Kd.R_append kTk (w0 := w) w.heap.size rfl (.tmp 30) (.tmp 32) 32 TT (.agg #[.int .u8 0, .string nil8, .int .i64 0]) 32 rfl Tryz.underlying32 info_tkz rfl (by decide) (by omega) (.slice B ts.length c) ts t [.int .u8 t.f0, .string t.f1, .int .i64 t.f2] (fun _ => True) (fun _ => False) rfl (by rw [show (w3.alloc (tokC t)).heap.size = w3.heap.size + 1 from Array.size_push ..]; rfl) ?aP (fun _ hk => hk.elim) ?aF ?aO ?aB ?aS ?aL ?_; (case aP => exact k51_mkM _ _ _ t); (case aF => exact fun _ _ => trivial); (case aO => exact HR.out); (case aB => exact HT.out.out); (case aS => exact HT.out.out.size); (case aL => have := HK.out; omega); intro v1 wa ho hb hg hat; have HO := Aside0.mk ho; have HW := Aside0.mk (Lt.mk hb); clear ho hb hg hat)
          go_roundw
          case rel => exact ⟨i + k, ts ++ [t], by go_num, by have := HK2.out; have := HLEN.out; omega, by rw [List.length_append, List.length_singleton]; have := HK.out; have := HK1.out; omega, HO.out, HW.out, by rw [HD1.out]; exact HF'.out⟩
          case measure => simp [intOf]; have := HK1.out; have := HK2.out; have := HLEN.out; omega
    · have h1 : ¬ (i : Int) < (s.size : Int) := by omega
      have h2 : decide ((i : Int) < (s.size : Int)) = false := decide_eq_false h1
      have hnil : s.data.toList.drop i = [] := List.drop_eq_nil_of_le (by have := HS.out; omega)
      have HF := HA.out
      rw [hnil, lexL_nil] at HF
      have HF2 : A = (ts, -1) := by rw [← HF]; unfold finE; rw [if_pos rfl, List.append_nil]
      subst HF2
      clear HF hnil
      go_wp2_with fail
      go_ret2
      exact ⟨_, rfl, HR.out, HT.out⟩
end Go.Proofs.YtcinojbfjiohjaaGreatDoor.Lx
end

section
namespace Go.Proofs.YtcinojbfjiohjaaGreatDoor.Lx
open Go Go.RowKit Go.Proofs.YtcinojbfjiohjaaGreatDoor.PPrintTells Go.Proofs.YtcinojbfjiohjaaGreatDoor.Ex Go.Proofs.YtcinojbfjiohjaaGreatDoor.Civ Go.Proofs.YtcinojbfjiohjaaGreatDoorW.PrintWords Go.Proofs.YtcinojbfjiohjaaGreatDoorW.PrintLast Go.Proofs.YtcinojbfjiohjaaGreatDoorW.PrintMore
set_option linter.unusedVariables false
set_option linter.unusedSimpArgs false
abbrev AT : ByteArray := ⟨#[64]⟩
def textT (t : Tok) : ByteArray × Bool :=
  if t.f0 = 1 then (t.f1, namedL t.f1.data.toList && decide (t.f2 = 0) && decide (spanN letterB t.f1.data.toList = t.f1.size))
  else if t.f0 = 2 then (⟨(Lib.itoa t.f2).toArray⟩, t.f1.toList.isEmpty)
  else if t.f0 = 3 then (AT ++ (textF t.f2).1, decide ((textF t.f2).2 = 0) && t.f1.toList.isEmpty)
  else if t.f0 = 4 then (t.f1, decide (t.f2 = 0) && decide (t.f1.size = 1) && t.f1.data.toList.all markB)
  else (nil8, false)
def rightT (t : Tok) : Bool := (textT t).2
structure TB (t : Tok) (k : Nat) (w0 W : World) : Prop where
  tb : W.heap[k]? = some (tokC t)
  lt : Lt w0 W
theorem TB.l {t : Tok} {k : Nat} {w0 W W2 : World} (h : TB t k w0 W) (hl : Lt W W2) : TB t k w0 W2 := ⟨blk_lt_on hl h.tb, h.lt.trans hl⟩
end Go.Proofs.YtcinojbfjiohjaaGreatDoor.Lx
end

section
namespace Go.Proofs.YtcinojbfjiohjaaGreatDoor.Lx
open Go Go.RowKit Go.Proofs.YtcinojbfjiohjaaGreatDoor.PPrintTells Go.Proofs.YtcinojbfjiohjaaGreatDoor.Ex Go.Proofs.YtcinojbfjiohjaaGreatDoor.Civ Go.Proofs.YtcinojbfjiohjaaGreatDoorW.PrintWords Go.Proofs.YtcinojbfjiohjaaGreatDoorW.PrintLast Go.Proofs.YtcinojbfjiohjaaGreatDoorW.PrintMore
set_option linter.unusedVariables false
set_option linter.unusedSimpArgs false
structure TokW (t : Tok) : Prop where
  n0 : -9223372036854775808 ≤ t.f2
  n1 : t.f2 ≤ 9223372036854775807
  sz : t.f1.size ≤ 9223372036854775807
end Go.Proofs.YtcinojbfjiohjaaGreatDoor.Lx
end

section
namespace Go.Proofs.YtcinojbfjiohjaaGreatDoor.Lx
open Go Go.RowKit Go.Proofs.YtcinojbfjiohjaaGreatDoor.PPrintTells Go.Proofs.YtcinojbfjiohjaaGreatDoor.Ex Go.Proofs.YtcinojbfjiohjaaGreatDoor.Civ Go.Proofs.YtcinojbfjiohjaaGreatDoorW.PrintWords Go.Proofs.YtcinojbfjiohjaaGreatDoorW.PrintLast Go.Proofs.YtcinojbfjiohjaaGreatDoorW.PrintMore
set_option linter.unusedVariables false
set_option linter.unusedSimpArgs false
end Go.Proofs.YtcinojbfjiohjaaGreatDoor.Lx
end

section
namespace Go.Proofs.YtcinojbfjiohjaaGreatDoor.Lx
open Go Go.RowKit Go.Proofs.YtcinojbfjiohjaaGreatDoor.PPrintTells Go.Proofs.YtcinojbfjiohjaaGreatDoor.Ex Go.Proofs.YtcinojbfjiohjaaGreatDoor.Civ
set_option linter.unusedVariables false
set_option linter.unusedSimpArgs false
theorem span_cut (p : UInt8 → Bool) : ∀ (l : List UInt8) (m : Nat), spanN p l ≤ m → spanN p (l.take m) = spanN p l
  | [], m, _ => by rw [List.take_nil]
  | b :: l, m, h => by
    by_cases hb : p b = true
    · have e : spanN p (b :: l) = spanN p l + 1 := by show (if p b = true then spanN p l + 1 else 0) = _; rw [if_pos hb]
      rw [e] at h ⊢
      obtain ⟨m, rfl⟩ : ∃ k, m = k + 1 := ⟨m - 1, by omega⟩
      rw [List.take_succ_cons]
      show (if p b = true then spanN p (l.take m) + 1 else 0) = _
      rw [if_pos hb, span_cut p l m (by omega)]
    · have e : ∀ r, spanN p (b :: r) = 0 := fun r => by show (if p b = true then spanN p r + 1 else 0) = _; rw [if_neg hb]
      rw [e]
      cases m with
      | zero => rfl
      | succ m => rw [List.take_succ_cons, e]
end Go.Proofs.YtcinojbfjiohjaaGreatDoor.Lx
end

section
namespace Go.Proofs.YtcinojbfjiohjaaGreatDoor.Lx
open Go Go.RowKit Go.Proofs.YtcinojbfjiohjaaGreatDoor.PPrintTells Go.Proofs.YtcinojbfjiohjaaGreatDoor.Ex Go.Proofs.YtcinojbfjiohjaaGreatDoor.Civ
set_option linter.unusedVariables false
set_option linter.unusedSimpArgs false
theorem span_all (p : UInt8 → Bool) : ∀ (l r : List UInt8), l.all p = true → (∀ b, r.head? = some b → p b = false) → spanN p (l ++ r) = l.length
  | [], r, _, h => by
    cases r with
    | nil => rfl
    | cons b r =>
      show (if p b = true then spanN p r + 1 else 0) = 0
      rw [h b rfl]
      rfl
  | b :: l, r, ha, h => by
    rw [List.all_cons, Bool.and_eq_true] at ha
    show (if p b = true then spanN p (l ++ r) + 1 else 0) = _
    rw [if_pos ha.1, span_all p l r ha.2 h]
    rfl
theorem span_full (p : UInt8 → Bool) : ∀ l : List UInt8, spanN p l = l.length → l.all p = true
  | [], _ => rfl
  | b :: l, h => by
    by_cases hb : p b = true
    · have e : spanN p (b :: l) = spanN p l + 1 := by show (if p b = true then spanN p l + 1 else 0) = _; rw [if_pos hb]
      rw [e, List.length_cons] at h
      rw [List.all_cons, hb, span_full p l (by omega)]
      rfl
    · have e : spanN p (b :: l) = 0 := by show (if p b = true then spanN p l + 1 else 0) = _; rw [if_neg hb]
      rw [e, List.length_cons] at h
      omega
theorem all_imp {p q : UInt8 → Bool} (h : ∀ b, p b = true → q b = true) {l : List UInt8} (hl : l.all p = true) : l.all q = true :=
  List.all_eq_true.2 fun b hb => h b (List.all_eq_true.1 hl b hb)
theorem digit_letter (b : UInt8) (h : digitB b = true) : letterB b = true := by unfold letterB; rw [h, Bool.or_true]
theorem digit_dash (b : UInt8) (h : digitB b = true) : dashB b = true := by unfold dashB; rw [digit_letter b h, Bool.or_true]
theorem first_digit (b : UInt8) (h : b.toNat = 45 ∨ digitB b = true) : markB b = false ∧ b.toNat ≠ 64 ∧ blankB b = false := by
  have := byte_all (fun b => !(decide (b.toNat = 45) || digitB b) || (!markB b && decide (b.toNat ≠ 64) && !blankB b)) (by decide +kernel) b
  have e : (decide (b.toNat = 45) || digitB b) = true := by rw [Bool.or_eq_true, decide_eq_true_eq]; exact h
  rw [e] at this
  simpa [and_assoc] using this
theorem first_alpha (b : UInt8) (h : letterB b = true) (hd : digitB b = false) : markB b = false ∧ b.toNat ≠ 64 ∧ blankB b = false ∧ b.toNat ≠ 45 := by
  have := byte_all (fun b => !(letterB b && !digitB b) || (!markB b && decide (b.toNat ≠ 64) && !blankB b && decide (b.toNat ≠ 45))) (by decide +kernel) b
  rw [h, hd] at this
  simpa [and_assoc] using this
theorem mark_blank (b : UInt8) (h : markB b = true) : blankB b = false := by
  have := byte_all (fun b => !markB b || !blankB b) (by decide +kernel) b
  rw [h] at this
  simpa using this
theorem dash_letter (b : UInt8) (h : dashB b = false) : letterB b = false := by
  unfold dashB at h
  rw [Bool.or_eq_false_iff] at h
  exact h.2
theorem decFrom_le : ∀ (l : List UInt8) (acc u : Nat), Lib.decFrom acc l = some u → acc ≤ u
  | [], acc, u, h => by
    have h : some acc = some u := h
    injection h with h
    omega
  | b :: l, acc, u, h => by
    rw [Lib.decFrom] at h
    cases hd : Lib.digitVal b with
    | none => rw [hd] at h; cases h
    | some d =>
      rw [hd] at h
      have := decFrom_le l _ u h
      omega
theorem uint_dec : ∀ (l : List UInt8) (acc u : Nat), l.all digitB = true → Lib.decFrom acc l = some u → u < 18446744073709551616 → Lib.parseUint10 acc l = .ok u
  | [], acc, u, _, h, _ => by
    have h : some acc = some u := h
    injection h with h
    rw [h]
    rfl
  | b :: l, acc, u, ha, h, hu => by
    rw [List.all_cons, Bool.and_eq_true] at ha
    have hb : 48 ≤ b.toNat ∧ b.toNat ≤ 57 := by
      have := ha.1
      unfold digitB at this
      rw [Bool.and_eq_true, decide_eq_true_eq, decide_eq_true_eq] at this
      exact this
    have hd : Lib.digitVal b = some (b.toNat - 48) := by unfold Lib.digitVal; rw [if_pos hb]
    rw [Lib.decFrom, hd] at h
    have h : Lib.decFrom (acc * 10 + (b.toNat - 48)) l = some u := h
    have hle := decFrom_le l _ u h
    rw [Lib.parseUint10, if_pos hb, if_neg (by omega), if_neg (by omega)]
    exact uint_dec l _ u ha.2 h hu
theorem dec_first (u : Nat) : ∃ c r, Lib.decDigits u = c :: r ∧ digitB c = true ∧ r.all digitB = true := by
  have h := (decDigits_spec u).1
  cases hd : Lib.decDigits u with
  | nil =>
    exfalso
    by_cases h : u < 10
    · rw [Lib.decDigits_one h] at hd; cases hd
    · rw [Lib.decDigits, dif_neg h] at hd
      simp at hd
  | cons c r =>
    rw [hd, List.all_cons, Bool.and_eq_true] at h
    exact ⟨c, r, rfl, h.1, h.2⟩
theorem mag_dec (u : Nat) (hu : u < 18446744073709551616) : Lib.parseMag (Lib.decDigits u) = .ok u := by
  obtain ⟨c, r, h, _⟩ := dec_first u
  obtain ⟨s1, s2⟩ := decDigits_spec u
  unfold Lib.parseMag
  rw [if_neg (by rw [h]; exact List.cons_ne_nil _ _)]
  exact uint_dec _ 0 u s1 (by rw [s2, Nat.zero_mul, Nat.zero_add]) hu
theorem parse_itoa (n : Int) (h0 : -9223372036854775808 ≤ n) (h1 : n ≤ 9223372036854775807) : Lib.parseIntB 64 (Lib.itoa n) = .ok n := by
  rw [Lib.parseIntB_64]
  by_cases hn : n < 0
  · obtain ⟨u, rfl⟩ : ∃ u : Nat, n = -(u : Int) := ⟨n.natAbs, by omega⟩
    rw [Lib.itoa_neg u (by omega), Lib.atoiAll_minus, mag_dec u (by omega)]
    show (if 9223372036854775808 < u then _ else _) = _
    rw [if_neg (by omega)]
  · obtain ⟨u, rfl⟩ : ∃ u : Nat, n = (u : Int) := ⟨n.toNat, by omega⟩
    have hm := mag_dec u (by omega)
    rw [Lib.itoa_nonneg u]
    obtain ⟨c, r, h, hc, _⟩ := dec_first u
    rw [h] at hm ⊢
    have h45 : c.toNat ≠ 43 ∧ c.toNat ≠ 45 := by
      unfold digitB at hc
      rw [Bool.and_eq_true, decide_eq_true_eq, decide_eq_true_eq] at hc
      omega
    rw [Lib.atoiAll_plain c r h45.1 h45.2, hm]
    show (if 9223372036854775808 ≤ u then _ else _) = _
    rw [if_neg (by omega)]
theorem itoa_first (n : Int) : ∃ b l, Lib.itoa n = b :: l ∧ (b.toNat = 45 ∨ digitB b = true) ∧ l.all digitB = true := by
  by_cases hn : n < 0
  · obtain ⟨u, rfl⟩ : ∃ u : Nat, n = -(u : Int) := ⟨n.natAbs, by omega⟩
    rw [Lib.itoa_neg u (by omega)]
    exact ⟨45, _, rfl, .inl rfl, (decDigits_spec u).1⟩
  · obtain ⟨u, rfl⟩ : ∃ u : Nat, n = (u : Int) := ⟨n.toNat, by omega⟩
    rw [Lib.itoa_nonneg u]
    obtain ⟨c, r, h, hc, hr⟩ := dec_first u
    exact ⟨c, r, h, .inr hc, hr⟩
theorem pad_dash (n : Int) (k : Nat) (h0 : 0 ≤ n) (h1 : n < 10 ^ k) (hk : 1 ≤ k) : (padF n k).all dashB = true := all_imp digit_dash (padF_spec n k h0 h1 hk).2.1
theorem text_dash {n : Int} (hn : In n) : (textF n).1.data.toList.all dashB = true := by
  have hok := (date_ok hn).1
  have hm := hok.month
  have hd : 1 ≤ dyF n ∧ dyF n ≤ 31 := ⟨hok.2.2.2.2.1, by have := hok.2.2.2.2.2; have := len_le (yrF n) (moF n); omega⟩
  have hy0 := hok.1
  have hy1 := hok.2.1
  have ht : (textF n).1 = ⟨(ymdL (yrF n) (moF n) (dyF n)).toArray⟩ := by unfold textF; rw [if_pos hn]
  rw [ht]
  show ((ymdL (yrF n) (moF n) (dyF n)).toArray.toList).all dashB = true
  rw [List.toList_toArray]
  have key : ∀ z : Int, 0 ≤ z → z ≤ 9999 → (partsL z (moF n) (dyF n)).all dashB = true := by
    intro z hz0 hz1
    rw [partsL_eq]
    have p1 := pad_dash z 4 hz0 (by omega) (by omega)
    have p2 := pad_dash (moF n) 2 (by omega) (by omega) (by omega)
    have p3 := pad_dash (dyF n) 2 (by omega) (by omega) (by omega)
    simp only [List.all_append, List.all_cons, List.all_nil, p1, p2, p3, Bool.and_true, Bool.true_and]
    decide
  unfold ymdL
  split
  · rw [List.all_cons, key _ (by omega) (by omega)]
    decide
  · exact key _ (by omega) (by omega)
theorem size_nil {s : ByteArray} (h : s.toList.isEmpty = true) : s = nil8 := by
  rw [Lib.toList_data] at h
  cases s with
  | mk a =>
    have h : a.toList = [] := List.isEmpty_iff.1 h
    rw [show a = #[] from Array.toList_eq_nil_iff.1 h]
theorem next_text (t : Tok) (hW : TokW t) (hR : rightT t = true) (r : List UInt8) (hr : ∀ b, r.head? = some b → dashB b = false) :
    ∃ b l, (textT t).1.data.toList = b :: l ∧ blankB b = false ∧ nextL (b :: (l ++ r)) = (t, l.length + 1, true) := by
  have hr2 : ∀ b, r.head? = some b → letterB b = false := fun b h => dash_letter b (hr b h)
  obtain ⟨n0, n1, _⟩ := hW
  obtain ⟨k, s, n⟩ := t
  dsimp only at n0 n1
  unfold rightT at hR
  unfold textT at hR ⊢
  dsimp only at hR ⊢
  by_cases k1 : k = 1
  · subst k1
    rw [if_pos rfl] at hR ⊢
    dsimp only at hR ⊢
    rw [Bool.and_eq_true, Bool.and_eq_true, decide_eq_true_eq, decide_eq_true_eq] at hR
    obtain ⟨⟨h1, rfl⟩, h3⟩ := hR
    cases hL : s.data.toList with
    | nil => rw [hL] at h1; cases h1
    | cons b l =>
      have hsz : s.size = (b :: l).length := by rw [← hL]; exact (Array.length_toList).symm
      rw [hL, hsz] at h3
      rw [hL] at h1
      have hall := span_full _ _ h3
      have hd : digitB b = false := by
        have h1 : (decide (l.length < 30) && !digitB b) = true := h1
        rw [Bool.and_eq_true] at h1
        simpa using h1.2
      have hb : letterB b = true := by rw [List.all_cons, Bool.and_eq_true] at hall; exact hall.1
      obtain ⟨f1, f2, f3, f4⟩ := first_alpha b hb hd
      refine ⟨b, l, rfl, f3, ?_⟩
      have hsp : spanN letterB (b :: (l ++ r)) = l.length + 1 := span_all letterB (b :: l) r hall hr2
      have htk : (b :: (l ++ r)).take (l.length + 1) = b :: l := by
        rw [List.take_succ_cons, List.take_left]
      rw [nextL_else (by rw [f1]; decide), if_neg f2, if_neg (by rw [hd]; simpa using f4), hsp, htk, h1]
      have hs : toB (b :: l) = s := by
        cases s with
        | mk a =>
          have hL : a.toList = b :: l := hL
          show (⟨(b :: l).toArray⟩ : ByteArray) = _
          rw [← hL]
      rw [hs]
  · rw [if_neg k1] at hR ⊢
    by_cases k2 : k = 2
    · subst k2
      rw [if_pos rfl] at hR ⊢
      dsimp only at hR ⊢
      obtain rfl := size_nil hR
      obtain ⟨b, l, h, hb, hl⟩ := itoa_first n
      have hp := parse_itoa n n0 n1
      obtain ⟨f1, f2, f3⟩ := first_digit b hb
      refine ⟨b, l, by show (Lib.itoa n).toArray.toList = _; rw [List.toList_toArray, h], f3, ?_⟩
      have hsp : spanN letterB (l ++ r) = l.length := span_all letterB l r (all_imp digit_letter hl) hr2
      rw [nextL_else (by rw [f1]; decide), if_neg f2, if_pos hb, hsp, List.take_left]
      have hN : numT (b :: l) = (n, true) := by
        unfold numT
        rw [← h, hp]
        show (n, decide (Lib.itoa n = Lib.itoa n)) = _
        rw [decide_eq_true rfl]
      rw [hN]
    · rw [if_neg k2] at hR ⊢
      by_cases k3 : k = 3
      · subst k3
        rw [if_pos rfl] at hR ⊢
        dsimp only at hR ⊢
        rw [Bool.and_eq_true, decide_eq_true_eq] at hR
        obtain ⟨h1, h2⟩ := hR
        obtain rfl := size_nil h2
        have hn : In n := by
          unfold textF at h1
          split at h1
          · assumption
          · cases h1
        have hall := text_dash hn
        have hread := text_read hn
        obtain ⟨D, hD⟩ : ∃ D, D = (textF n).1.data.toList := ⟨_, rfl⟩
        have hT : (AT ++ (textF n).1).data.toList = 64 :: D := by
          rw [ByteArray.data_append, Array.toList_append, ← hD]
          rfl
        have hB : toB D = (textF n).1 := by
          cases hx : (textF n).1 with
          | mk a =>
            rw [hx] at hD
            show (⟨D.toArray⟩ : ByteArray) = _
            rw [hD]
        rw [← hD] at hall
        refine ⟨64, D, hT, by decide, ?_⟩
        have hsp : spanN dashB (D ++ r) = D.length := span_all dashB D r hall hr
        rw [nextL_else (by decide), if_pos (by decide), hsp, List.take_left, hB, hread]
        rfl
      · rw [if_neg k3] at hR ⊢
        by_cases k4 : k = 4
        · subst k4
          rw [if_pos rfl] at hR ⊢
          dsimp only at hR ⊢
          rw [Bool.and_eq_true, Bool.and_eq_true, decide_eq_true_eq, decide_eq_true_eq] at hR
          obtain ⟨⟨rfl, h2⟩, h3⟩ := hR
          have hsz : s.data.toList.length = 1 := by rw [← h2]; exact Array.length_toList
          obtain ⟨b, hb⟩ := List.length_eq_one_iff.1 hsz
          rw [hb, List.all_cons, Bool.and_eq_true] at h3
          refine ⟨b, [], hb, mark_blank b h3.1, ?_⟩
          show (if markB b = true then _ else _) = _
          rw [if_pos h3.1]
          have hs : toB [b] = s := by
            cases s with
            | mk a =>
              have hL : a.toList = [b] := hb
              show (⟨[b].toArray⟩ : ByteArray) = _
              rw [← hL]
          rw [hs]
          rfl
        · rw [if_neg k4] at hR
          cases hR
end Go.Proofs.YtcinojbfjiohjaaGreatDoor.Lx
end

section
namespace Go.Proofs.YtcinojbfjiohjaaGreatDoor.PPrintTells
open Go.RowKit Go.Proofs.YtcinojbfjiohjaaGreatDoorW.PrintWords Go.Proofs.YtcinojbfjiohjaaGreatDoorW.PrintLast Go.Proofs.YtcinojbfjiohjaaGreatDoorW.PrintMore
attribute [local go_sem] max2_int min2_int max_two min_two max_three min_three max_four min_four   -- for this text's walks alone
set_option linter.unusedVariables false
set_option linter.unusedSimpArgs false
def IsS82 (w0 W : World) (g : Nat) (f0 : List (S51)) (f1 : Int) (f2 : Int) : Prop := ∃ A0 c0, W.heap[g]? = some (.cells #[.slice A0 f0.length c0, .int .i64 f1, .int .i64 f2] 82 (0, 0)) ∧ w0.heap.size ≤ g ∧ Kd.C k51 w0 A0 f0.length f0
theorem IsS82.grown {w0 W : World} {g : Nat} {f0 : List (S51)} {f1 : Int} {f2 : Int} {W1 : World} {row : Option Nat} (h : IsS82 w0 W g f0 f1 f2) (hw : W.grownBy W1 row) (hne : some g ≠ row) : IsS82 w0 W1 g f0 f1 f2 := by
  obtain ⟨A0, c0, hb, hg, hr0⟩ := h
  exact ⟨A0, c0, blk_grown hb hw hne, hg, hr0⟩
theorem IsS82.kept {w0 W : World} {g : Nat} {f0 : List (S51)} {f1 : Int} {f2 : Int} {W1 : World} {S : Nat → Prop} (h : IsS82 w0 W g f0 f1 f2) (hk : Kept W W1 S) (hne : ¬ S g) : IsS82 w0 W1 g f0 f1 f2 := by
  obtain ⟨A0, c0, hb, hg, hr0⟩ := h
  exact ⟨A0, c0, blk_kept hb hk hne, hg, hr0⟩
theorem IsS82.below {w0 W : World} {g : Nat} {f0 : List (S51)} {f1 : Int} {f2 : Int} {W1 : World} (h : IsS82 w0 W g f0 f1 f2) (hw : Below W.heap.size W W1) : IsS82 w0 W1 g f0 f1 f2 := h.grown (grown_of_below hw none) (by simp)
theorem IsS82.alloc {w0 W : World} {g : Nat} {f0 : List (S51)} {f1 : Int} {f2 : Int} (h : IsS82 w0 W g f0 f1 f2) (o : Obj) : IsS82 w0 (W.alloc o) g f0 f1 f2 := h.below (below_alloc (Below.refl _ _) o)
theorem IsS82.drewN {w0 W : World} {g : Nat} {f0 : List (S51)} {f1 : Int} {f2 : Int} (h : IsS82 w0 W g f0 f1 f2) (m : Nat) : IsS82 w0 (W.drewN m) g f0 f1 f2 := h
theorem IsS82.drew {w0 W : World} {g : Nat} {f0 : List (S51)} {f1 : Int} {f2 : Int} (h : IsS82 w0 W g f0 f1 f2) : IsS82 w0 W.drew g f0 f1 f2 := h
theorem IsS82.at_ {w0 W : World} {g : Nat} {f0 : List (S51)} {f1 : Int} {f2 : Int} {w' : World} {m : Nat} (hq : W.drewN m = w') (h : IsS82 w0 W g f0 f1 f2) : IsS82 w0 w' g f0 f1 f2 := by subst hq; exact IsS82.drewN h m
theorem IsS82.apart {w0 W : World} {g : Nat} {f0 : List (S51)} {f1 : Int} {f2 : Int} {α : Type} {d : Kd α} {e : Nat} {base : Nat} {ok : Nat → Prop} {v : Value} {xs : List α} (h : IsS82 w0 W g f0 f1 f2) (ho : d.R e W base ok v xs) (ht : ∀ q, q ∈ e :: d.E → q ≠ 82) : d.R e W base (fun k => ok k ∧ k ≠ g) v xs := by
  obtain ⟨A0, c0, hb, hg, hr0⟩ := h
  exact Kd.R_types ho hb ht
theorem IsS82.own_ne {w0 W : World} {g : Nat} {f0 : List (S51)} {f1 : Int} {f2 : Int} {α : Type} {d : Kd α} {e : Nat} {base : Nat} {ok : Nat → Prop} {v : Value} {xs : List α} (h : IsS82 w0 W g f0 f1 f2) (ho : d.R e W base ok v xs) (ht : e ≠ 82) : some g ≠ v.ownBlock := by
  obtain ⟨A0, c0, hb, hg, hr0⟩ := h
  exact Kd.R_ne ho hb ht
theorem IsS82.lt {w0 W : World} {g : Nat} {f0 : List (S51)} {f1 : Int} {f2 : Int} (h : IsS82 w0 W g f0 f1 f2) : g < W.heap.size := by
  obtain ⟨A0, c0, hb, hg, hr0⟩ := h
  exact blk_lt hb
theorem IsS82.ge {w0 W : World} {g : Nat} {f0 : List (S51)} {f1 : Int} {f2 : Int} (h : IsS82 w0 W g f0 f1 f2) : w0.heap.size ≤ g := by
  obtain ⟨A0, c0, hb, hg, hr0⟩ := h
  exact hg
theorem IsS82.new (w0 W : World) (A0 : Option Addr) (c0 : Nat) (f0 : List (S51)) (f1 : Int) (f2 : Int) (hB : Below w0.heap.size w0 W) (hr0 : Kd.C k51 w0 A0 f0.length f0) : IsS82 w0 (W.alloc (.cells #[.slice A0 f0.length c0, .int .i64 f1, .int .i64 f2] 82)) W.heap.size f0 f1 f2 := ⟨A0, c0, by simpa using heap_alloc_new W _, hB.size, hr0⟩
def slices_Index_uint8_uint8.l0 : Nat → List Int → Int → Int → Int → Option (Int)
  | 0, _, _, _, _ => none
  | k + 1, x0, x1, x7, x8 => if x8 < x7 then (if 0 ≤ x8 then (if x8 < (x0.length : Int) then (if x1 = (rd x0 x8) then (some x8) else (slices_Index_uint8_uint8.l0 k x0 x1 x7 (wrap64 (x8 + 1)))) else (none)) else (none)) else (some (-1))
def slices_Index_uint8_uint8.f (k : Nat) (l0 : List Int) (a1 : Int) : Option (Int) := slices_Index_uint8_uint8.l0 k l0 a1 (l0.length : Int) 0
set_option maxHeartbeats 8000000 in
set_option maxRecDepth 100000 in
theorem slices_Index_uint8_uint8.calls (k : Nat) (A0 : Option Addr) (c0 : Nat) (l0 : List Int) (a1 : Int) (r : Int) (w : World) (hr0 : Kd.C (Kd.int .u8) w A0 l0.length l0) (hc0 : l0.length ≤ c0) (h : slices_Index_uint8_uint8.f k l0 a1 = some r) :
    Calls Tryz.prog 167 #[.slice A0 l0.length c0, .int .u8 a1] w fun e w' => e = .returned (.int .i64 r) ∧ Drawn0 w w' := by
  have HR0 := Aside0.mk hr0
  have HC0 := Aside0.mk hc0
  clear hr0 hc0
  have H : (slices_Index_uint8_uint8.l0 k l0 a1 (l0.length : Int) 0) = some r := h
  clear h
  have H' := Aside0.mk H
  clear H
  go_enter Tryz.func167, Tryz.ntmps167
  go_wp2
  go_loopg [8] k (fun kq v8 w' => ∃ (x8_1 : Int), v8 = .int .i64 x8_1 ∧ Aside0 (slices_Index_uint8_uint8.l0 kq l0 a1 (l0.length : Int) x8_1 = some r) ∧ Aside0 (kq ≤ k) ∧ Drawn0 w w')
  case atStart => exact ⟨(0), (by first | rfl | (simp; done) | (simp [*]; done)), H', ⟨Nat.le_refl _⟩, by repeat (first | exact Drawn0.refl _ | apply Drawn0.step)⟩
  case round =>
    clear H'
    try clear c1
    try clear p2
    obtain ⟨x8_1, rfl, HA, HK1, ⟨m1, rfl⟩⟩ := hrel
    cases gk with
    | zero => exact absurd HA.out (by simp [slices_Index_uint8_uint8.l0])
    | succ k1 =>
      have H := HA.out
      clear HA
      simp only [slices_Index_uint8_uint8.l0] at H
      by_cases c3 : x8_1 < (l0.length : Int)
      · rw [if_pos c3] at H
        have c3b0 : decide (x8_1 < (l0.length : Int)) = true := decide_eq_true c3
        clear c3
        by_cases c4 : 0 ≤ x8_1
        · rw [if_pos c4] at H
          have c4b0 : decide (0 ≤ x8_1) = true := decide_eq_true c4
          clear c4
          by_cases c5 : x8_1 < (l0.length : Int)
          · rw [if_pos c5] at H
            have c5b0 : decide (x8_1 < (l0.length : Int)) = true := decide_eq_true c5
            clear c5
            by_cases c6 : a1 = (rd l0 x8_1)
            · rw [if_pos c6] at H
              have c6b0 : (a1 == (rd l0 x8_1)) = true := beq_iff_eq.mpr c6
              have c6b1 : (a1 != (rd l0 x8_1)) = false := bne_eq_false_iff_eq.mpr c6
              clear c6
              obtain rfl := Option.some.inj H
              have p223 : 0 ≤ (x8_1 : Int) := of_decide_eq_true (by first | (with_reducible assumption) | assumption)
              have q223 : x8_1 < (l0.length : Int) := of_decide_eq_true (by first | (with_reducible assumption) | assumption)
              obtain ⟨ad223, e223, hx223_0⟩ := Kd.at_int HR0.out x8_1 p223 q223
              cases e223
              replace p223 := eq_true p223
              replace q223 := eq_true q223
              go_wp2
              go_ret
              exact ⟨by first | rfl | (simp; done) | (simp [*]; done), by repeat (first | exact Drawn0.refl _ | apply Drawn0.step)⟩
            · rw [if_neg c6] at H
              have c6b0 : (a1 == (rd l0 x8_1)) = false := beq_eq_false_iff_ne.mpr c6
              have c6b1 : (a1 != (rd l0 x8_1)) = true := bne_iff_ne.mpr c6
              have H' := Aside0.mk H
              clear H
              have p223 : 0 ≤ (x8_1 : Int) := of_decide_eq_true (by first | (with_reducible assumption) | assumption)
              have q223 : x8_1 < (l0.length : Int) := of_decide_eq_true (by first | (with_reducible assumption) | assumption)
              obtain ⟨ad223, e223, hx223_0⟩ := Kd.at_int HR0.out x8_1 p223 q223
              cases e223
              replace p223 := eq_true p223
              replace q223 := eq_true q223
              go_wp2
              go_roundg k1
              case measure => have := HK1.out; omega
              case rel => exact ⟨(wrap64 (x8_1 + 1)), (by first | rfl | (simp; done) | (simp [*]; done)), H', ⟨by have := HK1.out; omega⟩, by repeat (first | exact Drawn0.refl _ | apply Drawn0.step)⟩
          · rw [if_neg c5] at H
            exact absurd H (by simp)
        · rw [if_neg c4] at H
          exact absurd H (by simp)
      · rw [if_neg c3] at H
        have c3b0 : decide (x8_1 < (l0.length : Int)) = false := decide_eq_false c3
        clear c3
        obtain rfl := Option.some.inj H
        go_wp2
        go_ret
        exact ⟨by first | rfl | (simp; done) | (simp [*]; done), by repeat (first | exact Drawn0.refl _ | apply Drawn0.step)⟩
def slices_Contains_uint8_uint8.f (k : Nat) (l0 : List Int) (a1 : Int) : Option (Bool) := (slices_Index_uint8_uint8.f k l0 a1).bind fun t224 => (some (decide (t224 ≥ 0)))
set_option maxHeartbeats 8000000 in
set_option maxRecDepth 100000 in
theorem slices_Contains_uint8_uint8.calls (k : Nat) (A0 : Option Addr) (c0 : Nat) (l0 : List Int) (a1 : Int) (r : Bool) (w : World) (hr0 : Kd.C (Kd.int .u8) w A0 l0.length l0) (hc0 : l0.length ≤ c0) (h : slices_Contains_uint8_uint8.f k l0 a1 = some r) :
    Calls Tryz.prog 131 #[.slice A0 l0.length c0, .int .u8 a1] w fun e w' => e = .returned (.bool r) ∧ Drawn0 w w' := by
  have HR0 := Aside0.mk hr0
  have HC0 := Aside0.mk hc0
  clear hr0 hc0
  have H : ((slices_Index_uint8_uint8.f k l0 a1).bind fun t224 => (some (decide (t224 ≥ 0)))) = some r := h
  clear h
  replace H := Option.bind_eq_some_iff.mp H
  obtain ⟨t224, A30, H⟩ := H
  replace H : (some (decide (t224 ≥ 0))) = some r := H
  have A3 := Aside0.mk A30
  clear A30
  obtain rfl := Option.some.inj H
  go_enter Tryz.func131, Tryz.ntmps131
  go_wp2_with (first | ((with_reducible refine gate_callee (f := 167) rfl ?_); refine goesL_ (some 7) rfl rfl Tryz.func167 (by kernel_rfl) rfl #[.slice A0 l0.length c0, .int .u8 a1] rfl (by (try simp only [List.map_toArray, List.map_cons, List.map_nil]); first | done | rfl | (simp only [List.length_drop, List.length_take]; rfl)) ?_; (with_reducible refine (slices_Index_uint8_uint8.calls k _ _ l0 a1 t224 _ ?side1 ?side2 A3.out).mono ?_); (case side1 => repeat (first | exact HR0.out | (with_reducible refine Kd.C_alloc ?_ _) | (with_reducible refine Kd.C_drewN ?_ _) | (with_reducible refine Kd.C_drew ?_))); (case side2 => exact HC0.out); rintro e w' ⟨rfl, ⟨nd, rfl⟩⟩; refine ⟨_, rfl, ?_⟩))
  go_ret
  exact ⟨by first | rfl | (simp; done) | (simp [*]; done), by repeat (first | exact Drawn0.refl _ | apply Drawn0.step)⟩
def slices_Equal_int64_int64.l0 : Nat → List Int → List Int → Int → Int → Option (Bool)
  | 0, _, _, _, _ => none
  | k + 1, x0, x1, x12, x13 => if x13 < x12 then (if 0 ≤ x13 then (if x13 < (x0.length : Int) then (if x13 < (x1.length : Int) then (if (rd x0 x13) = (rd x1 x13) then (slices_Equal_int64_int64.l0 k x0 x1 x12 (wrap64 (x13 + 1))) else (some false)) else (none)) else (none)) else (none)) else (some true)
def slices_Equal_int64_int64.f (k : Nat) (l0 : List Int) (l1 : List Int) : Option (Bool) := if (l0.length : Int) = (l1.length : Int) then (slices_Equal_int64_int64.l0 k l0 l1 (l0.length : Int) 0) else (some false)
set_option maxHeartbeats 8000000 in
set_option maxRecDepth 100000 in
theorem slices_Equal_int64_int64.calls (k : Nat) (A0 : Option Addr) (c0 : Nat) (l0 : List Int) (A1 : Option Addr) (c1 : Nat) (l1 : List Int) (r : Bool) (w : World) (hr0 : Kd.C (Kd.int .i64) w A0 l0.length l0) (hc0 : l0.length ≤ c0) (hr1 : Kd.C (Kd.int .i64) w A1 l1.length l1) (hc1 : l1.length ≤ c1) (h : slices_Equal_int64_int64.f k l0 l1 = some r) :
    Calls Tryz.prog 46 #[.slice A0 l0.length c0, .slice A1 l1.length c1] w fun e w' => e = .returned (.bool r) ∧ Drawn0 w w' := by
  have HR0 := Aside0.mk hr0
  have HC0 := Aside0.mk hc0
  clear hr0 hc0
  have HR1 := Aside0.mk hr1
  have HC1 := Aside0.mk hc1
  clear hr1 hc1
  have H : (if (l0.length : Int) = (l1.length : Int) then (slices_Equal_int64_int64.l0 k l0 l1 (l0.length : Int) 0) else (some false)) = some r := h
  clear h
  by_cases c3 : (l0.length : Int) = (l1.length : Int)
  · rw [if_pos c3] at H
    have c3b0 : ((l0.length : Int) == (l1.length : Int)) = true := beq_iff_eq.mpr c3
    have c3b1 : ((l0.length : Int) != (l1.length : Int)) = false := bne_eq_false_iff_eq.mpr c3
    have c3b2 : (l0.length == l1.length) = true := by first | simpa using c3 | (simp at c3 ⊢; omega)
    clear c3
    have H' := Aside0.mk H
    clear H
    go_enter Tryz.func46, Tryz.ntmps46
    go_wp2
    repeat (go_quiet (fail); try go_wp2)
    go_loopg [13] k (fun kq v13 w' => ∃ (x13_1 : Int), v13 = .int .i64 x13_1 ∧ Aside0 (slices_Equal_int64_int64.l0 kq l0 l1 (l0.length : Int) x13_1 = some r) ∧ Aside0 (kq ≤ k) ∧ Drawn0 w w')
    case atStart => exact ⟨(0), (by first | rfl | (simp; done) | (simp [*]; done)), H', ⟨Nat.le_refl _⟩, by repeat (first | exact Drawn0.refl _ | apply Drawn0.step)⟩
    case round =>
      clear H'
      try clear c1
      try clear p2
      try clear c3
      try clear c3b0
      try clear c3b1
      try clear c3b2
      obtain ⟨x13_1, rfl, HA, HK1, ⟨m1, rfl⟩⟩ := hrel
      cases gk with
      | zero => exact absurd HA.out (by simp [slices_Equal_int64_int64.l0])
      | succ k1 =>
        have H := HA.out
        clear HA
        simp only [slices_Equal_int64_int64.l0] at H
        by_cases c4 : x13_1 < (l0.length : Int)
        · rw [if_pos c4] at H
          have c4b0 : decide (x13_1 < (l0.length : Int)) = true := decide_eq_true c4
          clear c4
          by_cases c5 : 0 ≤ x13_1
          · rw [if_pos c5] at H
            have c5b0 : decide (0 ≤ x13_1) = true := decide_eq_true c5
            clear c5
            by_cases c6 : x13_1 < (l0.length : Int)
            · rw [if_pos c6] at H
              have c6b0 : decide (x13_1 < (l0.length : Int)) = true := decide_eq_true c6
              clear c6
              by_cases c7 : x13_1 < (l1.length : Int)
              · rw [if_pos c7] at H
                have c7b0 : decide (x13_1 < (l1.length : Int)) = true := decide_eq_true c7
                clear c7
                by_cases c8 : (rd l0 x13_1) = (rd l1 x13_1)
                · rw [if_pos c8] at H
                  have c8b0 : ((rd l0 x13_1) == (rd l1 x13_1)) = true := beq_iff_eq.mpr c8
                  have c8b1 : ((rd l0 x13_1) != (rd l1 x13_1)) = false := bne_eq_false_iff_eq.mpr c8
                  clear c8
                  have H' := Aside0.mk H
                  clear H
                  have p259 : 0 ≤ (x13_1 : Int) := of_decide_eq_true (by first | (with_reducible assumption) | assumption)
                  have q259 : x13_1 < (l0.length : Int) := of_decide_eq_true (by first | (with_reducible assumption) | assumption)
                  obtain ⟨ad259, e259, hx259_0⟩ := Kd.at_int HR0.out x13_1 p259 q259
                  cases e259
                  replace p259 := eq_true p259
                  replace q259 := eq_true q259
                  have p260 : 0 ≤ (x13_1 : Int) := of_decide_eq_true (by first | (with_reducible assumption) | assumption)
                  have q260 : x13_1 < (l1.length : Int) := of_decide_eq_true (by first | (with_reducible assumption) | assumption)
                  obtain ⟨ad260, e260, hx260_0⟩ := Kd.at_int HR1.out x13_1 p260 q260
                  cases e260
                  replace p260 := eq_true p260
                  replace q260 := eq_true q260
                  go_wp2
                  repeat (go_quiet (fail); try go_wp2)
                  go_roundg k1
                  case measure => have := HK1.out; omega
                  case rel => exact ⟨(wrap64 (x13_1 + 1)), (by first | rfl | (simp; done) | (simp [*]; done)), H', ⟨by have := HK1.out; omega⟩, by repeat (first | exact Drawn0.refl _ | apply Drawn0.step)⟩
                · rw [if_neg c8] at H
                  have c8b0 : ((rd l0 x13_1) == (rd l1 x13_1)) = false := beq_eq_false_iff_ne.mpr c8
                  have c8b1 : ((rd l0 x13_1) != (rd l1 x13_1)) = true := bne_iff_ne.mpr c8
                  obtain rfl := Option.some.inj H
                  have p259 : 0 ≤ (x13_1 : Int) := of_decide_eq_true (by first | (with_reducible assumption) | assumption)
                  have q259 : x13_1 < (l0.length : Int) := of_decide_eq_true (by first | (with_reducible assumption) | assumption)
                  obtain ⟨ad259, e259, hx259_0⟩ := Kd.at_int HR0.out x13_1 p259 q259
                  cases e259
                  replace p259 := eq_true p259
                  replace q259 := eq_true q259
                  have p260 : 0 ≤ (x13_1 : Int) := of_decide_eq_true (by first | (with_reducible assumption) | assumption)
                  have q260 : x13_1 < (l1.length : Int) := of_decide_eq_true (by first | (with_reducible assumption) | assumption)
                  obtain ⟨ad260, e260, hx260_0⟩ := Kd.at_int HR1.out x13_1 p260 q260
                  cases e260
                  replace p260 := eq_true p260
                  replace q260 := eq_true q260
                  go_wp2
                  repeat (go_quiet (fail); try go_wp2)
                  go_ret
                  exact ⟨by first | rfl | (simp; done) | (simp [*]; done), by repeat (first | exact Drawn0.refl _ | apply Drawn0.step)⟩
              · rw [if_neg c7] at H
                exact absurd H (by simp)
            · rw [if_neg c6] at H
              exact absurd H (by simp)
          · rw [if_neg c5] at H
            exact absurd H (by simp)
        · rw [if_neg c4] at H
          have c4b0 : decide (x13_1 < (l0.length : Int)) = false := decide_eq_false c4
          clear c4
          obtain rfl := Option.some.inj H
          go_wp2
          repeat (go_quiet (fail); try go_wp2)
          go_ret
          exact ⟨by first | rfl | (simp; done) | (simp [*]; done), by repeat (first | exact Drawn0.refl _ | apply Drawn0.step)⟩
  · rw [if_neg c3] at H
    have c3b0 : ((l0.length : Int) == (l1.length : Int)) = false := beq_eq_false_iff_ne.mpr c3
    have c3b1 : ((l0.length : Int) != (l1.length : Int)) = true := bne_iff_ne.mpr c3
    have c3b2 : (l0.length == l1.length) = false := by first | simpa using c3 | (simp at c3 ⊢; omega)
    obtain rfl := Option.some.inj H
    go_enter Tryz.func46, Tryz.ntmps46
    go_wp2
    repeat (go_quiet (fail); try go_wp2)
    go_ret
    exact ⟨by first | rfl | (simp; done) | (simp [*]; done), by repeat (first | exact Drawn0.refl _ | apply Drawn0.step)⟩
end Go.Proofs.YtcinojbfjiohjaaGreatDoor.PPrintTells
end

section
namespace Go.Proofs.YtcinojbfjiohjaaGreatDoor.Pa
open Go Go.RowKit Go.Proofs.YtcinojbfjiohjaaGreatDoor.PPrintTells Go.Proofs.YtcinojbfjiohjaaGreatDoorW.PrintWords Go.Proofs.YtcinojbfjiohjaaGreatDoorW.PrintLast Go.Proofs.YtcinojbfjiohjaaGreatDoorW.PrintMore
set_option linter.unusedVariables false
set_option linter.unusedSimpArgs false
abbrev Tok := S51
abbrev tokV (t : Tok) : Value := .agg #[.int .u8 t.f0, .string t.f1, .int .i64 t.f2]
def IsP (w0 W : World) (g : Nat) (L : List Tok) (a p : Int) : Prop :=
  ∃ A0 c0, W.heap[g]? = some (.cells #[.slice A0 L.length c0, .int .i64 a, .int .i64 p] 82 (0, 0)) ∧ w0.heap.size ≤ g ∧ L.length ≤ c0 ∧ Kd.C k51 w0 A0 L.length L ∧ Below w0.heap.size w0 W
theorem IsP.keep {w0 W W1 : World} {g : Nat} {L : List Tok} {a p : Int} (h : IsP w0 W g L a p) (hk : Below W.heap.size W W1) : IsP w0 W1 g L a p := by
  obtain ⟨A0, c0, h1, h2, h3, h4, h5⟩ := h
  exact ⟨A0, c0, (hk.block g (blk_lt h1)).trans h1, h2, h3, h4, below_then h5 h5.size hk⟩
theorem IsP.lt {w0 W : World} {g : Nat} {L : List Tok} {a p : Int} (h : IsP w0 W g L a p) : g < W.heap.size := by
  obtain ⟨A0, c0, h1, _⟩ := h
  exact blk_lt h1
theorem IsP.head {w0 W : World} {g : Nat} {t : Tok} {r : List Tok} {a p : Int} (h : IsP w0 W g (t :: r) a p) :
    ∃ ad c0, W.heap[g]? = some (.cells #[.slice (some ad) (r.length + 1) c0, .int .i64 a, .int .i64 p] 82 (0, 0)) ∧ r.length + 1 ≤ c0 ∧ W.cell? ad = some (.int .u8 t.f0) ∧ W.cell? ⟨ad.block, ad.off + 1, none⟩ = some (.string t.f1) ∧ W.cell? ⟨ad.block, ad.off + 2, none⟩ = some (.int .i64 t.f2) ∧ r.length + 1 ≤ 9223372036854775807 := by
  obtain ⟨A0, c0, h1, h2, h3, h4, h5⟩ := h
  have hC := Kd.C_below h4 h5
  obtain ⟨ad, rfl, c1, c2, c3⟩ := at_T51 hC 0 (by omega) (by simp)
  have e : ad.add ((0 : Int).toNat * 3) = ad := by show ad.add 0 = ad; exact Addr.add_zero' ad
  rw [e] at c1 c2 c3
  exact ⟨ad, c0, h1, h3, c1, c2, c3, hC.2.1⟩
def kindF : List Tok → Int
  | [] => 0
  | t :: _ => t.f0
def isF (s : ByteArray) : List Tok → Bool
  | [] => false
  | t :: _ => decide (t.f0 = 4) && (t.f1.toList == s.toList)
set_option maxHeartbeats 4000000 in
theorem kind_calls (g : Nat) (L : List Tok) (a p : Int) (w0 w : World) (hI : IsP w0 w g L a p) :
    Calls Tryz.prog 92 #[.pointer (some ⟨g, 0, none⟩)] w fun e w' => e = .returned (.int .u8 (kindF L)) ∧ Drawn0 w w' := by
  cases L with
  | nil =>
    obtain ⟨A0, c0, h1, h2, h3, h4, h5⟩ := hI
    have q0 : w.cell? ⟨g, 0, none⟩ = some (.slice A0 0 c0) := (blk_cell h1 0).trans rfl
    have hk : kindF [] = 0 := rfl
    rw [hk]
    clear h1 h2 h3 h4 h5 hk
    go_enter Tryz.func92, Tryz.ntmps92
    go_wp2
    go_ret
    exact ⟨rfl, by repeat (first | exact Drawn0.refl _ | apply Drawn0.step)⟩
  | cons t r =>
    obtain ⟨ad, c0, h1, h3, c1, c2, c3, hm⟩ := hI.head
    have q0 : w.cell? ⟨g, 0, none⟩ = some (.slice (some ad) (r.length + 1) c0) := (blk_cell h1 0).trans rfl
    have hk : kindF (t :: r) = t.f0 := rfl
    rw [hk]
    obtain ⟨N, hN⟩ : ∃ N, N = r.length + 1 := ⟨_, rfl⟩
    rw [← hN] at q0
    have n1 : ((N : Int) == 0) = false := beq_eq_false_iff_ne.2 (by omega)
    have n2 : (0 : Int) < (N : Int) := by omega
    have n3 : ¬ (N = 0) := by omega
    have n4 : 0 < N := by omega
    clear h1 h3 hk hN hI hm
    go_enter Tryz.func92, Tryz.ntmps92
    go_wp2
    go_ret
    exact ⟨rfl, by repeat (first | exact Drawn0.refl _ | apply Drawn0.step)⟩
theorem IsP.drawn {w0 W W1 : World} {g : Nat} {L : List Tok} {a p : Int} (h : IsP w0 W g L a p) (hk : Drawn0 W W1) : IsP w0 W1 g L a p := h.keep hk.below
set_option maxHeartbeats 4000000 in
theorem is_calls (g : Nat) (s : ByteArray) (L : List Tok) (a p : Int) (w0 w : World) (hI : IsP w0 w g L a p) :
    Calls Tryz.prog 133 #[.pointer (some ⟨g, 0, none⟩), .string s] w fun e w' => e = .returned (.bool (isF s L)) ∧ Drawn0 w w' := by
  have CK := Aside0.mk (kind_calls g L a p w0 w hI)
  cases L with
  | nil =>
    have hk : kindF [] = 0 := rfl
    have hi : isF s [] = false := rfl
    rw [hk] at CK
    rw [hi]
    clear hk hi hI
    go_enter Tryz.func133, Tryz.ntmps133
    go_wp2_with fail
    (with_reducible refine CK.out.mono ?_)
    rintro e w1 ⟨rfl, hd1⟩
    have HD := Aside0.mk hd1
    clear hd1
    go_wp2
    go_ret
    exact ⟨rfl, by repeat (first | exact HD.out | exact Drawn0.refl _ | apply Drawn0.step)⟩
  | cons t r =>
    have hk : kindF (t :: r) = t.f0 := rfl
    have hi : isF s (t :: r) = (decide (t.f0 = 4) && (t.f1.toList == s.toList)) := rfl
    rw [hk] at CK
    rw [hi]
    have HI := Aside0.mk hI
    clear hk hi hI
    by_cases h4 : t.f0 = 4
    · have e4 : (t.f0 == 4) = true := beq_iff_eq.2 h4
      rw [decide_eq_true h4, Bool.true_and]
      go_enter Tryz.func133, Tryz.ntmps133
      go_wp2_with fail
      (with_reducible refine CK.out.mono ?_)
      rintro e w1 ⟨rfl, hd1⟩
      obtain ⟨ad, c0, h1, h3, c1, c2, c3, hm⟩ := (HI.out.drawn hd1).head
      have q0 : w1.cell? ⟨g, 0, none⟩ = some (.slice (some ad) (r.length + 1) c0) := (blk_cell h1 0).trans rfl
      have HD := Aside0.mk hd1
      have n2 : (0 : Int) < ((r.length : Int) + 1) := by omega
      clear hd1 h1 h3 hm h4
      go_wp2
      go_ret
      exact ⟨rfl, by repeat (first | exact HD.out | exact Drawn0.refl _ | apply Drawn0.step)⟩
    · have e4 : (t.f0 == 4) = false := beq_eq_false_iff_ne.2 h4
      rw [decide_eq_false h4, Bool.false_and]
      go_enter Tryz.func133, Tryz.ntmps133
      go_wp2_with fail
      (with_reducible refine CK.out.mono ?_)
      rintro e w1 ⟨rfl, hd1⟩
      have HD := Aside0.mk hd1
      clear hd1 h4
      go_wp2
      go_ret
      exact ⟨rfl, by repeat (first | exact HD.out | exact Drawn0.refl _ | apply Drawn0.step)⟩
end Go.Proofs.YtcinojbfjiohjaaGreatDoor.Pa
end

section
namespace Go.Proofs.YtcinojbfjiohjaaGreatDoor.Pa
open Go Go.RowKit Go.Proofs.YtcinojbfjiohjaaGreatDoor.PPrintTells Go.Proofs.YtcinojbfjiohjaaGreatDoorW.PrintWords Go.Proofs.YtcinojbfjiohjaaGreatDoorW.PrintLast Go.Proofs.YtcinojbfjiohjaaGreatDoorW.PrintMore
set_option linter.unusedVariables false
set_option linter.unusedSimpArgs false
abbrev At (g : Nat) : Nat → Prop := fun k => k = g
theorem blk_far {w : World} {g : Nat} {o : Obj} (h : w.heap[g]? = some o) {p : Addr} (hp : p.block ≠ g) (u : Value) : (w.setCell p u).heap[g]? = some o := (Below.heap_setCell w p u g (Ne.symm hp)).trans h
theorem IsP.mv {w0 W W1 : World} {g : Nat} {L : List Tok} {a p : Int} (h : IsP w0 W g L a p) {S : Nat → Prop} (hk : Kept W W1 S) (hB : Below w0.heap.size w0 W1) (hg : ¬ S g) : IsP w0 W1 g L a p := by
  obtain ⟨A0, c0, h1, h2, h3, h4, h5⟩ := h
  exact ⟨A0, c0, (hk.2 g (blk_lt h1) hg).trans h1, h2, h3, h4, hB⟩
theorem IsP.low {w0 W : World} {g : Nat} {L : List Tok} {a p : Int} (h : IsP w0 W g L a p) : Below w0.heap.size w0 W := by
  obtain ⟨A0, c0, h1, h2, h3, h4, h5⟩ := h
  exact h5
theorem IsP.ge {w0 W : World} {g : Nat} {L : List Tok} {a p : Int} (h : IsP w0 W g L a p) : w0.heap.size ≤ g := by
  obtain ⟨A0, c0, h1, h2, _⟩ := h
  exact h2
theorem IsP.tail {w0 W : World} {g : Nat} {t : Tok} {r : List Tok} {a p : Int} (h : IsP w0 W g (t :: r) a p) :
    ∃ ad c0, W.heap[g]? = some (.cells #[.slice (some ad) (r.length + 1) c0, .int .i64 a, .int .i64 p] 82 (0, 0)) ∧ r.length + 1 ≤ c0 ∧ W.cell? ad = some (.int .u8 t.f0) ∧ W.cell? ⟨ad.block, ad.off + 1, none⟩ = some (.string t.f1) ∧ W.cell? ⟨ad.block, ad.off + 2, none⟩ = some (.int .i64 t.f2) ∧ r.length + 1 ≤ 9223372036854775807 ∧
      ∀ W1, W1.heap[g]? = some (.cells #[.slice (if c0 = 1 then some ad else some (ad.add 3)) r.length (c0 - 1), .int .i64 a, .int .i64 p] 82 (0, 0)) → Below w0.heap.size w0 W1 → IsP w0 W1 g r a p := by
  obtain ⟨ad, c0, h1, h3, c1, c2, c3, hm⟩ := h.head
  obtain ⟨A0, c0', e1, e2, e3, e4, e5⟩ := h
  rw [h1] at e1
  simp only [Option.some.injEq, Obj.cells.injEq] at e1
  have e6 := e1.1
  simp only [Array.mk.injEq, List.cons.injEq, Value.slice.injEq] at e6
  obtain ⟨⟨rfl, _, rfl⟩, _⟩ := e6
  refine ⟨ad, c0, h1, h3, c1, c2, c3, hm, ?_⟩
  intro W1 b1 b2
  have hd := Kd.C_drop (m := 1) (c := c0) e4 (by simp) e3
  rw [show (if c0 = 1 then some ad else (some ad).map (·.add (1 * k51.sz))) = (if c0 = 1 then some ad else some (ad.add 3)) from rfl] at hd
  exact ⟨_, c0 - 1, b1, e2, by omega, hd, b2⟩
theorem IsP.fin {w0 w W1 : World} {g : Nat} {L : List Tok} {a p : Int} (h : IsP w0 w g L a p) (hk : Kept w W1 (fun _ => False)) (hB : Below w0.heap.size w0 W1) : IsP w0 W1 g L a p ∧ Kept w W1 (At g) := ⟨h.mv hk hB (fun h => h), hk.mono (fun _ h => h.elim)⟩
theorem kept_at {w W : World} {g : Nat} (h : Kept w W (At g)) (i : Nat) (u : Value) : Kept w (W.setCell ⟨g, i, none⟩ u) (At g) := h.setCell (p := ⟨g, i, none⟩) (.inl rfl) u
theorem kept_new {w W : World} {S : Nat → Prop} {b : Nat} (h : Kept w W S) (i : Nat) (u : Value) (hb : w.heap.size ≤ b) : Kept w (W.setCell ⟨b, i, none⟩ u) S := h.setCell (p := ⟨b, i, none⟩) (.inr hb) u
theorem kinds_C (w : World) (ks : List Int) (hl : ks.length ≤ 9223372036854775807) : (Kd.int .u8).C (w.alloc (.cells (ks.map (Value.int .u8)).toArray 5)) (some ⟨w.heap.size, 0, none⟩) ks.length ks := by
  refine ⟨rfl, hl, fun _ => ⟨_, rfl, fun j p hj => ⟨[.int .u8 p], rfl, rfl, fun i u hu => ?_⟩⟩⟩
  cases i with
  | succ i => simp at hu
  | zero =>
    have hu' : Value.int .u8 p = u := by simpa using hu
    subst hu'
    have he : (⟨w.heap.size, 0, none⟩ : Addr).add (j * (Kd.int .u8).sz + 0) = ⟨w.heap.size, j, none⟩ := by
      show (⟨w.heap.size, 0, none⟩ : Addr).add (j * 1 + 0) = _
      unfold Addr.add
      split
      · rename_i h0
        have : j = 0 := by omega
        subst this
        rfl
      · simp
    refine (congrArg (fun x => World.cell? (w.alloc (.cells (ks.map (Value.int .u8)).toArray 5)) x) he).trans ?_
    refine (blk_cell (blk_new w _) j).trans ?_
    simp [hj]
def takeF (ks : List Int) : List Tok → Tok × List Tok × Int
  | [] => (z51, [], 110)
  | t :: r => if t.f0 ≠ 0 ∧ t.f0 ∈ ks then (t, r, 0) else (z51, t :: r, 110)
def Asks (ks : List Int) : Prop := ∀ x : Int, ∃ k, slices_Contains_uint8_uint8.f k ks x = some (decide (x ∈ ks))
theorem asks1 : Asks [1] := by
  intro x
  refine ⟨3, ?_⟩
  by_cases h : x = 1
  · subst h; rfl
  · simp [slices_Contains_uint8_uint8.f, slices_Index_uint8_uint8.f, slices_Index_uint8_uint8.l0, rd, h, wrap64]
theorem asks23 : Asks [2, 3] := by
  intro x
  refine ⟨4, ?_⟩
  by_cases h : x = 2
  · subst h; rfl
  by_cases h' : x = 3
  · subst h'; decide +kernel
  · simp [slices_Contains_uint8_uint8.f, slices_Index_uint8_uint8.f, slices_Index_uint8_uint8.l0, rd, h, h', wrap64]
theorem info_tok : (Tryz.prog.info? 51).map (·.size) = some 3 := by kernel_rfl
set_option maxHeartbeats 8000000 in
theorem take_calls (g : Nat) (ks : List Int) (hct : Asks ks) (A : Option Addr) (n c : Nat) (L : List Tok) (a p : Int) (w0 w : World) (hI : IsP w0 w g L a p) (hn : n = ks.length) (hK : (Kd.int .u8).C w A ks.length ks) (hc : ks.length ≤ c) :
    Calls Tryz.prog 93 #[.pointer (some ⟨g, 0, none⟩), .slice A n c] w fun e w' => e = .returned (.tuple #[tokV (takeF ks L).1, .int .i64 (takeF ks L).2.2]) ∧ IsP w0 w' g (takeF ks L).2.1 a p ∧ Kept w w' (At g) := by
  subst hn
  have hg := hI.ge
  have hlt := hI.lt
  have hsz : w0.heap.size ≤ w.heap.size := by omega
  have CK := fun W h => Aside0.mk (kind_calls g L a p w0 W h)
  have CC : ∀ x W, Below w.heap.size w W → Aside0 (Calls Tryz.prog 131 #[.slice A ks.length c, .int .u8 x] W fun e w' => e = .returned (.bool (decide (x ∈ ks))) ∧ Drawn0 W w') := by
    intro x W hb
    obtain ⟨k, hk⟩ := hct x
    exact ⟨slices_Contains_uint8_uint8.calls k A c ks x _ W (Kd.C_below hK hb) hc hk⟩
  cases L with
  | nil =>
    have HI := Aside0.mk hI
    have hk : kindF [] = 0 := rfl
    rw [hk] at CK
    have e0 : takeF ks [] = (z51, [], 110) := rfl
    rw [e0]
    clear hI hk e0
    go_enter Tryz.func93, Tryz.ntmps93
    go_wp2_with fail
    (with_reducible refine (CK _ ?i).out.mono ?_)
    case i => exact HI.out.keep (below_alloc (Below.refl _ _) _)
    rintro e w1 ⟨rfl, ⟨m, rfl⟩⟩
    go_wp2
    have b1 := blk_new w (.cells #[.int .u8 0, .string { data := #[] }, .int .i64 0] 51)
    refine bodyPost_ret (results_ct rfl _ _ _ 51 _ (0, 0) _ rfl (blk_put (blk_put (blk_put (blk_drewN b1 m) 0 _ rfl) 1 _ rfl) 2 _ rfl) Tryz.underlying51 rfl info_tok) rfl ?_
    exact ⟨rfl, HI.out.fin (by (repeat (first | (with_reducible exact Kept.refl _ _) | (with_reducible apply Kept.alloc) | (with_reducible apply Kept.drewN) | (with_reducible apply Kept.drew) | (with_reducible refine kept_at ?_ _ _) | (with_reducible refine kept_new ?_ _ _ (Nat.le_refl _)) | (with_reducible refine kept_new ?_ _ _ (by first | assumption | omega))))) (by (repeat (first | (with_reducible exact HI.out.low) | (with_reducible apply below_alloc) | (with_reducible apply pw_below_drewN) | (with_reducible apply below_drew1) | (with_reducible refine below_set ?_ (by first | assumption | omega)))))⟩
  | cons t r =>
    have HI := Aside0.mk hI
    have hk : kindF (t :: r) = t.f0 := rfl
    rw [hk] at CK
    have e0 : takeF ks (t :: r) = if t.f0 ≠ 0 ∧ t.f0 ∈ ks then (t, r, 0) else (z51, t :: r, 110) := rfl
    rw [e0]
    obtain ⟨ad, c0, h1, h3, c1, c2, c3, hm, hT⟩ := hI.tail
    have h1d : ∀ o m, ((w.alloc o).drewN m).heap[g]? = _ := fun o m => blk_drewN (blk_alloc h1 o) m
    have b1 := blk_new w (.cells #[.int .u8 0, .string { data := #[] }, .int .i64 0] 51)
    clear hI hk e0
    by_cases hz : t.f0 = 0
    · have ez : (t.f0 == 0) = true := beq_iff_eq.2 hz
      rw [if_neg (fun h => h.1 hz)]
      clear h1 h3 c1 c2 c3 hm hT h1d
      go_enter Tryz.func93, Tryz.ntmps93
      go_wp2_with fail
      (with_reducible refine (CK _ ?i).out.mono ?_)
      case i => exact HI.out.keep (below_alloc (Below.refl _ _) _)
      rintro e w1 ⟨rfl, ⟨m, rfl⟩⟩
      go_wp2
      refine bodyPost_ret (results_ct rfl _ _ _ 51 _ (0, 0) _ rfl (blk_put (blk_put (blk_put (blk_drewN b1 m) 0 _ rfl) 1 _ rfl) 2 _ rfl) Tryz.underlying51 rfl info_tok) rfl ?_
      exact ⟨rfl, HI.out.fin (by (repeat (first | (with_reducible exact Kept.refl _ _) | (with_reducible apply Kept.alloc) | (with_reducible apply Kept.drewN) | (with_reducible apply Kept.drew) | (with_reducible refine kept_at ?_ _ _) | (with_reducible refine kept_new ?_ _ _ (Nat.le_refl _)) | (with_reducible refine kept_new ?_ _ _ (by first | assumption | omega))))) (by (repeat (first | (with_reducible exact HI.out.low) | (with_reducible apply below_alloc) | (with_reducible apply pw_below_drewN) | (with_reducible apply below_drew1) | (with_reducible refine below_set ?_ (by first | assumption | omega)))))⟩
    have ez : (t.f0 == 0) = false := beq_eq_false_iff_ne.2 hz
    by_cases hi : t.f0 ∈ ks
    · have ei : decide (t.f0 ∈ ks) = true := decide_eq_true hi
      rw [if_pos ⟨hz, hi⟩]
      have n1 : (0 : Int) < (r.length : Int) + 1 := by omega
      have n2 : 0 < r.length + 1 := by omega
      have n3 : 1 ≤ r.length + 1 := by omega
      have n5 : r.length + 1 - 1 = r.length := by omega
      have q0 : w.cell? ⟨g, 0, none⟩ = some (.slice (some ad) (r.length + 1) c0) := (blk_cell h1 0).trans rfl
      have had := World.block_lt_of_cell? _ _ c1
      have f0 := blk_frozen h1 0
      clear hi hz
      go_enter Tryz.func93, Tryz.ntmps93
      go_wp2_with fail
      (with_reducible refine (CK _ ?i).out.mono ?_)
      case i => exact HI.out.keep (below_alloc (Below.refl _ _) _)
      rintro e w1 ⟨rfl, ⟨m, rfl⟩⟩
      go_wp2_with fail
      (with_reducible refine (CC _ _ ?i).out.mono ?_)
      case i => (repeat (first | (with_reducible exact (Below.refl w.heap.size w)) | (with_reducible apply below_alloc) | (with_reducible apply pw_below_drewN) | (with_reducible apply below_drew1) | (with_reducible refine below_set ?_ (by first | assumption | omega))))
      rintro e w1 ⟨rfl, ⟨m2, rfl⟩⟩
      rw [ei]
      have hne : g ≠ w.heap.size := by omega
      by_cases hc1 : c0 = 1
      · subst hc1
        rw [if_pos rfl] at hT
        go_wp2
        all_goals refine bodyPost_ret (results_ct rfl _ _ _ 51 _ (0, 0) _ rfl (blk_alloc (blk_put (blk_put (blk_put (blk_far (blk_drewN b1 _) hne _) 0 _ rfl) 1 _ rfl) 2 _ rfl) _) Tryz.underlying51 rfl info_tok) rfl ?_
        all_goals refine ⟨rfl, hT _ ?_ ?_, ?_⟩
        · exact blk_alloc (blk_far (blk_far (blk_far (blk_put (blk_drewN (blk_alloc h1 _) _) 0 _ rfl) hne.symm _) hne.symm _) hne.symm _) _
        · (repeat (first | (with_reducible exact HI.out.low) | (with_reducible apply below_alloc) | (with_reducible apply pw_below_drewN) | (with_reducible apply below_drew1) | (with_reducible refine below_set ?_ (by first | assumption | omega))))
        · (repeat (first | (with_reducible exact Kept.refl _ _) | (with_reducible apply Kept.alloc) | (with_reducible apply Kept.drewN) | (with_reducible apply Kept.drew) | (with_reducible refine kept_at ?_ _ _) | (with_reducible refine kept_new ?_ _ _ (Nat.le_refl _)) | (with_reducible refine kept_new ?_ _ _ (by first | assumption | omega))))
      · rw [if_neg hc1] at hT
        go_wp2
        all_goals refine bodyPost_ret (results_ct rfl _ _ _ 51 _ (0, 0) _ rfl (blk_alloc (blk_put (blk_put (blk_put (blk_far (blk_drewN b1 _) hne _) 0 _ rfl) 1 _ rfl) 2 _ rfl) _) Tryz.underlying51 rfl info_tok) rfl ?_
        all_goals refine ⟨rfl, hT _ ?_ ?_, ?_⟩
        · exact blk_alloc (blk_far (blk_far (blk_far (blk_put (blk_drewN (blk_alloc h1 _) _) 0 _ rfl) hne.symm _) hne.symm _) hne.symm _) _
        · (repeat (first | (with_reducible exact HI.out.low) | (with_reducible apply below_alloc) | (with_reducible apply pw_below_drewN) | (with_reducible apply below_drew1) | (with_reducible refine below_set ?_ (by first | assumption | omega))))
        · (repeat (first | (with_reducible exact Kept.refl _ _) | (with_reducible apply Kept.alloc) | (with_reducible apply Kept.drewN) | (with_reducible apply Kept.drew) | (with_reducible refine kept_at ?_ _ _) | (with_reducible refine kept_new ?_ _ _ (Nat.le_refl _)) | (with_reducible refine kept_new ?_ _ _ (by first | assumption | omega))))
    · have ei : decide (t.f0 ∈ ks) = false := decide_eq_false hi
      rw [if_neg (fun h => hi h.2)]
      clear h1 h3 c1 c2 c3 hm hT h1d hi hz
      go_enter Tryz.func93, Tryz.ntmps93
      go_wp2_with fail
      (with_reducible refine (CK _ ?i).out.mono ?_)
      case i => exact HI.out.keep (below_alloc (Below.refl _ _) _)
      rintro e w1 ⟨rfl, ⟨m, rfl⟩⟩
      go_wp2_with fail
      (with_reducible refine (CC _ _ ?i).out.mono ?_)
      case i => (repeat (first | (with_reducible exact (Below.refl w.heap.size w)) | (with_reducible apply below_alloc) | (with_reducible apply pw_below_drewN) | (with_reducible apply below_drew1) | (with_reducible refine below_set ?_ (by first | assumption | omega))))
      rintro e w1 ⟨rfl, ⟨m2, rfl⟩⟩
      rw [ei]
      go_wp2
      refine bodyPost_ret (results_ct rfl _ _ _ 51 _ (0, 0) _ rfl (blk_put (blk_put (blk_put (blk_drewN (blk_drewN b1 m) m2) 0 _ rfl) 1 _ rfl) 2 _ rfl) Tryz.underlying51 rfl info_tok) rfl ?_
      exact ⟨rfl, HI.out.fin (by (repeat (first | (with_reducible exact Kept.refl _ _) | (with_reducible apply Kept.alloc) | (with_reducible apply Kept.drewN) | (with_reducible apply Kept.drew) | (with_reducible refine kept_at ?_ _ _) | (with_reducible refine kept_new ?_ _ _ (Nat.le_refl _)) | (with_reducible refine kept_new ?_ _ _ (by first | assumption | omega))))) (by (repeat (first | (with_reducible exact HI.out.low) | (with_reducible apply below_alloc) | (with_reducible apply pw_below_drewN) | (with_reducible apply below_drew1) | (with_reducible refine below_set ?_ (by first | assumption | omega)))))⟩
end Go.Proofs.YtcinojbfjiohjaaGreatDoor.Pa
end

section
namespace Go.Proofs.YtcinojbfjiohjaaGreatDoor.Pa
open Go Go.RowKit Go.Proofs.YtcinojbfjiohjaaGreatDoor.PPrintTells Go.Proofs.YtcinojbfjiohjaaGreatDoorW.PrintWords Go.Proofs.YtcinojbfjiohjaaGreatDoorW.PrintLast Go.Proofs.YtcinojbfjiohjaaGreatDoorW.PrintMore
set_option linter.unusedVariables false
set_option linter.unusedSimpArgs false
def markF (s : ByteArray) (L : List Tok) : List Tok × Int := if isF s L = true then (L.tail, 0) else (L, 110)
set_option maxHeartbeats 8000000 in
theorem mark_calls (g : Nat) (s : ByteArray) (L : List Tok) (a p : Int) (w0 w : World) (hI : IsP w0 w g L a p) :
    Calls Tryz.prog 95 #[.pointer (some ⟨g, 0, none⟩), .string s] w fun e w' => e = .returned (.int .i64 (markF s L).2) ∧ IsP w0 w' g (markF s L).1 a p ∧ Kept w w' (At g) := by
  have hg := hI.ge
  have hlt := hI.lt
  have hsz : w0.heap.size ≤ w.heap.size := by omega
  have CI := Aside0.mk (is_calls g s L a p w0 w hI)
  have HI := Aside0.mk hI
  cases hi : isF s L with
  | false =>
    have e0 : markF s L = (L, 110) := if_neg (by rw [hi]; simp)
    rw [e0]
    rw [hi] at CI
    clear hI e0 hi
    go_enter Tryz.func95, Tryz.ntmps95
    go_wp2_with fail
    (with_reducible refine CI.out.mono ?_)
    rintro e w1 ⟨rfl, ⟨m, rfl⟩⟩
    go_wp2
    go_ret
    exact ⟨rfl, HI.out.fin (by (repeat (first | (with_reducible exact Kept.refl _ _) | (with_reducible apply Kept.alloc) | (with_reducible apply Kept.drewN) | (with_reducible apply Kept.drew) | (with_reducible refine kept_at ?_ _ _) | (with_reducible refine kept_new ?_ _ _ (Nat.le_refl _)) | (with_reducible refine kept_new ?_ _ _ (by first | assumption | omega))))) (by (repeat (first | (with_reducible exact HI.out.low) | (with_reducible apply below_alloc) | (with_reducible apply pw_below_drewN) | (with_reducible apply below_drew1) | (with_reducible refine below_set ?_ (by first | assumption | omega)))))⟩
  | true =>
    cases L with
    | nil => cases hi
    | cons t r =>
    have e0 : markF s (t :: r) = (r, 0) := if_pos hi
    rw [e0]
    rw [hi] at CI
    obtain ⟨ad, c0, h1, h3, c1, c2, c3, hm, hT⟩ := hI.tail
    have n1 : (0 : Int) < (r.length : Int) + 1 := by omega
    have n2 : 0 < r.length + 1 := by omega
    have n3 : 1 ≤ r.length + 1 := by omega
    have n5 : r.length + 1 - 1 = r.length := by omega
    have q0 : w.cell? ⟨g, 0, none⟩ = some (.slice (some ad) (r.length + 1) c0) := (blk_cell h1 0).trans rfl
    have f0 := blk_frozen h1 0
    clear hI hi e0 c1 c2 c3
    go_enter Tryz.func95, Tryz.ntmps95
    go_wp2_with fail
    (with_reducible refine CI.out.mono ?_)
    rintro e w1 ⟨rfl, ⟨m, rfl⟩⟩
    by_cases hc1 : c0 = 1
    · subst hc1
      rw [if_pos rfl] at hT
      go_wp2
      go_ret
      refine ⟨rfl, hT _ ?_ ?_, ?_⟩
      · exact blk_put (blk_drewN h1 _) 0 _ rfl
      · (repeat (first | (with_reducible exact HI.out.low) | (with_reducible apply below_alloc) | (with_reducible apply pw_below_drewN) | (with_reducible apply below_drew1) | (with_reducible refine below_set ?_ (by first | assumption | omega))))
      · (repeat (first | (with_reducible exact Kept.refl _ _) | (with_reducible apply Kept.alloc) | (with_reducible apply Kept.drewN) | (with_reducible apply Kept.drew) | (with_reducible refine kept_at ?_ _ _) | (with_reducible refine kept_new ?_ _ _ (Nat.le_refl _)) | (with_reducible refine kept_new ?_ _ _ (by first | assumption | omega))))
    · rw [if_neg hc1] at hT
      go_wp2
      go_ret
      refine ⟨rfl, hT _ ?_ ?_, ?_⟩
      · exact blk_put (blk_drewN h1 _) 0 _ rfl
      · (repeat (first | (with_reducible exact HI.out.low) | (with_reducible apply below_alloc) | (with_reducible apply pw_below_drewN) | (with_reducible apply below_drew1) | (with_reducible refine below_set ?_ (by first | assumption | omega))))
      · (repeat (first | (with_reducible exact Kept.refl _ _) | (with_reducible apply Kept.alloc) | (with_reducible apply Kept.drewN) | (with_reducible apply Kept.drew) | (with_reducible refine kept_at ?_ _ _) | (with_reducible refine kept_new ?_ _ _ (Nat.le_refl _)) | (with_reducible refine kept_new ?_ _ _ (by first | assumption | omega))))
abbrev numF (L : List Tok) : Tok × List Tok × Int := takeF [2, 3] L
set_option maxHeartbeats 8000000 in
theorem number_calls (g : Nat) (L : List Tok) (a p : Int) (w0 w : World) (hI : IsP w0 w g L a p) :
    Calls Tryz.prog 105 #[.pointer (some ⟨g, 0, none⟩)] w fun e w' => e = .returned (.tuple #[.int .i64 (numF L).1.f2, .int .i64 (numF L).2.2]) ∧ IsP w0 w' g (numF L).2.1 a p ∧ Kept w w' (At g) := by
  have hg := hI.ge
  have hlt := hI.lt
  have hsz : w0.heap.size ≤ w.heap.size := by omega
  have CT := fun A W h hC => Aside0.mk (take_calls g [2, 3] asks23 A 2 2 L a p w0 W h rfl hC (Nat.le_refl _))
  have HI := Aside0.mk hI
  have HT : ∃ t L1 e, takeF [2, 3] L = (t, L1, e) := ⟨_, _, _, rfl⟩
  obtain ⟨t, L1, e1, HT⟩ := HT
  have HT' : numF L = (t, L1, e1) := HT
  rw [HT']
  rw [HT] at CT
  clear hI HT HT'
  go_enter Tryz.func105, Tryz.ntmps105
  go_wp2_with fail
  (with_reducible refine (CT (some ⟨w.heap.size, 0, none⟩) _ ?i ?j).out.mono ?_)
  case i => exact HI.out.keep (below_alloc (Below.refl _ _) _)
  case j => exact kinds_C w [2, 3] (by decide)
  rintro e w1 ⟨rfl, hI1, hk⟩
  have hk1 := Aside0.mk (((Kept.refl w (At g)).alloc (.cells #[.int .u8 2, .int .u8 3] 5)).then_ hk (fun _ h => .inl h))
  have HI1 := Aside0.mk hI1
  have hs1 := hk1.out.1
  clear hk hI1
  go_wp2
  go_ret2
  exact ⟨rfl, HI1.out.mv (S := fun _ => False) (by (repeat (first | (with_reducible exact Kept.refl _ _) | (with_reducible apply Kept.alloc) | (with_reducible apply Kept.drewN) | (with_reducible apply Kept.drew) | (with_reducible refine kept_at ?_ _ _) | (with_reducible refine kept_new ?_ _ _ (Nat.le_refl _)) | (with_reducible refine kept_new ?_ _ _ (by first | assumption | omega))))) (by (repeat (first | (with_reducible exact HI1.out.low) | (with_reducible apply below_alloc) | (with_reducible apply pw_below_drewN) | (with_reducible apply below_drew1) | (with_reducible refine below_set ?_ (by first | assumption | omega))))) (fun h => h), by (repeat (first | (with_reducible exact hk1.out) | (with_reducible apply Kept.alloc) | (with_reducible apply Kept.drewN) | (with_reducible apply Kept.drew) | (with_reducible refine kept_at ?_ _ _) | (with_reducible refine kept_new ?_ _ _ (by first | assumption | omega))))⟩
end Go.Proofs.YtcinojbfjiohjaaGreatDoor.Pa
end

section
namespace Go.Proofs.YtcinojbfjiohjaaGreatDoor.Pa
open Go Go.RowKit Go.Proofs.YtcinojbfjiohjaaGreatDoor.PPrintTells Go.Proofs.YtcinojbfjiohjaaGreatDoor.Ex Go.Proofs.YtcinojbfjiohjaaGreatDoorW.PrintWords Go.Proofs.YtcinojbfjiohjaaGreatDoorW.PrintLast Go.Proofs.YtcinojbfjiohjaaGreatDoorW.PrintMore
set_option linter.unusedVariables false
set_option linter.unusedSimpArgs false
abbrev nil8 : ByteArray := ⟨#[]⟩
abbrev zX : X := ⟨0, nil8, [], []⟩
structure Res where
  x : X
  l : List Tok
  p : Int
  e : Int
abbrev COM : ByteArray := ⟨#[44]⟩
abbrev LPA : ByteArray := ⟨#[40]⟩
abbrev RPA : ByteArray := ⟨#[41]⟩
def itemF (rec : Int → List Tok → Res) (num : Bool) (x : X) (p : Int) (L : List Tok) : Res :=
  if num = true then ⟨⟨x.f0, x.f1, x.f2 ++ [(numF L).1.f2], x.f3⟩, (numF L).2.1, p, (numF L).2.2⟩
  else ⟨⟨x.f0, x.f1, x.f2, x.f3 ++ [(rec p L).x]⟩, (rec p L).l, (rec p L).p, (rec p L).e⟩
def stepsF (rec : Int → List Tok → Res) (nums many : Nat) : Nat → X → Int → List Tok → Res
  | 0, x, p, L => ⟨x, L, p, 0⟩
  | m + 1, x, p, L =>
    if (itemF rec (decide (many - (m + 1) < nums)) x p L).e ≠ 0 then ⟨zX, (itemF rec (decide (many - (m + 1) < nums)) x p L).l, (itemF rec (decide (many - (m + 1) < nums)) x p L).p, (itemF rec (decide (many - (m + 1) < nums)) x p L).e⟩
    else if (markF (if m = 0 then RPA else COM) (itemF rec (decide (many - (m + 1) < nums)) x p L).l).2 ≠ 0 then ⟨zX, (markF (if m = 0 then RPA else COM) (itemF rec (decide (many - (m + 1) < nums)) x p L).l).1, (itemF rec (decide (many - (m + 1) < nums)) x p L).p, (markF (if m = 0 then RPA else COM) (itemF rec (decide (many - (m + 1) < nums)) x p L).l).2⟩
    else stepsF rec nums many m (itemF rec (decide (many - (m + 1) < nums)) x p L).x (itemF rec (decide (many - (m + 1) < nums)) x p L).p (markF (if m = 0 then RPA else COM) (itemF rec (decide (many - (m + 1) < nums)) x p L).l).1
def manyOf (o : Int) : Nat := (numsOf o + argsOf o).toNat
def exprG (deep : Bool) (rec : Int → List Tok → Res) (p : Int) (L : List Tok) : Res :=
  if kindF L = 1 ∧ (deep = true ∨ 2000 ≤ p) then ⟨zX, L, p, 111⟩
  else if (takeF [1] L).2.2 ≠ 0 then ⟨zX, (takeF [1] L).2.1, p + 1, (takeF [1] L).2.2⟩
  else if (opF (takeF [1] L).1.f1).2 = true ∧ isF LPA (takeF [1] L).2.1 = true then
    stepsF rec (numsOf (opF (takeF [1] L).1.f1).1).toNat (manyOf (opF (takeF [1] L).1.f1).1) (manyOf (opF (takeF [1] L).1.f1).1) ⟨(opF (takeF [1] L).1.f1).1, nil8, [], []⟩ (p + 1) (takeF [1] L).2.1.tail
  else ⟨⟨0, (takeF [1] L).1.f1, [], []⟩, (takeF [1] L).2.1, p + 1, 0⟩
def exprF : Nat → Int → List Tok → Res
  | 0 => exprG true (fun p L => ⟨zX, L, p, 111⟩)
  | d + 1 => exprG false (exprF d)
theorem take_cases (ks : List Int) (L : List Tok) : (∃ t r, L = t :: r ∧ takeF ks L = (t, r, 0) ∧ t.f0 ∈ ks) ∨ takeF ks L = (z51, L, 110) := by
  cases L with
  | nil => exact .inr rfl
  | cons t r =>
    by_cases h : t.f0 ≠ 0 ∧ t.f0 ∈ ks
    · exact .inl ⟨t, r, rfl, if_pos h, h.2⟩
    · exact .inr (if_neg h)
theorem mark_cases (s : ByteArray) (L : List Tok) : (∃ t r, L = t :: r ∧ markF s L = (r, 0) ∧ isF s L = true) ∨ (markF s L = (L, 110) ∧ isF s L = false) := by
  cases hi : isF s L with
  | false => exact .inr ⟨if_neg (by rw [hi]; simp), rfl⟩
  | true =>
    cases L with
    | nil => cases hi
    | cons t r => exact .inl ⟨t, r, rfl, if_pos hi, rfl⟩
structure Good (p : Int) (L : List Tok) (r : Res) : Prop where
  e : r.e = 0 ∨ r.e = 110 ∨ r.e = 111
  l : r.l <:+ L
  p0 : p ≤ r.p
  p1 : r.p ≤ 2001
  ok : r.e = 0 → r.p ≤ 2000
theorem item_good {rec : Int → List Tok → Res} (hrec : ∀ p L, 0 ≤ p → p ≤ 2000 → Good p L (rec p L)) (num : Bool) (x : X) (p : Int) (L : List Tok) (h0 : 0 ≤ p) (h1 : p ≤ 2000) : Good p L (itemF rec num x p L) := by
  unfold itemF
  cases num with
  | true =>
    rw [if_pos rfl]
    rcases take_cases [2, 3] L with ⟨t, r, rfl, ht, _⟩ | ht
    · refine ⟨.inl (by simp [ht]), by simp only [ht]; exact List.suffix_cons t r, Int.le_refl p, by show p ≤ 2001; omega, fun _ => h1⟩
    · refine ⟨.inr (.inl (by simp [ht])), by simp only [ht]; exact List.suffix_refl L, Int.le_refl p, by show p ≤ 2001; omega, fun _ => h1⟩
  | false =>
    rw [if_neg (by simp)]
    have := hrec p L h0 h1
    exact ⟨this.e, this.l, this.p0, this.p1, this.ok⟩
theorem steps_good {rec : Int → List Tok → Res} (hrec : ∀ p L, 0 ≤ p → p ≤ 2000 → Good p L (rec p L)) (nums many : Nat) : ∀ (m : Nat) (x : X) (p : Int) (L : List Tok), 0 ≤ p → p ≤ 2000 → Good p L (stepsF rec nums many m x p L) := by
  intro m
  induction m with
  | zero => intro x p L h0 h1; exact ⟨.inl rfl, List.suffix_refl L, Int.le_refl p, by show p ≤ 2001; omega, fun _ => h1⟩
  | succ m ih =>
    intro x p L h0 h1
    have hI := item_good hrec (decide (many - (m + 1) < nums)) x p L h0 h1
    rw [stepsF]
    generalize itemF rec (decide (many - (m + 1) < nums)) x p L = r at hI
    by_cases he : r.e ≠ 0
    · rw [if_pos he]
      exact ⟨hI.e, hI.l, hI.p0, hI.p1, fun h => absurd h he⟩
    · rw [if_neg he]
      have he' : r.e = 0 := by omega
      have hp := hI.ok he'
      have hp0 := hI.p0
      rcases mark_cases (if m = 0 then RPA else COM) r.l with ⟨t, r', h2, h3, _⟩ | ⟨h3, _⟩
      · rw [h3, if_neg (by simp)]
        have hG := ih r.x r.p r' (by omega) hp
        refine ⟨hG.e, hG.l.trans ((List.suffix_cons t r').trans (h2 ▸ hI.l)), Int.le_trans hp0 hG.p0, hG.p1, hG.ok⟩
      · rw [h3, if_pos (by simp)]
        exact ⟨.inr (.inl rfl), hI.l, hI.p0, hI.p1, fun h => by cases h⟩
theorem exprG_good (deep : Bool) {rec : Int → List Tok → Res} (hrec : ∀ p L, 0 ≤ p → p ≤ 2000 → Good p L (rec p L)) (p : Int) (L : List Tok) (h0 : 0 ≤ p) (h1 : p ≤ 2000) : Good p L (exprG deep rec p L) := by
  unfold exprG
  by_cases hk : kindF L = 1 ∧ (deep = true ∨ 2000 ≤ p)
  · rw [if_pos hk]
    exact ⟨.inr (.inr rfl), List.suffix_refl L, Int.le_refl p, by show p ≤ 2001; omega, fun h => by cases h⟩
  · rw [if_neg hk]
    rcases take_cases [1] L with ⟨t, r, rfl, ht, hm⟩ | ht
    · rw [ht, if_neg (by simp)]
      have h1' : t.f0 = 1 := by simpa using hm
      have hp : p < 2000 := by
        rcases Int.lt_or_le p 2000 with h | h
        · exact h
        · exact absurd ⟨h1', .inr h⟩ hk
      by_cases ho : (opF t.f1).2 = true ∧ isF LPA r = true
      · rw [if_pos ho]
        have hG := steps_good hrec (numsOf (opF t.f1).1).toNat (manyOf (opF t.f1).1) (manyOf (opF t.f1).1) ⟨(opF t.f1).1, nil8, [], []⟩ (p + 1) r.tail (by omega) (by omega)
        refine ⟨hG.e, hG.l.trans ((List.tail_suffix r).trans (List.suffix_cons t r)), Int.le_trans (show p ≤ p + 1 by omega) hG.p0, hG.p1, hG.ok⟩
      · rw [if_neg ho]
        exact ⟨.inl rfl, List.suffix_cons t r, by show p ≤ p + 1; omega, by show p + 1 ≤ 2001; omega, fun _ => by show p + 1 ≤ 2000; omega⟩
    · rw [ht, if_pos (by simp)]
      exact ⟨.inr (.inl rfl), List.suffix_refl L, by show p ≤ p + 1; omega, by show p + 1 ≤ 2001; omega, fun h => by cases h⟩
theorem expr_good : ∀ (d : Nat) (p : Int) (L : List Tok), 0 ≤ p → p ≤ 2000 → Good p L (exprF d p L)
  | 0 => fun p L h0 h1 => exprG_good true (fun p L h0 h1 => ⟨.inr (.inr rfl), List.suffix_refl L, Int.le_refl p, by show p ≤ 2001; omega, fun h => by cases h⟩) p L h0 h1
  | d + 1 => fun p L h0 h1 => exprG_good false (expr_good d) p L h0 h1
end Go.Proofs.YtcinojbfjiohjaaGreatDoor.Pa
end

section
namespace Go.Proofs.YtcinojbfjiohjaaGreatDoor.Pa
open Go Go.RowKit Go.Proofs.YtcinojbfjiohjaaGreatDoor.PPrintTells Go.Proofs.YtcinojbfjiohjaaGreatDoor.Ex Go.Proofs.YtcinojbfjiohjaaGreatDoorW.PrintWords Go.Proofs.YtcinojbfjiohjaaGreatDoorW.PrintLast Go.Proofs.YtcinojbfjiohjaaGreatDoorW.PrintMore
set_option linter.unusedVariables false
set_option linter.unusedSimpArgs false
abbrev TX : TypeId := 25
abbrev ag (x : X) (v2 v3 : Value) : Value := .agg #[.int .u8 x.f0, .string x.f1, v2, v3]
abbrev zCells : Array Value := #[.int .u8 0, .string nil8, .slice none 0 0, .slice none 0 0]
def Gives (w w' : World) (x : X) (v2 v3 : Value) : Prop := kX.M w' w.heap.size (fun _ => True) x [.int .u8 x.f0, .string x.f1, v2, v3]
theorem gives_zero (w w' : World) : Gives w w' zX (.slice none 0 0) (.slice none 0 0) := k25_mkM _ _ _ zX (Kd.R_nil _ _ _ _ _) (Kd.R_nil _ _ _ _ _)
theorem gives_name (w w' : World) (s : ByteArray) : Gives w w' ⟨0, s, [], []⟩ (.slice none 0 0) (.slice none 0 0) := k25_mkM _ _ _ ⟨0, s, [], []⟩ (Kd.R_nil _ _ _ _ _) (Kd.R_nil _ _ _ _ _)
def ExprC (w0 : World) (g : Nat) (a dp : Int) (F : Int → List Tok → Res) : Prop :=
  ∀ (p : Int) (L : List Tok) (w : World), IsP w0 w g L a p → 0 ≤ p → p ≤ 2000 → Calls Tryz.prog 44 #[.pointer (some ⟨g, 0, none⟩), .int .i64 dp] w fun e w' =>
    ∃ v2 v3, e = .returned (.tuple #[ag (F p L).x v2 v3, .int .i64 (F p L).e]) ∧ IsP w0 w' g (F p L).l a (F p L).p ∧ Kept w w' (At g) ∧ Gives w w' (F p L).x v2 v3
structure OpSt (w0 w W : World) (g b6 b : Nat) (a op : Int) (L : List Tok) (p : Int) (ns : List Int) (ys : List X) (v2 v3 : Value) : Prop where
  isp : IsP w0 W g L a p
  kept : Kept w W (At g)
  box : W.heap[b]? = some (.cells #[.int .u8 op, .string nil8, v2, v3] TX (0, 0))
  zero : W.heap[b6]? = some (.cells zCells TX (0, 0))
  nums : kI.R 2 W (b + 1) (fun _ => True) v2 ns
  args : kX.R TX W (b + 1) (fun _ => True) v3 ys
  lg : g < w.heap.size
  l6 : w.heap.size ≤ b6
  lb : b6 < b
section
variable {w0 w W W2 : World} {g b6 b : Nat} {a op : Int} {L L2 : List Tok} {p p2 : Int} {ns : List Int} {ys : List X} {v2 v3 : Value}
theorem R_at {α : Type} {d : Kd α} {e B : Nat} {v : Value} {xs : List α} (h : d.R e W B (fun _ => True) v xs) (hk : Kept W W2 (At g)) (hg : g < B) : d.R e W2 B (fun _ => True) v xs :=
  Kd.R_mono (Kd.R_kept (Kd.R_bound h) hk (fun k ho hs => by have := ho.2.1; have : k = g := hs; omega)) (fun _ _ => trivial)
theorem R_put {α : Type} {d : Kd α} {e B : Nat} {v : Value} {xs : List α} (h : d.R e W B (fun _ => True) v xs) {k : Nat} (hk : k < B) (i : Nat) (u : Value) : d.R e (W.setCell ⟨k, i, none⟩ u) B (fun _ => True) v xs :=
  Kd.R_mono (Kd.R_far (p := ⟨k, i, none⟩) (Kd.R_bound h) (fun j ho => by have := ho.2.1; show j ≠ k; omega) u) (fun _ _ => trivial)
theorem OpSt.at (h : OpSt w0 w W g b6 b a op L p ns ys v2 v3) (hI : IsP w0 W2 g L2 a p2) (hk : Kept W W2 (At g)) : OpSt w0 w W2 g b6 b a op L2 p2 ns ys v2 v3 := by
  have h1 := h.lg
  have h2 := h.l6
  have h3 := h.lb
  exact ⟨hI, h.kept.then_ hk (fun k hs => .inl hs), blk_kept h.box hk (fun hs => by have : b = g := hs; omega), blk_kept h.zero hk (fun hs => by have : b6 = g := hs; omega),
    R_at h.nums hk (by omega), R_at h.args hk (by omega), h1, h2, h3⟩
theorem OpSt.lt (h : OpSt w0 w W g b6 b a op L p ns ys v2 v3) : b < W.heap.size := blk_lt h.box
theorem OpSt.grown_isp (h : OpSt w0 w W g b6 b a op L p ns ys v2 v3) {row : Option Nat} (hg : W.grownBy W2 row) (hr : ∀ k, row = some k → b + 1 ≤ k) : IsP w0 W2 g L a p := by
  have h1 := h.lg
  have h2 := h.l6
  have h3 := h.lb
  have h4 := h.isp.ge
  have h5 := h.lt
  exact h.isp.mv (S := fun k => b + 1 ≤ k) (Kept.of_grown hg (Kept.refl W _) (fun k hk => .inl (hr k hk))) (h.isp.low.grown hg (by omega) (fun k hk => by have := hr k hk; omega)) (by show ¬ (b + 1 ≤ g); omega)
theorem OpSt.num (h : OpSt w0 w W g b6 b a op L p ns [] v2 (.slice none 0 0)) {n : Int} {u : Value} (hR : kI.R 2 W2 (b + 1) (fun _ => True) u (ns ++ [n])) (hg : W.grownBy W2 v2.ownBlock) :
    OpSt w0 w (W2.setCell ⟨b, 2, none⟩ u) g b6 b a op L p (ns ++ [n]) [] u (.slice none 0 0) := by
  have h1 := h.lg
  have h2 := h.l6
  have h3 := h.lb
  have h5 := h.lt
  have hr := Kd.R_base h.nums
  have hbox : W2.heap[b]? = _ := (hg.block b h5 (fun he => by have := hr b he.symm; omega)).trans h.box
  have hz : W2.heap[b6]? = _ := (hg.block b6 (by omega) (fun he => by have := hr b6 he.symm; omega)).trans h.zero
  have hK : Kept w W2 (At g) := Kept.of_grown hg h.kept (fun k hk => .inr (by have := hr k hk; omega))
  have hI := h.grown_isp hg hr
  exact ⟨hI.mv (S := fun k => k = b) (Kept.setCell (Kept.refl _ (fun k => k = b)) (p := ⟨b, 2, none⟩) (.inl rfl) u) (below_set hI.low (by have := h.isp.ge; show _ ≤ b; omega)) (by show ¬ (g = b); omega), kept_new hK 2 u (by omega),
    blk_put hbox 2 u rfl, blk_far hz (by show b ≠ b6; omega) u, R_put hR (by omega) 2 u, Kd.R_nil _ _ _ _ _, h1, h2, h3⟩
theorem OpSt.arg (h : OpSt w0 w W g b6 b a op L p ns ys v2 v3) {y : X} {u : Value} (hR : kX.R TX W2 (b + 1) (fun _ => True) u (ys ++ [y])) (hg : W.grownBy W2 v3.ownBlock) :
    OpSt w0 w (W2.setCell ⟨b, 3, none⟩ u) g b6 b a op L p ns (ys ++ [y]) v2 u := by
  have h1 := h.lg
  have h2 := h.l6
  have h3 := h.lb
  have h5 := h.lt
  have hr := Kd.R_base h.args
  have hbox : W2.heap[b]? = _ := (hg.block b h5 (fun he => by have := hr b he.symm; omega)).trans h.box
  have hz : W2.heap[b6]? = _ := (hg.block b6 (by omega) (fun he => by have := hr b6 he.symm; omega)).trans h.zero
  have hK : Kept w W2 (At g) := Kept.of_grown hg h.kept (fun k hk => .inr (by have := hr k hk; omega))
  have hI := h.grown_isp hg hr
  exact ⟨hI.mv (S := fun k => k = b) (Kept.setCell (Kept.refl _ (fun k => k = b)) (p := ⟨b, 3, none⟩) (.inl rfl) u) (below_set hI.low (by have := h.isp.ge; show _ ≤ b; omega)) (by show ¬ (g = b); omega), kept_new hK 3 u (by omega),
    blk_put hbox 3 u rfl, blk_far hz (by show b ≠ b6; omega) u, R_put (Kd.R_over h.nums h.args (fun q hq => by simp [Kd.E, kI, Kd.int, Kd.scalar] at hq; subst hq; decide) hg) (by omega) 3 u, R_put hR (by omega) 3 u, h1, h2, h3⟩
theorem OpSt.box_grown (h : OpSt w0 w W g b6 b a op L p ns ys v2 v3) {row : Option Nat} (hg : W.grownBy W2 row) (hr : ∀ k, row = some k → b + 1 ≤ k) : W2.heap[b]? = some (.cells #[.int .u8 op, .string nil8, v2, v3] TX (0, 0)) :=
  (hg.block b h.lt (fun he => by have := hr b he.symm; omega)).trans h.box
theorem OpSt.close (h : OpSt w0 w W g b6 b a op L p ns ys v2 v3) (hk : Kept W W2 (At b6)) (hB : Below w0.heap.size w0 W2) : IsP w0 W2 g L a p ∧ Kept w W2 (At g) := by
  have h1 := h.lg
  have h2 := h.l6
  exact ⟨h.isp.mv hk hB (by show ¬ (g = b6); omega), h.kept.then_ hk (fun k hs => .inr (by have : k = b6 := hs; omega))⟩
theorem OpSt.done (h : OpSt w0 w W g b6 b a op L p ns ys v2 v3) (hk : Kept W W2 (At b6)) : Gives w W2 ⟨op, nil8, ns, ys⟩ v2 v3 := by
  have h2 := h.l6
  have h3 := h.lb
  exact k25_mkM _ _ _ ⟨op, nil8, ns, ys⟩ (Kd.R_lower (R_at h.nums hk (by omega)) (by omega)) (Kd.R_lower (R_at h.args hk (by omega)) (by omega))
theorem Gives.slices {x : X} (h : Gives w W x v2 v3) : ∃ A2 c2 A3 c3, v2 = .slice A2 x.f2.length c2 ∧ v3 = .slice A3 x.f3.length c3 := by
  obtain ⟨u2, u3, he, h2, h3⟩ := k25_openM h
  simp only [List.cons.injEq, true_and, and_true] at he
  obtain ⟨rfl, rfl⟩ := he
  obtain ⟨A2, c2, e2⟩ := Kd.R_slice h2
  obtain ⟨A3, c3, e3⟩ := Kd.R_slice h3
  exact ⟨A2, c2, A3, c3, e2, e3⟩
theorem Gives.part {x : X} (h : Gives w W x v2 v3) {B : Nat} (hB : B ≤ w.heap.size) : kX.M W B (fun k => w.heap.size ≤ k) x [.int .u8 x.f0, .string x.f1, v2, v3] :=
  kX.M_lower hB (kX.M_mono (fun k hk => hk.2.1) (kX.M_bound h))
theorem Gives.step {x : X} (h : Gives w W x v2 v3) (hk : Kept W W2 (fun k => k < w.heap.size)) : Gives w W2 x v2 v3 :=
  kX.M_mono (fun _ _ => trivial) (Kd.M_kept (kX.M_bound h) hk (fun k ho => by have := ho.2.1; show ¬ k < _; omega))
end
theorem stepsF_at (rec : Int → List Tok → Res) (nums many k : Nat) (hk : k < many) (x : X) (p : Int) (L : List Tok) (r : Res) (hr : itemF rec (decide (k < nums)) x p L = r) :
    stepsF rec nums many (many - k) x p L = if r.e ≠ 0 then ⟨zX, r.l, r.p, r.e⟩ else if (markF (if k + 1 = many then RPA else COM) r.l).2 ≠ 0 then ⟨zX, (markF (if k + 1 = many then RPA else COM) r.l).1, r.p, (markF (if k + 1 = many then RPA else COM) r.l).2⟩ else stepsF rec nums many (many - (k + 1)) r.x r.p (markF (if k + 1 = many then RPA else COM) r.l).1 := by
  obtain ⟨m, hm⟩ : ∃ m, many - k = m + 1 := ⟨many - k - 1, by omega⟩
  have h1 : many - (m + 1) = k := by omega
  have h2 : many - (k + 1) = m := by omega
  have h3 : (m = 0) = (k + 1 = many) := propext ⟨fun h => by omega, fun h => by omega⟩
  rw [hm, stepsF, h1, hr, h2]
  simp only [h3]
def OpRel (w0 w w3 wr : World) (g : Nat) (a op : Int) (nn aa : Nat) (F : Int → List Tok → Res) (R : Res) (j : Value) (k : Nat) (L : List Tok) (p : Int) (ns : List Int) (ys : List X) (v2 v3 : Value) : Prop :=
  k ≤ nn + aa ∧ j = .int .i64 k ∧ 0 ≤ p ∧ p ≤ 2000 ∧ ns.length + ys.length = k ∧ (k ≤ nn → ys = [] ∧ v3 = .slice none 0 0) ∧ stepsF F nn (nn + aa) (nn + aa - k) ⟨op, nil8, ns, ys⟩ p L = R ∧ OpSt w0 w wr g w.heap.size w3.heap.size a op L p ns ys v2 v3
theorem info_x : (Tryz.prog.info? TX).map (·.size) = some 4 := by kernel_rfl
theorem info_x3 : (Tryz.prog.info? TX).map (fun i => (i.zero, i.size, i.bytes)) = some (some (.agg #[.int .u8 0, .string nil8, .slice none 0 0, .slice none 0 0]), 4, 72) := by kernel_rfl
theorem info_i3 : (Tryz.prog.info? 2).map (fun i => (i.zero, i.size, i.bytes)) = some (some (.int .i64 0), 1, 8) := by kernel_rfl
set_option maxHeartbeats 16000000 in
set_option maxRecDepth 100000 in
theorem operands_calls (w0 : World) (g : Nat) (a dp : Int) (d0 : 0 ≤ dp) (d1 : dp ≤ 40) (F : Int → List Tok → Res) (hF : ExprC w0 g a (dp + 1) F) (hG : ∀ p L, 0 ≤ p → p ≤ 2000 → Good p L (F p L))
    (op : Int) (o0 : 1 ≤ op) (o1 : op ≤ 12) (p : Int) (L : List Tok) (w : World) (hI : IsP w0 w g L a p) (p0 : 0 ≤ p) (p1 : p ≤ 2000) (R : Res) (hR : stepsF F (numsOf op).toNat (manyOf op) (manyOf op) ⟨op, nil8, [], []⟩ p L = R) :
    Calls Tryz.prog 96 #[.pointer (some ⟨g, 0, none⟩), .int .u8 op, .int .i64 dp] w fun e w' =>
      ∃ v2 v3, e = .returned (.tuple #[ag R.x v2 v3, .int .i64 R.e]) ∧ IsP w0 w' g R.l a R.p ∧ Kept w w' (At g) ∧ Gives w w' R.x v2 v3 := by
  have hgw := hI.lt
  have hw0 : w0.heap.size ≤ w.heap.size := by have := hI.ge; omega
  have CN := fun W => Aside0.mk (Nums_calls op W (by omega) (by omega))
  have CA := fun W => Aside0.mk (Args_calls op W (by omega) (by omega))
  have HF := Aside0.mk hF
  have HG := Aside0.mk hG
  obtain ⟨nn, aa, hn, ha, hm, hnn, haa, hmm⟩ : ∃ nn aa : Nat, numsOf op = nn ∧ argsOf op = aa ∧ manyOf op = nn + aa ∧ nn ≤ 3 ∧ aa ≤ 2 ∧ 1 ≤ nn + aa := by
    refine ⟨(numsOf op).toNat, (argsOf op).toNat, ?_⟩
    rcases (show op = 1 ∨ op = 2 ∨ op = 3 ∨ op = 4 ∨ op = 5 ∨ op = 6 ∨ op = 7 ∨ op = 8 ∨ op = 9 ∨ op = 10 ∨ op = 11 ∨ op = 12 by omega) with rfl | rfl | rfl | rfl | rfl | rfl | rfl | rfl | rfl | rfl | rfl | rfl <;> decide
  rw [hn, hm, Int.toNat_natCast] at hR
  rw [hn] at CN
  rw [ha] at CA
  have HR := Aside0.mk hR
  have HI := Aside0.mk hI
  have hd := Aside0.mk (show decide (op ≤ 12) = true from decide_eq_true o1)
  clear hF hG hn ha hm hR hI
  have b6 := blk_new w (.cells zCells TX (0, 0))
  generalize decide (op ≤ 12) = dc at *
  go_enter Tryz.func96, Tryz.ntmps96
  go_wp2_with fail
  (with_reducible refine (CN _).out.mono ?_)
  rintro e w2 ⟨rfl, hb2⟩
  have K2 := Aside0.mk ((Kept.refl w (At g)).alloc (.cells zCells TX (0, 0)) |>.below hb2)
  go_wp2_with fail
  (with_reducible refine (CA _).out.mono ?_)
  rintro e w3 ⟨rfl, hb3⟩
  have K3 := Aside0.mk (K2.out.below hb3)
  have I3 := Aside0.mk (((HI.out.keep (below_alloc (Below.refl _ _) (.cells zCells TX (0, 0)))).keep hb2).keep hb3)
  have b63 := blk_kept (blk_kept b6 (Kept.of_below hb2 (fun _ => False)) id) (Kept.of_below hb3 (fun _ => False)) id
  have bx := blk_new w3 (.cells zCells TX (0, 0))
  have hl3 := Aside0.mk (blk_lt b63)
  clear hb2 hb3 b6
  have HD := hd.out
  go_wp2_with fail
  go_loopw [31] (fun j wr => ∃ k L1 p1 ns ys v2 v3, OpRel w0 w w3 wr g a op nn aa F R j k L1 p1 ns ys v2 v3) (fun j _ => (nn + aa : Nat) - (intOf j).toNat)
  case atStart =>
    refine ⟨0, L, p, [], [], .slice none 0 0, .slice none 0 0, by omega, rfl, p0, p1, rfl, fun _ => ⟨rfl, rfl⟩, HR.out, ?_⟩
    exact ⟨I3.out.keep (below_alloc (Below.refl _ _) _), K3.out.alloc _, blk_new w3 _, blk_alloc b63 _, Kd.R_nil _ _ _ _ _, Kd.R_nil _ _ _ _ _, hgw, Nat.le_refl _, hl3.out⟩
  case round =>
    obtain ⟨k, L1, p2, ns, ys, v2, v3, hk, rfl, hp0, hp1, hlen, hnil, hR, hst⟩ := hrel
    have HRR := Aside0.mk hR
    have ST := Aside0.mk hst
    clear hR hst HR HI CN CA I3 K3 b63 bx
    by_cases hkk : k < nn + aa
    · have hki : (k : Int) < (nn : Int) + (aa : Int) := by omega
      have hki' : decide ((k : Int) < (nn : Int) + (aa : Int)) = true := decide_eq_true hki
      by_cases hn : k < nn
      · have HN := hnil (by omega)
        obtain ⟨rfl, rfl⟩ := HN
        have hdn : decide (k < nn) = true := decide_eq_true hn
        have hni : (k : Int) < (nn : Int) := by omega
        have hni' : decide ((k : Int) < (nn : Int)) = true := decide_eq_true hni
        have HE := Aside0.mk ((stepsF_at F nn (nn + aa) k hkk ⟨op, nil8, ns, []⟩ p2 L1 _ rfl).symm.trans HRR.out)
        rw [hdn] at HE
        clear HRR
        have CU := Aside0.mk (number_calls g L1 a p2 w0 wr ST.out.isp)
        rcases take_cases [2, 3] L1 with ⟨t, r, rfl, ht, _⟩ | ht
        · have hit : itemF F true ⟨op, nil8, ns, []⟩ p2 (t :: r) = ⟨⟨op, nil8, ns ++ [t.f2], []⟩, r, p2, 0⟩ := by
            unfold itemF
            rw [if_pos rfl]
            show Res.mk ⟨op, nil8, ns ++ [(takeF [2, 3] (t :: r)).1.f2], []⟩ (takeF [2, 3] (t :: r)).2.1 p2 (takeF [2, 3] (t :: r)).2.2 = _
            rw [ht]
          rw [hit] at HE
          rw [show numF (t :: r) = (t, r, 0) from ht] at CU
          rw [if_neg (show ¬ ((0 : Int) ≠ 0) by simp)] at HE
          by_cases hlast : k + 1 = nn + aa
          · have hl1 : ((k : Int) == (nn : Int) + (aa : Int) - 1) = true := beq_iff_eq.2 (by omega)
            have hl2 : (k : Int) = (nn : Int) + (aa : Int) - 1 := by omega
            have q5c : wr.cell? ⟨w3.heap.size, 2, none⟩ = some v2 := (blk_cell ST.out.box 2).trans rfl
            clear ht hit
            go_wp2_with fail
            (with_reducible refine CU.out.mono ?_)
            rintro e w5 ⟨rfl, hI5, hk5⟩
            have ST5 := Aside0.mk (ST.out.at hI5 hk5)
            have q5 : w5.cell? ⟨w3.heap.size, 2, none⟩ = some v2 := (blk_cell ST5.out.box 2).trans rfl
            have hbz : w3.heap.size + 1 ≤ w5.heap.size := ST5.out.lt
            clear hI5 hk5 CU ST q5c
            go_wp2_with (first | ((with_reducible refine gate_builtin (b := .append) (xs := #[.tmp 47, .tmp 49]) rfl ?_); at_builtin; refine Kd.R_append kI (w0 := w5) (w3.heap.size + 1) rfl (.tmp 47) (.tmp 49) 22 2 (.int .i64 0) 8 rfl Tryz.underlying22 info_i3 rfl (by decide) (by decide) v2 ns t.f2 [.int .i64 t.f2] (fun _ => True) (fun _ => False) rfl rfl rfl (fun _ hk => hk.elim) (fun _ _ => trivial) ST5.out.nums (Below.refl _ _) hbz (by simp at hlen; omega) ?_; intro v8 w8 ho hb hg hat; obtain ⟨A8, c8, h8⟩ := Kd.R_slice ho; rw [List.length_append, List.length_singleton] at h8; subst h8; have HO := Aside0.mk ho; have HG := Aside0.mk hg; have f8 := blk_frozen (ST5.out.box_grown hg (Kd.R_base ST5.out.nums)) 2; have q8 : w8.cell? ⟨w3.heap.size, 2, none⟩ = some v2 := (blk_cell (ST5.out.box_grown hg (Kd.R_base ST5.out.nums)) 2).trans rfl; clear ho hb hg hat))
            have ST8 := Aside0.mk (ST5.out.num HO.out HG.out)
            obtain ⟨LL, hLL⟩ : ∃ LL, LL = r := ⟨_, rfl⟩
            obtain ⟨pp, hpp⟩ : ∃ pp, pp = p2 := ⟨_, rfl⟩
            rw [← hLL, ← hpp] at ST8 HE
            clear q8
            have q0 : 0 ≤ pp := by omega
            have q1 : pp ≤ 2000 := by omega
            clear HO HG ST5 q5 f8
            rw [if_pos hlast] at HE
            have CM := Aside0.mk (mark_calls g RPA LL a pp w0 _ ST8.out.isp)
            rcases mark_cases RPA LL with ⟨t9, r9, hL9, hm9, _⟩ | ⟨hm9, _⟩
            · rw [hm9] at CM HE
              rw [if_neg (show ¬ ((r9, (0 : Int)).2 ≠ 0) by simp)] at HE
              (with_reducible refine CM.out.mono ?_)
              rintro e w9 ⟨rfl, hI9, hk9⟩
              have ST9 := Aside0.mk (ST8.out.at hI9 hk9)
              clear hI9 hk9 CM
              go_wp2_with fail
              go_roundw
              case rel => exact ⟨k + 1, r9, pp, ns ++ [t.f2], [], _, .slice none 0 0, by omega, by go_num, q0, q1, by simp at hlen ⊢; omega, fun _ => ⟨rfl, rfl⟩, HE.out, ST9.out⟩
              case measure => simp [intOf]; omega
            · rw [hm9] at CM HE
              rw [if_pos (show (LL, (110 : Int)).2 ≠ 0 by simp)] at HE
              (with_reducible refine CM.out.mono ?_)
              rintro e w9 ⟨rfl, hI9, hk9⟩
              have ST9 := Aside0.mk (ST8.out.at hI9 hk9)
              clear hI9 hk9 CM
              have z0 := (blk_cell ST9.out.zero 0)
              have z1 := (blk_cell ST9.out.zero 1)
              have z2 := (blk_cell ST9.out.zero 2)
              have z3 := (blk_cell ST9.out.zero 3)
              have y0 := blk_frozen ST9.out.zero 0
              have y1 := blk_frozen ST9.out.zero 1
              have y2 := blk_frozen ST9.out.zero 2
              have y3 := blk_frozen ST9.out.zero 3
              replace z0 := z0.trans (show zCells[0]? = some (Value.int .u8 0) from rfl)
              replace z1 := z1.trans (show zCells[1]? = some (Value.string nil8) from rfl)
              replace z2 := z2.trans (show zCells[2]? = some (Value.slice none 0 0) from rfl)
              replace z3 := z3.trans (show zCells[3]? = some (Value.slice none 0 0) from rfl)
              go_wp2
              refine bodyPost_ret (results_ct rfl _ _ _ TX _ (0, 0) _ rfl (blk_put (blk_put (blk_put (blk_put ST9.out.zero 0 _ rfl) 1 _ rfl) 2 _ rfl) 3 _ rfl) Tryz.underlying25 rfl info_x) rfl ?_
              have hc := fun W2 h1 h2 => ST9.out.close (W2 := W2) h1 h2
              rw [← HE.out]
              exact ⟨.slice none 0 0, .slice none 0 0, rfl, (hc _ (by (repeat (first | (with_reducible exact Kept.refl _ _) | (with_reducible apply Kept.alloc) | (with_reducible apply Kept.drewN) | (with_reducible apply Kept.drew) | (with_reducible refine kept_at ?_ _ _) | (with_reducible refine kept_new ?_ _ _ (Nat.le_refl _)) | (with_reducible refine kept_new ?_ _ _ (by first | assumption | omega))))) (by (repeat (first | (with_reducible exact ST9.out.isp.low) | (with_reducible apply below_alloc) | (with_reducible apply pw_below_drewN) | (with_reducible apply below_drew1) | (with_reducible refine below_set ?_ (by first | assumption | omega)))))).1, (hc _ (by (repeat (first | (with_reducible exact Kept.refl _ _) | (with_reducible apply Kept.alloc) | (with_reducible apply Kept.drewN) | (with_reducible apply Kept.drew) | (with_reducible refine kept_at ?_ _ _) | (with_reducible refine kept_new ?_ _ _ (Nat.le_refl _)) | (with_reducible refine kept_new ?_ _ _ (by first | assumption | omega))))) (by (repeat (first | (with_reducible exact ST9.out.isp.low) | (with_reducible apply below_alloc) | (with_reducible apply pw_below_drewN) | (with_reducible apply below_drew1) | (with_reducible refine below_set ?_ (by first | assumption | omega)))))).2, gives_zero _ _⟩
          · have hl1 : ((k : Int) == (nn : Int) + (aa : Int) - 1) = false := beq_eq_false_iff_ne.2 (by omega)
            have hl2 : ¬ ((k : Int) = (nn : Int) + (aa : Int) - 1) := by omega
            have q5c : wr.cell? ⟨w3.heap.size, 2, none⟩ = some v2 := (blk_cell ST.out.box 2).trans rfl
            clear ht hit
            go_wp2_with fail
            (with_reducible refine CU.out.mono ?_)
            rintro e w5 ⟨rfl, hI5, hk5⟩
            have ST5 := Aside0.mk (ST.out.at hI5 hk5)
            have q5 : w5.cell? ⟨w3.heap.size, 2, none⟩ = some v2 := (blk_cell ST5.out.box 2).trans rfl
            have hbz : w3.heap.size + 1 ≤ w5.heap.size := ST5.out.lt
            clear hI5 hk5 CU ST q5c
            go_wp2_with (first | ((with_reducible refine gate_builtin (b := .append) (xs := #[.tmp 47, .tmp 49]) rfl ?_); at_builtin; refine Kd.R_append kI (w0 := w5) (w3.heap.size + 1) rfl (.tmp 47) (.tmp 49) 22 2 (.int .i64 0) 8 rfl Tryz.underlying22 info_i3 rfl (by decide) (by decide) v2 ns t.f2 [.int .i64 t.f2] (fun _ => True) (fun _ => False) rfl rfl rfl (fun _ hk => hk.elim) (fun _ _ => trivial) ST5.out.nums (Below.refl _ _) hbz (by simp at hlen; omega) ?_; intro v8 w8 ho hb hg hat; obtain ⟨A8, c8, h8⟩ := Kd.R_slice ho; rw [List.length_append, List.length_singleton] at h8; subst h8; have HO := Aside0.mk ho; have HG := Aside0.mk hg; have f8 := blk_frozen (ST5.out.box_grown hg (Kd.R_base ST5.out.nums)) 2; have q8 : w8.cell? ⟨w3.heap.size, 2, none⟩ = some v2 := (blk_cell (ST5.out.box_grown hg (Kd.R_base ST5.out.nums)) 2).trans rfl; clear ho hb hg hat))
            have ST8 := Aside0.mk (ST5.out.num HO.out HG.out)
            obtain ⟨LL, hLL⟩ : ∃ LL, LL = r := ⟨_, rfl⟩
            obtain ⟨pp, hpp⟩ : ∃ pp, pp = p2 := ⟨_, rfl⟩
            rw [← hLL, ← hpp] at ST8 HE
            clear q8
            have q0 : 0 ≤ pp := by omega
            have q1 : pp ≤ 2000 := by omega
            clear HO HG ST5 q5 f8
            rw [if_neg hlast] at HE
            have CM := Aside0.mk (mark_calls g COM LL a pp w0 _ ST8.out.isp)
            rcases mark_cases COM LL with ⟨t9, r9, hL9, hm9, _⟩ | ⟨hm9, _⟩
            · rw [hm9] at CM HE
              rw [if_neg (show ¬ ((r9, (0 : Int)).2 ≠ 0) by simp)] at HE
              (with_reducible refine CM.out.mono ?_)
              rintro e w9 ⟨rfl, hI9, hk9⟩
              have ST9 := Aside0.mk (ST8.out.at hI9 hk9)
              clear hI9 hk9 CM
              go_wp2_with fail
              go_roundw
              case rel => exact ⟨k + 1, r9, pp, ns ++ [t.f2], [], _, .slice none 0 0, by omega, by go_num, q0, q1, by simp at hlen ⊢; omega, fun _ => ⟨rfl, rfl⟩, HE.out, ST9.out⟩
              case measure => simp [intOf]; omega
            · rw [hm9] at CM HE
              rw [if_pos (show (LL, (110 : Int)).2 ≠ 0 by simp)] at HE
              (with_reducible refine CM.out.mono ?_)
              rintro e w9 ⟨rfl, hI9, hk9⟩
              have ST9 := Aside0.mk (ST8.out.at hI9 hk9)
              clear hI9 hk9 CM
              have z0 := (blk_cell ST9.out.zero 0)
              have z1 := (blk_cell ST9.out.zero 1)
              have z2 := (blk_cell ST9.out.zero 2)
              have z3 := (blk_cell ST9.out.zero 3)
              have y0 := blk_frozen ST9.out.zero 0
              have y1 := blk_frozen ST9.out.zero 1
              have y2 := blk_frozen ST9.out.zero 2
              have y3 := blk_frozen ST9.out.zero 3
              replace z0 := z0.trans (show zCells[0]? = some (Value.int .u8 0) from rfl)
              replace z1 := z1.trans (show zCells[1]? = some (Value.string nil8) from rfl)
              replace z2 := z2.trans (show zCells[2]? = some (Value.slice none 0 0) from rfl)
              replace z3 := z3.trans (show zCells[3]? = some (Value.slice none 0 0) from rfl)
              go_wp2
              refine bodyPost_ret (results_ct rfl _ _ _ TX _ (0, 0) _ rfl (blk_put (blk_put (blk_put (blk_put ST9.out.zero 0 _ rfl) 1 _ rfl) 2 _ rfl) 3 _ rfl) Tryz.underlying25 rfl info_x) rfl ?_
              have hc := fun W2 h1 h2 => ST9.out.close (W2 := W2) h1 h2
              rw [← HE.out]
              exact ⟨.slice none 0 0, .slice none 0 0, rfl, (hc _ (by (repeat (first | (with_reducible exact Kept.refl _ _) | (with_reducible apply Kept.alloc) | (with_reducible apply Kept.drewN) | (with_reducible apply Kept.drew) | (with_reducible refine kept_at ?_ _ _) | (with_reducible refine kept_new ?_ _ _ (Nat.le_refl _)) | (with_reducible refine kept_new ?_ _ _ (by first | assumption | omega))))) (by (repeat (first | (with_reducible exact ST9.out.isp.low) | (with_reducible apply below_alloc) | (with_reducible apply pw_below_drewN) | (with_reducible apply below_drew1) | (with_reducible refine below_set ?_ (by first | assumption | omega)))))).1, (hc _ (by (repeat (first | (with_reducible exact Kept.refl _ _) | (with_reducible apply Kept.alloc) | (with_reducible apply Kept.drewN) | (with_reducible apply Kept.drew) | (with_reducible refine kept_at ?_ _ _) | (with_reducible refine kept_new ?_ _ _ (Nat.le_refl _)) | (with_reducible refine kept_new ?_ _ _ (by first | assumption | omega))))) (by (repeat (first | (with_reducible exact ST9.out.isp.low) | (with_reducible apply below_alloc) | (with_reducible apply pw_below_drewN) | (with_reducible apply below_drew1) | (with_reducible refine below_set ?_ (by first | assumption | omega)))))).2, gives_zero _ _⟩
        · have hit : itemF F true ⟨op, nil8, ns, []⟩ p2 L1 = ⟨⟨op, nil8, ns ++ [z51.f2], []⟩, L1, p2, 110⟩ := by
            unfold itemF
            rw [if_pos rfl]
            show Res.mk ⟨op, nil8, ns ++ [(takeF [2, 3] L1).1.f2], []⟩ (takeF [2, 3] L1).2.1 p2 (takeF [2, 3] L1).2.2 = _
            rw [ht]
          rw [hit] at HE
          rw [show numF L1 = (z51, L1, 110) from ht] at CU
          rw [if_pos (show (110 : Int) ≠ 0 by simp)] at HE
          clear ht hit
          go_wp2_with fail
          (with_reducible refine CU.out.mono ?_)
          rintro e w5 ⟨rfl, hI5, hk5⟩
          have ST5 := Aside0.mk (ST.out.at hI5 hk5)
          clear hI5 hk5 CU ST
          have z0 := (blk_cell ST5.out.zero 0)
          have z1 := (blk_cell ST5.out.zero 1)
          have z2 := (blk_cell ST5.out.zero 2)
          have z3 := (blk_cell ST5.out.zero 3)
          have y0 := blk_frozen ST5.out.zero 0
          have y1 := blk_frozen ST5.out.zero 1
          have y2 := blk_frozen ST5.out.zero 2
          have y3 := blk_frozen ST5.out.zero 3
          replace z0 := z0.trans (show zCells[0]? = some (Value.int .u8 0) from rfl)
          replace z1 := z1.trans (show zCells[1]? = some (Value.string nil8) from rfl)
          replace z2 := z2.trans (show zCells[2]? = some (Value.slice none 0 0) from rfl)
          replace z3 := z3.trans (show zCells[3]? = some (Value.slice none 0 0) from rfl)
          go_wp2
          refine bodyPost_ret (results_ct rfl _ _ _ TX _ (0, 0) _ rfl (blk_put (blk_put (blk_put (blk_put ST5.out.zero 0 _ rfl) 1 _ rfl) 2 _ rfl) 3 _ rfl) Tryz.underlying25 rfl info_x) rfl ?_
          have hc := fun W2 h1 h2 => ST5.out.close (W2 := W2) h1 h2
          rw [← HE.out]
          exact ⟨.slice none 0 0, .slice none 0 0, rfl, (hc _ (by (repeat (first | (with_reducible exact Kept.refl _ _) | (with_reducible apply Kept.alloc) | (with_reducible apply Kept.drewN) | (with_reducible apply Kept.drew) | (with_reducible refine kept_at ?_ _ _) | (with_reducible refine kept_new ?_ _ _ (Nat.le_refl _)) | (with_reducible refine kept_new ?_ _ _ (by first | assumption | omega))))) (by (repeat (first | (with_reducible exact ST5.out.isp.low) | (with_reducible apply below_alloc) | (with_reducible apply pw_below_drewN) | (with_reducible apply below_drew1) | (with_reducible refine below_set ?_ (by first | assumption | omega)))))).1, (hc _ (by (repeat (first | (with_reducible exact Kept.refl _ _) | (with_reducible apply Kept.alloc) | (with_reducible apply Kept.drewN) | (with_reducible apply Kept.drew) | (with_reducible refine kept_at ?_ _ _) | (with_reducible refine kept_new ?_ _ _ (Nat.le_refl _)) | (with_reducible refine kept_new ?_ _ _ (by first | assumption | omega))))) (by (repeat (first | (with_reducible exact ST5.out.isp.low) | (with_reducible apply below_alloc) | (with_reducible apply pw_below_drewN) | (with_reducible apply below_drew1) | (with_reducible refine below_set ?_ (by first | assumption | omega)))))).2, gives_zero _ _⟩

      · have hdn : decide (k < nn) = false := decide_eq_false hn
        have hni : ¬ ((k : Int) < (nn : Int)) := by omega
        have hni' : decide ((k : Int) < (nn : Int)) = false := decide_eq_false hni
        have HE := Aside0.mk ((stepsF_at F nn (nn + aa) k hkk ⟨op, nil8, ns, ys⟩ p2 L1 _ rfl).symm.trans HRR.out)
        rw [hdn] at HE
        clear HRR
        have CU := Aside0.mk (HF.out p2 L1 wr ST.out.isp hp0 hp1)
        have HGG := HG.out p2 L1 hp0 hp1
        have hit : itemF F false ⟨op, nil8, ns, ys⟩ p2 L1 = ⟨⟨op, nil8, ns, ys ++ [(F p2 L1).x]⟩, (F p2 L1).l, (F p2 L1).p, (F p2 L1).e⟩ := by
          unfold itemF
          rw [if_neg (by simp)]
        rw [hit] at HE
        clear hit
        obtain ⟨y, LL, pp, ee, hy⟩ : ∃ y LL pp ee, F p2 L1 = Res.mk y LL pp ee := ⟨_, _, _, _, rfl⟩
        rw [hy] at HE CU HGG
        dsimp only at HE CU HGG
        have hg0 := HGG.p0
        have hgp := HGG.ok
        have q0 : 0 ≤ pp := by dsimp only at hg0; omega
        clear hy
        by_cases hee : ee = 0
        · subst hee
          rw [if_neg (show ¬ ((0 : Int) ≠ 0) by simp)] at HE
          have q1 : pp ≤ 2000 := hgp rfl
          by_cases hlast : k + 1 = nn + aa
          · have hl1 : ((k : Int) == (nn : Int) + (aa : Int) - 1) = true := beq_iff_eq.2 (by omega)
            have hl2 : (k : Int) = (nn : Int) + (aa : Int) - 1 := by omega
            go_wp2_with fail
            (with_reducible refine CU.out.mono ?_)
            rintro e w5 ⟨v5, v6, rfl, hI5, hk5, hy5⟩
            obtain ⟨A5, c5, A6, c6, rfl, rfl⟩ := hy5.slices
            have ST5 := Aside0.mk (ST.out.at hI5 hk5)
            have HY := Aside0.mk (Kd.M_alloc (hy5.part (B := w3.heap.size + 1) ST.out.lt) (.cells #[.int .u8 y.f0, .string y.f1, .slice A5 y.f2.length c5, .slice A6 y.f3.length c6] TX))
            have HV := Aside0.mk (Kd.R_lt ST.out.args)
            have ST6 := Aside0.mk (ST5.out.at (ST5.out.isp.keep (below_alloc (Below.refl _ _) _)) ((Kept.refl _ (At g)).alloc (.cells #[.int .u8 y.f0, .string y.f1, .slice A5 y.f2.length c5, .slice A6 y.f3.length c6] TX)))
            have q5 : (w5.alloc (.cells #[.int .u8 y.f0, .string y.f1, .slice A5 y.f2.length c5, .slice A6 y.f3.length c6] TX)).cell? ⟨w3.heap.size, 3, none⟩ = some v3 := (blk_cell ST6.out.box 3).trans rfl
            have q5b : w5.cell? ⟨w3.heap.size, 3, none⟩ = some v3 := (blk_cell ST5.out.box 3).trans rfl
            have q5n : w3.heap.size < w5.heap.size := ST5.out.lt
            have q5m : ¬ (w3.heap.size = w5.heap.size) := by omega
            have hbz : w3.heap.size + 1 ≤ (w5.alloc (.cells #[.int .u8 y.f0, .string y.f1, .slice A5 y.f2.length c5, .slice A6 y.f3.length c6] TX)).heap.size := ST6.out.lt
            have hal : ys.length ≤ 5 := by omega
            have HS := Aside0.mk (show (w5.alloc (.cells #[.int .u8 y.f0, .string y.f1, .slice A5 y.f2.length c5, .slice A6 y.f3.length c6] TX)).heap.size = w5.heap.size + 1 from Array.size_push ..)
            clear hI5 hk5 CU hgp HGG hg0 hy5 ST5
            go_wp2_with (first | ((with_reducible refine gate_builtin (b := .append) (xs := #[.tmp 64, .tmp 66]) rfl ?_); at_builtin; refine Kd.R_append kX (w0 := w5.alloc (.cells #[.int .u8 y.f0, .string y.f1, .slice A5 y.f2.length c5, .slice A6 y.f3.length c6] TX)) (w3.heap.size + 1) rfl (.tmp 64) (.tmp 66) 23 TX (.agg #[.int .u8 0, .string nil8, .slice none 0 0, .slice none 0 0]) 72 rfl Tryz.underlying23 info_x3 rfl (show 0 < kX.sz from Nat.zero_lt_succ 3) (by decide) v3 ys y [.int .u8 y.f0, .string y.f1, .slice A5 y.f2.length c5, .slice A6 y.f3.length c6] (fun _ => True) (fun k => wr.heap.size ≤ k) rfl (by rw [HS.out]; rfl) HY.out (fun k hk => ⟨trivial, fun he => by have h1 := HV.out k he.symm; have h2 : wr.heap.size ≤ k := hk; omega⟩) (fun _ _ => trivial) ST6.out.args (Below.refl _ _) hbz (by omega) ?_; intro v8 w8 ho hb hg hat; obtain ⟨A8, c8, h8⟩ := Kd.R_slice ho; rw [List.length_append, List.length_singleton] at h8; subst h8; have HO := Aside0.mk ho; have HG := Aside0.mk hg; have f8 := blk_frozen (ST6.out.box_grown hg (Kd.R_base ST6.out.args)) 3; have q8 : w8.cell? ⟨w3.heap.size, 3, none⟩ = some v3 := (blk_cell (ST6.out.box_grown hg (Kd.R_base ST6.out.args)) 3).trans rfl; clear ho hb hg hat))
            have ST8 := Aside0.mk (ST6.out.arg HO.out HG.out)
            clear HO HG ST6 q5 q5b q5n q5m f8 q8 HY HV ST
            rw [if_pos hlast] at HE
            have CM := Aside0.mk (mark_calls g RPA LL a pp w0 _ ST8.out.isp)
            rcases mark_cases RPA LL with ⟨t9, r9, hL9, hm9, _⟩ | ⟨hm9, _⟩
            · rw [hm9] at CM HE
              rw [if_neg (show ¬ ((r9, (0 : Int)).2 ≠ 0) by simp)] at HE
              (with_reducible refine CM.out.mono ?_)
              rintro e w9 ⟨rfl, hI9, hk9⟩
              have ST9 := Aside0.mk (ST8.out.at hI9 hk9)
              clear hI9 hk9 CM
              go_wp2_with fail
              go_roundw
              case rel => exact ⟨k + 1, r9, pp, ns, ys ++ [y], v2, _, by omega, by go_num, q0, q1, by simp at hlen ⊢; omega, fun h => absurd h (by omega), HE.out, ST9.out⟩
              case measure => simp [intOf]; omega
            · rw [hm9] at CM HE
              rw [if_pos (show (LL, (110 : Int)).2 ≠ 0 by simp)] at HE
              (with_reducible refine CM.out.mono ?_)
              rintro e w9 ⟨rfl, hI9, hk9⟩
              have ST9 := Aside0.mk (ST8.out.at hI9 hk9)
              clear hI9 hk9 CM
              have z0 := (blk_cell ST9.out.zero 0)
              have z1 := (blk_cell ST9.out.zero 1)
              have z2 := (blk_cell ST9.out.zero 2)
              have z3 := (blk_cell ST9.out.zero 3)
              have y0 := blk_frozen ST9.out.zero 0
              have y1 := blk_frozen ST9.out.zero 1
              have y2 := blk_frozen ST9.out.zero 2
              have y3 := blk_frozen ST9.out.zero 3
              replace z0 := z0.trans (show zCells[0]? = some (Value.int .u8 0) from rfl)
              replace z1 := z1.trans (show zCells[1]? = some (Value.string nil8) from rfl)
              replace z2 := z2.trans (show zCells[2]? = some (Value.slice none 0 0) from rfl)
              replace z3 := z3.trans (show zCells[3]? = some (Value.slice none 0 0) from rfl)
              go_wp2
              refine bodyPost_ret (results_ct rfl _ _ _ TX _ (0, 0) _ rfl (blk_put (blk_put (blk_put (blk_put ST9.out.zero 0 _ rfl) 1 _ rfl) 2 _ rfl) 3 _ rfl) Tryz.underlying25 rfl info_x) rfl ?_
              have hc := fun W2 h1 h2 => ST9.out.close (W2 := W2) h1 h2
              rw [← HE.out]
              exact ⟨.slice none 0 0, .slice none 0 0, rfl, (hc _ (by (repeat (first | (with_reducible exact Kept.refl _ _) | (with_reducible apply Kept.alloc) | (with_reducible apply Kept.drewN) | (with_reducible apply Kept.drew) | (with_reducible refine kept_at ?_ _ _) | (with_reducible refine kept_new ?_ _ _ (Nat.le_refl _)) | (with_reducible refine kept_new ?_ _ _ (by first | assumption | omega))))) (by (repeat (first | (with_reducible exact ST9.out.isp.low) | (with_reducible apply below_alloc) | (with_reducible apply pw_below_drewN) | (with_reducible apply below_drew1) | (with_reducible refine below_set ?_ (by first | assumption | omega)))))).1, (hc _ (by (repeat (first | (with_reducible exact Kept.refl _ _) | (with_reducible apply Kept.alloc) | (with_reducible apply Kept.drewN) | (with_reducible apply Kept.drew) | (with_reducible refine kept_at ?_ _ _) | (with_reducible refine kept_new ?_ _ _ (Nat.le_refl _)) | (with_reducible refine kept_new ?_ _ _ (by first | assumption | omega))))) (by (repeat (first | (with_reducible exact ST9.out.isp.low) | (with_reducible apply below_alloc) | (with_reducible apply pw_below_drewN) | (with_reducible apply below_drew1) | (with_reducible refine below_set ?_ (by first | assumption | omega)))))).2, gives_zero _ _⟩
          · have hl1 : ((k : Int) == (nn : Int) + (aa : Int) - 1) = false := beq_eq_false_iff_ne.2 (by omega)
            have hl2 : ¬ ((k : Int) = (nn : Int) + (aa : Int) - 1) := by omega
            go_wp2_with fail
            (with_reducible refine CU.out.mono ?_)
            rintro e w5 ⟨v5, v6, rfl, hI5, hk5, hy5⟩
            obtain ⟨A5, c5, A6, c6, rfl, rfl⟩ := hy5.slices
            have ST5 := Aside0.mk (ST.out.at hI5 hk5)
            have HY := Aside0.mk (Kd.M_alloc (hy5.part (B := w3.heap.size + 1) ST.out.lt) (.cells #[.int .u8 y.f0, .string y.f1, .slice A5 y.f2.length c5, .slice A6 y.f3.length c6] TX))
            have HV := Aside0.mk (Kd.R_lt ST.out.args)
            have ST6 := Aside0.mk (ST5.out.at (ST5.out.isp.keep (below_alloc (Below.refl _ _) _)) ((Kept.refl _ (At g)).alloc (.cells #[.int .u8 y.f0, .string y.f1, .slice A5 y.f2.length c5, .slice A6 y.f3.length c6] TX)))
            have q5 : (w5.alloc (.cells #[.int .u8 y.f0, .string y.f1, .slice A5 y.f2.length c5, .slice A6 y.f3.length c6] TX)).cell? ⟨w3.heap.size, 3, none⟩ = some v3 := (blk_cell ST6.out.box 3).trans rfl
            have q5b : w5.cell? ⟨w3.heap.size, 3, none⟩ = some v3 := (blk_cell ST5.out.box 3).trans rfl
            have q5n : w3.heap.size < w5.heap.size := ST5.out.lt
            have q5m : ¬ (w3.heap.size = w5.heap.size) := by omega
            have hbz : w3.heap.size + 1 ≤ (w5.alloc (.cells #[.int .u8 y.f0, .string y.f1, .slice A5 y.f2.length c5, .slice A6 y.f3.length c6] TX)).heap.size := ST6.out.lt
            have hal : ys.length ≤ 5 := by omega
            have HS := Aside0.mk (show (w5.alloc (.cells #[.int .u8 y.f0, .string y.f1, .slice A5 y.f2.length c5, .slice A6 y.f3.length c6] TX)).heap.size = w5.heap.size + 1 from Array.size_push ..)
            clear hI5 hk5 CU hgp HGG hg0 hy5 ST5
            go_wp2_with (first | ((with_reducible refine gate_builtin (b := .append) (xs := #[.tmp 64, .tmp 66]) rfl ?_); at_builtin; refine Kd.R_append kX (w0 := w5.alloc (.cells #[.int .u8 y.f0, .string y.f1, .slice A5 y.f2.length c5, .slice A6 y.f3.length c6] TX)) (w3.heap.size + 1) rfl (.tmp 64) (.tmp 66) 23 TX (.agg #[.int .u8 0, .string nil8, .slice none 0 0, .slice none 0 0]) 72 rfl Tryz.underlying23 info_x3 rfl (show 0 < kX.sz from Nat.zero_lt_succ 3) (by decide) v3 ys y [.int .u8 y.f0, .string y.f1, .slice A5 y.f2.length c5, .slice A6 y.f3.length c6] (fun _ => True) (fun k => wr.heap.size ≤ k) rfl (by rw [HS.out]; rfl) HY.out (fun k hk => ⟨trivial, fun he => by have h1 := HV.out k he.symm; have h2 : wr.heap.size ≤ k := hk; omega⟩) (fun _ _ => trivial) ST6.out.args (Below.refl _ _) hbz (by omega) ?_; intro v8 w8 ho hb hg hat; obtain ⟨A8, c8, h8⟩ := Kd.R_slice ho; rw [List.length_append, List.length_singleton] at h8; subst h8; have HO := Aside0.mk ho; have HG := Aside0.mk hg; have f8 := blk_frozen (ST6.out.box_grown hg (Kd.R_base ST6.out.args)) 3; have q8 : w8.cell? ⟨w3.heap.size, 3, none⟩ = some v3 := (blk_cell (ST6.out.box_grown hg (Kd.R_base ST6.out.args)) 3).trans rfl; clear ho hb hg hat))
            have ST8 := Aside0.mk (ST6.out.arg HO.out HG.out)
            clear HO HG ST6 q5 q5b q5n q5m f8 q8 HY HV ST
            rw [if_neg hlast] at HE
            have CM := Aside0.mk (mark_calls g COM LL a pp w0 _ ST8.out.isp)
            rcases mark_cases COM LL with ⟨t9, r9, hL9, hm9, _⟩ | ⟨hm9, _⟩
            · rw [hm9] at CM HE
              rw [if_neg (show ¬ ((r9, (0 : Int)).2 ≠ 0) by simp)] at HE
              (with_reducible refine CM.out.mono ?_)
              rintro e w9 ⟨rfl, hI9, hk9⟩
              have ST9 := Aside0.mk (ST8.out.at hI9 hk9)
              clear hI9 hk9 CM
              go_wp2_with fail
              go_roundw
              case rel => exact ⟨k + 1, r9, pp, ns, ys ++ [y], v2, _, by omega, by go_num, q0, q1, by simp at hlen ⊢; omega, fun h => absurd h (by omega), HE.out, ST9.out⟩
              case measure => simp [intOf]; omega
            · rw [hm9] at CM HE
              rw [if_pos (show (LL, (110 : Int)).2 ≠ 0 by simp)] at HE
              (with_reducible refine CM.out.mono ?_)
              rintro e w9 ⟨rfl, hI9, hk9⟩
              have ST9 := Aside0.mk (ST8.out.at hI9 hk9)
              clear hI9 hk9 CM
              have z0 := (blk_cell ST9.out.zero 0)
              have z1 := (blk_cell ST9.out.zero 1)
              have z2 := (blk_cell ST9.out.zero 2)
              have z3 := (blk_cell ST9.out.zero 3)
              have y0 := blk_frozen ST9.out.zero 0
              have y1 := blk_frozen ST9.out.zero 1
              have y2 := blk_frozen ST9.out.zero 2
              have y3 := blk_frozen ST9.out.zero 3
              replace z0 := z0.trans (show zCells[0]? = some (Value.int .u8 0) from rfl)
              replace z1 := z1.trans (show zCells[1]? = some (Value.string nil8) from rfl)
              replace z2 := z2.trans (show zCells[2]? = some (Value.slice none 0 0) from rfl)
              replace z3 := z3.trans (show zCells[3]? = some (Value.slice none 0 0) from rfl)
              go_wp2
              refine bodyPost_ret (results_ct rfl _ _ _ TX _ (0, 0) _ rfl (blk_put (blk_put (blk_put (blk_put ST9.out.zero 0 _ rfl) 1 _ rfl) 2 _ rfl) 3 _ rfl) Tryz.underlying25 rfl info_x) rfl ?_
              have hc := fun W2 h1 h2 => ST9.out.close (W2 := W2) h1 h2
              rw [← HE.out]
              exact ⟨.slice none 0 0, .slice none 0 0, rfl, (hc _ (by (repeat (first | (with_reducible exact Kept.refl _ _) | (with_reducible apply Kept.alloc) | (with_reducible apply Kept.drewN) | (with_reducible apply Kept.drew) | (with_reducible refine kept_at ?_ _ _) | (with_reducible refine kept_new ?_ _ _ (Nat.le_refl _)) | (with_reducible refine kept_new ?_ _ _ (by first | assumption | omega))))) (by (repeat (first | (with_reducible exact ST9.out.isp.low) | (with_reducible apply below_alloc) | (with_reducible apply pw_below_drewN) | (with_reducible apply below_drew1) | (with_reducible refine below_set ?_ (by first | assumption | omega)))))).1, (hc _ (by (repeat (first | (with_reducible exact Kept.refl _ _) | (with_reducible apply Kept.alloc) | (with_reducible apply Kept.drewN) | (with_reducible apply Kept.drew) | (with_reducible refine kept_at ?_ _ _) | (with_reducible refine kept_new ?_ _ _ (Nat.le_refl _)) | (with_reducible refine kept_new ?_ _ _ (by first | assumption | omega))))) (by (repeat (first | (with_reducible exact ST9.out.isp.low) | (with_reducible apply below_alloc) | (with_reducible apply pw_below_drewN) | (with_reducible apply below_drew1) | (with_reducible refine below_set ?_ (by first | assumption | omega)))))).2, gives_zero _ _⟩
        · rw [if_pos (show ee ≠ 0 from hee)] at HE
          have hee' : (ee != 0) = true := bne_iff_ne.2 hee
          go_wp2_with fail
          (with_reducible refine CU.out.mono ?_)
          rintro e w5 ⟨v5, v6, rfl, hI5, hk5, hy5⟩
          obtain ⟨A5, c5, A6, c6, rfl, rfl⟩ := hy5.slices
          have ST5 := Aside0.mk (ST.out.at hI5 hk5)
          have ST6 := Aside0.mk (ST5.out.at (ST5.out.isp.keep (below_alloc (Below.refl _ _) _)) ((Kept.refl _ (At g)).alloc (.cells #[.int .u8 y.f0, .string y.f1, .slice A5 y.f2.length c5, .slice A6 y.f3.length c6] TX)))
          clear hI5 hk5 CU ST hgp HGG hg0 hy5 ST5
          have z0 := (blk_cell ST6.out.zero 0)
          have z1 := (blk_cell ST6.out.zero 1)
          have z2 := (blk_cell ST6.out.zero 2)
          have z3 := (blk_cell ST6.out.zero 3)
          have y0 := blk_frozen ST6.out.zero 0
          have y1 := blk_frozen ST6.out.zero 1
          have y2 := blk_frozen ST6.out.zero 2
          have y3 := blk_frozen ST6.out.zero 3
          replace z0 := z0.trans (show zCells[0]? = some (Value.int .u8 0) from rfl)
          replace z1 := z1.trans (show zCells[1]? = some (Value.string nil8) from rfl)
          replace z2 := z2.trans (show zCells[2]? = some (Value.slice none 0 0) from rfl)
          replace z3 := z3.trans (show zCells[3]? = some (Value.slice none 0 0) from rfl)
          go_wp2
          refine bodyPost_ret (results_ct rfl _ _ _ TX _ (0, 0) _ rfl (blk_put (blk_put (blk_put (blk_put ST6.out.zero 0 _ rfl) 1 _ rfl) 2 _ rfl) 3 _ rfl) Tryz.underlying25 rfl info_x) rfl ?_
          have hc := fun W2 h1 h2 => ST6.out.close (W2 := W2) h1 h2
          rw [← HE.out]
          exact ⟨.slice none 0 0, .slice none 0 0, rfl, (hc _ (by (repeat (first | (with_reducible exact Kept.refl _ _) | (with_reducible apply Kept.alloc) | (with_reducible apply Kept.drewN) | (with_reducible apply Kept.drew) | (with_reducible refine kept_at ?_ _ _) | (with_reducible refine kept_new ?_ _ _ (Nat.le_refl _)) | (with_reducible refine kept_new ?_ _ _ (by first | assumption | omega))))) (by (repeat (first | (with_reducible exact ST6.out.isp.low) | (with_reducible apply below_alloc) | (with_reducible apply pw_below_drewN) | (with_reducible apply below_drew1) | (with_reducible refine below_set ?_ (by first | assumption | omega)))))).1, (hc _ (by (repeat (first | (with_reducible exact Kept.refl _ _) | (with_reducible apply Kept.alloc) | (with_reducible apply Kept.drewN) | (with_reducible apply Kept.drew) | (with_reducible refine kept_at ?_ _ _) | (with_reducible refine kept_new ?_ _ _ (Nat.le_refl _)) | (with_reducible refine kept_new ?_ _ _ (by first | assumption | omega))))) (by (repeat (first | (with_reducible exact ST6.out.isp.low) | (with_reducible apply below_alloc) | (with_reducible apply pw_below_drewN) | (with_reducible apply below_drew1) | (with_reducible refine below_set ?_ (by first | assumption | omega)))))).2, gives_zero _ _⟩

    · obtain ⟨A2, c2, rfl⟩ := Kd.R_slice ST.out.nums
      obtain ⟨A3, c3, rfl⟩ := Kd.R_slice ST.out.args
      obtain rfl : k = nn + aa := by omega
      have hki' : decide (((nn + aa : Nat) : Int) < (nn : Int) + (aa : Int)) = false := decide_eq_false (by omega)
      have hR := HRR.out
      rw [Nat.sub_self, stepsF] at hR
      have HE := Aside0.mk hR
      have q0 : wr.cell? ⟨w3.heap.size, 0, none⟩ = some (.int .u8 op) := (blk_cell ST.out.box 0).trans rfl
      have q1 : wr.cell? ⟨w3.heap.size, 1, none⟩ = some (.string nil8) := (blk_cell ST.out.box 1).trans rfl
      have q2 : wr.cell? ⟨w3.heap.size, 2, none⟩ = some (.slice A2 _ c2) := (blk_cell ST.out.box 2).trans rfl
      have q3 : wr.cell? ⟨w3.heap.size, 3, none⟩ = some (.slice A3 _ c3) := (blk_cell ST.out.box 3).trans rfl
      have z0 := (blk_cell ST.out.zero 0).trans (show zCells[0]? = some (Value.int .u8 0) from rfl)
      have z1 := (blk_cell ST.out.zero 1).trans (show zCells[1]? = some (Value.string nil8) from rfl)
      have z2 := (blk_cell ST.out.zero 2).trans (show zCells[2]? = some (Value.slice none 0 0) from rfl)
      have z3 := (blk_cell ST.out.zero 3).trans (show zCells[3]? = some (Value.slice none 0 0) from rfl)
      have y0 := blk_frozen ST.out.zero 0
      have y1 := blk_frozen ST.out.zero 1
      have y2 := blk_frozen ST.out.zero 2
      have y3 := blk_frozen ST.out.zero 3
      clear hR HRR
      go_wp2
      refine bodyPost_ret (results_ct rfl _ _ _ TX _ (0, 0) _ rfl (blk_put (blk_put (blk_put (blk_put ST.out.zero 0 _ rfl) 1 _ rfl) 2 _ rfl) 3 _ rfl) Tryz.underlying25 rfl info_x) rfl ?_
      have hc := fun W2 h1 h2 => ST.out.close (W2 := W2) h1 h2
      rw [← HE.out]
      exact ⟨_, _, rfl, (hc _ (by (repeat (first | (with_reducible exact Kept.refl _ _) | (with_reducible apply Kept.alloc) | (with_reducible apply Kept.drewN) | (with_reducible apply Kept.drew) | (with_reducible refine kept_at ?_ _ _) | (with_reducible refine kept_new ?_ _ _ (Nat.le_refl _)) | (with_reducible refine kept_new ?_ _ _ (by first | assumption | omega))))) (by (repeat (first | (with_reducible exact ST.out.isp.low) | (with_reducible apply below_alloc) | (with_reducible apply pw_below_drewN) | (with_reducible apply below_drew1) | (with_reducible refine below_set ?_ (by first | assumption | omega)))))).1, (hc _ (by (repeat (first | (with_reducible exact Kept.refl _ _) | (with_reducible apply Kept.alloc) | (with_reducible apply Kept.drewN) | (with_reducible apply Kept.drew) | (with_reducible refine kept_at ?_ _ _) | (with_reducible refine kept_new ?_ _ _ (Nat.le_refl _)) | (with_reducible refine kept_new ?_ _ _ (by first | assumption | omega))))) (by (repeat (first | (with_reducible exact ST.out.isp.low) | (with_reducible apply below_alloc) | (with_reducible apply pw_below_drewN) | (with_reducible apply below_drew1) | (with_reducible refine below_set ?_ (by first | assumption | omega)))))).2, ST.out.done (by (repeat (first | (with_reducible exact Kept.refl _ _) | (with_reducible apply Kept.alloc) | (with_reducible apply Kept.drewN) | (with_reducible apply Kept.drew) | (with_reducible refine kept_at ?_ _ _) | (with_reducible refine kept_new ?_ _ _ (Nat.le_refl _)) | (with_reducible refine kept_new ?_ _ _ (by first | assumption | omega)))))⟩
end Go.Proofs.YtcinojbfjiohjaaGreatDoor.Pa
end

section
namespace Go.Proofs.YtcinojbfjiohjaaGreatDoor.Pa
open Go Go.RowKit Go.Proofs.YtcinojbfjiohjaaGreatDoor.PPrintTells Go.Proofs.YtcinojbfjiohjaaGreatDoor.Ex Go.Proofs.YtcinojbfjiohjaaGreatDoorW.PrintWords Go.Proofs.YtcinojbfjiohjaaGreatDoorW.PrintLast Go.Proofs.YtcinojbfjiohjaaGreatDoorW.PrintMore
set_option linter.unusedVariables false
set_option linter.unusedSimpArgs false
structure ExSt (w0 w W : World) (g : Nat) (a : Int) (L : List Tok) (p : Int) : Prop where
  isp : IsP w0 W g L a p
  kept : Kept w W (At g)
  zero : W.heap[w.heap.size]? = some (.cells zCells TX (0, 0))
  lg : g < w.heap.size
section
variable {w0 w W W2 : World} {g : Nat} {a : Int} {L L2 : List Tok} {p p2 : Int}
theorem ExSt.at (h : ExSt w0 w W g a L p) (hI : IsP w0 W2 g L2 a p2) (hk : Kept W W2 (At g)) : ExSt w0 w W2 g a L2 p2 := by
  have h1 := h.lg
  exact ⟨hI, h.kept.then_ hk (fun k hs => .inl hs), blk_kept h.zero hk (fun hs => by have : w.heap.size = g := hs; omega), h1⟩
theorem ExSt.later (h : ExSt w0 w W g a L p) (hb : Below W.heap.size W W2) : ExSt w0 w W2 g a L p := h.at (h.isp.keep hb) (Kept.of_below hb _)
theorem ExSt.close (h : ExSt w0 w W g a L p) (hk : Kept W W2 (At w.heap.size)) (hB : Below w0.heap.size w0 W2) : IsP w0 W2 g L a p ∧ Kept w W2 (At g) := by
  have h1 := h.lg
  exact ⟨h.isp.mv hk hB (by show ¬ (g = w.heap.size); omega), h.kept.then_ hk (fun k hs => .inr (by have : k = w.heap.size := hs; omega))⟩
theorem ExSt.le (h : ExSt w0 w W g a L p) : w.heap.size ≤ W.heap.size := h.kept.1
theorem ExSt.sz (h : ExSt w0 w W g a L p) : w.heap.size < W.heap.size := blk_lt h.zero
theorem ExSt.cal (h : ExSt w0 w W g a L p) (hC : Cal w0) : Cal W := hC.l h.isp.low
theorem IsP.parts (h : IsP w0 W g L a p) : W.cell? ⟨g, 2, none⟩ = some (.int .i64 p) ∧ W.frozen? ⟨g, 2, none⟩ = false := by
  obtain ⟨A0, c0, h1, h2, h3, h4, h5⟩ := h
  exact ⟨(blk_cell h1 2).trans rfl, blk_frozen h1 2⟩
theorem IsP.more (h : IsP w0 W g L a p) (q : Int) : IsP w0 (W.setCell ⟨g, 2, none⟩ (.int .i64 q)) g L a q := by
  obtain ⟨A0, c0, h1, h2, h3, h4, h5⟩ := h
  exact ⟨A0, c0, blk_put h1 2 _ rfl, h2, h3, h4, below_set h5 h2⟩
theorem take_fail {L : List Tok} (h : takeF [1] L = (z51, L, 110)) : ¬ kindF L = 1 := by
  intro hk
  cases L with
  | nil => simp [kindF] at hk
  | cons t r =>
    have hk' : t.f0 = 1 := hk
    have h2 : takeF [1] (t :: r) = (t, r, 0) := if_pos ⟨by omega, by simp [hk']⟩
    rw [h2] at h
    have := congrArg (fun x => x.2.2) h
    simp at this
end
set_option maxHeartbeats 16000000 in
set_option maxRecDepth 100000 in
theorem exprG_calls (w0 : World) (g : Nat) (a dp : Int) (deep : Bool) (hdp : deep = decide (40 < dp)) (F : Int → List Tok → Res) (hC : Cal w0)
    (hO : deep = false → ∀ (op : Int) (o0 : 1 ≤ op) (o1 : op ≤ 12) (p : Int) (L : List Tok) (w : World) (hI : IsP w0 w g L a p) (p0 : 0 ≤ p) (p1 : p ≤ 2000) (R : Res) (hR : stepsF F (numsOf op).toNat (manyOf op) (manyOf op) ⟨op, nil8, [], []⟩ p L = R),
      Calls Tryz.prog 96 #[.pointer (some ⟨g, 0, none⟩), .int .u8 op, .int .i64 dp] w fun e w' =>
        ∃ v2 v3, e = .returned (.tuple #[ag R.x v2 v3, .int .i64 R.e]) ∧ IsP w0 w' g R.l a R.p ∧ Kept w w' (At g) ∧ Gives w w' R.x v2 v3) :
    ExprC w0 g a dp (exprG deep F) := by
  intro p L w hI p0 p1
  obtain ⟨R, hR⟩ : ∃ R, exprG deep F p L = R := ⟨_, rfl⟩
  rw [hR]
  have hgw := hI.lt
  have hw0 : w0.heap.size ≤ w.heap.size := by have := hI.ge; omega
  have CK := fun W h => Aside0.mk (kind_calls g L a p w0 W h)
  have HC := Aside0.mk hC
  have HO := Aside0.mk hO
  have HI := Aside0.mk hI
  have ST0 := Aside0.mk (show ExSt w0 w (w.alloc (.cells zCells TX (0, 0))) g a L p from ⟨hI.keep (below_alloc (Below.refl _ _) _), (Kept.refl _ _).alloc _, blk_new w _, hgw⟩)
  clear hI hC hO
  unfold exprG at hR
  rcases take_cases [1] L with ⟨t, r, rfl, ht, hm⟩ | ht
  · have h1 : t.f0 = 1 := by simpa using hm
    have hk : kindF (t :: r) = 1 := h1
    rw [hk] at CK hR
    cases deep with
    | true =>
      have hd : (40 : Int) < dp := by simpa using hdp.symm
      have HE := Aside0.mk ((if_pos ⟨rfl, .inl rfl⟩).symm.trans hR)
      clear hR hdp hm ht h1 hk HO
      go_enter Tryz.func44, Tryz.ntmps44
      go_wp2_with fail
      (with_reducible refine (CK _ ?i).out.mono ?_)
      case i => exact HI.out.keep (below_alloc (Below.refl _ _) _)
      rintro e w1 ⟨rfl, hd1⟩
      have ST1 := Aside0.mk (ST0.out.later hd1.below)
      have pf := ST1.out.isp.parts
      have pf1 := pf.1
      have pf2 := pf.2
      clear pf hd1 CK ST0
      have z0 := (blk_cell ST1.out.zero 0).trans (show zCells[0]? = some (Value.int .u8 0) from rfl)
      have z1 := (blk_cell ST1.out.zero 1).trans (show zCells[1]? = some (Value.string nil8) from rfl)
      have z2 := (blk_cell ST1.out.zero 2).trans (show zCells[2]? = some (Value.slice none 0 0) from rfl)
      have z3 := (blk_cell ST1.out.zero 3).trans (show zCells[3]? = some (Value.slice none 0 0) from rfl)
      have y0 := blk_frozen ST1.out.zero 0
      have y1 := blk_frozen ST1.out.zero 1
      have y2 := blk_frozen ST1.out.zero 2
      have y3 := blk_frozen ST1.out.zero 3
      go_wp2
      refine bodyPost_ret (results_ct rfl _ _ _ TX _ (0, 0) _ rfl (blk_put (blk_put (blk_put (blk_put ST1.out.zero 0 _ rfl) 1 _ rfl) 2 _ rfl) 3 _ rfl) Tryz.underlying25 rfl info_x) rfl ?_
      have hc := fun W2 h1 h2 => ST1.out.close (W2 := W2) h1 h2
      rw [← HE.out]
      exact ⟨_, _, rfl, (hc _ (by (repeat (first | (with_reducible exact Kept.refl _ _) | (with_reducible apply Kept.alloc) | (with_reducible apply Kept.drewN) | (with_reducible apply Kept.drew) | (with_reducible refine kept_at ?_ _ _) | (with_reducible refine kept_new ?_ _ _ (Nat.le_refl _)) | (with_reducible refine kept_new ?_ _ _ (by first | assumption | omega))))) (by (repeat (first | (with_reducible exact ST1.out.isp.low) | (with_reducible apply below_alloc) | (with_reducible apply pw_below_drewN) | (with_reducible apply below_drew1) | (with_reducible refine below_set ?_ (by first | assumption | omega)))))).1, (hc _ (by (repeat (first | (with_reducible exact Kept.refl _ _) | (with_reducible apply Kept.alloc) | (with_reducible apply Kept.drewN) | (with_reducible apply Kept.drew) | (with_reducible refine kept_at ?_ _ _) | (with_reducible refine kept_new ?_ _ _ (Nat.le_refl _)) | (with_reducible refine kept_new ?_ _ _ (by first | assumption | omega))))) (by (repeat (first | (with_reducible exact ST1.out.isp.low) | (with_reducible apply below_alloc) | (with_reducible apply pw_below_drewN) | (with_reducible apply below_drew1) | (with_reducible refine below_set ?_ (by first | assumption | omega)))))).2, gives_zero _ _⟩
    | false =>
      have hd : ¬ ((40 : Int) < dp) := by simpa using hdp.symm
      have hd' : dp ≤ 40 := by omega
      by_cases hp : 2000 ≤ p
      · have HE := Aside0.mk ((if_pos ⟨rfl, .inr hp⟩).symm.trans hR)
        clear hR hdp hm ht h1 hk HO
        go_enter Tryz.func44, Tryz.ntmps44
        go_wp2_with fail
        (with_reducible refine (CK _ ?i).out.mono ?_)
        case i => exact HI.out.keep (below_alloc (Below.refl _ _) _)
        rintro e w1 ⟨rfl, hd1⟩
        have ST1 := Aside0.mk (ST0.out.later hd1.below)
        have pf := ST1.out.isp.parts
        have pf1 := pf.1
        have pf2 := pf.2
        clear pf hd1 CK ST0
        have z0 := (blk_cell ST1.out.zero 0).trans (show zCells[0]? = some (Value.int .u8 0) from rfl)
        have z1 := (blk_cell ST1.out.zero 1).trans (show zCells[1]? = some (Value.string nil8) from rfl)
        have z2 := (blk_cell ST1.out.zero 2).trans (show zCells[2]? = some (Value.slice none 0 0) from rfl)
        have z3 := (blk_cell ST1.out.zero 3).trans (show zCells[3]? = some (Value.slice none 0 0) from rfl)
        have y0 := blk_frozen ST1.out.zero 0
        have y1 := blk_frozen ST1.out.zero 1
        have y2 := blk_frozen ST1.out.zero 2
        have y3 := blk_frozen ST1.out.zero 3
        go_wp2
        refine bodyPost_ret (results_ct rfl _ _ _ TX _ (0, 0) _ rfl (blk_put (blk_put (blk_put (blk_put ST1.out.zero 0 _ rfl) 1 _ rfl) 2 _ rfl) 3 _ rfl) Tryz.underlying25 rfl info_x) rfl ?_
        have hc := fun W2 h1 h2 => ST1.out.close (W2 := W2) h1 h2
        rw [← HE.out]
        exact ⟨_, _, rfl, (hc _ (by (repeat (first | (with_reducible exact Kept.refl _ _) | (with_reducible apply Kept.alloc) | (with_reducible apply Kept.drewN) | (with_reducible apply Kept.drew) | (with_reducible refine kept_at ?_ _ _) | (with_reducible refine kept_new ?_ _ _ (Nat.le_refl _)) | (with_reducible refine kept_new ?_ _ _ (by first | assumption | omega))))) (by (repeat (first | (with_reducible exact ST1.out.isp.low) | (with_reducible apply below_alloc) | (with_reducible apply pw_below_drewN) | (with_reducible apply below_drew1) | (with_reducible refine below_set ?_ (by first | assumption | omega)))))).1, (hc _ (by (repeat (first | (with_reducible exact Kept.refl _ _) | (with_reducible apply Kept.alloc) | (with_reducible apply Kept.drewN) | (with_reducible apply Kept.drew) | (with_reducible refine kept_at ?_ _ _) | (with_reducible refine kept_new ?_ _ _ (Nat.le_refl _)) | (with_reducible refine kept_new ?_ _ _ (by first | assumption | omega))))) (by (repeat (first | (with_reducible exact ST1.out.isp.low) | (with_reducible apply below_alloc) | (with_reducible apply pw_below_drewN) | (with_reducible apply below_drew1) | (with_reducible refine below_set ?_ (by first | assumption | omega)))))).2, gives_zero _ _⟩
      · rw [if_neg (by simp; omega), ht] at hR
        have hR' := (if_neg (show ¬ ((t, r, (0 : Int)).2.2 ≠ 0) by simp)).symm.trans hR
        have CT := fun A W h hC => Aside0.mk (take_calls g [1] asks1 A 1 1 (t :: r) a (p + 1) w0 W h rfl hC (Nat.le_refl _))
        rw [ht] at CT
        dsimp only at hR' CT
        have CO := fun W h => Aside0.mk (Op_calls t.f1 W h)
        have CM := fun W h => Aside0.mk (mark_calls g LPA r a (p + 1) w0 W h)
        have hp2 : p < 2000 := by omega
        clear hR hm ht h1 hk
        obtain ⟨op, io, hop⟩ : ∃ op io, opF t.f1 = (op, io) := ⟨_, _, rfl⟩
        have hopr : io = true → 1 ≤ op ∧ op ≤ 12 := by
          intro h
          subst h
          have := idx_le t.f1
          unfold opF at hop
          split at hop
          · simp at hop
          · simp at hop; omega
        rw [hop] at CO hR'
        dsimp only at CO hR'
        clear hop
        cases io with
        | false =>
          have HE := Aside0.mk ((if_neg (show ¬ (false = true ∧ isF LPA r = true) by simp)).symm.trans hR')
          clear hR' hopr HO CM hdp
          go_enter Tryz.func44, Tryz.ntmps44
          go_wp2_with fail
          (with_reducible refine (CK _ ?i).out.mono ?_)
          case i => exact HI.out.keep (below_alloc (Below.refl _ _) _)
          rintro e w1 ⟨rfl, hd1⟩
          have ST1 := Aside0.mk (ST0.out.later hd1.below)
          have pf := ST1.out.isp.parts
          have pf1 := pf.1
          have pf2 := pf.2
          clear pf hd1 CK ST0
          go_wp2_with fail
          (with_reducible refine (CT (some ⟨w1.heap.size, 0, none⟩) _ ?i ?j).out.mono ?_)
          case i => exact (ST1.out.isp.more (p + 1)).keep (below_alloc (Below.refl _ _) _)
          case j =>
            have hk1 := kinds_C (w1.setCell ⟨g, 2, none⟩ (.int .i64 (p + 1))) [1] (by decide)
            rw [show (w1.setCell ⟨g, 2, none⟩ (.int .i64 (p + 1))).heap.size = w1.heap.size from by simp [World.setCell]] at hk1
            exact hk1
          rintro e w2 ⟨rfl, hI2, hk2⟩
          have ST2 := Aside0.mk (((ST1.out.at (ST1.out.isp.more (p + 1)) (kept_at (Kept.refl _ _) 2 _)).later (below_alloc (Below.refl _ _) _)).at hI2 hk2)
          have ST3 := Aside0.mk (ST2.out.later (below_alloc (Below.refl _ _) (.cells #[.int .u8 t.f0, .string t.f1, .int .i64 t.f2] 51)))
          have HS := Aside0.mk (show (w2.alloc (.cells #[.int .u8 t.f0, .string t.f1, .int .i64 t.f2] 51)).heap.size = w2.heap.size + 1 from Array.size_push ..)
          clear hI2 hk2 CT pf1 pf2
          go_wp2_with fail
          (with_reducible refine (CO _ ?i).out.mono ?_)
          case i => exact ST3.out.cal HC.out
          rintro e w4 ⟨rfl, hb4⟩
          have ST4 := Aside0.mk (ST3.out.later hb4)
          have b6 := blk_kept (blk_new w2 (.cells #[.int .u8 t.f0, .string t.f1, .int .i64 t.f2] 51)) (Kept.of_below hb4 (fun _ => False)) id
          have q6 : w4.cell? ⟨w2.heap.size, 1, none⟩ = some (.string t.f1) := (blk_cell b6 1).trans rfl
          clear hb4 CO b6
          have z0 := (blk_cell ST4.out.zero 0).trans (show zCells[0]? = some (Value.int .u8 0) from rfl)
          have z1 := (blk_cell ST4.out.zero 1).trans (show zCells[1]? = some (Value.string nil8) from rfl)
          have z2 := (blk_cell ST4.out.zero 2).trans (show zCells[2]? = some (Value.slice none 0 0) from rfl)
          have z3 := (blk_cell ST4.out.zero 3).trans (show zCells[3]? = some (Value.slice none 0 0) from rfl)
          have y0 := blk_frozen ST4.out.zero 0
          have y1 := blk_frozen ST4.out.zero 1
          have y2 := blk_frozen ST4.out.zero 2
          have y3 := blk_frozen ST4.out.zero 3
          go_wp2
          refine bodyPost_ret (results_ct rfl _ _ _ TX _ (0, 0) _ rfl (blk_put (blk_put (blk_put (blk_put ST4.out.zero 0 _ rfl) 1 _ rfl) 2 _ rfl) 3 _ rfl) Tryz.underlying25 rfl info_x) rfl ?_
          have hc := fun W2 h1 h2 => ST4.out.close (W2 := W2) h1 h2
          rw [← HE.out]
          exact ⟨_, _, rfl, (hc _ (by (repeat (first | (with_reducible exact Kept.refl _ _) | (with_reducible apply Kept.alloc) | (with_reducible apply Kept.drewN) | (with_reducible apply Kept.drew) | (with_reducible refine kept_at ?_ _ _) | (with_reducible refine kept_new ?_ _ _ (Nat.le_refl _)) | (with_reducible refine kept_new ?_ _ _ (by first | assumption | omega))))) (by (repeat (first | (with_reducible exact ST4.out.isp.low) | (with_reducible apply below_alloc) | (with_reducible apply pw_below_drewN) | (with_reducible apply below_drew1) | (with_reducible refine below_set ?_ (by first | assumption | omega)))))).1, (hc _ (by (repeat (first | (with_reducible exact Kept.refl _ _) | (with_reducible apply Kept.alloc) | (with_reducible apply Kept.drewN) | (with_reducible apply Kept.drew) | (with_reducible refine kept_at ?_ _ _) | (with_reducible refine kept_new ?_ _ _ (Nat.le_refl _)) | (with_reducible refine kept_new ?_ _ _ (by first | assumption | omega))))) (by (repeat (first | (with_reducible exact ST4.out.isp.low) | (with_reducible apply below_alloc) | (with_reducible apply pw_below_drewN) | (with_reducible apply below_drew1) | (with_reducible refine below_set ?_ (by first | assumption | omega)))))).2, gives_name _ _ _⟩
        | true =>
          obtain ⟨o0, o1⟩ := hopr rfl
          clear hopr
          rcases mark_cases LPA r with ⟨t9, r9, hL9, hm9, hi9⟩ | ⟨hm9, hi9⟩
          · have HE := Aside0.mk ((if_pos (show true = true ∧ isF LPA r = true from ⟨rfl, hi9⟩)).symm.trans hR')
            rw [show r.tail = r9 by rw [hL9]; rfl] at HE
            have CP := fun W h => Aside0.mk (HO.out rfl op o0 o1 (p + 1) r9 W h (by omega) (by omega) R HE.out)
            rw [hm9] at CM
            dsimp only at CM
            clear hR' HO hdp hL9 hm9 hi9 HE
            go_enter Tryz.func44, Tryz.ntmps44
            go_wp2_with fail
            (with_reducible refine (CK _ ?i).out.mono ?_)
            case i => exact HI.out.keep (below_alloc (Below.refl _ _) _)
            rintro e w1 ⟨rfl, hd1⟩
            have ST1 := Aside0.mk (ST0.out.later hd1.below)
            have pf := ST1.out.isp.parts
            have pf1 := pf.1
            have pf2 := pf.2
            clear pf hd1 CK ST0
            go_wp2_with fail
            (with_reducible refine (CT (some ⟨w1.heap.size, 0, none⟩) _ ?i ?j).out.mono ?_)
            case i => exact (ST1.out.isp.more (p + 1)).keep (below_alloc (Below.refl _ _) _)
            case j =>
              have hk1 := kinds_C (w1.setCell ⟨g, 2, none⟩ (.int .i64 (p + 1))) [1] (by decide)
              rw [show (w1.setCell ⟨g, 2, none⟩ (.int .i64 (p + 1))).heap.size = w1.heap.size from by simp [World.setCell]] at hk1
              exact hk1
            rintro e w2 ⟨rfl, hI2, hk2⟩
            have ST2 := Aside0.mk (((ST1.out.at (ST1.out.isp.more (p + 1)) (kept_at (Kept.refl _ _) 2 _)).later (below_alloc (Below.refl _ _) _)).at hI2 hk2)
            have ST3 := Aside0.mk (ST2.out.later (below_alloc (Below.refl _ _) (.cells #[.int .u8 t.f0, .string t.f1, .int .i64 t.f2] 51)))
            have HS := Aside0.mk (show (w2.alloc (.cells #[.int .u8 t.f0, .string t.f1, .int .i64 t.f2] 51)).heap.size = w2.heap.size + 1 from Array.size_push ..)
            clear hI2 hk2 CT pf1 pf2
            go_wp2_with fail
            (with_reducible refine (CO _ ?i).out.mono ?_)
            case i => exact ST3.out.cal HC.out
            rintro e w4 ⟨rfl, hb4⟩
            have ST4 := Aside0.mk (ST3.out.later hb4)
            clear hb4 CO
            go_wp2_with fail
            (with_reducible refine (CM _ ?i).out.mono ?_)
            case i => exact ST4.out.isp
            rintro e w5 ⟨rfl, hI5, hk5⟩
            have ST5 := Aside0.mk (ST4.out.at hI5 hk5)
            clear hI5 hk5 CM
            go_wp2_with fail
            (with_reducible refine (CP _ ?i).out.mono ?_)
            case i => exact ST5.out.isp
            rintro e w6 ⟨v5, v6, rfl, hI6, hk6, hg6⟩
            obtain ⟨A5, c5, A6, c6, rfl, rfl⟩ := hg6.slices
            have ST6 := Aside0.mk (ST5.out.at hI6 hk6)
            have HG := Aside0.mk hg6
            clear hI6 hk6 hg6 CP
            have z0 := (blk_cell ST6.out.zero 0).trans (show zCells[0]? = some (Value.int .u8 0) from rfl)
            have z1 := (blk_cell ST6.out.zero 1).trans (show zCells[1]? = some (Value.string nil8) from rfl)
            have z2 := (blk_cell ST6.out.zero 2).trans (show zCells[2]? = some (Value.slice none 0 0) from rfl)
            have z3 := (blk_cell ST6.out.zero 3).trans (show zCells[3]? = some (Value.slice none 0 0) from rfl)
            have y0 := blk_frozen ST6.out.zero 0
            have y1 := blk_frozen ST6.out.zero 1
            have y2 := blk_frozen ST6.out.zero 2
            have y3 := blk_frozen ST6.out.zero 3
            go_wp2
            refine bodyPost_ret (results_ct rfl _ _ _ TX _ (0, 0) _ rfl (blk_put (blk_put (blk_put (blk_put ST6.out.zero 0 _ rfl) 1 _ rfl) 2 _ rfl) 3 _ rfl) Tryz.underlying25 rfl info_x) rfl ?_
            have hc := fun W2 h1 h2 => ST6.out.close (W2 := W2) h1 h2
            exact ⟨_, _, rfl, (hc _ (by (repeat (first | (with_reducible exact Kept.refl _ _) | (with_reducible apply Kept.alloc) | (with_reducible apply Kept.drewN) | (with_reducible apply Kept.drew) | (with_reducible refine kept_at ?_ _ _) | (with_reducible refine kept_new ?_ _ _ (Nat.le_refl _)) | (with_reducible refine kept_new ?_ _ _ (by first | assumption | omega))))) (by (repeat (first | (with_reducible exact ST6.out.isp.low) | (with_reducible apply below_alloc) | (with_reducible apply pw_below_drewN) | (with_reducible apply below_drew1) | (with_reducible refine below_set ?_ (by first | assumption | omega)))))).1, (hc _ (by (repeat (first | (with_reducible exact Kept.refl _ _) | (with_reducible apply Kept.alloc) | (with_reducible apply Kept.drewN) | (with_reducible apply Kept.drew) | (with_reducible refine kept_at ?_ _ _) | (with_reducible refine kept_new ?_ _ _ (Nat.le_refl _)) | (with_reducible refine kept_new ?_ _ _ (by first | assumption | omega))))) (by (repeat (first | (with_reducible exact ST6.out.isp.low) | (with_reducible apply below_alloc) | (with_reducible apply pw_below_drewN) | (with_reducible apply below_drew1) | (with_reducible refine below_set ?_ (by first | assumption | omega)))))).2, (kX.M_lower ST5.out.le (HG.out.step (by refine Kept.mono (S := At w.heap.size) ?_ (fun k hk => by have h1 : k = w.heap.size := hk; have h2 := ST5.out.sz; omega); (repeat (first | (with_reducible exact Kept.refl _ _) | (with_reducible apply Kept.alloc) | (with_reducible apply Kept.drewN) | (with_reducible apply Kept.drew) | (with_reducible refine kept_at ?_ _ _) | (with_reducible refine kept_new ?_ _ _ (Nat.le_refl _)) | (with_reducible refine kept_new ?_ _ _ (by first | assumption | omega)))))))⟩
          · have HE := Aside0.mk ((if_neg (show ¬ (true = true ∧ isF LPA r = true) by rw [hi9]; simp)).symm.trans hR')
            rw [hm9] at CM
            dsimp only at CM
            clear hR' HO hdp hm9 hi9
            go_enter Tryz.func44, Tryz.ntmps44
            go_wp2_with fail
            (with_reducible refine (CK _ ?i).out.mono ?_)
            case i => exact HI.out.keep (below_alloc (Below.refl _ _) _)
            rintro e w1 ⟨rfl, hd1⟩
            have ST1 := Aside0.mk (ST0.out.later hd1.below)
            have pf := ST1.out.isp.parts
            have pf1 := pf.1
            have pf2 := pf.2
            clear pf hd1 CK ST0
            go_wp2_with fail
            (with_reducible refine (CT (some ⟨w1.heap.size, 0, none⟩) _ ?i ?j).out.mono ?_)
            case i => exact (ST1.out.isp.more (p + 1)).keep (below_alloc (Below.refl _ _) _)
            case j =>
              have hk1 := kinds_C (w1.setCell ⟨g, 2, none⟩ (.int .i64 (p + 1))) [1] (by decide)
              rw [show (w1.setCell ⟨g, 2, none⟩ (.int .i64 (p + 1))).heap.size = w1.heap.size from by simp [World.setCell]] at hk1
              exact hk1
            rintro e w2 ⟨rfl, hI2, hk2⟩
            have ST2 := Aside0.mk (((ST1.out.at (ST1.out.isp.more (p + 1)) (kept_at (Kept.refl _ _) 2 _)).later (below_alloc (Below.refl _ _) _)).at hI2 hk2)
            have ST3 := Aside0.mk (ST2.out.later (below_alloc (Below.refl _ _) (.cells #[.int .u8 t.f0, .string t.f1, .int .i64 t.f2] 51)))
            have HS := Aside0.mk (show (w2.alloc (.cells #[.int .u8 t.f0, .string t.f1, .int .i64 t.f2] 51)).heap.size = w2.heap.size + 1 from Array.size_push ..)
            clear hI2 hk2 CT pf1 pf2
            go_wp2_with fail
            (with_reducible refine (CO _ ?i).out.mono ?_)
            case i => exact ST3.out.cal HC.out
            rintro e w4 ⟨rfl, hb4⟩
            have ST4 := Aside0.mk (ST3.out.later hb4)
            have b6 := blk_kept (blk_new w2 (.cells #[.int .u8 t.f0, .string t.f1, .int .i64 t.f2] 51)) (Kept.of_below hb4 (fun _ => False)) id
            clear hb4 CO
            go_wp2_with fail
            (with_reducible refine (CM _ ?i).out.mono ?_)
            case i => exact ST4.out.isp
            rintro e w5 ⟨rfl, hI5, hk5⟩
            have ST5 := Aside0.mk (ST4.out.at hI5 hk5)
            have hg2 : ¬ (At g) w2.heap.size := fun h => by have h1 : w2.heap.size = g := h; have h2 := ST2.out.le; omega
            have q6 : w5.cell? ⟨w2.heap.size, 1, none⟩ = some (.string t.f1) := (blk_cell (blk_kept b6 hk5 hg2) 1).trans rfl
            clear hI5 hk5 CM b6 hg2
            have z0 := (blk_cell ST5.out.zero 0).trans (show zCells[0]? = some (Value.int .u8 0) from rfl)
            have z1 := (blk_cell ST5.out.zero 1).trans (show zCells[1]? = some (Value.string nil8) from rfl)
            have z2 := (blk_cell ST5.out.zero 2).trans (show zCells[2]? = some (Value.slice none 0 0) from rfl)
            have z3 := (blk_cell ST5.out.zero 3).trans (show zCells[3]? = some (Value.slice none 0 0) from rfl)
            have y0 := blk_frozen ST5.out.zero 0
            have y1 := blk_frozen ST5.out.zero 1
            have y2 := blk_frozen ST5.out.zero 2
            have y3 := blk_frozen ST5.out.zero 3
            go_wp2
            refine bodyPost_ret (results_ct rfl _ _ _ TX _ (0, 0) _ rfl (blk_put (blk_put (blk_put (blk_put ST5.out.zero 0 _ rfl) 1 _ rfl) 2 _ rfl) 3 _ rfl) Tryz.underlying25 rfl info_x) rfl ?_
            have hc := fun W2 h1 h2 => ST5.out.close (W2 := W2) h1 h2
            rw [← HE.out]
            exact ⟨_, _, rfl, (hc _ (by (repeat (first | (with_reducible exact Kept.refl _ _) | (with_reducible apply Kept.alloc) | (with_reducible apply Kept.drewN) | (with_reducible apply Kept.drew) | (with_reducible refine kept_at ?_ _ _) | (with_reducible refine kept_new ?_ _ _ (Nat.le_refl _)) | (with_reducible refine kept_new ?_ _ _ (by first | assumption | omega))))) (by (repeat (first | (with_reducible exact ST5.out.isp.low) | (with_reducible apply below_alloc) | (with_reducible apply pw_below_drewN) | (with_reducible apply below_drew1) | (with_reducible refine below_set ?_ (by first | assumption | omega)))))).1, (hc _ (by (repeat (first | (with_reducible exact Kept.refl _ _) | (with_reducible apply Kept.alloc) | (with_reducible apply Kept.drewN) | (with_reducible apply Kept.drew) | (with_reducible refine kept_at ?_ _ _) | (with_reducible refine kept_new ?_ _ _ (Nat.le_refl _)) | (with_reducible refine kept_new ?_ _ _ (by first | assumption | omega))))) (by (repeat (first | (with_reducible exact ST5.out.isp.low) | (with_reducible apply below_alloc) | (with_reducible apply pw_below_drewN) | (with_reducible apply below_drew1) | (with_reducible refine below_set ?_ (by first | assumption | omega)))))).2, gives_name _ _ _⟩
  · have hk := take_fail ht
    have hk' : (kindF L == 1) = false := beq_eq_false_iff_ne.2 hk
    rw [if_neg (fun h => hk h.1), ht] at hR
    have HE := Aside0.mk ((if_pos (show (z51, L, (110 : Int)).2.2 ≠ 0 by simp)).symm.trans hR)
    have CT := fun A W h hC => Aside0.mk (take_calls g [1] asks1 A 1 1 L a (p + 1) w0 W h rfl hC (Nat.le_refl _))
    rw [ht] at CT
    dsimp only at HE CT
    clear hR ht hdp HO
    generalize kindF L = kk at *
    go_enter Tryz.func44, Tryz.ntmps44
    go_wp2_with fail
    (with_reducible refine (CK _ ?i).out.mono ?_)
    case i => exact HI.out.keep (below_alloc (Below.refl _ _) _)
    rintro e w1 ⟨rfl, hd1⟩
    have ST1 := Aside0.mk (ST0.out.later hd1.below)
    have pf := ST1.out.isp.parts
    have pf1 := pf.1
    have pf2 := pf.2
    clear pf hd1 CK ST0
    go_wp2_with fail
    (with_reducible refine (CT (some ⟨w1.heap.size, 0, none⟩) _ ?i ?j).out.mono ?_)
    case i => exact (ST1.out.isp.more (p + 1)).keep (below_alloc (Below.refl _ _) _)
    case j =>
      have hk1 := kinds_C (w1.setCell ⟨g, 2, none⟩ (.int .i64 (p + 1))) [1] (by decide)
      rw [show (w1.setCell ⟨g, 2, none⟩ (.int .i64 (p + 1))).heap.size = w1.heap.size from by simp [World.setCell]] at hk1
      exact hk1
    rintro e w2 ⟨rfl, hI2, hk2⟩
    have ST2 := Aside0.mk (((ST1.out.at (ST1.out.isp.more (p + 1)) (kept_at (Kept.refl _ _) 2 _)).later (below_alloc (Below.refl _ _) _)).at hI2 hk2)
    have ST3 := Aside0.mk (ST2.out.later (below_alloc (Below.refl _ _) (.cells #[.int .u8 z51.f0, .string z51.f1, .int .i64 z51.f2] 51)))
    have HS := Aside0.mk (show (w2.alloc (.cells #[.int .u8 z51.f0, .string z51.f1, .int .i64 z51.f2] 51)).heap.size = w2.heap.size + 1 from Array.size_push ..)
    clear hI2 hk2 CT pf1 pf2
    have z0 := (blk_cell ST3.out.zero 0).trans (show zCells[0]? = some (Value.int .u8 0) from rfl)
    have z1 := (blk_cell ST3.out.zero 1).trans (show zCells[1]? = some (Value.string nil8) from rfl)
    have z2 := (blk_cell ST3.out.zero 2).trans (show zCells[2]? = some (Value.slice none 0 0) from rfl)
    have z3 := (blk_cell ST3.out.zero 3).trans (show zCells[3]? = some (Value.slice none 0 0) from rfl)
    have y0 := blk_frozen ST3.out.zero 0
    have y1 := blk_frozen ST3.out.zero 1
    have y2 := blk_frozen ST3.out.zero 2
    have y3 := blk_frozen ST3.out.zero 3
    go_wp2
    refine bodyPost_ret (results_ct rfl _ _ _ TX _ (0, 0) _ rfl (blk_put (blk_put (blk_put (blk_put ST3.out.zero 0 _ rfl) 1 _ rfl) 2 _ rfl) 3 _ rfl) Tryz.underlying25 rfl info_x) rfl ?_
    have hc := fun W2 h1 h2 => ST3.out.close (W2 := W2) h1 h2
    rw [← HE.out]
    exact ⟨_, _, rfl, (hc _ (by (repeat (first | (with_reducible exact Kept.refl _ _) | (with_reducible apply Kept.alloc) | (with_reducible apply Kept.drewN) | (with_reducible apply Kept.drew) | (with_reducible refine kept_at ?_ _ _) | (with_reducible refine kept_new ?_ _ _ (Nat.le_refl _)) | (with_reducible refine kept_new ?_ _ _ (by first | assumption | omega))))) (by (repeat (first | (with_reducible exact ST3.out.isp.low) | (with_reducible apply below_alloc) | (with_reducible apply pw_below_drewN) | (with_reducible apply below_drew1) | (with_reducible refine below_set ?_ (by first | assumption | omega)))))).1, (hc _ (by (repeat (first | (with_reducible exact Kept.refl _ _) | (with_reducible apply Kept.alloc) | (with_reducible apply Kept.drewN) | (with_reducible apply Kept.drew) | (with_reducible refine kept_at ?_ _ _) | (with_reducible refine kept_new ?_ _ _ (Nat.le_refl _)) | (with_reducible refine kept_new ?_ _ _ (by first | assumption | omega))))) (by (repeat (first | (with_reducible exact ST3.out.isp.low) | (with_reducible apply below_alloc) | (with_reducible apply pw_below_drewN) | (with_reducible apply below_drew1) | (with_reducible refine below_set ?_ (by first | assumption | omega)))))).2, gives_zero _ _⟩
theorem expr_calls (w0 : World) (g : Nat) (a : Int) (hC : Cal w0) : ∀ d : Nat, d ≤ 40 → ExprC w0 g a (41 - d) (exprF d)
  | 0, _ => exprG_calls w0 g a (41 - (0 : Nat)) true (by decide) _ hC (fun h => by cases h)
  | d + 1, hd => by
    have ih := expr_calls w0 g a hC d (by omega)
    refine exprG_calls w0 g a (41 - (d + 1 : Nat)) false (by simp; omega) _ hC (fun _ => ?_)
    intro op o0 o1 p L w hI p0 p1 R hR
    exact operands_calls w0 g a (41 - (d + 1 : Nat)) (by omega) (by omega) (exprF d) (by rw [show (41 : Int) - (d + 1 : Nat) + 1 = 41 - (d : Int) by omega]; exact ih) (expr_good d) op o0 o1 p L w hI p0 p1 R hR
end Go.Proofs.YtcinojbfjiohjaaGreatDoor.Pa
end

section
namespace Go.Proofs.YtcinojbfjiohjaaGreatDoor.Pa
open Go Go.RowKit Go.Proofs.YtcinojbfjiohjaaGreatDoor.PPrintTells Go.Proofs.YtcinojbfjiohjaaGreatDoor.Ex Go.Proofs.YtcinojbfjiohjaaGreatDoorW.PrintWords Go.Proofs.YtcinojbfjiohjaaGreatDoorW.PrintLast Go.Proofs.YtcinojbfjiohjaaGreatDoorW.PrintMore
set_option linter.unusedVariables false
set_option linter.unusedSimpArgs false
def placeF (a : Int) (L : List Tok) (e : Int) : Int × Int := if e = 0 then (if L = [] then (-1, 0) else (a - L.length, 110)) else (a - L.length, e)
theorem IsP.row {w0 W : World} {g : Nat} {L : List Tok} {a p : Int} (h : IsP w0 W g L a p) : ∃ A0 c0, W.cell? ⟨g, 0, none⟩ = some (.slice A0 L.length c0) ∧ W.cell? ⟨g, 1, none⟩ = some (.int .i64 a) ∧ L.length ≤ 9223372036854775807 := by
  obtain ⟨A0, c0, h1, h2, h3, h4, h5⟩ := h
  exact ⟨A0, c0, (blk_cell h1 0).trans rfl, (blk_cell h1 1).trans rfl, h4.2.1⟩
set_option maxHeartbeats 8000000 in
theorem place_calls (g : Nat) (L : List Tok) (a p e0 : Int) (w0 w : World) (hI : IsP w0 w g L a p) (a0 : 0 ≤ a) (a1 : a ≤ 9223372036854775807) :
    Calls Tryz.prog 45 #[.pointer (some ⟨g, 0, none⟩), .int .i64 e0] w fun e w' => e = .returned (.tuple #[.int .i64 (placeF a L e0).1, .int .i64 (placeF a L e0).2]) ∧ Drawn0 w w' := by
  obtain ⟨A0, c0, q0, q1, hm⟩ := hI.row
  obtain ⟨N, hN⟩ : ∃ N, N = L.length := ⟨_, rfl⟩
  have hP : placeF a L e0 = if e0 = 0 then (if N = 0 then (-1, 0) else (a - N, 110)) else (a - N, e0) := by
    unfold placeF
    rw [hN]
    simp only [List.length_eq_zero_iff]
  rw [hP]
  rw [← hN] at q0 hm
  clear hP hI hN
  by_cases he : e0 = 0
  · have e1 : (e0 == 0) = true := beq_iff_eq.2 he
    have e2 : (e0 != 0) = false := bne_eq_false_iff_eq.2 he
    rw [if_pos he]
    subst he
    by_cases hz : N = 0
    · subst hz
      rw [if_pos rfl]
      go_enter Tryz.func45, Tryz.ntmps45
      go_wp2
      repeat (go_quiet (fail); try go_wp2)
      go_ret2
      exact ⟨rfl, by repeat (first | exact Drawn0.refl _ | apply Drawn0.step)⟩
    · rw [if_neg hz]
      have n1 : 0 < N := by omega
      have n2 : (0 : Int) < (N : Int) := by omega
      go_enter Tryz.func45, Tryz.ntmps45
      go_wp2
      repeat (go_quiet (fail); try go_wp2)
      go_ret2
      exact ⟨rfl, by repeat (first | exact Drawn0.refl _ | apply Drawn0.step)⟩
  · have e1 : (e0 == 0) = false := beq_eq_false_iff_ne.2 he
    have e2 : (e0 != 0) = true := bne_iff_ne.2 he
    rw [if_neg he]
    go_enter Tryz.func45, Tryz.ntmps45
    go_wp2
    repeat (go_quiet (fail); try go_wp2)
    go_ret2
    exact ⟨rfl, by repeat (first | exact Drawn0.refl _ | apply Drawn0.step)⟩
def topF (a : Int) (r : Res) : X × Int × Int := if (placeF a r.l r.e).2 ≠ 0 then (zX, (placeF a r.l r.e).1, (placeF a r.l r.e).2) else (r.x, (placeF a r.l r.e).1, 0)
def parseE (L : List Tok) : X × Int × Int := topF L.length (exprF 40 0 L)
theorem Gives.later {w W W2 : World} {x : X} {v2 v3 : Value} (h : Gives w W x v2 v3) (hb : Below W.heap.size W W2) : Gives w W2 x v2 v3 := Kd.M_below h hb
end Go.Proofs.YtcinojbfjiohjaaGreatDoor.Pa
end

section
namespace Go.Proofs.YtcinojbfjiohjaaGreatDoor.Pa
open Go Go.RowKit Go.Proofs.YtcinojbfjiohjaaGreatDoor.PPrintTells Go.Proofs.YtcinojbfjiohjaaGreatDoor.Ex
set_option linter.unusedVariables false
set_option linter.unusedSimpArgs false
abbrev mC : Tok := ⟨4, COM, 0⟩
abbrev mL : Tok := ⟨4, LPA, 0⟩
abbrev mR : Tok := ⟨4, RPA, 0⟩
abbrev nTok (v : Int) : Tok := ⟨2, nil8, v⟩
abbrev wTok (s : ByteArray) : Tok := ⟨1, s, 0⟩
def opW (o : Int) : ByteArray := opsL.getD (o.toNat - 1) nil8
def seqW : List (List Tok) → List Tok
  | [] => [mR]
  | [a] => a ++ [mR]
  | a :: b :: r => a ++ mC :: seqW (b :: r)
mutual
def wordsX : X → List Tok
  | ⟨o, n, ns, xs⟩ => if o = 0 ∨ 13 ≤ o then [wTok n] else wTok (opW o) :: mL :: seqW (ns.map (fun v => [nTok v]) ++ wordsL xs)
def wordsL : List X → List (List Tok)
  | [] => []
  | y :: ys => wordsX y :: wordsL ys
end
theorem words_eq (x : X) : wordsX x = if x.f0 = 0 ∨ 13 ≤ x.f0 then [wTok x.f1] else wTok (opW x.f0) :: mL :: seqW (x.f2.map (fun v => [nTok v]) ++ wordsL x.f3) := by cases x; rw [wordsX]
theorem wordsL_nil : wordsL [] = [] := by rw [wordsL]
theorem wordsL_cons (y : X) (ys : List X) : wordsL (y :: ys) = wordsX y :: wordsL ys := by rw [wordsL]
theorem op_word : ∀ o : Int, 1 ≤ o → o ≤ 12 → opF (opW o) = (o, true) := by
  intro o h0 h1
  rcases (show o = 1 ∨ o = 2 ∨ o = 3 ∨ o = 4 ∨ o = 5 ∨ o = 6 ∨ o = 7 ∨ o = 8 ∨ o = 9 ∨ o = 10 ∨ o = 11 ∨ o = 12 by omega) with rfl | rfl | rfl | rfl | rfl | rfl | rfl | rfl | rfl | rfl | rfl | rfl <;> decide +kernel
theorem many_ge : ∀ o : Int, 1 ≤ o → o ≤ 12 → 0 < manyOf o ∧ ((manyOf o : Nat) : Int) = numsOf o + argsOf o ∧ 0 ≤ numsOf o ∧ 0 ≤ argsOf o := by
  intro o h0 h1
  rcases (show o = 1 ∨ o = 2 ∨ o = 3 ∨ o = 4 ∨ o = 5 ∨ o = 6 ∨ o = 7 ∨ o = 8 ∨ o = 9 ∨ o = 10 ∨ o = 11 ∨ o = 12 by omega) with rfl | rfl | rfl | rfl | rfl | rfl | rfl | rfl | rfl | rfl | rfl | rfl <;> decide +kernel
theorem mark_yes (s : ByteArray) (R : List Tok) : markF s (⟨4, s, 0⟩ :: R) = (R, 0) := if_pos (by show (decide ((4 : Int) = 4) && (s.toList == s.toList)) = true; simp)
theorem is_yes (s : ByteArray) (R : List Tok) : isF s (⟨4, s, 0⟩ :: R) = true := by show (decide ((4 : Int) = 4) && (s.toList == s.toList)) = true; simp
theorem isLPA_C (R : List Tok) : isF LPA (mC :: R) = false := by show (decide ((4 : Int) = 4) && (COM.toList == LPA.toList)) = false; decide +kernel
theorem isLPA_R (R : List Tok) : isF LPA (mR :: R) = false := by show (decide ((4 : Int) = 4) && (RPA.toList == LPA.toList)) = false; decide +kernel
theorem name_step (d : Nat) (p : Int) (hp : p < 2000) (s : ByteArray) (R : List Tok) (h : ¬ ((opF s).2 = true ∧ isF LPA R = true)) :
    exprF (d + 1) p (wTok s :: R) = ⟨⟨0, s, [], []⟩, R, p + 1, 0⟩ := by
  show exprG false (exprF d) p _ = _
  unfold exprG
  have ht : takeF [1] (wTok s :: R) = (wTok s, R, 0) := by unfold takeF; exact if_pos ⟨by simp, by simp⟩
  rw [if_neg (by intro h9; rcases h9.2 with h8 | h8 <;> first | omega | cases h8), ht, if_neg (by simp)]
  dsimp only
  rw [if_neg h]
theorem op_step (d : Nat) (p : Int) (hp : p < 2000) (o : Int) (h0 : 1 ≤ o) (h1 : o ≤ 12) (R : List Tok) :
    exprF (d + 1) p (wTok (opW o) :: mL :: R) = stepsF (exprF d) (numsOf o).toNat (manyOf o) (manyOf o) ⟨o, nil8, [], []⟩ (p + 1) R := by
  show exprG false (exprF d) p _ = _
  unfold exprG
  have ht : takeF [1] (wTok (opW o) :: mL :: R) = (wTok (opW o), mL :: R, 0) := by unfold takeF; exact if_pos ⟨by simp, by simp⟩
  rw [if_neg (by intro h9; rcases h9.2 with h8 | h8 <;> first | omega | cases h8), ht, if_neg (by simp)]
  dsimp only
  rw [op_word o h0 h1, if_pos ⟨rfl, is_yes LPA R⟩]
  rfl
theorem empty_step (d : Nat) (p : Int) : exprF d p [] = ⟨zX, [], p + 1, 110⟩ := by
  cases d with
  | zero =>
    show exprG true _ p [] = _
    unfold exprG
    rw [if_neg (by intro h; exact absurd h.1 (by decide)), show takeF [1] [] = (z51, [], 110) from rfl, if_pos (by simp)]
  | succ d =>
    show exprG false _ p [] = _
    unfold exprG
    rw [if_neg (by intro h; exact absurd h.1 (by decide)), show takeF [1] [] = (z51, [], 110) from rfl, if_pos (by simp)]
theorem seq_cons (a : List Tok) (r : List (List Tok)) : seqW (a :: r) = if r = [] then a ++ [mR] else a ++ mC :: seqW r := by
  cases r with
  | nil => rfl
  | cons b r => rw [if_neg (by simp)]; rfl
structure Told (d : Nat) (x : X) : Prop where
  all : ∀ (p : Int) (R : List Tok), 0 ≤ p → p + cnt x ≤ 2000 → (x.f0 = 0 → isF LPA R = false) → exprF d p (wordsX x ++ R) = ⟨x, R, p + cnt x, 0⟩
  cut : ∀ (p : Int) (k : Nat), 0 ≤ p → p + cnt x ≤ 2000 → k < (wordsX x).length → (k = 1 → ∃ s, exprF d p ((wordsX x).take k) = ⟨⟨0, s, [], []⟩, [], p + 1, 0⟩ ∧ (wordsX x).head? = some (wTok s)) ∧ (k ≠ 1 → (exprF d p ((wordsX x).take k)).e = 110 ∧ (exprF d p ((wordsX x).take k)).l = [])
theorem steps_words (d : Nat) (o : Int) (nums many : Nat) : ∀ (m : Nat) (ns : List Int) (xs : List X) (f2 : List Int) (f3 : List X) (p : Int) (R : List Tok),
    m = ns.length + xs.length → m ≤ many → 0 < m → (ns ≠ [] → many - m < nums) → (ns = [] → nums ≤ many - m) → (ns ≠ [] → many - m + ns.length = nums) → (∀ y ∈ xs, Told d y) → 0 ≤ p → p + cntL xs ≤ 2000 →
    stepsF (exprF d) nums many m ⟨o, nil8, f2, f3⟩ p (seqW (ns.map (fun v => [nTok v]) ++ wordsL xs) ++ R) = ⟨⟨o, nil8, f2 ++ ns, f3 ++ xs⟩, R, p + cntL xs, 0⟩ := by
  intro m
  induction m with
  | zero => intro ns xs f2 f3 p R _ _ h; omega
  | succ m ih =>
    intro ns xs f2 f3 p R hm hle _ h1 h2 h3 hT hp0 hp1
    have hmk : (if m = 0 then RPA else COM) = if m = 0 then RPA else COM := rfl
    cases ns with
    | cons v ns =>
      have hd : decide (many - (m + 1) < nums) = true := decide_eq_true (h1 (by simp))
      rw [stepsF, hd]
      rw [List.map_cons, List.cons_append, seq_cons]
      have hnum : ∀ Q, itemF (exprF d) true ⟨o, nil8, f2, f3⟩ p (nTok v :: Q) = ⟨⟨o, nil8, f2 ++ [v], f3⟩, Q, p, 0⟩ := fun Q => by
        unfold itemF
        rw [if_pos rfl, show numF (nTok v :: Q) = (nTok v, Q, 0) from by unfold numF takeF; exact if_pos ⟨by simp, by simp⟩]
      rw [List.length_cons] at hm h3
      by_cases hz : m = 0
      · have hns : ns = [] := List.eq_nil_of_length_eq_zero (by omega)
        have hxs : xs = [] := List.eq_nil_of_length_eq_zero (by omega)
        subst hns
        subst hxs
        rw [if_pos (show List.map (fun v => [nTok v]) ([] : List Int) ++ wordsL [] = [] from wordsL_nil), if_pos hz, hz]
        rw [show [nTok v] ++ [mR] ++ R = nTok v :: mR :: R from rfl, hnum, if_neg (by simp)]
        dsimp only
        rw [mark_yes RPA R, if_neg (by simp), stepsF, cntL_nil]
        simp
      · have hne : ¬ (ns.map (fun v => [nTok v]) ++ wordsL xs = []) := by
          intro h
          have h := congrArg List.length h
          rw [List.length_append, List.length_map] at h
          have hwl : ∀ l : List X, (wordsL l).length = l.length := fun l => by
            induction l with
            | nil => rw [wordsL_nil]; rfl
            | cons y l ih => rw [wordsL_cons, List.length_cons, List.length_cons, ih]
          rw [hwl] at h
          have h9 : ns.length + xs.length = 0 := h
          omega
        rw [if_neg hne, if_neg hz]
        rw [show [nTok v] ++ mC :: seqW (ns.map (fun v => [nTok v]) ++ wordsL xs) ++ R = nTok v :: mC :: (seqW (ns.map (fun v => [nTok v]) ++ wordsL xs) ++ R) from rfl, hnum, if_neg (by simp)]
        dsimp only
        rw [mark_yes COM, if_neg (by simp)]
        dsimp only
        have h3' := h3 (by simp)
        rw [ih ns xs (f2 ++ [v]) f3 p R (by omega) (by omega) (by omega) (fun hn => by have : 0 < ns.length := List.length_pos_iff.2 hn; omega) (fun hn => by subst hn; rw [List.length_nil] at h3'; omega) (fun hn => by omega) hT hp0 hp1]
        rw [List.append_assoc]
        rfl
    | nil =>
      cases xs with
      | nil => simp at hm
      | cons y xs =>
        have hd : decide (many - (m + 1) < nums) = false := decide_eq_false (by have := h2 rfl; omega)
        rw [stepsF, hd]
        rw [List.map_nil, List.nil_append, wordsL_cons, seq_cons]
        rw [cntL_cons] at hp1 ⊢
        have hcp := cnt_pos y
        have hitem : ∀ Q, isF LPA Q = false → itemF (exprF d) false ⟨o, nil8, f2, f3⟩ p (wordsX y ++ Q) = ⟨⟨o, nil8, f2, f3 ++ [y]⟩, Q, p + cnt y, 0⟩ := fun Q hQ => by
          unfold itemF
          rw [if_neg (by simp), (hT y (by simp)).all p Q hp0 (by omega) (fun _ => hQ)]
        rw [List.length_cons, List.length_nil] at hm
        by_cases hz : m = 0
        · have hxs : xs = [] := List.eq_nil_of_length_eq_zero (by omega)
          subst hxs
          rw [if_pos wordsL_nil, if_pos hz, hz]
          rw [show wordsX y ++ [mR] ++ R = wordsX y ++ mR :: R by rw [List.append_assoc]; rfl, hitem _ (isLPA_R R), if_neg (by simp)]
          dsimp only
          rw [mark_yes RPA R, if_neg (by simp), stepsF, cntL_nil, List.append_nil]
          simp
        · have hne : ¬ (wordsL xs = []) := by
            cases xs with
            | nil => simp at hm; omega
            | cons z xs => rw [wordsL_cons]; simp
          rw [if_neg hne, if_neg hz]
          rw [show wordsX y ++ mC :: seqW (wordsL xs) ++ R = wordsX y ++ mC :: (seqW (wordsL xs) ++ R) by rw [List.append_assoc]; rfl, hitem _ (isLPA_C _), if_neg (by simp)]
          dsimp only
          rw [mark_yes COM, if_neg (by simp)]
          dsimp only
          have ih9 := ih [] xs f2 (f3 ++ [y]) (p + cnt y) R (by simp; omega) (by omega) (by omega) (fun hn => absurd rfl hn) (fun _ => by have := h2 rfl; omega) (fun hn => absurd rfl hn) (fun z hz => hT z (by simp [hz])) (by omega) (by omega)
          rw [List.map_nil, List.nil_append] at ih9
          rw [ih9]
          rw [List.append_assoc]
          simp only [List.append_nil, List.cons_append, List.nil_append, Res.mk.injEq, true_and, and_true]
          omega
theorem steps_cut (d : Nat) (o : Int) (nums many : Nat) : ∀ (m : Nat) (ns : List Int) (xs : List X) (f2 : List Int) (f3 : List X) (p : Int) (k : Nat),
    m = ns.length + xs.length → m ≤ many → 0 < m → (ns ≠ [] → many - m < nums) → (ns = [] → nums ≤ many - m) → (ns ≠ [] → many - m + ns.length = nums) → (∀ y ∈ xs, Told d y) → 0 ≤ p → p + cntL xs ≤ 2000 → k < (seqW (ns.map (fun v => [nTok v]) ++ wordsL xs)).length →
    (stepsF (exprF d) nums many m ⟨o, nil8, f2, f3⟩ p ((seqW (ns.map (fun v => [nTok v]) ++ wordsL xs)).take k)).e = 110 ∧ (stepsF (exprF d) nums many m ⟨o, nil8, f2, f3⟩ p ((seqW (ns.map (fun v => [nTok v]) ++ wordsL xs)).take k)).l = [] := by
  intro m
  induction m with
  | zero => intro ns xs f2 f3 p k _ _ h; omega
  | succ m ih =>
    intro ns xs f2 f3 p k hm hle _ h1 h2 h3 hT hp0 hp1 hk
    -- an item that is cut, or whole with nothing behind
    have item_err : ∀ num L, (itemF (exprF d) num ⟨o, nil8, f2, f3⟩ p L).e = 110 → (itemF (exprF d) num ⟨o, nil8, f2, f3⟩ p L).l = [] → decide (many - (m + 1) < nums) = num →
        (stepsF (exprF d) nums many (m + 1) ⟨o, nil8, f2, f3⟩ p L).e = 110 ∧ (stepsF (exprF d) nums many (m + 1) ⟨o, nil8, f2, f3⟩ p L).l = [] := fun num L he hl hd => by
      rw [stepsF, hd, if_pos (by rw [he]; decide)]
      exact ⟨he, hl⟩
    have item_end : ∀ num L, (itemF (exprF d) num ⟨o, nil8, f2, f3⟩ p L).e = 0 → (itemF (exprF d) num ⟨o, nil8, f2, f3⟩ p L).l = [] → decide (many - (m + 1) < nums) = num →
        (stepsF (exprF d) nums many (m + 1) ⟨o, nil8, f2, f3⟩ p L).e = 110 ∧ (stepsF (exprF d) nums many (m + 1) ⟨o, nil8, f2, f3⟩ p L).l = [] := fun num L he hl hd => by
      have hmk : ∀ s, markF s [] = ([], 110) := fun s => rfl
      rw [stepsF, hd, if_neg (by rw [he]; simp), hl, hmk, if_pos (by simp)]
      exact ⟨rfl, rfl⟩
    cases ns with
    | cons v ns =>
      have hd : decide (many - (m + 1) < nums) = true := decide_eq_true (h1 (by simp))
      have hnum : ∀ Q, itemF (exprF d) true ⟨o, nil8, f2, f3⟩ p (nTok v :: Q) = ⟨⟨o, nil8, f2 ++ [v], f3⟩, Q, p, 0⟩ := fun Q => by
        unfold itemF
        rw [if_pos rfl, show numF (nTok v :: Q) = (nTok v, Q, 0) from by unfold numF takeF; exact if_pos ⟨by simp, by simp⟩]
      have hnil : itemF (exprF d) true ⟨o, nil8, f2, f3⟩ p [] = ⟨⟨o, nil8, f2 ++ [0], f3⟩, [], p, 110⟩ := by
        unfold itemF
        rw [if_pos rfl]
        rfl
      rw [List.map_cons, List.cons_append, seq_cons] at hk ⊢
      rw [List.length_cons] at hm h3
      cases k with
      | zero =>
        rw [List.take_zero]
        exact item_err true [] (by rw [hnil]) (by rw [hnil]) hd
      | succ k =>
        cases k with
        | zero =>
          have ht : (if ns.map (fun v => [nTok v]) ++ wordsL xs = [] then [nTok v] ++ [mR] else [nTok v] ++ mC :: seqW (ns.map (fun v => [nTok v]) ++ wordsL xs)).take 1 = [nTok v] := by split <;> rfl
          rw [ht]
          exact item_end true _ (by rw [hnum]) (by rw [hnum]) hd
        | succ k =>
          by_cases hz : ns.map (fun v => [nTok v]) ++ wordsL xs = []
          · rw [if_pos hz] at hk
            simp at hk
            omega
          · rw [if_neg hz] at hk ⊢
            have hm0 : ¬ (m = 0) := by
              intro h0
              apply hz
              have a1 : ns = [] := List.eq_nil_of_length_eq_zero (by omega)
              have a2 : xs = [] := List.eq_nil_of_length_eq_zero (by omega)
              subst a1; subst a2
              rw [wordsL_nil]; rfl
            rw [show ([nTok v] ++ mC :: seqW (ns.map (fun v => [nTok v]) ++ wordsL xs)).take (k + 1 + 1) = nTok v :: mC :: (seqW (ns.map (fun v => [nTok v]) ++ wordsL xs)).take k from rfl]
            rw [stepsF, hd, hnum, if_neg (by simp), if_neg hm0]
            dsimp only
            rw [mark_yes COM, if_neg (by simp)]
            dsimp only
            have h3' := h3 (by simp)
            exact ih ns xs (f2 ++ [v]) f3 p k (by omega) (by omega) (by omega) (fun hn => by have : 0 < ns.length := List.length_pos_iff.2 hn; omega) (fun hn => by subst hn; rw [List.length_nil] at h3'; omega) (fun hn => by omega) hT hp0 hp1 (by simp at hk ⊢; omega)
    | nil =>
      cases xs with
      | nil => simp at hm
      | cons y xs =>
        have hd : decide (many - (m + 1) < nums) = false := decide_eq_false (by have := h2 rfl; omega)
        rw [List.map_nil, List.nil_append, wordsL_cons, seq_cons] at hk ⊢
        rw [cntL_cons] at hp1
        have hcp := cnt_pos y
        have hT1 := hT y (by simp)
        have hitem : ∀ Q, isF LPA Q = false → itemF (exprF d) false ⟨o, nil8, f2, f3⟩ p (wordsX y ++ Q) = ⟨⟨o, nil8, f2, f3 ++ [y]⟩, Q, p + cnt y, 0⟩ := fun Q hQ => by
          unfold itemF
          rw [if_neg (by simp), hT1.all p Q hp0 (by omega) (fun _ => hQ)]
        have hpart : ∀ L, itemF (exprF d) false ⟨o, nil8, f2, f3⟩ p L = ⟨⟨o, nil8, f2, f3 ++ [(exprF d p L).x]⟩, (exprF d p L).l, (exprF d p L).p, (exprF d p L).e⟩ := fun L => by
          unfold itemF
          rw [if_neg (by simp)]
        rw [List.length_cons, List.length_nil] at hm
        by_cases hky : k < (wordsX y).length
        · have ht : (if wordsL xs = [] then wordsX y ++ [mR] else wordsX y ++ mC :: seqW (wordsL xs)).take k = (wordsX y).take k := by
            split <;> rw [List.take_append_of_le_length (by omega)]
          rw [ht]
          obtain ⟨c1, c2⟩ := hT1.cut p k hp0 (by omega) hky
          by_cases hk1 : k = 1
          · obtain ⟨s, hs, _⟩ := c1 hk1
            exact item_end false _ (by rw [hpart, hs]) (by rw [hpart, hs]) hd
          · obtain ⟨he, hl⟩ := c2 hk1
            exact item_err false _ (by rw [hpart]; exact he) (by rw [hpart]; exact hl) hd
        · obtain ⟨j, rfl⟩ : ∃ j, k = (wordsX y).length + j := ⟨k - (wordsX y).length, by omega⟩
          cases j with
          | zero =>
            have ht : (if wordsL xs = [] then wordsX y ++ [mR] else wordsX y ++ mC :: seqW (wordsL xs)).take ((wordsX y).length + 0) = wordsX y ++ [] := by
              split <;> (rw [List.take_append_of_le_length (by omega)]; simp)
            rw [ht]
            exact item_end false _ (by rw [hitem [] rfl]) (by rw [hitem [] rfl]) hd
          | succ j =>
            by_cases hz : wordsL xs = []
            · rw [if_pos hz] at hk
              simp at hk
            · rw [if_neg hz] at hk ⊢
              have hm0 : ¬ (m = 0) := by
                intro h0
                apply hz
                have a2 : xs = [] := List.eq_nil_of_length_eq_zero (by omega)
                subst a2
                exact wordsL_nil
              have ht : (wordsX y ++ mC :: seqW (wordsL xs)).take ((wordsX y).length + (j + 1)) = wordsX y ++ mC :: (seqW (wordsL xs)).take j := by
                rw [List.take_length_add_append]
                rfl
              rw [ht, stepsF, hd, hitem _ (isLPA_C _), if_neg (by simp), if_neg hm0]
              dsimp only
              rw [mark_yes COM, if_neg (by simp)]
              dsimp only
              have ih9 := ih [] xs f2 (f3 ++ [y]) (p + cnt y) j (by simp; omega) (by omega) (by omega) (fun hn => absurd rfl hn) (fun _ => by have := h2 rfl; omega) (fun hn => absurd rfl hn) (fun z hz => hT z (by simp [hz])) (by omega) (by omega)
              rw [List.map_nil, List.nil_append] at ih9
              exact ih9 (by simp at hk; omega)
theorem dep_child {xs : List X} {y : X} (h : y ∈ xs) : dep y ≤ depL xs := by
  induction xs with
  | nil => cases h
  | cons z xs ih =>
    rw [depL_cons]
    rcases List.mem_cons.1 h with rfl | h
    · omega
    · have := ih h; omega
theorem allRL_in {xs : List X} (h : allRL xs = true) {y : X} (hy : y ∈ xs) : allR y = true := by
  induction xs with
  | nil => cases hy
  | cons z xs ih =>
    rw [allRL_cons, Bool.and_eq_true] at h
    rcases List.mem_cons.1 hy with rfl | hy
    · exact h.1
    · exact ih h.2 hy
theorem nil8_of {s : ByteArray} (h : s.toList.isEmpty = true) : s = nil8 := by
  have h1 := (empty_iff s).1 h
  cases s with
  | mk a =>
    have : a = #[] := Array.toList_eq_nil_iff.1 h1
    rw [this]
theorem right_cases {x : X} (hwf : Wf x) (hR : allR x = true) : (∃ n, x = ⟨0, n, [], []⟩) ∨ (∃ o ns xs, x = ⟨o, nil8, ns, xs⟩ ∧ 1 ≤ o ∧ o ≤ 12 ∧ (ns.length : Int) = numsOf o ∧ (xs.length : Int) = argsOf o ∧ allRL xs = true) := by
  rw [allR_eq, Bool.and_eq_true] at hR
  obtain ⟨h1, h2⟩ := hR
  have h0 := hwf.op.1
  obtain ⟨o, n, ns, xs⟩ := x
  unfold rightB at h1
  simp only [Bool.and_eq_true, decide_eq_true_eq] at h1
  obtain ⟨⟨⟨h3, h4⟩, h5⟩, h6⟩ := h1
  have h0 : 0 ≤ o := h0
  by_cases ho : o = 0
  · subst ho
    have n0 : numsOf 0 = 0 := by decide
    have a0 : argsOf 0 = 0 := by decide
    rw [n0] at h4
    rw [a0] at h5
    have hn : ns = [] := List.eq_nil_of_length_eq_zero (by omega)
    have hx : xs = [] := List.eq_nil_of_length_eq_zero (by omega)
    subst hn; subst hx
    exact .inl ⟨n, rfl⟩
  · rw [if_neg ho] at h6
    exact .inr ⟨o, ns, xs, by rw [nil8_of h6], by omega, h3, h4, h5, h2⟩
theorem told (N : Nat) : ∀ (x : X), cnt x ≤ N → Wf x → allR x = true → ∀ d, dep x ≤ d → Told d x := by
  induction N with
  | zero => intro x hx; have := cnt_pos x; omega
  | succ N ih =>
    intro x hN hwf hR d hd
    have hdx := dep_eq x
    obtain ⟨d, rfl⟩ : ∃ d', d = d' + 1 := ⟨d - 1, by omega⟩
    have hcx := cnt_eq x
    rcases right_cases hwf hR with ⟨n, rfl⟩ | ⟨o, ns, xs, rfl, h1, h2, h4, h5, hRL⟩
    · have hw : wordsX ⟨0, n, [], []⟩ = [wTok n] := by rw [words_eq]; exact if_pos (.inl rfl)
      have hc : cnt ⟨0, n, [], []⟩ = 1 := by rw [cnt_eq, cntL_nil]
      refine ⟨fun p R hp0 hp1 hR => ?_, fun p k hp0 hp1 hk => ?_⟩
      · rw [hw, hc]
        rw [hc] at hp1
        exact name_step d p (by omega) n R (fun h => by rw [hR rfl] at h; cases h.2)
      · rw [hw] at hk ⊢
        obtain rfl : k = 0 := by simpa using hk
        rw [List.take_zero, empty_step]
        exact ⟨fun h => (by cases h), fun _ => ⟨rfl, rfl⟩⟩
    · have hw : wordsX ⟨o, nil8, ns, xs⟩ = wTok (opW o) :: mL :: seqW (ns.map (fun v => [nTok v]) ++ wordsL xs) := by rw [words_eq]; exact if_neg (by show ¬ (o = 0 ∨ 13 ≤ o); omega)
      have hc : cnt ⟨o, nil8, ns, xs⟩ = 1 + cntL xs := cnt_eq _
      have hdd : dep ⟨o, nil8, ns, xs⟩ = 1 + depL xs := dep_eq _
      obtain ⟨m0, m1, m2, m3⟩ := many_ge o h1 h2
      have hm : manyOf o = ns.length + xs.length := by omega
      have hT : ∀ y ∈ xs, Told d y := fun y hy => ih y (by have := cnt_mem hy; omega) (hwf.child (x := ⟨o, nil8, ns, xs⟩) hy) (allRL_in hRL hy) d (by have := dep_child hy; omega)
      have q1 : ns ≠ [] → manyOf o - manyOf o < (numsOf o).toNat := fun hn => by have : 0 < ns.length := List.length_pos_iff.2 hn; omega
      have q2 : ns = [] → (numsOf o).toNat ≤ manyOf o - manyOf o := fun hn => by subst hn; rw [List.length_nil] at h4; omega
      have q3 : ns ≠ [] → manyOf o - manyOf o + ns.length = (numsOf o).toNat := fun hn => by omega
      refine ⟨fun p R hp0 hp1 _ => ?_, fun p k hp0 hp1 hk => ?_⟩
      · rw [hw, hc]
        rw [hc] at hp1
        rw [show wTok (opW o) :: mL :: seqW (ns.map (fun v => [nTok v]) ++ wordsL xs) ++ R = wTok (opW o) :: mL :: (seqW (ns.map (fun v => [nTok v]) ++ wordsL xs) ++ R) from rfl]
        rw [op_step d p (by omega) o h1 h2, steps_words d o _ (manyOf o) (manyOf o) ns xs [] [] (p + 1) R hm (Nat.le_refl _) m0 q1 q2 q3 hT (by omega) (by omega)]
        simp only [List.nil_append, Res.mk.injEq, true_and, and_true]
        omega
      · rw [hw] at hk ⊢
        rw [hc] at hp1
        cases k with
        | zero =>
          rw [List.take_zero, empty_step]
          exact ⟨fun h => (by cases h), fun _ => ⟨rfl, rfl⟩⟩
        | succ k =>
          cases k with
          | zero =>
            refine ⟨fun _ => ⟨opW o, ?_, rfl⟩, fun h => absurd rfl h⟩
            exact name_step d p (by omega) (opW o) [] (fun h => by cases h.2)
          | succ k =>
            refine ⟨fun h => by omega, fun _ => ?_⟩
            rw [show (wTok (opW o) :: mL :: seqW (ns.map (fun v => [nTok v]) ++ wordsL xs)).take (k + 1 + 1) = wTok (opW o) :: mL :: (seqW (ns.map (fun v => [nTok v]) ++ wordsL xs)).take k from rfl]
            rw [op_step d p (by omega) o h1 h2]
            exact steps_cut d o _ (manyOf o) (manyOf o) ns xs [] [] (p + 1) k hm (Nat.le_refl _) m0 q1 q2 q3 hT (by omega) (by omega) (by simp at hk ⊢; omega)
theorem words_len {x : X} (hwf : Wf x) (hR : allR x = true) : 0 < (wordsX x).length ∧ (x.f0 = 0 ↔ (wordsX x).length = 1) := by
  rcases right_cases hwf hR with ⟨n, rfl⟩ | ⟨o, ns, xs, rfl, h1, h2, h4, h5, hRL⟩
  · have hw : wordsX ⟨0, n, [], []⟩ = [wTok n] := by rw [words_eq]; exact if_pos (.inl rfl)
    rw [hw]
    exact ⟨by simp, by simp⟩
  · have hw : wordsX ⟨o, nil8, ns, xs⟩ = wTok (opW o) :: mL :: seqW (ns.map (fun v => [nTok v]) ++ wordsL xs) := by rw [words_eq]; exact if_neg (by show ¬ (o = 0 ∨ 13 ≤ o); omega)
    rw [hw]
    exact ⟨by simp, by show o = 0 ↔ _; simp; omega⟩
theorem right_parts {x : X} (h : RightB x = true) : allR x = true ∧ dep x ≤ 40 ∧ cnt x ≤ 2000 := by
  unfold RightB at h
  simpa [and_assoc] using h
theorem back_all {x : X} (hwf : Wf x) (h : RightB x = true) : parseE (wordsX x) = (x, -1, 0) := by
  obtain ⟨h1, h2, h3⟩ := right_parts h
  have hT := (told (cnt x) x (Nat.le_refl _) hwf h1 40 h2).all 0 [] (by omega) (by omega) (fun _ => rfl)
  rw [List.append_nil] at hT
  have hE : parseE (wordsX x) = topF (wordsX x).length (exprF 40 0 (wordsX x)) := rfl
  rw [hE, hT]
  rfl
end Go.Proofs.YtcinojbfjiohjaaGreatDoor.Pa
end

section

end

section
namespace Go.Proofs.YtcinojbfjiohjaaGreatDoor.Ex
open Go Go.RowKit Go.Proofs.YtcinojbfjiohjaaGreatDoor.PPrintTells Go.Proofs.YtcinojbfjiohjaaGreatDoorW.PrintWords Go.Proofs.YtcinojbfjiohjaaGreatDoorW.PrintLast Go.Proofs.YtcinojbfjiohjaaGreatDoorW.PrintMore
set_option linter.unusedVariables false
set_option linter.unusedSimpArgs false
def eqB (a b : ByteArray) : Bool := a.data.toList == b.data.toList
theorem eqB_iff (a b : ByteArray) : eqB a b = true ↔ a = b := by
  unfold eqB
  rw [beq_iff_eq]
  exact ⟨fun h => WideShapes.bytes_inj h, fun h => by rw [h]⟩
theorem rd_at (ys : List X) (i : Nat) (hi : i < ys.length) : rd_T25 ys (i : Int) = ys[i] := by
  unfold rd_T25
  rw [Int.toNat_natCast, List.getD_eq_getElem?_getD, List.getElem?_eq_getElem hi]
  rfl
mutual
def sameX : X → X → Bool
  | ⟨o, n, ns, xs⟩, ⟨o', n', ns', xs'⟩ => decide (o = o') && eqB n n' && decide (ns = ns') && sameL xs xs'
def sameL : List X → List X → Bool
  | [], [] => true
  | y :: ys, z :: zs => sameX y z && sameL ys zs
  | [], _ :: _ => false
  | _ :: _, [] => false
end
theorem sameX_eq (x y : X) : sameX x y = (decide (x.f0 = y.f0) && eqB x.f1 y.f1 && decide (x.f2 = y.f2) && sameL x.f3 y.f3) := by cases x; cases y; rw [sameX]
theorem sameL_nil : sameL [] [] = true := by rw [sameL]
theorem sameL_cons (y z : X) (ys zs : List X) : sameL (y :: ys) (z :: zs) = (sameX y z && sameL ys zs) := by rw [sameL]
theorem sameL_len {xs ys : List X} (h : xs.length ≠ ys.length) : sameL xs ys = false := by
  induction xs generalizing ys with
  | nil =>
    cases ys with
    | nil => exact absurd rfl h
    | cons z zs => rw [sameL]
  | cons y xs ih =>
    cases ys with
    | nil => rw [sameL]
    | cons z zs => rw [sameL_cons, ih (fun he => h (by simp [he])), Bool.and_false]
theorem sameL_snoc (xs ys : List X) (k : Nat) (hk : k < xs.length) (hj : k < ys.length) : sameL (xs.take (k + 1)) (ys.take (k + 1)) = (sameL (xs.take k) (ys.take k) && sameX xs[k] ys[k]) := by
  induction xs generalizing ys k with
  | nil => simp at hk
  | cons y xs ih =>
    cases ys with
    | nil => simp at hj
    | cons z ys =>
      cases k with
      | zero =>
        show sameL [y] [z] = (sameL [] [] && sameX y z)
        rw [sameL_cons, sameL_nil, Bool.and_true, Bool.true_and]
      | succ k =>
        show sameL (y :: xs.take (k + 1)) (z :: ys.take (k + 1)) = (sameL (y :: xs.take k) (z :: ys.take k) && sameX (xs[k]'(by simpa using hk)) (ys[k]'(by simpa using hj)))
        rw [sameL_cons, sameL_cons, ih ys k (by simpa using hk) (by simpa using hj), Bool.and_assoc]
theorem sameL_not {xs ys : List X} {k : Nat} (hk : k < xs.length) (hj : k < ys.length) (h : sameX xs[k] ys[k] = false) : sameL xs ys = false := by
  induction xs generalizing ys k with
  | nil => simp at hk
  | cons y xs ih =>
    cases ys with
    | nil => simp at hj
    | cons z ys =>
      rw [sameL_cons]
      cases k with
      | zero => rw [show sameX y z = false from h, Bool.false_and]
      | succ k => rw [ih (k := k) (by simpa using hk) (by simpa using hj) h, Bool.and_false]
theorem eqI_l0 (a b : List Int) (hl : a.length = b.length) (hm : a.length ≤ 9223372036854775807) : ∀ (n i : Nat), i + n = a.length → ∀ k : Nat, n + 1 ≤ k → slices_Equal_int64_int64.l0 k a b a.length i = some (decide (a.drop i = b.drop i)) := by
  intro n
  induction n with
  | zero =>
    intro i hi k hk
    obtain ⟨k, rfl⟩ : ∃ m, k = m + 1 := ⟨k - 1, by omega⟩
    simp only [slices_Equal_int64_int64.l0]
    rw [if_neg (by omega), List.drop_eq_nil_of_le (by omega), List.drop_eq_nil_of_le (by omega)]
    simp
  | succ n ih =>
    intro i hi k hk
    obtain ⟨k, rfl⟩ : ∃ m, k = m + 1 := ⟨k - 1, by omega⟩
    have hia : i < a.length := by omega
    have hib : i < b.length := by omega
    have ra : rd a (i : Int) = a[i] := by unfold rd; rw [Int.toNat_natCast, List.getD_eq_getElem?_getD, List.getElem?_eq_getElem hia]; rfl
    have rb : rd b (i : Int) = b[i] := by unfold rd; rw [Int.toNat_natCast, List.getD_eq_getElem?_getD, List.getElem?_eq_getElem hib]; rfl
    have hn := ih (i + 1) (by omega) k (by omega)
    rw [show ((i + 1 : Nat) : Int) = (i : Int) + 1 by omega] at hn
    simp only [slices_Equal_int64_int64.l0]
    rw [if_pos (by omega), if_pos (by omega), if_pos (by omega), if_pos (by omega), ra, rb, w64 (by omega) (by omega), hn, List.drop_eq_getElem_cons hia, List.drop_eq_getElem_cons hib]
    by_cases he : a[i] = b[i]
    · rw [if_pos he]
      congr 1
      exact decide_eq_decide.2 ⟨fun h => by rw [he, h], fun h => (List.cons.inj h).2⟩
    · rw [if_neg he, decide_eq_false (fun h => he (List.cons.inj h).1)]
theorem eqI_f (a b : List Int) (hm : a.length ≤ 9223372036854775807) : slices_Equal_int64_int64.f (a.length + 1) a b = some (decide (a = b)) := by
  unfold slices_Equal_int64_int64.f
  by_cases h : a.length = b.length
  · rw [if_pos (by omega)]
    have := eqI_l0 a b h hm a.length 0 (by omega) (a.length + 1) (by omega)
    rw [List.drop_zero, List.drop_zero] at this
    exact this
  · rw [if_neg (by omega), decide_eq_false (fun he => h (by rw [he]))]
theorem kX_at {w : World} {A : Option Addr} {xs : List X} (h : kX.C w A xs.length xs) (hwf : ∀ y ∈ xs, Wf y) (k : Nat) (hk : k < xs.length) :
    ∃ ad B2 d2 B3 d3, A = some ad ∧ w.cell? (ad.add (k * 4)) = some (.int .u8 xs[k].f0) ∧ w.cell? ⟨(ad.add (k * 4)).block, (ad.add (k * 4)).off + 1, none⟩ = some (.string xs[k].f1) ∧
      w.cell? ⟨(ad.add (k * 4)).block, (ad.add (k * 4)).off + 2, none⟩ = some (.slice B2 xs[k].f2.length d2) ∧ w.cell? ⟨(ad.add (k * 4)).block, (ad.add (k * 4)).off + 3, none⟩ = some (.slice B3 xs[k].f3.length d3) ∧ Has w xs[k] B2 d2 B3 d3 := by
  obtain ⟨ad, B2, d2, B3, d3, hA, e0, e1, e2, e3, l2, g2, l3, g3⟩ := at_T25 h (k : Int) (by omega) (by omega)
  rw [rd_at xs k hk] at e0 e1 e2 e3 l2 g2 l3 g3
  rw [Int.toNat_natCast] at e0 e1 e2 e3
  exact ⟨ad, B2, d2, B3, d3, hA, e0, e1, e2, e3, ⟨hwf _ (List.getElem_mem hk), l2, g2, l3, g3⟩⟩
set_option maxHeartbeats 8000000 in
set_option maxRecDepth 100000 in
theorem EqualFunc_calls (xs ys : List X) (A : Option Addr) (c : Nat) (B : Option Addr) (d : Nat) (w : World) (h0 : kX.C w A xs.length xs) (h1 : kX.C w B ys.length ys) (wx : ∀ y ∈ xs, Wf y) (wy : ∀ y ∈ ys, Wf y)
    (hS : ∀ (i : Nat) (hi : i < xs.length) (hj : i < ys.length) (w' : World) (A2 : Option Addr) (c2 : Nat) (A3 : Option Addr) (c3 : Nat) (B2 : Option Addr) (d2 : Nat) (B3 : Option Addr) (d3 : Nat), Has w' xs[i] A2 c2 A3 c3 → Has w' ys[i] B2 d2 B3 d3 →
      Calls Tryz.prog 16 #[agg xs[i] A2 c2 A3 c3, agg ys[i] B2 d2 B3 d3] w' fun e w'' => e = .returned (.bool (sameX xs[i] ys[i])) ∧ Below w'.heap.size w' w'') :
    Calls Tryz.prog 47 #[.slice A xs.length c, .slice B ys.length d, .func (.func 16) #[] #[]] w fun e w' => e = .returned (.bool (sameL xs ys)) ∧ Below w.heap.size w w' := by
  have eg : ∀ args w, (callFunc 16 args).run Tryz.prog w = .ok (.enter 16 args) w := fun args w => by kernel_rfl
  have HS := Aside0.mk hS
  have H0 := Aside0.mk h0
  have H1 := Aside0.mk h1
  have WX := Aside0.mk wx
  have WY := Aside0.mk wy
  have hm : xs.length ≤ 9223372036854775807 := h0.2.1
  clear hS h0 h1 wx wy
  by_cases hl : xs.length = ys.length
  · have hl1 : ((xs.length : Int) == (ys.length : Int)) = true := beq_iff_eq.2 (by omega)
    have hl2 : ((xs.length : Int) != (ys.length : Int)) = false := bne_eq_false_iff_eq.2 (by omega)
    have HL := Aside0.mk hl
    have hle : xs.length ≤ ys.length := by omega
    clear hl
    go_enter Tryz.func47, Tryz.ntmps47
    go_wp2
    go_loopw [17] (fun j wr => ∃ k : Nat, k ≤ xs.length ∧ j = .int .i64 k ∧ sameL (xs.take k) (ys.take k) = true ∧ Below w.heap.size w wr) (fun j _ => (xs.length : Int).toNat - (intOf j).toNat)
    case atStart => exact ⟨0, Nat.zero_le _, rfl, by rw [List.take_zero, List.take_zero, sameL_nil], Below.refl _ _⟩
    case round =>
      obtain ⟨k, hk, rfl, hall, hbr⟩ := hrel
      have HALL := Aside0.mk hall
      have HBR := Aside0.mk hbr
      clear hall hbr
      by_cases hkn : k < xs.length
      · have hki : (k : Int) < (xs.length : Int) := by omega
        have hkj : (k : Int) < (ys.length : Int) := by omega
        have hki' : decide ((k : Int) < (xs.length : Int)) = true := decide_eq_true hki
        obtain ⟨ad, A2, c2, A3, c3, hA, e0, e1, e2, e3, hx⟩ := kX_at (Kd.C_below H0.out HBR.out) WX.out k hkn
        have hb1 := below_alloc HBR.out (.cells #[.int .u8 xs[k].f0, .string xs[k].f1, .slice A2 xs[k].f2.length c2, .slice A3 xs[k].f3.length c3] 25)
        obtain ⟨ae, B2, d2, B3, d3, hB, f0, f1, f2, f3, hy⟩ := kX_at (Kd.C_below H1.out hb1) WY.out k (by omega)
        subst hA
        subst hB
        have CS := Aside0.mk (HS.out k hkn (by omega) _ A2 c2 A3 c3 B2 d2 B3 d3 ((hx.a (.cells #[.int .u8 xs[k].f0, .string xs[k].f1, .slice A2 xs[k].f2.length c2, .slice A3 xs[k].f3.length c3] 25)).a (.cells #[.int .u8 ys[k].f0, .string ys[k].f1, .slice B2 ys[k].f2.length d2, .slice B3 ys[k].f3.length d3] 25)) (hy.a _))
        have HB1 := Aside0.mk (below_alloc hb1 (.cells #[.int .u8 ys[k].f0, .string ys[k].f1, .slice B2 ys[k].f2.length d2, .slice B3 ys[k].f3.length d3] 25))
        have HT := Aside0.mk (sameL_snoc xs ys k hkn (by omega))
        have hky : k < ys.length := by omega
        have HF := Aside0.mk (fun h => sameL_not (xs := xs) (ys := ys) hkn hky h)
        clear hx hy hb1
        go_wp2_with fail
        (with_reducible refine CS.out.mono ?_)
        rintro e w3 ⟨rfl, b3⟩
        have HB2 := Aside0.mk (below_then HB1.out HB1.out.size b3)
        clear b3 e0 e1 e2 e3 f0 f1 f2 f3 CS HB1
        generalize sameX xs[k] ys[k] = r at *
        cases r
        · go_wp2
          go_ret
          exact ⟨by rw [HF.out (by trivial)]; rfl, HB2.out⟩
        · go_wp2_with fail
          go_roundw
          case rel => exact ⟨k + 1, by omega, by go_num, by rw [HT.out, HALL.out]; rfl, HB2.out⟩
          case measure => simp [intOf]; omega
      · obtain rfl : k = xs.length := by omega
        have hki' : decide ((xs.length : Int) < (xs.length : Int)) = false := by simp
        have hfin := HALL.out
        rw [List.take_length, HL.out, List.take_length] at hfin
        have HFIN := Aside0.mk hfin
        clear hfin
        go_wp2
        go_ret
        exact ⟨by rw [HFIN.out]; rfl, HBR.out⟩
  · have hl1 : ((xs.length : Int) == (ys.length : Int)) = false := beq_eq_false_iff_ne.2 (by omega)
    have hl2 : ((xs.length : Int) != (ys.length : Int)) = true := bne_iff_ne.2 (by omega)
    rw [sameL_len hl]
    clear hl
    go_enter Tryz.func47, Tryz.ntmps47
    go_wp2
    go_ret
    exact ⟨rfl, Below.refl _ _⟩
set_option maxHeartbeats 8000000 in
set_option maxRecDepth 100000 in
theorem Same_calls (N : Nat) : ∀ (x y : X) (A2 : Option Addr) (c2 : Nat) (A3 : Option Addr) (c3 : Nat) (B2 : Option Addr) (d2 : Nat) (B3 : Option Addr) (d3 : Nat) (w : World), cnt x ≤ N → Has w x A2 c2 A3 c3 → Has w y B2 d2 B3 d3 →
    Calls Tryz.prog 16 #[agg x A2 c2 A3 c3, agg y B2 d2 B3 d3] w fun e w' => e = .returned (.bool (sameX x y)) ∧ Below w.heap.size w w' := by
  induction N with
  | zero => intro x _ _ _ _ _ _ _ _ _ _ hx; have := cnt_pos x; omega
  | succ N ih =>
    intro x y A2 c2 A3 c3 B2 d2 B3 d3 w hN hx hy
    have HR := Aside0.mk (sameX_eq x y)
    have ix := (InBox.new hx 25 w.heap.size rfl).a (.cells #[.int .u8 y.f0, .string y.f1, .slice B2 y.f2.length d2, .slice B3 y.f3.length d3] 25)
    have iy := InBox.new (hy.a (.cells #[.int .u8 x.f0, .string x.f1, .slice A2 x.f2.length c2, .slice A3 x.f3.length c3] 25)) 25 (w.heap.size + 1) (by simp)
    have BX0 := Aside0.mk (below_alloc (below_alloc (Below.refl w.heap.size w) (.cells #[.int .u8 x.f0, .string x.f1, .slice A2 x.f2.length c2, .slice A3 x.f3.length c3] 25)) (.cells #[.int .u8 y.f0, .string y.f1, .slice B2 y.f2.length d2, .slice B3 y.f3.length d3] 25))
    have CE := Aside0.mk (slices_Equal_int64_int64.calls (x.f2.length + 1) A2 c2 x.f2 B2 d2 y.f2 _ _ ix.has.C2 ix.has.l2 iy.has.C2 iy.has.l2 (eqI_f x.f2 y.f2 hx.C2.2.1))
    have CF := Aside0.mk (fun (w' : World) (h0 : kX.C w' A3 x.f3.length x.f3) (h1 : kX.C w' B3 y.f3.length y.f3) => EqualFunc_calls x.f3 y.f3 A3 c3 B3 d3 w' h0 h1 (fun _ h => hx.wf.child h) (fun _ h => hy.wf.child h) (fun i hi hj w'' C2 e2 C3 e3 D2 f2 D3 f3 k0 k1 => ih x.f3[i] y.f3[i] C2 e2 C3 e3 D2 f2 D3 f3 w'' (by have := cnt_child (List.getElem_mem hi); omega) k0 k1))
    have IX0 := Aside0.mk ix
    have IY0 := Aside0.mk iy
    clear ix iy hx hy hN ih
    by_cases h0 : x.f0 = y.f0
    · rw [decide_eq_true h0, Bool.true_and] at HR
      have h0a : (x.f0 == y.f0) = true := beq_iff_eq.2 h0
      clear h0
      by_cases h1 : x.f1 = y.f1
      · rw [(eqB_iff x.f1 y.f1).2 h1, Bool.true_and] at HR
        have h1a : (x.f1.toList == y.f1.toList) = true := by rw [h1]; exact beq_self_eq_true _
        clear h1
        by_cases h2 : x.f2 = y.f2
        · rw [decide_eq_true h2, Bool.true_and] at HR
          rw [decide_eq_true h2] at CE
          clear h2
          go_enter Tryz.func16, Tryz.ntmps16
          go_wp2_with fail
          (with_reducible refine CE.out.mono ?_)
          rintro e w1 ⟨rfl, b1⟩
          have ix := IX0.out.later b1.below
          have iy := IY0.out.later b1.below
          have BX1 := Aside0.mk (below_then BX0.out BX0.out.size b1.below)
          have q3 := ix.q3
          have k3 := iy.q3
          have CG := Aside0.mk (CF.out _ ix.has.C3 iy.has.C3)
          clear ix iy b1 CE CF
          go_wp2_with fail
          (with_reducible refine CG.out.mono ?_)
          rintro e w2 ⟨rfl, b2⟩
          have BX2 := Aside0.mk (below_then BX1.out BX1.out.size b2)
          clear b2 q3 k3
          go_wp2
          go_ret
          exact ⟨by rw [HR.out]; rfl, BX2.out⟩
        · rw [decide_eq_false h2, Bool.false_and] at HR
          rw [decide_eq_false h2] at CE
          clear h2
          go_enter Tryz.func16, Tryz.ntmps16
          go_wp2_with fail
          (with_reducible refine CE.out.mono ?_)
          rintro e w1 ⟨rfl, b1⟩
          have BX1 := Aside0.mk (below_then BX0.out BX0.out.size b1.below)
          clear b1
          go_wp2
          go_ret
          exact ⟨by rw [HR.out]; rfl, BX1.out⟩
      · rw [Bool.eq_false_iff.2 (fun h => h1 ((eqB_iff x.f1 y.f1).1 h)), Bool.false_and, Bool.false_and] at HR
        have h1a : (x.f1.toList == y.f1.toList) = false := by
          rw [Lib.toList_data, Lib.toList_data]
          exact Bool.eq_false_iff.2 (fun h => h1 ((eqB_iff x.f1 y.f1).1 h))
        clear h1
        go_enter Tryz.func16, Tryz.ntmps16
        go_wp2
        go_ret
        exact ⟨by rw [HR.out]; rfl, BX0.out⟩
    · rw [decide_eq_false h0, Bool.false_and, Bool.false_and, Bool.false_and] at HR
      have h0a : (x.f0 == y.f0) = false := beq_eq_false_iff_ne.2 h0
      clear h0
      go_enter Tryz.func16, Tryz.ntmps16
      go_wp2
      go_ret
      exact ⟨by rw [HR.out]; rfl, BX0.out⟩
end Go.Proofs.YtcinojbfjiohjaaGreatDoor.Ex
end

section
namespace Go.Proofs.YtcinojbfjiohjaaGreatDoor.Pr
open Go Go.RowKit Go.Proofs.YtcinojbfjiohjaaGreatDoor.PPrintTells Go.Proofs.YtcinojbfjiohjaaGreatDoor.Ex Go.Proofs.YtcinojbfjiohjaaGreatDoorW.PrintWords Go.Proofs.YtcinojbfjiohjaaGreatDoorW.PrintLast Go.Proofs.YtcinojbfjiohjaaGreatDoorW.PrintMore
open Go.Proofs.YtcinojbfjiohjaaGreatDoor.Pa (opsL mC mL mR nTok wTok opW seqW wordsX wordsL words_eq wordsL_nil wordsL_cons parseE back_all)
open Go.Proofs.YtcinojbfjiohjaaGreatDoor.Lx (Tok TokW textT rightT lexL lexL_cons lexL_nil next_text markB blankB nextL consE mark_blank dashB)
set_option linter.unusedVariables false
set_option linter.unusedSimpArgs false
def Free (r : List UInt8) : Prop := ∀ b, r.head? = some b → dashB b = false
theorem lex_mark (b : UInt8) (r : List UInt8) (L : List Tok) (hb : markB b = true) (h : lexL r = (L, -1)) : lexL (b :: r) = (⟨4, Civ.toB [b], 0⟩ :: L, -1) := by
  have hn : nextL (b :: r) = (⟨4, Civ.toB [b], 0⟩, 1, true) := by
    show (if markB b = true then _ else _) = _
    rw [if_pos hb]
  rw [lexL_cons, mark_blank b hb, if_neg (by decide), hn, if_pos rfl]
  show consE _ _ (lexL (r.drop 0)) = _
  rw [List.drop_zero, h]
  rfl
theorem lex_blank (r : List UInt8) (L : List Tok) (h : lexL r = (L, -1)) : lexL (32 :: r) = (L, -1) := by
  rw [lexL_cons, show blankB 32 = true by decide, if_pos rfl, h]
  rfl
theorem lex_tok (t : Tok) (hW : TokW t) (hR : rightT t = true) (r : List UInt8) (L : List Tok) (hr : Free r) (h : lexL r = (L, -1)) : lexL ((textT t).1.data.toList ++ r) = (t :: L, -1) := by
  obtain ⟨b, l, h1, h2, h3⟩ := next_text t hW hR r hr
  rw [h1, List.cons_append, lexL_cons, h2, h3]
  show consE [t] _ (lexL ((l ++ r).drop (l.length + 1 - 1))) = _
  rw [Nat.add_sub_cancel, List.drop_left, h]
  rfl
def Good (a : List UInt8) (u : List Tok) : Prop := ∀ r L, Free r → lexL r = (L, -1) → lexL (a ++ r) = (u ++ L, -1)
theorem nil_empty : (⟨#[]⟩ : ByteArray).toList.isEmpty = true := by decide +kernel
theorem good_num (n : Int) (h : -9223372036854775808 ≤ n ∧ n ≤ 9223372036854775807) : Good (Lib.itoa n) [nTok n] := by
  intro r L hr hl
  have hx : textT (nTok n) = (⟨(Lib.itoa n).toArray⟩, true) := by
    unfold textT
    rw [if_neg (show ¬ ((2 : Int) = 1) by decide), if_pos rfl]
    dsimp only
    rw [nil_empty]
  have ht := lex_tok (nTok n) ⟨h.1, h.2, Nat.zero_le _⟩ (by unfold rightT; rw [hx]) r L hr hl
  rw [hx] at ht
  exact ht
theorem span_all (l : List UInt8) (h : l.all letterB = true) : Lx.spanN letterB l = l.length := by
  have := Lx.span_all letterB l [] h (fun b hb => by cases hb)
  rwa [List.append_nil] at this
theorem alpha_dig (b : UInt8) (h : alphaB b = true) : digitB b = false ∧ letterB b = true := by
  have := byte_all (fun b => !alphaB b || (!digitB b && letterB b)) (by decide +kernel) b
  rw [h] at this
  simpa using this
theorem name_word {s : ByteArray} (h : nameB s = true) : textT (wTok s) = (s, true) ∧ TokW (wTok s) := by
  unfold nameB at h
  cases hl : s.data.toList with
  | nil => rw [hl] at h; cases h
  | cons b l =>
    rw [hl] at h
    unfold nameL at h
    simp only [Bool.and_eq_true, decide_eq_true_eq] at h
    obtain ⟨⟨h1, h2⟩, h3⟩ := h
    obtain ⟨h4, h5⟩ := alpha_dig b h2
    have hsz : s.size = (b :: l).length := by rw [← hl]; exact (Array.length_toList).symm
    constructor
    · unfold textT
      dsimp only
      rw [if_pos rfl, hl]
      have hn : Lx.namedL (b :: l) = true := by
        show (decide (l.length < 30) && !digitB b) = true
        rw [h4, decide_eq_true h1]; rfl
      rw [hn, span_all (b :: l) (by rw [List.all_cons, h5, h3]; rfl), hsz]
      simp
    · exact ⟨show (-9223372036854775808 : Int) ≤ 0 by decide, show (0 : Int) ≤ 9223372036854775807 by decide, by rw [hsz, List.length_cons]; show l.length + 1 ≤ _; omega⟩
theorem good_name {s : ByteArray} (h : nameB s = true) : Good s.data.toList [wTok s] := by
  intro r L hr hl
  obtain ⟨h1, h2⟩ := name_word h
  have ht := lex_tok (wTok s) h2 (by unfold rightT; rw [h1]) r L hr hl
  rw [h1] at ht
  exact ht
theorem ops_right : ∀ k : Fin 13, k.val ≠ 0 → nameB (opW (k.val : Int)) = true ∧ opB (k.val : Int) = (opW (k.val : Int)).data.toList := by decide +kernel
theorem op_right (o : Int) (h0 : 1 ≤ o) (h1 : o ≤ 12) : nameB (opW o) = true ∧ opB o = (opW o).data.toList := by
  have h := ops_right ⟨o.toNat, by omega⟩ (by show o.toNat ≠ 0; omega)
  rwa [show ((⟨o.toNat, by omega⟩ : Fin 13).val : Int) = o by show (o.toNat : Int) = o; omega] at h
theorem mC_tok : (⟨4, Civ.toB [44], 0⟩ : Tok) = mC := rfl
theorem mL_tok : (⟨4, Civ.toB [40], 0⟩ : Tok) = mL := rfl
theorem mR_tok : (⟨4, Civ.toB [41], 0⟩ : Tok) = mR := rfl
theorem lex_mR (r : List UInt8) (L : List Tok) (h : lexL r = (L, -1)) : lexL (41 :: r) = (mR :: L, -1) := by rw [lex_mark 41 r L (by decide) h, mR_tok]
theorem lex_mC (r : List UInt8) (L : List Tok) (h : lexL r = (L, -1)) : lexL (44 :: r) = (mC :: L, -1) := by rw [lex_mark 44 r L (by decide) h, mC_tok]
theorem lex_mL (r : List UInt8) (L : List Tok) (h : lexL r = (L, -1)) : lexL (40 :: r) = (mL :: L, -1) := by rw [lex_mark 40 r L (by decide) h, mL_tok]
theorem free_of (b : UInt8) (r : List UInt8) (h : dashB b = false) : Free (b :: r) := by
  intro c hc
  have hc : some b = some c := hc
  injection hc with hc
  rw [← hc]
  exact h
theorem good_seq (r : List UInt8) (L : List Tok) (hl : lexL r = (L, -1)) : ∀ (Q : List (List UInt8 × List Tok)) (a : List UInt8) (u : List Tok), Good a u → (∀ q ∈ Q, Good q.1 q.2) →
    lexL (a ++ (putsF [44, 32] (Q.map (·.1)) ++ 41 :: r)) = (seqW (u :: Q.map (·.2)) ++ L, -1)
  | [], a, u, hg, _ => by
    have h := hg (41 :: r) (mR :: L) (free_of 41 r (by decide)) (lex_mR r L hl)
    show lexL (a ++ ([] ++ 41 :: r)) = (u ++ [mR] ++ L, -1)
    rw [List.nil_append, h, List.append_assoc]
    rfl
  | (b, v) :: Q, a, u, hg, hQ => by
    have ih := good_seq r L hl Q b v (hQ (b, v) (by simp)) (fun q hq => hQ q (List.mem_cons_of_mem _ hq))
    have h := hg _ _ (free_of 44 _ (by decide)) (lex_mC _ _ (lex_blank _ _ ih))
    show lexL (a ++ (([44, 32] ++ b ++ putsF [44, 32] (Q.map (·.1))) ++ 41 :: r)) = (u ++ mC :: seqW (v :: Q.map (·.2)) ++ L, -1)
    rw [show ([44, 32] ++ b ++ putsF [44, 32] (Q.map (·.1))) ++ 41 :: r = 44 :: 32 :: (b ++ (putsF [44, 32] (Q.map (·.1)) ++ 41 :: r)) by simp, h, List.append_assoc]
    rfl
theorem wordsL_map (xs : List X) : wordsL xs = xs.map wordsX := by
  induction xs with
  | nil => rw [wordsL_nil]; rfl
  | cons y ys ih => rw [wordsL_cons, ih]; rfl
theorem linesB_map (xs : List X) : linesB xs = xs.map lineB := by
  induction xs with
  | nil => rw [linesB_nil]; rfl
  | cons y ys ih => rw [linesB_cons, ih]; rfl
theorem all_mem {xs : List X} (h : allRL xs = true) {y : X} (hy : y ∈ xs) : allR y = true := by
  induction xs with
  | nil => cases hy
  | cons z zs ih =>
    rw [allRL_cons, Bool.and_eq_true] at h
    rcases List.mem_cons.1 hy with rfl | hy
    · exact h.1
    · exact ih h.2 hy
theorem good_line (N : Nat) : ∀ x : X, cnt x ≤ N → Wf x → allR x = true → Good (lineB x) (wordsX x) := by
  induction N with
  | zero => intro x hc; exact absurd (cnt_pos x) (by omega)
  | succ N ih =>
    intro x hc hwf hR
    obtain ⟨o, s, ns, xs⟩ := x
    have hce := cnt_eq ⟨o, s, ns, xs⟩
    dsimp only at hce
    have hr := hR
    rw [allR_eq, Bool.and_eq_true] at hr
    have h1 := hr.1
    unfold rightB at h1
    simp only [Bool.and_eq_true, decide_eq_true_eq] at h1
    obtain ⟨⟨⟨h3, h4⟩, h5⟩, h6⟩ := h1
    rw [lineB_eq, words_eq]
    dsimp only
    by_cases h0 : o = 0
    · rw [if_pos h0] at h6 ⊢
      rw [if_pos (.inl h0)]
      exact good_name h6
    · obtain ⟨ho1, ho2⟩ := op_range hwf hR h0
      rw [if_neg h0, if_neg (by omega)]
      obtain ⟨g1, g2⟩ := op_right o ho1 ho2
      have hn : 1 ≤ numsOf o + argsOf o := by
        have : ∀ j : Fin 13, j.val ≠ 0 → 1 ≤ numsOf (j.val : Int) + argsOf (j.val : Int) := by decide +kernel
        have h := this ⟨o.toNat, by omega⟩ (by show o.toNat ≠ 0; omega)
        rwa [show ((⟨o.toNat, by omega⟩ : Fin 13).val : Int) = o by show (o.toNat : Int) = o; omega] at h
      obtain ⟨Q, hQ⟩ : ∃ Q : List (List UInt8 × List Tok), Q = ns.map (fun v => (Lib.itoa v, [nTok v])) ++ xs.map (fun y => (lineB y, wordsX y)) := ⟨_, rfl⟩
      have q1 : Q.map (·.1) = ns.map Lib.itoa ++ linesB xs := by rw [hQ, List.map_append, List.map_map, List.map_map, linesB_map]; rfl
      have q2 : Q.map (·.2) = ns.map (fun v => [nTok v]) ++ wordsL xs := by rw [hQ, List.map_append, List.map_map, List.map_map, wordsL_map]; rfl
      have hG : ∀ q ∈ Q, Good q.1 q.2 := by
        intro q hq
        rw [hQ] at hq
        rcases List.mem_append.1 hq with h | h
        · obtain ⟨v, hv, rfl⟩ := List.mem_map.1 h
          exact good_num v (hwf.nums v hv)
        · obtain ⟨y, hy, rfl⟩ := List.mem_map.1 h
          have hy2 : y ∈ xs := hy
          exact ih y (by have := cnt_mem hy2; omega) (hwf.child hy2) (all_mem (rec_right hR) hy2)
      have hQl : Q.length = ns.length + xs.length := by rw [hQ, List.length_append, List.length_map, List.length_map]
      rw [← q1, ← q2]
      cases Q with
      | nil => exfalso; rw [List.length_nil] at hQl; omega
      | cons q Q =>
        obtain ⟨a, u⟩ := q
        intro r L hr hl
        have hs := good_seq r L hl Q a u (hG (a, u) (by simp)) (fun q hq => hG q (List.mem_cons_of_mem _ hq))
        have hm := lex_mL _ _ hs
        have hw := good_name g1 _ _ (free_of 40 _ (by decide)) hm
        rw [← g2] at hw
        show lexL (opB o ++ (([40] ++ a ++ putsF [44, 32] (Q.map (·.1))) ++ [41]) ++ r) = (wTok (opW o) :: mL :: seqW (u :: Q.map (·.2)) ++ L, -1)
        rw [show opB o ++ (([40] ++ a ++ putsF [44, 32] (Q.map (·.1))) ++ [41]) ++ r = opB o ++ 40 :: (a ++ (putsF [44, 32] (Q.map (·.1)) ++ 41 :: r)) by simp, hw]
        rfl
mutual
theorem same_eq : ∀ x y : X, sameX x y = true → x = y
  | ⟨o, n, ns, xs⟩, ⟨o', n', ns', xs'⟩, h => by
    rw [sameX] at h
    simp only [Bool.and_eq_true, decide_eq_true_eq] at h
    obtain ⟨⟨⟨h1, h2⟩, h3⟩, h4⟩ := h
    rw [h1, (eqB_iff _ _).1 h2, h3, sameL_eq xs xs' h4]
theorem sameL_eq : ∀ xs ys : List X, sameL xs ys = true → xs = ys
  | [], [], _ => rfl
  | [], _ :: _, h => by rw [sameL] at h; cases h
  | _ :: _, [], h => by rw [sameL] at h; cases h
  | y :: ys, z :: zs, h => by
    rw [sameL_cons, Bool.and_eq_true] at h
    rw [same_eq y z h.1, sameL_eq ys zs h.2]
end
mutual
theorem same_self : ∀ x : X, sameX x x = true
  | ⟨o, n, ns, xs⟩ => by
    rw [sameX, decide_eq_true rfl, decide_eq_true rfl, (eqB_iff n n).2 rfl, sameL_self xs]; rfl
theorem sameL_self : ∀ xs : List X, sameL xs xs = true
  | [] => by rw [sameL]
  | y :: ys => by rw [sameL_cons, same_self y, sameL_self ys]; rfl
end
theorem same_iff (x y : X) : sameX x y = true ↔ x = y := ⟨same_eq x y, fun h => h ▸ same_self x⟩
end Go.Proofs.YtcinojbfjiohjaaGreatDoor.Pr
end

section
namespace Go.Proofs.YtcinojbfjiohjaaGreatDoor.Pa
open Go Go.RowKit Go.Proofs.YtcinojbfjiohjaaGreatDoor.PPrintTells Go.Proofs.YtcinojbfjiohjaaGreatDoor.Ex Go.Proofs.YtcinojbfjiohjaaGreatDoorW.PrintWords Go.Proofs.YtcinojbfjiohjaaGreatDoorW.PrintLast Go.Proofs.YtcinojbfjiohjaaGreatDoorW.PrintMore
set_option linter.unusedVariables false
set_option linter.unusedSimpArgs false
def rawL : List ByteArray := (Lib.fields SHAPES.data.toList).map fun l => ⟨l.toArray⟩
theorem rawL_len : rawL.length = 18 := by decide +kernel
theorem shapeL_len : shapeL.length = 18 := by decide +kernel
theorem shapeL_map : shapeL = rawL.map fun q => ((⟨(Lib.cut q.data.toList [58]).1.toArray⟩ : ByteArray), (⟨(Lib.cut q.data.toList [58]).2.1.toArray⟩ : ByteArray)) := by
  unfold shapeL rawL
  rw [List.map_map]
  rfl
theorem shapeL_at (k : Nat) (h : k < rawL.length) (h' : k < shapeL.length) : shapeL[k] = (⟨(Lib.cut (rawL[k]).data.toList [58]).1.toArray⟩, ⟨(Lib.cut (rawL[k]).data.toList [58]).2.1.toArray⟩) := by
  rw [List.getElem_of_eq shapeL_map h', List.getElem_map]
  try rfl
theorem raw_small : ∀ q ∈ rawL, q.size < 4294967281 := by decide +kernel
def shF : List (ByteArray × ByteArray) → ByteArray → ByteArray × Bool
  | [], _ => ((⟨#[]⟩ : ByteArray), false)
  | q :: r, s => if (q.2.toList == s.toList) = true then (q.1, true) else shF r s
def shapeF (s : ByteArray) : ByteArray × Bool := shF shapeL s
theorem shF_at (s : ByteArray) (k : Nat) (h : k < shapeL.length) : shF (shapeL.drop k) s = if ((shapeL[k]).2.toList == s.toList) = true then ((shapeL[k]).1, true) else shF (shapeL.drop (k + 1)) s := by
  rw [List.drop_eq_getElem_cons h, shF]
theorem shF_end (s : ByteArray) : shF (shapeL.drop 18) s = ((⟨#[]⟩ : ByteArray), false) := by
  rw [List.drop_of_length_le (by rw [shapeL_len]; exact Nat.le_refl 18), shF]
set_option maxHeartbeats 8000000 in
set_option maxRecDepth 100000 in
theorem Shape_calls (s : ByteArray) (w : World) (hC : Cal w) :
    Calls Tryz.prog 49 #[.string s] w fun e w' => e = .returned (.tuple #[.string (shapeF s).1, .bool (shapeF s).2]) ∧ Below w.heap.size w w' := by
  have CF : Aside0 (Calls Tryz.prog 98 #[.string SHAPES] w fun e w' => e = .returned (.slice (some ⟨w.heap.size, 0, none⟩) 18 18) ∧ w' = w.alloc (.cells (rawL.map Value.string).toArray 9)) := by
    refine ⟨(Tryz.strings_Fields_laid SHAPES w (by decide +kernel) shapes_ascii hC.space).mono ?_⟩
    rintro e w' ⟨rfl, rfl⟩
    have hl : (Lib.fields SHAPES.data.toList).length = 18 := by
      have := rawL_len
      unfold rawL at this
      rw [List.length_map] at this
      exact this
    refine ⟨by rw [hl], ?_⟩
    unfold rawL
    rw [List.map_map]
    rfl
  obtain ⟨m, hm⟩ := hC.maxl
  have hb0 := below_alloc (Below.refl w.heap.size w) (.cells (rawL.map Value.string).toArray 9)
  have CC : ∀ (k : Nat) (hk : k < rawL.length) (W : World), Below w.heap.size w W → Aside0 (Calls Tryz.prog 99 #[.string rawL[k], .string ⟨#[58]⟩] W fun e w' => e = .returned (.tuple #[.string (shapeL[k]'(by rw [shapeL_len]; rw [rawL_len] at hk; exact hk)).1, .string (shapeL[k]'(by rw [shapeL_len]; rw [rawL_len] at hk; exact hk)).2, .bool (Lib.cut (rawL[k]).data.toList [58]).2.2]) ∧ Drawn0 W w') := by
    intro k hk W hb
    refine ⟨(Tryz.strings_Cut rawL[k] ⟨#[58]⟩ m W (raw_small _ (List.getElem_mem hk)) ((hb.cell (World.block_lt_of_cell? w _ hm)).trans hm)).mono ?_⟩
    rintro e w' ⟨rfl, hd⟩
    rw [shapeL_at k hk]
    obtain ⟨n, rfl⟩ := hd
    exact ⟨rfl, n, rfl⟩
  have HB0 := Aside0.mk hb0
  have HCC := Aside0.mk CC
  have b1 := Aside0.mk (blk_new w (.cells (rawL.map Value.string).toArray 9))
  have h0 : shF (shapeL.drop 0) s = shapeF s := rfl
  have H0 := Aside0.mk h0
  clear hm hC hb0 CC h0
  obtain ⟨R, hR⟩ : ∃ R, shapeF s = R := ⟨_, rfl⟩
  rw [hR] at H0 ⊢
  clear hR
  go_enter Tryz.func49, Tryz.ntmps49
  go_wp2_with fail
  (with_reducible refine CF.out.mono ?_)
  rintro e w1 ⟨rfl, rfl⟩
  clear CF
  go_wp2_with fail
  go_loopw [11] (fun j wr => ∃ k n : Nat, k ≤ 18 ∧ j = .int .i64 k ∧ shF (shapeL.drop k) s = R ∧ wr = (w.alloc (.cells (rawL.map Value.string).toArray 9)).drewN n) (fun j _ => 18 - (intOf j).toNat)
  case atStart => exact ⟨0, 0, by omega, rfl, H0.out, rfl⟩
  case round =>
    obtain ⟨k, n, hk, rfl, hR, rfl⟩ := hrel
    by_cases hkn : k < 18
    · have hki : (k : Int) < 18 := by omega
      have hki' : decide ((k : Int) < 18) = true := decide_eq_true hki
      have hk1 : k < rawL.length := by rw [rawL_len]; exact hkn
      have hk2 : k < shapeL.length := by rw [shapeL_len]; exact hkn
      have q : ((w.alloc (.cells (rawL.map Value.string).toArray 9)).drewN n).cell? ⟨w.heap.size, k, none⟩ = some (.string rawL[k]) := by
        refine (blk_cell (blk_drewN b1.out n) k).trans ?_
        simp [hk1]
        try rfl
      have hBW := pw_below_drewN HB0.out n
      have CK := HCC.out k hk1 _ hBW
      have HR := Aside0.mk ((shF_at s k hk2).symm.trans hR)
      clear hR hBW
      generalize hsq : shapeL[k] = sq at *
      generalize rawL[k] = rq at *
      generalize (Lib.cut rq.data.toList [58]).2.2 = bq at *
      obtain ⟨s1, s2⟩ := sq
      dsimp only at CK HR
      clear hsq
      go_wp2_with fail
      (with_reducible refine CK.out.mono ?_)
      rintro e w2 ⟨rfl, ⟨m2, rfl⟩⟩
      clear CK q
      cases hq : (s2.toList == s.toList)
      · go_wp2_with fail
        go_roundw
        case rel => exact ⟨k + 1, n + m2, by omega, by go_num, by have := HR.out; rw [hq, if_neg (by simp)] at this; exact this, rfl⟩
        case measure => simp [intOf]; omega
      · have hF := HR.out
        rw [hq, if_pos rfl] at hF
        subst hF
        go_wp2
        go_ret2
        exact ⟨rfl, pw_below_drewN HB0.out (n + m2)⟩
    · obtain rfl : k = 18 := by omega
      have hF := hR
      rw [shF_end] at hF
      subst hF
      clear hR
      go_wp2
      go_ret2
      exact ⟨rfl, pw_below_drewN HB0.out n⟩
end Go.Proofs.YtcinojbfjiohjaaGreatDoor.Pa
end
