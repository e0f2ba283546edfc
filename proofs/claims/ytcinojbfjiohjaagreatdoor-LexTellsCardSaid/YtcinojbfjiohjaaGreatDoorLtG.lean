/-
  Part 7 of what the row stands on, put together by a program: LxI, LxV, LxX, LxM, LxY, LxZ, LxPw, LxBk, LxTe, DatLaid, LxLaid, LxToks.
-/
import Derived.LaidMore
import Derived.Lay
import Derived.OpenShut
import Derived.ProofKit
import Derived.Shelf.Vars
import Derived.Stop.Joined
import Derived.Stop.LaidErr
import Derived.Test.YtcinojbfjiohjaaGreatDoorRows
import Derived.Test.YtcinojbfjiohjaaGreatDoorLtF
section
namespace Go.Proofs.YtcinojbfjiohjaaGreatDoor.Lx
open Go Go.RowKit Go.Proofs.YtcinojbfjiohjaaGreatDoor.PPrintTells Go.Proofs.YtcinojbfjiohjaaGreatDoor.Ex Go.Proofs.YtcinojbfjiohjaaGreatDoor.Civ Go.Proofs.YtcinojbfjiohjaaGreatDoorW.PrintWords Go.Proofs.YtcinojbfjiohjaaGreatDoorW.PrintLast Go.Proofs.YtcinojbfjiohjaaGreatDoorW.PrintMore
set_option linter.unusedVariables false
set_option linter.unusedSimpArgs false
theorem self_l0 (L : List Tok) (hm : L.length ≤ 9223372036854775800) : ∀ (n i : Nat), i + n = L.length → ∀ k, n + 1 ≤ k → epactlaw10_Same.l0 k L L (L.length : Int) (i : Int) = some true := by
  intro n
  induction n with
  | zero =>
    intro i hi k hk
    obtain ⟨k, rfl⟩ : ∃ m, k = m + 1 := ⟨k - 1, by omega⟩
    rw [epactlaw10_Same.l0, if_neg (by omega)]
  | succ n ih =>
    intro i hi k hk
    obtain ⟨k, rfl⟩ : ∃ m, k = m + 1 := ⟨k - 1, by omega⟩
    have hn := ih (i + 1) (by omega) k (by omega)
    rw [show ((i + 1 : Nat) : Int) = (i : Int) + 1 by omega] at hn
    rw [epactlaw10_Same.l0, if_pos (by omega), if_pos (by omega), if_pos (by omega), if_pos (by omega), if_neg (by simp), w64 (by omega) (by omega), hn]
/-- A list of words is the same as itself. -/
theorem same_calls (L : List Tok) (A B : Option Addr) (c d : Nat) (w : World) (hA : Kd.C kTk w A L.length L) (hc : L.length ≤ c) (hB : Kd.C kTk w B L.length L) (hd : L.length ≤ d) (hm : L.length ≤ 9223372036854775800) :
    Calls Tryz.prog 29 #[.slice A L.length c, .slice B L.length d] w fun e w' => e = .returned (.bool true) ∧ Lt w w' :=
  (epactlaw10_Same.calls (L.length + 1) A c L B d L true w hA hc hB hd (by
    unfold epactlaw10_Same.f
    rw [if_pos rfl]
    exact self_l0 L hm L.length 0 (by omega) _ (Nat.le_refl _))).mono fun _ _ ⟨he, h⟩ => ⟨he, Drawn0.lt h⟩
theorem name_made (s : ByteArray) (w : World) : Calls Tryz.prog 65 #[.string s] w fun e w' => e = .returned (tokV ⟨1, s, 0⟩) ∧ Lt w w' := by
  go_enter Tryz.func65, Tryz.ntmps65
  go_wp2_with fail
  refine bodyPost_ret (results_cell_row rfl _ _ w.heap.size TT #[.int .u8 1, .string s, .int .i64 0] (0, 0) _ rfl (blk_new w _) Tryz.underlying51 rfl info_tk) rfl ?_
  exact ⟨rfl, (Lt.refl _).a _⟩
theorem mark_made (s : ByteArray) (w : World) : Calls Tryz.prog 66 #[.string s] w fun e w' => e = .returned (tokV ⟨4, s, 0⟩) ∧ Lt w w' := by
  go_enter Tryz.func66, Tryz.ntmps66
  go_wp2_with fail
  refine bodyPost_ret (results_cell_row rfl _ _ w.heap.size TT #[.int .u8 4, .string s, .int .i64 0] (0, 0) _ rfl (blk_new w _) Tryz.underlying51 rfl info_tk) rfl ?_
  exact ⟨rfl, (Lt.refl _).a _⟩
theorem number_made (n : Int) (w : World) : Calls Tryz.prog 67 #[.int .i64 n] w fun e w' => e = .returned (tokV ⟨2, nil8, n⟩) ∧ Lt w w' := by
  go_enter Tryz.func67, Tryz.ntmps67
  go_wp2_with fail
  refine bodyPost_ret (results_cell_row rfl _ _ w.heap.size TT #[.int .u8 2, .string nil8, .int .i64 n] (0, 0) _ rfl (blk_new w _) Tryz.underlying51 rfl info_tk) rfl ?_
  exact ⟨rfl, (Lt.refl _).a _⟩
theorem same_n (L : List Tok) (n : Nat) (hn : L.length = n) (A B : Option Addr) (c d : Nat) (w : World) (hA : Kd.C kTk w A n L) (hc : n ≤ c) (hB : Kd.C kTk w B n L) (hd : n ≤ d) (hm : n ≤ 1000) :
    Calls Tryz.prog 29 #[.slice A n c, .slice B n d] w fun e w' => e = .returned (.bool true) ∧ Lt w w' := by
  subst hn
  exact same_calls L A B c d w hA hc hB hd (by omega)
theorem Words_to (s : ByteArray) (L : List Tok) (k : Int) (n : Nat) (hn : L.length = n) (he : lexL s.data.toList = (L, k)) (hs : s.size < 4294967281) (w : World) (hC : LCal w) :
    Calls Tryz.prog 14 #[.string s] w fun e w' => ∃ B d, e = .returned (.tuple #[.slice B n d, .int .i64 k]) ∧ Kd.C kTk w' B n L ∧ n ≤ d ∧ Lt w w' := by
  refine (Words_calls s hs w hC).mono ?_
  rintro e w' ⟨v, rfl, ho, hl⟩
  rw [he] at ho
  obtain ⟨B, d, rfl, hd, hCC⟩ := Kd.R_reads ho
  dsimp only at hd hCC hn ⊢
  rw [hn] at hd hCC
  exact ⟨B, d, by rw [he, hn], hCC, hd, hl⟩
abbrev tGR : List Tok := [⟨1, ⟨#[103, 114, 111, 117, 112]⟩, 0⟩, ⟨4, ⟨#[40]⟩, 0⟩, ⟨2, nil8, 3⟩, ⟨4, ⟨#[44]⟩, 0⟩, ⟨1, ⟨#[100, 97, 121]⟩, 0⟩, ⟨4, ⟨#[41]⟩, 0⟩]
abbrev tGRC : Obj := .cells #[.int .u8 1, .string ⟨#[103, 114, 111, 117, 112]⟩, .int .i64 0, .int .u8 4, .string ⟨#[40]⟩, .int .i64 0, .int .u8 2, .string ⟨#[]⟩, .int .i64 3, .int .u8 4, .string ⟨#[44]⟩, .int .i64 0, .int .u8 1, .string ⟨#[100, 97, 121]⟩, .int .i64 0, .int .u8 4, .string ⟨#[41]⟩, .int .i64 0] TT
theorem tGR_row (W : World) : Kd.C kTk (W.alloc tGRC) (some ⟨W.heap.size, 0, none⟩) 6 tGR := by
  have hr : ∀ ok, Reps (kTk.M (W.alloc tGRC) W.heap.size ok) 3 tGR [.int .u8 1, .string ⟨#[103, 114, 111, 117, 112]⟩, .int .i64 0, .int .u8 4, .string ⟨#[40]⟩, .int .i64 0, .int .u8 2, .string ⟨#[]⟩, .int .i64 3, .int .u8 4, .string ⟨#[44]⟩, .int .i64 0, .int .u8 1, .string ⟨#[100, 97, 121]⟩, .int .i64 0, .int .u8 4, .string ⟨#[41]⟩, .int .i64 0] := fun ok => ((((((Reps.none _ _).snoc (k51_mkM _ _ ok (⟨1, ⟨#[103, 114, 111, 117, 112]⟩, 0⟩ : Tok)) rfl).snoc (k51_mkM _ _ ok (⟨4, ⟨#[40]⟩, 0⟩ : Tok)) rfl).snoc (k51_mkM _ _ ok (⟨2, nil8, 3⟩ : Tok)) rfl).snoc (k51_mkM _ _ ok (⟨4, ⟨#[44]⟩, 0⟩ : Tok)) rfl).snoc (k51_mkM _ _ ok (⟨1, ⟨#[100, 97, 121]⟩, 0⟩ : Tok)) rfl).snoc (k51_mkM _ _ ok (⟨4, ⟨#[41]⟩, 0⟩ : Tok)) rfl
  have h : Kd.R kTk TT (W.alloc tGRC) W.heap.size (fun _ => True) (.slice (some ⟨W.heap.size, 0, none⟩) 6 6) tGR := ⟨fun _ _ => trivial, OwnRow.lit W W.heap.size (hr _) (Nat.le_refl _) (by decide)⟩
  exact (Kd.R_reads' h).2.2
abbrev tDN : List Tok := [⟨3, nil8, 0⟩, ⟨2, nil8, -5⟩]
abbrev tDNC : Obj := .cells #[.int .u8 3, .string ⟨#[]⟩, .int .i64 0, .int .u8 2, .string ⟨#[]⟩, .int .i64 (-5)] TT
theorem tDN_row (W : World) : Kd.C kTk (W.alloc tDNC) (some ⟨W.heap.size, 0, none⟩) 2 tDN := by
  have hr : ∀ ok, Reps (kTk.M (W.alloc tDNC) W.heap.size ok) 3 tDN [.int .u8 3, .string ⟨#[]⟩, .int .i64 0, .int .u8 2, .string ⟨#[]⟩, .int .i64 (-5)] := fun ok => ((Reps.none _ _).snoc (k51_mkM _ _ ok (⟨3, nil8, 0⟩ : Tok)) rfl).snoc (k51_mkM _ _ ok (⟨2, nil8, -5⟩ : Tok)) rfl
  have h : Kd.R kTk TT (W.alloc tDNC) W.heap.size (fun _ => True) (.slice (some ⟨W.heap.size, 0, none⟩) 2 2) tDN := ⟨fun _ _ => trivial, OwnRow.lit W W.heap.size (hr _) (Nat.le_refl _) (by decide)⟩
  exact (Kd.R_reads' h).2.2
abbrev tAN : List Tok := [⟨1, ⟨#[97]⟩, 0⟩, ⟨2, nil8, -1⟩]
abbrev tANC : Obj := .cells #[.int .u8 1, .string ⟨#[97]⟩, .int .i64 0, .int .u8 2, .string ⟨#[]⟩, .int .i64 (-1)] TT
theorem tAN_row (W : World) : Kd.C kTk (W.alloc tANC) (some ⟨W.heap.size, 0, none⟩) 2 tAN := by
  have hr : ∀ ok, Reps (kTk.M (W.alloc tANC) W.heap.size ok) 3 tAN [.int .u8 1, .string ⟨#[97]⟩, .int .i64 0, .int .u8 2, .string ⟨#[]⟩, .int .i64 (-1)] := fun ok => ((Reps.none _ _).snoc (k51_mkM _ _ ok (⟨1, ⟨#[97]⟩, 0⟩ : Tok)) rfl).snoc (k51_mkM _ _ ok (⟨2, nil8, -1⟩ : Tok)) rfl
  have h : Kd.R kTk TT (W.alloc tANC) W.heap.size (fun _ => True) (.slice (some ⟨W.heap.size, 0, none⟩) 2 2) tAN := ⟨fun _ _ => trivial, OwnRow.lit W W.heap.size (hr _) (Nat.le_refl _) (by decide)⟩
  exact (Kd.R_reads' h).2.2
theorem Text_n (L : List Tok) (n : Nat) (hn : L.length = n) (T : ByteArray) (hT : textL L = T) (A : Option Addr) (c : Nat) (w : World) (hC : LCal w) (hL : Kd.C kTk w A n L) (hc : n ≤ c) (hm : n ≤ 4294967296) (hW : ∀ t ∈ L, TokW t) (hR : ∀ t ∈ L, rightT t = true) :
    Calls Tryz.prog 30 #[.slice A n c] w fun e w' => e = .returned (.string T) ∧ Lt w w' := by
  subst hn
  subst hT
  exact Text_right L A c w hC hL hc hm hW hR
theorem ex0 : lexL (⟨#[103, 114, 111, 117, 112, 40, 51, 44, 32, 100, 97, 121, 41]⟩ : ByteArray).data.toList = (tGR, -1) := by kernel_rfl
theorem ex1 : lexL (⟨#[64, 49, 57, 55, 48, 45, 48, 49, 45, 48, 49, 32, 45, 53]⟩ : ByteArray).data.toList = (tDN, -1) := by kernel_rfl
theorem er0 : lexL (⟨#[97, 32, 48, 53]⟩ : ByteArray).data.toList = ([], 2) := by kernel_rfl
theorem er1 : lexL (⟨#[97, 32, 36]⟩ : ByteArray).data.toList = ([], 2) := by kernel_rfl
theorem er2 : lexL (⟨#[51, 120]⟩ : ByteArray).data.toList = ([], 0) := by kernel_rfl
theorem er3 : lexL (⟨#[64, 49, 57, 55, 48]⟩ : ByteArray).data.toList = ([], 0) := by kernel_rfl
theorem ex2 : textL tAN = ⟨#[97, 32, 45, 49]⟩ := by kernel_rfl
theorem tAN_right : ∀ t ∈ tAN, rightT t = true := by
  intro t ht
  rcases List.mem_cons.1 ht with rfl | ht
  · kernel_rfl
  · rcases List.mem_cons.1 ht with rfl | ht
    · kernel_rfl
    · cases ht
theorem tAN_w : ∀ t ∈ tAN, TokW t := by
  intro t ht
  rcases List.mem_cons.1 ht with rfl | ht
  · exact ⟨by decide, by decide, by decide⟩
  · rcases List.mem_cons.1 ht with rfl | ht
    · exact ⟨by decide, by decide, by decide⟩
    · cases ht
set_option maxHeartbeats 16000000 in
set_option maxRecDepth 100000 in
/-- The chapter's examples. -/
theorem awake_calls (w : World) (hC : LCal w) : Calls Tryz.prog 25 #[] w fun e w' => e = .returned (.bool true) ∧ Lt w w' := by
  have HC := Aside0.mk hC
  have e1 : ∀ args W, (callFunc 65 args).run Tryz.prog W = .ok (.enter 65 args) W := fun args W => by kernel_rfl
  have e2 : ∀ args W, (callFunc 66 args).run Tryz.prog W = .ok (.enter 66 args) W := fun args W => by kernel_rfl
  have e3 : ∀ args W, (callFunc 67 args).run Tryz.prog W = .ok (.enter 67 args) W := fun args W => by kernel_rfl
  clear hC
  go_enter Tryz.func25, Tryz.ntmps25
  go_wp2_with fail
  (with_reducible refine (Words_to _ tGR (-1) 6 rfl ex0 (by decide) _ ?k0).mono ?_)
  case k0 => exact HC.out
  rintro e w1 ⟨B1, d1, rfl, hc, hd1, hl⟩
  have C1 := Aside0.mk hc
  have HT := Aside0.mk hl
  clear hc hl
  go_wp2_with fail
  (with_reducible refine (Words_to _ tDN (-1) 2 rfl ex1 (by decide) _ ?k0).mono ?_)
  case k0 => exact HC.out.l HT.out
  rintro e w2 ⟨B2, d2, rfl, hc, hd2, hl⟩
  have C1 := Aside0.mk (Kd.C_below C1.out hl.out)
  have C2 := Aside0.mk hc
  have HT := Aside0.mk (HT.out.trans hl)
  clear hc hl
  go_wp2_with fail
  (with_reducible refine (name_made _ _).mono ?_)
  rintro e w3 ⟨rfl, hl⟩
  have C1 := Aside0.mk (Kd.C_below C1.out hl.out)
  have C2 := Aside0.mk (Kd.C_below C2.out hl.out)
  have HT := Aside0.mk (HT.out.trans hl)
  clear hl
  go_wp2_with fail
  (with_reducible refine (mark_made _ _).mono ?_)
  rintro e w4 ⟨rfl, hl⟩
  have C1 := Aside0.mk (Kd.C_below C1.out hl.out)
  have C2 := Aside0.mk (Kd.C_below C2.out hl.out)
  have HT := Aside0.mk (HT.out.trans hl)
  clear hl
  go_wp2_with fail
  (with_reducible refine (number_made _ _).mono ?_)
  rintro e w5 ⟨rfl, hl⟩
  have C1 := Aside0.mk (Kd.C_below C1.out hl.out)
  have C2 := Aside0.mk (Kd.C_below C2.out hl.out)
  have HT := Aside0.mk (HT.out.trans hl)
  clear hl
  go_wp2_with fail
  (with_reducible refine (mark_made _ _).mono ?_)
  rintro e w6 ⟨rfl, hl⟩
  have C1 := Aside0.mk (Kd.C_below C1.out hl.out)
  have C2 := Aside0.mk (Kd.C_below C2.out hl.out)
  have HT := Aside0.mk (HT.out.trans hl)
  clear hl
  go_wp2_with fail
  (with_reducible refine (name_made _ _).mono ?_)
  rintro e w7 ⟨rfl, hl⟩
  have C1 := Aside0.mk (Kd.C_below C1.out hl.out)
  have C2 := Aside0.mk (Kd.C_below C2.out hl.out)
  have HT := Aside0.mk (HT.out.trans hl)
  clear hl
  go_wp2_with fail
  (with_reducible refine (mark_made _ _).mono ?_)
  rintro e w8 ⟨rfl, hl⟩
  have C1 := Aside0.mk (Kd.C_below C1.out hl.out)
  have C2 := Aside0.mk (Kd.C_below C2.out hl.out)
  have HT := Aside0.mk (HT.out.trans hl)
  clear hl
  go_wp2_with fail
  (with_reducible refine (same_n tGR 6 rfl _ _ _ _ _ ?s1 ?s2 ?s3 ?s4 ?s5).mono ?_)
  case s1 => exact Kd.C_below C1.out (below_alloc (Below.refl _ _) _)
  case s2 => exact hd1
  case s3 => exact tGR_row w8
  case s4 => decide
  case s5 => decide
  rintro e w9 ⟨rfl, hl⟩
  have hl := ((Lt.refl _).a _).trans hl
  have C1 := Aside0.mk (Kd.C_below C1.out hl.out)
  have C2 := Aside0.mk (Kd.C_below C2.out hl.out)
  have HT := Aside0.mk (HT.out.trans hl)
  clear hl
  go_wp2_with fail
  (with_reducible refine (number_made _ _).mono ?_)
  rintro e w10 ⟨rfl, hl⟩
  have C1 := Aside0.mk (Kd.C_below C1.out hl.out)
  have C2 := Aside0.mk (Kd.C_below C2.out hl.out)
  have HT := Aside0.mk (HT.out.trans hl)
  clear hl
  go_wp2_with fail
  (with_reducible refine (same_n tDN 2 rfl _ _ _ _ _ ?s1 ?s2 ?s3 ?s4 ?s5).mono ?_)
  case s1 => exact Kd.C_below C2.out (below_alloc (Below.refl _ _) _)
  case s2 => exact hd2
  case s3 => exact tDN_row w10
  case s4 => decide
  case s5 => decide
  rintro e w11 ⟨rfl, hl⟩
  have hl := ((Lt.refl _).a _).trans hl
  have C1 := Aside0.mk (Kd.C_below C1.out hl.out)
  have C2 := Aside0.mk (Kd.C_below C2.out hl.out)
  have HT := Aside0.mk (HT.out.trans hl)
  clear hl
  go_wp2_with fail
  refine wp_loop_rounds 5 ?_
  rw [rounds_succ]
  go_wp2_with fail
  (with_reducible refine (Words_to _ [] 2 0 rfl er0 (by decide) _ ?k0).mono ?_)
  case k0 => exact HC.out.l ((HT.out.a _).a _)
  rintro e w12 ⟨Br, dr, rfl, _, _, hl⟩
  have row := Aside0.mk (blk_lt_on hl (blk_alloc (blk_new w11 (.cells #[.string ⟨#[97, 32, 48, 53]⟩, .int .i64 2, .string ⟨#[97, 32, 36]⟩, .int .i64 2, .string ⟨#[51, 120]⟩, .int .i64 0, .string ⟨#[64, 49, 57, 55, 48]⟩, .int .i64 0] 107)) (.cells #[.string ⟨#[97, 32, 48, 53]⟩, .int .i64 2] 107)))
  have hbox := blk_lt_on hl (blk_new (w11.alloc (.cells #[.string ⟨#[97, 32, 48, 53]⟩, .int .i64 2, .string ⟨#[97, 32, 36]⟩, .int .i64 2, .string ⟨#[51, 120]⟩, .int .i64 0, .string ⟨#[64, 49, 57, 55, 48]⟩, .int .i64 0] 107)) (.cells #[.string ⟨#[97, 32, 48, 53]⟩, .int .i64 2] 107))
  rw [show ((w11.alloc (.cells #[.string ⟨#[97, 32, 48, 53]⟩, .int .i64 2, .string ⟨#[97, 32, 36]⟩, .int .i64 2, .string ⟨#[51, 120]⟩, .int .i64 0, .string ⟨#[64, 49, 57, 55, 48]⟩, .int .i64 0] 107))).heap.size = w11.heap.size + 1 from Array.size_push ..] at hbox
  have cb : w12.cell? ⟨w11.heap.size + 1, 1, none⟩ = some (.int .i64 2) := (blk_cell hbox 1).trans rfl
  have HT := Aside0.mk (((HT.out.a _).a _).trans hl)
  clear hl hbox
  have c0 : w12.cell? ⟨w11.heap.size, 2, none⟩ = some (.string ⟨#[97, 32, 36]⟩) := (blk_cell row.out 2).trans rfl
  have c1 : w12.cell? ⟨w11.heap.size, 3, none⟩ = some (.int .i64 2) := (blk_cell row.out 3).trans rfl
  go_wp2_with fail
  rw [rounds_succ]
  go_wp2_with fail
  clear cb c0 c1
  (with_reducible refine (Words_to _ [] 2 0 rfl er1 (by decide) _ ?k0).mono ?_)
  case k0 => exact HC.out.l (HT.out.a _)
  rintro e w13 ⟨Br, dr, rfl, _, _, hl⟩
  have row := Aside0.mk (blk_lt_on hl (blk_alloc row.out (.cells #[.string ⟨#[97, 32, 36]⟩, .int .i64 2] 107)))
  have hbox := blk_lt_on hl (blk_new w12 (.cells #[.string ⟨#[97, 32, 36]⟩, .int .i64 2] 107))
  have cb : w13.cell? ⟨w12.heap.size, 1, none⟩ = some (.int .i64 2) := (blk_cell hbox 1).trans rfl
  have HT := Aside0.mk ((HT.out.a _).trans hl)
  clear hl hbox
  have c0 : w13.cell? ⟨w11.heap.size, 4, none⟩ = some (.string ⟨#[51, 120]⟩) := (blk_cell row.out 4).trans rfl
  have c1 : w13.cell? ⟨w11.heap.size, 5, none⟩ = some (.int .i64 0) := (blk_cell row.out 5).trans rfl
  go_wp2_with fail
  rw [rounds_succ]
  go_wp2_with fail
  clear cb c0 c1
  (with_reducible refine (Words_to _ [] 0 0 rfl er2 (by decide) _ ?k0).mono ?_)
  case k0 => exact HC.out.l (HT.out.a _)
  rintro e w14 ⟨Br, dr, rfl, _, _, hl⟩
  have row := Aside0.mk (blk_lt_on hl (blk_alloc row.out (.cells #[.string ⟨#[51, 120]⟩, .int .i64 0] 107)))
  have hbox := blk_lt_on hl (blk_new w13 (.cells #[.string ⟨#[51, 120]⟩, .int .i64 0] 107))
  have cb : w14.cell? ⟨w13.heap.size, 1, none⟩ = some (.int .i64 0) := (blk_cell hbox 1).trans rfl
  have HT := Aside0.mk ((HT.out.a _).trans hl)
  clear hl hbox
  have c0 : w14.cell? ⟨w11.heap.size, 6, none⟩ = some (.string ⟨#[64, 49, 57, 55, 48]⟩) := (blk_cell row.out 6).trans rfl
  have c1 : w14.cell? ⟨w11.heap.size, 7, none⟩ = some (.int .i64 0) := (blk_cell row.out 7).trans rfl
  go_wp2_with fail
  rw [rounds_succ]
  go_wp2_with fail
  clear cb c0 c1
  (with_reducible refine (Words_to _ [] 0 0 rfl er3 (by decide) _ ?k0).mono ?_)
  case k0 => exact HC.out.l (HT.out.a _)
  rintro e w15 ⟨Br, dr, rfl, _, _, hl⟩
  have row := Aside0.mk (blk_lt_on hl (blk_alloc row.out (.cells #[.string ⟨#[64, 49, 57, 55, 48]⟩, .int .i64 0] 107)))
  have hbox := blk_lt_on hl (blk_new w14 (.cells #[.string ⟨#[64, 49, 57, 55, 48]⟩, .int .i64 0] 107))
  have cb : w15.cell? ⟨w14.heap.size, 1, none⟩ = some (.int .i64 0) := (blk_cell hbox 1).trans rfl
  have HT := Aside0.mk ((HT.out.a _).trans hl)
  clear hl hbox
  go_wp2_with fail
  rw [rounds_succ]
  go_wp2_with fail
  clear cb
  (with_reducible refine (name_made _ _).mono ?_)
  rintro e w16 ⟨rfl, hl⟩
  have HT := Aside0.mk (HT.out.trans hl)
  clear hl
  go_wp2_with fail
  (with_reducible refine (number_made _ _).mono ?_)
  rintro e w17 ⟨rfl, hl⟩
  have HT := Aside0.mk (HT.out.trans hl)
  clear hl
  go_wp2_with fail
  (with_reducible refine (Text_n tAN 2 rfl _ ex2 _ 2 _ ?k0 ?k1 ?k2 ?k3 tAN_w tAN_right).mono ?_)
  case k0 => exact HC.out.l (HT.out.a _)
  case k1 => exact tAN_row w17
  case k2 => decide
  case k3 => decide
  rintro e w18 ⟨rfl, hl⟩
  have HT := Aside0.mk ((HT.out.a _).trans hl)
  clear hl
  go_wp2_with fail
  go_ret
  exact ⟨rfl, HT.out⟩
end Go.Proofs.YtcinojbfjiohjaaGreatDoor.Lx
end

section
namespace Go.Proofs.YtcinojbfjiohjaaGreatDoor.Lx
open Go Go.RowKit Go.Proofs.YtcinojbfjiohjaaGreatDoor.PPrintTells Go.Proofs.YtcinojbfjiohjaaGreatDoor.Ex Go.Proofs.YtcinojbfjiohjaaGreatDoor.Civ Go.Proofs.YtcinojbfjiohjaaGreatDoorW.PrintWords Go.Proofs.YtcinojbfjiohjaaGreatDoorW.PrintLast Go.Proofs.YtcinojbfjiohjaaGreatDoorW.PrintMore
set_option linter.unusedVariables false
set_option linter.unusedSimpArgs false
set_option maxHeartbeats 8000000 in
set_option maxRecDepth 100000 in
/-- The first word that is to go. -/
theorem IndexFunc_to (L : List Tok) (N : Nat) (hN : L.length = N) (A : Option Addr) (c : Nat) (w : World) (hC : LCal w) (hL : Kd.C kTk w A N L) (hc : N ≤ c) (hW : ∀ t ∈ L, TokW t) (n : Nat) (hn : n < N) (hR : ∀ i (h : i < L.length), i < n → rightT L[i] = true) (hX : ∀ (h : n < L.length), rightT L[n] = false) :
    Calls Tryz.prog 120 #[.slice A N c, .func (.func 74) #[] #[]] w fun e w' => e = .returned (.int .i64 (n : Int)) ∧ Lt w w' := by
  have eg : ∀ args w, (callFunc 74 args).run Tryz.prog w = .ok (.enter 74 args) w := fun args w => by kernel_rfl
  rw [← hN] at hL
  have hm := hL.2.1
  have HC := Aside0.mk hC
  have HL := Aside0.mk hL
  have HW := Aside0.mk hW
  have HR := Aside0.mk hR
  have HX := Aside0.mk hX
  have HN := Aside0.mk hN
  rw [hN] at hm
  clear hC hL hW hR hX hN
  go_enter Tryz.func120, Tryz.ntmps120
  go_wp2_with fail
  go_loopw [8] (fun i wr => ∃ k : Nat, k ≤ n ∧ i = .int .i64 (k : Int) ∧ Lt w wr) (fun i _ => N - (intOf i).toNat)
  case atStart => exact ⟨0, Nat.zero_le _, rfl, Lt.refl _⟩
  case round =>
    obtain ⟨k, hk, rfl, hlt⟩ := hrel
    have HT := Aside0.mk hlt
    clear hlt
    have hkL : k < L.length := by have := HN.out; omega
    have h1 : (k : Int) < (N : Int) := by omega
    have h2 : decide ((k : Int) < (N : Int)) = true := decide_eq_true h1
    obtain ⟨ad, rfl, c0, c1, c2⟩ := tok_at HL.out k hkL
    have hmem : L[k]'hkL ∈ L := List.getElem_mem _
    obtain ⟨t, ht⟩ : ∃ t, t = L[k]'hkL := ⟨_, rfl⟩
    rw [← ht] at c0 c1 c2 hmem
    have d0 := cell_lt HT.out c0
    have d1 := cell_lt HT.out c1
    have d2 := cell_lt HT.out c2
    have CD := Aside0.mk (del_calls t (HW.out t hmem) wr (HC.out.l HT.out))
    by_cases hkn : k < n
    · have hr : rightT t = true := by rw [ht]; exact HR.out k hkL hkn
      rw [hr] at CD
      clear c0 c1 c2 ht hmem hr hkL
      go_wp2_with fail
      (with_reducible refine CD.out.mono ?_)
      rintro e w1 ⟨rfl, hl⟩
      have HT := Aside0.mk (HT.out.trans hl)
      clear hl CD d0 d1 d2
      go_wp2
      go_roundw
      case rel => exact ⟨k + 1, by omega, by go_num, HT.out⟩
      case measure => simp [intOf]; omega
    · obtain rfl : k = n := by omega
      have hr : rightT t = false := by rw [ht]; exact HX.out hkL
      rw [hr] at CD
      clear c0 c1 c2 ht hmem hr hkL
      go_wp2_with fail
      (with_reducible refine CD.out.mono ?_)
      rintro e w1 ⟨rfl, hl⟩
      have HT := Aside0.mk (HT.out.trans hl)
      clear hl CD d0 d1 d2
      go_wp2_with fail
      go_ret
      exact ⟨rfl, HT.out⟩
end Go.Proofs.YtcinojbfjiohjaaGreatDoor.Lx
end

section
namespace Go.Proofs.YtcinojbfjiohjaaGreatDoor.Lx
open Go Go.RowKit Go.Proofs.YtcinojbfjiohjaaGreatDoor.PPrintTells Go.Proofs.YtcinojbfjiohjaaGreatDoor.Ex Go.Proofs.YtcinojbfjiohjaaGreatDoor.Civ Go.Proofs.YtcinojbfjiohjaaGreatDoorW.PrintWords Go.Proofs.YtcinojbfjiohjaaGreatDoorW.PrintLast Go.Proofs.YtcinojbfjiohjaaGreatDoorW.PrintMore
set_option linter.unusedVariables false
set_option linter.unusedSimpArgs false
/-- clear of a row of words: cells from a place on are turned, and no others. -/
theorem clear_tok (W : World) (g o n c : Nat) (cs : Array Value) (hb : W.heap[g]? = some (.cells cs TT (0, 0))) (hn : 0 < n) (hl : o + n * 3 ≤ cs.size) :
    ∃ seg, seg.length = n * 3 ∧ ∀ ty, (Builtin.clear_ #[32] ty #[.slice (some ⟨g, o, none⟩) n c]).run Tryz.prog W = .ok (.tuple #[]) (W.setCells g o seg) := by
  obtain ⟨seg, hseg⟩ : ∃ seg, seg = (Builtin.zeroCells (Value.agg #[.int .u8 0, .string nil8, .int .i64 0]).cells n).toList := ⟨_, rfl⟩
  have hzl : seg.length = n * 3 := by
    rw [hseg]
    unfold Builtin.zeroCells
    rw [Array.length_toList, Array.size_map, Array.size_range]
    rfl
  have h1 : ∀ v ∈ seg, v.oneCell' = true := by
    intro v hv
    rw [hseg] at hv
    unfold Builtin.zeroCells at hv
    rw [Array.mem_toList_iff, Array.mem_map] at hv
    obtain ⟨i, _, rfl⟩ := hv
    have h3 : i % 3 = 0 ∨ i % 3 = 1 ∨ i % 3 = 2 := by omega
    show ((#[Value.int .u8 0, .string nil8, .int .i64 0] : Array Value)[i % 3]!).oneCell' = true
    rcases h3 with h | h | h <;> rw [h] <;> rfl
  refine ⟨seg, hzl, fun ty => ?_⟩
  have hst := run_storeCells_cells (P := Tryz.prog) g o seg 0 W (fun j hj => by rw [cell_of_row W g _ cs TT (0, 0) hb]; rw [hzl] at hj; simp; omega) (fun j _ => blk_frozen hb _) h1
  simp only [Nat.add_zero] at hst
  have hv : (zeroValue TT).run Tryz.prog W = .ok (.agg #[.int .u8 0, .string nil8, .int .i64 0]) W := by kernel_rfl
  obtain ⟨m, rfl⟩ : ∃ m, n = m + 1 := ⟨n - 1, by omega⟩
  have hu : Tryz.prog.underlying 32 = some (.slice TT) := Tryz.underlying32
  simp [Builtin.clear_, run_underlying hu, hv, ← hseg, hst]
theorem C_cleared {W : World} {g m : Nat} {xs : List Tok} (seg : List Value) (h : Kd.C kTk W (some ⟨g, 0, none⟩) xs.length xs) (hm : m ≤ xs.length) : Kd.C kTk (W.setCells g (m * 3) seg) (some ⟨g, 0, none⟩) m (xs.take m) := by
  have h' := Kd.C_take h hm
  have hl : (xs.take m).length = m := by rw [List.length_take]; omega
  rw [hl] at h'
  refine ⟨hl, h'.2.1, fun hp => ?_⟩
  obtain ⟨ad, hA, hc⟩ := h'.2.2 hp
  obtain rfl := Option.some.inj hA
  refine ⟨_, rfl, fun j p hj => ?_⟩
  obtain ⟨cs, h1, h2, h3⟩ := hc j p hj
  have hjm : j < m := by have := (List.getElem?_eq_some_iff.1 hj).1; omega
  have hcs := k51_open h2
  refine ⟨cs, h1, by rw [hcs]; exact k51_mk _ p, fun i u hu => ?_⟩
  rw [← h3 i u hu]
  have h1 : cs.length = 3 := h1
  have hi : i < 3 := by have := (List.getElem?_eq_some_iff.1 hu).1; omega
  have hsz : kTk.sz = 3 := rfl
  rw [hsz]
  refine World.cell?_setCells_out g seg (m * 3) W _ (fun _ _ => .inl ?_)
  unfold Addr.add
  split
  · show 0 < m * 3
    omega
  · show 0 + (j * 3 + i) < m * 3
    omega
theorem Lt_cells {w : World} {g : Nat} (hg : w.heap.size ≤ g) : ∀ (seg : List Value) (o : Nat) {W : World}, Lt w W → Lt w (W.setCells g o seg)
  | [], _, _, h => h
  | v :: r, o, W, h => by
    rw [World.setCells]
    exact Lt_cells hg r (o + 1) (Lt_s h hg)
theorem take_set_one : ∀ (xs : List Tok) (i : Nat) (t : Tok), i < xs.length → (xs.set i t).take (i + 1) = xs.take i ++ [t]
  | [], i, t, h => absurd h (Nat.not_lt_zero _)
  | x :: xs, 0, t, h => by simp
  | x :: xs, i + 1, t, h => by
    rw [List.length_cons] at h
    rw [List.set_cons_succ, List.take_succ_cons, List.take_succ_cons, take_set_one xs i t (by omega)]
    rfl
theorem drop_set_far (xs : List Tok) (i j : Nat) (t : Tok) (h : i < j) : (xs.set i t).drop j = xs.drop j := by
  apply List.ext_getElem?
  intro k
  rw [List.getElem?_drop, List.getElem?_drop, List.getElem?_set_ne (by omega)]
theorem filt_succ (L : List Tok) (j : Nat) (h : j < L.length) : (L.take (j + 1)).filter rightT = (L.take j).filter rightT ++ (if rightT L[j] = true then [L[j]] else []) := by
  rw [List.take_add_one, List.getElem?_eq_getElem h, List.filter_append]
  congr 1
  by_cases hr : rightT L[j] = true
  · rw [if_pos hr]; simp [hr]
  · rw [if_neg hr]; simp [hr]
/-- Where the loop is: the right ones of what it has seen stand ahead; what it has not seen stands as it was. -/
structure DelAt (w0 : World) (g N cap : Nat) (L : List Tok) (i j : Nat) (W : World) (xs : List Tok) : Prop where
  row : Kd.R kTk TT W w0.heap.size (fun _ => True) (.slice (some ⟨g, 0, none⟩) N cap) xs
  len : xs.length = N
  hij : i < j
  hj : j ≤ N
  pre : xs.take i = (L.take j).filter rightT
  post : xs.drop j = L.drop j
  lt : Lt w0 W
theorem DelAt.below {w0 W W2 : World} {g N cap i j : Nat} {L xs : List Tok} (h : DelAt w0 g N cap L i j W xs) (hl : Lt W W2) : DelAt w0 g N cap L i j W2 xs := ⟨Kd.R_below h.row hl.out, h.len, h.hij, h.hj, h.pre, h.post, h.lt.trans hl⟩
theorem DelAt.skip {w0 W : World} {g N cap i j : Nat} {L xs : List Tok} (h : DelAt w0 g N cap L i j W xs) (hL : L.length = N) (hjN : j < N) (hr : rightT (L[j]'(by omega)) = false) : DelAt w0 g N cap L i (j + 1) W xs :=
  ⟨h.row, h.len, by have := h.hij; omega, hjN, by rw [filt_succ L j (by omega), if_neg (by rw [hr]; decide), List.append_nil]; exact h.pre, by rw [List.drop_add_one_eq_tail_drop, List.drop_add_one_eq_tail_drop, h.post], h.lt⟩
theorem DelAt.put {w0 W W2 : World} {g N cap i j : Nat} {L xs : List Tok} (h : DelAt w0 g N cap L i j W xs) (hL : L.length = N) (hjN : j < N) (hr : rightT (L[j]'(by omega)) = true)
    (hrow : Kd.R kTk TT W2 w0.heap.size (fun _ => True) (.slice (some ⟨g, 0, none⟩) N cap) (xs.set i (L[j]'(by omega)))) (hl : Lt w0 W2) : DelAt w0 g N cap L (i + 1) (j + 1) W2 (xs.set i (L[j]'(by omega))) :=
  ⟨hrow, by rw [List.length_set]; exact h.len, by have := h.hij; omega, hjN, by rw [take_set_one _ _ _ (by have := h.len; have := h.hij; omega), filt_succ L j (by omega), if_pos hr, h.pre],
    by rw [drop_set_far _ _ _ _ (by have := h.hij; omega), List.drop_add_one_eq_tail_drop, List.drop_add_one_eq_tail_drop, h.post], hl⟩
theorem DelAt.get {w0 W : World} {g N cap i j : Nat} {L xs : List Tok} (h : DelAt w0 g N cap L i j W xs) (hL : L.length = N) (hjN : j < N) : W.cell? ⟨g, j * 3, none⟩ = some (.int .u8 (L[j]'(by omega)).f0) ∧ W.cell? ⟨g, j * 3 + 1, none⟩ = some (.string (L[j]'(by omega)).f1) ∧ W.cell? ⟨g, j * 3 + 2, none⟩ = some (.int .i64 (L[j]'(by omega)).f2) := by
  have hl := h.len
  have e : xs[j]'(by omega) = L[j]'(by omega) := by
    have h1 := congrArg (fun l => l[0]?) h.post
    simp only [List.getElem?_drop, Nat.add_zero] at h1
    rw [List.getElem?_eq_getElem (by omega), List.getElem?_eq_getElem (by omega)] at h1
    exact Option.some.inj h1
  obtain ⟨ad, hA, c0, c1, c2⟩ := tok_at (Kd.R_reads' h.row).2.2 j (by omega)
  obtain rfl := Option.some.inj hA
  rw [e] at c0 c1 c2
  have ha : (⟨g, 0, none⟩ : Addr).add (j * 3) = ⟨g, j * 3, none⟩ := by
    unfold Addr.add
    split
    · rename_i h0
      rw [h0]
    · rw [Nat.zero_add]
  rw [ha] at c0 c1 c2
  exact ⟨c0, c1, c2⟩
end Go.Proofs.YtcinojbfjiohjaaGreatDoor.Lx
end

section
namespace Go.Proofs.YtcinojbfjiohjaaGreatDoor.Lx
open Go Go.RowKit Go.Proofs.YtcinojbfjiohjaaGreatDoor.PPrintTells Go.Proofs.YtcinojbfjiohjaaGreatDoor.Ex Go.Proofs.YtcinojbfjiohjaaGreatDoor.Civ Go.Proofs.YtcinojbfjiohjaaGreatDoorW.PrintWords Go.Proofs.YtcinojbfjiohjaaGreatDoorW.PrintLast Go.Proofs.YtcinojbfjiohjaaGreatDoorW.PrintMore
set_option linter.unusedVariables false
set_option linter.unusedSimpArgs false
theorem one_digit : ∀ u : Fin 10, strOfNums [(48 + (((u.val : Nat) : Int) % 256)) % 256] = toB [UInt8.ofNat (48 + u.val)] := by decide +kernel
theorem tdN (u : Nat) : Int.tdiv (u : Int) 10 = ((u / 10 : Nat) : Int) := rfl
theorem tmN (u : Nat) : Int.tmod (u : Int) 10 = ((u % 10 : Nat) : Int) := rfl
theorem tdG (u : Nat) : Int.tdiv (-(u : Int)) 10 = -((u / 10 : Nat) : Int) := by rw [Int.neg_tdiv]; rfl
theorem tmG (u : Nat) : Int.tmod (-(u : Int)) 10 = -((u % 10 : Nat) : Int) := by rw [Int.neg_tmod]; rfl
theorem told_pos (m : Nat) : ∀ (u k : Nat), u < 10 ^ (m + 1) → u ≤ 9223372036854775807 → m + 2 ≤ k → epactref10_told.f k (u : Int) = some (toB (Lib.decDigits u)) := by
  induction m with
  | zero =>
    intro u k hu h64 hk
    obtain ⟨k, rfl⟩ : ∃ j, k = j + 1 := ⟨k - 1, by omega⟩
    have hu : u < 10 := hu
    rw [epactref10_told.f, if_neg (by omega), if_pos (by omega), dec_one hu]
    exact congrArg some (one_digit ⟨u, hu⟩)
  | succ m ih =>
    intro u k hu h64 hk
    by_cases h10 : u < 10
    · exact ih u k (Nat.lt_of_lt_of_le h10 (Nat.le_self_pow (by omega) 10)) h64 (by omega)
    obtain ⟨k, rfl⟩ : ∃ j, k = j + 1 := ⟨k - 1, by omega⟩
    obtain ⟨k, rfl⟩ : ∃ j, k = j + 1 := ⟨k - 1, by omega⟩
    have e1 : wrap64 (Int.tdiv (u : Int) 10) = ((u / 10 : Nat) : Int) := by
      rw [tdN, w64 (by omega) (by omega)]
    have e2 : Int.tmod (u : Int) 10 = ((u % 10 : Nat) : Int) := tmN u
    have h1 := ih (u / 10) (k + 1) (by rw [Nat.pow_succ] at hu; omega) (by omega) (by omega)
    have h2 : epactref10_told.f (k + 1) ((u % 10 : Nat) : Int) = some (toB (Lib.decDigits (u % 10))) := by
      rw [epactref10_told.f, if_neg (by omega), if_pos (by omega), dec_one (by omega)]
      exact congrArg some (one_digit ⟨u % 10, by omega⟩)
    have hl1 := decDigits_len 20 (u / 10) (by omega) (by omega)
    have hl2 := decDigits_len 20 (u % 10) (by omega) (by omega)
    rw [epactref10_told.f, if_neg (by omega), if_neg (by omega), e1, e2, h1, Option.bind_some, h2, Option.bind_some, texts_bytes, texts_bytes, if_pos (by omega), toB_app, dec_more h10, dec_one (show u % 10 < 10 by omega)]
theorem told_neg (m : Nat) : ∀ (u k : Nat), 0 < u → u < 10 ^ (m + 1) → u ≤ 9223372036854775808 → m + 3 ≤ k → epactref10_told.f k (-(u : Int)) = some (toB (45 :: Lib.decDigits u)) := by
  induction m with
  | zero =>
    intro u k h0 hu h64 hk
    obtain ⟨k, rfl⟩ : ∃ j, k = j + 1 := ⟨k - 1, by omega⟩
    have hu : u < 10 := hu
    have e1 : wrap64 (Int.tdiv (-(u : Int)) 10) = 0 := by
      rw [tdG, w64 (by omega) (by omega)]
      omega
    have e2 : wrap64 (-(-(u : Int))) = (u : Int) := by rw [w64 (by omega) (by omega)]; omega
    have h1 := told_pos 0 u k (by omega) (by omega) (by omega)
    have hl1 := decDigits_len 20 u (by omega) (by omega)
    rw [epactref10_told.f, if_pos (by omega), if_pos e1, e2, h1, Option.bind_some, texts_bytes, if_pos (by omega)]
    show some (toB [45] ++ toB (Lib.decDigits u)) = _
    rw [toB_app]
    rfl
  | succ m ih =>
    intro u k h0 hu h64 hk
    by_cases h10 : u < 10
    · exact ih u k h0 (Nat.lt_of_lt_of_le h10 (Nat.le_self_pow (by omega) 10)) h64 (by omega)
    obtain ⟨k, rfl⟩ : ∃ j, k = j + 1 := ⟨k - 1, by omega⟩
    have e1 : wrap64 (Int.tdiv (-(u : Int)) 10) = -((u / 10 : Nat) : Int) := by
      rw [tdG, w64 (by omega) (by omega)]
    have e2 : wrap64 (-(Int.tmod (-(u : Int)) 10)) = ((u % 10 : Nat) : Int) := by
      rw [tmG, w64 (by omega) (by omega)]
      omega
    have h1 := ih (u / 10) k (by omega) (by rw [Nat.pow_succ] at hu; omega) (by omega) (by omega)
    have h2 := told_pos 0 (u % 10) k (by omega) (by omega) (by omega)
    have hl1 := decDigits_len 20 (u / 10) (by omega) (by omega)
    have hl2 := decDigits_len 20 (u % 10) (by omega) (by omega)
    rw [epactref10_told.f, if_pos (by omega), e1, if_neg (by omega), h1, Option.bind_some, e2, h2, Option.bind_some, texts_bytes, texts_bytes, if_pos (by rw [List.length_cons]; omega), toB_app, dec_more h10, dec_one (show u % 10 < 10 by omega), List.cons_append]
/-- The document's digits of a number. -/
theorem told_r (n : Int) (h0 : -9223372036854775808 ≤ n) (h1 : n ≤ 9223372036854775807) (k : Nat) (hk : 30 ≤ k) : epactref10_told.f k n = some (toB (Lib.itoa n)) := by
  by_cases hn : n < 0
  · obtain ⟨u, rfl⟩ : ∃ u : Nat, n = -(u : Int) := ⟨n.natAbs, by omega⟩
    rw [Lib.itoa_neg u (by omega)]
    exact told_neg 19 u k (by omega) (by omega) (by omega) (by omega)
  · obtain ⟨u, rfl⟩ : ∃ u : Nat, n = (u : Int) := ⟨n.toNat, by omega⟩
    rw [Lib.itoa_nonneg u]
    exact told_pos 19 u k (by omega) (by omega) (by omega)
theorem textsL_pos (n : Int) : decide ((((textsL n).map toB).length : Int) > 0) = decide ((textF n).2 = 0) := by
  unfold textsL textF
  by_cases hn : In n
  · rw [if_pos hn, if_pos hn]
    rw [decide_eq_true (by simp; omega), decide_eq_true rfl]
  · rw [if_neg hn, if_neg hn]
    rfl
theorem texts_head {n : Int} (hn : In n) : rdOf ByteArray.empty ((textsL n).map toB) 0 = (textF n).1 := by
  have h0 : textsL n = form1 n :: (form2 n :: (if InY (wyr n) then [form3 n] else [])) := by unfold textsL; rw [if_pos hn]
  rw [h0, text_form hn]
  rfl
theorem list_nil (s : ByteArray) : (s.toList == ([] : List UInt8)) = s.toList.isEmpty := beq_nil _
/-- The document's right words. -/
theorem Right_r (t : Tok) (hW : TokW t) (k : Nat) (hk : 1000010 ≤ k) : epactref10_Right.f k t.f0 t.f1 t.f2 = some (rightT t) := by
  obtain ⟨c, s, n⟩ := t
  have hz := hW.sz
  dsimp only at hz
  have hsz : s.size = s.data.toList.length := (Array.length_toList).symm
  unfold epactref10_Right.f rightT textT
  dsimp only
  by_cases h1 : c = 1
  · rw [if_pos h1, if_pos h1]
    by_cases hn : n = 0
    · rw [if_pos hn, refName_f s k (by omega), Option.bind_some, decide_eq_true hn, Bool.and_true]
      unfold nameB
      rw [nameL_eq]
      congr 2
      rw [Bool.eq_iff_iff, decide_eq_true_eq]
      constructor
      · intro h
        have := span_all letterB s.data.toList [] h (fun b hb => by cases hb)
        rw [List.append_nil] at this
        omega
      · intro h
        exact span_full letterB _ (by omega)
    · rw [if_neg hn, decide_eq_false hn, Bool.and_false, Bool.false_and]
  · rw [if_neg h1, if_neg h1]
    by_cases h2 : c = 2
    · rw [if_pos h2, if_pos h2, list_nil]
    · rw [if_neg h2, if_neg h2]
      by_cases h3 : c = 3
      · rw [if_pos h3, if_pos h3]
        by_cases hs : s.toList = []
        · rw [if_pos hs, Texts_r k n hk, Option.bind_some, textsL_pos, hs]
          show _ = some (decide ((textF n).2 = 0) && true)
          rw [Bool.and_true]
        · rw [if_neg hs]
          have : s.toList.isEmpty = false := by
            cases h : s.toList with
            | nil => exact absurd h hs
            | cons _ _ => rfl
          rw [this, Bool.and_false]
      · rw [if_neg h3, if_neg h3]
        by_cases h4 : c = 4
        · rw [if_pos h4, if_pos h4]
          by_cases hn : n = 0
          · rw [if_pos hn, decide_eq_true hn, Bool.true_and]
            by_cases h5 : s.size = 1
            · rw [if_pos (by omega), if_pos (by omega), decide_eq_true h5, Bool.true_and]
              cases hd : s.data.toList with
              | nil => rw [hd, h5] at hsz; cases hsz
              | cons b l =>
                have hl : l = [] := List.eq_nil_of_length_eq_zero (by rw [hd] at hsz; simp at hsz; omega)
                have hb : bt s 0 = (b.toNat : Int) := by
                  have := bt_data s 0 (by rw [hd]; simp)
                  rw [show ((0 : Nat) : Int) = 0 from rfl] at this
                  rw [this]
                  simp [hd]
                rw [hb, mark_r, Option.bind_some, hl]
                simp
            · rw [if_neg (by omega), decide_eq_false h5, Bool.false_and]
          · rw [if_neg hn, decide_eq_false hn, Bool.false_and, Bool.false_and]
        · rw [if_neg h4, if_neg h4]
theorem join_snoc (X : List (List UInt8)) (x : List UInt8) : Lib.join (X ++ [x]) [32] = if X = [] then x else Lib.join X [32] ++ ([32] ++ x) := by
  cases X with
  | nil => rw [if_pos rfl]; exact Lib.join_one x [32]
  | cons y Y =>
    rw [if_neg (List.cons_ne_nil _ _), List.cons_append, Lib.join_cons, Lib.join_cons, List.append_assoc]
    congr 1
    unfold Lib.joinTail
    rw [List.map_append, List.flatten_append]
    simp
/-- The text of words, as letters. -/
def textJ (F : List Tok) : List UInt8 := Lib.join (F.map (fun t => (textT t).1.data.toList)) [32]
theorem textJ_snoc (F : List Tok) (t : Tok) : textJ (F ++ [t]) = if F = [] then (textT t).1.data.toList else textJ F ++ ([32] ++ (textT t).1.data.toList) := by
  unfold textJ
  rw [List.map_append, List.map_singleton, join_snoc]
  by_cases h : F = []
  · rw [if_pos h, if_pos (by rw [h]; rfl)]
  · rw [if_neg h, if_neg (by simpa using h)]
theorem textJ_len (F : List Tok) (hW : ∀ t ∈ F, TokW t) (hR : ∀ t ∈ F, rightT t = true) : (textJ F).length ≤ 301 * F.length := by
  have h := join_len (F.map (fun t => (textT t).1.data.toList)) (fun x hx => by
    obtain ⟨t, ht, rfl⟩ := List.mem_map.1 hx
    have := right_short (hW t ht) (hR t ht)
    rw [Array.length_toList]
    exact this)
  rw [List.length_map] at h
  exact h
theorem right_ne {t : Tok} (hW : TokW t) (hR : rightT t = true) : (textT t).1.data.toList ≠ [] := by
  obtain ⟨b, l, h, _⟩ := next_text t hW hR [] (fun b hb => by cases hb)
  rw [h]
  exact List.cons_ne_nil _ _
theorem textJ_ne (F : List Tok) (hW : ∀ t ∈ F, TokW t) (hR : ∀ t ∈ F, rightT t = true) (hF : F ≠ []) : textJ F ≠ [] := by
  cases F with
  | nil => exact absurd rfl hF
  | cons t F =>
    have h := right_ne (hW t (by simp)) (hR t (by simp))
    unfold textJ
    rw [List.map_cons, Lib.join_cons]
    intro hh
    exact h (List.append_eq_nil_iff.1 hh).1
theorem filt_none (L : List Tok) (j : Nat) (h : j < L.length) (hr : rightT L[j] = false) : (L.take (j + 1)).filter rightT = (L.take j).filter rightT := by
  rw [filt_succ L j h, if_neg (by rw [hr]; decide), List.append_nil]
theorem filt_some (L : List Tok) (j : Nat) (h : j < L.length) (hr : rightT L[j] = true) : (L.take (j + 1)).filter rightT = (L.take j).filter rightT ++ [L[j]] := by
  rw [filt_succ L j h, if_pos hr]
set_option maxRecDepth 10000 in
theorem text_j1 (L : List Tok) (i : Nat) (hi : i < L.length) (hW : TokW L[i]) (hR : rightT L[i] = true) (s : List UInt8) (hs : s.length ≤ 1000000000) (k : Nat) (hk : 1000012 ≤ k) (hl : L.length ≤ 1000000) :
    epactref10_Text.j1 k L (toB s) (i : Nat) = epactref10_Text.l0 (k - 1) L (toB (s ++ (textT L[i]).1.data.toList)) ((i + 1 : Nat) : Int) := by
  obtain ⟨k, rfl⟩ : ∃ j, k = j + 1 := ⟨k - 1, by omega⟩
  have er : rd_T51 L (i : Int) = L[i] := by
    unfold rd_T51
    rw [Int.toNat_natCast, List.getD_eq_getElem?_getD, List.getElem?_eq_getElem hi]
    rfl
  have hsh := right_short hW hR
  have e2 : wrap64 ((i : Int) + 1) = ((i + 1 : Nat) : Int) := by
    rw [w64 (by omega) (by omega)]
    omega
  rw [epactref10_Text.j1, if_pos (by omega), if_pos (by omega), er, e2, Nat.add_sub_cancel]
  obtain ⟨t, ht⟩ : ∃ t, t = L[i] := ⟨_, rfl⟩
  rw [← ht] at hW hR hsh ⊢
  obtain ⟨c, z, n⟩ := t
  have h64 := hW.n0
  have h65 := hW.n1
  unfold rightT textT at hR
  unfold textT at hsh ⊢
  dsimp only at hR hsh h64 h65 ⊢
  by_cases h2 : c = 2
  · rw [if_neg (show ¬ c = 1 by omega), if_pos h2] at hsh ⊢
    have hsh : (Lib.itoa n).toArray.size ≤ 300 := hsh
    rw [List.size_toArray] at hsh
    rw [if_pos h2, told_r n h64 h65 k (by omega), Option.bind_some, texts_bytes, texts_bytes, if_pos (by omega), toB_app]
  · rw [if_neg h2]
    by_cases h3 : c = 3
    · rw [if_neg (show ¬ c = 1 by omega), if_neg h2, if_pos h3] at hR hsh ⊢
      rw [Bool.and_eq_true, decide_eq_true_eq] at hR
      have hn : In n := by
        by_cases hn : In n
        · exact hn
        · have h := hR.1
          unfold textF at h
          rw [if_neg hn] at h
          cases h
      dsimp only at hsh
      rw [ByteArray.size_append] at hsh
      have hp := textsL_pos n
      rw [decide_eq_true hR.1, decide_eq_true_eq] at hp
      have eb : (textF n).1 = toB (textF n).1.data.toList := by cases (textF n).1; rfl
      have el : (textF n).1.size = (textF n).1.data.toList.length := (Array.length_toList).symm
      have e64 : (⟨#[64]⟩ : ByteArray) = toB [64] := rfl
      have hAT : AT.size = 1 := rfl
      rw [if_pos h3, texts_bytes, if_pos (by omega), Texts_r k n (by omega), Option.bind_some, if_pos (by omega), texts_head hn, e64, toB_app, texts_bytes, if_pos (by rw [List.length_append]; simp; omega), eb, toB_app]
      congr 2
      have e5 : (AT ++ toB (textF n).1.data.toList) = toB ([64] ++ (textF n).1.data.toList) := by
        rw [← toB_app]
        rfl
      rw [e5, toB_list, List.append_assoc]
    · rw [if_neg h3]
      have ez : z = toB z.data.toList := by cases z; rfl
      have el : z.size = z.data.toList.length := (Array.length_toList).symm
      have hz : (if c = 1 then (z, namedL z.data.toList && decide (n = 0) && decide (spanN letterB z.data.toList = z.size))
          else if c = 2 then ((⟨(Lib.itoa n).toArray⟩ : ByteArray), z.toList.isEmpty)
          else if c = 3 then (AT ++ (textF n).1, decide ((textF n).2 = 0) && z.toList.isEmpty)
          else if c = 4 then (z, decide (n = 0) && decide (z.size = 1) && z.data.toList.all markB) else (nil8, false)).1 = z := by
        rw [if_neg h2, if_neg h3] at hR ⊢
        by_cases h1 : c = 1
        · rw [if_pos h1]
        · rw [if_neg h1] at hR ⊢
          by_cases h4 : c = 4
          · rw [if_pos h4]
          · rw [if_neg h4] at hR; cases hR
      rw [hz] at hsh ⊢
      rw [texts_bytes, if_pos (by omega)]
      congr 1
set_option maxRecDepth 10000 in
theorem text_l0 (K : Nat) (hK : 1000014 ≤ K) (L : List Tok) (hl : L.length ≤ 1000000) (hW : ∀ t ∈ L, TokW t) : ∀ (m i : Nat), i + m = L.length → ∀ k : Nat, 2 * m + K ≤ k →
    epactref10_Text.l0 k L (toB (textJ ((L.take i).filter rightT))) (i : Nat) = some (toB (textJ (L.filter rightT))) := by
  intro m
  induction m with
  | zero =>
    intro i hi k hk
    obtain ⟨k, rfl⟩ : ∃ j, k = j + 1 := ⟨k - 1, by omega⟩
    rw [epactref10_Text.l0, if_neg (by omega), List.take_of_length_le (by omega)]
  | succ m ih =>
    intro i hi k hk
    obtain ⟨k, rfl⟩ : ∃ j, k = j + 1 := ⟨k - 1, by omega⟩
    have hil : i < L.length := by omega
    have er : rd_T51 L (i : Int) = L[i] := by
      unfold rd_T51
      rw [Int.toNat_natCast, List.getD_eq_getElem?_getD, List.getElem?_eq_getElem hil]
      rfl
    have hWi := hW L[i] (List.getElem_mem _)
    have hF : ∀ t ∈ (L.take i).filter rightT, TokW t ∧ rightT t = true := fun t ht => ⟨hW t (List.mem_of_mem_take (List.mem_filter.1 ht).1), (List.mem_filter.1 ht).2⟩
    have hlen := textJ_len ((L.take i).filter rightT) (fun t ht => (hF t ht).1) (fun t ht => (hF t ht).2)
    have hfl : ((L.take i).filter rightT).length ≤ 1000000 := Nat.le_trans (List.length_filter_le _ _) (by rw [List.length_take]; omega)
    have hne := textJ_ne ((L.take i).filter rightT) (fun t ht => (hF t ht).1) (fun t ht => (hF t ht).2)
    have e2 : wrap64 ((i : Int) + 1) = ((i + 1 : Nat) : Int) := by
      rw [w64 (by omega) (by omega)]
      omega
    rw [epactref10_Text.l0, if_pos (by omega), if_pos (by omega), er, Right_r L[i] hWi k (by omega), Option.bind_some]
    by_cases hr : rightT L[i] = true
    · have hs := textJ_snoc ((L.take i).filter rightT) L[i]
      have hnext := ih (i + 1) (by omega) (k - 1) (by omega)
      rw [filt_some L i hil hr, hs] at hnext
      rw [if_pos hr]
      by_cases hF0 : (L.take i).filter rightT = []
      · have hJ0 : textJ ((L.take i).filter rightT) = [] := by rw [hF0]; rfl
        rw [if_pos hF0] at hnext
        rw [if_pos (by rw [toList_toB]; exact hJ0), text_j1 L i hil hWi hr _ (by omega) k (by omega) hl, hJ0, List.nil_append]
        exact hnext
      · rw [if_neg hF0, ← List.append_assoc] at hnext
        have e32 : (⟨#[32]⟩ : ByteArray) = toB [32] := rfl
        rw [if_neg (by rw [toList_toB]; exact hne hF0), texts_bytes, if_pos (by omega), e32, toB_app, text_j1 L i hil hWi hr _ (by rw [List.length_append]; simp; omega) k (by omega) hl]
        exact hnext
    · have hr' : rightT L[i] = false := by simpa using hr
      have hnext := ih (i + 1) (by omega) k (by omega)
      rw [filt_none L i hil hr'] at hnext
      rw [if_neg hr, e2]
      exact hnext
/-- The document's text of words. -/
theorem rText_r (L : List Tok) (hl : L.length ≤ 50) (hW : ∀ t ∈ L, TokW t) (k : Nat) (hk : 1100000 ≤ k) : epactref10_Text.f k L = some (textL (L.filter rightT)) :=
  text_l0 1000014 (Nat.le_refl _) L (by omega) hW L.length 0 (by omega) k (by omega)
end Go.Proofs.YtcinojbfjiohjaaGreatDoor.Lx
end

section
namespace Go.Proofs.YtcinojbfjiohjaaGreatDoor.Lx
open Go Go.RowKit Go.Proofs.YtcinojbfjiohjaaGreatDoor.PPrintTells Go.Proofs.YtcinojbfjiohjaaGreatDoor.Ex Go.Proofs.YtcinojbfjiohjaaGreatDoor.Civ Go.Proofs.YtcinojbfjiohjaaGreatDoorW.PrintWords Go.Proofs.YtcinojbfjiohjaaGreatDoorW.PrintLast Go.Proofs.YtcinojbfjiohjaaGreatDoorW.PrintMore
set_option linter.unusedVariables false
set_option linter.unusedSimpArgs false
theorem one_tok (t : Tok) : ∀ q ∈ [Value.int .u8 t.f0, .string t.f1, .int .i64 t.f2], q.oneCell' = true := by
  intro q hq
  simp only [List.mem_cons, List.not_mem_nil, or_false] at hq
  rcases hq with rfl | rfl | rfl <;> rfl
theorem DelAt.old {w0 W : World} {g N cap i j : Nat} {L xs : List Tok} (h : DelAt w0 g N cap L i j W xs) (hi : i < N) (t : Tok) : ∃ c : List Value, c.length = kTk.sz ∧ (∀ k u, c[k]? = some u → W.cell? ⟨g, (i : Int).toNat * kTk.sz + k, none⟩ = some u) ∧ kTk.M W w0.heap.size (fun _ => False) t (c.take 0 ++ [.int .u8 t.f0, .string t.f1, .int .i64 t.f2] ++ c.drop (0 + 3)) := by
  obtain ⟨ad, c, hA, hl, _, hc⟩ := Kd.C_get (Kd.R_reads' h.row).2.2 ⟨0, nil8, 0⟩ (i : Int) (by omega) (by have := h.len; omega)
  obtain rfl := Option.some.inj hA
  refine ⟨c, hl, fun k u hu => ?_, ?_⟩
  · rw [← hc k u hu]
    unfold Addr.add
    split
    · rename_i h0
      rw [h0]
    · rw [Nat.zero_add]
  · have hl : c.length = 3 := hl
    rw [List.drop_eq_nil_of_le (by omega), List.take_zero, List.append_nil, List.nil_append]
    exact k51_mkM _ _ _ t
set_option maxHeartbeats 16000000 in
set_option maxRecDepth 100000 in
theorem DeleteFunc_to (L : List Tok) (N : Nat) (hN : L.length = N) (w0 : World) (g cap : Nat) (w : World) (hC : LCal w0) (hHO : Kd.R kTk TT w w0.heap.size (fun _ => True) (.slice (some ⟨g, 0, none⟩) N cap) L) (hl0 : Lt w0 w) (hW : ∀ t ∈ L, TokW t) (n : Nat) (hn : n < N) (hR : ∀ i (h : i < L.length), i < n → rightT L[i] = true) (hX : ∀ (h : n < L.length), rightT L[n] = false) :
    Calls Tryz.prog 72 #[.slice (some ⟨g, 0, none⟩) N cap, .func (.func 74) #[] #[]] w fun e w' => ∃ m, m = (L.filter rightT).length ∧ m ≤ cap ∧ e = .returned (.slice (some ⟨g, 0, none⟩) m cap) ∧ Kd.C kTk w' (some ⟨g, 0, none⟩) m (L.filter rightT) ∧ Lt w0 w' := by
  have eg : ∀ args w, (callFunc 74 args).run Tryz.prog w = .ok (.enter 74 args) w := fun args w => by kernel_rfl
  obtain ⟨hq, hNc, hCC⟩ := Kd.R_reads' hHO
  clear hq
  have hm := hCC.2.1
  rw [hN] at hm
  have hst : DelAt w0 g N cap L n (n + 1) w L := ⟨hHO, hN, Nat.lt_succ_self n, hn, by
    rw [filt_succ L n (by omega), if_neg (by rw [hX (by omega)]; decide), List.append_nil, List.filter_eq_self.2]
    intro t ht
    obtain ⟨i, hi, rfl⟩ := List.mem_iff_getElem.1 ht
    rw [List.length_take] at hi
    rw [List.getElem_take]
    exact hR i (by omega) (by omega), rfl, hl0⟩
  have CI := Aside0.mk (IndexFunc_to L N hN (some ⟨g, 0, none⟩) cap w (hC.l hl0) (by rw [hN] at hCC; exact hCC) hNc hW n hn hR hX)
  have HC := Aside0.mk hC
  have HW := Aside0.mk hW
  have HN := Aside0.mk hN
  have HS := Aside0.mk hst
  have e1 : ((n : Int) == -1) = false := beq_eq_false_iff_ne.2 (by omega)
  clear hC hHO hl0 hW hR hX hN hst hCC
  go_enter Tryz.func72, Tryz.ntmps72
  go_wp2_with fail
  (with_reducible refine CI.out.mono ?_)
  rintro e w1 ⟨rfl, hl⟩
  have HS := Aside0.mk (HS.out.below hl)
  clear hl CI
  go_wp2_with fail
  go_loopw [5, 6] (fun vi vj wr => ∃ i j : Nat, ∃ xs, vi = .int .i64 (i : Int) ∧ vj = .int .i64 (j : Int) ∧ DelAt w0 g N cap L i j wr xs) (fun _ vj _ => N - (intOf vj).toNat)
  case atStart => exact ⟨n, n + 1, L, rfl, by go_num, HS.out⟩
  case round =>
    obtain ⟨i, j, xs, rfl, rfl, hat⟩ := hrel
    have hij := hat.hij
    have hjN := hat.hj
    have HS := Aside0.mk hat
    clear hat
    by_cases hj : j < N
    · have h1 : (j : Int) < (N : Int) := by omega
      have h2 : decide ((j : Int) < (N : Int)) = true := decide_eq_true h1
      have hi1 : (i : Int) < (N : Int) := by omega
      obtain ⟨c0, c1, c2⟩ := HS.out.get HN.out hj
      obtain ⟨t, ht⟩ : ∃ t, t = L[j]'(by have := HN.out; omega) := ⟨_, rfl⟩
      rw [← ht] at c0 c1 c2
      have hmem : t ∈ L := by rw [ht]; exact List.getElem_mem _
      have CD := fun W h => Aside0.mk (del_calls t (HW.out t hmem) W h)
      have HT := Aside0.mk ht
      clear ht hmem
      by_cases hr : rightT t = true
      · rw [hr] at CD
        have HA := Aside0.mk ((Lt.refl wr).a (tokC t))
        have hb := blk_new wr (tokC t)
        go_wp2_with fail
        (with_reducible refine (CD _ (HC.out.l (HS.out.lt.trans HA.out))).out.mono ?_)
        rintro e w2 ⟨rfl, hl⟩
        have HS2 := Aside0.mk (HS.out.below (HA.out.trans hl))
        have b2 := blk_lt_on hl hb
        obtain ⟨z0, z1, z2⟩ := cells3 b2
        obtain ⟨oc, hoc, hcc, hMM⟩ := HS2.out.old (by omega) t
        have HOC := Aside0.mk hcc
        have HLC := Aside0.mk hoc
        have HMM := Aside0.mk hMM
        clear hl hb b2 c0 c1 c2 CD HA hoc hcc hMM
        go_wp2_with ((with_reducible refine gate_ (.store 51 (.tmp 33) (.tmp 32)) rfl ?_); refine Kd.R_store kTk (w0 := w0) w0.heap.size rfl rfl TT (.tmp 33) (.tmp 32) rfl TT (i : Int) 0 xs t (tokV t) [.int .u8 t.f0, .string t.f1, .int .i64 t.f2] oc (fun _ => True) (fun _ => False) rfl rfl rfl rfl info_tk (one_tok t) HS2.out.row (by omega) (by omega) HLC.out HOC.out (Nat.le_refl 3) HMM.out (fun _ hk => hk.elim) HS2.out.lt.out ?_; intro w3 ho hb hg; have HP := Aside0.mk ho; have HB := Aside0.mk hb; clear ho hb hg)
        go_roundw
        case rel =>
          obtain rfl := HT.out
          exact ⟨i + 1, j + 1, _, by go_num, by go_num, HS2.out.put HN.out hj hr HP.out ⟨HB.out⟩⟩
        case measure => simp [intOf]; omega
      · have hr : rightT t = false := by simpa using hr
        rw [hr] at CD
        have HA := Aside0.mk ((Lt.refl wr).a (tokC t))
        go_wp2_with fail
        (with_reducible refine (CD _ (HC.out.l (HS.out.lt.trans HA.out))).out.mono ?_)
        rintro e w2 ⟨rfl, hl⟩
        have HS2 := Aside0.mk (HS.out.below (HA.out.trans hl))
        clear hl c0 c1 c2 CD HA
        go_wp2_with fail
        go_roundw
        case rel =>
          obtain rfl := HT.out
          exact ⟨i, j + 1, xs, rfl, by go_num, HS2.out.skip HN.out hj hr⟩
        case measure => simp [intOf]; omega
    · obtain rfl : j = N := by omega
      have h1 : ¬ ((j : Int) < (j : Int)) := by omega
      have h2 : decide ((j : Int) < (j : Int)) = false := decide_eq_false h1
      obtain ⟨inner, ho⟩ := Kd.R_own HS.out.row
      obtain ⟨cs, hbk, hsz⟩ : ∃ cs, wr.heap[g]? = some (.cells cs TT (0, 0)) ∧ j * 3 ≤ cs.size := by
        rcases ho.2 with ⟨hv, _⟩ | ⟨g', cap', cur, hv, hb, hh, hnc, hcm, hcs, _⟩
        · cases hv
        injection hv with ha _ hc
        injection ha with ha
        injection ha with hg'
        subst hg'
        have h3 : kTk.sz = 3 := rfl
        rw [h3] at hcs
        have h4 : xs.length * 3 ≤ cap' * 3 := Nat.mul_le_mul_right _ (by omega)
        have := HS.out.len
        exact ⟨cur, hh, by omega⟩
      obtain ⟨seg, hseg, hclr⟩ := clear_tok wr g (i * 3) (j - i) (cap - i) cs hbk (by omega) (by omega)
      have hwc := hclr 0
      have hbase : w0.heap.size ≤ g := Kd.R_base HS.out.row g (by simp [Value.ownBlock])
      have HL2 := Aside0.mk (Lt_cells hbase seg (i * 3) HS.out.lt)
      have hxl := HS.out.len
      have hCx := (Kd.R_reads' HS.out.row).2.2
      have HF := Aside0.mk (C_cleared seg hCx (by omega : i ≤ xs.length))
      have hpre := HS.out.pre
      have htk : L.take j = L := List.take_of_length_le (by have := HN.out; omega)
      rw [htk] at hpre
      rw [hpre] at HF
      have hlen : i = (L.filter rightT).length := by rw [← hpre, List.length_take]; omega
      have HQ := Aside0.mk hlen
      clear ho hbk hsz hseg hclr hbase hxl hCx hpre htk hlen
      go_wp2_with fail
      go_ret
      have hq := HQ.out
      rw [← hq]
      exact ⟨by omega, rfl, HF.out, HL2.out⟩
end Go.Proofs.YtcinojbfjiohjaaGreatDoor.Lx
end

section
namespace Go.Proofs.YtcinojbfjiohjaaGreatDoor.Lx
open Go Go.RowKit Go.Proofs.YtcinojbfjiohjaaGreatDoor.PPrintTells Go.Proofs.YtcinojbfjiohjaaGreatDoor.Ex Go.Proofs.YtcinojbfjiohjaaGreatDoor.Civ Go.Proofs.YtcinojbfjiohjaaGreatDoorW.PrintWords Go.Proofs.YtcinojbfjiohjaaGreatDoorW.PrintLast Go.Proofs.YtcinojbfjiohjaaGreatDoorW.PrintMore
set_option linter.unusedVariables false
set_option linter.unusedSimpArgs false
theorem tok_at0 {w : World} {g : Nat} {L : List Tok} (h : Kd.C kTk w (some ⟨g, 0, none⟩) L.length L) (i : Nat) (hi : i < L.length) : w.cell? ⟨g, i * 3, none⟩ = some (.int .u8 L[i].f0) ∧ w.cell? ⟨g, i * 3 + 1, none⟩ = some (.string L[i].f1) ∧ w.cell? ⟨g, i * 3 + 2, none⟩ = some (.int .i64 L[i].f2) := by
  obtain ⟨ad, hA, c0, c1, c2⟩ := tok_at h i hi
  obtain rfl := Option.some.inj hA
  have ha : (⟨g, 0, none⟩ : Addr).add (i * 3) = ⟨g, i * 3, none⟩ := by
    unfold Addr.add
    split
    · rename_i h0
      rw [h0]
    · rw [Nat.zero_add]
  rw [ha] at c0 c1 c2
  exact ⟨c0, c1, c2⟩
theorem first_wrong : ∀ L : List Tok, (¬ ∀ t ∈ L, rightT t = true) → ∃ n, n < L.length ∧ (∀ i (h : i < L.length), i < n → rightT L[i] = true) ∧ (∀ h : n < L.length, rightT L[n] = false)
  | [], h => absurd (fun t ht => by cases ht) h
  | t :: L, h => by
    by_cases hr : rightT t = true
    · obtain ⟨n, h1, h2, h3⟩ := first_wrong L (fun k => h (fun u hu => by
        rcases List.mem_cons.1 hu with rfl | hu
        · exact hr
        · exact k u hu))
      refine ⟨n + 1, by rw [List.length_cons]; omega, fun i hi hn => ?_, fun hh => h3 h1⟩
      cases i with
      | zero => exact hr
      | succ i => exact h2 i (by rw [List.length_cons] at hi; omega) (by omega)
    · exact ⟨0, by rw [List.length_cons]; omega, fun i _ h0 => absurd h0 (Nat.not_lt_zero _), fun _ => by simpa using hr⟩
set_option maxHeartbeats 16000000 in
set_option maxRecDepth 100000 in
theorem Text_some (L : List Tok) (A : Option Addr) (c : Nat) (w : World) (hC : LCal w) (hL : Kd.C kTk w A L.length L) (hc : L.length ≤ c) (hm : L.length ≤ 4294967296) (hW : ∀ t ∈ L, TokW t) (hS : ¬ ∀ t ∈ L, rightT t = true) :
    Calls Tryz.prog 30 #[.slice A L.length c] w fun e w' => e = .returned (.string (textL (L.filter rightT))) ∧ Lt w w' := by
  obtain ⟨n, hn, hR, hX⟩ := first_wrong L hS
  obtain ⟨F, hF⟩ : ∃ F, F = L.filter rightT := ⟨_, rfl⟩
  have hFW : ∀ t ∈ F, TokW t := fun t ht => hW t (by rw [hF] at ht; exact (List.mem_filter.1 ht).1)
  have hFR : ∀ t ∈ F, rightT t = true := fun t ht => by rw [hF] at ht; exact (List.mem_filter.1 ht).2
  have hFL : F.length ≤ 4294967296 := by
    have := List.length_filter_le rightT L
    rw [hF]
    omega
  have CC := Aside0.mk (Clone_calls L A c w hL hc (by omega))
  have HC := Aside0.mk hC
  have HFW := Aside0.mk hFW
  have HFR := Aside0.mk hFR
  have CD := fun g cap W h2 h3 => Aside0.mk (DeleteFunc_to L L.length rfl w g cap W hC h2 h3 hW n hn hR hX)
  have HJ := Aside0.mk (show (Lib.join (F.map (fun t => (textT t).1.data.toList)) [32]).length ≤ 140737488355328 from by
    have h := join_len (F.map (fun t => (textT t).1.data.toList)) (fun x hx => by
      obtain ⟨t, ht, rfl⟩ := List.mem_map.1 hx
      have := right_short (hFW t ht) (hFR t ht)
      rw [Array.length_toList]
      exact this)
    rw [List.length_map] at h
    omega)
  rw [← hF] at CD ⊢
  have hp : 0 < L.length := by omega
  obtain ⟨N, hN⟩ : ∃ N, N = L.length := ⟨_, rfl⟩
  rw [← hN] at hc CC CD ⊢
  have HN := Aside0.mk hN
  have HP := Aside0.mk hp
  clear hC hL hW hm hn hR hX hS hF hFW hFR hN hp
  go_enter Tryz.func30, Tryz.ntmps30
  go_wp2_with fail
  (with_reducible refine CC.out.mono ?_)
  rintro e w1 ⟨v, rfl, ho, hl⟩
  obtain ⟨g, cap, rfl, _, _, _⟩ := Kd.R_form ho HP.out
  rw [← HN.out] at ho ⊢
  have HO := Aside0.mk ho
  have HT := Aside0.mk hl
  clear ho hl CC
  go_wp2_with fail
  (with_reducible refine (CD _ _ _ HO.out HT.out).out.mono ?_)
  rintro e w2 ⟨m, hFN, hmc, rfl, hK, hl⟩
  have hm : m ≤ 4294967296 := by omega
  have HFN := Aside0.mk hFN
  have HK := Aside0.mk hK
  have HT := Aside0.mk hl
  clear hl hK CD HO hFN hFL
  go_wp2_with fail
  go_loopw [3, 12] (fun v i wr => ∃ k : Nat, k ≤ m ∧ i = .int .i64 (k : Int) ∧ Lt w2 wr ∧ Kd.R kS SS wr w2.heap.size (fun _ => True) v ((F.take k).map fun t => (textT t).1)) (fun _ i _ => m - (intOf i).toNat)
  case atStart => exact ⟨0, Nat.zero_le _, rfl, Lt.refl _, Kd.R_nil _ _ _ _ _⟩
  case round =>
    obtain ⟨k, hk, rfl, hlt2, hr⟩ := hrel
    have HT0 := HT
    have HT := Aside0.mk (HT.out.trans hlt2)
    have HT2 := Aside0.mk hlt2
    have HRR := Aside0.mk hr
    obtain ⟨Av, cv, rfl⟩ := Kd.R_slice hr
    clear hlt2 hr
    obtain ⟨M, hM⟩ : ∃ M, M = ((F.take k).map fun t => (textT t).1).length := ⟨_, rfl⟩
    have hMk : M = k := by rw [hM, List.length_map, List.length_take, ← HFN.out, Nat.min_eq_left hk]
    rw [← hM] at HRR ⊢
    have HMK := Aside0.mk hMk
    clear hM hMk
    by_cases hkn : k < m
    · have h1 : (k : Int) < (m : Int) := by omega
      have h2 : decide ((k : Int) < (m : Int)) = true := decide_eq_true h1
      obtain ⟨c0, c1, c2⟩ := tok_at0 (by rw [← HFN.out]; exact HK.out) k (by have := HFN.out; omega)
      have hmem : F[k]'(by have := HFN.out; omega) ∈ F := List.getElem_mem _
      have htk : (F.take (k + 1)).map (fun t => (textT t).1) = (F.take k).map (fun t => (textT t).1) ++ [(textT (F[k]'(by have := HFN.out; omega))).1] := by
        rw [List.take_succ_eq_append_getElem (by have := HFN.out; omega), List.map_append]
        rfl
      obtain ⟨t, ht⟩ : ∃ t, t = F[k]'(by have := HFN.out; omega) := ⟨_, rfl⟩
      rw [← ht] at c0 c1 c2 hmem htk
      have d0 := cell_lt HT2.out c0
      have d1 := cell_lt HT2.out c1
      have d2 := cell_lt HT2.out c2
      have CT := Aside0.mk (text_calls t ⟨(HFW.out t hmem).n0, (HFW.out t hmem).n1⟩ (HFW.out t hmem).sz (wr.alloc (tokC t)) (HC.out.l (HT.out.a _)))
      have HTK := Aside0.mk htk
      obtain ⟨tx, b, htx⟩ : ∃ tx b, textT t = (tx, b) := ⟨_, _, rfl⟩
      rw [htx] at CT HTK
      dsimp only at CT HTK
      clear c0 c1 c2 ht hmem htk htx
      go_wp2_with fail
      (with_reducible refine CT.out.mono ?_)
      rintro e w3 ⟨rfl, hl⟩
      have HRR := Aside0.mk (Kd.R_below HRR.out (((Lt.refl _).a (tokC t)).trans hl).out)
      have HT := Aside0.mk ((HT.out.a (tokC t)).trans hl)
      have HT2 := Aside0.mk ((HT2.out.a (tokC t)).trans hl)
      clear hl CT d0 d1 d2
      go_wp2_with ((with_reducible refine gate_builtin (b := .append) (xs := #[.tmp 21, .tmp 23]) rfl ?_); at_builtin; refine Kd.R_append kS (w0 := w2) w2.heap.size rfl (.tmp 21) (.tmp 23) 38 SS (.string nil8) 16 rfl Tryz.underlying38 info_str rfl (by decide) (by omega) (.slice Av M cv) ((F.take k).map fun t => (textT t).1) tx [.string tx] (fun _ => True) (fun _ => False) rfl rfl ?aP (fun _ hk => hk.elim) ?aF ?aO ?aB ?aS ?aL ?_; (case aP => exact rfl); (case aF => exact fun _ _ => trivial); (case aO => exact HRR.out); (case aB => exact HT2.out.out); (case aS => exact HT2.out.out.size); (case aL => rw [List.length_map, List.length_take, ← HFN.out, Nat.min_eq_left hk]; omega); intro v1 wa ho hb hg hat; have HO := Aside0.mk ho; have HT2 := Aside0.mk (Lt.mk hb); clear ho hb hg hat)
      go_roundw
      case rel => exact ⟨k + 1, by omega, by go_num, HT2.out, by rw [HTK.out]; exact HO.out⟩
      case measure => simp [intOf]; omega
    · obtain rfl : k = m := by omega
      have h1 : ¬ (k : Int) < (k : Int) := by omega
      have h2 : decide ((k : Int) < (k : Int)) = false := decide_eq_false h1
      have hall : F.take k = F := by rw [HFN.out, List.take_length]
      rw [hall] at HRR
      have CJ := Aside0.mk (joined_calls (F.map fun t => (textT t).1) Av cv wr (by rw [List.length_map, ← HFN.out, ← HMK.out]; exact Kd.R_lower HRR.out (Nat.zero_le _)) (by rw [List.length_map, ← HFN.out]; omega) (by rw [List.map_map]; exact HJ.out))
      have eL : (F.map fun t => (textT t).1).length = M := by rw [List.length_map, ← HFN.out, HMK.out]
      rw [eL, List.map_map] at CJ
      have eT : toB (Lib.join (F.map ((fun x => x.data.toList) ∘ fun t => (textT t).1)) [32]) = textL F := rfl
      rw [eT] at CJ
      clear hall eL eT HRR
      go_wp2_with fail
      (with_reducible refine CJ.out.mono ?_)
      rintro e w3 ⟨rfl, hl⟩
      go_wp2
      go_ret
      exact ⟨rfl, HT.out.trans hl⟩
theorem Text_any (L : List Tok) (A : Option Addr) (c : Nat) (w : World) (hC : LCal w) (hL : Kd.C kTk w A L.length L) (hc : L.length ≤ c) (hm : L.length ≤ 4294967296) (hW : ∀ t ∈ L, TokW t) :
    Calls Tryz.prog 30 #[.slice A L.length c] w fun e w' => e = .returned (.string (textL (L.filter rightT))) ∧ Lt w w' := by
  by_cases h : ∀ t ∈ L, rightT t = true
  · rw [List.filter_eq_self.2 h]
    exact Text_right L A c w hC hL hc hm hW h
  · exact Text_some L A c w hC hL hc hm hW h
end Go.Proofs.YtcinojbfjiohjaaGreatDoor.Lx
end

section
namespace Go.Proofs.YtcinojbfjiohjaaGreatDoor.Lx
open Go Go.RowKit Go.Proofs.YtcinojbfjiohjaaGreatDoor.PPrintTells Go.Proofs.YtcinojbfjiohjaaGreatDoor.Ex Go.Proofs.YtcinojbfjiohjaaGreatDoor.Civ Go.Proofs.YtcinojbfjiohjaaGreatDoorW.PrintWords Go.Proofs.YtcinojbfjiohjaaGreatDoorW.PrintLast Go.Proofs.YtcinojbfjiohjaaGreatDoorW.PrintMore
set_option linter.unusedVariables false
set_option linter.unusedSimpArgs false
end Go.Proofs.YtcinojbfjiohjaaGreatDoor.Lx
end

section
namespace Go.Proofs.YtcinojbfjiohjaaGreatDoor.Lx
open Go Go.RowKit Go.Proofs.YtcinojbfjiohjaaGreatDoor.PPrintTells Go.Proofs.YtcinojbfjiohjaaGreatDoor.Ex Go.Proofs.YtcinojbfjiohjaaGreatDoor.Civ Go.Proofs.YtcinojbfjiohjaaGreatDoorW.PrintWords Go.Proofs.YtcinojbfjiohjaaGreatDoorW.PrintLast Go.Proofs.YtcinojbfjiohjaaGreatDoorW.PrintMore
set_option linter.unusedVariables false
set_option linter.unusedSimpArgs false
theorem Text_any_n (L : List Tok) (N : Nat) (hN : L.length = N) (F : List Tok) (hF : L.filter rightT = F) (A : Option Addr) (c : Nat) (w : World) (hC : LCal w) (hL : Kd.C kTk w A N L) (hc : N ≤ c) (hm : N ≤ 4294967296) (hW : ∀ t ∈ L, TokW t) :
    Calls Tryz.prog 30 #[.slice A N c] w fun e w' => e = .returned (.string (textL F)) ∧ Lt w w' := by
  subst hN
  subst hF
  exact Text_any L A c w hC hL hc hm hW
end Go.Proofs.YtcinojbfjiohjaaGreatDoor.Lx
end

section
namespace Go.Proofs.YtcinojbfjiohjaaGreatDoor.Lx
open Go Go.RowKit Go.Proofs.YtcinojbfjiohjaaGreatDoor.PPrintTells Go.Proofs.YtcinojbfjiohjaaGreatDoor.Ex Go.Proofs.YtcinojbfjiohjaaGreatDoor.Civ Go.Proofs.YtcinojbfjiohjaaGreatDoorW.PrintWords Go.Proofs.YtcinojbfjiohjaaGreatDoorW.PrintLast Go.Proofs.YtcinojbfjiohjaaGreatDoorW.PrintMore
set_option linter.unusedVariables false
set_option linter.unusedSimpArgs false
theorem rWords_to (s : ByteArray) (L : List Tok) (k : Int) (n : Nat) (hn : L.length = n) (he : lexL s.data.toList = (L, k)) (hs : s.size ≤ 500) (w : World) :
    Calls Tryz.prog 26 #[.string s] w fun e w' => ∃ B d, e = .returned (.tuple #[.slice B n d, .int .i64 k]) ∧ Kd.C kTk w' B n L ∧ n ≤ d ∧ Lt w w' := by
  subst hn
  refine (epactref10_Words.calls 2100000 s L k w (by rw [Words_r s hs _ (Nat.le_refl _), he])).mono ?_
  rintro e w' ⟨v, rfl, ho, hl⟩
  obtain ⟨B, d, rfl, hd, hCC⟩ := Kd.R_reads ho
  exact ⟨B, d, rfl, hCC, hd, ⟨hl⟩⟩
theorem rRight_calls (t : Tok) (h : TokW t) (w : World) : Calls Tryz.prog 28 #[tokV t] w fun e w' => e = .returned (.bool (rightT t)) ∧ Lt w w' :=
  (epactref10_Right.calls 1000010 t.f0 t.f1 t.f2 _ w (Right_r t h _ (Nat.le_refl _))).mono fun e w' ⟨he, hl⟩ => ⟨he, ⟨hl⟩⟩
theorem rText_n (L : List Tok) (N : Nat) (hN : L.length = N) (F : List Tok) (hF : L.filter rightT = F) (A : Option Addr) (c : Nat) (w : World) (hL : Kd.C kTk w A N L) (hc : N ≤ c) (hm : N ≤ 50) (hW : ∀ t ∈ L, TokW t) :
    Calls Tryz.prog 31 #[.slice A N c] w fun e w' => e = .returned (.string (textL F)) ∧ Lt w w' := by
  subst hN
  subst hF
  exact (epactref10_Text.calls 1100000 A c L _ w hL hc (rText_r L hm hW _ (Nat.le_refl _))).mono fun e w' ⟨he, hl⟩ => ⟨he, ⟨hl⟩⟩
set_option maxHeartbeats 32000000 in
set_option maxRecDepth 100000 in
theorem LexTells_lt (s : ByteArray) (L : List Tok) (A : Option Addr) (c N : Nat) (hN : L.length = N) (w : World) (hC : LCal w) (hL : Kd.C kTk w A N L) (hc : N ≤ c) (hW : ∀ t ∈ L, TokW t) (hs0 : s.size ≤ 140737488351232) :
    Calls Tryz.prog 6 #[.string s, .slice A N c] w fun e w' => e = .returned (.bool true) ∧ Lt w w' := by
  have HC := Aside0.mk hC
  have hm := hL.2.1
  have CW := fun W (h : LCal W) => Aside0.mk (awake_calls W h)
  clear hC
  by_cases hbig2 : 500 < s.size
  · have g3 : (500 : Int) < (s.size : Int) := by omega
    have g4 : decide ((500 : Int) < (s.size : Int)) = true := decide_eq_true g3
    clear hL hW hN
    go_enter Tryz.func6, Tryz.ntmps6
    go_wp2_with fail
    (with_reducible refine (CW _ HC.out).out.mono ?_)
    rintro e w1 ⟨rfl, hl⟩
    go_wp2
    go_ret
    exact ⟨rfl, hl⟩
  have g3 : ¬ (500 : Int) < (s.size : Int) := by omega
  have g4 : decide ((500 : Int) < (s.size : Int)) = false := decide_eq_false g3
  by_cases hbig : 50 < N
  · have g1 : (50 : Int) < (N : Int) := by omega
    have g2 : decide ((50 : Int) < (N : Int)) = true := decide_eq_true g1
    clear hL hW hN
    go_enter Tryz.func6, Tryz.ntmps6
    go_wp2_with fail
    (with_reducible refine (CW _ HC.out).out.mono ?_)
    rintro e w1 ⟨rfl, hl⟩
    go_wp2
    go_ret
    exact ⟨rfl, hl⟩
  have g1 : ¬ (50 : Int) < (N : Int) := by omega
  have g2 : decide ((50 : Int) < (N : Int)) = false := decide_eq_false g1
  obtain ⟨F, hF⟩ : ∃ F, L.filter rightT = F := ⟨_, rfl⟩
  have CT := fun W h1 h2 => Aside0.mk (Text_any_n L N hN F hF A c W h1 h2 hc (by omega) hW)
  have RT := fun W h2 => Aside0.mk (rText_n L N hN F hF A c W h2 hc (by omega) hW)
  obtain ⟨T, hT⟩ : ∃ T, T = textL F := ⟨_, rfl⟩
  rw [← hT] at CT RT
  have hll := lex_len s.data.toList.length s.data.toList (Nat.le_refl _)
  have hsz : s.size = s.data.toList.length := (Array.length_toList).symm
  obtain ⟨G, k, hG⟩ : ∃ G k, lexL s.data.toList = (G, k) := ⟨_, _, rfl⟩
  rw [hG] at hll
  dsimp only at hll
  obtain ⟨P, hP⟩ : ∃ P, G.length = P := ⟨_, rfl⟩
  have hP0 : P ≤ 500 := by omega
  have C2 := fun W h => Aside0.mk (Words_to s G k P hP hG (by omega) W h)
  have R2 := fun W => Aside0.mk (rWords_to s G k P hP hG (by omega) W)
  have CS := fun A B c d W h1 h2 h3 h4 => Aside0.mk (same_n G P hP A B c d W h1 h2 h3 h4 (by omega))
  have HL := Aside0.mk hL
  have HW := Aside0.mk hW
  have HN := Aside0.mk hN
  clear hL hW hN hF hT hll hsz hG hP hP0
  go_enter Tryz.func6, Tryz.ntmps6
  go_wp2_with fail
  (with_reducible refine (C2 _ HC.out).out.mono ?_)
  rintro e w1 ⟨B1, d1, rfl, hK1, hd1, hl⟩
  have HT := Aside0.mk hl
  have HK1 := Aside0.mk hK1
  clear hl C2 hK1
  go_wp2_with fail
  (with_reducible refine (R2 _).out.mono ?_)
  rintro e w2 ⟨B2, d2, rfl, hK2, hd2, hl⟩
  have HK1 := Aside0.mk (Kd.C_below HK1.out hl.out)
  have HT := Aside0.mk (HT.out.trans hl)
  have HK2 := Aside0.mk hK2
  clear hl R2 hK2
  go_wp2_with fail
  go_loopw [32] (fun i wr => ∃ j : Nat, j ≤ N ∧ i = .int .i64 (j : Int) ∧ Lt w2 wr) (fun i _ => N - (intOf i).toNat)
  case atStart => exact ⟨0, Nat.zero_le _, rfl, Lt.refl _⟩
  case round =>
    obtain ⟨j, hj, rfl, hlt⟩ := hrel
    have HT2 := Aside0.mk hlt
    clear hlt
    by_cases hjN : j < N
    · have i1 : (j : Int) < (N : Int) := by omega
      have i2 : decide ((j : Int) < (N : Int)) = true := decide_eq_true i1
      obtain ⟨ad, rfl, c0, c1, c2⟩ := tok_at (by rw [HN.out]; exact HL.out) j (by have := HN.out; omega)
      have hmem : L[j]'(by have := HN.out; omega) ∈ L := List.getElem_mem _
      obtain ⟨t, ht⟩ : ∃ t, t = L[j]'(by have := HN.out; omega) := ⟨_, rfl⟩
      rw [← ht] at c0 c1 c2 hmem
      have d0 := cell_lt (HT.out.trans HT2.out) c0
      have d3 := cell_lt (HT.out.trans HT2.out) c1
      have d4 := cell_lt (HT.out.trans HT2.out) c2
      -- REGION
      have hb2 : (wr.alloc (tokC t)).drew.heap[wr.heap.size]? = some (tokC t) := blk_new wr (tokC t)
      have HL2 := Aside0.mk (show Lt w2 (wr.alloc (tokC t)).drew from ⟨below_drew (HT2.out.a (tokC t)).out⟩)
      have q2 := cells3 hb2
      have CR := fun W h => Aside0.mk (Right_calls t (HW.out t hmem) W h)
      have RR := fun W => Aside0.mk (rRight_calls t (HW.out t hmem) W)
      generalize rightT t = rb at *
      clear c0 c1 c2 ht hmem
      have hbb : (rb != rb) = false := by cases rb <;> rfl
      go_wp2_with fail
      refine start_ (n := 5) (S := fun w' => w'.cell? ⟨wr.heap.size, 0, none⟩ = some (.int .u8 t.f0) ∧ w'.cell? ⟨wr.heap.size, 1, none⟩ = some (.string t.f1) ∧ w'.cell? ⟨wr.heap.size, 2, none⟩ = some (.int .i64 t.f2)) (ds := []) #[false, false, false, false, false] (by kernel_rfl) rfl rfl ⟨q2.1, q2.2.1, q2.2.2⟩ (fun hHeld => ?_)
      refine take_ (i := 0) (N := some 36) (v := ?_) (a' := ?_) #[true, false, false, false, false] rfl rfl (by kernel_rfl) (fun _ _ _ h => h) (Or.inl ⟨by rfl, ?_⟩) hHeld ?_ ?_
      rotate_left
      · rintro w' ⟨s0, s1, s2⟩
        go_simp
        with_reducible rfl
      rotate_left
      · simp only [Act.put, List.setIfInBounds_toArray, List.set_cons_zero, List.set_cons_succ, i64_w, i32_w]
        rfl
      refine take_ (i := 2) (N := some 38) (v := ?_) (a' := ?_) #[true, false, true, false, false] rfl rfl (by kernel_rfl) (fun _ _ _ h => h) (Or.inl ⟨by rfl, ?_⟩) hHeld ?_ ?_
      rotate_left
      · rintro w' ⟨s0, s1, s2⟩
        go_simp
        with_reducible rfl
      rotate_left
      · simp only [Act.put, List.setIfInBounds_toArray, List.set_cons_zero, List.set_cons_succ, i64_w, i32_w]
        rfl
      refine one_ (i := 1) (N := some 37) #[true, true, true, false, false] rfl rfl (by kernel_rfl) (by decide) (fun K hK => ?_)
      refine goes_ Tryz.func27 (by kernel_rfl) rfl #[tokV t] (by rfl) rfl rfl (by simp only [List.map_toArray, List.map_cons, List.map_nil]; rfl) ?_
      with_reducible refine ((CR _ (HC.out.l (HT.out.trans HL2.out))).out).mono ?_
      rintro e w3 ⟨rfl, hl3⟩
      refine ⟨_, rfl, ?_⟩
      have hb3 := blk_lt_on hl3 hb2
      have q3 := cells3 hb3
      have HL3 := Aside0.mk (HL2.out.trans hl3)
      refine hK.out _ _ ⟨q3.1, q3.2.1, q3.2.2⟩ (fun hHeld => ?_)
      clear hK K
      refine norm_ (a' := ?_) ?_ ?_
      rotate_left
      · show Act.put _ (some 37) _ = _
        simp only [Act.put, List.setIfInBounds_toArray, List.set_cons_zero, List.set_cons_succ, i64_w, i32_w]
        rfl
      refine one_ (i := 3) (N := some 39) #[true, true, true, true, false] rfl rfl (by kernel_rfl) (by decide) (fun K hK => ?_)
      refine goes_ Tryz.func28 (by kernel_rfl) rfl #[tokV t] (by rfl) rfl rfl (by simp only [List.map_toArray, List.map_cons, List.map_nil]; rfl) ?_
      with_reducible refine ((RR _).out).mono ?_
      rintro e w4 ⟨rfl, hl4⟩
      refine ⟨_, rfl, ?_⟩
      have hb4 := blk_lt_on hl4 hb3
      have q4 := cells3 hb4
      have HL4 := Aside0.mk (HL3.out.trans hl4)
      refine hK.out _ _ ⟨q4.1, q4.2.1, q4.2.2⟩ (fun hHeld => ?_)
      clear hK K
      refine norm_ (a' := ?_) ?_ ?_
      rotate_left
      · show Act.put _ (some 39) _ = _
        simp only [Act.put, List.setIfInBounds_toArray, List.set_cons_zero, List.set_cons_succ, i64_w, i32_w]
        rfl
      refine pure_ (i := 4) (N := some 40) (v := ?_) (a' := ?_) #[true, true, true, true, true] rfl rfl (by kernel_rfl) (fun _ _ _ h => h) (Or.inl ⟨by rfl, ?_⟩) ?_ ?_
      rotate_left
      · intro w'
        go_simp
        with_reducible rfl
      rotate_left
      · simp only [Act.put, List.setIfInBounds_toArray, List.set_cons_zero, List.set_cons_succ, i64_w, i32_w]
        rfl
      refine done_ (by kernel_rfl) ?_
      -- END
      go_wp2_with fail
      go_roundw
      case rel => exact ⟨j + 1, by omega, by go_num, HL4.out⟩
      case measure => simp [intOf]; omega
    · obtain rfl : j = N := by omega
      have i1 : ¬ (j : Int) < (j : Int) := by omega
      have i2 : decide ((j : Int) < (j : Int)) = false := decide_eq_false i1
      have HT := Aside0.mk (HT.out.trans HT2.out)
      have CS := Aside0.mk (CS B1 B2 d1 d2 wr (Kd.C_below HK1.out HT2.out.out) hd1 (Kd.C_below HK2.out HT2.out.out) hd2).out
      go_wp2_with fail
      (with_reducible refine CS.out.mono ?_)
      rintro e w5 ⟨rfl, hl⟩
      have HT := Aside0.mk (HT.out.trans hl)
      clear hl CS
      go_wp2_with fail
      (with_reducible refine (CT _ (HC.out.l HT.out) (Kd.C_below HL.out HT.out.out)).out.mono ?_)
      rintro e w6 ⟨rfl, hl⟩
      have HT := Aside0.mk (HT.out.trans hl)
      clear hl CT
      go_wp2_with fail
      (with_reducible refine (RT _ (Kd.C_below HL.out HT.out.out)).out.mono ?_)
      rintro e w7 ⟨rfl, hl⟩
      have HT := Aside0.mk (HT.out.trans hl)
      clear hl RT
      have ht : (T.toList == T.toList) = true := beq_self_eq_true _
      go_wp2_with fail
      (with_reducible refine (CW _ (HC.out.l HT.out)).out.mono ?_)
      rintro e w8 ⟨rfl, hl⟩
      have HT := Aside0.mk (HT.out.trans hl)
      go_wp2
      go_ret
      exact ⟨rfl, HT.out⟩
end Go.Proofs.YtcinojbfjiohjaaGreatDoor.Lx
end

section
namespace Go.Proofs.YtcinojbfjiohjaaGreatDoor.DLaid
open Go Go.ChangeShapes Go.WideShapes Go.ChangeAt Go.RowKit
set_option linter.unusedVariables false
theorem own : ownKnob Tryz.prog.godebug = none := by kernel_rfl
abbrev laidL : List (String × DataW Unit) := [("math/bits.deBruijn32tab", Rows.laid_math_bits_deBruijn32tab), ("math/bits.deBruijn64tab", Rows.laid_math_bits_deBruijn64tab), ("internal/strconv.uint64pow10", Rows.laid_internal_strconv_uint64pow10), ("unicode/utf8.acceptRanges", Rows.laid_unicode_utf8_acceptRanges), ("epact/civil.ahead", Rows.laid_epact_civil_ahead), ("strconv.ErrRange", Rows.laid_strconv_ErrRange), ("strconv.ErrSyntax", Rows.laid_strconv_ErrSyntax), ("unicode/utf8.first", Rows.laid_unicode_utf8_first)]
theorem gAhead : Tryz.prog.globalNamed "epact/civil.ahead" = some 4 := by kernel_rfl
theorem tAhead : (Tryz.prog.globals[4]?).map (·.type) = some 251 := by kernel_rfl
theorem gPow : Tryz.prog.globalNamed "internal/strconv.uint64pow10" = some 3 := by kernel_rfl
theorem tPow : (Tryz.prog.globals[3]?).map (·.type) = some 245 := by kernel_rfl
theorem cellsI : Tryz.prog.cellsOf 3 = 1 := by kernel_rfl
set_option maxRecDepth 100000 in
theorem door_met (os : Os) (args : Array Value) : laidMetH Tryz.prog laidL ((World.laidAll Tryz.prog os laidL).forCall (fun _ _ => 0) ⟨#[], args, []⟩).memory := by
  rw [MakeChecks.laidMetH_plain _ _ _ (by kernel_rfl)]
  exact laidMet_laidAll _ (by kernel_rfl) (by kernel_rfl)
theorem powData : (Rows.laid_internal_strconv_uint64pow10 : DataW Unit) = Lib.tabData .u64 Lib.pow10Tab := by kernel_rfl
theorem cal_of {W : World} (h : laidMetH Tryz.prog laidL W) (hs : W.ShapedOpen Tryz.prog) : Civ.Cal W := by
  rw [MakeChecks.laidMetH_plain _ _ _ (by kernel_rfl)] at h
  obtain ⟨ps, hv, _⟩ := h
  obtain ⟨_, _, _, _, _, q1, _, _, _, _, hv, _⟩ := hv
  obtain ⟨_, _, _, _, _, q2, _, _, _, _, hv, _⟩ := hv
  obtain ⟨g3, t3, cs3, f3, p3, q3, hg3, ht3, hv3, hd3, hv, _⟩ := hv
  obtain ⟨_, _, _, _, _, q4, _, _, _, _, hv, _⟩ := hv
  obtain ⟨g0, t0, cs0, f0, p0, q5, hg0, ht0, hv0, hd0, _, _⟩ := hv
  refine ⟨?_, ?_, ?_⟩
  · obtain rfl := Option.some.inj (gAhead.symm.trans hg0)
    obtain rfl := Option.some.inj (tAhead.symm.trans ht0)
    obtain ⟨xs, m1, rfl, hx1, hlen, hn3, hel⟩ := DataW.trod_array Tryz.underlying251 hd0
    rw [cellsI] at hel
    have hm : xs.map (·.1) = [.lit (.int .i64 0), .lit (.int .i64 31), .lit (.int .i64 59), .lit (.int .i64 90), .lit (.int .i64 120), .lit (.int .i64 151), .lit (.int .i64 181), .lit (.int .i64 212), .lit (.int .i64 243), .lit (.int .i64 273), .lit (.int .i64 304), .lit (.int .i64 334), .lit (.int .i64 365)] := by
      have h1 := (Prod.mk.inj hx1).1
      exact (DataW.agg.inj h1).symm
    refine ⟨fun i hi => ?_⟩
    rw [World.var?_cell hg0 hv0 i]
    have hd : (xs.map (·.1))[i]? = some (.lit (.int .i64 (Civ.tab i))) := by
      rw [hm]
      rcases (show i = 0 ∨ i = 1 ∨ i = 2 ∨ i = 3 ∨ i = 4 ∨ i = 5 ∨ i = 6 ∨ i = 7 ∨ i = 8 ∨ i = 9 ∨ i = 10 ∨ i = 11 ∨ i = 12 by omega) with rfl | rfl | rfl | rfl | rfl | rfl | rfl | rfl | rfl | rfl | rfl | rfl | rfl <;> rfl
    rw [List.getElem?_map, Option.map_eq_some_iff] at hd
    obtain ⟨x, hx, hx'⟩ := hd
    have he := (hel i hi).trans hx
    obtain ⟨k, e1, e2, _⟩ := DataW.trod_int Tryz.underlying3 he
    rw [e2] at hx'
    obtain rfl : k = Civ.tab i := by simpa using hx'
    rw [Nat.mul_one] at e1
    have h3 : (cs0.toList.drop i)[0]? = some (.int .i64 (Civ.tab i)) := by
      cases hl : cs0.toList.drop i with
      | nil => rw [hl] at e1; cases e1
      | cons c cs =>
        rw [hl] at e1
        simp at e1
        simp [e1]
    rw [List.getElem?_drop] at h3
    simpa using h3
  · obtain rfl := Option.some.inj (gPow.symm.trans hg3)
    obtain rfl := Option.some.inj (tPow.symm.trans ht3)
    unfold Lib.TabIs
    rw [powData] at hd3
    rw [hv3, ← Lib.cells_of_tab Tryz.underlying245 Tryz.underlying163 (by kernel_rfl) (by kernel_rfl) hd3]
  · exact cell_of_shapedOpen_int (P := Tryz.prog) (g := 1) (t := 3) (zero := #[.int .i64 0]) hs (of_decide_eq_true (by kernel_rfl)) (by kernel_rfl) rfl (by kernel_rfl) (by kernel_rfl) Tryz.underlying3
end Go.Proofs.YtcinojbfjiohjaaGreatDoor.DLaid
end

section
namespace Go.Proofs.YtcinojbfjiohjaaGreatDoor.LLaid
open Go Go.ChangeShapes Go.WideShapes Go.ChangeAt Go.RowKit Go.Proofs.YtcinojbfjiohjaaGreatDoor.PPrintTells Go.Proofs.YtcinojbfjiohjaaGreatDoorW.PrintWords Go.Proofs.YtcinojbfjiohjaaGreatDoorW.PrintLast Go.Proofs.YtcinojbfjiohjaaGreatDoorW.PrintMore
set_option linter.unusedVariables false
theorem own : ownKnob Tryz.prog.godebug = none := DLaid.own
abbrev laidL : List (String × DataW Unit) := DLaid.laidL
theorem door_met (os : Os) (args : Array Value) : laidMetH Tryz.prog laidL ((World.laidAll Tryz.prog os laidL).forCall (fun _ _ => 0) ⟨#[], args, []⟩).memory := DLaid.door_met os args
theorem gES : Tryz.prog.globalNamed "strconv.ErrSyntax" = some 5 := by kernel_rfl
theorem tES : (Tryz.prog.globals[5]?).map (·.type) = some 90 := by kernel_rfl
theorem gER : Tryz.prog.globalNamed "strconv.ErrRange" = some 6 := by kernel_rfl
theorem tER : (Tryz.prog.globals[6]?).map (·.type) = some 90 := by kernel_rfl
theorem star : "*" ++ "errors.errorString" = "*errors.errorString" := by decide
theorem rowP (u : TypeId) (h : Tryz.prog.typeName? 3 u = some "*errors.errorString") : u = 265 :=
  typeName_ptr_named (nm := "errors.errorString") (by rw [star]; kernel_rfl) (by kernel_rfl) (by decide) u (by rw [star]; exact h)
theorem cellsE : Tryz.prog.cellsOf 267 = 1 := by kernel_rfl
theorem cellsS : Tryz.prog.cellsOf 9 = 1 := by kernel_rfl
set_option maxRecDepth 100000 in
theorem cal_of {W : World} (h : laidMetH Tryz.prog laidL W) (hs : W.ShapedOpen Tryz.prog) : Lx.LCal W := by
  have hd := DLaid.cal_of h hs
  rw [MakeChecks.laidMetH_plain _ _ _ (by kernel_rfl)] at h
  have h5 := h.tail.tail.tail.tail.tail
  obtain ⟨a1, s1, hv1, _⟩ := laid_sentinel h5 gER tER Tryz.underlying90 rowP Tryz.underlying265 Tryz.underlying267 rfl rfl Tryz.underlying9 cellsE cellsS
  obtain ⟨a2, s2, hv2, _⟩ := laid_sentinel h5.tail gES tES Tryz.underlying90 rowP Tryz.underlying265 Tryz.underlying267 rfl rfl Tryz.underlying9 cellsE cellsS
  exact ⟨hd, ⟨_, _, by simpa using World.var?_cell gES hv2 0⟩, ⟨_, _, by simpa using World.var?_cell gER hv1 0⟩⟩
theorem cells_tok : Tryz.prog.cellsOf 51 = 3 := by kernel_rfl
theorem cells_byte : Tryz.prog.cellsOf 5 = 1 := by kernel_rfl
theorem cells_int64 : Tryz.prog.cellsOf 2 = 1 := by kernel_rfl
end Go.Proofs.YtcinojbfjiohjaaGreatDoor.LLaid
end

section
namespace Go.Proofs.YtcinojbfjiohjaaGreatDoor.LLaid
open Go Go.ChangeShapes Go.WideShapes Go.ChangeAt Go.RowKit Go.Proofs.YtcinojbfjiohjaaGreatDoor.PPrintTells Go.Proofs.YtcinojbfjiohjaaGreatDoorW.PrintWords Go.Proofs.YtcinojbfjiohjaaGreatDoorW.PrintLast Go.Proofs.YtcinojbfjiohjaaGreatDoorW.PrintMore
set_option linter.unusedVariables false
theorem cells_str : Tryz.prog.cellsOf 9 = 1 := by kernel_rfl
section
variable {H : Type} {enc : TypeId × Value → H} {w : World} {base : Nat}
set_option maxRecDepth 100000 in
theorem tok_of_trod {fuel : Nat} {cs : List Value} {y : DataW H × List MemPlace} (h : DataW.trod enc Tryz.prog w base (fun _ => true) true fuel 51 cs = some y) : ∃ t : S51, cs = [.int .u8 t.f0, .string t.f1, .int .i64 t.f2] ∧ Lx.TokW t := by
  obtain ⟨xs, n, rfl, rfl, hlen, hsz, hall⟩ := DataW.trod_struct Tryz.underlying51 h
  rw [cells_tok] at hlen
  match cs, hlen with
  | [v0, v1, v2], _ =>
  match xs, hsz with
  | [y0, y1, y2], _ =>
  have e0 : DataW.trod enc Tryz.prog w base (fun _ => true) true n 5 (([v0, v1, v2].drop 0).take (Tryz.prog.cellsOf 5)) = some y0 := hall 0 _ rfl
  have e1 : DataW.trod enc Tryz.prog w base (fun _ => true) true n 9 (([v0, v1, v2].drop 1).take (Tryz.prog.cellsOf 9)) = some y1 := hall 1 _ rfl
  have e2 : DataW.trod enc Tryz.prog w base (fun _ => true) true n 2 (([v0, v1, v2].drop 2).take (Tryz.prog.cellsOf 2)) = some y2 := hall 2 _ rfl
  rw [cells_byte] at e0
  rw [cells_str] at e1
  rw [cells_int64] at e2
  obtain ⟨o, h0, rfl, hw0⟩ := DataW.trod_int Tryz.underlying5 e0
  obtain ⟨s, h1, rfl, hs⟩ := DataW.trod_string Tryz.underlying9 e1
  obtain ⟨n2, h2, rfl, hw2⟩ := DataW.trod_int Tryz.underlying2 e2
  obtain rfl : v0 = .int .u8 o := by simpa using h0
  obtain rfl : v1 = .string s := by simpa using h1
  obtain rfl : v2 = .int .i64 n2 := by simpa using h2
  exact ⟨⟨o, s, n2⟩, rfl, ⟨(bounds_i64 hw2).1, (bounds_i64 hw2).2, by unfold maxLen at hs; exact hs⟩⟩
set_option maxRecDepth 100000 in
/-- Words that came in. -/
theorem toks_of_trod {fuel : Nat} {cs : List Value} {y : DataW H × List MemPlace} (h : DataW.trod enc Tryz.prog w base (fun _ => true) true fuel 32 cs = some y) :
    ∃ A c, ∃ L : List S51, cs = [.slice A L.length c] ∧ L.length ≤ c ∧ Kd.C k51 w A L.length L ∧ ∀ t ∈ L, Lx.TokW t := by
  rcases DataW.trod_slice Tryz.underlying32 h with ⟨h3, rfl⟩ | ⟨a, len, cap, elems, rest, n', rfl, h3, rfl, hb, hl, hm, hle, hel, _, _⟩
  · exact ⟨none, 0, [], h3, Nat.le_refl 0, Kd.C_nil _ _, fun t h => by cases h⟩
  · rw [cells_tok] at hel
    have each : ∀ i, i < len → ∃ t : S51, w.cells? base (a.add (i * 3)) 3 = some [.int .u8 t.f0, .string t.f1, .int .i64 t.f2] ∧ Lx.TokW t := by
      intro i hi
      have h1 := hel i (by omega)
      rw [List.getElem?_eq_getElem (by omega)] at h1
      obtain ⟨cs', h2, h4⟩ := Option.bind_eq_some_iff.1 h1
      obtain ⟨t, rfl, hT⟩ := tok_of_trod h4
      exact ⟨t, h2, hT⟩
    have rows : ∀ k, k ≤ len → ∃ L : List S51, L.length = k ∧ (∀ t ∈ L, Lx.TokW t) ∧ ∀ i, ∀ hi : i < L.length, w.cells? base (a.add (i * 3)) 3 = some [.int .u8 L[i].f0, .string L[i].f1, .int .i64 L[i].f2] := by
      intro k
      induction k with
      | zero => intro _; exact ⟨[], rfl, (fun t h => nomatch h), fun i hi => by simp at hi⟩
      | succ k ihk =>
        intro hk
        obtain ⟨L, hL, hLT, hy⟩ := ihk (by omega)
        obtain ⟨t, ht, hTt⟩ := each k (by omega)
        refine ⟨L ++ [t], by simp [hL], fun u hu => ?_, fun i hi => ?_⟩
        · rcases List.mem_append.1 hu with h | h
          · exact hLT u h
          · rw [List.mem_singleton.1 h]; exact hTt
        rw [List.length_append] at hi
        simp only [List.length_cons, List.length_nil] at hi
        by_cases hik : i < L.length
        · rw [List.getElem_append_left hik]
          exact hy i hik
        · obtain rfl : i = L.length := by omega
          rw [List.getElem_concat_length rfl]
          rw [hL]
          exact ht
    obtain ⟨L, hL, hLT, hy⟩ := rows len (Nat.le_refl _)
    subst hL
    refine ⟨some a, cap, L, h3, hl, ⟨rfl, by show L.length ≤ 9223372036854775807; unfold maxLen at hm; omega, fun _ => ⟨a, rfl, ?_⟩⟩, hLT⟩
    intro j p hj
    obtain ⟨hjl, rfl⟩ := List.getElem?_eq_some_iff.1 hj
    have hc := hy j hjl
    refine ⟨_, rfl, k51_mk w L[j], ?_⟩
    intro i u hu
    obtain ⟨_, hl4, hcell⟩ := World.cells?_some hc
    have hi : i < 3 := by
      have := (List.getElem?_eq_some_iff.1 hu).1
      simpa using this
    have h5 := hcell i hi
    rw [hu] at h5
    have h6 : (a.add (j * 3)).add i = a.add (j * 3 + i) := by first | exact Addr.add_add a _ _ | exact Go.Addr.add_add a _ _ | (unfold Addr.add; repeat' split <;> simp_all <;> omega)
    rw [h6] at h5
    exact h5
end
end Go.Proofs.YtcinojbfjiohjaaGreatDoor.LLaid
end
