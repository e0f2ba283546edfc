/-
  What the document's Read computes (the printed form): what the program's does.
-/
import Derived.Test.YtnaaagaammimnaaGreatDoorDatD
import Derived.Test.YtnaaagaammimnaaGreatDoorPDateRead
namespace Go.Proofs.YtnaaagaammimnaaGreatDoor.Civ
open Go Go.RowKit Go.Proofs.YtnaaagaammimnaaGreatDoor.PDateTells Go.Proofs.YtnaaagaammimnaaGreatDoorW.PrintWords Go.Proofs.YtnaaagaammimnaaGreatDoorW.PrintLast Go.Proofs.YtnaaagaammimnaaGreatDoorW.PrintMore Go.Proofs.YtnaaagaammimnaaGreatDoor.Ex
set_option linter.unusedVariables false
set_option linter.unusedSimpArgs false

theorem bt_toB (l : List UInt8) (i : Nat) (h : i < l.length) : bt (toB l) (i : Nat) = (l[i].toNat : Int) := by
  unfold bt
  have hs : ((i : Nat) : Int).toNat < (toB l).size := by rw [texts_bytes]; omega
  rw [dif_pos hs]
  have : (toB l)[((i : Nat) : Int).toNat]'hs = l[i] := by
    rfl
  exact congrArg (fun x : UInt8 => (x.toNat : Int)) this
theorem digitVal_none {b : UInt8} (h : ¬ (48 ≤ b.toNat ∧ b.toNat ≤ 57)) : Lib.digitVal b = none := by unfold Lib.digitVal; rw [if_neg h]
theorem digitVal_some {b : UInt8} (h : 48 ≤ b.toNat ∧ b.toNat ≤ 57) : Lib.digitVal b = some (b.toNat - 48) := by unfold Lib.digitVal; rw [if_pos h]
def numR : Option Nat → Int
  | some v => v
  | none => -1
theorem number_l0 (q : List UInt8) : ∀ (k : Nat) (p : List UInt8) (a : Nat), q.length < k → p.length + q.length ≤ 10 → (a + 1) * 10 ^ q.length ≤ 1000000000000 →
    epactref04_number.l0 k (toB (p ++ q)) (a : Nat) (p.length : Nat) = some (numR (Lib.decFrom a q)) := by
  induction q with
  | nil =>
    intro k p a hk _ _
    obtain ⟨k, rfl⟩ : ∃ m, k = m + 1 := ⟨k - 1, by omega⟩
    rw [epactref04_number.l0, texts_bytes, if_neg (by simp)]
    rfl
  | cons b q ih =>
    intro k p a hk hl ha
    obtain ⟨k, rfl⟩ : ∃ m, k = m + 1 := ⟨k - 1, by omega⟩
    have hb : bt (toB (p ++ b :: q)) (p.length : Nat) = (b.toNat : Int) := by
      rw [bt_toB _ _ (by simp)]
      simp
    have hbl := b.toNat_lt
    have ha' : a < 1000000000000 := by
      have : (a + 1) * 1 ≤ (a + 1) * 10 ^ (b :: q).length := Nat.mul_le_mul_left _ (Nat.one_le_pow _ _ (by omega))
      omega
    rw [epactref04_number.l0, texts_bytes, if_pos (by simp; omega), if_pos (by omega), hb]
    by_cases h1 : b.toNat < 48
    · rw [if_pos (by omega), Lib.decFrom, digitVal_none (by omega)]
      rfl
    · rw [if_neg (by omega)]
      by_cases h2 : 57 < b.toNat
      · rw [if_pos (by omega), Lib.decFrom, digitVal_none (by omega)]
        rfl
      · rw [if_neg (by omega), w64 (x := (a : Int) * 10) (by omega) (by omega)]
        have e1 : wrap64 ((a : Int) * 10 + ((b.toNat : Int) - 48) % 256) = ((a * 10 + (b.toNat - 48) : Nat) : Int) := by
          rw [w64 (by omega) (by omega)]
          omega
        have e2 : wrap64 ((p.length : Int) + 1) = (((p ++ [b]).length : Nat) : Int) := by
          rw [w64 (by simp at hl; omega) (by simp at hl; omega)]
          simp
        have e3 : p ++ b :: q = (p ++ [b]) ++ q := by simp
        rw [e1, e2, e3, ih k (p ++ [b]) _ (by simp at hk; omega) (by simp at hl ⊢; omega) ?_, Lib.decFrom, digitVal_some (by omega)]
        rw [List.length_cons, Nat.pow_succ, Nat.mul_comm (10 ^ q.length) 10, ← Nat.mul_assoc] at ha
        exact Nat.le_trans (Nat.mul_le_mul_right _ (by omega)) ha
theorem decFrom_none (l : List UInt8) : ∀ acc, ¬ l.all digitB = true → Lib.decFrom acc l = none := by
  induction l with
  | nil => intro acc h; exact absurd rfl h
  | cons b l ih =>
    intro acc h
    rw [Lib.decFrom]
    by_cases hb : 48 ≤ b.toNat ∧ b.toNat ≤ 57
    · rw [digitVal_some hb]
      refine ih _ (fun hh => h ?_)
      rw [List.all_cons, hh, Bool.and_true]
      unfold digitB
      rw [decide_eq_true hb.1, decide_eq_true hb.2]
      rfl
    · rw [digitVal_none hb]
theorem number_r (k : Nat) (l : List UInt8) (hk : 100 ≤ k) (hl : l.length = 4) : epactref04_number.f k (toB l) = some (if l.all digitB = true then natv l else -1) := by
  unfold epactref04_number.f
  have h := number_l0 l k [] 0 (by omega) (by simp; omega) (by rw [hl]; decide)
  rw [List.nil_append] at h
  rw [show ((0 : Nat) : Int) = 0 from rfl, show ((([] : List UInt8).length : Nat) : Int) = 0 from rfl] at h
  rw [h]
  by_cases ha : l.all digitB = true
  · rw [if_pos ha, (val_acc l ha).2, natv_val (fun he => by rw [he] at hl; simp at hl)]
    show some (((0 * 10 ^ l.length + val l : Nat)) : Int) = _
    rw [Nat.zero_mul, Nat.zero_add]
  · rw [if_neg ha, decFrom_none l 0 ha]
    rfl
theorem toList_toB (l : List UInt8) : (toB l).toList = l := by rw [toList_data']; exact toB_list l
theorem read_l1 (l : List UInt8) (T : List (List UInt8)) (x6 x8 : Int) (hx : wrap64 (x8 + 1) = x8 + 1) (hT : T.length ≤ 100) (j : Nat) : ∀ (m idx : Nat), T.length = idx + j →
    epactref04_Read.l1 (m + j + 1) (toB l) x6 x8 (T.map toB) (idx : Nat) = if l ∈ T.drop idx then some (x8, 0) else epactref04_Read.l0 m (toB l) x6 (x8 + 1) := by
  induction j with
  | zero =>
    intro m idx h
    rw [epactref04_Read.l1, List.length_map, if_neg (by omega), List.drop_eq_nil_of_le (by omega), if_neg (by simp), hx]
  | succ j ih =>
    intro m idx h
    have hlt : idx < T.length := by omega
    have hr : (rdOf ByteArray.empty (T.map toB) (idx : Nat)).toList = T[idx] := by
      unfold rdOf
      rw [Int.toNat_natCast, List.getD_eq_getElem?_getD, List.getElem?_map, List.getElem?_eq_getElem hlt]
      exact toList_toB _
    rw [show m + (j + 1) + 1 = (m + j + 1) + 1 by omega, epactref04_Read.l1, List.length_map, if_pos (by omega), if_pos (by omega), hr, toList_toB, List.drop_eq_getElem_cons hlt]
    by_cases hh : T[idx] = l
    · rw [if_pos hh, if_pos (by rw [hh]; simp)]
    · have e : wrap64 ((idx : Int) + 1) = ((idx + 1 : Nat) : Int) := by rw [w64 (by omega) (by omega)]; omega
      rw [if_neg hh, e, ih m (idx + 1) (by omega)]
      by_cases hm : l ∈ T.drop (idx + 1)
      · rw [if_pos hm, if_pos (List.mem_cons_of_mem _ hm)]
      · rw [if_neg hm, if_neg (fun h' => by
          rcases List.mem_cons.1 h' with h1 | h1
          · exact hh h1.symm
          · exact hm h1)]
theorem textsL_len (n : Int) : (textsL n).length ≤ 3 := by
  unfold textsL
  split
  · split <;> simp
  · simp
theorem read_l0 (l : List UInt8) (x6 x8 : Int) (h0 : -4400000 ≤ x6) (h1 : x6 ≤ 4400000) (h2 : -4400000 ≤ x8) (h3 : x8 ≤ 4400000) (k : Nat) (hk : 1000020 ≤ k) :
    ∃ m, k ≤ m + 5 ∧ epactref04_Read.l0 k (toB l) x6 x8 = if x8 < x6 + 373 then (if l ∈ textsL x8 then some (x8, 0) else epactref04_Read.l0 m (toB l) x6 (x8 + 1)) else some (0, 30) := by
  have hl := textsL_len x8
  obtain ⟨m, rfl⟩ : ∃ m, k = (m + (textsL x8).length + 1) + 1 := ⟨k - (textsL x8).length - 2, by omega⟩
  refine ⟨m, by omega, ?_⟩
  have h := read_l1 l (textsL x8) x6 x8 (w64 (by omega) (by omega)) (by omega) (textsL x8).length m 0 (by omega)
  rw [show ((0 : Nat) : Int) = 0 from rfl, List.drop_zero] at h
  rw [epactref04_Read.l0, w64 (x := x6 + 373) (by omega) (by omega), Texts_r _ x8 (by omega), Option.bind_some, h]
theorem read_hit (l : List UInt8) (x6 n0 : Int) (h0 : -4400000 ≤ x6) (h1 : x6 ≤ 4399000) (hn : n0 < x6 + 373) (hm : l ∈ textsL n0) (hu : ∀ n, l ∈ textsL n → n = n0) (c : Nat) :
    ∀ (k : Nat) (x8 : Int), n0 - x8 = c → -4400000 ≤ x8 → 1000020 + 5 * c ≤ k → epactref04_Read.l0 k (toB l) x6 x8 = some (n0, 0) := by
  induction c with
  | zero =>
    intro k x8 hc hx hk
    obtain rfl : x8 = n0 := by omega
    obtain ⟨m, _, h⟩ := read_l0 l x6 x8 h0 (by omega) hx (by omega) k (by omega)
    rw [h, if_pos hn, if_pos hm]
  | succ c ih =>
    intro k x8 hc hx hk
    obtain ⟨m, hm', h⟩ := read_l0 l x6 x8 h0 (by omega) hx (by omega) k (by omega)
    rw [h, if_pos (by omega), if_neg (fun h' => by have := hu x8 h'; omega)]
    exact ih m (x8 + 1) (by omega) (by omega) (by omega)
theorem read_miss (l : List UInt8) (x6 : Int) (h0 : -4400000 ≤ x6) (h1 : x6 ≤ 4399000) (hu : ∀ n, l ∉ textsL n) (c : Nat) :
    ∀ (k : Nat) (x8 : Int), x6 + 373 - x8 = c → -4400000 ≤ x8 → 1000020 + 5 * c ≤ k → epactref04_Read.l0 k (toB l) x6 x8 = some (0, 30) := by
  induction c with
  | zero =>
    intro k x8 hc hx hk
    obtain ⟨m, _, h⟩ := read_l0 l x6 x8 h0 (by omega) hx (by omega) k (by omega)
    rw [h, if_neg (by omega)]
  | succ c ih =>
    intro k x8 hc hx hk
    obtain ⟨m, hm', h⟩ := read_l0 l x6 x8 h0 (by omega) hx (by omega) k (by omega)
    rw [h, if_pos (by omega), if_neg (hu x8)]
    exact ih m (x8 + 1) (by omega) (by omega) (by omega)
/-- The sign and the digits of the year ahead. -/
theorem year_at {y : Int} (hy : InY y) (rest : List UInt8) : ∃ b l', yearL y ++ 45 :: rest = b :: l' ∧ (b = 45 ↔ y < 0) ∧ (y < 0 → ((b :: l').drop 1).take 4 = padF (-y) 4) ∧ (¬ y < 0 → ((b :: l').drop 0).take 4 = padF y 4) := by
  obtain ⟨h0, h1⟩ := hy
  unfold yearL
  by_cases h : y < 0
  · have hp := padF_spec (-y) 4 (by omega) (by omega) (by omega)
    rw [if_pos h]
    refine ⟨45, padF (-y) 4 ++ 45 :: rest, rfl, ⟨fun _ => h, fun _ => rfl⟩, fun _ => ?_, fun hh => absurd h hh⟩
    show (padF (-y) 4 ++ 45 :: rest).take 4 = _
    rw [List.take_append_of_le_length (by omega), List.take_of_length_le (by omega)]
  · have hp := padF_spec y 4 (by omega) (by omega) (by omega)
    rw [if_neg h]
    cases hq : padF y 4 with
    | nil => rw [hq] at hp; simp at hp
    | cons b l =>
      have hb : digitB b = true := by
        have := hp.2.1
        rw [hq, List.all_cons, Bool.and_eq_true] at this
        exact this.1
      have hlen : (b :: l).length = 4 := by rw [← hq]; exact hp.1
      refine ⟨b, l ++ 45 :: rest, rfl, ⟨fun he => absurd he (digit_ne hb).1, fun hh => absurd hh h⟩, fun hh => absurd hh h, fun _ => ?_⟩
      show ((b :: l) ++ 45 :: rest).take 4 = _
      rw [List.take_append_of_le_length (by omega), List.take_of_length_le (by omega)]
theorem ext_toB (l : List UInt8) (i j : Nat) : (toB l).extract i j = toB ((l.drop i).take (j - i)) := by
  apply ByteArray.ext
  apply Array.toList_inj.1
  have h : ((toB l).extract i j).data.toList = ((toB l).data.toList.drop i).take (j - i) := by rw [Lib.extract_data]; first | done | simp
  rw [h, toB_list]
  exact (toB_list _).symm
/-- From the year on: the search says what Read says. -/
theorem Read_j2 (l : List UInt8) (y : Int) (hy : InY y) (hw : ∀ n, l ∈ textsL n → beg y - 7 ≤ n ∧ n < beg y + 373) (k : Nat) (hk : 1010000 ≤ k) :
    epactref04_Read.j2 k (toB l) y = some (readF (toB l)) := by
  obtain ⟨k, rfl⟩ : ∃ m, k = m + 1 := ⟨k - 1, by omega⟩
  have hb := beg_in hy
  rw [epactref04_Read.j2, rDays_f k y 1 1 (by omega), daysF_ok ((ok_1 y 1 (by omega)).2 hy), dn_first, Option.bind_some]
  show (if (0 : Int) = 0 then epactref04_Read.l0 k (toB l) (beg y) (wrap64 (beg y - 7)) else _) = _
  rw [if_pos rfl, w64 (x := beg y - 7) (by omega) (by omega)]
  rcases readF_err (toB l) with h | h
  · obtain ⟨n0, h0⟩ : ∃ n0, readF (toB l) = (n0, 0) := ⟨(readF (toB l)).1, Prod.ext rfl h⟩
    have hm := read_texts h0
    have hww := hw n0 hm
    rw [h0]
    refine read_hit l (beg y) n0 (by omega) (by omega) hww.2 hm (fun n hn => ?_) (n0 - (beg y - 7)).toNat k (beg y - 7) (by omega) (by omega) (by omega)
    have := texts_read hn
    rw [h0] at this
    exact ((Prod.mk.inj this).1).symm
  · rw [h]
    refine read_miss l (beg y) (by omega) (by omega) (fun n hn => ?_) 380 k (beg y - 7) (by omega) (by omega) (by omega)
    have := texts_read hn
    rw [h] at this
    have := (Prod.mk.inj this).2
    omega
theorem Read_r (l : List UInt8) (hl : l.length ≤ 1000) : epactref04_Read.f 2000000 (toB l) = some (readF (toB l)) := by
  cases l with
  | nil =>
    have h1 : readF (toB []) = (0, 30) := by decide +kernel
    rw [h1]
    unfold epactref04_Read.f
    rw [if_neg (by rw [texts_bytes]; simp), show (2000000 : Nat) = 1999998 + 1 + 1 from rfl, epactref04_Read.j0, if_neg (by simp), epactref04_Read.j1, if_pos (by rw [texts_bytes]; unfold wrap64; decide)]
  | cons b l' =>
    have hsz : ((toB (b :: l')).size : Int) = (l'.length : Int) + 1 := by rw [texts_bytes, List.length_cons]; omega
    have hbt : bt (toB (b :: l')) 0 = (b.toNat : Int) := bt_toB (b :: l') 0 (by simp)
    have hlen : (l'.length : Int) ≤ 1000 := by simp at hl; omega
    unfold epactref04_Read.f
    rw [if_pos (by omega), if_pos (by omega), hbt, show (2000000 : Nat) = 1999998 + 1 + 1 from rfl, epactref04_Read.j0]
    -- what a text of a day has ahead
    have hyr : ∀ n, b :: l' ∈ textsL n → ∃ y, InY y ∧ (b = 45 ↔ y < 0) ∧ (y < 0 → (l'.take 4) = padF (-y) 4) ∧ (¬ y < 0 → (b :: l').take 4 = padF y 4) ∧ beg y - 7 ≤ n ∧ n < beg y + 373 ∧ (y < 0 → 9 ≤ l'.length + 1) ∧ 8 ≤ l'.length + 1 := by
      intro n hn
      obtain ⟨y, rest, hy, e, hr, hb1, hb2⟩ := texts_year hn
      obtain ⟨b', l'', e', q1, q2, q3⟩ := year_at hy rest
      rw [e'] at e
      obtain ⟨rfl, rfl⟩ := List.cons.inj e
      have hlt : (yearL y ++ 45 :: rest).length = l'.length + 1 := by rw [e']; rfl
      obtain ⟨h0, h1⟩ := hy
      refine ⟨y, ⟨h0, h1⟩, q1, q2, q3, hb1, hb2, fun hneg => ?_, ?_⟩
      · have hp := padF_spec (-y) 4 (by omega) (by omega) (by omega)
        rw [List.length_append, List.length_cons] at hlt
        unfold yearL at hlt
        rw [if_pos hneg, List.length_cons, hp.1] at hlt
        omega
      · have hyl : 4 ≤ (yearL y).length := by
          unfold yearL
          split
          · have hp := padF_spec (-y) 4 (by omega) (by omega) (by omega)
            rw [List.length_cons, hp.1]; omega
          · have hp := padF_spec y 4 (by omega) (by omega) (by omega)
            omega
        rw [List.length_append, List.length_cons] at hlt
        omega
    have herr : (∀ n, b :: l' ∉ textsL n) → readF (toB (b :: l')) = (0, 30) := by
      intro h
      rcases readF_err (toB (b :: l')) with h1 | h1
      · exact absurd (read_texts (show readF (toB (b :: l')) = ((readF (toB (b :: l'))).1, 0) from Prod.ext rfl h1)) (h _)
      · exact h1
    by_cases hb : b = 45
    · subst hb
      rw [if_pos (by decide), epactref04_Read.j1, hsz, show wrap64 ((1 : Int) + 8) = 9 from by unfold wrap64; omega, show wrap64 ((1 : Int) + 4) = 5 from by unfold wrap64; omega]
      by_cases h1 : (l'.length : Int) + 1 < 9
      · rw [if_pos h1, herr (fun n hn => by
          obtain ⟨y, hy, q1, _, _, _, _, q6, _⟩ := hyr n hn
          have := q6 (q1.1 rfl)
          omega)]
      · rw [if_neg h1, if_pos (by omega), if_pos (by omega), if_pos (by omega), ext_toB]
        show (epactref04_number.f _ (toB ((l'.drop 0).take 4))).bind _ = _
        rw [List.drop_zero, number_r _ _ (by omega) (by rw [List.length_take]; omega), Option.bind_some]
        by_cases ha : (l'.take 4).all digitB = true
        · obtain ⟨p1, p2, p3⟩ := pad_of (l := l'.take 4) (k := 4) (by omega) (by rw [List.length_take]; omega) ha
          rw [if_pos ha, if_neg (by omega), if_pos rfl, w64 (x := -natv (l'.take 4)) (by omega) (by omega)]
          refine Read_j2 _ _ ⟨by omega, by omega⟩ (fun n hn => ?_) _ (by omega)
          obtain ⟨y, hy, q1, q2, _, q4, q5, _⟩ := hyr n hn
          have hneg := q1.1 rfl
          have hv := q2 hneg
          have hp := padF_spec (-y) 4 (by omega) (by have := hy.1; omega) (by omega)
          rw [hv, hp.2.2, Int.neg_neg]
          exact ⟨q4, q5⟩
        · rw [if_neg ha, if_pos (by omega), herr (fun n hn => by
            obtain ⟨y, hy, q1, q2, _⟩ := hyr n hn
            have hneg := q1.1 rfl
            have hv := q2 hneg
            have hp := padF_spec (-y) 4 (by omega) (by have := hy.1; omega) (by omega)
            rw [hv] at ha
            exact ha hp.2.1)]
    · have hbn : ((b.toNat : Int) == 45) = false := beq_eq_false_iff_ne.2 (fun h => hb (UInt8.toNat_inj.1 (show b.toNat = (45 : UInt8).toNat from (show b.toNat = 45 by omega))))
      rw [hbn, if_neg (by simp), epactref04_Read.j1, hsz, show wrap64 ((0 : Int) + 8) = 8 from by unfold wrap64; omega, show wrap64 ((0 : Int) + 4) = 4 from by unfold wrap64; omega]
      by_cases h1 : (l'.length : Int) + 1 < 8
      · rw [if_pos h1, herr (fun n hn => by
          obtain ⟨y, hy, q1, _, _, _, _, _, q7⟩ := hyr n hn
          omega)]
      · rw [if_neg h1, if_pos (by omega), if_pos (by omega), if_pos (by omega), ext_toB]
        show (epactref04_number.f _ (toB (((b :: l').drop 0).take 4))).bind _ = _
        rw [List.drop_zero, number_r _ _ (by omega) (by rw [List.length_take, List.length_cons]; omega), Option.bind_some]
        by_cases ha : ((b :: l').take 4).all digitB = true
        · obtain ⟨p1, p2, p3⟩ := pad_of (l := (b :: l').take 4) (k := 4) (by omega) (by rw [List.length_take, List.length_cons]; omega) ha
          rw [if_pos ha, if_neg (by omega), if_neg (by decide)]
          refine Read_j2 _ _ ⟨by omega, by omega⟩ (fun n hn => ?_) _ (by omega)
          obtain ⟨y, hy, q1, _, q3, q4, q5, _⟩ := hyr n hn
          have hneg : ¬ y < 0 := fun h => hb (q1.2 h)
          have hv := q3 hneg
          have hp := padF_spec y 4 (by omega) (by have := hy.2; omega) (by omega)
          rw [hv, hp.2.2]
          exact ⟨q4, q5⟩
        · rw [if_neg ha, if_pos (by omega), herr (fun n hn => by
            obtain ⟨y, hy, q1, _, q3, _⟩ := hyr n hn
            have hneg : ¬ y < 0 := fun h => hb (q1.2 h)
            have hv := q3 hneg
            have hp := padF_spec y 4 (by omega) (by have := hy.2; omega) (by omega)
            rw [hv] at ha
            exact ha hp.2.1)]
end Go.Proofs.YtnaaagaammimnaaGreatDoor.Civ
