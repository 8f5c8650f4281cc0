/- Lemmas for the pure statement of FnExactReadSheet, part 1. -/
import Derived.Test.YtooilehdljeepaaDoorPFnExactReadSheetx18
import Derived.Test.YtooilehdljeepaaDoorPlain
import Derived.Test.YtooilehdljeepaaDoorEvs
import Derived.Test.YtooilehdljeepaaDoorStr
import Derived.Test.YtooilehdljeepaaDoorWord
import Derived.Test.YtooilehdljeepaaDoorTrim
import Derived.Test.YtooilehdljeepaaDoorCuts
import Derived.Test.YtooilehdljeepaaDoorDecl
import Derived.Test.YtooilehdljeepaaDoorField
set_option linter.unusedVariables false
set_option linter.unusedSimpArgs false
namespace Go.Proofs.YtooilehdljeepaaDoor.Pure
open Go.RowKit Go.Proofs.YtooilehdljeepaaDoor.PFnExactReadSheet Go.Proofs.YtooilehdljeepaaDoorW.PrintWords Go.Proofs.YtooilehdljeepaaDoorW.PrintLast Go.Proofs.YtooilehdljeepaaDoorW.PrintMore Go.Proofs.YtooilehdljeepaaDoor.Plain

/-! spec_l1Split -/
-- plain: Evs Trim Cuts Word
theorem l1Split_l0 (s : ByteArray) (hs : s.size ≤ 1048576) (c : UInt8) : ∀ (n i a : Nat) (acc : List ByteArray), i + n = s.size → a ≤ i → acc.length ≤ i → Ev (fun k => spec_l1Split.l0 k s (c.toNat : Int) acc a i) (acc ++ (ofL (((B s).drop a).take (i - a) ++ (splitL c ((B s).drop i)).headD []) :: ((splitL c ((B s).drop i)).tail.map ofL))) := by
  have hB := B_len s
  have hex : ∀ a i : Nat, s.extract (a : Int).toNat (i : Int).toNat = ofL (((B s).drop a).take (i - a)) := by
    intro a i
    rw [Int.toNat_natCast, Int.toNat_natCast]
    exact B_ext (by rw [B_extract, B_ofL])
  intro n
  induction n with
  | zero =>
    intro i a acc h1 h2 h3
    have hd : (B s).drop i = [] := List.drop_eq_nil_of_le (by omega)
    rw [hd]
    refine Ev.step (fun k => by rw [spec_l1Split.l0]) ?_
    refine ev_if_pos (by omega) (ev_if_pos (by omega) (ev_if_pos (by omega) (ev_if_pos (by omega) (ev_if_pos (by omega) ?_))))
    rw [wrap_id (by omega) (by omega), hex]
    refine ev_done fun k => ?_
    rw [spec_l1Split.l0, if_neg (by omega)]
    simp [splitL]
  | succ n ih =>
    intro i a acc h1 h2 h3
    have hi : i < (B s).length := by omega
    have hdrop := drop_cons (B s) 0 i hi
    refine Ev.step (fun k => by rw [spec_l1Split.l0]) ?_
    refine ev_if_pos (by omega) (ev_if_neg (by omega) (ev_if_pos (by omega) (ev_if_pos (by omega) ?_)))
    rw [bt_U s i hi, wrap_up (show i < 1048577 by omega) (by omega), hdrop]
    by_cases hc : (B s).getD i 0 = c
    · refine ev_if_pos (by rw [hc]) (ev_if_pos (by omega) (ev_if_pos (by omega) (ev_if_pos (by omega) ?_)))
      rw [hex]
      have h := ih (i + 1) (i + 1) (acc ++ [ofL (((B s).drop a).take (i - a))]) (by omega) (Nat.le_refl _) (by simp; omega)
      rw [splitL, if_pos hc]
      rw [Nat.sub_self, List.take_zero, List.nil_append] at h
      have hne := splitL_ne c ((B s).drop (i + 1))
      cases hsp : splitL c ((B s).drop (i + 1)) with
      | nil => exact absurd hsp hne
      | cons x xs => rw [hsp] at h; simpa using h
    · refine ev_if_neg (fun e => hc ?_) ?_
      · have := (u8_nat (a := (B s).getD i 0) (n := c.toNat) c.toNat_lt).1 e
        rw [this]; simp
      · have h := ih (i + 1) a acc (by omega) (by omega) (by omega)
        rw [splitL, if_neg hc]
        have ht : ((B s).drop a).take (i + 1 - a) = ((B s).drop a).take (i - a) ++ [(B s).getD i 0] := by
          rw [show i + 1 - a = (i - a) + 1 by omega, List.take_add_one, List.getElem?_drop, show a + (i - a) = i by omega, List.getElem?_eq_getElem hi]
          simp [List.getD_eq_getElem?_getD, List.getElem?_eq_getElem hi]
        rw [ht] at h
        simpa using h
theorem spec_l1Split_ev (s : ByteArray) (hs : s.size ≤ 1048576) (c : UInt8) : Ev (fun k => spec_l1Split.f k s (c.toNat : Int)) ((splitL c (B s)).map ofL) := by
  have h := l1Split_l0 s hs c s.size 0 0 [] (by omega) (Nat.le_refl _) (by simp)
  refine Ev.congr (f := fun k => spec_l1Split.l0 k s (c.toNat : Int) [] 0 0) (fun k => rfl) ?_
  have hne := splitL_ne c (B s)
  cases hsp : splitL c (B s) with
  | nil => exact absurd hsp hne
  | cons x xs => rw [List.drop_zero, hsp] at h; simpa using h

/-! spec_l5Bare -/
-- plain: Evs Trim Cuts Word
theorem l5Bare_l1 (s out : ByteArray) (hs : s.size ≤ 1048576) (r : ByteArray) (ho : out.size + 1 ≤ 9223372036854775807) : ∀ (n j : Nat), j + n = s.size → (∀ i : Nat, j ≤ i → i ≤ s.size + 2 → (B s).drop i = (Go.Lib.cut ((B s).drop j) [42, 47]).2.1 → Ev (fun k => spec_l5Bare.l0 k s (out ++ (⟨#[32]⟩ : ByteArray)) (i : Int)) r) → Ev (fun k => spec_l5Bare.l1 k s out (j : Int)) r := by
  have hB := B_len s
  intro n
  induction n with
  | zero =>
    intro j hj H
    refine Ev.step (fun k => by rw [spec_l5Bare.l1]) ?_
    refine ev_if_neg (by omega) (ev_if_pos ho ?_)
    rw [wrap_up (show j < 1048577 by omega) (by omega)]
    have h1 : (B s).drop j = [] := List.drop_eq_nil_of_le (by omega)
    have h := H (j + 1 + 1) (by omega) (by omega) (by rw [h1, cut_nil _ rfl, List.drop_eq_nil_of_le (by omega)])
    rw [wrap_up (show j + 1 < 1048578 by omega) (by omega)]
    exact h
  | succ n ih =>
    intro j hj H
    have hi : j < (B s).length := by omega
    have hdrop := drop_cons (B s) 0 j hi
    have w1 : wrap64 ((j : Int) + 1) = ((j + 1 : Nat) : Int) := wrap_up (show j < 1048577 by omega) (by omega)
    have w2 : wrap64 (((j + 1 : Nat) : Int) + 1) = ((j + 1 + 1 : Nat) : Int) := wrap_up (show j + 1 < 1048577 by omega) (by omega)
    have next : ¬ ([42, 47] : List UInt8).isPrefixOf ((B s).getD j 0 :: (B s).drop (j + 1)) = true → Ev (fun k => spec_l5Bare.l1 k s out ((j + 1 : Nat) : Int)) r := by
      intro hp
      refine ih (j + 1) (by omega) (fun i h1 h2 h3 => H i (by omega) h2 ?_)
      rw [hdrop, cut_step _ _ _ hp]; exact h3
    refine Ev.step (fun k => by rw [spec_l5Bare.l1]) ?_
    refine ev_if_pos (by omega) (ev_if_pos (by omega) ?_)
    rw [bt_U s j hi, w1, w2]
    by_cases h42 : (B s).getD j 0 = 42
    · refine ev_if_pos (by rw [h42]; rfl) ?_
      by_cases h2 : j + 1 < s.size
      · refine ev_if_pos (by omega) (ev_if_pos (by omega) ?_)
        have hi2 : j + 1 < (B s).length := by omega
        rw [bt_U s (j + 1) hi2]
        have hd2 := drop_cons (B s) 0 (j + 1) hi2
        by_cases h47 : (B s).getD (j + 1) 0 = 47
        · refine ev_if_pos (by rw [h47]; rfl) (ev_if_pos ho ?_)
          refine H (j + 1 + 1) (by omega) (by omega) ?_
          rw [hdrop, hd2, h42, h47, cut_hit 42 _ [42, 47] (by simp [List.isPrefixOf])]
          rfl
        · refine ev_if_neg (fun e => h47 ?_) (next ?_)
          · exact (u8_nat (n := 47) (by omega)).1 e
          · rw [hd2]; exact pre_b _ _ _ _ _ h47
      · refine ev_if_neg (by omega) (next ?_)
        rw [List.drop_eq_nil_of_le (show (B s).length ≤ j + 1 by omega)]
        exact pre_e _ _ _
    · refine ev_if_neg (fun e => h42 ?_) (next ?_)
      · exact (u8_nat (n := 42) (by omega)).1 e
      · exact pre_a _ _ _ _ h42
theorem l5Bare_l0 (s : ByteArray) (hs : s.size ≤ 1048576) : ∀ (n i : Nat) (out : ByteArray), s.size ≤ i + n → i ≤ s.size + 2 → out.size ≤ i → Ev (fun k => spec_l5Bare.l0 k s out (i : Int)) (ofL (B out ++ bare ((B s).drop i))) := by
  have hB := B_len s
  intro n
  induction n using Nat.strongRecOn with
  | ind n ih =>
    intro i out hn hi1 ho
    by_cases hlt : i < s.size
    · have hi : i < (B s).length := by omega
      have hdrop := drop_cons (B s) 0 i hi
      have w1 : wrap64 ((i : Int) + 1) = ((i + 1 : Nat) : Int) := wrap_up (show i < 1048577 by omega) (by omega)
      have w2 : wrap64 ((i : Int) + 2) = ((i + 2 : Nat) : Int) := by rw [wrap_id (by omega) (by omega)]; omega
      have single : ¬ ([47, 42] : List UInt8).isPrefixOf ((B s).getD i 0 :: (B s).drop (i + 1)) = true → Ev (fun k => spec_l5Bare.j1 k s out (i : Int) true) (ofL (B out ++ bare ((B s).drop i))) := by
        intro hp
        have e1 : s.extract (i : Int).toNat ((i + 1 : Nat) : Int).toNat = ofL [(B s).getD i 0] := by
          rw [Int.toNat_natCast, Int.toNat_natCast]
          refine B_ext ?_
          rw [B_extract, B_ofL, hdrop, show i + 1 - i = 1 by omega]; rfl
        have e2 : (ofL [(B s).getD i 0]).size = 1 := rfl
        refine Ev.step (fun k => by rw [spec_l5Bare.j1]) ?_
        rw [w1]
        refine ev_if_pos rfl (ev_if_pos (by omega) (ev_if_pos (by omega) (ev_if_pos (by omega) ?_)))
        rw [e1, e2]
        refine ev_if_pos (by omega) ?_
        have h := ih (s.size - (i + 1)) (by omega) (i + 1) (out ++ ofL [(B s).getD i 0]) (by omega) (by omega) (by rw [ByteArray.size_append, e2]; omega)
        rw [B_append, B_ofL] at h
        rw [hdrop, bare_char _ _ hp]
        simpa using h
      refine Ev.step (fun k => by rw [spec_l5Bare.l0]) ?_
      refine ev_if_pos (by omega) (ev_if_pos (by omega) ?_)
      rw [bt_U s i hi, w1]
      by_cases h47 : (B s).getD i 0 = 47
      · refine ev_if_pos (by rw [h47]; rfl) ?_
        by_cases h2 : i + 1 < s.size
        · have hi2 : i + 1 < (B s).length := by omega
          have hd2 := drop_cons (B s) 0 (i + 1) hi2
          refine ev_if_neg (by omega) (ev_if_pos (by omega) (ev_if_pos (by omega) ?_))
          rw [bt_U s (i + 1) hi2]
          by_cases h42 : (B s).getD (i + 1) 0 = 42
          · have e0 : (((((B s).getD (i + 1) 0).toNat : Int)) != 42) = false := by rw [h42]; rfl
            rw [e0]
            refine Ev.step (fun k => by rw [spec_l5Bare.j1]) ?_
            refine ev_if_neg (by simp) ?_
            rw [w2]
            refine l5Bare_l1 s out hs _ (by omega) (s.size - (i + 2)) (i + 2) (by omega) (fun p h1 h3 h4 => ?_)
            have e3 : (⟨#[32]⟩ : ByteArray).size = 1 := rfl
            have h := ih (s.size - p) (by omega) p (out ++ (⟨#[32]⟩ : ByteArray)) (by omega) h3 (by rw [ByteArray.size_append, e3]; omega)
            rw [hdrop, hd2, h47, h42, bare_open, ← h4]
            have e4 : B (⟨#[32]⟩ : ByteArray) = [32] := rfl
            rw [B_append, e4] at h
            simpa using h
          · have e0 : (((((B s).getD (i + 1) 0).toNat : Int)) != 42) = true := bne_iff_ne.2 fun e => h42 ((u8_nat (n := 42) (by omega)).1 e)
            rw [e0]
            exact single (by rw [hd2]; exact pre_b _ _ _ _ _ h42)
        · refine ev_if_pos (by omega) (single ?_)
          rw [List.drop_eq_nil_of_le (show (B s).length ≤ i + 1 by omega)]
          exact pre_e _ _ _
      · refine ev_if_neg (fun e => h47 ((u8_nat (n := 47) (by omega)).1 e)) (single ?_)
        exact pre_a _ _ _ _ h47
    · refine Ev.step (fun k => by rw [spec_l5Bare.l0]) ?_
      refine ev_if_neg (by omega) (ev_now fun k => ?_)
      rw [List.drop_eq_nil_of_le (show (B s).length ≤ i by omega), bare_nil, List.append_nil, ofL_B]
theorem spec_l5Bare_ev (s : ByteArray) (hs : s.size ≤ 1048576) : Ev (fun k => spec_l5Bare.f k s) (ofL (bare (B s))) := by
  have h := l5Bare_l0 s hs s.size 0 (⟨#[]⟩ : ByteArray) (by omega) (by omega) (Nat.le_refl _)
  exact Ev.congr (fun k => rfl) h

/-! spec_l4Blank -/
-- plain: Trim
theorem spec_l4Blank_eq (c : UInt8) : spec_l4Blank.f (c.toNat : Int) = some (blankU c) := by
  unfold spec_l4Blank.f blankU
  have e : ∀ n : Nat, n < 256 → (((c.toNat : Int) = (n : Int)) ↔ c = UInt8.ofNat n) := fun n hn => u8_nat hn
  by_cases h9 : c = 9
  · subst h9; rfl
  · rw [if_neg (by rw [show (9 : Int) = ((9 : Nat) : Int) from rfl, e 9 (by omega)]; exact h9)]
    by_cases h10 : c = 10
    · subst h10; rfl
    · rw [if_neg (by rw [show (10 : Int) = ((10 : Nat) : Int) from rfl, e 10 (by omega)]; exact h10)]
      by_cases h13 : c = 13
      · subst h13; rfl
      · rw [if_neg (by rw [show (13 : Int) = ((13 : Nat) : Int) from rfl, e 13 (by omega)]; exact h13)]
        by_cases h32 : c = 32
        · subst h32; rfl
        · have h1 : ((c.toNat : Int) == 32) = false := beq_eq_false_iff_ne.mpr (by rw [show (32 : Int) = ((32 : Nat) : Int) from rfl]; exact fun h => h32 ((e 32 (by omega)).1 h))
          rw [h1]
          simp [h9, h10, h13, h32]

/-! spec_l5Trim -/
-- plain: Evs Trim
theorem l5Trim_right : ∀ (n : Nat) (s : ByteArray), s.size = n → n ≤ 1048576 → Ev (fun k => spec_l5Trim.l1 k s) (ofL (dropR (B s))) := by
  intro n
  induction n with
  | zero =>
    intro s hs _
    have e : B s = [] := List.length_eq_zero_iff.mp (by rw [B_len]; exact hs)
    refine Ev.step (fun k => spec_l5Trim.l1.eq_2 ..) (ev_if_neg (by omega) ?_)
    have e2 : ofL (dropR (B s)) = s := by rw [e, dropR_nil, ← e, ofL_B]
    rw [e2]; exact Ev.now _
  | succ n ih =>
    intro s hs hn
    have hl := B_len s
    refine Ev.step (fun k => spec_l5Trim.l1.eq_2 ..) (ev_if_pos (by omega) ?_)
    rw [wrap_id (x := (s.size : Int) - 1) (by omega) (by omega), show (s.size : Int) - 1 = (n : Int) by omega]
    refine ev_if_pos (by omega) (ev_if_pos (by omega) ?_)
    rw [bt_U s n (by omega)]
    refine ev_bind0 (spec_l4Blank_eq _) ?_
    have hsplit : B s = (B s).take n ++ [(B s).getD n 0] := by
      have h1 := List.take_append_drop n (B s)
      rw [drop_cons (B s) 0 n (by omega), List.drop_eq_nil_of_le (by omega)] at h1
      exact h1.symm
    have hR : dropR (B s) = if blankU ((B s).getD n 0) = true then dropR ((B s).take n) else B s := by
      have h1 := dropR_snoc ((B s).take n) ((B s).getD n 0)
      rw [← hsplit] at h1
      exact h1
    rw [hR]
    by_cases hb : blankU ((B s).getD n 0) = true
    · rw [if_pos hb]
      refine ev_if_pos hb (ev_if_pos (by omega) ?_)
      rw [Int.toNat_natCast]
      have hB : B (s.extract 0 n) = (B s).take n := by rw [B_extract]; simp
      have h2 := ih (s.extract 0 n) (by rw [← B_len, hB, List.length_take]; omega) (by omega)
      rw [hB] at h2
      exact h2
    · rw [if_neg hb, ofL_B]
      exact ev_if_neg hb (Ev.now _)
theorem l5Trim_left : ∀ (n : Nat) (s : ByteArray), s.size = n → n ≤ 1048576 → Ev (fun k => spec_l5Trim.l0 k s) (ofL (dropR (dropL (B s)))) := by
  intro n
  induction n with
  | zero =>
    intro s hs hn
    have e : B s = [] := List.length_eq_zero_iff.mp (by rw [B_len]; exact hs)
    have h := l5Trim_right 0 s hs hn
    have e2 : dropL (B s) = B s := by rw [e]; rfl
    rw [e2]
    exact Ev.step (fun k => spec_l5Trim.l0.eq_2 ..) (ev_if_neg (by omega) (Ev.step (fun k => spec_l5Trim.j1.eq_2 ..) h))
  | succ n ih =>
    intro s hs hn
    have hl := B_len s
    refine Ev.step (fun k => spec_l5Trim.l0.eq_2 ..) (ev_if_pos (by omega) (ev_if_pos (by omega) ?_))
    rw [show bt s 0 = _ from bt_U s 0 (by omega)]
    refine ev_bind0 (spec_l4Blank_eq _) ?_
    have hsplit : B s = (B s).getD 0 0 :: (B s).drop 1 := by
      have h1 := drop_cons (B s) 0 0 (by omega)
      rw [List.drop_zero] at h1
      exact h1
    by_cases hb : blankU ((B s).getD 0 0) = true
    · refine ev_if_pos hb (ev_if_pos (by omega) ?_)
      have hB : B (s.extract 1 s.size) = (B s).drop 1 := by
        rw [B_extract, List.take_of_length_le (by rw [List.length_drop]; omega)]
      have h2 := ih (s.extract 1 s.size) (by rw [← B_len, hB, List.length_drop]; omega) (by omega)
      rw [hB] at h2
      have e : dropL (B s) = dropL ((B s).drop 1) := by
        rw [hsplit]; unfold dropL; rw [List.dropWhile_cons, if_pos (by simpa using hb)]; simp
      rw [e]
      exact h2
    · have e : dropL (B s) = B s := by
        rw [hsplit]; unfold dropL; rw [List.dropWhile_cons, if_neg (by simpa using hb)]
      rw [e]
      exact ev_if_neg hb (Ev.step (fun k => spec_l5Trim.j1.eq_2 ..) (l5Trim_right (n + 1) s hs hn))
/-- a text without blanks around it. -/
def trimP (s : ByteArray) : ByteArray := ofL (dropR (dropL (B s)))
theorem trimP_size (s : ByteArray) : (trimP s).size ≤ s.size := by
  rw [← B_len, ← B_len]
  unfold trimP
  rw [B_ofL]
  exact Nat.le_trans (dropR_len _) (dropL_len _)
theorem spec_l5Trim_ev (s : ByteArray) (hs : s.size ≤ 1048576) : Ev (fun k => spec_l5Trim.f k s) (trimP s) := l5Trim_left s.size s rfl hs

/-! spec_l1In -/
theorem spec_l1In_eq (a b c : Int) : spec_l1In.f a b c = some (decide (b ≤ a ∧ a ≤ c)) := by
  unfold spec_l1In.f
  split
  · rename_i h; simp [show b ≤ a from h]
  · rename_i h; simp [show ¬ b ≤ a from h]

/-! spec_l1Digit -/
-- plain: Word
theorem spec_l1Digit_eq (c : Int) : spec_l1Digit.f c = some (digI c) := by
  unfold spec_l1Digit.f digI
  split
  · rename_i h; congr 1; rw [decide_eq_decide]; omega
  · rename_i h; congr 1; rw [eq_comm, decide_eq_false_iff_not]; omega

/-! spec_l4Letter -/
-- plain: Word
theorem spec_l4Letter_eq (c : Int) : spec_l4Letter.f c = some (ltrI c || decide (c = 95)) := by
  have hb : (c == 95) = decide (c = 95) := by rw [Bool.eq_iff_iff]; simp
  unfold spec_l4Letter.f
  rw [hb]
  unfold ltrI
  by_cases h1 : (97 ≤ c ∧ c ≤ 122)
  · rw [if_pos h1.1, if_pos h1.2, decide_eq_true (p := (97 ≤ c ∧ c ≤ 122) ∨ (65 ≤ c ∧ c ≤ 90)) (.inl h1)]; rfl
  · by_cases h2 : (65 ≤ c ∧ c ≤ 90)
    · rw [decide_eq_true (p := (97 ≤ c ∧ c ≤ 122) ∨ (65 ≤ c ∧ c ≤ 90)) (.inr h2), Bool.true_or]
      by_cases h3 : c ≥ 97
      · omega
      · rw [if_neg h3, if_pos h2.1, if_pos h2.2]
    · rw [decide_eq_false (p := (97 ≤ c ∧ c ≤ 122) ∨ (65 ≤ c ∧ c ≤ 90)) (by omega), Bool.false_or]
      by_cases h3 : c ≥ 97
      · rw [if_pos h3, if_neg (by omega), if_pos (by omega), if_neg (by omega)]
      · rw [if_neg h3]
        by_cases h4 : c ≥ 65
        · rw [if_pos h4, if_neg (by omega)]
        · rw [if_neg h4]

/-! spec_l5Start -/
-- plain: Word
theorem spec_l5Start_eq (c : Int) : spec_l5Start.f c = some (ltrI c || decide (c = 95) || decide (c = 45)) := by
  have hb : (c == 45) = decide (c = 45) := by rw [Bool.eq_iff_iff]; simp
  unfold spec_l5Start.f
  rw [spec_l4Letter_eq, Option.bind_some, hb]
  split
  · rename_i h; rw [h, Bool.true_or]
  · rename_i h; rw [Bool.not_eq_true] at h; rw [h, Bool.false_or]

/-! spec_l5Inner -/
-- plain: Word
theorem spec_l5Inner_eq (c : Int) : spec_l5Inner.f c = some (wordI c) := by
  unfold spec_l5Inner.f
  rw [spec_l5Start_eq, Option.bind_some, spec_l1Digit_eq, Option.bind_some]
  unfold wordI
  generalize ltrI c = a; generalize digI c = b; generalize decide (c = 95) = d; generalize decide (c = 45) = e
  cases a <;> cases b <;> cases d <;> cases e <;> rfl

/-! spec_l5Run -/
-- plain: Word
def runL (l : List UInt8) : Nat := if runEnd wordU l 0 = 0 then 0 else if digU (l.getD 0 0) = true then 0 else if runEnd wordU l 0 > 30 then 0 else runEnd wordU l 0
theorem spec_l5Run_ev (s : ByteArray) (hs : s.size ≤ 9223372036854775806) : Ev (fun k => spec_l5Run.f k s) ((runL (B s) : Nat) : Int) := by
  refine Ev.congr (f := fun k => spec_l5Run.l0 k s 0) (fun k => rfl) ?_
  have hl := B_len s
  have fin : ∀ e : Nat, e ≤ (B s).length → ∀ k : Nat, (if (e : Int) = 0 then (some (0 : Int)) else (if 0 < (s.size : Int) then ((spec_l1Digit.f (bt s 0)).bind fun t => (if t = true then (some 0) else (if (e : Int) > 30 then (some 0) else (some (e : Int))))) else (none))) =
      some (((if e = 0 then 0 else if digU ((B s).getD 0 0) = true then 0 else if e > 30 then 0 else e : Nat) : Nat) : Int) := by
    intro e he k
    by_cases h0 : e = 0
    · rw [if_pos (by omega), if_pos h0]; rfl
    · have hb := bt_U s 0 (by omega)
      have hd : digI (bt s 0) = digU ((B s).getD 0 0) := by
        have : bt s ((0 : Nat) : Int) = bt s 0 := rfl
        rw [← this, hb]; rfl
      rw [if_neg (by omega), if_neg h0, if_pos (by omega), spec_l1Digit_eq, Option.bind_some, hd]
      split
      · rfl
      · by_cases h30 : e > 30
        · rw [if_pos (by omega), if_pos h30]; rfl
        · rw [if_neg (by omega), if_neg h30]
  have key := ev_from (B s).length (fun i k => spec_l5Run.l0 k s i) (fun i => (((if runEnd wordU (B s) i = 0 then 0 else if digU ((B s).getD 0 0) = true then 0 else if runEnd wordU (B s) i > 30 then 0 else runEnd wordU (B s) i : Nat) : Nat) : Int)) ?_ ?_ 0 (by omega)
  · exact key
  · refine ev_done fun k => ?_
    rw [spec_l5Run.l0, if_neg (by omega), fin _ (Nat.le_refl _) k, runEnd_end _ _ _ (Nat.le_refl _)]
  · intro i hi h
    by_cases hp : wordU ((B s).getD i 0) = true
    · rw [runEnd_yes _ _ _ hi hp]
      refine Ev.step (fun k => ?_) h
      rw [spec_l5Run.l0, if_pos (by omega), if_pos (by omega), spec_l5Inner_eq, Option.bind_some, bt_U s i hi, if_pos (show wordI _ = true from hp), wrap_up hi (by omega)]
    · refine ev_done fun k => ?_
      rw [spec_l5Run.l0, if_pos (by omega), if_pos (by omega), spec_l5Inner_eq, Option.bind_some, bt_U s i hi, if_neg (show ¬ wordI _ = true from hp), runEnd_no _ _ _ hi hp, fin i (by omega) k]

/-! strings_CutSuffix -/
-- plain: Trim Evs
def impMark : List UInt8 := [33, 105, 109, 112, 111, 114, 116, 97, 110, 116]
def impB (t : ByteArray) : Bool := decide (10 ≤ t.size) && ((t.extract (t.size - 10) t.size).toList == impMark)
theorem strings_CutSuffix_imp (t : ByteArray) (hs : t.size ≤ 1048576) : strings_CutSuffix.f t (⟨#[33, 105, 109, 112, 111, 114, 116, 97, 110, 116]⟩ : ByteArray) = some (if impB t = true then (t.extract 0 (t.size - 10), true) else (t, false)) := by
  have hz : (⟨#[33, 105, 109, 112, 111, 114, 116, 97, 110, 116]⟩ : ByteArray).size = 10 := rfl
  have hl : (⟨#[33, 105, 109, 112, 111, 114, 116, 97, 110, 116]⟩ : ByteArray).toList = impMark := by rw [toList_B]; rfl
  unfold strings_CutSuffix.f stringslite_CutSuffix.f stringslite_HasSuffix.f
  rw [hz, hl]
  by_cases h : 10 ≤ t.size
  · have e : wrap64 ((t.size : Int) - ((10 : Nat) : Int)) = ((t.size - 10 : Nat) : Int) := by rw [wrap_id (by omega) (by omega)]; omega
    rw [e, if_pos (by omega), if_pos (by omega), if_pos (by omega), Int.toNat_natCast, Option.bind_some]
    unfold impB
    rw [decide_eq_true h, Bool.true_and]
    split
    · rw [if_pos (by omega), if_pos (by omega)]; rfl
    · rfl
  · unfold impB
    rw [if_neg (by omega), Option.bind_some, if_neg (by simp), decide_eq_false h, Bool.false_and, if_neg (by simp)]
    rfl

/-! strings_Cut -/
-- plain: Trim Cuts
theorem strings_Cut_eq (s sep : ByteArray) (hs : s.size < 4294967281) : strings_Cut.f s sep = some (ofL (Go.Lib.cut (B s) (B sep)).1, ofL (Go.Lib.cut (B s) (B sep)).2.1, (Go.Lib.cut (B s) (B sep)).2.2) := by
  unfold strings_Cut.f
  rw [if_pos hs]
  rfl

/-! impl_lower -/
-- plain: Trim Word Decl
theorem lowC_range (x : Int) (h0 : 0 ≤ x) (h1 : x < 256) : 0 ≤ lowC x ∧ lowC x < 256 := by unfold lowC; split <;> omega
def lowU (c : UInt8) : UInt8 := UInt8.ofNat (lowC (c.toNat : Int)).toNat
theorem lowU_nat (c : UInt8) : ((lowU c).toNat : Int) = lowC (c.toNat : Int) := by
  have h := c.toNat_lt
  have hr := lowC_range (c.toNat : Int) (by omega) (by omega)
  unfold lowU
  rw [UInt8.toNat_ofNat', Nat.mod_eq_of_lt (by omega)]
  omega
theorem B_lowB (s : ByteArray) : B (lowB s) = (B s).map lowU := by
  unfold lowB B
  rw [Go.strOfNums_data]
  unfold bytesOf
  rw [List.map_map, List.map_map]
  rfl
theorem lowB_size (s : ByteArray) : (lowB s).size = s.size := by rw [← B_len, B_lowB, List.length_map, B_len]
theorem digU_low (c : UInt8) : digU (lowU c) = digU c := by
  unfold digU
  rw [lowU_nat]
  generalize (c.toNat : Int) = x
  unfold digI lowC
  split
  · rw [decide_eq_decide]; omega
  · rfl
theorem wordU_low (c : UInt8) : wordU (lowU c) = wordU c := by
  have h := c.toNat_lt
  unfold wordU
  rw [lowU_nat]
  unfold wordI ltrI digI lowC
  split
  · rename_i hh
    have e : ((c.toNat : Int) + 32) % 256 = (c.toNat : Int) + 32 := by omega
    rw [e, decide_eq_true (show (97 ≤ (c.toNat : Int) + 32 ∧ (c.toNat : Int) + 32 ≤ 122) ∨ (65 ≤ (c.toNat : Int) + 32 ∧ (c.toNat : Int) + 32 ≤ 90) by omega), decide_eq_true (show (97 ≤ (c.toNat : Int) ∧ (c.toNat : Int) ≤ 122) ∨ (65 ≤ (c.toNat : Int) ∧ (c.toNat : Int) ≤ 90) by omega)]
    rfl
  · rfl
theorem isWordL_low (s : ByteArray) : isWordL (B (lowB s)) = isWordL (B s) := by
  rw [B_lowB]
  unfold isWordL
  have h1 : ((B s).map lowU).all wordU = (B s).all wordU := by
    rw [List.all_map]
    congr 1
    funext c
    exact wordU_low c
  have h2 : digU (((B s).map lowU).getD 0 0) = digU ((B s).getD 0 0) := by
    cases B s with
    | nil => rfl
    | cons c l => exact digU_low c
  rw [h1, h2, List.length_map]

/-! impl_isDigit -/
-- plain: Word
theorem impl_isDigit_eq (c : Int) : impl_isDigit.f c = some (digI c) := by
  unfold impl_isDigit.f digI
  split
  · rename_i h; congr 1; rw [decide_eq_decide]; omega
  · rename_i h; congr 1; rw [eq_comm, decide_eq_false_iff_not]; omega

/-! impl_isLetter -/
-- plain: Word
theorem impl_isLetter_eq (c : Int) : impl_isLetter.f c = some (ltrI c) := by
  unfold impl_isLetter.f ltrI
  split
  · split
    · congr 1; rw [eq_comm, decide_eq_true_iff]; omega
    · split
      · congr 1; rw [decide_eq_decide]; omega
      · congr 1; rw [eq_comm, decide_eq_false_iff_not]; omega
  · split
    · congr 1; rw [decide_eq_decide]; omega
    · congr 1; rw [eq_comm, decide_eq_false_iff_not]; omega

/-! impl_wordEnd -/
-- plain: Word
theorem impl_wordEnd_l0_ev (s : ByteArray) (hs : s.size ≤ 9223372036854775806) (i : Nat) : Ev (fun k => impl_wordEnd.l0 k s i) ((runEnd wordU (B s) i : Nat) : Int) := by
  have hl := B_len s
  by_cases hi0 : i ≤ (B s).length
  · refine ev_from (B s).length (fun i k => impl_wordEnd.l0 k s i) (fun i => ((runEnd wordU (B s) i : Nat) : Int)) ?_ ?_ i hi0
    · refine ev_done fun k => ?_
      rw [impl_wordEnd.l0, if_neg (by omega), runEnd_end _ _ _ (Nat.le_refl _)]
    · intro i hi h
      have hb := bt_U s i hi
      by_cases hp : wordU ((B s).getD i 0) = true
      · rw [runEnd_yes _ _ _ hi hp]
        refine Ev.step (fun k => ?_) h
        rw [impl_wordEnd.l0, if_pos (by omega), if_pos (by omega), impl_isLetter_eq, Option.bind_some, impl_isDigit_eq, Option.bind_some, hb, wrap_up hi (by omega)]
        unfold wordU wordI at hp
        by_cases c1 : ltrI (((B s).getD i 0).toNat : Int) = true
        · rw [if_pos c1]
        · rw [if_neg c1]
          by_cases c2 : digI (((B s).getD i 0).toNat : Int) = true
          · rw [if_pos c2]
          · rw [if_neg c2]
            by_cases c3 : (((B s).getD i 0).toNat : Int) = 95
            · rw [if_pos c3]
            · rw [if_neg c3, if_pos]
              simp only [Bool.not_eq_true] at c1 c2
              rw [c1, c2, decide_eq_false c3] at hp
              simpa using hp
      · refine ev_done fun k => ?_
        rw [impl_wordEnd.l0, if_pos (by omega), if_pos (by omega), impl_isLetter_eq, Option.bind_some, impl_isDigit_eq, Option.bind_some, hb, runEnd_no _ _ _ hi hp]
        unfold wordU wordI at hp
        simp only [Bool.or_eq_true, not_or, decide_eq_true_iff] at hp
        rw [if_neg hp.1.1.1, if_neg hp.1.1.2, if_neg hp.1.2, if_neg hp.2]
  · refine ev_done fun k => ?_
    rw [impl_wordEnd.l0, if_neg (by omega), runEnd_end _ _ _ (by omega)]
def wordEndL (l : List UInt8) (i : Nat) : Nat := if i < l.length ∧ digU (l.getD i 0) = true then i else runEnd wordU l i
theorem impl_wordEnd_ev (s : ByteArray) (hs : s.size ≤ 9223372036854775806) (i : Nat) : Ev (fun k => impl_wordEnd.f k s i) ((wordEndL (B s) i : Nat) : Int) := by
  have hl := B_len s
  simp only [impl_wordEnd.f]
  unfold wordEndL
  by_cases hi : i < (B s).length
  · refine ev_if_pos (by omega) (ev_if_pos (by omega) ?_)
    rw [impl_isDigit_eq, bt_U s i hi]
    simp only [Option.bind_some]
    by_cases hd : digU ((B s).getD i 0) = true
    · rw [if_pos ⟨hi, hd⟩]
      refine Ev.step (fun k => impl_wordEnd.j0.eq_2 ..) (ev_if_pos hd (Ev.now _))
    · rw [if_neg (fun h => hd h.2)]
      refine Ev.step (fun k => impl_wordEnd.j0.eq_2 ..) (ev_if_neg hd (impl_wordEnd_l0_ev s hs i))
  · rw [if_neg (fun h => hi h.1)]
    refine ev_if_neg (by omega) (Ev.step (fun k => impl_wordEnd.j0.eq_2 ..) (ev_if_neg (by decide) (impl_wordEnd_l0_ev s hs i)))

/-! impl_within -/
theorem impl_within_eq (a b c : Int) : impl_within.f a b c = some (decide (b ≤ a ∧ a ≤ c)) := by
  unfold impl_within.f
  split
  · rename_i h; simp [h]
  · rename_i h; simp [h]

/-! impl_isWord -/
-- plain: Word
theorem wordEnd_word (l : List UInt8) : (decide (1 ≤ l.length ∧ l.length ≤ 30) && decide (wordEndL l 0 = l.length)) = isWordL l := by
  unfold isWordL wordEndL
  have ha := runEnd_all wordU l
  by_cases h0 : 1 ≤ l.length ∧ l.length ≤ 30
  · rw [decide_eq_true h0, Bool.true_and, Bool.true_and]
    cases hd : digU (l.getD 0 0) with
    | true =>
      rw [if_pos ⟨by omega, rfl⟩]
      simp only [Bool.not_true, Bool.false_and]
      rw [decide_eq_false_iff_not]; omega
    | false =>
      rw [if_neg (fun h => by simp at h)]
      simp only [Bool.not_false, Bool.true_and]
      rw [Bool.eq_iff_iff, decide_eq_true_iff]; exact ha
  · rw [decide_eq_false h0]; simp
theorem impl_isWord_ev (s : ByteArray) (hs : s.size ≤ 9223372036854775806) : Ev (fun k => impl_isWord.f k s) (isWordL (B s)) := by
  have hl := B_len s
  simp only [impl_isWord.f]
  rw [← wordEnd_word, impl_within_eq]
  simp only [Option.bind_some]
  by_cases h : 1 ≤ (B s).length ∧ (B s).length ≤ 30
  · refine ev_if_pos (by rw [decide_eq_true_iff]; omega) (ev_bind (impl_wordEnd_ev s hs 0) ?_)
    have e : (decide (1 ≤ (B s).length ∧ (B s).length ≤ 30) && decide (wordEndL (B s) 0 = (B s).length)) = (((wordEndL (B s) 0 : Nat) : Int) == (s.size : Int)) := by
      rw [decide_eq_true h, Bool.true_and, Bool.eq_iff_iff, decide_eq_true_iff, beq_iff_eq]; omega
    rw [e]; exact Ev.now _
  · refine ev_if_neg (by rw [decide_eq_true_iff]; omega) ?_
    rw [decide_eq_false h, Bool.false_and]; exact Ev.now _

/-! impl_trimmed -/
-- plain: Trim
theorem impl_trimmed_eq (s : ByteArray) (hs : s.size ≤ 1048576) : impl_trimmed.f s = some (trimP s) := by
  unfold impl_trimmed.f
  rw [if_pos (by omega)]
  have e : trimB s = trimP s := by
    unfold trimB trimP
    show ofL (dropL (dropR (B s))) = _
    rw [dropL_dropR]
  rw [e]

/-! impl_readDecl -/
-- plain: Evs Trim Cuts Decl
def valB (t : ByteArray) : ByteArray := if impB t = true then trimP (t.extract 0 (t.size - 10)) else t
theorem valB_size (t : ByteArray) : (valB t).size ≤ t.size := by
  unfold valB
  split
  · have := trimP_size (t.extract 0 (t.size - 10))
    rw [ByteArray.size_extract] at this
    omega
  · exact Nat.le_refl _
def okB (v : ByteArray) : Bool := decide ((1 : Int) ≤ (v.size : Int) ∧ (v.size : Int) ≤ 60)
theorem impl_readDecl_ev (s : ByteArray) (hs : s.size ≤ 1048576) : Ev (fun k => impl_readDecl.f k s)
    (if (Go.Lib.cut (B s) [58]).2.2 = true ∧ isWordL (tr (Go.Lib.cut (B s) [58]).1) = true ∧ okB (valB (trimP (ofL (Go.Lib.cut (B s) [58]).2.1))) = true then
      (lowB (trimP (ofL (Go.Lib.cut (B s) [58]).1)), valB (trimP (ofL (Go.Lib.cut (B s) [58]).2.1)), impB (trimP (ofL (Go.Lib.cut (B s) [58]).2.1)), true)
    else ((⟨#[]⟩ : ByteArray), (⟨#[]⟩ : ByteArray), false, false)) := by
  have hB := B_len s
  have hp := cut_parts (B s) [58]
  have hp2 := (cut_len (B s) [58]).1
  have hz : ∀ l : List UInt8, (ofL l).size = l.length := fun l => by rw [← B_len, B_ofL]
  have e1 : B (⟨#[58]⟩ : ByteArray) = [58] := rfl
  unfold impl_readDecl.f
  refine ev_bind0 (strings_Cut_eq s _ (by omega)) ?_
  rw [e1]
  dsimp only
  generalize hn : (Go.Lib.cut (B s) [58]).1 = nm at hp ⊢
  generalize hv : (Go.Lib.cut (B s) [58]).2.1 = vl at hp hp2 ⊢
  generalize hf : (Go.Lib.cut (B s) [58]).2.2 = fd at hp ⊢
  have zn := trimP_size (ofL nm)
  have zv := trimP_size (ofL vl)
  rw [hz] at zn zv
  refine ev_bind0 (impl_trimmed_eq _ (by rw [hz]; omega)) ?_
  refine ev_bind0 (show impl_lower.f (trimP (ofL nm)) = some (lowB (trimP (ofL nm))) by unfold impl_lower.f; rw [if_pos (by omega)]) ?_
  refine ev_bind0 (impl_trimmed_eq _ (by rw [hz]; omega)) ?_
  refine ev_bind0 (strings_CutSuffix_imp _ (by omega)) ?_
  generalize ht : trimP (ofL vl) = t at zv ⊢
  have hvz := valB_size t
  have key : Ev (fun k => impl_readDecl.j0 k fd (lowB (trimP (ofL nm))) (valB t) (impB t)) (if fd = true ∧ isWordL (tr nm) = true ∧ okB (valB t) = true then (lowB (trimP (ofL nm)), valB t, impB t, true) else ((⟨#[]⟩ : ByteArray), (⟨#[]⟩ : ByteArray), false, false)) := by
    refine Ev.step (fun k => by rw [impl_readDecl.j0]) ?_
    by_cases hfd : fd = true
    · refine ev_if_pos hfd ?_
      refine ev_bind (impl_isWord_ev _ (by rw [lowB_size]; omega)) ?_
      have e2 : B (trimP (ofL nm)) = tr nm := by unfold trimP tr; rw [B_ofL, B_ofL]
      rw [isWordL_low, e2]
      by_cases hw : isWordL (tr nm) = true
      · refine ev_if_pos hw ?_
        refine ev_bind0 (impl_within_eq _ _ _) ?_
        by_cases ho : okB (valB t) = true
        · have hT : fd = true ∧ isWordL (tr nm) = true ∧ okB (valB t) = true := ⟨hfd, hw, ho⟩
          rw [if_pos hT]
          exact ev_if_pos ho (ev_now fun k => rfl)
        · rw [if_neg (show ¬ (fd = true ∧ isWordL (tr nm) = true ∧ okB (valB t) = true) from fun h => ho h.2.2)]
          exact ev_if_neg ho (ev_now fun k => rfl)
      · rw [if_neg (show ¬ (fd = true ∧ isWordL (tr nm) = true ∧ okB (valB t) = true) from fun h => hw h.2.1)]
        exact ev_if_neg hw (ev_now fun k => rfl)
    · rw [if_neg (show ¬ (fd = true ∧ isWordL (tr nm) = true ∧ okB (valB t) = true) from fun h => hfd h.1)]
      exact ev_if_neg hfd (ev_now fun k => rfl)
  by_cases hi : impB t = true
  · rw [if_pos hi]
    refine ev_if_pos rfl (ev_bind0 (impl_trimmed_eq _ (by simp only [ByteArray.size_extract]; omega)) ?_)
    unfold valB at key ⊢
    rw [hi, if_pos rfl] at key ⊢
    exact key
  · rw [if_neg hi]
    refine ev_if_neg (by simp) ?_
    unfold valB at key ⊢
    rw [if_neg hi] at key ⊢
    rw [Bool.eq_false_iff.2 hi] at key ⊢
    exact key

/-! spec_l5Decl -/
-- plain: Evs Trim Cuts Decl
def specDecl (s : ByteArray) : ByteArray × ByteArray × Bool × Bool :=
  if runL (tr (B s)) = 0 then ((⟨#[]⟩ : ByteArray), (⟨#[]⟩ : ByteArray), false, false)
  else if (tr ((tr (B s)).drop (runL (tr (B s))))).head? = some 58 then
    (lowB (ofL ((tr (B s)).take (runL (tr (B s))))), valB (ofL (tr (tr ((tr (B s)).drop (runL (tr (B s))))).tail)), impB (ofL (tr (tr ((tr (B s)).drop (runL (tr (B s))))).tail)), okB (valB (ofL (tr (tr ((tr (B s)).drop (runL (tr (B s))))).tail))))
  else ((⟨#[]⟩ : ByteArray), (⟨#[]⟩ : ByteArray), false, false)
theorem runL_leD (l : List UInt8) : runL l ≤ l.length := by
  have h := runEnd_le wordU l 0 (by omega)
  unfold runL
  split
  · omega
  · split
    · omega
    · split <;> omega
theorem tr_len (l : List UInt8) : (tr l).length ≤ l.length := by
  have h1 := dropL_len l
  have h2 := dropR_len (dropL l)
  unfold tr; omega
theorem trimP_ofL (s : ByteArray) : trimP s = ofL (tr (B s)) := rfl
theorem spec_l5Decl_ev (s : ByteArray) (hs : s.size ≤ 1048576) : Ev (fun k => spec_l5Decl.f k s) (specDecl s) := by
  have hB := B_len s
  have hz : ∀ l : List UInt8, (ofL l).size = l.length := fun l => by rw [← B_len, B_ofL]
  unfold spec_l5Decl.f specDecl
  refine ev_bind (spec_l5Trim_ev s hs) ?_
  rw [trimP_ofL]
  have hl1 := tr_len (B s)
  generalize tr (B s) = t at hl1 ⊢
  refine ev_bind (spec_l5Run_ev _ (by rw [hz]; omega)) ?_
  rw [B_ofL]
  have hr := runL_leD t
  generalize runL t = n at hr ⊢
  by_cases hn : n = 0
  · rw [if_pos hn]
    exact ev_if_pos (by omega) (ev_now fun k => rfl)
  · rw [if_neg hn]
    have ex1 : (ofL t).extract 0 ((n : Int)).toNat = ofL (t.take n) := by
      refine B_ext ?_
      rw [B_extract, B_ofL, B_ofL, Int.toNat_natCast, List.drop_zero, Nat.sub_zero]
    have ex2 : (ofL t).extract ((n : Int)).toNat (ofL t).size = ofL (t.drop n) := by
      refine B_ext ?_
      rw [B_extract, B_ofL, B_ofL, Int.toNat_natCast, hz, List.take_of_length_le (by simp)]
    refine ev_if_neg (by omega) (ev_if_pos (by omega) (ev_if_pos (by rw [hz]; omega) ?_))
    rw [ex1, ex2]
    refine ev_bind0 (show spec_l5Low.f (ofL (t.take n)) = some (lowB (ofL (t.take n))) by unfold spec_l5Low.f; rw [if_pos (by rw [hz, List.length_take]; omega)]) ?_
    refine ev_bind (spec_l5Trim_ev _ (by rw [hz, List.length_drop]; omega)) ?_
    rw [trimP_ofL, B_ofL]
    have hl2 := tr_len (t.drop n)
    rw [List.length_drop] at hl2
    generalize lowB (ofL (t.take n)) = nm
    generalize tr (t.drop n) = u at hl2 ⊢
    cases u with
    | nil =>
      refine ev_if_pos rfl ?_
      rw [if_neg (by simp)]
      refine Ev.step (fun k => by rw [spec_l5Decl.j0]) ?_
      exact ev_if_pos rfl (ev_now fun k => rfl)
    | cons c u =>
      rw [List.length_cons] at hl2
      refine ev_if_neg (by rw [hz, List.length_cons]; omega) (ev_if_pos (by rw [hz, List.length_cons]; omega) ?_)
      have hbt : bt (ofL (c :: u)) 0 = (c.toNat : Int) := by
        have := bt_U (ofL (c :: u)) 0 (by rw [B_ofL]; simp)
        rw [B_ofL] at this
        simpa using this
      rw [hbt]
      by_cases h58 : c = 58
      · subst h58
        rw [if_pos (by simp), show ((((58 : UInt8).toNat : Int)) != 58) = false from rfl, List.tail_cons]
        refine Ev.step (fun k => by rw [spec_l5Decl.j0]) ?_
        have ex3 : (ofL (58 :: u)).extract 1 (ofL (58 :: u)).size = ofL u := by
          refine B_ext ?_
          rw [B_extract, B_ofL, B_ofL, hz, List.drop_one, List.tail_cons, List.take_of_length_le (by simp)]
        refine ev_if_neg (by simp) (ev_if_pos (by rw [hz, List.length_cons]; omega) ?_)
        rw [ex3]
        refine ev_bind (spec_l5Trim_ev _ (by rw [hz]; omega)) ?_
        rw [trimP_ofL, B_ofL]
        have hl3 := tr_len u
        have hzt := hz (tr u)
        generalize ofL (tr u) = v at hzt ⊢
        have hvz := valB_size v
        have j1T : impB v = true → 10 ≤ v.size → Ev (fun k => spec_l5Decl.j1 k v true nm (⟨#[]⟩ : ByteArray) false) (nm, valB v, impB v, okB (valB v)) := by
          intro hi h10
          have e : wrap64 ((v.size : Int) - 10) = ((v.size - 10 : Nat) : Int) := by rw [wrap_id (by omega) (by omega)]; omega
          refine Ev.step (fun k => by rw [spec_l5Decl.j1]) ?_
          rw [e, Int.toNat_natCast]
          refine ev_if_pos rfl (ev_if_pos (by omega) (ev_if_pos (by omega) ?_))
          refine ev_bind (spec_l5Trim_ev _ (by simp only [ByteArray.size_extract]; omega)) ?_
          refine ev_bind0 (spec_l1In_eq _ _ _) (ev_now fun k => ?_)
          unfold valB
          rw [hi, if_pos rfl]; rfl
        have j1F : impB v = false → Ev (fun k => spec_l5Decl.j1 k v false nm (⟨#[]⟩ : ByteArray) false) (nm, valB v, impB v, okB (valB v)) := by
          intro hi
          refine Ev.step (fun k => by rw [spec_l5Decl.j1]) ?_
          refine ev_if_neg (by simp) (ev_bind0 (spec_l1In_eq _ _ _) (ev_now fun k => ?_))
          unfold valB
          rw [hi, if_neg (by simp)]; rfl
        by_cases h10 : 10 ≤ v.size
        · have e : wrap64 ((v.size : Int) - 10) = ((v.size - 10 : Nat) : Int) := by rw [wrap_id (by omega) (by omega)]; omega
          refine ev_if_pos (by omega) ?_
          rw [e, Int.toNat_natCast]
          refine ev_if_pos (by omega) (ev_if_pos (by omega) ?_)
          have hb : ((v.extract (v.size - 10) v.size).toList == ([33, 105, 109, 112, 111, 114, 116, 97, 110, 116] : List UInt8)) = impB v := by
            unfold impB impMark
            rw [decide_eq_true h10, Bool.true_and]
          rw [hb]
          cases hi : impB v with
          | true => have := j1T hi h10; rw [hi] at this; exact this
          | false => have := j1F hi; rw [hi] at this; exact this
        · refine ev_if_neg (by omega) ?_
          exact j1F (by unfold impB; rw [decide_eq_false h10]; rfl)
      · rw [if_neg (by simpa using h58)]
        have e0 : ((c.toNat : Int) != 58) = true := bne_iff_ne.2 fun e => h58 ((u8_nat (n := 58) (by omega)).1 e)
        rw [e0]
        refine Ev.step (fun k => by rw [spec_l5Decl.j0]) ?_
        exact ev_if_pos rfl (ev_now fun k => rfl)
theorem runL_runL' (l : List UInt8) : runL l = runL' l := rfl
theorem decl_both (s : ByteArray) (hs : s.size ≤ 1048576) : ∃ r1 r2 : ByteArray × ByteArray × Bool × Bool, Ev (fun k => spec_l5Decl.f k s) r1 ∧ Ev (fun k => impl_readDecl.f k s) r2 ∧ r1.2.2.2 = r2.2.2.2 ∧ (r1.2.2.2 = true → r1 = r2) := by
  refine ⟨_, _, spec_l5Decl_ev s hs, impl_readDecl_ev s hs, ?_⟩
  generalize hl : B s = l at *
  unfold specDecl
  rw [hl, runL_runL']
  by_cases hA : (Go.Lib.cut l [58]).2.2 = true ∧ isWordL (tr (Go.Lib.cut l [58]).1) = true
  · have hm : (58 : UInt8) ∈ l := by
      refine Classical.byContradiction fun h => ?_
      rw [cut_miss l h] at hA
      exact absurd hA.1 (by simp)
    obtain ⟨p, q, h1, h2⟩ := first_of 58 l hm
    have hc : Go.Lib.cut l [58] = (p, q, true) := by rw [h1]; exact cut_at p q h2
    rw [hc] at hA ⊢
    obtain ⟨f1, f2, f3⟩ := decl_fwd l p q h1 h2 hA.2
    have w := word_all hA.2
    rw [f1, f2, f3, if_neg (by have := w.2.2.1; simp only at this; omega), if_pos (show (58 :: dropR q).head? = some (58 : UInt8) from rfl), List.tail_cons, tr_dropR]
    dsimp only
    have e1 : trimP (ofL p) = ofL (tr p) := by rw [trimP_ofL, B_ofL]
    have e2 : trimP (ofL q) = ofL (tr q) := by rw [trimP_ofL, B_ofL]
    rw [e1, e2]
    by_cases ho : okB (valB (ofL (tr q))) = true
    · rw [if_pos ⟨rfl, hA.2, ho⟩, ho]
      exact ⟨rfl, fun _ => rfl⟩
    · rw [if_neg (fun h => ho h.2.2)]
      exact ⟨Bool.eq_false_iff.2 ho, fun h => absurd h ho⟩
  · rw [if_neg (show ¬ ((Go.Lib.cut l [58]).2.2 = true ∧ isWordL (tr (Go.Lib.cut l [58]).1) = true ∧ okB (valB (trimP (ofL (Go.Lib.cut l [58]).2.1))) = true) from fun h => hA ⟨h.1, h.2.1⟩)]
    by_cases hn : runL' (tr l) = 0
    · rw [if_pos hn]; exact ⟨rfl, fun h => absurd h (by simp)⟩
    · rw [if_neg hn]
      by_cases hh : (tr ((tr l).drop (runL' (tr l)))).head? = some 58
      · exfalso
        cases hu : tr ((tr l).drop (runL' (tr l))) with
        | nil => rw [hu] at hh; simp at hh
        | cons c u =>
          rw [hu] at hh
          simp only [List.head?_cons, Option.some.injEq] at hh
          subst hh
          obtain ⟨p, q, g1, g2, g3⟩ := decl_bwd l u hn hu
          have hc : Go.Lib.cut l [58] = (p, q, true) := by rw [g1]; exact cut_at p q g2
          rw [hc] at hA
          exact hA ⟨rfl, g3⟩
      · rw [if_neg hh]; exact ⟨rfl, fun h => absurd h (by simp)⟩

/-! impl_withoutComments -/
-- plain: Evs Trim Cuts
theorem withoutComments_l0 : ∀ (n : Nat) (s out : ByteArray), s.size ≤ n → s.size + out.size ≤ 1048576 → Ev (fun k => impl_withoutComments.l0 k s out) (ofL (B out ++ bare (B s))) := by
  intro n
  induction n using Nat.strongRecOn with
  | ind n ih =>
    intro s out hn hs
    have hB := B_len s
    have hp := cut_parts (B s) [47, 42]
    refine Ev.step (fun k => by rw [impl_withoutComments.l0]) ?_
    refine ev_bind0 (strings_Cut_eq s _ (by omega)) ?_
    have e1 : B (⟨#[47, 42]⟩ : ByteArray) = [47, 42] := rfl
    have e2 : B (⟨#[42, 47]⟩ : ByteArray) = [42, 47] := rfl
    have hz : ∀ l : List UInt8, (ofL l).size = l.length := fun l => by rw [← B_len, B_ofL]
    rw [e1]
    refine ev_if_pos (by rw [hz]; omega) ?_
    rw [bare_eq]
    by_cases hc : (Go.Lib.cut (B s) [47, 42]).2.2 = true
    · have hp2 := hp.2 hc
      simp only [List.length_cons, List.length_nil] at hp2
      have hp3 := (cut_len (Go.Lib.cut (B s) [47, 42]).2.1 [42, 47]).1
      refine ev_if_pos hc (ev_if_pos (by rw [ByteArray.size_append, hz]; omega) ?_)
      refine ev_bind0 (strings_Cut_eq _ _ (by rw [hz]; omega)) ?_
      rw [e2, B_ofL, if_pos hc]
      have h := ih (Go.Lib.cut (Go.Lib.cut (B s) [47, 42]).2.1 [42, 47]).2.1.length (by omega) (ofL (Go.Lib.cut (Go.Lib.cut (B s) [47, 42]).2.1 [42, 47]).2.1) ((out ++ ofL (Go.Lib.cut (B s) [47, 42]).1) ++ (⟨#[32]⟩ : ByteArray)) (by rw [hz]; omega) (by rw [ByteArray.size_append, ByteArray.size_append, hz, hz]; show _ + (_ + 1) ≤ _; omega)
      rw [B_append, B_append, B_ofL, B_ofL] at h
      have e3 : B (⟨#[32]⟩ : ByteArray) = [32] := rfl
      rw [e3] at h
      simpa using h
    · refine ev_if_neg hc (ev_now fun k => ?_)
      rw [if_neg hc]
      have e4 : (Go.Lib.cut (B s) [47, 42]).1 = B s := by rw [cut_none _ _ hc]
      rw [e4]
      rw [show out ++ ofL (B s) = ofL (B out ++ B s) from B_ext (by rw [B_append, B_ofL, B_ofL])]
theorem impl_withoutComments_ev (s : ByteArray) (hs : s.size ≤ 1048576) : Ev (fun k => impl_withoutComments.f k s) (ofL (bare (B s))) := by
  have h := withoutComments_l0 s.size s (⟨#[]⟩ : ByteArray) (Nat.le_refl _) (by show s.size + 0 ≤ _; omega)
  exact Ev.congr (fun k => rfl) h
theorem bare_len : ∀ (n : Nat) (l : List UInt8), l.length ≤ n → (bare l).length ≤ l.length := by
  intro n
  induction n using Nat.strongRecOn with
  | ind n ih =>
    intro l hl
    rw [bare_eq]
    by_cases hc : (Go.Lib.cut l [47, 42]).2.2 = true
    · have hp := (cut_parts l [47, 42]).2 hc
      have hp3 := (cut_len (Go.Lib.cut l [47, 42]).2.1 [42, 47]).1
      simp only [List.length_cons, List.length_nil] at hp
      have h := ih (Go.Lib.cut (Go.Lib.cut l [47, 42]).2.1 [42, 47]).2.1.length (by omega) _ (Nat.le_refl _)
      rw [if_pos hc, List.length_append, List.length_cons]
      omega
    · rw [if_neg hc]; exact Nat.le_refl _

/-! strings_Split -/
-- plain: Trim Cuts
theorem strings_Split_one (s : ByteArray) (hs : s.size < 4294967281) (c : UInt8) : strings_Split.f s (⟨#[c]⟩ : ByteArray) = some ((splitL c (B s)).map ofL) := by
  unfold strings_Split.f
  rw [if_pos ⟨hs, by show 1 ≤ 1; omega⟩]
  congr 1
  have h1 := Go.Lib.splitB_data (⟨#[c]⟩ : ByteArray) 0 (Go.Lib.countB s (⟨#[c]⟩ : ByteArray)) s
  have h2 : Go.Lib.countB s (⟨#[c]⟩ : ByteArray) = (B s).count c := Go.Lib.count_one c (B s)
  have h3 : Go.Lib.splitK [c] 0 (Go.Lib.countB s (⟨#[c]⟩ : ByteArray)) (B s) = splitL c (B s) := splitK_splitL c _ (B s) (by rw [h2]; omega)
  have h4 := h1.trans h3
  have h5 := congrArg (List.map ofL) h4
  rw [List.map_map] at h5
  rw [← h5]
  conv => lhs; rw [← List.map_id (Go.Lib.splitB (⟨#[c]⟩ : ByteArray) 0 (Go.Lib.countB s (⟨#[c]⟩ : ByteArray)) s)]
  exact List.map_congr_left fun x _ => (ofL_B x).symm

/-! partdefs -/
-- plain: Word
def sizesPart (x : S71) : Prop := x.f0.size ≤ 1048576 ∧ x.f1.size ≤ 1048576 ∧ x.f2.length ≤ 1048576 ∧ ∀ y ∈ x.f2, y.size ≤ 1048576
def typeOkL (l : List UInt8) : Bool := decide (l = []) || decide (l = [42]) || isWordL l
def idOkL (l : List UInt8) : Bool := decide (l = []) || isWordL l
def partOk (x : S71) : Bool := typeOkL (B x.f0) && idOkL (B x.f1) && decide (x.f2.length ≤ 4) && x.f2.all (fun y => isWordL (B y)) && (!decide (B x.f0 = []) || !decide (B x.f1 = []) || decide (0 < x.f2.length))

/-! impl_isPart -/
-- plain: Word
theorem impl_isPart_j1_ev (t : Bool) (a b : ByteArray) (c : List ByteArray) (ha : a.size ≤ 1048576) (hb : b.size ≤ 1048576) : Ev (fun k => impl_isPart.j1 k t a b c) (!t && (typeOkL (B a) && idOkL (B b))) := by
  have rest : Ev (fun k => if b.toList = ([] : List UInt8) then (some true) else ((impl_isWord.f k b).bind fun t => (some t))) (idOkL (B b)) := by
    by_cases h : B b = []
    · have hi : idOkL (B b) = true := by unfold idOkL; rw [h]; rfl
      rw [hi]; exact ev_if_pos (by rw [toList_B]; exact h) (Ev.now _)
    · have hi : idOkL (B b) = isWordL (B b) := by unfold idOkL; rw [decide_eq_false h, Bool.false_or]
      rw [hi]; exact ev_if_neg (by rw [toList_B]; exact h) (ev_bind (impl_isWord_ev b (by omega)) (Ev.now _))
  refine Ev.step (fun k => impl_isPart.j1.eq_2 ..) ?_
  cases t with
  | true => exact ev_if_pos rfl (Ev.now _)
  | false =>
    refine ev_if_neg (by decide) ?_
    rw [Bool.not_false, Bool.true_and]
    by_cases h0 : B a = []
    · have ht : typeOkL (B a) = true := by unfold typeOkL; rw [h0]; rfl
      rw [ht, Bool.true_and]; exact ev_if_pos (by rw [toList_B]; exact h0) rest
    · refine ev_if_neg (by rw [toList_B]; exact h0) ?_
      by_cases hs : B a = [42]
      · have ht : typeOkL (B a) = true := by unfold typeOkL; rw [hs]; rfl
        rw [ht, Bool.true_and]; exact ev_if_pos (by rw [toList_B]; exact hs) rest
      · have ht : typeOkL (B a) = isWordL (B a) := by unfold typeOkL; rw [decide_eq_false h0, decide_eq_false hs]; simp
        refine ev_if_neg (by rw [toList_B]; exact hs) (ev_bind (impl_isWord_ev a (by omega)) ?_)
        rw [ht]
        cases isWordL (B a) with
        | true => rw [Bool.true_and]; exact ev_if_pos rfl rest
        | false => exact ev_if_neg (by decide) (Ev.now _)
theorem impl_isPart_ev (x : S71) (hx : sizesPart x) : Ev (fun k => impl_isPart.f k x.f0 x.f1 x.f2) (partOk x) := by
  obtain ⟨a, b, c⟩ := x
  obtain ⟨h0, h1, h2, h3⟩ := hx
  simp only at h0 h1 h2 h3
  have hle : (!(decide ((c.length : Int) > 4))) = decide (c.length ≤ 4) := by rw [Bool.eq_iff_iff]; simp; omega
  have e : partOk ⟨a, b, c⟩ = (c.all (fun y => isWordL (B y)) && ((!decide (B a = []) || !decide (B b = []) || decide (0 < c.length)) && decide (c.length ≤ 4) && (typeOkL (B a) && idOkL (B b)))) := by
    unfold partOk
    simp only
    generalize typeOkL (B a) = p; generalize idOkL (B b) = q; generalize decide (c.length ≤ 4) = r; generalize c.all (fun y => isWordL (B y)) = s; generalize decide (B a = []) = t; generalize decide (B b = []) = u; generalize decide (0 < c.length) = v
    cases p <;> cases q <;> cases r <;> cases s <;> cases t <;> cases u <;> cases v <;> rfl
  rw [e]
  refine ev_from c.length (fun i k => impl_isPart.l0 k c c.length i a b c) (fun i => (c.drop i).all (fun y => isWordL (B y)) && ((!decide (B a = []) || !decide (B b = []) || decide (0 < c.length)) && decide (c.length ≤ 4) && (typeOkL (B a) && idOkL (B b)))) ?_ ?_ 0 (by omega)
  · refine Ev.step (fun k => by rw [impl_isPart.l0, if_neg (by omega), toList_B, toList_B]) ?_
    simp only [List.drop_length, List.all_nil, Bool.true_and]
    have j := fun t => impl_isPart_j1_ev t a b c h0 h1
    by_cases ha : B a = []
    · refine ev_if_pos ha ?_
      by_cases hb : B b = []
      · refine ev_if_pos hb ?_
        by_cases hc : (c.length : Int) = 0
        · refine ev_if_pos hc ?_
          rw [decide_eq_true ha, decide_eq_true hb, decide_eq_false (p := 0 < c.length) (by omega)]
          exact j true
        · refine ev_if_neg hc ?_
          rw [decide_eq_true ha, decide_eq_true hb, decide_eq_true (p := 0 < c.length) (by omega), ← hle]
          exact j _
      · refine ev_if_neg hb ?_
        rw [decide_eq_true ha, decide_eq_false hb, ← hle]
        exact j _
    · refine ev_if_neg ha ?_
      rw [decide_eq_false ha, ← hle]
      exact j _
  · intro i hi h
    have hmem : c.getD i ByteArray.empty ∈ c := by rw [List.getD_eq_getElem?_getD, List.getElem?_eq_getElem hi]; exact List.getElem_mem hi
    have hz := h3 _ hmem
    rw [drop_cons c ByteArray.empty i hi, List.all_cons]
    refine Ev.step (fun k => by rw [impl_isPart.l0, if_pos (by omega), if_pos (by omega), if_pos (by omega), rdOf_nat]) ?_
    refine ev_bind (impl_isWord_ev _ (by omega)) ?_
    cases isWordL (B (c.getD i ByteArray.empty)) with
    | true => refine ev_if_pos rfl ?_; rw [wrap_up hi (by omega), Bool.true_and]; exact h
    | false => refine ev_if_neg (by decide) ?_; rw [Bool.false_and, Bool.false_and]; exact Ev.now _

/-! selok -/
-- plain: Word
def selOk (l : List S71) : Bool := decide (1 ≤ l.length ∧ l.length ≤ 5) && l.all partOk

/-! impl_isSelector -/
-- plain: Word
theorem impl_isSelector_wide (l : List S71) (hl : l.length ≤ 1099511627776) (hg : ∀ x ∈ l, sizesPart x) : Ev (fun k => impl_isSelector.f k l) (selOk l) := by
  have e : selOk l = (l.all partOk && decide (1 ≤ (l.length : Int) ∧ (l.length : Int) ≤ 5)) := by
    unfold selOk; rw [Bool.and_comm]; congr 1; rw [decide_eq_decide]; omega
  rw [e]
  refine ev_from l.length (fun i k => impl_isSelector.l0 k l l l.length i) (fun i => (l.drop i).all partOk && decide (1 ≤ (l.length : Int) ∧ (l.length : Int) ≤ 5)) ?_ ?_ 0 (by omega)
  · refine ev_done fun k => ?_
    rw [impl_isSelector.l0, if_neg (by omega), impl_within_eq, Option.bind_some]; simp
  · intro i hi hh
    have hrd : rd_T71 l (i : Int) = l.getD i z71 := by simp [rd_T71]
    have hmem : l.getD i z71 ∈ l := by rw [List.getD_eq_getElem?_getD, List.getElem?_eq_getElem hi]; exact List.getElem_mem hi
    rw [drop_cons l z71 i hi, List.all_cons]
    refine Ev.step (fun k => by rw [impl_isSelector.l0, if_pos (by omega), if_pos (by omega), if_pos (by omega), hrd]) ?_
    refine ev_bind (impl_isPart_ev _ (hg _ hmem)) ?_
    cases partOk (l.getD i z71) with
    | true => refine ev_if_pos rfl ?_; rw [wrap_up hi (by omega), Bool.true_and]; exact hh
    | false => refine ev_if_neg (by decide) ?_; rw [Bool.false_and, Bool.false_and]; exact Ev.now _
theorem impl_isSelector_ev (l : List S71) (hl : l.length ≤ 1048576) (hg : ∀ x ∈ l, sizesPart x) : Ev (fun k => impl_isSelector.f k l) (selOk l) := impl_isSelector_wide l (by omega) hg

/-! impl_fields -/
-- plain: Evs Field
theorem impl_fields_eq (s : ByteArray) (hs : s.size ≤ 1048576) : impl_fields.f s = some ((wordsL blankU [] (B s)).map ofL) := by
  unfold impl_fields.f
  rw [if_pos (by omega), fields_words blankR blankU ?_ ?_ blankU_far]
  · intro x hx
    unfold blankR
    rw [beq_eq_false_iff_ne.mpr (by omega : x ≠ 9), beq_eq_false_iff_ne.mpr (by omega : x ≠ 10), beq_eq_false_iff_ne.mpr (by omega : x ≠ 13), beq_eq_false_iff_ne.mpr (by omega : x ≠ 32)]
    rfl
  · intro c _
    rw [blankU_rune]; rfl

/-! stringslite_HasPrefix -/
-- plain: Str
theorem stringslite_HasPrefix_eq (s p : ByteArray) : stringslite_HasPrefix.f s p = some (decide (B p <+: B s)) := by
  unfold stringslite_HasPrefix.f
  by_cases h : (s.size : Int) ≥ (p.size : Int)
  · rw [if_pos h, if_pos (by omega), if_pos h]
    congr 1
    rw [toList_B, toList_B, B_extract, Int.toNat_natCast, Nat.sub_zero, List.drop_zero, Bool.eq_iff_iff, beq_iff_eq, decide_eq_true_iff, List.prefix_iff_eq_take, B_len]
    exact eq_comm
  · rw [if_neg h]
    congr 1
    rw [eq_comm, decide_eq_false_iff_not]
    intro hp
    have := hp.length_le
    rw [B_len, B_len] at this
    omega

/-! strings_HasPrefix -/
-- plain: Str
theorem strings_HasPrefix_eq (s p : ByteArray) : strings_HasPrefix.f s p = some (decide (B p <+: B s)) := by
  unfold strings_HasPrefix.f
  rw [stringslite_HasPrefix_eq]; rfl

/-! impl_readDecls -/
-- plain: Evs Trim Cuts Decl
theorem decls_loop (ps : List ByteArray) (hp : ps.length ≤ 1048577) (hs : ∀ x ∈ ps, x.size ≤ 1048576) : ∀ (n i : Nat) (acc : List S123), i + n = ps.length → acc.length ≤ 12 → ∃ r : List S123, Ev (fun k => spec_l5Decls.l0 k acc ps (ps.length : Int) (i : Int)) r ∧ Ev (fun k => impl_readDecls.l0 k acc ps (ps.length : Int) (i : Int)) r ∧ r.length ≤ 12 := by
  intro n
  induction n with
  | zero =>
    intro i acc h1 h2
    refine ⟨acc, ?_, ?_, h2⟩
    · refine Ev.step (fun k => by rw [spec_l5Decls.l0]) ?_
      exact ev_if_neg (by omega) (ev_now fun k => rfl)
    · refine Ev.step (fun k => by rw [impl_readDecls.l0]) ?_
      exact ev_if_neg (by omega) (ev_now fun k => rfl)
  | succ n ih =>
    intro i acc h1 h2
    have hi : i < ps.length := by omega
    have hmem : ps.getD i ByteArray.empty ∈ ps := by rw [List.getD_eq_getElem?_getD, List.getElem?_eq_getElem hi]; exact List.getElem_mem hi
    have w1 : wrap64 ((i : Int) + 1) = ((i + 1 : Nat) : Int) := wrap_up hi (by omega)
    obtain ⟨⟨n1, v1, i1, o1⟩, ⟨n2, v2, i2, o2⟩, d1, d2, d3, d4⟩ := decl_both _ (hs _ hmem)
    dsimp only at d3 d4
    by_cases hok : o1 = true
    · have he := d4 hok
      simp only [Prod.mk.injEq] at he
      obtain ⟨rfl, rfl, rfl, rfl⟩ := he
      by_cases hl : acc.length < 12
      · obtain ⟨r, g1, g2, g3⟩ := ih (i + 1) (acc ++ [(⟨n1, v1, i1⟩ : S123)]) (by omega) (by simp; omega)
        refine ⟨r, ?_, ?_, g3⟩
        · refine Ev.step (fun k => by rw [spec_l5Decls.l0]) ?_
          rw [rdOf_nat, w1]
          refine ev_if_pos (by omega) (ev_if_pos (by omega) (ev_if_pos (by omega) (ev_bind d1 ?_)))
          exact ev_if_pos hok (ev_if_pos (by omega) (ev_if_pos (by omega) g1))
        · refine Ev.step (fun k => by rw [impl_readDecls.l0]) ?_
          rw [rdOf_nat, w1]
          refine ev_if_pos (by omega) (ev_if_pos (by omega) (ev_if_pos (by omega) (ev_bind d2 ?_)))
          exact ev_if_pos hok (ev_if_pos (by omega) (ev_if_pos (by omega) g2))
      · obtain ⟨r, g1, g2, g3⟩ := ih (i + 1) acc (by omega) h2
        refine ⟨r, ?_, ?_, g3⟩
        · refine Ev.step (fun k => by rw [spec_l5Decls.l0]) ?_
          rw [rdOf_nat, w1]
          refine ev_if_pos (by omega) (ev_if_pos (by omega) (ev_if_pos (by omega) (ev_bind d1 ?_)))
          exact ev_if_pos hok (ev_if_neg (by omega) g1)
        · refine Ev.step (fun k => by rw [impl_readDecls.l0]) ?_
          rw [rdOf_nat, w1]
          refine ev_if_pos (by omega) (ev_if_pos (by omega) (ev_if_pos (by omega) (ev_bind d2 ?_)))
          exact ev_if_pos hok (ev_if_neg (by omega) g2)
    · obtain ⟨r, g1, g2, g3⟩ := ih (i + 1) acc (by omega) h2
      refine ⟨r, ?_, ?_, g3⟩
      · refine Ev.step (fun k => by rw [spec_l5Decls.l0]) ?_
        rw [rdOf_nat, w1]
        refine ev_if_pos (by omega) (ev_if_pos (by omega) (ev_if_pos (by omega) (ev_bind d1 ?_)))
        exact ev_if_neg hok g1
      · refine Ev.step (fun k => by rw [impl_readDecls.l0]) ?_
        rw [rdOf_nat, w1]
        refine ev_if_pos (by omega) (ev_if_pos (by omega) (ev_if_pos (by omega) (ev_bind d2 ?_)))
        exact ev_if_neg (by rw [← d3]; exact hok) g2
theorem decls_both (s : ByteArray) (hs : s.size ≤ 1048576) : ∃ r : List S123, Ev (fun k => spec_l5Decls.f k s) r ∧ Ev (fun k => impl_readDecls.f k s) r ∧ r.length ≤ 12 := by
  have hl := splitL_len 59 (B s)
  rw [B_len] at hl
  have h1 : ((splitL 59 (B s)).map ofL).length ≤ 1048577 := by rw [List.length_map]; omega
  obtain ⟨r, g1, g2, g3⟩ := decls_loop ((splitL 59 (B s)).map ofL) h1 (fun x hx => by
    obtain ⟨y, hy, rfl⟩ := List.mem_map.1 hx
    have := hl.2 y hy
    rw [← B_len, B_ofL]; omega) _ 0 [] (Nat.zero_add _) (by simp)
  refine ⟨r, ?_, ?_, g3⟩
  · simp only [spec_l5Decls.f]
    exact ev_bind (spec_l1Split_ev s hs 59) g1
  · simp only [impl_readDecls.f]
    exact ev_bind0 (strings_Split_one s (by omega) 59) g2

/-! laws_eqStringS -/
-- plain: Evs
theorem laws_eqStringS_same (l : List ByteArray) (hn : l.length ≤ 9223372036854775807) : Ev (fun k => laws_eqStringS.f k l l) true := by
  refine Ev.congr (f := fun k => laws_eqStringS.l0 k l l 0) (fun k => ?_) ?_
  · unfold laws_eqStringS.f; rw [if_pos rfl]
  · refine ev_up l.length (fun i k => laws_eqStringS.l0 k l l i) true ?_ ?_
    · refine ev_done fun k => ?_
      rw [laws_eqStringS.l0, if_neg (by omega)]
    · intro i hi h
      refine Ev.step (fun k => ?_) h
      rw [laws_eqStringS.l0, if_pos (by omega), if_pos (by omega), if_pos (by omega), if_pos rfl, wrap_up hi (by omega)]

/-! laws_eqPart -/
-- plain: Evs
theorem laws_eqPart_same (a b : ByteArray) (l : List ByteArray) (hn : l.length ≤ 9223372036854775807) : Ev (fun k => laws_eqPart.f k a b l a b l) true := by
  simp only [laws_eqPart.f]
  exact ev_if_pos trivial (ev_if_pos trivial (ev_bind (laws_eqStringS_same l hn) (ev_if_pos rfl (Ev.now _))))

/-! laws_eqPartS -/
-- plain: Evs
theorem laws_eqPartS_same (l : List S71) (hn : l.length ≤ 9223372036854775807) (hg : ∀ x ∈ l, x.f2.length ≤ 9223372036854775807) : Ev (fun k => laws_eqPartS.f k l l) true := by
  refine Ev.congr (f := fun k => laws_eqPartS.l0 k l l 0) (fun k => ?_) ?_
  · unfold laws_eqPartS.f; rw [if_pos rfl]
  · refine ev_up l.length (fun i k => laws_eqPartS.l0 k l l i) true ?_ ?_
    · refine ev_done fun k => ?_
      rw [laws_eqPartS.l0, if_neg (by omega)]
    · intro i hi h
      have hrd : rd_T71 l (i : Int) = l.getD i z71 := by simp [rd_T71]
      have hmem : l.getD i z71 ∈ l := by rw [List.getD_eq_getElem?_getD, List.getElem?_eq_getElem hi]; exact List.getElem_mem hi
      refine Ev.step (fun k => by rw [laws_eqPartS.l0, if_pos (by omega), if_pos (by omega), if_pos (by omega), hrd]) ?_
      refine ev_bind (laws_eqPart_same _ _ _ (hg _ hmem)) (ev_if_pos rfl ?_)
      rw [wrap_up hi (by omega)]; exact h

/-! laws_eqDecl -/
theorem laws_eqDecl_same (a b : ByteArray) (c : Bool) : laws_eqDecl.f a b c a b c = some true := by
  unfold laws_eqDecl.f
  rw [if_pos rfl, if_pos rfl, if_neg (by simp)]

/-! laws_eqDeclS -/
-- plain: Evs
theorem laws_eqDeclS_same (l : List S123) (hn : l.length ≤ 9223372036854775807) : Ev (fun k => laws_eqDeclS.f k l l) true := by
  refine Ev.congr (f := fun k => laws_eqDeclS.l0 k l l 0) (fun k => ?_) ?_
  · unfold laws_eqDeclS.f; rw [if_pos rfl]
  · refine ev_up l.length (fun i k => laws_eqDeclS.l0 k l l i) true ?_ ?_
    · refine ev_done fun k => ?_
      rw [laws_eqDeclS.l0, if_neg (by omega)]
    · intro i hi h
      refine Ev.step (fun k => by rw [laws_eqDeclS.l0, if_pos (by omega), if_pos (by omega), if_pos (by omega)]) ?_
      refine ev_bind0 (laws_eqDecl_same _ _ _) (ev_if_pos rfl ?_)
      rw [wrap_up hi (by omega)]; exact h

/-! laws_markText -/
-- plain: Evs
theorem markText_l0_ends : ∀ (n : Nat) (x : Int) (s : ByteArray), 0 ≤ x → x.toNat ≤ n → (s.size : Int) + x ≤ 4611686018427387904 → ∃ t, Ev (fun k => laws_markText.l0 k x s) t := by
  intro n
  induction n with
  | zero =>
    intro x s h0 h1 h2
    exact ⟨_, ev_done fun k => by rw [laws_markText.l0, if_neg (by omega), if_pos (by omega)]⟩
  | succ n ih =>
    intro x s h0 h1 h2
    by_cases hx : x > 0
    · have hd : wrap64 (Int.tdiv x 10) = x / 10 := by rw [Int.tdiv_eq_ediv_of_nonneg h0, wrap_id (by omega) (by omega)]
      have hz : ∀ y : Int, (strOfNums ([y] : List Int)).size = 1 := fun y => rfl
      obtain ⟨t, ht⟩ := ih (x / 10) ((strOfNums ([(wrap64 (48 + (Int.tmod x 10))) % 256] : List Int)) ++ s) (by omega) (by omega) (by rw [ByteArray.size_append, hz]; omega)
      refine ⟨t, Ev.step (fun k => ?_) ht⟩
      rw [laws_markText.l0, if_pos hx, Option.bind_some, if_pos (by rw [hz]; omega), hd]
    · exact ⟨_, ev_done fun k => by rw [laws_markText.l0, if_neg hx, if_pos (by omega)]⟩
theorem markText_ends (x : Int) : ∃ t, 0 ≤ x → x ≤ 4611686018427387904 → Ev (fun k => laws_markText.f k x) t := by
  by_cases h : 0 ≤ x ∧ x ≤ 4611686018427387904
  · by_cases h0 : x ≤ 0
    · exact ⟨_, fun _ _ => ev_now fun k => by unfold laws_markText.f; rw [if_pos h0]⟩
    · obtain ⟨t, ht⟩ := markText_l0_ends x.toNat x (⟨#[]⟩ : ByteArray) h.1 (by omega) (by show (0 : Int) + x ≤ _; omega)
      exact ⟨t, fun _ _ => Ev.congr (fun k => by unfold laws_markText.f; rw [if_neg h0]) ht⟩
  · exact ⟨(⟨#[]⟩ : ByteArray), fun h1 h2 => absurd ⟨h1, h2⟩ h⟩
/-- the text of a mark. -/
noncomputable def mtext (x : Int) : ByteArray := Classical.choose (markText_ends x)
theorem mtext_ev (x : Int) (h0 : 0 ≤ x) (h1 : x ≤ 4611686018427387904) : Ev (fun k => laws_markText.f k x) (mtext x) := Classical.choose_spec (markText_ends x) h0 h1

/-! laws_markStringS -/
-- plain: Evs
noncomputable def markedString (n : Nat) (x : Int) : List ByteArray := (List.range n).map fun (j : Nat) => mtext (x + (j : Int))
theorem markedString_length (n : Nat) (x : Int) : (markedString n x).length = n := by simp [markedString]
theorem markedString_get (n : Nat) (x : Int) (i : Nat) (h : i < n) : (markedString n x).getD i ByteArray.empty = mtext (x + (i : Int)) := by
  simp [markedString, h]
theorem markedString_take (n : Nat) (x : Int) (l : List ByteArray) (hl : l.length = n) (i : Nat) (h : i < n) : ((markedString n x).take i ++ l.drop i).set i (mtext (x + (i : Int))) = (markedString n x).take (i + 1) ++ l.drop (i + 1) := by
  rw [← markedString_get n x i h, take_set _ _ _ (by rw [markedString_length]; exact h) _ (by simp; omega), List.tail_drop]
theorem laws_markStringS_ev (l : List ByteArray) (x : Int) (h0 : 0 ≤ x) (h1 : x + l.length ≤ 4611686018427387904) : Ev (fun k => laws_markStringS.f k l x) (x + l.length, markedString l.length x) := by
  refine Ev.congr (f := fun k => laws_markStringS.l0 k l x 0) (fun k => rfl) ?_
  have key := ev_up l.length (fun i k => laws_markStringS.l0 k ((markedString l.length x).take i ++ l.drop i) (x + i) i) (x + l.length, markedString l.length x) ?_ ?_
  · simpa using key
  · refine ev_done fun k => ?_
    rw [laws_markStringS.l0, if_neg (by simp [markedString_length])]
    rw [List.take_of_length_le (by simp [markedString_length])]; simp
  · intro i hi h
    refine Ev.step (fun k => by rw [laws_markStringS.l0]) ?_
    refine ev_if_pos (by simp [markedString_length]; omega) ?_
    refine ev_bind (mtext_ev (x + i) (by omega) (by omega)) (ev_if_pos (by omega) ?_)
    rw [wrap_up hi (by omega), Int.toNat_natCast, markedString_take _ _ _ rfl i hi, wrap_id (by omega) (by omega)]
    have e : x + (i : Int) + 1 = x + ((i + 1 : Nat) : Int) := by omega
    rw [e]; exact h

/-! laws_markPartS -/
-- plain: Evs
noncomputable def mkParts : List S71 → Int → List S71
  | [], _ => []
  | p :: t, x => ⟨mtext x, mtext (x + 1), markedString p.f2.length (x + 2)⟩ :: mkParts t (x + 2 + p.f2.length)
def mkPartsEnd : List S71 → Int → Int
  | [], x => x
  | p :: t, x => mkPartsEnd t (x + 2 + p.f2.length)
theorem mkPartsEnd_ge : ∀ (l : List S71) (x : Int), x + 2 * l.length ≤ mkPartsEnd l x
  | [], x => by show x + 2 * ((0 : Nat) : Int) ≤ x; omega
  | p :: t, x => by
    have := mkPartsEnd_ge t (x + 2 + p.f2.length)
    rw [mkPartsEnd, List.length_cons]; omega
theorem mkParts_length : ∀ (l : List S71) (x : Int), (mkParts l x).length = l.length
  | [], _ => rfl
  | p :: t, x => by rw [mkParts, List.length_cons, mkParts_length t, List.length_cons]
theorem rd_mid_part (d : List S71) (p : S71) (t : List S71) : rd_T71 (d ++ p :: t) (d.length : Int) = p := by simp [rd_T71]
theorem markParts_l0 : ∀ (rest done : List S71) (x : Int), 0 ≤ x → mkPartsEnd rest x ≤ 4611686018427387904 → (done ++ rest).length ≤ 9223372036854775807 → Ev (fun k => laws_markPartS.l0 k (done ++ rest) x (done.length : Int)) (mkPartsEnd rest x, done ++ mkParts rest x)
  | [], done, x, h0, h1, hn => by
    rw [List.append_nil] at hn ⊢
    refine ev_done fun k => ?_
    rw [laws_markPartS.l0, if_neg (by omega), mkParts, mkPartsEnd, List.append_nil]
  | p :: t, done, x, h0, h1, hn => by
    have hl : (done ++ p :: t).length = done.length + (t.length + 1) := by rw [List.length_append, List.length_cons]
    have hge := mkPartsEnd_ge t (x + 2 + p.f2.length)
    rw [mkPartsEnd] at h1 ⊢
    refine Ev.step (fun k => laws_markPartS.l0.eq_2 ..) (ev_if_pos (by omega) (ev_if_pos (by omega) ?_))
    rw [rd_mid_part]
    have w1 : wrap64 (x + 1) = x + 1 := wrap_id (by omega) (by omega)
    have w2 : wrap64 (x + 1 + 1) = x + 2 := by rw [wrap_id (by omega) (by omega)]; omega
    rw [w1, w2]
    refine ev_bind (mtext_ev x (by omega) (by omega)) (ev_bind (mtext_ev (x + 1) (by omega) (by omega)) (ev_bind (laws_markStringS_ev p.f2 (x + 2) (by omega) (by omega)) ?_))
    have h := markParts_l0 t (done ++ [⟨mtext x, mtext (x + 1), markedString p.f2.length (x + 2)⟩]) (x + 2 + p.f2.length) (by omega) h1 (by rw [List.length_append, List.length_append, List.length_cons, List.length_nil]; omega)
    rw [List.length_append, List.length_cons, List.length_nil, List.append_assoc, List.append_assoc] at h
    rw [Int.toNat_natCast, List.set_append_right _ _ (Nat.le_refl _), Nat.sub_self, List.set_cons_zero, wrap_id (x := (done.length : Int) + 1) (by omega) (by omega), cast_succ]
    exact h
theorem laws_markPartS_ev (l : List S71) (x : Int) (h0 : 0 ≤ x) (h1 : mkPartsEnd l x ≤ 4611686018427387904) (hn : l.length ≤ 9223372036854775807) : Ev (fun k => laws_markPartS.f k l x) (mkPartsEnd l x, mkParts l x) := markParts_l0 l [] x h0 h1 hn

/-! laws_markDeclS -/
-- plain: Evs
noncomputable def declMark (x : Int) : S123 := ⟨mtext x, mtext (x + 1), (Int.tmod (x + 2) 3) == 0⟩
noncomputable def markedDecl (n : Nat) (x : Int) : List S123 := (List.range n).map fun (j : Nat) => declMark (x + 3 * (j : Int))
theorem markedDecl_length (n : Nat) (x : Int) : (markedDecl n x).length = n := by simp [markedDecl]
theorem markedDecl_get (n : Nat) (x : Int) (i : Nat) (h : i < n) : (markedDecl n x).getD i z123 = declMark (x + 3 * (i : Int)) := by
  simp [markedDecl, h]
theorem markedDecl_take (n : Nat) (x : Int) (l : List S123) (hl : l.length = n) (i : Nat) (h : i < n) : ((markedDecl n x).take i ++ l.drop i).set i (declMark (x + 3 * (i : Int))) = (markedDecl n x).take (i + 1) ++ l.drop (i + 1) := by
  rw [← markedDecl_get n x i h, take_set _ _ _ (by rw [markedDecl_length]; exact h) _ (by simp; omega), List.tail_drop]
theorem rdDecl_set (X : List S123) (i : Nat) (h : i < X.length) (v : S123) : rd_T123 (X.set i v) (i : Int) = v := by
  simp [rd_T123, h]
theorem setDecl (X : List S123) (i : Nat) (h : i < X.length) (a b : ByteArray) (c : Bool) (p : ByteArray) (u v : Bool) : ((X.set i ⟨a, p, u⟩).set i ⟨a, b, v⟩).set i ⟨a, b, c⟩ = X.set i (⟨a, b, c⟩ : S123) := by
  rw [List.set_set, List.set_set]
theorem laws_markDeclS_ev (l : List S123) (x : Int) (h0 : 0 ≤ x) (h1 : x + 3 * l.length ≤ 4611686018427387904) : Ev (fun k => laws_markDeclS.f k l x) (x + 3 * l.length, markedDecl l.length x) := by
  refine Ev.congr (f := fun k => laws_markDeclS.l0 k l x 0) (fun k => rfl) ?_
  have key := ev_up l.length (fun i k => laws_markDeclS.l0 k ((markedDecl l.length x).take i ++ l.drop i) (x + 3 * i) i) (x + 3 * l.length, markedDecl l.length x) ?_ ?_
  · simpa using key
  · refine ev_done fun k => ?_
    rw [laws_markDeclS.l0, if_neg (by simp [markedDecl_length])]
    rw [List.take_of_length_le (by simp [markedDecl_length])]; simp
  · intro i hi h
    have hlen : i < ((markedDecl l.length x).take i ++ l.drop i).length := by simp [markedDecl_length]; omega
    have hlen2 : (((markedDecl l.length x).take i ++ l.drop i).length : Int) = l.length := by simp [markedDecl_length]; omega
    have htk := markedDecl_take l.length x l rfl i hi
    generalize (markedDecl l.length x).take i ++ l.drop i = X at hlen hlen2 htk ⊢
    refine Ev.step (fun k => by rw [laws_markDeclS.l0]) ?_
    refine ev_if_pos (by omega) ?_
    refine ev_bind (mtext_ev (x + 3 * i) (by omega) (by omega)) (ev_if_pos (by omega) ?_)
    refine ev_bind0 rfl ?_
    rw [Int.toNat_natCast, wrap_id (x := x + 3 * (i : Int) + 1) (by omega) (by omega)]
    refine ev_bind (mtext_ev (x + 3 * i + 1) (by omega) (by omega)) ?_
    refine ev_bind0 rfl ?_
    rw [rdDecl_set X i hlen]
    rw [rdDecl_set _ i (by rw [List.length_set]; exact hlen)]
    rw [setDecl X i hlen, wrap_up hi (by omega), wrap_id (x := x + 3 * (i : Int) + 1 + 1) (by omega) (by omega), wrap_id (x := x + 3 * (i : Int) + 1 + 1 + 1) (by omega) (by omega)]
    have e : x + 3 * (i : Int) + 1 + 1 + 1 = x + 3 * ((i + 1 : Nat) : Int) := by omega
    have e2 : x + 3 * (i : Int) + 1 + 1 = x + 3 * (i : Int) + 2 := by omega
    rw [e, e2, show X.set i (⟨mtext (x + 3 * (i : Int)), mtext (x + 3 * (i : Int) + 1), (x + 3 * (i : Int) + 2).tmod 3 == 0⟩ : S123) = X.set i (declMark (x + 3 * (i : Int))) from rfl, htk]; exact h

/-! laws_heldStringS -/
-- plain: Evs
theorem laws_heldStringS_ev (n : Nat) (x : Int) (h0 : 0 ≤ x) (h1 : x + n ≤ 4611686018427387904) : Ev (fun k => laws_heldStringS.f k (markedString n x) x) (x + n) := by
  refine Ev.congr (f := fun k => laws_heldStringS.l0 k (markedString n x) x 0) (fun k => rfl) ?_
  have key := ev_up n (fun i k => laws_heldStringS.l0 k (markedString n x) (x + i) i) (x + n) ?_ ?_
  · simpa using key
  · refine ev_done fun k => ?_
    rw [laws_heldStringS.l0, if_neg (by simp [markedString_length])]
  · intro i hi h
    refine Ev.step (fun k => by rw [laws_heldStringS.l0]) ?_
    refine ev_if_pos (by simp [markedString_length]; omega) (ev_if_pos (by omega) ?_)
    refine ev_bind (mtext_ev (x + i) (by omega) (by omega)) ?_
    refine ev_if_pos (by rw [rdOf_nat, markedString_get n x i hi]) ?_
    rw [wrap_up hi (by omega), wrap_id (by omega) (by omega)]
    have e : x + (i : Int) + 1 = x + ((i + 1 : Nat) : Int) := by omega
    rw [e]; exact h

/-! laws_heldPartS -/
-- plain: Evs
theorem heldParts_l0 : ∀ (rest done : List S71) (x : Int), 0 ≤ x → mkPartsEnd rest x ≤ 4611686018427387904 → (done ++ rest).length ≤ 9223372036854775807 → Ev (fun k => laws_heldPartS.l0 k (done ++ mkParts rest x) x (done.length : Int)) (mkPartsEnd rest x)
  | [], done, x, h0, h1, hn => by
    rw [mkParts, List.append_nil]
    refine ev_done fun k => ?_
    rw [laws_heldPartS.l0, if_neg (by omega), mkPartsEnd]
  | p :: t, done, x, h0, h1, hn => by
    have hl : (done ++ p :: t).length = done.length + (t.length + 1) := by rw [List.length_append, List.length_cons]
    have hge := mkPartsEnd_ge t (x + 2 + p.f2.length)
    rw [mkPartsEnd] at h1 ⊢
    rw [mkParts]
    have hl2 : (done ++ ⟨mtext x, mtext (x + 1), markedString p.f2.length (x + 2)⟩ :: mkParts t (x + 2 + p.f2.length)).length = done.length + (t.length + 1) := by rw [List.length_append, List.length_cons, mkParts_length]
    refine Ev.step (fun k => laws_heldPartS.l0.eq_2 ..) (ev_if_pos (by omega) (ev_if_pos (by omega) ?_))
    rw [rd_mid_part]
    have w1 : wrap64 (x + 1) = x + 1 := wrap_id (by omega) (by omega)
    have w2 : wrap64 (x + 1 + 1) = x + 2 := by rw [wrap_id (by omega) (by omega)]; omega
    rw [w1, w2]
    refine ev_bind (mtext_ev x (by omega) (by omega)) (ev_if_pos rfl (ev_bind (mtext_ev (x + 1) (by omega) (by omega)) (ev_if_pos rfl (ev_bind (laws_heldStringS_ev p.f2.length (x + 2) (by omega) (by omega)) (ev_if_neg (by omega) ?_)))))
    have h := heldParts_l0 t (done ++ [⟨mtext x, mtext (x + 1), markedString p.f2.length (x + 2)⟩]) (x + 2 + p.f2.length) (by omega) h1 (by rw [List.length_append, List.length_append, List.length_cons, List.length_nil]; omega)
    rw [List.length_append, List.length_cons, List.length_nil, List.append_assoc] at h
    rw [wrap_id (x := (done.length : Int) + 1) (by omega) (by omega), cast_succ]
    exact h
theorem laws_heldPartS_ev (l : List S71) (x : Int) (h0 : 0 ≤ x) (h1 : mkPartsEnd l x ≤ 4611686018427387904) (hn : l.length ≤ 9223372036854775807) : Ev (fun k => laws_heldPartS.f k (mkParts l x) x) (mkPartsEnd l x) := heldParts_l0 l [] x h0 h1 hn

/-! laws_heldDeclS -/
-- plain: Evs
theorem laws_heldDeclS_ev (n : Nat) (x : Int) (h0 : 0 ≤ x) (h1 : x + 3 * n ≤ 4611686018427387904) : Ev (fun k => laws_heldDeclS.f k (markedDecl n x) x) (x + 3 * n) := by
  refine Ev.congr (f := fun k => laws_heldDeclS.l0 k (markedDecl n x) x 0) (fun k => rfl) ?_
  have key := ev_up n (fun i k => laws_heldDeclS.l0 k (markedDecl n x) (x + 3 * i) i) (x + 3 * n) ?_ ?_
  · simpa using key
  · refine ev_done fun k => ?_
    rw [laws_heldDeclS.l0, if_neg (by simp [markedDecl_length])]
  · intro i hi h
    have hrd : rd_T123 (markedDecl n x) (i : Int) = declMark (x + 3 * (i : Int)) := by unfold rd_T123; rw [Int.toNat_natCast, markedDecl_get n x i hi]
    have e2 : x + 3 * (i : Int) + 1 + 1 = x + 3 * (i : Int) + 2 := by omega
    have e : x + 3 * (i : Int) + 2 + 1 = x + 3 * ((i + 1 : Nat) : Int) := by omega
    refine Ev.step (fun k => by rw [laws_heldDeclS.l0]) ?_
    refine ev_if_pos (by simp [markedDecl_length]; omega) (ev_if_pos (by omega) ?_)
    refine ev_bind (mtext_ev (x + 3 * i) (by omega) (by omega)) ?_
    rw [hrd, wrap_id (x := x + 3 * (i : Int) + 1) (by omega) (by omega), wrap_id (x := x + 3 * (i : Int) + 1 + 1) (by omega) (by omega), e2]
    refine ev_if_pos rfl ?_
    refine ev_bind (mtext_ev (x + 3 * i + 1) (by omega) (by omega)) ?_
    refine ev_if_pos rfl (ev_if_neg (by simp [declMark]) ?_)
    rw [wrap_up hi (by omega), wrap_id (x := x + 3 * (i : Int) + 2 + 1) (by omega) (by omega), e]
    exact h

/-! partparse -/
-- plain: Evs Word Trim
theorem getD_drop0 (L : List UInt8) (i : Nat) : (L.drop i).getD 0 0 = L.getD i 0 := by
  rw [List.getD_eq_getElem?_getD, List.getD_eq_getElem?_getD, List.getElem?_drop, Nat.add_zero]
theorem runEnd_drop (p : UInt8 → Bool) (L : List UInt8) (i : Nat) : runEnd p L i = i + runEnd p (L.drop i) 0 := by
  unfold runEnd
  rw [List.drop_zero]; omega
theorem runL_le (L : List UInt8) : runL L ≤ L.length ∧ runL L ≤ 30 := by
  unfold runL
  have := runEnd_le wordU L 0 (by omega)
  split
  · omega
  · split
    · omega
    · split
      · omega
      · omega
/-- a word at a place: the run's length tells whether it is one, and where it ends. -/
theorem word_run (L : List UInt8) (i : Nat) : isWordL ((L.drop i).take (wordEndL L i - i)) = decide (0 < runL (L.drop i)) ∧ (0 < runL (L.drop i) → wordEndL L i = i + runL (L.drop i)) := by
  have hM := getD_drop0 L i
  have he := runEnd_drop wordU L i
  have hlen : (L.drop i).length = L.length - i := List.length_drop
  unfold wordEndL
  generalize hM2 : L.drop i = M at hM he hlen ⊢
  have ht : runEnd wordU M 0 = (M.takeWhile wordU).length := by unfold runEnd; rw [List.drop_zero]; omega
  by_cases hd : i < L.length ∧ digU (L.getD i 0) = true
  · rw [if_pos hd, Nat.sub_self, List.take_zero]
    have hr : runL M = 0 := by
      unfold runL
      split
      · rfl
      · rw [if_pos (by rw [hM]; exact hd.2)]
    rw [hr]
    exact ⟨rfl, fun h => by omega⟩
  · rw [if_neg hd, he]
    have hsub : i + runEnd wordU M 0 - i = runEnd wordU M 0 := by omega
    rw [hsub, ht]
    have htk : M.take (M.takeWhile wordU).length = M.takeWhile wordU := by
      have h := List.takeWhile_prefix wordU (l := M)
      exact (List.prefix_iff_eq_take.1 h).symm
    rw [htk]
    have hall : (M.takeWhile wordU).all wordU = true := List.all_takeWhile
    by_cases h0 : (M.takeWhile wordU).length = 0
    · have hr : runL M = 0 := by unfold runL; rw [if_pos (by rw [ht]; exact h0)]
      rw [hr]
      refine ⟨?_, fun h => by omega⟩
      rw [List.length_eq_zero_iff.mp h0]; rfl
    · have hg : (M.takeWhile wordU).getD 0 0 = M.getD 0 0 := by
        cases M with
        | nil => rfl
        | cons a M =>
          rw [List.takeWhile_cons] at h0 ⊢
          split at h0
          · rename_i ha; rw [if_pos ha]; rfl
          · simp at h0
      have hnd : digU (M.getD 0 0) = false := by
        cases hq : digU (M.getD 0 0) with
        | false => rfl
        | true =>
          exfalso
          refine hd ⟨?_, by rw [← hM]; exact hq⟩
          have := (List.takeWhile_sublist wordU (l := M)).length_le
          omega
      have hr : runL M = if (M.takeWhile wordU).length > 30 then 0 else (M.takeWhile wordU).length := by
        unfold runL
        rw [if_neg (by rw [ht]; exact h0), if_neg (by rw [hnd]; decide), ht]
      unfold isWordL
      rw [hg, hnd, hall, hr]
      by_cases h30 : (M.takeWhile wordU).length > 30
      · rw [if_pos h30]
        exact ⟨by rw [decide_eq_false (by omega)]; rfl, fun h => by omega⟩
      · rw [if_neg h30]
        exact ⟨by rw [decide_eq_true (by omega), decide_eq_true (by omega)]; rfl, fun _ => rfl⟩
theorem word_take (L : List UInt8) (i : Nat) (h : 0 < runL (L.drop i)) : isWordL ((L.drop i).take (runL (L.drop i))) = true := by
  have h1 := (word_run L i).1
  rw [(word_run L i).2 h, Nat.add_sub_cancel_left] at h1
  rw [h1, decide_eq_true h]
/-- the names behind the points, from a place on. -/
def cls (L : List UInt8) : Nat → Nat → List ByteArray → Option (List ByteArray)
  | 0, _, _ => none
  | m + 1, a, cs => if a < L.length then (if L.getD a 0 = 46 then (if runL (L.drop (a + 1)) = 0 then none else cls L m (a + 1 + runL (L.drop (a + 1))) (cs ++ [ofL ((L.drop (a + 1)).take (runL (L.drop (a + 1))))])) else none) else some cs
theorem cls_words (L : List UInt8) : ∀ (m a : Nat) (cs cs' : List ByteArray), cs.all (fun y => isWordL (B y)) = true → cls L m a cs = some cs' → cs'.all (fun y => isWordL (B y)) = true ∧ cs.length ≤ cs'.length := by
  intro m
  induction m with
  | zero => intro a cs cs' _ h; cases h
  | succ m ih =>
    intro a cs cs' hw h
    rw [cls] at h
    split at h
    · split at h
      · split at h
        · cases h
        · rename_i hr
          have := ih _ _ _ (by
            rw [List.all_append, hw, Bool.true_and]
            simp only [List.all_cons, List.all_nil, Bool.and_true, B_ofL]
            exact word_take L (a + 1) (by omega)) h
          rw [List.length_append, List.length_cons, List.length_nil] at this
          exact ⟨this.1, by omega⟩
      · cases h
    · injection h with h; subst h; exact ⟨hw, Nat.le_refl _⟩
/-- the name of its own, if one stands at a place. -/
def idP (L : List UInt8) (a : Nat) : Option (ByteArray × Nat) :=
  if a < L.length ∧ L.getD a 0 = 35 then (if runL (L.drop (a + 1)) = 0 then none else some (ofL ((L.drop (a + 1)).take (runL (L.drop (a + 1)))), a + 1 + runL (L.drop (a + 1)))) else some (⟨#[]⟩, a)
def headP (L : List UInt8) : ByteArray × Nat := if L.getD 0 0 = 42 then (⟨#[42]⟩, 1) else if 0 < runL L then (ofL (L.take (runL L)), runL L) else (⟨#[]⟩, 0)
def restP (L : List UInt8) (ty : ByteArray) (a : Nat) : Option S71 :=
  match idP L a with
  | none => none
  | some (id, b) => match cls L (L.length + 1) b [] with
    | none => none
    | some cs => if cs.length ≤ 4 then some ⟨ty, id, cs⟩ else none
/-- a part, told by its text. -/
def partP (L : List UInt8) : Option S71 := if L = [] then none else restP L (headP L).1 (headP L).2
/-- what a reader of parts answers. -/
def PartAns (p : Option S71) (v : ByteArray × ByteArray × List ByteArray × Bool) : Prop := (v.2.2.2 = true ∧ p = some ⟨v.1, v.2.1, v.2.2.1⟩) ∨ (v.2.2.2 = false ∧ p = none)
theorem byte_eq {c : UInt8} {n : Nat} (hn : n < 256) : ((c.toNat : Int) = (n : Int)) ↔ c = UInt8.ofNat n := u8_nat hn
theorem cls_len (L : List UInt8) : ∀ (m a : Nat) (cs cs' : List ByteArray), cls L m a cs = some cs' → cs.length ≤ cs'.length := by
  intro m
  induction m with
  | zero => intro a cs cs' h; cases h
  | succ m ih =>
    intro a cs cs' h
    rw [cls] at h
    split at h
    · split at h
      · split at h
        · cases h
        · have := ih _ _ _ h
          rw [List.length_append, List.length_cons, List.length_nil] at this
          omega
      · cases h
    · injection h with h; subst h; exact Nat.le_refl _
theorem ext_take (s : ByteArray) (a r : Nat) : s.extract a (a + r) = ofL (((B s).drop a).take r) := B_ext (by rw [B_extract, B_ofL, Nat.add_sub_cancel_left])
theorem ext_end (s : ByteArray) (a : Nat) : B (s.extract a s.size) = (B s).drop a := by
  rw [B_extract, List.take_of_length_le (by rw [List.length_drop, B_len]; omega)]
theorem spec_cls (s : ByteArray) (hs : s.size ≤ 1048576) (ty id : ByteArray) : ∀ (m a : Nat) (cs : List ByteArray), (B s).length < a + m → a ≤ (B s).length → cs.length ≤ 4 →
    ∃ v, Ev (fun k => spec_l5Part.l0 k s (a : Int) ty id cs) v ∧ ((v.2.2.2 = true ∧ v.1 = ty ∧ v.2.1 = id ∧ cls (B s) m a cs = some v.2.2.1 ∧ v.2.2.1.length ≤ 4) ∨ (v.2.2.2 = false ∧ ∀ cs', cls (B s) m a cs = some cs' → 4 < cs'.length)) := by
  have hB := B_len s
  have stop : ∀ (a : Nat) (cs : List ByteArray), Ev (fun k => spec_l5Part.j4 k s (a : Int) false ty id cs) (ty, id, cs, ((a : Int) == (s.size : Int))) := fun a cs => Ev.step (fun k => spec_l5Part.j4.eq_2 ..) (ev_if_neg (by decide) (Ev.now _))
  intro m
  induction m with
  | zero => intro a cs h1 h2; omega
  | succ m ih =>
    intro a cs h1 h2 h4
    rw [cls]
    by_cases ha : a < (B s).length
    · rw [if_pos ha]
      by_cases hc : (B s).getD a 0 = 46
      · rw [if_pos hc]
        have hrun := spec_l5Run_ev (s.extract (a + 1) s.size) (by have := B_len (s.extract (a + 1) s.size); rw [ext_end, List.length_drop] at this; omega)
        rw [ext_end] at hrun
        have hle := runL_le ((B s).drop (a + 1))
        rw [List.length_drop] at hle
        generalize hr : runL ((B s).drop (a + 1)) = r at hrun hle ⊢
        have w1 := Aside0.mk (show wrap64 ((a : Int) + 1) = ((a + 1 : Nat) : Int) from wrap_up ha (by omega))
        have w2 := Aside0.mk (show wrap64 (((a + 1 : Nat) : Int) + (r : Int)) = ((a + 1 + r : Nat) : Int) from by rw [wrap_id (by omega) (by omega)]; omega)
        have w3 := Aside0.mk (show wrap64 ((a : Int) + wrap64 (1 + (r : Int))) = ((a + 1 + r : Nat) : Int) from by rw [wrap_id (x := 1 + (r : Int)) (by omega) (by omega), wrap_id (by omega) (by omega)]; omega)
        have st : ∀ v, Ev (fun k => (spec_l5Run.f k (s.extract (a + 1) s.size)).bind fun t119 => (if t119 = 0 then (some (ty, id, cs, false)) else (if (cs.length : Int) = 4 then (some (ty, id, cs, false)) else (if ((a + 1 : Nat) : Int) ≤ (wrap64 (((a + 1 : Nat) : Int) + t119)) then (if (wrap64 (((a + 1 : Nat) : Int) + t119)) ≤ (s.size : Int) then (if cs.length < 8796093022208 then (spec_l5Part.l0 k s (wrap64 ((a : Int) + (wrap64 (1 + t119)))) ty id (cs ++ [s.extract (((a + 1 : Nat) : Int) : Int).toNat ((wrap64 (((a + 1 : Nat) : Int) + t119)) : Int).toNat])) else (none)) else (none)) else (none))))) v → Ev (fun k => spec_l5Part.l0 k s (a : Int) ty id cs) v := by
          intro v hv
          refine Ev.step (fun k => spec_l5Part.l0.eq_2 ..) (ev_if_pos (by omega) (ev_if_pos (by omega) ?_))
          rw [bt_U s a ha, hc]
          refine Ev.step (fun k => spec_l5Part.j4.eq_2 ..) (ev_if_pos (by decide) ?_)
          rw [w1.out]
          exact ev_if_pos (by omega) (ev_if_pos (by omega) hv)
        by_cases hr0 : r = 0
        · refine ⟨(ty, id, cs, false), st _ (ev_bind hrun (ev_if_pos (by omega) (Ev.now _))), .inr ⟨rfl, fun cs' h => ?_⟩⟩
          rw [if_pos hr0] at h; cases h
        · rw [if_neg hr0]
          by_cases hc4 : cs.length = 4
          · refine ⟨(ty, id, cs, false), st _ (ev_bind hrun (ev_if_neg (by omega) (ev_if_pos (by omega) (Ev.now _)))), .inr ⟨rfl, fun cs' h => ?_⟩⟩
            have := cls_len _ _ _ _ _ h
            rw [List.length_append, List.length_cons, List.length_nil] at this
            omega
          · obtain ⟨v, e, h⟩ := ih (a + 1 + r) (cs ++ [ofL (((B s).drop (a + 1)).take r)]) (by omega) (by omega) (by rw [List.length_append, List.length_cons, List.length_nil]; omega)
            refine ⟨v, st v (ev_bind hrun (ev_if_neg (by omega) (ev_if_neg (by omega) ?_))), h⟩
            rw [w2.out, w3.out, Int.toNat_natCast, Int.toNat_natCast, ext_take]
            exact ev_if_pos (by omega) (ev_if_pos (by omega) (ev_if_pos (by omega) e))
      · rw [if_neg hc]
        refine ⟨(ty, id, cs, ((a : Int) == (s.size : Int))), ?_, .inr ⟨beq_eq_false_iff_ne.mpr (by omega), fun cs' h => by cases h⟩⟩
        refine Ev.step (fun k => spec_l5Part.l0.eq_2 ..) (ev_if_pos (by omega) (ev_if_pos (by omega) ?_))
        rw [bt_U s a ha, show ((((B s).getD a 0).toNat : Int) == 46) = false from beq_eq_false_iff_ne.mpr (fun h => hc ((byte_eq (n := 46) (by omega)).1 h))]
        exact stop a cs
    · rw [if_neg ha]
      refine ⟨(ty, id, cs, ((a : Int) == (s.size : Int))), Ev.step (fun k => spec_l5Part.l0.eq_2 ..) (ev_if_neg (by omega) (stop a cs)), .inl ⟨beq_iff_eq.mpr (by omega), rfl, rfl, rfl, h4⟩⟩
theorem spec_rest (s : ByteArray) (hs : s.size ≤ 1048576) (ty : ByteArray) (a : Nat) (ha : a ≤ (B s).length) : ∃ v, Ev (fun k => spec_l5Part.j0 k s (a : Int) ty (⟨#[]⟩ : ByteArray)) v ∧ PartAns (restP (B s) ty a) v := by
  have hB := B_len s
  have fin : ∀ (id : ByteArray) (b : Nat), b ≤ (B s).length → ∃ v, Ev (fun k => spec_l5Part.j2 k s (b : Int) ty id) v ∧ PartAns (match cls (B s) ((B s).length + 1) b [] with | none => none | some cs => if cs.length ≤ 4 then some ⟨ty, id, cs⟩ else none) v := by
    intro id b hb
    obtain ⟨v, e, h⟩ := spec_cls s hs ty id ((B s).length + 1) b [] (by omega) hb (by simp)
    refine ⟨v, Ev.step (fun k => spec_l5Part.j2.eq_2 ..) e, ?_⟩
    rcases h with ⟨h1, h2, h3, h4, h5⟩ | ⟨h1, h2⟩
    · refine .inl ⟨h1, ?_⟩
      rw [h4]
      simp only [if_pos h5, h2, h3]
    · refine .inr ⟨h1, ?_⟩
      cases hc : cls (B s) ((B s).length + 1) b [] with
      | none => rfl
      | some cs => exact if_neg (by have := h2 cs hc; omega)
  unfold restP idP
  by_cases hc : a < (B s).length ∧ (B s).getD a 0 = 35
  · rw [if_pos hc]
    obtain ⟨hal, hc⟩ := hc
    have hrun := spec_l5Run_ev (s.extract (a + 1) s.size) (by have := B_len (s.extract (a + 1) s.size); rw [ext_end, List.length_drop] at this; omega)
    rw [ext_end] at hrun
    have hle := runL_le ((B s).drop (a + 1))
    rw [List.length_drop] at hle
    generalize hr : runL ((B s).drop (a + 1)) = r at hrun hle ⊢
    have w1 := Aside0.mk (show wrap64 ((a : Int) + 1) = ((a + 1 : Nat) : Int) from wrap_up hal (by omega))
    have w2 := Aside0.mk (show wrap64 (((a + 1 : Nat) : Int) + (r : Int)) = ((a + 1 + r : Nat) : Int) from by rw [wrap_id (by omega) (by omega)]; omega)
    have w3 := Aside0.mk (show wrap64 ((a : Int) + wrap64 (1 + (r : Int))) = ((a + 1 + r : Nat) : Int) from by rw [wrap_id (x := 1 + (r : Int)) (by omega) (by omega), wrap_id (by omega) (by omega)]; omega)
    have st : ∀ v, Ev (fun k => (spec_l5Run.f k (s.extract (a + 1) s.size)).bind fun t118 => (if t118 = 0 then (some (ty, (⟨#[]⟩ : ByteArray), ([] : List ByteArray), false)) else (if ((a + 1 : Nat) : Int) ≤ (wrap64 (((a + 1 : Nat) : Int) + t118)) then (if (wrap64 (((a + 1 : Nat) : Int) + t118)) ≤ (s.size : Int) then (spec_l5Part.j2 k s (wrap64 ((a : Int) + (wrap64 (1 + t118)))) ty (s.extract (((a + 1 : Nat) : Int) : Int).toNat ((wrap64 (((a + 1 : Nat) : Int) + t118)) : Int).toNat)) else (none)) else (none)))) v → Ev (fun k => spec_l5Part.j0 k s (a : Int) ty (⟨#[]⟩ : ByteArray)) v := by
      intro v hv
      refine Ev.step (fun k => spec_l5Part.j0.eq_2 ..) (ev_if_pos (by omega) (ev_if_pos (by omega) ?_))
      rw [bt_U s a hal, hc]
      refine Ev.step (fun k => spec_l5Part.j1.eq_2 ..) (ev_if_pos (by decide) ?_)
      rw [w1.out]
      exact ev_if_pos (by omega) (ev_if_pos (by omega) hv)
    by_cases hr0 : r = 0
    · rw [if_pos hr0]
      exact ⟨_, st _ (ev_bind hrun (ev_if_pos (by omega) (Ev.now _))), .inr ⟨rfl, rfl⟩⟩
    · rw [if_neg hr0]
      obtain ⟨v, e, h⟩ := fin (ofL (((B s).drop (a + 1)).take r)) (a + 1 + r) (by omega)
      refine ⟨v, st v (ev_bind hrun (ev_if_neg (by omega) ?_)), h⟩
      rw [w2.out, w3.out, Int.toNat_natCast, Int.toNat_natCast, ext_take]
      exact ev_if_pos (by omega) (ev_if_pos (by omega) e)
  · rw [if_neg hc]
    obtain ⟨v, e, h⟩ := fin (⟨#[]⟩ : ByteArray) a ha
    refine ⟨v, ?_, h⟩
    have j1 : Ev (fun k => spec_l5Part.j1 k s (a : Int) false ty (⟨#[]⟩ : ByteArray)) v := Ev.step (fun k => spec_l5Part.j1.eq_2 ..) (ev_if_neg (by decide) e)
    by_cases hal : a < (B s).length
    · refine Ev.step (fun k => spec_l5Part.j0.eq_2 ..) (ev_if_pos (by omega) (ev_if_pos (by omega) ?_))
      rw [bt_U s a hal, show ((((B s).getD a 0).toNat : Int) == 35) = false from beq_eq_false_iff_ne.mpr (fun h => hc ⟨hal, (byte_eq (n := 35) (by omega)).1 h⟩)]
      exact j1
    · exact Ev.step (fun k => spec_l5Part.j0.eq_2 ..) (ev_if_neg (by omega) j1)
theorem spec_l5Part_ev (s : ByteArray) (hs : s.size ≤ 1048576) : ∃ v, Ev (fun k => spec_l5Part.f k s) v ∧ PartAns (partP (B s)) v := by
  have hB := B_len s
  simp only [spec_l5Part.f]
  unfold partP
  by_cases h0 : B s = []
  · rw [if_pos h0]
    exact ⟨_, ev_if_pos (by rw [toList_B]; exact h0) (Ev.now _), .inr ⟨rfl, rfl⟩⟩
  · rw [if_neg h0]
    have hpos : 0 < (B s).length := List.length_pos_iff.2 h0
    have hb : bt s 0 = (((B s).getD 0 0).toNat : Int) := bt_U s 0 hpos
    unfold headP
    by_cases hc : (B s).getD 0 0 = 42
    · rw [if_pos hc]
      obtain ⟨v, e, h⟩ := spec_rest s hs (⟨#[42]⟩ : ByteArray) 1 hpos
      refine ⟨v, ev_if_neg (by rw [toList_B]; exact h0) (ev_if_pos (by omega) ?_), h⟩
      rw [hb, hc]
      exact ev_if_pos rfl e
    · rw [if_neg hc]
      have hrun := spec_l5Run_ev s (by omega)
      have hle := runL_le (B s)
      have st : ∀ v, Ev (fun k => ((spec_l5Run.f k s).bind fun t117 => (if t117 > 0 then (if 0 ≤ t117 then (if t117 ≤ (s.size : Int) then (spec_l5Part.j0 k s t117 (s.extract 0 (t117 : Int).toNat) (⟨#[]⟩ : ByteArray)) else (none)) else (none)) else (spec_l5Part.j0 k s 0 (⟨#[]⟩ : ByteArray) (⟨#[]⟩ : ByteArray))))) v → Ev (fun k => if s.toList = ([] : List UInt8) then (some ((⟨#[]⟩ : ByteArray), (⟨#[]⟩ : ByteArray), ([] : List ByteArray), false)) else (if 0 < (s.size : Int) then (if (bt s 0) = 42 then (spec_l5Part.j0 k s 1 (⟨#[42]⟩ : ByteArray) (⟨#[]⟩ : ByteArray)) else ((spec_l5Run.f k s).bind fun t117 => (if t117 > 0 then (if 0 ≤ t117 then (if t117 ≤ (s.size : Int) then (spec_l5Part.j0 k s t117 (s.extract 0 (t117 : Int).toNat) (⟨#[]⟩ : ByteArray)) else (none)) else (none)) else (spec_l5Part.j0 k s 0 (⟨#[]⟩ : ByteArray) (⟨#[]⟩ : ByteArray))))) else (none))) v := by
        intro v hv
        refine ev_if_neg (by rw [toList_B]; exact h0) (ev_if_pos (by omega) (ev_if_neg ?_ hv))
        rw [hb]
        exact fun h => hc ((byte_eq (n := 42) (by omega)).1 h)
      by_cases hr : 0 < runL (B s)
      · rw [if_pos hr]
        obtain ⟨v, e, h⟩ := spec_rest s hs (ofL ((B s).take (runL (B s)))) (runL (B s)) hle.1
        refine ⟨v, st v (ev_bind hrun (ev_if_pos (by omega) (ev_if_pos (by omega) (ev_if_pos (by omega) ?_)))), h⟩
        have hx := ext_take s 0 (runL (B s))
        rw [Nat.zero_add, List.drop_zero] at hx
        rw [Int.toNat_natCast, hx]
        exact e
      · rw [if_neg hr]
        obtain ⟨v, e, h⟩ := spec_rest s hs (⟨#[]⟩ : ByteArray) 0 (by omega)
        exact ⟨v, st v (ev_bind hrun (ev_if_neg (by omega) e)), h⟩

/-! implpart -/
-- plain: Evs Word Trim
def noPart : ByteArray × ByteArray × List ByteArray × Bool := ((⟨#[]⟩ : ByteArray), (⟨#[]⟩ : ByteArray), ([] : List ByteArray), false)
theorem wordEndL_range (L : List UInt8) (i : Nat) (h : i ≤ L.length) : i ≤ wordEndL L i ∧ wordEndL L i ≤ L.length := by
  unfold wordEndL
  split
  · omega
  · exact ⟨runEnd_ge _ _ _, runEnd_le _ _ _ h⟩
theorem impl_part_step (s : ByteArray) (hs : s.size ≤ 1048576) (ty id : ByteArray) (a : Nat) (cs : List ByteArray) (ha : a < (B s).length) (hcs : cs.length ≤ 1048576) :
    (runL ((B s).drop (a + 1)) = 0 → Ev (fun k => impl_readPart.l0 k s (a : Int) ty id cs) noPart) ∧
    (0 < runL ((B s).drop (a + 1)) → (B s).getD a 0 = 35 → B id = [] → cs = [] → ∀ v, Ev (fun k => impl_readPart.l0 k s ((a + 1 + runL ((B s).drop (a + 1)) : Nat) : Int) ty (ofL (((B s).drop (a + 1)).take (runL ((B s).drop (a + 1))))) cs) v → Ev (fun k => impl_readPart.l0 k s (a : Int) ty id cs) v) ∧
    (0 < runL ((B s).drop (a + 1)) → (B s).getD a 0 = 46 → ∀ v, Ev (fun k => impl_readPart.l0 k s ((a + 1 + runL ((B s).drop (a + 1)) : Nat) : Int) ty id (cs ++ [ofL (((B s).drop (a + 1)).take (runL ((B s).drop (a + 1))))])) v → Ev (fun k => impl_readPart.l0 k s (a : Int) ty id cs) v) ∧
    (¬ (B s).getD a 0 = 46 → ¬ ((B s).getD a 0 = 35 ∧ B id = [] ∧ cs = []) → Ev (fun k => impl_readPart.l0 k s (a : Int) ty id cs) noPart) := by
  have hB := B_len s
  have hend := impl_wordEnd_ev s (by omega) (a + 1)
  obtain ⟨hw1, hw2⟩ := word_run (B s) (a + 1)
  have hrg := wordEndL_range (B s) (a + 1) (by omega)
  generalize wordEndL (B s) (a + 1) = e at hend hw1 hw2 hrg
  have w1 := Aside0.mk (show wrap64 ((a : Int) + 1) = ((a + 1 : Nat) : Int) from wrap_up ha (by omega))
  have hx : B (s.extract (a + 1) e) = ((B s).drop (a + 1)).take (e - (a + 1)) := B_extract _ _ _
  have hisw := impl_isWord_ev (s.extract (a + 1) e) (by have := B_len (s.extract (a + 1) e); rw [hx, List.length_take, List.length_drop] at this; omega)
  rw [hx, hw1] at hisw
  have hbt := bt_U s a ha
  generalize (B s).getD a 0 = c at hbt ⊢
  have st : ∀ v, Ev (fun k => (impl_isWord.f k (s.extract (a + 1) e)).bind fun t161 => (if t161 = true then (if 0 ≤ (a : Int) then (if (bt s (a : Int)) = 35 then (if id.toList = ([] : List UInt8) then (impl_readPart.j2 k s (a : Int) (e : Int) (s.extract (a + 1) e) ((cs.length : Int) == 0) ty id cs) else (impl_readPart.j2 k s (a : Int) (e : Int) (s.extract (a + 1) e) false ty id cs)) else (impl_readPart.j2 k s (a : Int) (e : Int) (s.extract (a + 1) e) false ty id cs)) else (none)) else (some ((⟨#[]⟩ : ByteArray), (⟨#[]⟩ : ByteArray), ([] : List ByteArray), false)))) v → Ev (fun k => impl_readPart.l0 k s (a : Int) ty id cs) v := by
    intro v hv
    refine Ev.step (fun k => impl_readPart.l0.eq_2 ..) (ev_if_pos (by omega) ?_)
    rw [w1.out]
    refine ev_bind hend ?_
    refine ev_if_pos (by omega) (ev_if_pos (by omega) (ev_if_pos (by omega) ?_))
    rw [Int.toNat_natCast, Int.toNat_natCast]
    exact hv
  have word : 0 < runL ((B s).drop (a + 1)) → e = a + 1 + runL ((B s).drop (a + 1)) ∧ s.extract (a + 1) e = ofL (((B s).drop (a + 1)).take (runL ((B s).drop (a + 1)))) := by
    intro h
    have he := hw2 h
    exact ⟨he, by rw [he]; exact ext_take _ _ _⟩
  have nojoin : ¬ c = 46 → Ev (fun k => impl_readPart.j2 k s (a : Int) (e : Int) (s.extract (a + 1) e) false ty id cs) noPart := by
    intro h
    refine Ev.step (fun k => impl_readPart.j2.eq_2 ..) (ev_if_neg (by decide) (ev_if_pos (by omega) (ev_if_pos (by omega) ?_)))
    rw [hbt]
    exact ev_if_neg (fun hh => h ((byte_eq (n := 46) (by omega)).1 hh)) (Ev.now _)
  refine ⟨fun h0 => ?_, fun hr hc hid hcs0 v hv => ?_, fun hr hc v hv => ?_, fun hc hno => ?_⟩
  · refine st _ (ev_bind hisw ?_)
    rw [h0]
    exact ev_if_neg (by decide) (Ev.now _)
  · refine st _ (ev_bind hisw (ev_if_pos (decide_eq_true hr) (ev_if_pos (by omega) ?_)))
    rw [hbt]
    refine ev_if_pos ((byte_eq (n := 35) (by omega)).2 hc) (ev_if_pos (by rw [toList_B]; exact hid) ?_)
    rw [hcs0] at hv ⊢
    refine Ev.step (fun k => impl_readPart.j2.eq_2 ..) (ev_if_pos rfl ?_)
    rw [(word hr).2, (word hr).1]
    exact hv
  · refine st _ (ev_bind hisw (ev_if_pos (decide_eq_true hr) (ev_if_pos (by omega) ?_)))
    rw [hbt]
    refine ev_if_neg (fun hh => by have := (byte_eq (n := 35) (by omega)).1 hh; rw [hc] at this; exact absurd this (by decide)) ?_
    refine Ev.step (fun k => impl_readPart.j2.eq_2 ..) (ev_if_neg (by decide) (ev_if_pos (by omega) (ev_if_pos (by omega) ?_)))
    rw [hbt]
    refine ev_if_pos ((byte_eq (n := 46) (by omega)).2 hc) (ev_if_pos (by omega) ?_)
    rw [(word hr).2, (word hr).1]
    exact hv
  · by_cases hr : 0 < runL ((B s).drop (a + 1))
    · refine st _ (ev_bind hisw (ev_if_pos (decide_eq_true hr) (ev_if_pos (by omega) ?_)))
      rw [hbt]
      by_cases h35 : c = 35
      · refine ev_if_pos ((byte_eq (n := 35) (by omega)).2 h35) ?_
        by_cases hid : B id = []
        · refine ev_if_pos (by rw [toList_B]; exact hid) ?_
          have hne : ¬ cs = [] := fun h => hno ⟨h35, hid, h⟩
          rw [show ((cs.length : Int) == 0) = false from beq_eq_false_iff_ne.mpr (fun h => hne (List.length_eq_zero_iff.1 (by omega)))]
          exact nojoin hc
        · exact ev_if_neg (by rw [toList_B]; exact hid) (nojoin hc)
      · exact ev_if_neg (fun hh => h35 ((byte_eq (n := 35) (by omega)).1 hh)) (nojoin hc)
    · refine st _ (ev_bind hisw ?_)
      rw [decide_eq_false hr]
      exact ev_if_neg (by decide) (Ev.now _)
theorem take_size (L : List UInt8) (a : Nat) (n : Nat) (h : L.length ≤ n) : (ofL ((L.drop a).take (runL (L.drop a)))).size ≤ n := by
  rw [← B_len, B_ofL, List.length_take, List.length_drop]; omega
theorem impl_cls (s : ByteArray) (hs : s.size ≤ 1048576) (ty id : ByteArray) (hty : ty.size ≤ 1048576) (hid : id.size ≤ 1048576) : ∀ (m a : Nat) (cs : List ByteArray), (B s).length < a + m → a ≤ (B s).length → cs.length ≤ a → (∀ y ∈ cs, y.size ≤ 1048576) → ¬ (a < (B s).length ∧ (B s).getD a 0 = 35 ∧ B id = [] ∧ cs = []) →
    ∃ v, Ev (fun k => impl_readPart.l0 k s (a : Int) ty id cs) v ∧ ((v.2.2.2 = true ∧ v.1 = ty ∧ v.2.1 = id ∧ cls (B s) m a cs = some v.2.2.1 ∧ partOk ⟨ty, id, v.2.2.1⟩ = true) ∨ (v.2.2.2 = false ∧ ∀ cs', cls (B s) m a cs = some cs' → partOk ⟨ty, id, cs'⟩ = false)) := by
  have hB := B_len s
  intro m
  induction m with
  | zero => intro a cs h1 h2; omega
  | succ m ih =>
    intro a cs h1 h2 h3 h4 hno
    rw [cls]
    by_cases ha : a < (B s).length
    · rw [if_pos ha]
      obtain ⟨p0, _, p2, p3⟩ := impl_part_step s hs ty id a cs ha (by omega)
      by_cases hc : (B s).getD a 0 = 46
      · rw [if_pos hc]
        by_cases hr : runL ((B s).drop (a + 1)) = 0
        · rw [if_pos hr]
          exact ⟨noPart, p0 hr, .inr ⟨rfl, fun cs' h => by cases h⟩⟩
        · rw [if_neg hr]
          have hle := runL_le ((B s).drop (a + 1))
          rw [List.length_drop] at hle
          obtain ⟨v, e, h⟩ := ih (a + 1 + runL ((B s).drop (a + 1))) (cs ++ [ofL (((B s).drop (a + 1)).take (runL ((B s).drop (a + 1))))]) (by omega) (by omega) (by rw [List.length_append, List.length_cons, List.length_nil]; omega) (fun y hy => by
            rcases List.mem_append.1 hy with hy | hy
            · exact h4 y hy
            · rw [List.mem_singleton.1 hy]; exact take_size (B s) (a + 1) _ (by omega)) (fun h => by have := h.2.2.2; simp at this)
          exact ⟨v, p2 (by omega) hc v e, h⟩
      · rw [if_neg hc]
        exact ⟨noPart, p3 hc (fun h => hno ⟨ha, h⟩), .inr ⟨rfl, fun cs' h => by cases h⟩⟩
    · rw [if_neg ha]
      have hp := impl_isPart_ev ⟨ty, id, cs⟩ ⟨hty, hid, by show cs.length ≤ _; omega, h4⟩
      refine ⟨(ty, id, cs, partOk ⟨ty, id, cs⟩), Ev.step (fun k => impl_readPart.l0.eq_2 ..) (ev_if_neg (by omega) (ev_bind hp (Ev.now _))), ?_⟩
      cases ho : partOk ⟨ty, id, cs⟩ with
      | true => exact .inl ⟨rfl, rfl, rfl, rfl, rfl⟩
      | false => exact .inr ⟨rfl, fun cs' h => by injection h with h; subst h; exact ho⟩
theorem impl_bad (s : ByteArray) (hs : s.size ≤ 1048576) (ty : ByteArray) (hty : ty.size ≤ 1048576) (hbad : typeOkL (B ty) = false) : ∀ (m a : Nat) (id : ByteArray) (cs : List ByteArray), (B s).length < a + m → a ≤ (B s).length → cs.length ≤ a → id.size ≤ 1048576 → (∀ y ∈ cs, y.size ≤ 1048576) →
    ∃ v, Ev (fun k => impl_readPart.l0 k s (a : Int) ty id cs) v ∧ v.2.2.2 = false := by
  have hB := B_len s
  intro m
  induction m with
  | zero => intro a id cs h1 h2; omega
  | succ m ih =>
    intro a id cs h1 h2 h3 h5 h4
    by_cases ha : a < (B s).length
    · obtain ⟨p0, p1, p2, p3⟩ := impl_part_step s hs ty id a cs ha (by omega)
      have hle := runL_le ((B s).drop (a + 1))
      rw [List.length_drop] at hle
      by_cases hr : runL ((B s).drop (a + 1)) = 0
      · exact ⟨noPart, p0 hr, rfl⟩
      · by_cases hc : (B s).getD a 0 = 46
        · obtain ⟨v, e, h⟩ := ih (a + 1 + runL ((B s).drop (a + 1))) id (cs ++ [ofL (((B s).drop (a + 1)).take (runL ((B s).drop (a + 1))))]) (by omega) (by omega) (by rw [List.length_append, List.length_cons, List.length_nil]; omega) h5 (fun y hy => by
            rcases List.mem_append.1 hy with hy | hy
            · exact h4 y hy
            · rw [List.mem_singleton.1 hy]; exact take_size (B s) (a + 1) _ (by omega))
          exact ⟨v, p2 (by omega) hc v e, h⟩
        · by_cases hid : (B s).getD a 0 = 35 ∧ B id = [] ∧ cs = []
          · obtain ⟨v, e, h⟩ := ih (a + 1 + runL ((B s).drop (a + 1))) (ofL (((B s).drop (a + 1)).take (runL ((B s).drop (a + 1))))) cs (by omega) (by omega) (by omega) (take_size (B s) (a + 1) _ (by omega)) h4
            exact ⟨v, p1 (by omega) hid.1 hid.2.1 hid.2.2 v e, h⟩
          · exact ⟨noPart, p3 hc hid, rfl⟩
    · have hp := impl_isPart_ev ⟨ty, id, cs⟩ ⟨hty, h5, by show cs.length ≤ _; omega, h4⟩
      refine ⟨(ty, id, cs, partOk ⟨ty, id, cs⟩), Ev.step (fun k => impl_readPart.l0.eq_2 ..) (ev_if_neg (by omega) (ev_bind hp (Ev.now _))), ?_⟩
      show partOk ⟨ty, id, cs⟩ = false
      unfold partOk
      rw [hbad]; rfl
theorem cls_pos (L : List UInt8) (m a : Nat) (cs cs' : List ByteArray) (ha : a < L.length) (h : cls L m a cs = some cs') : cs.length < cs'.length := by
  cases m with
  | zero => cases h
  | succ m =>
    rw [cls, if_pos ha] at h
    split at h
    · split at h
      · cases h
      · have := cls_len _ _ _ _ _ h
        rw [List.length_append, List.length_cons, List.length_nil] at this
        omega
    · cases h
theorem impl_rest (s : ByteArray) (hs : s.size ≤ 1048576) (ty : ByteArray) (hty : ty.size ≤ 1048576) (hok : typeOkL (B ty) = true) (a : Nat) (ha : a ≤ (B s).length) (hne : ¬ B ty = [] ∨ a < (B s).length) : ∃ v, Ev (fun k => impl_readPart.j0 k s (a : Int) ty (⟨#[]⟩ : ByteArray)) v ∧ PartAns (restP (B s) ty a) v := by
  have hB := B_len s
  have done : ∀ (id : ByteArray) (b : Nat) (v : ByteArray × ByteArray × List ByteArray × Bool), idOkL (B id) = true → (∀ cs, cls (B s) ((B s).length + 1) b [] = some cs → ¬ B ty = [] ∨ ¬ B id = [] ∨ 0 < cs.length) →
      ((v.2.2.2 = true ∧ v.1 = ty ∧ v.2.1 = id ∧ cls (B s) ((B s).length + 1) b [] = some v.2.2.1 ∧ partOk ⟨ty, id, v.2.2.1⟩ = true) ∨ (v.2.2.2 = false ∧ ∀ cs', cls (B s) ((B s).length + 1) b [] = some cs' → partOk ⟨ty, id, cs'⟩ = false)) →
      PartAns (match cls (B s) ((B s).length + 1) b [] with | none => none | some cs => if cs.length ≤ 4 then some ⟨ty, id, cs⟩ else none) v := by
    intro id b v hid hnz h
    have key : ∀ cs, cls (B s) ((B s).length + 1) b [] = some cs → partOk ⟨ty, id, cs⟩ = decide (cs.length ≤ 4) := by
      intro cs hcs
      have hw := (cls_words _ _ _ _ _ rfl hcs).1
      have hn := hnz cs hcs
      unfold partOk
      simp only
      rw [hok, hid, hw, Bool.true_and, Bool.true_and, Bool.and_true]
      have : (!decide (B ty = []) || !decide (B id = []) || decide (0 < cs.length)) = true := by
        rcases hn with hn | hn | hn
        · rw [decide_eq_false hn]; rfl
        · rw [decide_eq_false hn]; simp
        · rw [decide_eq_true hn]; simp
      rw [this, Bool.and_true]
    rcases h with ⟨h1, h2, h3, h4, h5⟩ | ⟨h1, h2⟩
    · refine .inl ⟨h1, ?_⟩
      have h6 := key _ h4
      rw [h5] at h6
      rw [h4]
      simp only [if_pos (of_decide_eq_true h6.symm), h2, h3]
    · refine .inr ⟨h1, ?_⟩
      cases hc : cls (B s) ((B s).length + 1) b [] with
      | none => rfl
      | some cs =>
        have h6 := key cs hc
        rw [h2 cs hc] at h6
        exact if_neg (of_decide_eq_false h6.symm)
  unfold restP idP
  by_cases hc : a < (B s).length ∧ (B s).getD a 0 = 35
  · rw [if_pos hc]
    obtain ⟨p0, p1, _, _⟩ := impl_part_step s hs ty (⟨#[]⟩ : ByteArray) a [] hc.1 (by simp)
    have hle := runL_le ((B s).drop (a + 1))
    rw [List.length_drop] at hle
    by_cases hr : runL ((B s).drop (a + 1)) = 0
    · rw [if_pos hr]
      exact ⟨noPart, Ev.step (fun k => impl_readPart.j0.eq_2 ..) (p0 hr), .inr ⟨rfl, rfl⟩⟩
    · rw [if_neg hr]
      have hw := word_take (B s) (a + 1) (by omega)
      have hwne : ¬ B (ofL (((B s).drop (a + 1)).take (runL ((B s).drop (a + 1))))) = [] := by
        rw [B_ofL]
        intro h0
        rw [h0] at hw
        exact absurd hw (by decide)
      obtain ⟨v, e, h⟩ := impl_cls s hs ty (ofL (((B s).drop (a + 1)).take (runL ((B s).drop (a + 1))))) hty (take_size (B s) (a + 1) _ (by omega)) ((B s).length + 1) (a + 1 + runL ((B s).drop (a + 1))) [] (by omega) (by omega) (by simp) (fun y hy => by cases hy) (fun h => hwne h.2.2.1)
      refine ⟨v, Ev.step (fun k => impl_readPart.j0.eq_2 ..) (p1 (by omega) hc.2 rfl rfl v e), ?_⟩
      exact done _ _ v (by unfold idOkL; rw [B_ofL, hw]; simp) (fun cs _ => .inr (.inl hwne)) h
  · rw [if_neg hc]
    obtain ⟨v, e, h⟩ := impl_cls s hs ty (⟨#[]⟩ : ByteArray) hty (by show 0 ≤ _; omega) ((B s).length + 1) a [] (by omega) ha (by simp) (fun y hy => by cases hy) (fun h => hc ⟨h.1, h.2.1⟩)
    refine ⟨v, Ev.step (fun k => impl_readPart.j0.eq_2 ..) e, ?_⟩
    refine done (⟨#[]⟩ : ByteArray) a v rfl (fun cs hcs => ?_) h
    rcases hne with hne | hne
    · exact .inl hne
    · exact .inr (.inr (by have := cls_pos _ _ _ _ _ hne hcs; simpa using this))
theorem prefix_star (L : List UInt8) (h : ¬ L = []) : decide (B (⟨#[42]⟩ : ByteArray) <+: L) = decide (L.getD 0 0 = 42) := by
  cases L with
  | nil => exact absurd rfl h
  | cons c L =>
    rw [decide_eq_decide]
    show [42] <+: c :: L ↔ c = 42
    constructor
    · intro hp
      obtain ⟨t, ht⟩ := hp
      injection ht with h1 h2
      exact h1.symm
    · intro hc; subst hc; exact ⟨L, rfl⟩
theorem impl_readPart_ev (s : ByteArray) (hs : s.size ≤ 1048576) (h0 : ¬ B s = []) : ∃ v, Ev (fun k => impl_readPart.f k s) v ∧ PartAns (partP (B s)) v := by
  have hB := B_len s
  have hpos : 0 < (B s).length := List.length_pos_iff.2 h0
  simp only [impl_readPart.f]
  unfold partP headP
  rw [if_neg h0]
  have hpre := strings_HasPrefix_eq s (⟨#[42]⟩ : ByteArray)
  rw [prefix_star _ h0] at hpre
  by_cases hc : (B s).getD 0 0 = 42
  · rw [if_pos hc]
    obtain ⟨v, e, h⟩ := impl_rest s hs (⟨#[42]⟩ : ByteArray) (by show 1 ≤ _; omega) rfl 1 hpos (.inl (by decide))
    exact ⟨v, ev_bind0 hpre (ev_if_pos (decide_eq_true hc) e), h⟩
  · rw [if_neg hc]
    have hend := impl_wordEnd_ev s (by omega) 0
    obtain ⟨hw1, hw2⟩ := word_run (B s) 0
    have hrg := wordEndL_range (B s) 0 (by omega)
    rw [List.drop_zero, Nat.sub_zero] at hw1
    rw [List.drop_zero] at hw2
    have st : ∀ v, Ev (fun k => impl_readPart.j0 k s ((wordEndL (B s) 0 : Nat) : Int) (s.extract 0 (wordEndL (B s) 0)) (⟨#[]⟩ : ByteArray)) v → Ev (fun k => (strings_HasPrefix.f s (⟨#[42]⟩ : ByteArray)).bind fun t157 => (if t157 = true then (impl_readPart.j0 k s 1 (⟨#[42]⟩ : ByteArray) (⟨#[]⟩ : ByteArray)) else ((impl_wordEnd.f k s 0).bind fun t158 => (if 0 ≤ t158 then (if t158 ≤ (s.size : Int) then (impl_readPart.j0 k s t158 (s.extract 0 (t158 : Int).toNat) (⟨#[]⟩ : ByteArray)) else (none)) else (none))))) v := by
      intro v hv
      refine ev_bind0 hpre (ev_if_neg (by rw [decide_eq_false hc]; decide) (ev_bind hend (ev_if_pos (by omega) (ev_if_pos (by omega) ?_))))
      rw [Int.toNat_natCast]
      exact hv
    have hx : s.extract 0 (wordEndL (B s) 0) = ofL ((B s).take (wordEndL (B s) 0)) := by
      have := ext_take s 0 (wordEndL (B s) 0)
      rw [Nat.zero_add, List.drop_zero] at this
      exact this
    rw [hx] at st
    have hsz : (ofL ((B s).take (wordEndL (B s) 0))).size ≤ 1048576 := by rw [← B_len, B_ofL, List.length_take]; omega
    by_cases hr : 0 < runL (B s)
    · rw [if_pos hr]
      have he := hw2 hr
      rw [Nat.zero_add] at he
      rw [he] at st hw1 hsz
      have hw : isWordL ((B s).take (runL (B s))) = true := by rw [hw1]; exact decide_eq_true hr
      obtain ⟨v, e, h⟩ := impl_rest s hs (ofL ((B s).take (runL (B s)))) hsz (by unfold typeOkL; rw [B_ofL, hw]; simp) (runL (B s)) (runL_le _).1 (.inl (by
        rw [B_ofL]; intro h9; rw [h9] at hw; exact absurd hw (by decide)))
      exact ⟨v, st v e, h⟩
    · rw [if_neg hr]
      rw [decide_eq_false hr] at hw1
      by_cases he : wordEndL (B s) 0 = 0
      · rw [he] at st
        obtain ⟨v, e, h⟩ := impl_rest s hs (⟨#[]⟩ : ByteArray) (by show 0 ≤ _; omega) rfl 0 (by omega) (.inr hpos)
        exact ⟨v, st v e, h⟩
      · have hne : ¬ (B s).take (wordEndL (B s) 0) = [] := by
          intro h9
          have := congrArg List.length h9
          rw [List.length_take, List.length_nil] at this
          omega
        have hfirst : wordU ((B s).getD 0 0) = true := by
          unfold wordEndL at he
          split at he
          · omega
          · refine Classical.byContradiction fun hn => he ?_
            exact runEnd_no _ _ _ hpos hn
        have hbad : typeOkL (B (ofL ((B s).take (wordEndL (B s) 0)))) = false := by
          unfold typeOkL
          rw [B_ofL, hw1, decide_eq_false hne, decide_eq_false]
          · rfl
          · intro h9
            have : (B s).getD 0 0 = 42 := by
              cases hb : B s with
              | nil => exact absurd hb h0
              | cons x l =>
                rw [hb] at h9
                cases hq : wordEndL (x :: l) 0 with
                | zero => rw [hq] at h9; cases h9
                | succ q =>
                  rw [hq, List.take_succ_cons] at h9
                  injection h9
            exact hc this
        obtain ⟨v, e, h⟩ := impl_bad s hs _ hsz hbad ((B s).length + 1) (wordEndL (B s) 0) (⟨#[]⟩ : ByteArray) [] (by omega) hrg.2 (by simp) (by show 0 ≤ _; omega) (fun y hy => by cases hy)
        refine ⟨v, st v (Ev.step (fun k => impl_readPart.j0.eq_2 ..) e), .inr ⟨h, ?_⟩⟩
        have n35 : ¬ (B s).getD 0 0 = 35 := fun h9 => by rw [h9] at hfirst; exact absurd hfirst (by decide)
        have n46 : ¬ (B s).getD 0 0 = 46 := fun h9 => by rw [h9] at hfirst; exact absurd hfirst (by decide)
        unfold restP idP
        rw [if_neg (fun h9 => n35 h9.2)]
        simp only
        rw [cls, if_pos hpos, if_neg n46]
theorem partP_ok (L : List UInt8) (p : S71) (h : partP L = some p) : partOk p = true ∧ sizesPart p := by
  have word30 : ∀ l : List UInt8, isWordL l = true → l.length ≤ 30 := by
    intro l hl
    unfold isWordL at hl
    rw [Bool.and_eq_true, Bool.and_eq_true] at hl
    exact (of_decide_eq_true hl.1.1).2
  unfold partP at h
  split at h
  · cases h
  · rename_i h0
    have hpos : 0 < L.length := List.length_pos_iff.2 h0
    have hhead : typeOkL (B (headP L).1) = true ∧ (¬ B (headP L).1 = [] ∨ (headP L).2 < L.length) ∧ (B (headP L).1).length ≤ 30 := by
      unfold headP
      split
      · exact ⟨rfl, .inl (by decide), by decide⟩
      · split
        · rename_i hr
          have hw := word_take L 0 (by rw [List.drop_zero]; exact hr)
          rw [List.drop_zero] at hw
          refine ⟨by unfold typeOkL; rw [B_ofL, hw]; simp, .inl ?_, by rw [B_ofL]; exact word30 _ hw⟩
          rw [B_ofL]; intro h9; rw [h9] at hw; exact absurd hw (by decide)
        · exact ⟨rfl, .inr hpos, by decide⟩
    generalize (headP L).1 = ty at h hhead
    generalize (headP L).2 = a at h hhead
    obtain ⟨hty, hne, h30⟩ := hhead
    unfold restP idP at h
    have fin : ∀ (id : ByteArray) (b : Nat), idOkL (B id) = true → (B id).length ≤ 30 → (∀ cs, cls L (L.length + 1) b [] = some cs → ¬ B ty = [] ∨ ¬ B id = [] ∨ 0 < cs.length) → (match cls L (L.length + 1) b [] with | none => none | some cs => if cs.length ≤ 4 then some (⟨ty, id, cs⟩ : S71) else none) = some p → partOk p = true ∧ sizesPart p := by
      intro id b hid hid30 hnz h
      cases hc : cls L (L.length + 1) b [] with
      | none => rw [hc] at h; cases h
      | some cs =>
        rw [hc] at h
        simp only at h
        split at h
        · rename_i h4
          injection h with h
          subst h
          have hw := (cls_words _ _ _ _ _ rfl hc).1
          have hn := hnz cs hc
          have hz1 := B_len ty
          have hz2 := B_len id
          refine ⟨?_, by show ty.size ≤ _; omega, by show id.size ≤ _; omega, by show cs.length ≤ _; omega, fun y hy => ?_⟩
          · unfold partOk
            simp only
            rw [hty, hid, hw, decide_eq_true h4, Bool.true_and, Bool.true_and, Bool.true_and]
            rcases hn with hn | hn | hn
            · rw [decide_eq_false hn]; rfl
            · rw [decide_eq_false hn]; simp
            · rw [decide_eq_true hn]; simp
          · have h9 := word30 _ (List.all_eq_true.1 hw y hy)
            have hz3 := B_len y
            omega
        · cases h
    by_cases hc : a < L.length ∧ L.getD a 0 = 35
    · rw [if_pos hc] at h
      by_cases hr : runL (L.drop (a + 1)) = 0
      · rw [if_pos hr] at h; cases h
      · rw [if_neg hr] at h
        have hw := word_take L (a + 1) (by omega)
        refine fin _ _ (by unfold idOkL; rw [B_ofL, hw]; simp) (by rw [B_ofL]; exact word30 _ hw) (fun cs _ => .inr (.inl ?_)) h
        rw [B_ofL]; intro h9; rw [h9] at hw; exact absurd hw (by decide)
    · rw [if_neg hc] at h
      refine fin _ _ rfl (by decide) (fun cs hcs => ?_) h
      rcases hne with hne | hne
      · exact .inl hne
      · exact .inr (.inr (by have := cls_pos _ _ _ _ _ hne hcs; simpa using this))

/-! selparse -/
-- plain: Evs Word Trim Field
/-- the parts of a selector's words, at most five. -/
def selP (acc : List S71) : List ByteArray → Option (List S71)
  | [] => some acc
  | w :: ws => match partP (B w) with | none => none | some p => if acc.length = 5 then none else selP (acc ++ [p]) ws
def selQ (acc : List S71) : List ByteArray → Option (List S71)
  | [] => some acc
  | w :: ws => match partP (B w) with | none => none | some p => selQ (acc ++ [p]) ws
def noSel : List S71 × Bool := (([] : List S71), false)
def selV (acc : List S71) (ws : List ByteArray) : List S71 × Bool := match selP acc ws with | none => noSel | some l => (l, decide ((l.length : Int) > 0))
def selW (acc : List S71) (ws : List ByteArray) : List S71 × Bool := match selQ acc ws with | none => noSel | some l => if selOk l = true then (l, true) else noSel
theorem selQ_len : ∀ (ws : List ByteArray) (acc l : List S71), selQ acc ws = some l → acc.length ≤ l.length
  | [], acc, l, h => by injection h with h; subst h; exact Nat.le_refl _
  | w :: ws, acc, l, h => by
    rw [selQ] at h
    cases hp : partP (B w) with
    | none => rw [hp] at h; cases h
    | some p =>
      rw [hp] at h
      have := selQ_len ws _ l h
      rw [List.length_append, List.length_cons, List.length_nil] at this
      omega
theorem selV_selW : ∀ (ws : List ByteArray) (acc : List S71), acc.all partOk = true → acc.length ≤ 5 → selV acc ws = selW acc ws
  | [], acc, ha, h5 => by
    show (acc, decide ((acc.length : Int) > 0)) = if selOk acc = true then (acc, true) else noSel
    unfold selOk
    rw [ha, Bool.and_true]
    by_cases h0 : acc.length = 0
    · rw [decide_eq_false (by omega), decide_eq_false (by omega), List.length_eq_zero_iff.1 h0]; rfl
    · rw [decide_eq_true (by omega), decide_eq_true (by omega), if_pos rfl]
  | w :: ws, acc, ha, h5 => by
    unfold selV selW
    rw [selP, selQ]
    cases hp : partP (B w) with
    | none => rfl
    | some p =>
      simp only
      by_cases h : acc.length = 5
      · rw [if_pos h]
        cases hq : selQ (acc ++ [p]) ws with
        | none => rfl
        | some l =>
          have hl := selQ_len ws _ l hq
          rw [List.length_append, List.length_cons, List.length_nil] at hl
          simp only
          rw [if_neg]
          unfold selOk
          rw [decide_eq_false (by omega)]; simp
      · rw [if_neg h]
        exact selV_selW ws (acc ++ [p]) (by rw [List.all_append, ha, List.all_cons, (partP_ok _ _ hp).1]; rfl) (by rw [List.length_append, List.length_cons, List.length_nil]; omega)
theorem selV_cons (acc : List S71) (w : ByteArray) (ws : List ByteArray) : selV acc (w :: ws) = match partP (B w) with | none => noSel | some p => if acc.length = 5 then noSel else selV (acc ++ [p]) ws := by
  unfold selV
  rw [selP]
  cases partP (B w) with
  | none => rfl
  | some p =>
    simp only
    by_cases h : acc.length = 5
    · rw [if_pos h, if_pos h]
    · rw [if_neg h, if_neg h]
theorem spec_sel_l0 (s : ByteArray) (hs : s.size ≤ 1048576) : ∀ (m i : Nat) (acc : List S71) (w : ByteArray), i + m = s.size → acc.length ≤ 5 → w.size ≤ i → Ev (fun k => spec_l5Selector.l0 k s acc w (i : Int)) (selV acc ((wordsL blankU (B w) ((B s).drop i)).map ofL)) := by
  have hB := B_len s
  have stop : ∀ acc w, Ev (fun k => spec_l5Selector.l0 k s acc w (((s.size + 1 : Nat)) : Int)) (acc, decide ((acc.length : Int) > 0)) := fun acc w => ev_done fun k => by rw [spec_l5Selector.l0, if_neg (by omega)]
  have cut : ∀ (i : Nat) (acc : List S71) (w : ByteArray) (ws : List ByteArray), i ≤ s.size → acc.length ≤ 5 → w.size ≤ 1048576 →
      (∀ acc' w', acc'.length ≤ 5 → B w' = [] → Ev (fun k => spec_l5Selector.l0 k s acc' w' (((i + 1 : Nat)) : Int)) (selV acc' ws)) → Ev (fun k => spec_l5Selector.j1 k s acc w (i : Int) false) (selV acc (if B w = [] then ws else w :: ws)) := by
    intro i acc w ws hi h5 hw h
    refine Ev.step (fun k => spec_l5Selector.j1.eq_2 ..) (ev_if_neg (by decide) ?_)
    rw [wrap_id (x := (i : Int) + 1) (by omega) (by omega), cast_succ]
    by_cases h0 : B w = []
    · rw [if_pos h0]
      exact ev_if_pos (by rw [toList_B]; exact h0) (h acc w h5 h0)
    · rw [if_neg h0, selV_cons]
      refine ev_if_neg (by rw [toList_B]; exact h0) ?_
      obtain ⟨v, e, ans⟩ := spec_l5Part_ev w hw
      refine ev_bind e ?_
      rcases ans with ⟨a1, a2⟩ | ⟨a1, a2⟩
      · rw [a2]
        refine ev_if_pos a1 ?_
        simp only
        by_cases h6 : acc.length = 5
        · rw [if_pos h6]
          exact ev_if_pos (by omega) (Ev.now _)
        · rw [if_neg h6]
          exact ev_if_neg (by omega) (ev_if_pos (by omega) (h _ _ (by rw [List.length_append, List.length_cons, List.length_nil]; omega) rfl))
      · rw [a2]
        exact ev_if_neg (by rw [a1]; decide) (Ev.now _)
  intro m
  induction m with
  | zero =>
    intro i acc w hi h5 hw
    obtain rfl : i = s.size := by omega
    have hd : (B s).drop s.size = [] := List.drop_eq_nil_of_le (by omega)
    rw [hd, wordsL]
    refine Ev.step (fun k => spec_l5Selector.l0.eq_2 ..) (ev_if_pos (by omega) (ev_if_neg (by omega) ?_))
    have h := cut s.size acc w [] (by omega) h5 (by omega) (fun acc' w' h5' _ => stop acc' w')
    by_cases h0 : B w = []
    · rw [if_pos h0] at h ⊢; exact h
    · rw [if_neg h0] at h ⊢; rw [List.map_cons, List.map_nil, ofL_B]; exact h
  | succ m ih =>
    intro i acc w hi h5 hw
    have hd := drop_cons (B s) 0 i (by omega)
    refine Ev.step (fun k => spec_l5Selector.l0.eq_2 ..) (ev_if_pos (by omega) (ev_if_pos (by omega) (ev_if_pos (by omega) ?_)))
    rw [bt_U s i (by omega)]
    obtain ⟨c, hc⟩ : ∃ c, (B s).getD i 0 = c := ⟨_, rfl⟩
    rw [hc]
    refine ev_bind0 (spec_l4Blank_eq c) ?_
    rw [hd, hc, wordsL]
    by_cases hb : blankU c = true
    · rw [hb]
      have h := cut i acc w ((wordsL blankU [] ((B s).drop (i + 1))).map ofL) (by omega) h5 (by omega) (fun acc' w' h5' hw' => by
        have := ih (i + 1) acc' w' (by omega) h5' (by have := B_len w'; rw [hw', List.length_nil] at this; omega)
        rw [hw'] at this
        exact this)
      rw [if_pos rfl]
      by_cases h0 : B w = []
      · rw [if_pos h0] at h ⊢; exact h
      · rw [if_neg h0] at h ⊢; rw [List.map_cons, ofL_B]; exact h
    · rw [Bool.eq_false_iff.2 hb]
      have ex : B (s.extract i (i + 1)) = [c] := by
        rw [B_extract, hd, hc, Nat.add_sub_cancel_left]; rfl
      have sz : (s.extract i (i + 1)).size = 1 := by rw [← B_len, ex]; rfl
      refine Ev.step (fun k => spec_l5Selector.j1.eq_2 ..) (ev_if_pos (by decide) ?_)
      rw [wrap_id (x := (i : Int) + 1) (by omega) (by omega), cast_succ, Int.toNat_natCast, Int.toNat_natCast]
      refine ev_if_pos (by omega) (ev_if_pos (by omega) (ev_if_pos (by omega) (ev_if_pos (by rw [sz]; omega) ?_)))
      have hsz : (w ++ s.extract i (i + 1)).size = w.size + 1 := by rw [← B_len, B_append, ex, List.length_append, B_len]; rfl
      have h9 := ih (i + 1) acc (w ++ s.extract i (i + 1)) (by omega) h5 (by omega)
      rw [B_append, ex] at h9
      rw [if_neg (by decide)]
      exact h9
theorem spec_l5Selector_ev (s : ByteArray) (hs : s.size ≤ 1048576) : Ev (fun k => spec_l5Selector.f k s) (selV [] ((wordsL blankU [] (B s)).map ofL)) := by
  have h := spec_sel_l0 s hs s.size 0 [] (⟨#[]⟩ : ByteArray) (by omega) (by simp) (by show 0 ≤ _; omega)
  exact h
theorem impl_sel_l0 (ws : List ByteArray) (hn : ws.length ≤ 1048577) (hw : ∀ x ∈ ws, x.size ≤ 1048576 ∧ ¬ B x = []) : ∀ (m i : Nat) (acc : List S71), i + m = ws.length → acc.length ≤ i → acc.all partOk = true → (∀ x ∈ acc, sizesPart x) → Ev (fun k => impl_ReadSelector.l0 k acc ws (ws.length : Int) (i : Int)) (selW acc (ws.drop i)) := by
  intro m
  induction m with
  | zero =>
    intro i acc hi ha hp hs
    rw [List.drop_eq_nil_of_le (by omega)]
    show Ev _ (if selOk acc = true then (acc, true) else noSel)
    refine Ev.step (fun k => impl_ReadSelector.l0.eq_2 ..) (ev_if_neg (by omega) (ev_bind (impl_isSelector_wide acc (by omega) hs) ?_))
    by_cases h : selOk acc = true
    · have e : (if selOk acc = true then (acc, true) else noSel) = (acc, true) := if_pos h
      rw [e]; exact ev_if_pos h (Ev.now _)
    · have e : (if selOk acc = true then (acc, true) else noSel) = noSel := if_neg h
      rw [e]; exact ev_if_neg h (Ev.now _)
  | succ m ih =>
    intro i acc hi ha hp hs
    have hil : i < ws.length := by omega
    rw [drop_cons ws ByteArray.empty i hil]
    have hm : ws.getD i ByteArray.empty ∈ ws := by rw [List.getD_eq_getElem?_getD, List.getElem?_eq_getElem hil]; exact List.getElem_mem hil
    have hx := hw _ hm
    refine Ev.step (fun k => impl_ReadSelector.l0.eq_2 ..) (ev_if_pos (by omega) (ev_if_pos (by omega) (ev_if_pos (by omega) ?_)))
    rw [rdOf_nat]
    generalize ws.getD i ByteArray.empty = w at hx ⊢
    obtain ⟨v, e, ans⟩ := impl_readPart_ev w hx.1 hx.2
    refine ev_bind e ?_
    unfold selW
    rw [selQ]
    rcases ans with ⟨a1, a2⟩ | ⟨a1, a2⟩
    · rw [a2]
      have ok := partP_ok _ _ a2
      refine ev_if_pos a1 (ev_if_pos (by omega) ?_)
      rw [wrap_up hil (by omega)]
      exact ih (i + 1) _ (by omega) (by rw [List.length_append, List.length_cons, List.length_nil]; omega) (by rw [List.all_append, hp, List.all_cons, ok.1]; rfl) (fun x hx => by
        rcases List.mem_append.1 hx with hx | hx
        · exact hs x hx
        · rw [List.mem_singleton.1 hx]; exact ok.2)
    · rw [a2]
      exact ev_if_neg (by rw [a1]; decide) (Ev.now _)
theorem words_in (s : ByteArray) (hs : s.size ≤ 1048576) : ((wordsL blankU [] (B s)).map ofL).length ≤ 1048577 ∧ ∀ x ∈ (wordsL blankU [] (B s)).map ofL, x.size ≤ 1048576 ∧ ¬ B x = [] := by
  have h := wordsL_len blankU (B s) []
  have hB := B_len s
  refine ⟨by rw [List.length_map]; omega, fun x hx => ?_⟩
  obtain ⟨y, hy, rfl⟩ := List.mem_map.1 hx
  have h2 := h.2 y hy
  have h3 := B_len (ofL y)
  rw [B_ofL] at h3
  simp only [List.length_nil] at h2
  exact ⟨by omega, by rw [B_ofL]; exact wordsL_ne blankU _ _ y hy⟩
theorem impl_ReadSelector_ev (s : ByteArray) (hs : s.size ≤ 1048576) : Ev (fun k => impl_ReadSelector.f k s) (selW [] ((wordsL blankU [] (B s)).map ofL)) := by
  simp only [impl_ReadSelector.f]
  refine ev_bind0 (impl_fields_eq s hs) ?_
  have hw := words_in s hs
  exact impl_sel_l0 _ hw.1 hw.2 ((wordsL blankU [] (B s)).map ofL).length 0 [] (by omega) (by simp) rfl (fun x hx => by cases hx)
theorem selV_good (s : ByteArray) : ((selV [] ((wordsL blankU [] (B s)).map ofL)).2 = true → selOk (selV [] ((wordsL blankU [] (B s)).map ofL)).1 = true) ∧ (selV [] ((wordsL blankU [] (B s)).map ofL)).1.length ≤ 5 ∧ ∀ x ∈ (selV [] ((wordsL blankU [] (B s)).map ofL)).1, x.f2.length ≤ 4 := by
  rw [selV_selW _ [] rfl (by simp)]
  unfold selW
  have none_ : ((noSel : List S71 × Bool).2 = true → selOk (noSel : List S71 × Bool).1 = true) ∧ (noSel : List S71 × Bool).1.length ≤ 5 ∧ ∀ x ∈ (noSel : List S71 × Bool).1, x.f2.length ≤ 4 := ⟨(fun h => by cases h), (by show 0 ≤ 5; omega), (fun x hx => by cases hx)⟩
  cases selQ [] ((wordsL blankU [] (B s)).map ofL) with
  | none => exact none_
  | some l =>
    simp only
    split
    · rename_i h
      refine ⟨fun _ => h, ?_⟩
      unfold selOk at h
      rw [Bool.and_eq_true] at h
      refine ⟨(of_decide_eq_true h.1).2, fun x hx => ?_⟩
      have := List.all_eq_true.1 h.2 x hx
      unfold partOk at this
      rw [Bool.and_eq_true, Bool.and_eq_true, Bool.and_eq_true, Bool.and_eq_true] at this
      exact of_decide_eq_true this.1.1.2
    · exact none_

/-! rulemark -/
-- plain: Evs
def RuleOk (x : S90) : Prop := x.f0.length ≤ 1048576 ∧ (∀ y ∈ x.f0, y.length ≤ 5 ∧ ∀ z ∈ y, z.f2.length ≤ 4) ∧ x.f1.length ≤ 12
theorem mkPartsEnd_le5 : ∀ (l : List S71) (x : Int) (n : Nat), l.length ≤ n → (∀ p ∈ l, p.f2.length ≤ 4) → mkPartsEnd l x ≤ x + 6 * n
  | [], x, n, _, _ => by rw [mkPartsEnd]; omega
  | p :: t, x, n, hn, h => by
    rw [List.length_cons] at hn
    have h1 := mkPartsEnd_le5 t (x + 2 + p.f2.length) (n - 1) (by omega) (fun q hq => h q (List.mem_cons_of_mem _ hq))
    have h2 := h p List.mem_cons_self
    rw [mkPartsEnd]; omega
noncomputable def mkSels : List (List S71) → Int → List (List S71)
  | [], _ => []
  | p :: t, x => mkParts p x :: mkSels t (mkPartsEnd p x)
def mkSelsEnd : List (List S71) → Int → Int
  | [], x => x
  | p :: t, x => mkSelsEnd t (mkPartsEnd p x)
theorem mkSelsEnd_ge : ∀ (l : List (List S71)) (x : Int), x ≤ mkSelsEnd l x
  | [], x => Int.le_refl x
  | p :: t, x => by
    have h1 := mkPartsEnd_ge p x
    have h2 := mkSelsEnd_ge t (mkPartsEnd p x)
    rw [mkSelsEnd]; omega
theorem mkSelsEnd_le : ∀ (l : List (List S71)) (x : Int), (∀ y ∈ l, y.length ≤ 5 ∧ ∀ z ∈ y, z.f2.length ≤ 4) → mkSelsEnd l x ≤ x + 30 * l.length
  | [], x, _ => by rw [mkSelsEnd]; show x ≤ x + 30 * ((0 : Nat) : Int); omega
  | p :: t, x, h => by
    have h0 := h p List.mem_cons_self
    have h1 := mkPartsEnd_le5 p x 5 h0.1 h0.2
    have h2 := mkSelsEnd_le t (mkPartsEnd p x) (fun y hy => h y (List.mem_cons_of_mem _ hy))
    rw [mkSelsEnd, List.length_cons]; omega
theorem mkSels_length : ∀ (l : List (List S71)) (x : Int), (mkSels l x).length = l.length
  | [], _ => rfl
  | p :: t, x => by rw [mkSels, List.length_cons, mkSels_length t, List.length_cons]
theorem rd_mid_sel (d : List (List S71)) (p : List S71) (t : List (List S71)) : rdL_ (d ++ p :: t) (d.length : Int) = p := by simp [rdL_]
theorem rd_mid_sel' (d : List (List S71)) (p : List S71) (t : List (List S71)) : rd_L5 (d ++ p :: t) (d.length : Int) = p := by simp [rd_L5]
theorem markSels_l0 : ∀ (rest done : List (List S71)) (x : Int), 0 ≤ x → mkSelsEnd rest x ≤ 4611686018427387904 → (done ++ rest).length ≤ 9223372036854775806 → (∀ y ∈ rest, y.length ≤ 5) → Ev (fun k => laws_markPartSS.l0 k (done ++ rest) x (done.length : Int)) (mkSelsEnd rest x, done ++ mkSels rest x)
  | [], done, x, h0, h1, hn, _ => by
    rw [List.append_nil] at hn ⊢
    refine ev_done fun k => ?_
    rw [laws_markPartSS.l0, if_neg (by omega), mkSels, mkSelsEnd, List.append_nil]
  | p :: t, done, x, h0, h1, hn, h5 => by
    have hl : (done ++ p :: t).length = done.length + (t.length + 1) := by rw [List.length_append, List.length_cons]
    have hge := mkSelsEnd_ge t (mkPartsEnd p x)
    have hge2 := mkPartsEnd_ge p x
    have h50 := h5 p List.mem_cons_self
    rw [mkSelsEnd] at h1 ⊢
    refine Ev.step (fun k => laws_markPartSS.l0.eq_2 ..) (ev_if_pos (by omega) (ev_if_pos (by omega) ?_))
    rw [rd_mid_sel]
    refine ev_bind (laws_markPartS_ev p x h0 (by omega) (by omega)) ?_
    have h := markSels_l0 t (done ++ [mkParts p x]) (mkPartsEnd p x) (by omega) h1 (by rw [List.length_append, List.length_append, List.length_cons, List.length_nil]; omega) (fun y hy => h5 y (List.mem_cons_of_mem _ hy))
    rw [List.length_append, List.length_cons, List.length_nil, List.append_assoc, List.append_assoc] at h
    rw [Int.toNat_natCast, List.set_append_right _ _ (Nat.le_refl _), Nat.sub_self, List.set_cons_zero, wrap_id (x := (done.length : Int) + 1) (by omega) (by omega), cast_succ]
    exact h
theorem heldSels_l0 : ∀ (rest done : List (List S71)) (x : Int), 0 ≤ x → mkSelsEnd rest x ≤ 4611686018427387904 → (done ++ rest).length ≤ 9223372036854775806 → (∀ y ∈ rest, y.length ≤ 5) → Ev (fun k => laws_heldPartSS.l0 k (done ++ mkSels rest x) x (done.length : Int)) (mkSelsEnd rest x)
  | [], done, x, h0, h1, hn, _ => by
    rw [mkSels, List.append_nil]
    refine ev_done fun k => ?_
    rw [laws_heldPartSS.l0, if_neg (by omega), mkSelsEnd]
  | p :: t, done, x, h0, h1, hn, h5 => by
    have hl : (done ++ p :: t).length = done.length + (t.length + 1) := by rw [List.length_append, List.length_cons]
    have hge := mkSelsEnd_ge t (mkPartsEnd p x)
    have hge2 := mkPartsEnd_ge p x
    have h50 := h5 p List.mem_cons_self
    rw [mkSelsEnd] at h1 ⊢
    rw [mkSels]
    have hl2 : (done ++ mkParts p x :: mkSels t (mkPartsEnd p x)).length = done.length + (t.length + 1) := by rw [List.length_append, List.length_cons, mkSels_length]
    refine Ev.step (fun k => laws_heldPartSS.l0.eq_2 ..) (ev_if_pos (by omega) (ev_if_pos (by omega) ?_))
    rw [rd_mid_sel']
    refine ev_bind (laws_heldPartS_ev p x h0 (by omega) (by omega)) (ev_if_neg (by omega) ?_)
    have h := heldSels_l0 t (done ++ [mkParts p x]) (mkPartsEnd p x) (by omega) h1 (by rw [List.length_append, List.length_append, List.length_cons, List.length_nil]; omega) (fun y hy => h5 y (List.mem_cons_of_mem _ hy))
    rw [List.length_append, List.length_cons, List.length_nil, List.append_assoc] at h
    rw [wrap_id (x := (done.length : Int) + 1) (by omega) (by omega), cast_succ]
    exact h
noncomputable def mkRules : List S90 → Int → List S90
  | [], _ => []
  | p :: t, x => ⟨mkSels p.f0 x, markedDecl p.f1.length (mkSelsEnd p.f0 x)⟩ :: mkRules t (mkSelsEnd p.f0 x + 3 * p.f1.length)
def mkRulesEnd : List S90 → Int → Int
  | [], x => x
  | p :: t, x => mkRulesEnd t (mkSelsEnd p.f0 x + 3 * p.f1.length)
theorem mkRulesEnd_ge : ∀ (l : List S90) (x : Int), x ≤ mkRulesEnd l x
  | [], x => Int.le_refl x
  | p :: t, x => by
    have h1 := mkSelsEnd_ge p.f0 x
    have h2 := mkRulesEnd_ge t (mkSelsEnd p.f0 x + 3 * p.f1.length)
    rw [mkRulesEnd]; omega
theorem mkRulesEnd_le : ∀ (l : List S90) (x : Int), (∀ y ∈ l, RuleOk y) → mkRulesEnd l x ≤ x + 31457316 * l.length
  | [], x, _ => by rw [mkRulesEnd]; show x ≤ x + 31457316 * ((0 : Nat) : Int); omega
  | p :: t, x, h => by
    obtain ⟨a0, a1, a2⟩ := h p List.mem_cons_self
    have h1 := mkSelsEnd_le p.f0 x a1
    have h2 := mkRulesEnd_le t (mkSelsEnd p.f0 x + 3 * p.f1.length) (fun y hy => h y (List.mem_cons_of_mem _ hy))
    rw [mkRulesEnd, List.length_cons]; omega
theorem mkRules_length : ∀ (l : List S90) (x : Int), (mkRules l x).length = l.length
  | [], _ => rfl
  | p :: t, x => by rw [mkRules, List.length_cons, mkRules_length t, List.length_cons]
theorem rd_mid_rule (d : List S90) (p : S90) (t : List S90) : rd_T90 (d ++ p :: t) (d.length : Int) = p := by simp [rd_T90]
theorem markRules_l0 : ∀ (rest done : List S90) (x : Int), 0 ≤ x → mkRulesEnd rest x ≤ 4611686018427387904 → (done ++ rest).length ≤ 9223372036854775806 → (∀ y ∈ rest, RuleOk y) → Ev (fun k => laws_markRuleS.l0 k (done ++ rest) x (done.length : Int)) (mkRulesEnd rest x, done ++ mkRules rest x)
  | [], done, x, h0, h1, hn, _ => by
    rw [List.append_nil] at hn ⊢
    refine ev_done fun k => ?_
    rw [laws_markRuleS.l0, if_neg (by omega), mkRules, mkRulesEnd, List.append_nil]
  | p :: t, done, x, h0, h1, hn, h5 => by
    have hl : (done ++ p :: t).length = done.length + (t.length + 1) := by rw [List.length_append, List.length_cons]
    have hge := mkRulesEnd_ge t (mkSelsEnd p.f0 x + 3 * p.f1.length)
    have hge2 := mkSelsEnd_ge p.f0 x
    obtain ⟨a0, a1, a2⟩ := h5 p List.mem_cons_self
    rw [mkRulesEnd] at h1 ⊢
    refine Ev.step (fun k => laws_markRuleS.l0.eq_2 ..) (ev_if_pos (by omega) (ev_if_pos (by omega) ?_))
    rw [rd_mid_rule]
    refine ev_bind (markSels_l0 p.f0 [] x h0 (by omega) (by rw [List.nil_append]; omega) (fun y hy => (a1 y hy).1)) (ev_bind (laws_markDeclS_ev p.f1 (mkSelsEnd p.f0 x) (by omega) (by omega)) ?_)
    have h := markRules_l0 t (done ++ [⟨mkSels p.f0 x, markedDecl p.f1.length (mkSelsEnd p.f0 x)⟩]) (mkSelsEnd p.f0 x + 3 * p.f1.length) (by omega) h1 (by rw [List.length_append, List.length_append, List.length_cons, List.length_nil]; omega) (fun y hy => h5 y (List.mem_cons_of_mem _ hy))
    rw [List.length_append, List.length_cons, List.length_nil, List.append_assoc, List.append_assoc] at h
    rw [Int.toNat_natCast, List.set_append_right _ _ (Nat.le_refl _), Nat.sub_self, List.set_cons_zero, wrap_id (x := (done.length : Int) + 1) (by omega) (by omega), cast_succ]
    exact h
theorem heldRules_l0 : ∀ (rest done : List S90) (x : Int), 0 ≤ x → mkRulesEnd rest x ≤ 4611686018427387904 → (done ++ rest).length ≤ 9223372036854775806 → (∀ y ∈ rest, RuleOk y) → Ev (fun k => laws_heldRuleS.l0 k (done ++ mkRules rest x) x (done.length : Int)) (mkRulesEnd rest x)
  | [], done, x, h0, h1, hn, _ => by
    rw [mkRules, List.append_nil]
    refine ev_done fun k => ?_
    rw [laws_heldRuleS.l0, if_neg (by omega), mkRulesEnd]
  | p :: t, done, x, h0, h1, hn, h5 => by
    have hl : (done ++ p :: t).length = done.length + (t.length + 1) := by rw [List.length_append, List.length_cons]
    have hge := mkRulesEnd_ge t (mkSelsEnd p.f0 x + 3 * p.f1.length)
    have hge2 := mkSelsEnd_ge p.f0 x
    obtain ⟨a0, a1, a2⟩ := h5 p List.mem_cons_self
    rw [mkRulesEnd] at h1 ⊢
    rw [mkRules]
    have hl2 : (done ++ (⟨mkSels p.f0 x, markedDecl p.f1.length (mkSelsEnd p.f0 x)⟩ : S90) :: mkRules t (mkSelsEnd p.f0 x + 3 * p.f1.length)).length = done.length + (t.length + 1) := by rw [List.length_append, List.length_cons, mkRules_length]
    refine Ev.step (fun k => laws_heldRuleS.l0.eq_2 ..) (ev_if_pos (by omega) (ev_if_pos (by omega) ?_))
    rw [rd_mid_rule]
    refine ev_bind (heldSels_l0 p.f0 [] x h0 (by omega) (by rw [List.nil_append]; omega) (fun y hy => (a1 y hy).1)) (ev_if_neg (by omega) (ev_bind (laws_heldDeclS_ev p.f1.length (mkSelsEnd p.f0 x) (by omega) (by omega)) (ev_if_neg (by omega) ?_)))
    have h := heldRules_l0 t (done ++ [⟨mkSels p.f0 x, markedDecl p.f1.length (mkSelsEnd p.f0 x)⟩]) (mkSelsEnd p.f0 x + 3 * p.f1.length) (by omega) h1 (by rw [List.length_append, List.length_append, List.length_cons, List.length_nil]; omega) (fun y hy => h5 y (List.mem_cons_of_mem _ hy))
    rw [List.length_append, List.length_cons, List.length_nil, List.append_assoc] at h
    rw [wrap_id (x := (done.length : Int) + 1) (by omega) (by omega), cast_succ]
    exact h
-- two equal sheets are equal for the law
theorem eqSels_same (l : List (List S71)) (hn : l.length ≤ 1048576) (hg : ∀ x ∈ l, x.length ≤ 5 ∧ ∀ z ∈ x, z.f2.length ≤ 4) : Ev (fun k => laws_eqPartSS.f k l l) true := by
  refine Ev.congr (f := fun k => laws_eqPartSS.l0 k l l 0) (fun k => ?_) ?_
  · unfold laws_eqPartSS.f; rw [if_pos rfl]
  · refine ev_up l.length (fun i k => laws_eqPartSS.l0 k l l i) true ?_ ?_
    · refine ev_done fun k => ?_
      rw [laws_eqPartSS.l0, if_neg (by omega)]
    · intro i hi h
      have hrd : rd_L5 l (i : Int) = l.getD i [] := by simp [rd_L5]
      have hm : l.getD i [] ∈ l := by rw [List.getD_eq_getElem?_getD, List.getElem?_eq_getElem hi]; exact List.getElem_mem hi
      have hgm := hg _ hm
      refine Ev.step (fun k => by rw [laws_eqPartSS.l0, if_pos (by omega), if_pos (by omega), if_pos (by omega), hrd]) ?_
      refine ev_bind (laws_eqPartS_same _ (by have := hgm.1; omega) (fun y hy => by have := hgm.2 y hy; omega)) (ev_if_pos rfl ?_)
      rw [wrap_up hi (by omega)]; exact h
theorem eqRules_same (l : List S90) (hn : l.length ≤ 1048576) (hg : ∀ x ∈ l, RuleOk x) : Ev (fun k => laws_eqRuleS.f k l l) true := by
  refine Ev.congr (f := fun k => laws_eqRuleS.l0 k l l 0) (fun k => ?_) ?_
  · unfold laws_eqRuleS.f; rw [if_pos rfl]
  · refine ev_up l.length (fun i k => laws_eqRuleS.l0 k l l i) true ?_ ?_
    · refine ev_done fun k => ?_
      rw [laws_eqRuleS.l0, if_neg (by omega)]
    · intro i hi h
      have hrd : rd_T90 l (i : Int) = l.getD i z90 := by simp [rd_T90]
      have hm : l.getD i z90 ∈ l := by rw [List.getD_eq_getElem?_getD, List.getElem?_eq_getElem hi]; exact List.getElem_mem hi
      obtain ⟨a0, a1, a2⟩ := hg _ hm
      refine Ev.step (fun k => by rw [laws_eqRuleS.l0, if_pos (by omega), if_pos (by omega), if_pos (by omega), hrd]) ?_
      have one : Ev (fun k => laws_eqRule.f k (l.getD i z90).f0 (l.getD i z90).f1 (l.getD i z90).f0 (l.getD i z90).f1) true := by
        simp only [laws_eqRule.f]
        exact ev_bind (eqSels_same _ a0 a1) (ev_if_pos rfl (ev_bind (laws_eqDeclS_same _ (by omega)) (ev_if_pos rfl (Ev.now _))))
      refine ev_bind one (ev_if_pos rfl ?_)
      rw [wrap_up hi (by omega)]; exact h

/-! sheetread -/
-- plain: Evs Word Trim Cuts Decl Field
/-- how far the next c is. -/
def jL (c : UInt8) (u : List UInt8) : Nat := (u.takeWhile (fun x => !(x == c))).length
theorem jL_cons (c b : UInt8) (u : List UInt8) : jL c (b :: u) = if b = c then 0 else jL c u + 1 := by
  unfold jL
  rw [List.takeWhile_cons]
  by_cases h : b = c
  · rw [if_pos h, if_neg (by simp [h])]; rfl
  · rw [if_neg h, if_pos (by simp [h])]; rfl
theorem jL_le (c : UInt8) : ∀ u : List UInt8, jL c u ≤ u.length
  | [] => by unfold jL; simp
  | b :: u => by
    have := jL_le c u
    rw [jL_cons, List.length_cons]; split <;> omega
theorem jL_at (c : UInt8) : ∀ u : List UInt8, jL c u < u.length → u.drop (jL c u) = c :: u.drop (jL c u + 1)
  | [], h => by simp at h
  | b :: u, h => by
    rw [jL_cons] at h ⊢
    by_cases hb : b = c
    · rw [if_pos hb, List.drop_zero, hb]; rfl
    · rw [if_neg hb] at h ⊢
      rw [List.drop_succ_cons, List.drop_succ_cons]
      exact jL_at c u (by rw [List.length_cons] at h; omega)
theorem cut_one (c : UInt8) : ∀ u : List UInt8, Go.Lib.cut u [c] = (u.take (jL c u), u.drop (jL c u + 1), decide (jL c u < u.length))
  | [] => by rw [cut_nil [c] rfl]; rfl
  | b :: u => by
    rw [jL_cons]
    by_cases hb : b = c
    · rw [if_pos hb, cut_hit b u [c] (by simp [List.isPrefixOf, hb])]
      simp
    · rw [if_neg hb, cut_step b u [c] (by simp [List.isPrefixOf]; exact fun e => hb e.symm), cut_one c u]
      simp
theorem find_ev (s : ByteArray) (hs : s.size ≤ 1048576) (c : UInt8) : ∀ (n i : Nat), i + n = s.size → Ev (fun k => spec_l5Find.f k s (i : Int) (c.toNat : Int)) (((i + jL c ((B s).drop i) : Nat) : Int)) := by
  have hB := B_len s
  intro n
  induction n with
  | zero =>
    intro i hi
    have hd : (B s).drop i = [] := List.drop_eq_nil_of_le (by omega)
    rw [hd]
    refine Ev.congr (f := fun k => spec_l5Find.l0 k s (i : Int) (c.toNat : Int)) (fun k => rfl) ?_
    refine ev_done fun k => ?_
    rw [spec_l5Find.l0, if_neg (by omega)]
    rfl
  | succ n ih =>
    intro i hi
    have hil : i < (B s).length := by omega
    have hdrop := drop_cons (B s) 0 i hil
    refine Ev.congr (f := fun k => spec_l5Find.l0 k s (i : Int) (c.toNat : Int)) (fun k => rfl) ?_
    refine Ev.step (fun k => spec_l5Find.l0.eq_2 ..) (ev_if_pos (by omega) (ev_if_pos (by omega) ?_))
    rw [bt_U s i hil, hdrop, jL_cons]
    by_cases hc : (B s).getD i 0 = c
    · rw [if_pos hc]
      exact ev_if_pos (by rw [hc]) (Ev.now _)
    · rw [if_neg hc]
      refine ev_if_neg (fun e => hc ?_) ?_
      · have := (u8_nat (a := (B s).getD i 0) (n := c.toNat) c.toNat_lt).1 e
        rw [this]; simp
      · rw [wrap_up (show i < 1048577 by omega) (by omega)]
        have h := ih (i + 1) (by omega)
        rw [show i + (jL c ((B s).drop (i + 1)) + 1) = i + 1 + jL c ((B s).drop (i + 1)) by omega]
        exact h
/-- what a selector's text says. -/
def selB (b : ByteArray) : List S71 × Bool := selV [] ((wordsL blankU [] (B b)).map ofL)
theorem selB_good (b : ByteArray) : (selB b).1.length ≤ 5 ∧ ∀ x ∈ (selB b).1, x.f2.length ≤ 4 := (selV_good b).2
theorem selB_spec (b : ByteArray) (hb : b.size ≤ 1048576) : Ev (fun k => spec_l5Selector.f k b) (selB b) := spec_l5Selector_ev b hb
theorem selB_impl (b : ByteArray) (hb : b.size ≤ 1048576) : Ev (fun k => impl_ReadSelector.f k b) (selB b) := by
  have e2 := impl_ReadSelector_ev b hb
  rw [← selV_selW _ [] rfl (by simp)] at e2
  exact e2
theorem selectors_l0 (ps : List ByteArray) (hn : ps.length ≤ 1048577) (hs : ∀ x ∈ ps, x.size ≤ 1048576) : ∀ (m i : Nat) (acc : List (List S71)), i + m = ps.length → acc.length ≤ i →
    Ev (fun k => impl_readSelectors.l0 k acc ps (ps.length : Int) (i : Int)) (if (ps.drop i).all (fun b => (selB b).2) = true then (acc ++ (ps.drop i).map (fun b => (selB b).1), true) else ([], false)) := by
  intro m
  induction m with
  | zero =>
    intro i acc hi ha
    rw [List.drop_eq_nil_of_le (by omega)]
    refine ev_done fun k => ?_
    rw [impl_readSelectors.l0, if_neg (by omega)]
    simp
  | succ m ih =>
    intro i acc hi ha
    have hil : i < ps.length := by omega
    have hmem : ps.getD i ByteArray.empty ∈ ps := by rw [List.getD_eq_getElem?_getD, List.getElem?_eq_getElem hil]; exact List.getElem_mem hil
    rw [drop_cons ps ByteArray.empty i hil, List.all_cons, List.map_cons]
    refine Ev.step (fun k => impl_readSelectors.l0.eq_2 ..) (ev_if_pos (by omega) (ev_if_pos (by omega) (ev_if_pos (by omega) ?_)))
    rw [rdOf_nat]
    refine ev_bind (selB_impl _ (hs _ hmem)) ?_
    by_cases hok : (selB (ps.getD i ByteArray.empty)).2 = true
    · refine ev_if_pos hok (ev_if_pos (by omega) ?_)
      have h := ih (i + 1) (acc ++ [(selB (ps.getD i ByteArray.empty)).1]) (by omega) (by simp; omega)
      rw [wrap_up hil (by omega), hok, Bool.true_and]
      rw [List.append_assoc] at h
      exact h
    · refine ev_if_neg hok ?_
      rw [Bool.eq_false_iff.mpr hok, Bool.false_and, if_neg (by decide)]
      exact Ev.now _
/-- the reference's loop over a head's pieces. -/
theorem sheet_l1 (s : ByteArray) (out : List S90) (e : Int) (ds : List S123) (r : List S90) (ps : List ByteArray) (hn : ps.length ≤ 1048577) (hs : ∀ x ∈ ps, x.size ≤ 1048576) : ∀ (m i : Nat) (acc : List (List S71)) (good : Bool), i + m = ps.length → acc.length ≤ i →
    Ev (fun k => if (good && (ps.drop i).all (fun b => (selB b).2)) = true then (if (out.length : Int) < 30 then (if out.length < 2932031007402 then (spec_l5Sheet.l0 k s (out ++ [(⟨acc ++ (ps.drop i).map (fun b => (selB b).1), ds⟩ : S90)]) (wrap64 (e + 1))) else (none)) else (spec_l5Sheet.l0 k s out (wrap64 (e + 1)))) else (spec_l5Sheet.l0 k s out (wrap64 (e + 1)))) r →
    Ev (fun k => spec_l5Sheet.l1 k s out e good ps (ps.length : Int) (i : Int) acc ds) r := by
  intro m
  induction m with
  | zero =>
    intro i acc good hi ha h
    rw [List.drop_eq_nil_of_le (by omega), List.all_nil, Bool.and_true, List.map_nil, List.append_nil] at h
    refine Ev.step (fun k => spec_l5Sheet.l1.eq_2 ..) (ev_if_neg (by omega) ?_)
    exact h
  | succ m ih =>
    intro i acc good hi ha h
    have hil : i < ps.length := by omega
    have hmem : ps.getD i ByteArray.empty ∈ ps := by rw [List.getD_eq_getElem?_getD, List.getElem?_eq_getElem hil]; exact List.getElem_mem hil
    rw [drop_cons ps ByteArray.empty i hil, List.all_cons, List.map_cons] at h
    refine Ev.step (fun k => spec_l5Sheet.l1.eq_2 ..) (ev_if_pos (by omega) (ev_if_pos (by omega) (ev_if_pos (by omega) ?_)))
    rw [rdOf_nat]
    refine ev_bind (selB_spec _ (hs _ hmem)) ?_
    rw [wrap_up hil (by omega)]
    cases good with
    | true =>
      refine ev_if_pos rfl (ev_if_pos (by omega) (ih (i + 1) _ _ (by omega) (by simp; omega) ?_))
      rw [Bool.true_and] at h
      rw [List.append_assoc]
      exact h
    | false =>
      refine ev_if_neg (by decide) (ev_if_pos (by omega) (ih (i + 1) _ _ (by omega) (by simp; omega) ?_))
      rw [Bool.false_and] at h ⊢
      rw [List.append_assoc]
      exact h

/-! sheetloop -/
-- plain: Evs Word Trim Cuts Decl Field
set_option maxHeartbeats 4000000 in
theorem sheet_loop (s : ByteArray) (hs : s.size ≤ 1048576) : ∀ (n i : Nat) (out : List S90), s.size + 1 ≤ i + n → i ≤ s.size + 1 → out.length ≤ 30 → (∀ x ∈ out, RuleOk x) →
    ∃ r : List S90, Ev (fun k => spec_l5Sheet.l0 k s out (i : Int)) r ∧ Ev (fun k => impl_ReadSheet.l0 k (ofL ((B s).drop i)) out) (r, true) ∧ r.length ≤ 30 ∧ ∀ x ∈ r, RuleOk x := by
  have hB := B_len s
  have hex : ∀ a i : Nat, s.extract (a : Int).toNat (i : Int).toNat = ofL (((B s).drop a).take (i - a)) := by
    intro a i
    rw [Int.toNat_natCast, Int.toNat_natCast]
    exact B_ext (by rw [B_extract, B_ofL])
  have stop : ∀ (i : Nat) (out : List S90), jL 123 ((B s).drop i) = (B s).length - i → Ev (fun k => impl_ReadSheet.l0 k (ofL ((B s).drop i)) out) (out, true) := by
    intro i out hj
    refine Ev.step (fun k => impl_ReadSheet.l0.eq_2 ..) ?_
    refine ev_bind0 (strings_Cut_eq _ _ (by rw [← B_len, B_ofL, List.length_drop]; omega)) ?_
    rw [B_ofL, show B (⟨#[123]⟩ : ByteArray) = [123] from rfl, cut_one]
    exact ev_if_neg (by rw [decide_eq_true_iff, hj, List.length_drop]; exact Nat.lt_irrefl _) (Ev.now _)
  intro n
  induction n with
  | zero =>
    intro i out h1 h2 h3 h4
    refine ⟨out, ?_, stop i out (by rw [List.drop_eq_nil_of_le (by omega)]; show 0 = _; omega), h3, h4⟩
    exact Ev.step (fun k => spec_l5Sheet.l0.eq_2 ..) (ev_if_neg (by omega) (Ev.now _))
  | succ n ih =>
    intro i out h1 h2 h3 h4
    by_cases hi : i < s.size
    · have hu : ((B s).drop i).length = s.size - i := by rw [List.length_drop, hB]
      have hj := jL_le 123 ((B s).drop i)
      rw [hu] at hj
      have hf := find_ev s hs 123 (s.size - i) i (by omega)
      by_cases hjl : jL 123 ((B s).drop i) = s.size - i
      · refine ⟨out, ?_, stop i out (by rw [hB]; exact hjl), h3, h4⟩
        refine Ev.step (fun k => spec_l5Sheet.l0.eq_2 ..) (ev_if_pos (by omega) (ev_bind hf (ev_if_pos (by omega) (Ev.now _))))
      · have hat := jL_at 123 ((B s).drop i) (by rw [hu]; omega)
        rw [List.drop_drop, List.drop_drop] at hat
        have hcut := cut_one 123 ((B s).drop i)
        rw [hu] at hcut
        clear hu
        generalize jL 123 ((B s).drop i) = j at hj hf hjl hat hcut
        have hf2 := find_ev s hs 125 (s.size - (i + j)) (i + j) (by omega)
        rw [hat, jL_cons, if_neg (by decide)] at hf2
        have hj2 := jL_le 125 ((B s).drop (i + (j + 1)))
        have hu2 : ((B s).drop (i + (j + 1))).length = s.size - (i + (j + 1)) := by rw [List.length_drop, hB]
        have hcut2 := cut_one 125 ((B s).drop (i + (j + 1)))
        rw [hu2] at hj2 hcut2
        clear hu2
        generalize jL 125 ((B s).drop (i + (j + 1))) = j2 at hj2 hf2 hcut2
        have n1 : j + 1 ≤ 1048576 := by omega
        have n2 : j2 ≤ 1048576 := by omega
        have q1 : ((i + j : Nat) : Int) + 1 = ((i + (j + 1) : Nat) : Int) := by omega
        have q2 : ((i + j + (j2 + 1) : Nat) : Int) + 1 = ((i + (j + 1) + (j2 + 1) : Nat) : Int) := by omega
        have w1 : Aside0 (wrap64 (((i + j : Nat) : Int) + 1) = ((i + (j + 1) : Nat) : Int)) := ⟨(congrArg wrap64 q1).trans (wrap_id (by omega) (by omega))⟩
        have w2 : Aside0 (wrap64 (((i + j + (j2 + 1) : Nat) : Int) + 1) = ((i + (j + 1) + (j2 + 1) : Nat) : Int)) := ⟨(congrArg wrap64 q2).trans (wrap_id (by omega) (by omega))⟩
        clear q1 q2
        have hz1 : (ofL (((B s).drop i).take j)).size ≤ 1048576 := by rw [← B_len, B_ofL]; exact Nat.le_trans (List.length_take_le _ _) (Nat.le_of_succ_le n1)
        have hz2 : (ofL (((B s).drop (i + (j + 1))).take j2)).size ≤ 1048576 := by rw [← B_len, B_ofL]; exact Nat.le_trans (List.length_take_le _ _) n2
        obtain ⟨ds, d1, d2, d3⟩ := decls_both (ofL (((B s).drop (i + (j + 1))).take j2)) hz2
        have hsp := splitL_len 44 (((B s).drop i).take j)
        have htl : (((B s).drop i).take j).length ≤ j := List.length_take_le _ _
        have hps3 : ((splitL 44 (((B s).drop i).take j)).map ofL).length ≤ 1048576 := by rw [List.length_map]; exact Nat.le_trans hsp.1 (Nat.le_trans (Nat.succ_le_succ htl) n1)
        have hps1 : ((splitL 44 (((B s).drop i).take j)).map ofL).length ≤ 1048577 := Nat.le_succ_of_le hps3
        have hps2 : ∀ x ∈ (splitL 44 (((B s).drop i).take j)).map ofL, x.size ≤ 1048576 := fun x hx => by
          obtain ⟨y, hy, rfl⟩ := List.mem_map.1 hx
          rw [← B_len, B_ofL]
          exact Nat.le_trans (hsp.2 y hy) (Nat.le_trans htl (Nat.le_of_succ_le n1))
        have sp1 := spec_l1Split_ev (ofL (((B s).drop i).take j)) hz1 44
        have sp2 := strings_Split_one (ofL (((B s).drop i).take j)) (Nat.lt_of_le_of_lt hz1 (by decide)) 44
        clear hsp htl
        rw [B_ofL] at sp1 sp2
        generalize (splitL 44 (((B s).drop i).take j)).map ofL = ps at hps1 hps2 hps3 sp1 sp2
        have key : ∀ r : List S90, Ev (fun k => if ((true : Bool) && (ps.drop 0).all (fun b => (selB b).2)) = true then (if (out.length : Int) < 30 then (if out.length < 2932031007402 then (spec_l5Sheet.l0 k s (out ++ [(⟨[] ++ (ps.drop 0).map (fun b => (selB b).1), ds⟩ : S90)]) (wrap64 (((i + j + (j2 + 1) : Nat) : Int) + 1))) else (none)) else (spec_l5Sheet.l0 k s out (wrap64 (((i + j + (j2 + 1) : Nat) : Int) + 1)))) else (spec_l5Sheet.l0 k s out (wrap64 (((i + j + (j2 + 1) : Nat) : Int) + 1)))) r → Ev (fun k => spec_l5Sheet.l0 k s out (i : Int)) r := by
          intro r hr
          refine Ev.step (fun k => spec_l5Sheet.l0.eq_2 ..) (ev_if_pos (by omega) (ev_bind hf (ev_if_neg (by omega) (ev_bind hf2 ?_))))
          rw [w1.out, hex, hex, show i + j + (j2 + 1) - (i + (j + 1)) = j2 by omega, show i + j - i = j by omega]
          refine ev_if_pos (by omega) (ev_if_pos (by omega) (ev_if_pos (by omega) (ev_bind d1 (ev_if_pos (by omega) (ev_if_pos (by omega) (ev_if_pos (by omega) (ev_bind sp1 ?_)))))))
          exact sheet_l1 s out _ ds r ps hps1 hps2 ps.length 0 [] true (by omega) (by simp) hr
        have key2 : ∀ r : List S90, Ev (fun k => if ((if (ps.drop 0).all (fun b => (selB b).2) = true then ([] ++ (ps.drop 0).map (fun b => (selB b).1), true) else ([], false)) : List (List S71) × Bool).2 = true then (if (out.length : Int) < 30 then ((impl_readDecls.f k (ofL (((B s).drop (i + (j + 1))).take j2))).bind fun t => (if out.length < 2932031007402 then (impl_ReadSheet.l0 k (ofL ((B s).drop (i + (j + 1) + (j2 + 1)))) (out ++ [(⟨((if (ps.drop 0).all (fun b => (selB b).2) = true then ([] ++ (ps.drop 0).map (fun b => (selB b).1), true) else ([], false)) : List (List S71) × Bool).1, t⟩ : S90)])) else (none))) else (impl_ReadSheet.l0 k (ofL ((B s).drop (i + (j + 1) + (j2 + 1)))) out)) else (impl_ReadSheet.l0 k (ofL ((B s).drop (i + (j + 1) + (j2 + 1)))) out)) (r, true) → Ev (fun k => impl_ReadSheet.l0 k (ofL ((B s).drop i)) out) (r, true) := by
          intro r hr
          refine Ev.step (fun k => impl_ReadSheet.l0.eq_2 ..) ?_
          refine ev_bind0 (strings_Cut_eq _ _ (by rw [← B_len, B_ofL, List.length_drop, hB]; omega)) ?_
          rw [B_ofL, show B (⟨#[123]⟩ : ByteArray) = [123] from rfl, hcut]
          refine ev_if_pos (decide_eq_true (by omega)) ?_
          refine ev_bind0 (strings_Cut_eq _ _ (by rw [← B_len, B_ofL, List.length_drop, List.length_drop, hB]; omega)) ?_
          rw [B_ofL, show B (⟨#[125]⟩ : ByteArray) = [125] from rfl, List.drop_drop, hcut2]
          have hsel : Ev (fun k => impl_readSelectors.f k (ofL (((B s).drop i).take j))) (if (ps.drop 0).all (fun b => (selB b).2) = true then ([] ++ (ps.drop 0).map (fun b => (selB b).1), true) else ([], false)) := by
            simp only [impl_readSelectors.f]
            exact ev_bind0 sp2 (selectors_l0 ps hps1 hps2 ps.length 0 [] (by omega) (by simp))
          refine ev_bind hsel ?_
          rw [List.drop_drop]
          exact hr
        rw [w2.out] at key
        have hnext : s.size + 1 ≤ (i + (j + 1) + (j2 + 1)) + n := by omega
        have hnext2 : i + (j + 1) + (j2 + 1) ≤ s.size + 1 := by omega
        by_cases hall : (ps.drop 0).all (fun b => (selB b).2) = true
        · by_cases hl : (out.length : Int) < 30
          · have hok : RuleOk (⟨[] ++ (ps.drop 0).map (fun b => (selB b).1), ds⟩ : S90) := by
              refine ⟨?_, ?_, d3⟩
              · simp; omega
              · intro y hy
                rw [List.nil_append] at hy
                obtain ⟨b, _, rfl⟩ := List.mem_map.1 hy
                exact selB_good b
            obtain ⟨r, r1, r2, r3, r4⟩ := ih (i + (j + 1) + (j2 + 1)) (out ++ [(⟨[] ++ (ps.drop 0).map (fun b => (selB b).1), ds⟩ : S90)]) hnext hnext2 (by simp; omega) (fun x hx => by
              rcases List.mem_append.1 hx with hx | hx
              · exact h4 x hx
              · rw [List.mem_singleton.1 hx]; exact hok)
            refine ⟨r, key r (ev_if_pos (by rw [hall]; rfl) (ev_if_pos hl (ev_if_pos (by omega) r1))), key2 r ?_, r3, r4⟩
            rw [if_pos hall]
            exact ev_if_pos rfl (ev_if_pos hl (ev_bind d2 (ev_if_pos (by omega) r2)))
          · obtain ⟨r, r1, r2, r3, r4⟩ := ih (i + (j + 1) + (j2 + 1)) out hnext hnext2 h3 h4
            refine ⟨r, key r (ev_if_pos (by rw [hall]; rfl) (ev_if_neg hl r1)), key2 r ?_, r3, r4⟩
            rw [if_pos hall]
            exact ev_if_pos rfl (ev_if_neg hl r2)
        · obtain ⟨r, r1, r2, r3, r4⟩ := ih (i + (j + 1) + (j2 + 1)) out hnext hnext2 h3 h4
          refine ⟨r, key r (ev_if_neg (by rw [Bool.true_and]; exact hall) r1), key2 r ?_, r3, r4⟩
          rw [if_neg hall]
          exact ev_if_neg (by decide) r2
    · refine ⟨out, ?_, stop i out (by rw [List.drop_eq_nil_of_le (by omega)]; show 0 = _; omega), h3, h4⟩
      exact Ev.step (fun k => spec_l5Sheet.l0.eq_2 ..) (ev_if_neg (by omega) (Ev.now _))
theorem sheet_both (s : ByteArray) (hs : s.size ≤ 1048576) : ∃ r : List S90 × Bool, Ev (fun k => spec_ReadSheet.f k s) r ∧ Ev (fun k => impl_ReadSheet.f k s) r ∧ r.1.length ≤ 30 ∧ ∀ x ∈ r.1, RuleOk x := by
  by_cases h6 : (s.size : Int) > 1500
  · refine ⟨([], false), ?_, ?_, by simp, by simp⟩
    · simp only [spec_ReadSheet.f]; exact ev_if_pos h6 (Ev.now _)
    · simp only [impl_ReadSheet.f]; exact ev_if_pos h6 (Ev.now _)
  · have hb := bare_len _ (B s) (Nat.le_refl _)
    rw [B_len] at hb
    have hz : (ofL (bare (B s))).size ≤ 1048576 := by rw [← B_len, B_ofL]; omega
    obtain ⟨r, h1, h2, h3, h4⟩ := sheet_loop (ofL (bare (B s))) hz ((ofL (bare (B s))).size + 1) 0 [] (by omega) (by omega) (by simp) (by simp)
    refine ⟨(r, true), ?_, ?_, h3, h4⟩
    · simp only [spec_ReadSheet.f, spec_l5Sheet.f]
      exact ev_if_neg h6 (ev_bind (ev_bind (spec_l5Bare_ev s (by omega)) h1) (Ev.now _))
    · simp only [impl_ReadSheet.f]
      rw [List.drop_zero, B_ofL] at h2
      exact ev_if_neg h6 (ev_bind (impl_withoutComments_ev s (by omega)) h2)

end Go.Proofs.YtooilehdljeepaaDoor.Pure
