/- ReadStyle: the program's ReadStyle answers as the reference's at every text, and its answer owns its memory; no condition. -/
import Derived.Test.YtganmdnieihpeaaDoorPFnExactReadStylex8
import Derived.Test.YtganmdnieihpeaaDoorPlain
import Derived.Test.YtganmdnieihpeaaDoorEvs
import Derived.Test.YtganmdnieihpeaaDoorStr
import Derived.Test.YtganmdnieihpeaaDoorWord
import Derived.Test.YtganmdnieihpeaaDoorTrim
import Derived.Test.YtganmdnieihpeaaDoorCuts
import Derived.Test.YtganmdnieihpeaaDoorDecl
set_option linter.unusedVariables false
set_option linter.unusedSimpArgs false
namespace Go.Proofs.YtganmdnieihpeaaDoor.Pure
open Go.RowKit Go.Proofs.YtganmdnieihpeaaDoor.PFnExactReadStyle Go.Proofs.YtganmdnieihpeaaDoorW.PrintWords Go.Proofs.YtganmdnieihpeaaDoorW.PrintLast Go.Proofs.YtganmdnieihpeaaDoorW.PrintMore Go.Proofs.YtganmdnieihpeaaDoor.Plain

/-! spec_l1Split -/
-- plain: Evs Trim Cuts Word
theorem l1Split_l0 (s : ByteArray) (hs : s.size ≤ 1048576) (c : UInt8) : ∀ (n i a : Nat) (acc : List ByteArray), i + n = s.size → a ≤ i → acc.length ≤ i → Ev (fun k => spec_l1Split.l0 k s (c.toNat : Int) acc a i) (acc ++ (ofL (((B s).drop a).take (i - a) ++ (splitL c ((B s).drop i)).headD []) :: ((splitL c ((B s).drop i)).tail.map ofL))) := by
  have hB := B_len s
  have hex : ∀ a i : Nat, s.extract (a : Int).toNat (i : Int).toNat = ofL (((B s).drop a).take (i - a)) := by
    intro a i
    rw [Int.toNat_natCast, Int.toNat_natCast]
    exact B_ext (by rw [B_extract, B_ofL])
  intro n
  induction n with
  | zero =>
    intro i a acc h1 h2 h3
    have hd : (B s).drop i = [] := List.drop_eq_nil_of_le (by omega)
    rw [hd]
    refine Ev.step (fun k => by rw [spec_l1Split.l0]) ?_
    refine ev_if_pos (by omega) (ev_if_pos (by omega) (ev_if_pos (by omega) (ev_if_pos (by omega) (ev_if_pos (by omega) ?_))))
    rw [wrap_id (by omega) (by omega), hex]
    refine ev_done fun k => ?_
    rw [spec_l1Split.l0, if_neg (by omega)]
    simp [splitL]
  | succ n ih =>
    intro i a acc h1 h2 h3
    have hi : i < (B s).length := by omega
    have hdrop := drop_cons (B s) 0 i hi
    refine Ev.step (fun k => by rw [spec_l1Split.l0]) ?_
    refine ev_if_pos (by omega) (ev_if_neg (by omega) (ev_if_pos (by omega) (ev_if_pos (by omega) ?_)))
    rw [bt_U s i hi, wrap_up (show i < 1048577 by omega) (by omega), hdrop]
    by_cases hc : (B s).getD i 0 = c
    · refine ev_if_pos (by rw [hc]) (ev_if_pos (by omega) (ev_if_pos (by omega) (ev_if_pos (by omega) ?_)))
      rw [hex]
      have h := ih (i + 1) (i + 1) (acc ++ [ofL (((B s).drop a).take (i - a))]) (by omega) (Nat.le_refl _) (by simp; omega)
      rw [splitL, if_pos hc]
      rw [Nat.sub_self, List.take_zero, List.nil_append] at h
      have hne := splitL_ne c ((B s).drop (i + 1))
      cases hsp : splitL c ((B s).drop (i + 1)) with
      | nil => exact absurd hsp hne
      | cons x xs => rw [hsp] at h; simpa using h
    · refine ev_if_neg (fun e => hc ?_) ?_
      · have := (u8_nat (a := (B s).getD i 0) (n := c.toNat) c.toNat_lt).1 e
        rw [this]; simp
      · have h := ih (i + 1) a acc (by omega) (by omega) (by omega)
        rw [splitL, if_neg hc]
        have ht : ((B s).drop a).take (i + 1 - a) = ((B s).drop a).take (i - a) ++ [(B s).getD i 0] := by
          rw [show i + 1 - a = (i - a) + 1 by omega, List.take_add_one, List.getElem?_drop, show a + (i - a) = i by omega, List.getElem?_eq_getElem hi]
          simp [List.getD_eq_getElem?_getD, List.getElem?_eq_getElem hi]
        rw [ht] at h
        simpa using h
theorem spec_l1Split_ev (s : ByteArray) (hs : s.size ≤ 1048576) (c : UInt8) : Ev (fun k => spec_l1Split.f k s (c.toNat : Int)) ((splitL c (B s)).map ofL) := by
  have h := l1Split_l0 s hs c s.size 0 0 [] (by omega) (Nat.le_refl _) (by simp)
  refine Ev.congr (f := fun k => spec_l1Split.l0 k s (c.toNat : Int) [] 0 0) (fun k => rfl) ?_
  have hne := splitL_ne c (B s)
  cases hsp : splitL c (B s) with
  | nil => exact absurd hsp hne
  | cons x xs => rw [List.drop_zero, hsp] at h; simpa using h

/-! spec_l1In -/
theorem spec_l1In_eq (a b c : Int) : spec_l1In.f a b c = some (decide (b ≤ a ∧ a ≤ c)) := by
  unfold spec_l1In.f
  split
  · rename_i h; simp [show b ≤ a from h]
  · rename_i h; simp [show ¬ b ≤ a from h]

/-! spec_l4Blank -/
-- plain: Trim
theorem spec_l4Blank_eq (c : UInt8) : spec_l4Blank.f (c.toNat : Int) = some (blankU c) := by
  unfold spec_l4Blank.f blankU
  have e : ∀ n : Nat, n < 256 → (((c.toNat : Int) = (n : Int)) ↔ c = UInt8.ofNat n) := fun n hn => u8_nat hn
  by_cases h9 : c = 9
  · subst h9; rfl
  · rw [if_neg (by rw [show (9 : Int) = ((9 : Nat) : Int) from rfl, e 9 (by omega)]; exact h9)]
    by_cases h10 : c = 10
    · subst h10; rfl
    · rw [if_neg (by rw [show (10 : Int) = ((10 : Nat) : Int) from rfl, e 10 (by omega)]; exact h10)]
      by_cases h13 : c = 13
      · subst h13; rfl
      · rw [if_neg (by rw [show (13 : Int) = ((13 : Nat) : Int) from rfl, e 13 (by omega)]; exact h13)]
        by_cases h32 : c = 32
        · subst h32; rfl
        · have h1 : ((c.toNat : Int) == 32) = false := beq_eq_false_iff_ne.mpr (by rw [show (32 : Int) = ((32 : Nat) : Int) from rfl]; exact fun h => h32 ((e 32 (by omega)).1 h))
          rw [h1]
          simp [h9, h10, h13, h32]

/-! spec_l5Trim -/
-- plain: Evs Trim
theorem l5Trim_right : ∀ (n : Nat) (s : ByteArray), s.size = n → n ≤ 1048576 → Ev (fun k => spec_l5Trim.l1 k s) (ofL (dropR (B s))) := by
  intro n
  induction n with
  | zero =>
    intro s hs _
    have e : B s = [] := List.length_eq_zero_iff.mp (by rw [B_len]; exact hs)
    refine Ev.step (fun k => spec_l5Trim.l1.eq_2 ..) (ev_if_neg (by omega) ?_)
    have e2 : ofL (dropR (B s)) = s := by rw [e, dropR_nil, ← e, ofL_B]
    rw [e2]; exact Ev.now _
  | succ n ih =>
    intro s hs hn
    have hl := B_len s
    refine Ev.step (fun k => spec_l5Trim.l1.eq_2 ..) (ev_if_pos (by omega) ?_)
    rw [wrap_id (x := (s.size : Int) - 1) (by omega) (by omega), show (s.size : Int) - 1 = (n : Int) by omega]
    refine ev_if_pos (by omega) (ev_if_pos (by omega) ?_)
    rw [bt_U s n (by omega)]
    refine ev_bind0 (spec_l4Blank_eq _) ?_
    have hsplit : B s = (B s).take n ++ [(B s).getD n 0] := by
      have h1 := List.take_append_drop n (B s)
      rw [drop_cons (B s) 0 n (by omega), List.drop_eq_nil_of_le (by omega)] at h1
      exact h1.symm
    have hR : dropR (B s) = if blankU ((B s).getD n 0) = true then dropR ((B s).take n) else B s := by
      have h1 := dropR_snoc ((B s).take n) ((B s).getD n 0)
      rw [← hsplit] at h1
      exact h1
    rw [hR]
    by_cases hb : blankU ((B s).getD n 0) = true
    · rw [if_pos hb]
      refine ev_if_pos hb (ev_if_pos (by omega) ?_)
      rw [Int.toNat_natCast]
      have hB : B (s.extract 0 n) = (B s).take n := by rw [B_extract]; simp
      have h2 := ih (s.extract 0 n) (by rw [← B_len, hB, List.length_take]; omega) (by omega)
      rw [hB] at h2
      exact h2
    · rw [if_neg hb, ofL_B]
      exact ev_if_neg hb (Ev.now _)
theorem l5Trim_left : ∀ (n : Nat) (s : ByteArray), s.size = n → n ≤ 1048576 → Ev (fun k => spec_l5Trim.l0 k s) (ofL (dropR (dropL (B s)))) := by
  intro n
  induction n with
  | zero =>
    intro s hs hn
    have e : B s = [] := List.length_eq_zero_iff.mp (by rw [B_len]; exact hs)
    have h := l5Trim_right 0 s hs hn
    have e2 : dropL (B s) = B s := by rw [e]; rfl
    rw [e2]
    exact Ev.step (fun k => spec_l5Trim.l0.eq_2 ..) (ev_if_neg (by omega) (Ev.step (fun k => spec_l5Trim.j1.eq_2 ..) h))
  | succ n ih =>
    intro s hs hn
    have hl := B_len s
    refine Ev.step (fun k => spec_l5Trim.l0.eq_2 ..) (ev_if_pos (by omega) (ev_if_pos (by omega) ?_))
    rw [show bt s 0 = _ from bt_U s 0 (by omega)]
    refine ev_bind0 (spec_l4Blank_eq _) ?_
    have hsplit : B s = (B s).getD 0 0 :: (B s).drop 1 := by
      have h1 := drop_cons (B s) 0 0 (by omega)
      rw [List.drop_zero] at h1
      exact h1
    by_cases hb : blankU ((B s).getD 0 0) = true
    · refine ev_if_pos hb (ev_if_pos (by omega) ?_)
      have hB : B (s.extract 1 s.size) = (B s).drop 1 := by
        rw [B_extract, List.take_of_length_le (by rw [List.length_drop]; omega)]
      have h2 := ih (s.extract 1 s.size) (by rw [← B_len, hB, List.length_drop]; omega) (by omega)
      rw [hB] at h2
      have e : dropL (B s) = dropL ((B s).drop 1) := by
        rw [hsplit]; unfold dropL; rw [List.dropWhile_cons, if_pos (by simpa using hb)]; simp
      rw [e]
      exact h2
    · have e : dropL (B s) = B s := by
        rw [hsplit]; unfold dropL; rw [List.dropWhile_cons, if_neg (by simpa using hb)]
      rw [e]
      exact ev_if_neg hb (Ev.step (fun k => spec_l5Trim.j1.eq_2 ..) (l5Trim_right (n + 1) s hs hn))
/-- a text without blanks around it. -/
def trimP (s : ByteArray) : ByteArray := ofL (dropR (dropL (B s)))
theorem trimP_size (s : ByteArray) : (trimP s).size ≤ s.size := by
  rw [← B_len, ← B_len]
  unfold trimP
  rw [B_ofL]
  exact Nat.le_trans (dropR_len _) (dropL_len _)
theorem spec_l5Trim_ev (s : ByteArray) (hs : s.size ≤ 1048576) : Ev (fun k => spec_l5Trim.f k s) (trimP s) := l5Trim_left s.size s rfl hs

/-! spec_l1Digit -/
-- plain: Word
theorem spec_l1Digit_eq (c : Int) : spec_l1Digit.f c = some (digI c) := by
  unfold spec_l1Digit.f digI
  split
  · rename_i h; congr 1; rw [decide_eq_decide]; omega
  · rename_i h; congr 1; rw [eq_comm, decide_eq_false_iff_not]; omega

/-! spec_l4Letter -/
-- plain: Word
theorem spec_l4Letter_eq (c : Int) : spec_l4Letter.f c = some (ltrI c || decide (c = 95)) := by
  have hb : (c == 95) = decide (c = 95) := by rw [Bool.eq_iff_iff]; simp
  unfold spec_l4Letter.f
  rw [hb]
  unfold ltrI
  by_cases h1 : (97 ≤ c ∧ c ≤ 122)
  · rw [if_pos h1.1, if_pos h1.2, decide_eq_true (p := (97 ≤ c ∧ c ≤ 122) ∨ (65 ≤ c ∧ c ≤ 90)) (.inl h1)]; rfl
  · by_cases h2 : (65 ≤ c ∧ c ≤ 90)
    · rw [decide_eq_true (p := (97 ≤ c ∧ c ≤ 122) ∨ (65 ≤ c ∧ c ≤ 90)) (.inr h2), Bool.true_or]
      by_cases h3 : c ≥ 97
      · omega
      · rw [if_neg h3, if_pos h2.1, if_pos h2.2]
    · rw [decide_eq_false (p := (97 ≤ c ∧ c ≤ 122) ∨ (65 ≤ c ∧ c ≤ 90)) (by omega), Bool.false_or]
      by_cases h3 : c ≥ 97
      · rw [if_pos h3, if_neg (by omega), if_pos (by omega), if_neg (by omega)]
      · rw [if_neg h3]
        by_cases h4 : c ≥ 65
        · rw [if_pos h4, if_neg (by omega)]
        · rw [if_neg h4]

/-! spec_l5Start -/
-- plain: Word
theorem spec_l5Start_eq (c : Int) : spec_l5Start.f c = some (ltrI c || decide (c = 95) || decide (c = 45)) := by
  have hb : (c == 45) = decide (c = 45) := by rw [Bool.eq_iff_iff]; simp
  unfold spec_l5Start.f
  rw [spec_l4Letter_eq, Option.bind_some, hb]
  split
  · rename_i h; rw [h, Bool.true_or]
  · rename_i h; rw [Bool.not_eq_true] at h; rw [h, Bool.false_or]

/-! spec_l5Inner -/
-- plain: Word
theorem spec_l5Inner_eq (c : Int) : spec_l5Inner.f c = some (wordI c) := by
  unfold spec_l5Inner.f
  rw [spec_l5Start_eq, Option.bind_some, spec_l1Digit_eq, Option.bind_some]
  unfold wordI
  generalize ltrI c = a; generalize digI c = b; generalize decide (c = 95) = d; generalize decide (c = 45) = e
  cases a <;> cases b <;> cases d <;> cases e <;> rfl

/-! spec_l5Run -/
-- plain: Word
def runL (l : List UInt8) : Nat := if runEnd wordU l 0 = 0 then 0 else if digU (l.getD 0 0) = true then 0 else if runEnd wordU l 0 > 30 then 0 else runEnd wordU l 0
theorem spec_l5Run_ev (s : ByteArray) (hs : s.size ≤ 9223372036854775806) : Ev (fun k => spec_l5Run.f k s) ((runL (B s) : Nat) : Int) := by
  refine Ev.congr (f := fun k => spec_l5Run.l0 k s 0) (fun k => rfl) ?_
  have hl := B_len s
  have fin : ∀ e : Nat, e ≤ (B s).length → ∀ k : Nat, (if (e : Int) = 0 then (some (0 : Int)) else (if 0 < (s.size : Int) then ((spec_l1Digit.f (bt s 0)).bind fun t => (if t = true then (some 0) else (if (e : Int) > 30 then (some 0) else (some (e : Int))))) else (none))) =
      some (((if e = 0 then 0 else if digU ((B s).getD 0 0) = true then 0 else if e > 30 then 0 else e : Nat) : Nat) : Int) := by
    intro e he k
    by_cases h0 : e = 0
    · rw [if_pos (by omega), if_pos h0]; rfl
    · have hb := bt_U s 0 (by omega)
      have hd : digI (bt s 0) = digU ((B s).getD 0 0) := by
        have : bt s ((0 : Nat) : Int) = bt s 0 := rfl
        rw [← this, hb]; rfl
      rw [if_neg (by omega), if_neg h0, if_pos (by omega), spec_l1Digit_eq, Option.bind_some, hd]
      split
      · rfl
      · by_cases h30 : e > 30
        · rw [if_pos (by omega), if_pos h30]; rfl
        · rw [if_neg (by omega), if_neg h30]
  have key := ev_from (B s).length (fun i k => spec_l5Run.l0 k s i) (fun i => (((if runEnd wordU (B s) i = 0 then 0 else if digU ((B s).getD 0 0) = true then 0 else if runEnd wordU (B s) i > 30 then 0 else runEnd wordU (B s) i : Nat) : Nat) : Int)) ?_ ?_ 0 (by omega)
  · exact key
  · refine ev_done fun k => ?_
    rw [spec_l5Run.l0, if_neg (by omega), fin _ (Nat.le_refl _) k, runEnd_end _ _ _ (Nat.le_refl _)]
  · intro i hi h
    by_cases hp : wordU ((B s).getD i 0) = true
    · rw [runEnd_yes _ _ _ hi hp]
      refine Ev.step (fun k => ?_) h
      rw [spec_l5Run.l0, if_pos (by omega), if_pos (by omega), spec_l5Inner_eq, Option.bind_some, bt_U s i hi, if_pos (show wordI _ = true from hp), wrap_up hi (by omega)]
    · refine ev_done fun k => ?_
      rw [spec_l5Run.l0, if_pos (by omega), if_pos (by omega), spec_l5Inner_eq, Option.bind_some, bt_U s i hi, if_neg (show ¬ wordI _ = true from hp), runEnd_no _ _ _ hi hp, fin i (by omega) k]

/-! strings_CutSuffix -/
-- plain: Trim Evs
def impMark : List UInt8 := [33, 105, 109, 112, 111, 114, 116, 97, 110, 116]
def impB (t : ByteArray) : Bool := decide (10 ≤ t.size) && ((t.extract (t.size - 10) t.size).toList == impMark)
theorem strings_CutSuffix_imp (t : ByteArray) (hs : t.size ≤ 1048576) : strings_CutSuffix.f t (⟨#[33, 105, 109, 112, 111, 114, 116, 97, 110, 116]⟩ : ByteArray) = some (if impB t = true then (t.extract 0 (t.size - 10), true) else (t, false)) := by
  have hz : (⟨#[33, 105, 109, 112, 111, 114, 116, 97, 110, 116]⟩ : ByteArray).size = 10 := rfl
  have hl : (⟨#[33, 105, 109, 112, 111, 114, 116, 97, 110, 116]⟩ : ByteArray).toList = impMark := by rw [toList_B]; rfl
  unfold strings_CutSuffix.f stringslite_CutSuffix.f stringslite_HasSuffix.f
  rw [hz, hl]
  by_cases h : 10 ≤ t.size
  · have e : wrap64 ((t.size : Int) - ((10 : Nat) : Int)) = ((t.size - 10 : Nat) : Int) := by rw [wrap_id (by omega) (by omega)]; omega
    rw [e, if_pos (by omega), if_pos (by omega), if_pos (by omega), Int.toNat_natCast, Option.bind_some]
    unfold impB
    rw [decide_eq_true h, Bool.true_and]
    split
    · rw [if_pos (by omega), if_pos (by omega)]; rfl
    · rfl
  · unfold impB
    rw [if_neg (by omega), Option.bind_some, if_neg (by simp), decide_eq_false h, Bool.false_and, if_neg (by simp)]
    rfl

/-! strings_Cut -/
-- plain: Trim Cuts
theorem strings_Cut_eq (s sep : ByteArray) (hs : s.size < 4294967281) : strings_Cut.f s sep = some (ofL (Go.Lib.cut (B s) (B sep)).1, ofL (Go.Lib.cut (B s) (B sep)).2.1, (Go.Lib.cut (B s) (B sep)).2.2) := by
  unfold strings_Cut.f
  rw [if_pos hs]
  rfl

/-! impl_lower -/
-- plain: Trim Word Decl
theorem lowC_range (x : Int) (h0 : 0 ≤ x) (h1 : x < 256) : 0 ≤ lowC x ∧ lowC x < 256 := by unfold lowC; split <;> omega
def lowU (c : UInt8) : UInt8 := UInt8.ofNat (lowC (c.toNat : Int)).toNat
theorem lowU_nat (c : UInt8) : ((lowU c).toNat : Int) = lowC (c.toNat : Int) := by
  have h := c.toNat_lt
  have hr := lowC_range (c.toNat : Int) (by omega) (by omega)
  unfold lowU
  rw [UInt8.toNat_ofNat', Nat.mod_eq_of_lt (by omega)]
  omega
theorem B_lowB (s : ByteArray) : B (lowB s) = (B s).map lowU := by
  unfold lowB B
  rw [Go.strOfNums_data]
  unfold bytesOf
  rw [List.map_map, List.map_map]
  rfl
theorem lowB_size (s : ByteArray) : (lowB s).size = s.size := by rw [← B_len, B_lowB, List.length_map, B_len]
theorem digU_low (c : UInt8) : digU (lowU c) = digU c := by
  unfold digU
  rw [lowU_nat]
  generalize (c.toNat : Int) = x
  unfold digI lowC
  split
  · rw [decide_eq_decide]; omega
  · rfl
theorem wordU_low (c : UInt8) : wordU (lowU c) = wordU c := by
  have h := c.toNat_lt
  unfold wordU
  rw [lowU_nat]
  unfold wordI ltrI digI lowC
  split
  · rename_i hh
    have e : ((c.toNat : Int) + 32) % 256 = (c.toNat : Int) + 32 := by omega
    rw [e, decide_eq_true (show (97 ≤ (c.toNat : Int) + 32 ∧ (c.toNat : Int) + 32 ≤ 122) ∨ (65 ≤ (c.toNat : Int) + 32 ∧ (c.toNat : Int) + 32 ≤ 90) by omega), decide_eq_true (show (97 ≤ (c.toNat : Int) ∧ (c.toNat : Int) ≤ 122) ∨ (65 ≤ (c.toNat : Int) ∧ (c.toNat : Int) ≤ 90) by omega)]
    rfl
  · rfl
theorem isWordL_low (s : ByteArray) : isWordL (B (lowB s)) = isWordL (B s) := by
  rw [B_lowB]
  unfold isWordL
  have h1 : ((B s).map lowU).all wordU = (B s).all wordU := by
    rw [List.all_map]
    congr 1
    funext c
    exact wordU_low c
  have h2 : digU (((B s).map lowU).getD 0 0) = digU ((B s).getD 0 0) := by
    cases B s with
    | nil => rfl
    | cons c l => exact digU_low c
  rw [h1, h2, List.length_map]

/-! impl_isDigit -/
-- plain: Word
theorem impl_isDigit_eq (c : Int) : impl_isDigit.f c = some (digI c) := by
  unfold impl_isDigit.f digI
  split
  · rename_i h; congr 1; rw [decide_eq_decide]; omega
  · rename_i h; congr 1; rw [eq_comm, decide_eq_false_iff_not]; omega

/-! impl_isLetter -/
-- plain: Word
theorem impl_isLetter_eq (c : Int) : impl_isLetter.f c = some (ltrI c) := by
  unfold impl_isLetter.f ltrI
  split
  · split
    · congr 1; rw [eq_comm, decide_eq_true_iff]; omega
    · split
      · congr 1; rw [decide_eq_decide]; omega
      · congr 1; rw [eq_comm, decide_eq_false_iff_not]; omega
  · split
    · congr 1; rw [decide_eq_decide]; omega
    · congr 1; rw [eq_comm, decide_eq_false_iff_not]; omega

/-! impl_wordEnd -/
-- plain: Word
theorem impl_wordEnd_l0_ev (s : ByteArray) (hs : s.size ≤ 9223372036854775806) (i : Nat) : Ev (fun k => impl_wordEnd.l0 k s i) ((runEnd wordU (B s) i : Nat) : Int) := by
  have hl := B_len s
  by_cases hi0 : i ≤ (B s).length
  · refine ev_from (B s).length (fun i k => impl_wordEnd.l0 k s i) (fun i => ((runEnd wordU (B s) i : Nat) : Int)) ?_ ?_ i hi0
    · refine ev_done fun k => ?_
      rw [impl_wordEnd.l0, if_neg (by omega), runEnd_end _ _ _ (Nat.le_refl _)]
    · intro i hi h
      have hb := bt_U s i hi
      by_cases hp : wordU ((B s).getD i 0) = true
      · rw [runEnd_yes _ _ _ hi hp]
        refine Ev.step (fun k => ?_) h
        rw [impl_wordEnd.l0, if_pos (by omega), if_pos (by omega), impl_isLetter_eq, Option.bind_some, impl_isDigit_eq, Option.bind_some, hb, wrap_up hi (by omega)]
        unfold wordU wordI at hp
        by_cases c1 : ltrI (((B s).getD i 0).toNat : Int) = true
        · rw [if_pos c1]
        · rw [if_neg c1]
          by_cases c2 : digI (((B s).getD i 0).toNat : Int) = true
          · rw [if_pos c2]
          · rw [if_neg c2]
            by_cases c3 : (((B s).getD i 0).toNat : Int) = 95
            · rw [if_pos c3]
            · rw [if_neg c3, if_pos]
              simp only [Bool.not_eq_true] at c1 c2
              rw [c1, c2, decide_eq_false c3] at hp
              simpa using hp
      · refine ev_done fun k => ?_
        rw [impl_wordEnd.l0, if_pos (by omega), if_pos (by omega), impl_isLetter_eq, Option.bind_some, impl_isDigit_eq, Option.bind_some, hb, runEnd_no _ _ _ hi hp]
        unfold wordU wordI at hp
        simp only [Bool.or_eq_true, not_or, decide_eq_true_iff] at hp
        rw [if_neg hp.1.1.1, if_neg hp.1.1.2, if_neg hp.1.2, if_neg hp.2]
  · refine ev_done fun k => ?_
    rw [impl_wordEnd.l0, if_neg (by omega), runEnd_end _ _ _ (by omega)]
def wordEndL (l : List UInt8) (i : Nat) : Nat := if i < l.length ∧ digU (l.getD i 0) = true then i else runEnd wordU l i
theorem impl_wordEnd_ev (s : ByteArray) (hs : s.size ≤ 9223372036854775806) (i : Nat) : Ev (fun k => impl_wordEnd.f k s i) ((wordEndL (B s) i : Nat) : Int) := by
  have hl := B_len s
  simp only [impl_wordEnd.f]
  unfold wordEndL
  by_cases hi : i < (B s).length
  · refine ev_if_pos (by omega) (ev_if_pos (by omega) ?_)
    rw [impl_isDigit_eq, bt_U s i hi]
    simp only [Option.bind_some]
    by_cases hd : digU ((B s).getD i 0) = true
    · rw [if_pos ⟨hi, hd⟩]
      refine Ev.step (fun k => impl_wordEnd.j0.eq_2 ..) (ev_if_pos hd (Ev.now _))
    · rw [if_neg (fun h => hd h.2)]
      refine Ev.step (fun k => impl_wordEnd.j0.eq_2 ..) (ev_if_neg hd (impl_wordEnd_l0_ev s hs i))
  · rw [if_neg (fun h => hi h.1)]
    refine ev_if_neg (by omega) (Ev.step (fun k => impl_wordEnd.j0.eq_2 ..) (ev_if_neg (by decide) (impl_wordEnd_l0_ev s hs i)))

/-! impl_within -/
theorem impl_within_eq (a b c : Int) : impl_within.f a b c = some (decide (b ≤ a ∧ a ≤ c)) := by
  unfold impl_within.f
  split
  · rename_i h; simp [h]
  · rename_i h; simp [h]

/-! impl_isWord -/
-- plain: Word
theorem wordEnd_word (l : List UInt8) : (decide (1 ≤ l.length ∧ l.length ≤ 30) && decide (wordEndL l 0 = l.length)) = isWordL l := by
  unfold isWordL wordEndL
  have ha := runEnd_all wordU l
  by_cases h0 : 1 ≤ l.length ∧ l.length ≤ 30
  · rw [decide_eq_true h0, Bool.true_and, Bool.true_and]
    cases hd : digU (l.getD 0 0) with
    | true =>
      rw [if_pos ⟨by omega, rfl⟩]
      simp only [Bool.not_true, Bool.false_and]
      rw [decide_eq_false_iff_not]; omega
    | false =>
      rw [if_neg (fun h => by simp at h)]
      simp only [Bool.not_false, Bool.true_and]
      rw [Bool.eq_iff_iff, decide_eq_true_iff]; exact ha
  · rw [decide_eq_false h0]; simp
theorem impl_isWord_ev (s : ByteArray) (hs : s.size ≤ 9223372036854775806) : Ev (fun k => impl_isWord.f k s) (isWordL (B s)) := by
  have hl := B_len s
  simp only [impl_isWord.f]
  rw [← wordEnd_word, impl_within_eq]
  simp only [Option.bind_some]
  by_cases h : 1 ≤ (B s).length ∧ (B s).length ≤ 30
  · refine ev_if_pos (by rw [decide_eq_true_iff]; omega) (ev_bind (impl_wordEnd_ev s hs 0) ?_)
    have e : (decide (1 ≤ (B s).length ∧ (B s).length ≤ 30) && decide (wordEndL (B s) 0 = (B s).length)) = (((wordEndL (B s) 0 : Nat) : Int) == (s.size : Int)) := by
      rw [decide_eq_true h, Bool.true_and, Bool.eq_iff_iff, decide_eq_true_iff, beq_iff_eq]; omega
    rw [e]; exact Ev.now _
  · refine ev_if_neg (by rw [decide_eq_true_iff]; omega) ?_
    rw [decide_eq_false h, Bool.false_and]; exact Ev.now _

/-! impl_trimmed -/
-- plain: Trim
theorem impl_trimmed_eq (s : ByteArray) (hs : s.size ≤ 1048576) : impl_trimmed.f s = some (trimP s) := by
  unfold impl_trimmed.f
  rw [if_pos (by omega)]
  have e : trimB s = trimP s := by
    unfold trimB trimP
    show ofL (dropL (dropR (B s))) = _
    rw [dropL_dropR]
  rw [e]

/-! impl_readDecl -/
-- plain: Evs Trim Cuts Decl
def valB (t : ByteArray) : ByteArray := if impB t = true then trimP (t.extract 0 (t.size - 10)) else t
theorem valB_size (t : ByteArray) : (valB t).size ≤ t.size := by
  unfold valB
  split
  · have := trimP_size (t.extract 0 (t.size - 10))
    rw [ByteArray.size_extract] at this
    omega
  · exact Nat.le_refl _
def okB (v : ByteArray) : Bool := decide ((1 : Int) ≤ (v.size : Int) ∧ (v.size : Int) ≤ 60)
theorem impl_readDecl_ev (s : ByteArray) (hs : s.size ≤ 1048576) : Ev (fun k => impl_readDecl.f k s)
    (if (Go.Lib.cut (B s) [58]).2.2 = true ∧ isWordL (tr (Go.Lib.cut (B s) [58]).1) = true ∧ okB (valB (trimP (ofL (Go.Lib.cut (B s) [58]).2.1))) = true then
      (lowB (trimP (ofL (Go.Lib.cut (B s) [58]).1)), valB (trimP (ofL (Go.Lib.cut (B s) [58]).2.1)), impB (trimP (ofL (Go.Lib.cut (B s) [58]).2.1)), true)
    else ((⟨#[]⟩ : ByteArray), (⟨#[]⟩ : ByteArray), false, false)) := by
  have hB := B_len s
  have hp := cut_parts (B s) [58]
  have hp2 := (cut_len (B s) [58]).1
  have hz : ∀ l : List UInt8, (ofL l).size = l.length := fun l => by rw [← B_len, B_ofL]
  have e1 : B (⟨#[58]⟩ : ByteArray) = [58] := rfl
  unfold impl_readDecl.f
  refine ev_bind0 (strings_Cut_eq s _ (by omega)) ?_
  rw [e1]
  dsimp only
  generalize hn : (Go.Lib.cut (B s) [58]).1 = nm at hp ⊢
  generalize hv : (Go.Lib.cut (B s) [58]).2.1 = vl at hp hp2 ⊢
  generalize hf : (Go.Lib.cut (B s) [58]).2.2 = fd at hp ⊢
  have zn := trimP_size (ofL nm)
  have zv := trimP_size (ofL vl)
  rw [hz] at zn zv
  refine ev_bind0 (impl_trimmed_eq _ (by rw [hz]; omega)) ?_
  refine ev_bind0 (show impl_lower.f (trimP (ofL nm)) = some (lowB (trimP (ofL nm))) by unfold impl_lower.f; rw [if_pos (by omega)]) ?_
  refine ev_bind0 (impl_trimmed_eq _ (by rw [hz]; omega)) ?_
  refine ev_bind0 (strings_CutSuffix_imp _ (by omega)) ?_
  generalize ht : trimP (ofL vl) = t at zv ⊢
  have hvz := valB_size t
  have key : Ev (fun k => impl_readDecl.j0 k fd (lowB (trimP (ofL nm))) (valB t) (impB t)) (if fd = true ∧ isWordL (tr nm) = true ∧ okB (valB t) = true then (lowB (trimP (ofL nm)), valB t, impB t, true) else ((⟨#[]⟩ : ByteArray), (⟨#[]⟩ : ByteArray), false, false)) := by
    refine Ev.step (fun k => by rw [impl_readDecl.j0]) ?_
    by_cases hfd : fd = true
    · refine ev_if_pos hfd ?_
      refine ev_bind (impl_isWord_ev _ (by rw [lowB_size]; omega)) ?_
      have e2 : B (trimP (ofL nm)) = tr nm := by unfold trimP tr; rw [B_ofL, B_ofL]
      rw [isWordL_low, e2]
      by_cases hw : isWordL (tr nm) = true
      · refine ev_if_pos hw ?_
        refine ev_bind0 (impl_within_eq _ _ _) ?_
        by_cases ho : okB (valB t) = true
        · have hT : fd = true ∧ isWordL (tr nm) = true ∧ okB (valB t) = true := ⟨hfd, hw, ho⟩
          rw [if_pos hT]
          exact ev_if_pos ho (ev_now fun k => rfl)
        · rw [if_neg (show ¬ (fd = true ∧ isWordL (tr nm) = true ∧ okB (valB t) = true) from fun h => ho h.2.2)]
          exact ev_if_neg ho (ev_now fun k => rfl)
      · rw [if_neg (show ¬ (fd = true ∧ isWordL (tr nm) = true ∧ okB (valB t) = true) from fun h => hw h.2.1)]
        exact ev_if_neg hw (ev_now fun k => rfl)
    · rw [if_neg (show ¬ (fd = true ∧ isWordL (tr nm) = true ∧ okB (valB t) = true) from fun h => hfd h.1)]
      exact ev_if_neg hfd (ev_now fun k => rfl)
  by_cases hi : impB t = true
  · rw [if_pos hi]
    refine ev_if_pos rfl (ev_bind0 (impl_trimmed_eq _ (by simp only [ByteArray.size_extract]; omega)) ?_)
    unfold valB at key ⊢
    rw [hi, if_pos rfl] at key ⊢
    exact key
  · rw [if_neg hi]
    refine ev_if_neg (by simp) ?_
    unfold valB at key ⊢
    rw [if_neg hi] at key ⊢
    rw [Bool.eq_false_iff.2 hi] at key ⊢
    exact key

/-! spec_l5Decl -/
-- plain: Evs Trim Cuts Decl
def specDecl (s : ByteArray) : ByteArray × ByteArray × Bool × Bool :=
  if runL (tr (B s)) = 0 then ((⟨#[]⟩ : ByteArray), (⟨#[]⟩ : ByteArray), false, false)
  else if (tr ((tr (B s)).drop (runL (tr (B s))))).head? = some 58 then
    (lowB (ofL ((tr (B s)).take (runL (tr (B s))))), valB (ofL (tr (tr ((tr (B s)).drop (runL (tr (B s))))).tail)), impB (ofL (tr (tr ((tr (B s)).drop (runL (tr (B s))))).tail)), okB (valB (ofL (tr (tr ((tr (B s)).drop (runL (tr (B s))))).tail))))
  else ((⟨#[]⟩ : ByteArray), (⟨#[]⟩ : ByteArray), false, false)
theorem runL_le (l : List UInt8) : runL l ≤ l.length := by
  have h := runEnd_le wordU l 0 (by omega)
  unfold runL
  split
  · omega
  · split
    · omega
    · split <;> omega
theorem tr_len (l : List UInt8) : (tr l).length ≤ l.length := by
  have h1 := dropL_len l
  have h2 := dropR_len (dropL l)
  unfold tr; omega
theorem trimP_ofL (s : ByteArray) : trimP s = ofL (tr (B s)) := rfl
theorem spec_l5Decl_ev (s : ByteArray) (hs : s.size ≤ 1048576) : Ev (fun k => spec_l5Decl.f k s) (specDecl s) := by
  have hB := B_len s
  have hz : ∀ l : List UInt8, (ofL l).size = l.length := fun l => by rw [← B_len, B_ofL]
  unfold spec_l5Decl.f specDecl
  refine ev_bind (spec_l5Trim_ev s hs) ?_
  rw [trimP_ofL]
  have hl1 := tr_len (B s)
  generalize tr (B s) = t at hl1 ⊢
  refine ev_bind (spec_l5Run_ev _ (by rw [hz]; omega)) ?_
  rw [B_ofL]
  have hr := runL_le t
  generalize runL t = n at hr ⊢
  by_cases hn : n = 0
  · rw [if_pos hn]
    exact ev_if_pos (by omega) (ev_now fun k => rfl)
  · rw [if_neg hn]
    have ex1 : (ofL t).extract 0 ((n : Int)).toNat = ofL (t.take n) := by
      refine B_ext ?_
      rw [B_extract, B_ofL, B_ofL, Int.toNat_natCast, List.drop_zero, Nat.sub_zero]
    have ex2 : (ofL t).extract ((n : Int)).toNat (ofL t).size = ofL (t.drop n) := by
      refine B_ext ?_
      rw [B_extract, B_ofL, B_ofL, Int.toNat_natCast, hz, List.take_of_length_le (by simp)]
    refine ev_if_neg (by omega) (ev_if_pos (by omega) (ev_if_pos (by rw [hz]; omega) ?_))
    rw [ex1, ex2]
    refine ev_bind0 (show spec_l5Low.f (ofL (t.take n)) = some (lowB (ofL (t.take n))) by unfold spec_l5Low.f; rw [if_pos (by rw [hz, List.length_take]; omega)]) ?_
    refine ev_bind (spec_l5Trim_ev _ (by rw [hz, List.length_drop]; omega)) ?_
    rw [trimP_ofL, B_ofL]
    have hl2 := tr_len (t.drop n)
    rw [List.length_drop] at hl2
    generalize lowB (ofL (t.take n)) = nm
    generalize tr (t.drop n) = u at hl2 ⊢
    cases u with
    | nil =>
      refine ev_if_pos rfl ?_
      rw [if_neg (by simp)]
      refine Ev.step (fun k => by rw [spec_l5Decl.j0]) ?_
      exact ev_if_pos rfl (ev_now fun k => rfl)
    | cons c u =>
      rw [List.length_cons] at hl2
      refine ev_if_neg (by rw [hz, List.length_cons]; omega) (ev_if_pos (by rw [hz, List.length_cons]; omega) ?_)
      have hbt : bt (ofL (c :: u)) 0 = (c.toNat : Int) := by
        have := bt_U (ofL (c :: u)) 0 (by rw [B_ofL]; simp)
        rw [B_ofL] at this
        simpa using this
      rw [hbt]
      by_cases h58 : c = 58
      · subst h58
        rw [if_pos (by simp), show ((((58 : UInt8).toNat : Int)) != 58) = false from rfl, List.tail_cons]
        refine Ev.step (fun k => by rw [spec_l5Decl.j0]) ?_
        have ex3 : (ofL (58 :: u)).extract 1 (ofL (58 :: u)).size = ofL u := by
          refine B_ext ?_
          rw [B_extract, B_ofL, B_ofL, hz, List.drop_one, List.tail_cons, List.take_of_length_le (by simp)]
        refine ev_if_neg (by simp) (ev_if_pos (by rw [hz, List.length_cons]; omega) ?_)
        rw [ex3]
        refine ev_bind (spec_l5Trim_ev _ (by rw [hz]; omega)) ?_
        rw [trimP_ofL, B_ofL]
        have hl3 := tr_len u
        have hzt := hz (tr u)
        generalize ofL (tr u) = v at hzt ⊢
        have hvz := valB_size v
        have j1T : impB v = true → 10 ≤ v.size → Ev (fun k => spec_l5Decl.j1 k v true nm (⟨#[]⟩ : ByteArray) false) (nm, valB v, impB v, okB (valB v)) := by
          intro hi h10
          have e : wrap64 ((v.size : Int) - 10) = ((v.size - 10 : Nat) : Int) := by rw [wrap_id (by omega) (by omega)]; omega
          refine Ev.step (fun k => by rw [spec_l5Decl.j1]) ?_
          rw [e, Int.toNat_natCast]
          refine ev_if_pos rfl (ev_if_pos (by omega) (ev_if_pos (by omega) ?_))
          refine ev_bind (spec_l5Trim_ev _ (by simp only [ByteArray.size_extract]; omega)) ?_
          refine ev_bind0 (spec_l1In_eq _ _ _) (ev_now fun k => ?_)
          unfold valB
          rw [hi, if_pos rfl]; rfl
        have j1F : impB v = false → Ev (fun k => spec_l5Decl.j1 k v false nm (⟨#[]⟩ : ByteArray) false) (nm, valB v, impB v, okB (valB v)) := by
          intro hi
          refine Ev.step (fun k => by rw [spec_l5Decl.j1]) ?_
          refine ev_if_neg (by simp) (ev_bind0 (spec_l1In_eq _ _ _) (ev_now fun k => ?_))
          unfold valB
          rw [hi, if_neg (by simp)]; rfl
        by_cases h10 : 10 ≤ v.size
        · have e : wrap64 ((v.size : Int) - 10) = ((v.size - 10 : Nat) : Int) := by rw [wrap_id (by omega) (by omega)]; omega
          refine ev_if_pos (by omega) ?_
          rw [e, Int.toNat_natCast]
          refine ev_if_pos (by omega) (ev_if_pos (by omega) ?_)
          have hb : ((v.extract (v.size - 10) v.size).toList == ([33, 105, 109, 112, 111, 114, 116, 97, 110, 116] : List UInt8)) = impB v := by
            unfold impB impMark
            rw [decide_eq_true h10, Bool.true_and]
          rw [hb]
          cases hi : impB v with
          | true => have := j1T hi h10; rw [hi] at this; exact this
          | false => have := j1F hi; rw [hi] at this; exact this
        · refine ev_if_neg (by omega) ?_
          exact j1F (by unfold impB; rw [decide_eq_false h10]; rfl)
      · rw [if_neg (by simpa using h58)]
        have e0 : ((c.toNat : Int) != 58) = true := bne_iff_ne.2 fun e => h58 ((u8_nat (n := 58) (by omega)).1 e)
        rw [e0]
        refine Ev.step (fun k => by rw [spec_l5Decl.j0]) ?_
        exact ev_if_pos rfl (ev_now fun k => rfl)
theorem runL_runL' (l : List UInt8) : runL l = runL' l := rfl
theorem decl_both (s : ByteArray) (hs : s.size ≤ 1048576) : ∃ r1 r2 : ByteArray × ByteArray × Bool × Bool, Ev (fun k => spec_l5Decl.f k s) r1 ∧ Ev (fun k => impl_readDecl.f k s) r2 ∧ r1.2.2.2 = r2.2.2.2 ∧ (r1.2.2.2 = true → r1 = r2) := by
  refine ⟨_, _, spec_l5Decl_ev s hs, impl_readDecl_ev s hs, ?_⟩
  generalize hl : B s = l at *
  unfold specDecl
  rw [hl, runL_runL']
  by_cases hA : (Go.Lib.cut l [58]).2.2 = true ∧ isWordL (tr (Go.Lib.cut l [58]).1) = true
  · have hm : (58 : UInt8) ∈ l := by
      refine Classical.byContradiction fun h => ?_
      rw [cut_miss l h] at hA
      exact absurd hA.1 (by simp)
    obtain ⟨p, q, h1, h2⟩ := first_of 58 l hm
    have hc : Go.Lib.cut l [58] = (p, q, true) := by rw [h1]; exact cut_at p q h2
    rw [hc] at hA ⊢
    obtain ⟨f1, f2, f3⟩ := decl_fwd l p q h1 h2 hA.2
    have w := word_all hA.2
    rw [f1, f2, f3, if_neg (by have := w.2.2.1; simp only at this; omega), if_pos (show (58 :: dropR q).head? = some (58 : UInt8) from rfl), List.tail_cons, tr_dropR]
    dsimp only
    have e1 : trimP (ofL p) = ofL (tr p) := by rw [trimP_ofL, B_ofL]
    have e2 : trimP (ofL q) = ofL (tr q) := by rw [trimP_ofL, B_ofL]
    rw [e1, e2]
    by_cases ho : okB (valB (ofL (tr q))) = true
    · rw [if_pos ⟨rfl, hA.2, ho⟩, ho]
      exact ⟨rfl, fun _ => rfl⟩
    · rw [if_neg (fun h => ho h.2.2)]
      exact ⟨Bool.eq_false_iff.2 ho, fun h => absurd h ho⟩
  · rw [if_neg (show ¬ ((Go.Lib.cut l [58]).2.2 = true ∧ isWordL (tr (Go.Lib.cut l [58]).1) = true ∧ okB (valB (trimP (ofL (Go.Lib.cut l [58]).2.1))) = true) from fun h => hA ⟨h.1, h.2.1⟩)]
    by_cases hn : runL' (tr l) = 0
    · rw [if_pos hn]; exact ⟨rfl, fun h => absurd h (by simp)⟩
    · rw [if_neg hn]
      by_cases hh : (tr ((tr l).drop (runL' (tr l)))).head? = some 58
      · exfalso
        cases hu : tr ((tr l).drop (runL' (tr l))) with
        | nil => rw [hu] at hh; simp at hh
        | cons c u =>
          rw [hu] at hh
          simp only [List.head?_cons, Option.some.injEq] at hh
          subst hh
          obtain ⟨p, q, g1, g2, g3⟩ := decl_bwd l u hn hu
          have hc : Go.Lib.cut l [58] = (p, q, true) := by rw [g1]; exact cut_at p q g2
          rw [hc] at hA
          exact hA ⟨rfl, g3⟩
      · rw [if_neg hh]; exact ⟨rfl, fun h => absurd h (by simp)⟩

/-! spec_l5Bare -/
-- plain: Evs Trim Cuts Word
theorem l5Bare_l1 (s out : ByteArray) (hs : s.size ≤ 1048576) (r : ByteArray) (ho : out.size + 1 ≤ 9223372036854775807) : ∀ (n j : Nat), j + n = s.size → (∀ i : Nat, j ≤ i → i ≤ s.size + 2 → (B s).drop i = (Go.Lib.cut ((B s).drop j) [42, 47]).2.1 → Ev (fun k => spec_l5Bare.l0 k s (out ++ (⟨#[32]⟩ : ByteArray)) (i : Int)) r) → Ev (fun k => spec_l5Bare.l1 k s out (j : Int)) r := by
  have hB := B_len s
  intro n
  induction n with
  | zero =>
    intro j hj H
    refine Ev.step (fun k => by rw [spec_l5Bare.l1]) ?_
    refine ev_if_neg (by omega) (ev_if_pos ho ?_)
    rw [wrap_up (show j < 1048577 by omega) (by omega)]
    have h1 : (B s).drop j = [] := List.drop_eq_nil_of_le (by omega)
    have h := H (j + 1 + 1) (by omega) (by omega) (by rw [h1, cut_nil _ rfl, List.drop_eq_nil_of_le (by omega)])
    rw [wrap_up (show j + 1 < 1048578 by omega) (by omega)]
    exact h
  | succ n ih =>
    intro j hj H
    have hi : j < (B s).length := by omega
    have hdrop := drop_cons (B s) 0 j hi
    have w1 : wrap64 ((j : Int) + 1) = ((j + 1 : Nat) : Int) := wrap_up (show j < 1048577 by omega) (by omega)
    have w2 : wrap64 (((j + 1 : Nat) : Int) + 1) = ((j + 1 + 1 : Nat) : Int) := wrap_up (show j + 1 < 1048577 by omega) (by omega)
    have next : ¬ ([42, 47] : List UInt8).isPrefixOf ((B s).getD j 0 :: (B s).drop (j + 1)) = true → Ev (fun k => spec_l5Bare.l1 k s out ((j + 1 : Nat) : Int)) r := by
      intro hp
      refine ih (j + 1) (by omega) (fun i h1 h2 h3 => H i (by omega) h2 ?_)
      rw [hdrop, cut_step _ _ _ hp]; exact h3
    refine Ev.step (fun k => by rw [spec_l5Bare.l1]) ?_
    refine ev_if_pos (by omega) (ev_if_pos (by omega) ?_)
    rw [bt_U s j hi, w1, w2]
    by_cases h42 : (B s).getD j 0 = 42
    · refine ev_if_pos (by rw [h42]; rfl) ?_
      by_cases h2 : j + 1 < s.size
      · refine ev_if_pos (by omega) (ev_if_pos (by omega) ?_)
        have hi2 : j + 1 < (B s).length := by omega
        rw [bt_U s (j + 1) hi2]
        have hd2 := drop_cons (B s) 0 (j + 1) hi2
        by_cases h47 : (B s).getD (j + 1) 0 = 47
        · refine ev_if_pos (by rw [h47]; rfl) (ev_if_pos ho ?_)
          refine H (j + 1 + 1) (by omega) (by omega) ?_
          rw [hdrop, hd2, h42, h47, cut_hit 42 _ [42, 47] (by simp [List.isPrefixOf])]
          rfl
        · refine ev_if_neg (fun e => h47 ?_) (next ?_)
          · exact (u8_nat (n := 47) (by omega)).1 e
          · rw [hd2]; exact pre_b _ _ _ _ _ h47
      · refine ev_if_neg (by omega) (next ?_)
        rw [List.drop_eq_nil_of_le (show (B s).length ≤ j + 1 by omega)]
        exact pre_e _ _ _
    · refine ev_if_neg (fun e => h42 ?_) (next ?_)
      · exact (u8_nat (n := 42) (by omega)).1 e
      · exact pre_a _ _ _ _ h42
theorem l5Bare_l0 (s : ByteArray) (hs : s.size ≤ 1048576) : ∀ (n i : Nat) (out : ByteArray), s.size ≤ i + n → i ≤ s.size + 2 → out.size ≤ i → Ev (fun k => spec_l5Bare.l0 k s out (i : Int)) (ofL (B out ++ bare ((B s).drop i))) := by
  have hB := B_len s
  intro n
  induction n using Nat.strongRecOn with
  | ind n ih =>
    intro i out hn hi1 ho
    by_cases hlt : i < s.size
    · have hi : i < (B s).length := by omega
      have hdrop := drop_cons (B s) 0 i hi
      have w1 : wrap64 ((i : Int) + 1) = ((i + 1 : Nat) : Int) := wrap_up (show i < 1048577 by omega) (by omega)
      have w2 : wrap64 ((i : Int) + 2) = ((i + 2 : Nat) : Int) := by rw [wrap_id (by omega) (by omega)]; omega
      have single : ¬ ([47, 42] : List UInt8).isPrefixOf ((B s).getD i 0 :: (B s).drop (i + 1)) = true → Ev (fun k => spec_l5Bare.j1 k s out (i : Int) true) (ofL (B out ++ bare ((B s).drop i))) := by
        intro hp
        have e1 : s.extract (i : Int).toNat ((i + 1 : Nat) : Int).toNat = ofL [(B s).getD i 0] := by
          rw [Int.toNat_natCast, Int.toNat_natCast]
          refine B_ext ?_
          rw [B_extract, B_ofL, hdrop, show i + 1 - i = 1 by omega]; rfl
        have e2 : (ofL [(B s).getD i 0]).size = 1 := rfl
        refine Ev.step (fun k => by rw [spec_l5Bare.j1]) ?_
        rw [w1]
        refine ev_if_pos rfl (ev_if_pos (by omega) (ev_if_pos (by omega) (ev_if_pos (by omega) ?_)))
        rw [e1, e2]
        refine ev_if_pos (by omega) ?_
        have h := ih (s.size - (i + 1)) (by omega) (i + 1) (out ++ ofL [(B s).getD i 0]) (by omega) (by omega) (by rw [ByteArray.size_append, e2]; omega)
        rw [B_append, B_ofL] at h
        rw [hdrop, bare_char _ _ hp]
        simpa using h
      refine Ev.step (fun k => by rw [spec_l5Bare.l0]) ?_
      refine ev_if_pos (by omega) (ev_if_pos (by omega) ?_)
      rw [bt_U s i hi, w1]
      by_cases h47 : (B s).getD i 0 = 47
      · refine ev_if_pos (by rw [h47]; rfl) ?_
        by_cases h2 : i + 1 < s.size
        · have hi2 : i + 1 < (B s).length := by omega
          have hd2 := drop_cons (B s) 0 (i + 1) hi2
          refine ev_if_neg (by omega) (ev_if_pos (by omega) (ev_if_pos (by omega) ?_))
          rw [bt_U s (i + 1) hi2]
          by_cases h42 : (B s).getD (i + 1) 0 = 42
          · have e0 : (((((B s).getD (i + 1) 0).toNat : Int)) != 42) = false := by rw [h42]; rfl
            rw [e0]
            refine Ev.step (fun k => by rw [spec_l5Bare.j1]) ?_
            refine ev_if_neg (by simp) ?_
            rw [w2]
            refine l5Bare_l1 s out hs _ (by omega) (s.size - (i + 2)) (i + 2) (by omega) (fun p h1 h3 h4 => ?_)
            have e3 : (⟨#[32]⟩ : ByteArray).size = 1 := rfl
            have h := ih (s.size - p) (by omega) p (out ++ (⟨#[32]⟩ : ByteArray)) (by omega) h3 (by rw [ByteArray.size_append, e3]; omega)
            rw [hdrop, hd2, h47, h42, bare_open, ← h4]
            have e4 : B (⟨#[32]⟩ : ByteArray) = [32] := rfl
            rw [B_append, e4] at h
            simpa using h
          · have e0 : (((((B s).getD (i + 1) 0).toNat : Int)) != 42) = true := bne_iff_ne.2 fun e => h42 ((u8_nat (n := 42) (by omega)).1 e)
            rw [e0]
            exact single (by rw [hd2]; exact pre_b _ _ _ _ _ h42)
        · refine ev_if_pos (by omega) (single ?_)
          rw [List.drop_eq_nil_of_le (show (B s).length ≤ i + 1 by omega)]
          exact pre_e _ _ _
      · refine ev_if_neg (fun e => h47 ((u8_nat (n := 47) (by omega)).1 e)) (single ?_)
        exact pre_a _ _ _ _ h47
    · refine Ev.step (fun k => by rw [spec_l5Bare.l0]) ?_
      refine ev_if_neg (by omega) (ev_now fun k => ?_)
      rw [List.drop_eq_nil_of_le (show (B s).length ≤ i by omega), bare_nil, List.append_nil, ofL_B]
theorem spec_l5Bare_ev (s : ByteArray) (hs : s.size ≤ 1048576) : Ev (fun k => spec_l5Bare.f k s) (ofL (bare (B s))) := by
  have h := l5Bare_l0 s hs s.size 0 (⟨#[]⟩ : ByteArray) (by omega) (by omega) (Nat.le_refl _)
  exact Ev.congr (fun k => rfl) h

/-! strings_Split -/
-- plain: Trim Cuts
theorem strings_Split_one (s : ByteArray) (hs : s.size < 4294967281) (c : UInt8) : strings_Split.f s (⟨#[c]⟩ : ByteArray) = some ((splitL c (B s)).map ofL) := by
  unfold strings_Split.f
  rw [if_pos ⟨hs, by show 1 ≤ 1; omega⟩]
  congr 1
  have h1 := Go.Lib.splitB_data (⟨#[c]⟩ : ByteArray) 0 (Go.Lib.countB s (⟨#[c]⟩ : ByteArray)) s
  have h2 : Go.Lib.countB s (⟨#[c]⟩ : ByteArray) = (B s).count c := Go.Lib.count_one c (B s)
  have h3 : Go.Lib.splitK [c] 0 (Go.Lib.countB s (⟨#[c]⟩ : ByteArray)) (B s) = splitL c (B s) := splitK_splitL c _ (B s) (by rw [h2]; omega)
  have h4 := h1.trans h3
  have h5 := congrArg (List.map ofL) h4
  rw [List.map_map] at h5
  rw [← h5]
  conv => lhs; rw [← List.map_id (Go.Lib.splitB (⟨#[c]⟩ : ByteArray) 0 (Go.Lib.countB s (⟨#[c]⟩ : ByteArray)) s)]
  exact List.map_congr_left fun x _ => (ofL_B x).symm

/-! impl_readDecls -/
-- plain: Evs Trim Cuts Decl
theorem decls_loop (ps : List ByteArray) (hp : ps.length ≤ 1048577) (hs : ∀ x ∈ ps, x.size ≤ 1048576) : ∀ (n i : Nat) (acc : List S48), i + n = ps.length → acc.length ≤ 12 → ∃ r : List S48, Ev (fun k => spec_l5Decls.l0 k acc ps (ps.length : Int) (i : Int)) r ∧ Ev (fun k => impl_readDecls.l0 k acc ps (ps.length : Int) (i : Int)) r ∧ r.length ≤ 12 := by
  intro n
  induction n with
  | zero =>
    intro i acc h1 h2
    refine ⟨acc, ?_, ?_, h2⟩
    · refine Ev.step (fun k => by rw [spec_l5Decls.l0]) ?_
      exact ev_if_neg (by omega) (ev_now fun k => rfl)
    · refine Ev.step (fun k => by rw [impl_readDecls.l0]) ?_
      exact ev_if_neg (by omega) (ev_now fun k => rfl)
  | succ n ih =>
    intro i acc h1 h2
    have hi : i < ps.length := by omega
    have hmem : ps.getD i ByteArray.empty ∈ ps := by rw [List.getD_eq_getElem?_getD, List.getElem?_eq_getElem hi]; exact List.getElem_mem hi
    have w1 : wrap64 ((i : Int) + 1) = ((i + 1 : Nat) : Int) := wrap_up hi (by omega)
    obtain ⟨⟨n1, v1, i1, o1⟩, ⟨n2, v2, i2, o2⟩, d1, d2, d3, d4⟩ := decl_both _ (hs _ hmem)
    dsimp only at d3 d4
    by_cases hok : o1 = true
    · have he := d4 hok
      simp only [Prod.mk.injEq] at he
      obtain ⟨rfl, rfl, rfl, rfl⟩ := he
      by_cases hl : acc.length < 12
      · obtain ⟨r, g1, g2, g3⟩ := ih (i + 1) (acc ++ [(⟨n1, v1, i1⟩ : S48)]) (by omega) (by simp; omega)
        refine ⟨r, ?_, ?_, g3⟩
        · refine Ev.step (fun k => by rw [spec_l5Decls.l0]) ?_
          rw [rdOf_nat, w1]
          refine ev_if_pos (by omega) (ev_if_pos (by omega) (ev_if_pos (by omega) (ev_bind d1 ?_)))
          exact ev_if_pos hok (ev_if_pos (by omega) (ev_if_pos (by omega) g1))
        · refine Ev.step (fun k => by rw [impl_readDecls.l0]) ?_
          rw [rdOf_nat, w1]
          refine ev_if_pos (by omega) (ev_if_pos (by omega) (ev_if_pos (by omega) (ev_bind d2 ?_)))
          exact ev_if_pos hok (ev_if_pos (by omega) (ev_if_pos (by omega) g2))
      · obtain ⟨r, g1, g2, g3⟩ := ih (i + 1) acc (by omega) h2
        refine ⟨r, ?_, ?_, g3⟩
        · refine Ev.step (fun k => by rw [spec_l5Decls.l0]) ?_
          rw [rdOf_nat, w1]
          refine ev_if_pos (by omega) (ev_if_pos (by omega) (ev_if_pos (by omega) (ev_bind d1 ?_)))
          exact ev_if_pos hok (ev_if_neg (by omega) g1)
        · refine Ev.step (fun k => by rw [impl_readDecls.l0]) ?_
          rw [rdOf_nat, w1]
          refine ev_if_pos (by omega) (ev_if_pos (by omega) (ev_if_pos (by omega) (ev_bind d2 ?_)))
          exact ev_if_pos hok (ev_if_neg (by omega) g2)
    · obtain ⟨r, g1, g2, g3⟩ := ih (i + 1) acc (by omega) h2
      refine ⟨r, ?_, ?_, g3⟩
      · refine Ev.step (fun k => by rw [spec_l5Decls.l0]) ?_
        rw [rdOf_nat, w1]
        refine ev_if_pos (by omega) (ev_if_pos (by omega) (ev_if_pos (by omega) (ev_bind d1 ?_)))
        exact ev_if_neg hok g1
      · refine Ev.step (fun k => by rw [impl_readDecls.l0]) ?_
        rw [rdOf_nat, w1]
        refine ev_if_pos (by omega) (ev_if_pos (by omega) (ev_if_pos (by omega) (ev_bind d2 ?_)))
        exact ev_if_neg (by rw [← d3]; exact hok) g2
theorem decls_both (s : ByteArray) (hs : s.size ≤ 1048576) : ∃ r : List S48, Ev (fun k => spec_l5Decls.f k s) r ∧ Ev (fun k => impl_readDecls.f k s) r ∧ r.length ≤ 12 := by
  have hl := splitL_len 59 (B s)
  rw [B_len] at hl
  have h1 : ((splitL 59 (B s)).map ofL).length ≤ 1048577 := by rw [List.length_map]; omega
  obtain ⟨r, g1, g2, g3⟩ := decls_loop ((splitL 59 (B s)).map ofL) h1 (fun x hx => by
    obtain ⟨y, hy, rfl⟩ := List.mem_map.1 hx
    have := hl.2 y hy
    rw [← B_len, B_ofL]; omega) _ 0 [] (Nat.zero_add _) (by simp)
  refine ⟨r, ?_, ?_, g3⟩
  · simp only [spec_l5Decls.f]
    exact ev_bind (spec_l1Split_ev s hs 59) g1
  · simp only [impl_readDecls.f]
    exact ev_bind0 (strings_Split_one s (by omega) 59) g2

/-! impl_withoutComments -/
-- plain: Evs Trim Cuts
theorem withoutComments_l0 : ∀ (n : Nat) (s out : ByteArray), s.size ≤ n → s.size + out.size ≤ 1048576 → Ev (fun k => impl_withoutComments.l0 k s out) (ofL (B out ++ bare (B s))) := by
  intro n
  induction n using Nat.strongRecOn with
  | ind n ih =>
    intro s out hn hs
    have hB := B_len s
    have hp := cut_parts (B s) [47, 42]
    refine Ev.step (fun k => by rw [impl_withoutComments.l0]) ?_
    refine ev_bind0 (strings_Cut_eq s _ (by omega)) ?_
    have e1 : B (⟨#[47, 42]⟩ : ByteArray) = [47, 42] := rfl
    have e2 : B (⟨#[42, 47]⟩ : ByteArray) = [42, 47] := rfl
    have hz : ∀ l : List UInt8, (ofL l).size = l.length := fun l => by rw [← B_len, B_ofL]
    rw [e1]
    refine ev_if_pos (by rw [hz]; omega) ?_
    rw [bare_eq]
    by_cases hc : (Go.Lib.cut (B s) [47, 42]).2.2 = true
    · have hp2 := hp.2 hc
      simp only [List.length_cons, List.length_nil] at hp2
      have hp3 := (cut_len (Go.Lib.cut (B s) [47, 42]).2.1 [42, 47]).1
      refine ev_if_pos hc (ev_if_pos (by rw [ByteArray.size_append, hz]; omega) ?_)
      refine ev_bind0 (strings_Cut_eq _ _ (by rw [hz]; omega)) ?_
      rw [e2, B_ofL, if_pos hc]
      have h := ih (Go.Lib.cut (Go.Lib.cut (B s) [47, 42]).2.1 [42, 47]).2.1.length (by omega) (ofL (Go.Lib.cut (Go.Lib.cut (B s) [47, 42]).2.1 [42, 47]).2.1) ((out ++ ofL (Go.Lib.cut (B s) [47, 42]).1) ++ (⟨#[32]⟩ : ByteArray)) (by rw [hz]; omega) (by rw [ByteArray.size_append, ByteArray.size_append, hz, hz]; show _ + (_ + 1) ≤ _; omega)
      rw [B_append, B_append, B_ofL, B_ofL] at h
      have e3 : B (⟨#[32]⟩ : ByteArray) = [32] := rfl
      rw [e3] at h
      simpa using h
    · refine ev_if_neg hc (ev_now fun k => ?_)
      rw [if_neg hc]
      have e4 : (Go.Lib.cut (B s) [47, 42]).1 = B s := by rw [cut_none _ _ hc]
      rw [e4]
      rw [show out ++ ofL (B s) = ofL (B out ++ B s) from B_ext (by rw [B_append, B_ofL, B_ofL])]
theorem impl_withoutComments_ev (s : ByteArray) (hs : s.size ≤ 1048576) : Ev (fun k => impl_withoutComments.f k s) (ofL (bare (B s))) := by
  have h := withoutComments_l0 s.size s (⟨#[]⟩ : ByteArray) (Nat.le_refl _) (by show s.size + 0 ≤ _; omega)
  exact Ev.congr (fun k => rfl) h
theorem bare_len : ∀ (n : Nat) (l : List UInt8), l.length ≤ n → (bare l).length ≤ l.length := by
  intro n
  induction n using Nat.strongRecOn with
  | ind n ih =>
    intro l hl
    rw [bare_eq]
    by_cases hc : (Go.Lib.cut l [47, 42]).2.2 = true
    · have hp := (cut_parts l [47, 42]).2 hc
      have hp3 := (cut_len (Go.Lib.cut l [47, 42]).2.1 [42, 47]).1
      simp only [List.length_cons, List.length_nil] at hp
      have h := ih (Go.Lib.cut (Go.Lib.cut l [47, 42]).2.1 [42, 47]).2.1.length (by omega) _ (Nat.le_refl _)
      rw [if_pos hc, List.length_append, List.length_cons]
      omega
    · rw [if_neg hc]; exact Nat.le_refl _

/-! laws_eqDecl -/
theorem laws_eqDecl_same (a b : ByteArray) (c : Bool) : laws_eqDecl.f a b c a b c = some true := by
  unfold laws_eqDecl.f
  rw [if_pos rfl, if_pos rfl, if_neg (by simp)]

/-! laws_eqDeclS -/
-- plain: Evs
theorem laws_eqDeclS_same (l : List S48) (hn : l.length ≤ 9223372036854775807) : Ev (fun k => laws_eqDeclS.f k l l) true := by
  refine Ev.congr (f := fun k => laws_eqDeclS.l0 k l l 0) (fun k => ?_) ?_
  · unfold laws_eqDeclS.f; rw [if_pos rfl]
  · refine ev_up l.length (fun i k => laws_eqDeclS.l0 k l l i) true ?_ ?_
    · refine ev_done fun k => ?_
      rw [laws_eqDeclS.l0, if_neg (by omega)]
    · intro i hi h
      refine Ev.step (fun k => by rw [laws_eqDeclS.l0, if_pos (by omega), if_pos (by omega), if_pos (by omega)]) ?_
      refine ev_bind0 (laws_eqDecl_same _ _ _) (ev_if_pos rfl ?_)
      rw [wrap_up hi (by omega)]; exact h

/-! laws_markText -/
-- plain: Evs
theorem markText_l0_ends : ∀ (n : Nat) (x : Int) (s : ByteArray), 0 ≤ x → x.toNat ≤ n → (s.size : Int) + x ≤ 4611686018427387904 → ∃ t, Ev (fun k => laws_markText.l0 k x s) t := by
  intro n
  induction n with
  | zero =>
    intro x s h0 h1 h2
    exact ⟨_, ev_done fun k => by rw [laws_markText.l0, if_neg (by omega), if_pos (by omega)]⟩
  | succ n ih =>
    intro x s h0 h1 h2
    by_cases hx : x > 0
    · have hd : wrap64 (Int.tdiv x 10) = x / 10 := by rw [Int.tdiv_eq_ediv_of_nonneg h0, wrap_id (by omega) (by omega)]
      have hz : ∀ y : Int, (strOfNums ([y] : List Int)).size = 1 := fun y => rfl
      obtain ⟨t, ht⟩ := ih (x / 10) ((strOfNums ([(wrap64 (48 + (Int.tmod x 10))) % 256] : List Int)) ++ s) (by omega) (by omega) (by rw [ByteArray.size_append, hz]; omega)
      refine ⟨t, Ev.step (fun k => ?_) ht⟩
      rw [laws_markText.l0, if_pos hx, Option.bind_some, if_pos (by rw [hz]; omega), hd]
    · exact ⟨_, ev_done fun k => by rw [laws_markText.l0, if_neg hx, if_pos (by omega)]⟩
theorem markText_ends (x : Int) : ∃ t, 0 ≤ x → x ≤ 4611686018427387904 → Ev (fun k => laws_markText.f k x) t := by
  by_cases h : 0 ≤ x ∧ x ≤ 4611686018427387904
  · by_cases h0 : x ≤ 0
    · exact ⟨_, fun _ _ => ev_now fun k => by unfold laws_markText.f; rw [if_pos h0]⟩
    · obtain ⟨t, ht⟩ := markText_l0_ends x.toNat x (⟨#[]⟩ : ByteArray) h.1 (by omega) (by show (0 : Int) + x ≤ _; omega)
      exact ⟨t, fun _ _ => Ev.congr (fun k => by unfold laws_markText.f; rw [if_neg h0]) ht⟩
  · exact ⟨(⟨#[]⟩ : ByteArray), fun h1 h2 => absurd ⟨h1, h2⟩ h⟩
/-- the text of a mark. -/
noncomputable def mtext (x : Int) : ByteArray := Classical.choose (markText_ends x)
theorem mtext_ev (x : Int) (h0 : 0 ≤ x) (h1 : x ≤ 4611686018427387904) : Ev (fun k => laws_markText.f k x) (mtext x) := Classical.choose_spec (markText_ends x) h0 h1

/-! laws_markDeclS -/
-- plain: Evs
noncomputable def declMark (x : Int) : S48 := ⟨mtext x, mtext (x + 1), (Int.tmod (x + 2) 3) == 0⟩
noncomputable def markedDecl (n : Nat) (x : Int) : List S48 := (List.range n).map fun (j : Nat) => declMark (x + 3 * (j : Int))
theorem markedDecl_length (n : Nat) (x : Int) : (markedDecl n x).length = n := by simp [markedDecl]
theorem markedDecl_get (n : Nat) (x : Int) (i : Nat) (h : i < n) : (markedDecl n x).getD i z48 = declMark (x + 3 * (i : Int)) := by
  simp [markedDecl, h]
theorem markedDecl_take (n : Nat) (x : Int) (l : List S48) (hl : l.length = n) (i : Nat) (h : i < n) : ((markedDecl n x).take i ++ l.drop i).set i (declMark (x + 3 * (i : Int))) = (markedDecl n x).take (i + 1) ++ l.drop (i + 1) := by
  rw [← markedDecl_get n x i h, take_set _ _ _ (by rw [markedDecl_length]; exact h) _ (by simp; omega), List.tail_drop]
theorem rdDecl_set (X : List S48) (i : Nat) (h : i < X.length) (v : S48) : rd_T48 (X.set i v) (i : Int) = v := by
  simp [rd_T48, h]
theorem setDecl (X : List S48) (i : Nat) (h : i < X.length) (a b : ByteArray) (c : Bool) (p : ByteArray) (u v : Bool) : ((X.set i ⟨a, p, u⟩).set i ⟨a, b, v⟩).set i ⟨a, b, c⟩ = X.set i (⟨a, b, c⟩ : S48) := by
  rw [List.set_set, List.set_set]
theorem laws_markDeclS_ev (l : List S48) (x : Int) (h0 : 0 ≤ x) (h1 : x + 3 * l.length ≤ 4611686018427387904) : Ev (fun k => laws_markDeclS.f k l x) (x + 3 * l.length, markedDecl l.length x) := by
  refine Ev.congr (f := fun k => laws_markDeclS.l0 k l x 0) (fun k => rfl) ?_
  have key := ev_up l.length (fun i k => laws_markDeclS.l0 k ((markedDecl l.length x).take i ++ l.drop i) (x + 3 * i) i) (x + 3 * l.length, markedDecl l.length x) ?_ ?_
  · simpa using key
  · refine ev_done fun k => ?_
    rw [laws_markDeclS.l0, if_neg (by simp [markedDecl_length])]
    rw [List.take_of_length_le (by simp [markedDecl_length])]; simp
  · intro i hi h
    have hlen : i < ((markedDecl l.length x).take i ++ l.drop i).length := by simp [markedDecl_length]; omega
    have hlen2 : (((markedDecl l.length x).take i ++ l.drop i).length : Int) = l.length := by simp [markedDecl_length]; omega
    have htk := markedDecl_take l.length x l rfl i hi
    generalize (markedDecl l.length x).take i ++ l.drop i = X at hlen hlen2 htk ⊢
    refine Ev.step (fun k => by rw [laws_markDeclS.l0]) ?_
    refine ev_if_pos (by omega) ?_
    refine ev_bind (mtext_ev (x + 3 * i) (by omega) (by omega)) (ev_if_pos (by omega) ?_)
    refine ev_bind0 rfl ?_
    rw [Int.toNat_natCast, wrap_id (x := x + 3 * (i : Int) + 1) (by omega) (by omega)]
    refine ev_bind (mtext_ev (x + 3 * i + 1) (by omega) (by omega)) ?_
    refine ev_bind0 rfl ?_
    rw [rdDecl_set X i hlen]
    rw [rdDecl_set _ i (by rw [List.length_set]; exact hlen)]
    rw [setDecl X i hlen, wrap_up hi (by omega), wrap_id (x := x + 3 * (i : Int) + 1 + 1) (by omega) (by omega), wrap_id (x := x + 3 * (i : Int) + 1 + 1 + 1) (by omega) (by omega)]
    have e : x + 3 * (i : Int) + 1 + 1 + 1 = x + 3 * ((i + 1 : Nat) : Int) := by omega
    have e2 : x + 3 * (i : Int) + 1 + 1 = x + 3 * (i : Int) + 2 := by omega
    rw [e, e2, show X.set i (⟨mtext (x + 3 * (i : Int)), mtext (x + 3 * (i : Int) + 1), (x + 3 * (i : Int) + 2).tmod 3 == 0⟩ : S48) = X.set i (declMark (x + 3 * (i : Int))) from rfl, htk]; exact h

/-! laws_heldDeclS -/
-- plain: Evs
theorem laws_heldDeclS_ev (n : Nat) (x : Int) (h0 : 0 ≤ x) (h1 : x + 3 * n ≤ 4611686018427387904) : Ev (fun k => laws_heldDeclS.f k (markedDecl n x) x) (x + 3 * n) := by
  refine Ev.congr (f := fun k => laws_heldDeclS.l0 k (markedDecl n x) x 0) (fun k => rfl) ?_
  have key := ev_up n (fun i k => laws_heldDeclS.l0 k (markedDecl n x) (x + 3 * i) i) (x + 3 * n) ?_ ?_
  · simpa using key
  · refine ev_done fun k => ?_
    rw [laws_heldDeclS.l0, if_neg (by simp [markedDecl_length])]
  · intro i hi h
    have hrd : rd_T48 (markedDecl n x) (i : Int) = declMark (x + 3 * (i : Int)) := by unfold rd_T48; rw [Int.toNat_natCast, markedDecl_get n x i hi]
    have e2 : x + 3 * (i : Int) + 1 + 1 = x + 3 * (i : Int) + 2 := by omega
    have e : x + 3 * (i : Int) + 2 + 1 = x + 3 * ((i + 1 : Nat) : Int) := by omega
    refine Ev.step (fun k => by rw [laws_heldDeclS.l0]) ?_
    refine ev_if_pos (by simp [markedDecl_length]; omega) (ev_if_pos (by omega) ?_)
    refine ev_bind (mtext_ev (x + 3 * i) (by omega) (by omega)) ?_
    rw [hrd, wrap_id (x := x + 3 * (i : Int) + 1) (by omega) (by omega), wrap_id (x := x + 3 * (i : Int) + 1 + 1) (by omega) (by omega), e2]
    refine ev_if_pos rfl ?_
    refine ev_bind (mtext_ev (x + 3 * i + 1) (by omega) (by omega)) ?_
    refine ev_if_pos rfl (ev_if_neg (by simp [declMark]) ?_)
    rw [wrap_up hi (by omega), wrap_id (x := x + 3 * (i : Int) + 2 + 1) (by omega) (by omega), e]
    exact h

-- plain: Evs Cuts Decl
theorem FnExactReadStyle : laws_FnExactReadStyle.Pure := by
  intro s hs
  by_cases hlen : (s.size : Int) > 1048576
  · exact ⟨0, by unfold laws_FnExactReadStyle.f; rw [if_pos hlen]⟩
  have main : ∃ r : List S48 × Bool, Ev (fun k => spec_ReadStyle.f k s) r ∧ Ev (fun k => impl_ReadStyle.f k s) r ∧ r.1.length ≤ 12 := by
    by_cases h6 : (s.size : Int) > 1500
    · refine ⟨([], false), ?_, ?_, by simp⟩
      · simp only [spec_ReadStyle.f]; exact ev_if_pos h6 (Ev.now _)
      · simp only [impl_ReadStyle.f]; exact ev_if_pos h6 (Ev.now _)
    · have hb := bare_len _ (B s) (Nat.le_refl _)
      rw [B_len] at hb
      obtain ⟨r, h1, h2, h3⟩ := decls_both (ofL (bare (B s))) (by rw [← B_len, B_ofL]; omega)
      refine ⟨(r, true), ?_, ?_, h3⟩
      · simp only [spec_ReadStyle.f]
        exact ev_if_neg h6 (ev_bind (spec_l5Bare_ev s (by omega)) (ev_bind h1 (Ev.now _)))
      · simp only [impl_ReadStyle.f]
        exact ev_if_neg h6 (ev_bind (impl_withoutComments_ev s (by omega)) (ev_bind h2 (Ev.now _)))
  obtain ⟨⟨r, b⟩, h1, h2, hr⟩ := main
  simp only at hr
  refine Ev.rounds ?_
  simp only [laws_FnExactReadStyle.f]
  refine ev_if_neg hlen (ev_bind h1 (ev_bind h2 (ev_bind (laws_eqDeclS_same r (by omega)) (ev_if_pos rfl ?_))))
  refine Ev.step (fun k => laws_FnExactReadStyle.j0.eq_2 ..) (ev_if_neg (by simp) ?_)
  refine ev_bind (laws_markDeclS_ev r 1 (by omega) (by omega)) ?_
  refine ev_bind (laws_heldDeclS_ev r.length 1 (by omega) (by omega)) ?_
  refine ev_if_neg (by omega) (ev_if_pos rfl ?_)
  refine ev_bind h2 (ev_bind (laws_eqDeclS_same r (by omega)) (ev_if_pos rfl ?_))
  refine Ev.step (fun k => laws_FnExactReadStyle.j1.eq_2 ..) (ev_if_neg (by simp) ?_)
  refine ev_bind (laws_heldDeclS_ev r.length 1 (by omega) (by omega)) ?_
  exact ev_if_neg (by omega) (ev_if_pos rfl (Ev.now true))

end Go.Proofs.YtganmdnieihpeaaDoor.Pure
