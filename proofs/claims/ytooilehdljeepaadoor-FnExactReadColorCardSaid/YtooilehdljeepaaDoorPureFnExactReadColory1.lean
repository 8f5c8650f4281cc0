/- Lemmas for the pure statement of FnExactReadColor, part 1. -/
import Derived.Test.YtooilehdljeepaaDoorPFnExactReadColorx7
import Derived.Test.YtooilehdljeepaaDoorPlain
import Derived.Test.YtooilehdljeepaaDoorEvs
import Derived.Test.YtooilehdljeepaaDoorStr
import Derived.Test.YtooilehdljeepaaDoorWord
import Derived.Test.YtooilehdljeepaaDoorTrim
import Derived.Test.YtooilehdljeepaaDoorCuts
import Derived.Test.YtooilehdljeepaaDoorDecl
import Derived.Test.YtooilehdljeepaaDoorNum
set_option linter.unusedVariables false
set_option linter.unusedSimpArgs false
namespace Go.Proofs.YtooilehdljeepaaDoor.Pure
open Go.RowKit Go.Proofs.YtooilehdljeepaaDoor.PFnExactReadColor Go.Proofs.YtooilehdljeepaaDoorW.PrintWords Go.Proofs.YtooilehdljeepaaDoorW.PrintLast Go.Proofs.YtooilehdljeepaaDoorW.PrintMore Go.Proofs.YtooilehdljeepaaDoor.Plain

/-! spec_l4Blank -/
-- plain: Trim
theorem spec_l4Blank_eq (c : UInt8) : spec_l4Blank.f (c.toNat : Int) = some (blankU c) := by
  unfold spec_l4Blank.f blankU
  have e : ∀ n : Nat, n < 256 → (((c.toNat : Int) = (n : Int)) ↔ c = UInt8.ofNat n) := fun n hn => u8_nat hn
  by_cases h9 : c = 9
  · subst h9; rfl
  · rw [if_neg (by rw [show (9 : Int) = ((9 : Nat) : Int) from rfl, e 9 (by omega)]; exact h9)]
    by_cases h10 : c = 10
    · subst h10; rfl
    · rw [if_neg (by rw [show (10 : Int) = ((10 : Nat) : Int) from rfl, e 10 (by omega)]; exact h10)]
      by_cases h13 : c = 13
      · subst h13; rfl
      · rw [if_neg (by rw [show (13 : Int) = ((13 : Nat) : Int) from rfl, e 13 (by omega)]; exact h13)]
        by_cases h32 : c = 32
        · subst h32; rfl
        · have h1 : ((c.toNat : Int) == 32) = false := beq_eq_false_iff_ne.mpr (by rw [show (32 : Int) = ((32 : Nat) : Int) from rfl]; exact fun h => h32 ((e 32 (by omega)).1 h))
          rw [h1]
          simp [h9, h10, h13, h32]

/-! spec_l5Trim -/
-- plain: Evs Trim
theorem l5Trim_right : ∀ (n : Nat) (s : ByteArray), s.size = n → n ≤ 1048576 → Ev (fun k => spec_l5Trim.l1 k s) (ofL (dropR (B s))) := by
  intro n
  induction n with
  | zero =>
    intro s hs _
    have e : B s = [] := List.length_eq_zero_iff.mp (by rw [B_len]; exact hs)
    refine Ev.step (fun k => spec_l5Trim.l1.eq_2 ..) (ev_if_neg (by omega) ?_)
    have e2 : ofL (dropR (B s)) = s := by rw [e, dropR_nil, ← e, ofL_B]
    rw [e2]; exact Ev.now _
  | succ n ih =>
    intro s hs hn
    have hl := B_len s
    refine Ev.step (fun k => spec_l5Trim.l1.eq_2 ..) (ev_if_pos (by omega) ?_)
    rw [wrap_id (x := (s.size : Int) - 1) (by omega) (by omega), show (s.size : Int) - 1 = (n : Int) by omega]
    refine ev_if_pos (by omega) (ev_if_pos (by omega) ?_)
    rw [bt_U s n (by omega)]
    refine ev_bind0 (spec_l4Blank_eq _) ?_
    have hsplit : B s = (B s).take n ++ [(B s).getD n 0] := by
      have h1 := List.take_append_drop n (B s)
      rw [drop_cons (B s) 0 n (by omega), List.drop_eq_nil_of_le (by omega)] at h1
      exact h1.symm
    have hR : dropR (B s) = if blankU ((B s).getD n 0) = true then dropR ((B s).take n) else B s := by
      have h1 := dropR_snoc ((B s).take n) ((B s).getD n 0)
      rw [← hsplit] at h1
      exact h1
    rw [hR]
    by_cases hb : blankU ((B s).getD n 0) = true
    · rw [if_pos hb]
      refine ev_if_pos hb (ev_if_pos (by omega) ?_)
      rw [Int.toNat_natCast]
      have hB : B (s.extract 0 n) = (B s).take n := by rw [B_extract]; simp
      have h2 := ih (s.extract 0 n) (by rw [← B_len, hB, List.length_take]; omega) (by omega)
      rw [hB] at h2
      exact h2
    · rw [if_neg hb, ofL_B]
      exact ev_if_neg hb (Ev.now _)
theorem l5Trim_left : ∀ (n : Nat) (s : ByteArray), s.size = n → n ≤ 1048576 → Ev (fun k => spec_l5Trim.l0 k s) (ofL (dropR (dropL (B s)))) := by
  intro n
  induction n with
  | zero =>
    intro s hs hn
    have e : B s = [] := List.length_eq_zero_iff.mp (by rw [B_len]; exact hs)
    have h := l5Trim_right 0 s hs hn
    have e2 : dropL (B s) = B s := by rw [e]; rfl
    rw [e2]
    exact Ev.step (fun k => spec_l5Trim.l0.eq_2 ..) (ev_if_neg (by omega) (Ev.step (fun k => spec_l5Trim.j1.eq_2 ..) h))
  | succ n ih =>
    intro s hs hn
    have hl := B_len s
    refine Ev.step (fun k => spec_l5Trim.l0.eq_2 ..) (ev_if_pos (by omega) (ev_if_pos (by omega) ?_))
    rw [show bt s 0 = _ from bt_U s 0 (by omega)]
    refine ev_bind0 (spec_l4Blank_eq _) ?_
    have hsplit : B s = (B s).getD 0 0 :: (B s).drop 1 := by
      have h1 := drop_cons (B s) 0 0 (by omega)
      rw [List.drop_zero] at h1
      exact h1
    by_cases hb : blankU ((B s).getD 0 0) = true
    · refine ev_if_pos hb (ev_if_pos (by omega) ?_)
      have hB : B (s.extract 1 s.size) = (B s).drop 1 := by
        rw [B_extract, List.take_of_length_le (by rw [List.length_drop]; omega)]
      have h2 := ih (s.extract 1 s.size) (by rw [← B_len, hB, List.length_drop]; omega) (by omega)
      rw [hB] at h2
      have e : dropL (B s) = dropL ((B s).drop 1) := by
        rw [hsplit]; unfold dropL; rw [List.dropWhile_cons, if_pos (by simpa using hb)]; simp
      rw [e]
      exact h2
    · have e : dropL (B s) = B s := by
        rw [hsplit]; unfold dropL; rw [List.dropWhile_cons, if_neg (by simpa using hb)]
      rw [e]
      exact ev_if_neg hb (Ev.step (fun k => spec_l5Trim.j1.eq_2 ..) (l5Trim_right (n + 1) s hs hn))
/-- a text without blanks around it. -/
def trimP (s : ByteArray) : ByteArray := ofL (dropR (dropL (B s)))
theorem trimP_size (s : ByteArray) : (trimP s).size ≤ s.size := by
  rw [← B_len, ← B_len]
  unfold trimP
  rw [B_ofL]
  exact Nat.le_trans (dropR_len _) (dropL_len _)
theorem spec_l5Trim_ev (s : ByteArray) (hs : s.size ≤ 1048576) : Ev (fun k => spec_l5Trim.f k s) (trimP s) := l5Trim_left s.size s rfl hs

/-! spec_l1Digit -/
-- plain: Word
theorem spec_l1Digit_eq (c : Int) : spec_l1Digit.f c = some (digI c) := by
  unfold spec_l1Digit.f digI
  split
  · rename_i h; congr 1; rw [decide_eq_decide]; omega
  · rename_i h; congr 1; rw [eq_comm, decide_eq_false_iff_not]; omega

/-! spec_l1Split -/
-- plain: Evs Trim Cuts Word
theorem l1Split_l0 (s : ByteArray) (hs : s.size ≤ 1048576) (c : UInt8) : ∀ (n i a : Nat) (acc : List ByteArray), i + n = s.size → a ≤ i → acc.length ≤ i → Ev (fun k => spec_l1Split.l0 k s (c.toNat : Int) acc a i) (acc ++ (ofL (((B s).drop a).take (i - a) ++ (splitL c ((B s).drop i)).headD []) :: ((splitL c ((B s).drop i)).tail.map ofL))) := by
  have hB := B_len s
  have hex : ∀ a i : Nat, s.extract (a : Int).toNat (i : Int).toNat = ofL (((B s).drop a).take (i - a)) := by
    intro a i
    rw [Int.toNat_natCast, Int.toNat_natCast]
    exact B_ext (by rw [B_extract, B_ofL])
  intro n
  induction n with
  | zero =>
    intro i a acc h1 h2 h3
    have hd : (B s).drop i = [] := List.drop_eq_nil_of_le (by omega)
    rw [hd]
    refine Ev.step (fun k => by rw [spec_l1Split.l0]) ?_
    refine ev_if_pos (by omega) (ev_if_pos (by omega) (ev_if_pos (by omega) (ev_if_pos (by omega) (ev_if_pos (by omega) ?_))))
    rw [wrap_id (by omega) (by omega), hex]
    refine ev_done fun k => ?_
    rw [spec_l1Split.l0, if_neg (by omega)]
    simp [splitL]
  | succ n ih =>
    intro i a acc h1 h2 h3
    have hi : i < (B s).length := by omega
    have hdrop := drop_cons (B s) 0 i hi
    refine Ev.step (fun k => by rw [spec_l1Split.l0]) ?_
    refine ev_if_pos (by omega) (ev_if_neg (by omega) (ev_if_pos (by omega) (ev_if_pos (by omega) ?_)))
    rw [bt_U s i hi, wrap_up (show i < 1048577 by omega) (by omega), hdrop]
    by_cases hc : (B s).getD i 0 = c
    · refine ev_if_pos (by rw [hc]) (ev_if_pos (by omega) (ev_if_pos (by omega) (ev_if_pos (by omega) ?_)))
      rw [hex]
      have h := ih (i + 1) (i + 1) (acc ++ [ofL (((B s).drop a).take (i - a))]) (by omega) (Nat.le_refl _) (by simp; omega)
      rw [splitL, if_pos hc]
      rw [Nat.sub_self, List.take_zero, List.nil_append] at h
      have hne := splitL_ne c ((B s).drop (i + 1))
      cases hsp : splitL c ((B s).drop (i + 1)) with
      | nil => exact absurd hsp hne
      | cons x xs => rw [hsp] at h; simpa using h
    · refine ev_if_neg (fun e => hc ?_) ?_
      · have := (u8_nat (a := (B s).getD i 0) (n := c.toNat) c.toNat_lt).1 e
        rw [this]; simp
      · have h := ih (i + 1) a acc (by omega) (by omega) (by omega)
        rw [splitL, if_neg hc]
        have ht : ((B s).drop a).take (i + 1 - a) = ((B s).drop a).take (i - a) ++ [(B s).getD i 0] := by
          rw [show i + 1 - a = (i - a) + 1 by omega, List.take_add_one, List.getElem?_drop, show a + (i - a) = i by omega, List.getElem?_eq_getElem hi]
          simp [List.getD_eq_getElem?_getD, List.getElem?_eq_getElem hi]
        rw [ht] at h
        simpa using h
theorem spec_l1Split_ev (s : ByteArray) (hs : s.size ≤ 1048576) (c : UInt8) : Ev (fun k => spec_l1Split.f k s (c.toNat : Int)) ((splitL c (B s)).map ofL) := by
  have h := l1Split_l0 s hs c s.size 0 0 [] (by omega) (Nat.le_refl _) (by simp)
  refine Ev.congr (f := fun k => spec_l1Split.l0 k s (c.toNat : Int) [] 0 0) (fun k => rfl) ?_
  have hne := splitL_ne c (B s)
  cases hsp : splitL c (B s) with
  | nil => exact absurd hsp hne
  | cons x xs => rw [List.drop_zero, hsp] at h; simpa using h

/-! spec_l1In -/
theorem spec_l1In_eq (a b c : Int) : spec_l1In.f a b c = some (decide (b ≤ a ∧ a ≤ c)) := by
  unfold spec_l1In.f
  split
  · rename_i h; simp [show b ≤ a from h]
  · rename_i h; simp [show ¬ b ≤ a from h]

/-! impl_trimmed -/
-- plain: Trim
theorem impl_trimmed_eq (s : ByteArray) (hs : s.size ≤ 1048576) : impl_trimmed.f s = some (trimP s) := by
  unfold impl_trimmed.f
  rw [if_pos (by omega)]
  have e : trimB s = trimP s := by
    unfold trimB trimP
    show ofL (dropL (dropR (B s))) = _
    rw [dropL_dropR]
  rw [e]

/-! stringslite_HasPrefix -/
-- plain: Str
theorem stringslite_HasPrefix_eq (s p : ByteArray) : stringslite_HasPrefix.f s p = some (decide (B p <+: B s)) := by
  unfold stringslite_HasPrefix.f
  by_cases h : (s.size : Int) ≥ (p.size : Int)
  · rw [if_pos h, if_pos (by omega), if_pos h]
    congr 1
    rw [toList_B, toList_B, B_extract, Int.toNat_natCast, Nat.sub_zero, List.drop_zero, Bool.eq_iff_iff, beq_iff_eq, decide_eq_true_iff, List.prefix_iff_eq_take, B_len]
    exact eq_comm
  · rw [if_neg h]
    congr 1
    rw [eq_comm, decide_eq_false_iff_not]
    intro hp
    have := hp.length_le
    rw [B_len, B_len] at this
    omega

/-! stringslite_CutPrefix -/
-- plain: Str
def cutPrefix (s p : ByteArray) : ByteArray × Bool := if B p <+: B s then (s.extract p.size s.size, true) else (s, false)
theorem stringslite_CutPrefix_eq (s p : ByteArray) : stringslite_CutPrefix.f s p = some (cutPrefix s p) := by
  unfold stringslite_CutPrefix.f cutPrefix
  rw [stringslite_HasPrefix_eq, Option.bind_some]
  by_cases h : B p <+: B s
  · have := h.length_le
    rw [B_len, B_len] at this
    rw [if_pos (by simpa using h), if_pos h, if_pos (by omega), if_pos (by omega), Int.toNat_natCast]
  · rw [if_neg (by simpa using h), if_neg h]

/-! strings_CutPrefix -/
-- plain: Str
theorem strings_CutPrefix_eq (s p : ByteArray) : strings_CutPrefix.f s p = some (cutPrefix s p) := by
  unfold strings_CutPrefix.f
  rw [stringslite_CutPrefix_eq]; rfl

/-! impl_isDigit -/
-- plain: Word
theorem impl_isDigit_eq (c : Int) : impl_isDigit.f c = some (digI c) := by
  unfold impl_isDigit.f digI
  split
  · rename_i h; congr 1; rw [decide_eq_decide]; omega
  · rename_i h; congr 1; rw [eq_comm, decide_eq_false_iff_not]; omega

/-! impl_lower -/
-- plain: Trim Word Decl
theorem lowC_range (x : Int) (h0 : 0 ≤ x) (h1 : x < 256) : 0 ≤ lowC x ∧ lowC x < 256 := by unfold lowC; split <;> omega
def lowU (c : UInt8) : UInt8 := UInt8.ofNat (lowC (c.toNat : Int)).toNat
theorem lowU_nat (c : UInt8) : ((lowU c).toNat : Int) = lowC (c.toNat : Int) := by
  have h := c.toNat_lt
  have hr := lowC_range (c.toNat : Int) (by omega) (by omega)
  unfold lowU
  rw [UInt8.toNat_ofNat', Nat.mod_eq_of_lt (by omega)]
  omega
theorem B_lowB (s : ByteArray) : B (lowB s) = (B s).map lowU := by
  unfold lowB B
  rw [Go.strOfNums_data]
  unfold bytesOf
  rw [List.map_map, List.map_map]
  rfl
theorem lowB_size (s : ByteArray) : (lowB s).size = s.size := by rw [← B_len, B_lowB, List.length_map, B_len]
theorem digU_low (c : UInt8) : digU (lowU c) = digU c := by
  unfold digU
  rw [lowU_nat]
  generalize (c.toNat : Int) = x
  unfold digI lowC
  split
  · rw [decide_eq_decide]; omega
  · rfl
theorem wordU_low (c : UInt8) : wordU (lowU c) = wordU c := by
  have h := c.toNat_lt
  unfold wordU
  rw [lowU_nat]
  unfold wordI ltrI digI lowC
  split
  · rename_i hh
    have e : ((c.toNat : Int) + 32) % 256 = (c.toNat : Int) + 32 := by omega
    rw [e, decide_eq_true (show (97 ≤ (c.toNat : Int) + 32 ∧ (c.toNat : Int) + 32 ≤ 122) ∨ (65 ≤ (c.toNat : Int) + 32 ∧ (c.toNat : Int) + 32 ≤ 90) by omega), decide_eq_true (show (97 ≤ (c.toNat : Int) ∧ (c.toNat : Int) ≤ 122) ∨ (65 ≤ (c.toNat : Int) ∧ (c.toNat : Int) ≤ 90) by omega)]
    rfl
  · rfl
theorem isWordL_low (s : ByteArray) : isWordL (B (lowB s)) = isWordL (B s) := by
  rw [B_lowB]
  unfold isWordL
  have h1 : ((B s).map lowU).all wordU = (B s).all wordU := by
    rw [List.all_map]
    congr 1
    funext c
    exact wordU_low c
  have h2 : digU (((B s).map lowU).getD 0 0) = digU ((B s).getD 0 0) := by
    cases B s with
    | nil => rfl
    | cons c l => exact digU_low c
  rw [h1, h2, List.length_map]

/-! strings_CutSuffix -/
-- plain: Trim Evs
def impMark : List UInt8 := [33, 105, 109, 112, 111, 114, 116, 97, 110, 116]
def impB (t : ByteArray) : Bool := decide (10 ≤ t.size) && ((t.extract (t.size - 10) t.size).toList == impMark)
theorem strings_CutSuffix_imp (t : ByteArray) (hs : t.size ≤ 1048576) : strings_CutSuffix.f t (⟨#[33, 105, 109, 112, 111, 114, 116, 97, 110, 116]⟩ : ByteArray) = some (if impB t = true then (t.extract 0 (t.size - 10), true) else (t, false)) := by
  have hz : (⟨#[33, 105, 109, 112, 111, 114, 116, 97, 110, 116]⟩ : ByteArray).size = 10 := rfl
  have hl : (⟨#[33, 105, 109, 112, 111, 114, 116, 97, 110, 116]⟩ : ByteArray).toList = impMark := by rw [toList_B]; rfl
  unfold strings_CutSuffix.f stringslite_CutSuffix.f stringslite_HasSuffix.f
  rw [hz, hl]
  by_cases h : 10 ≤ t.size
  · have e : wrap64 ((t.size : Int) - ((10 : Nat) : Int)) = ((t.size - 10 : Nat) : Int) := by rw [wrap_id (by omega) (by omega)]; omega
    rw [e, if_pos (by omega), if_pos (by omega), if_pos (by omega), Int.toNat_natCast, Option.bind_some]
    unfold impB
    rw [decide_eq_true h, Bool.true_and]
    split
    · rw [if_pos (by omega), if_pos (by omega)]; rfl
    · rfl
  · unfold impB
    rw [if_neg (by omega), Option.bind_some, if_neg (by simp), decide_eq_false h, Bool.false_and, if_neg (by simp)]
    rfl

/-! strings_Split -/
-- plain: Trim Cuts
theorem strings_Split_one (s : ByteArray) (hs : s.size < 4294967281) (c : UInt8) : strings_Split.f s (⟨#[c]⟩ : ByteArray) = some ((splitL c (B s)).map ofL) := by
  unfold strings_Split.f
  rw [if_pos ⟨hs, by show 1 ≤ 1; omega⟩]
  congr 1
  have h1 := Go.Lib.splitB_data (⟨#[c]⟩ : ByteArray) 0 (Go.Lib.countB s (⟨#[c]⟩ : ByteArray)) s
  have h2 : Go.Lib.countB s (⟨#[c]⟩ : ByteArray) = (B s).count c := Go.Lib.count_one c (B s)
  have h3 : Go.Lib.splitK [c] 0 (Go.Lib.countB s (⟨#[c]⟩ : ByteArray)) (B s) = splitL c (B s) := splitK_splitL c _ (B s) (by rw [h2]; omega)
  have h4 := h1.trans h3
  have h5 := congrArg (List.map ofL) h4
  rw [List.map_map] at h5
  rw [← h5]
  conv => lhs; rw [← List.map_id (Go.Lib.splitB (⟨#[c]⟩ : ByteArray) 0 (Go.Lib.countB s (⟨#[c]⟩ : ByteArray)) s)]
  exact List.map_congr_left fun x _ => (ofL_B x).symm

/-! impl_within -/
theorem impl_within_eq (a b c : Int) : impl_within.f a b c = some (decide (b ≤ a ∧ a ≤ c)) := by
  unfold impl_within.f
  split
  · rename_i h; simp [h]
  · rename_i h; simp [h]

/-! impl_digitsFrom -/
-- plain: Evs Num
theorem impl_digitsFrom_ev (s : ByteArray) (hs : s.size ≤ 1048577) (p : Nat) (hp : p ≤ (B s).length) : Ev (fun k => impl_digitsFrom.f k s p) ((digEnd (B s) p : Nat) : Int) := by
  have hl := B_len s
  have hge := digEnd_ge (B s) p
  have hle := digEnd_le (B s) p hp
  have key := ev_up (digEnd (B s) p - p) (fun i k => impl_digitsFrom.l0 k s ((p + i : Nat) : Int)) ((digEnd (B s) p : Nat) : Int) ?_ ?_
  · exact key
  · show Ev (fun k => impl_digitsFrom.l0 k s ((p + (digEnd (B s) p - p) : Nat) : Int)) _
    rw [show p + (digEnd (B s) p - p) = digEnd (B s) p by omega]
    refine Ev.step (fun k => impl_digitsFrom.l0.eq_2 ..) ?_
    by_cases hw : digEnd (B s) p < (B s).length
    · refine ev_if_pos (by omega) (ev_if_pos (by omega) (ev_bind0 (impl_isDigit_eq _) ?_))
      have h2 := digEnd_stop (B s) p hw
      rw [bt_U s _ hw]
      unfold digU at h2
      rw [h2]
      exact ev_if_neg (by decide) (Ev.now _)
    · exact ev_if_neg (by omega) (Ev.now _)
  · intro i hi h
    obtain ⟨h1, h2⟩ := digEnd_mem (B s) p (p + i) (by omega) (by omega)
    refine Ev.step (fun k => impl_digitsFrom.l0.eq_2 ..) (ev_if_pos (by omega) (ev_if_pos (by omega) (ev_bind0 (impl_isDigit_eq _) ?_)))
    rw [bt_U s _ h1]
    unfold digU at h2
    rw [h2]
    refine ev_if_pos rfl ?_
    rw [wrap_id (x := ((p + i : Nat) : Int) + 1) (by omega) (by omega)]
    exact h

/-! colhex -/
-- plain: Evs Word
theorem ev_r_pos {α : Type} {c : Prop} [Decidable c] {g : Nat → Option α} {a b : α} (h : c) (k : Ev g a) : Ev g (if c then a else b) := by rw [if_pos h]; exact k
theorem ev_r_neg {α : Type} {c : Prop} [Decidable c] {g : Nat → Option α} {a b : α} (h : ¬ c) (k : Ev g b) : Ev g (if c then a else b) := by rw [if_neg h]; exact k
def hexV (b : Int) : Int := if digI b = true then (b - 48) % 256 else if 97 ≤ b ∧ b ≤ 102 then ((b - 97) % 256) + 10 else if 65 ≤ b ∧ b ≤ 70 then ((b - 65) % 256) + 10 else -1
theorem hexV_range (b : Int) : -1 ≤ hexV b ∧ hexV b ≤ 15 := by
  unfold hexV digI
  split
  · rename_i h; have := of_decide_eq_true h; omega
  · split
    · omega
    · split <;> omega
theorem l4Hex_j0 (b : Int) (x : Bool) (hx : x = decide (97 ≤ b ∧ b ≤ 102)) : Ev (fun k => spec_l4Hex.j0 k b x) (if 97 ≤ b ∧ b ≤ 102 then ((b - 97) % 256) + 10 else if 65 ≤ b ∧ b ≤ 70 then ((b - 65) % 256) + 10 else -1) := by
  refine Ev.step (fun k => spec_l4Hex.j0.eq_2 ..) ?_
  by_cases h : 97 ≤ b ∧ b ≤ 102
  · refine ev_r_pos h ?_
    exact ev_if_pos (by rw [hx]; exact decide_eq_true h) (Ev.now _)
  · refine ev_r_neg h ?_
    refine ev_if_neg (by rw [hx, decide_eq_false h]; decide) ?_
    by_cases h2 : 65 ≤ b ∧ b ≤ 70
    · refine ev_r_pos h2 ?_
      exact ev_if_pos h2.1 (ev_if_pos h2.2 (Ev.now _))
    · refine ev_r_neg h2 ?_
      by_cases h3 : b ≥ 65
      · exact ev_if_pos h3 (ev_if_neg (by omega) (Ev.now _))
      · exact ev_if_neg h3 (Ev.now _)
theorem spec_l4Hex_ev (b : Int) : Ev (fun k => spec_l4Hex.f k b) (hexV b) := by
  unfold spec_l4Hex.f hexV
  refine ev_bind0 (spec_l1Digit_eq b) ?_
  by_cases h : digI b = true
  · rw [h]
    exact ev_if_pos rfl (Ev.now _)
  · have h' := Bool.eq_false_iff.mpr h
    rw [h']
    refine ev_if_neg (by decide) ?_
    show Ev _ (if 97 ≤ b ∧ b ≤ 102 then ((b - 97) % 256) + 10 else if 65 ≤ b ∧ b ≤ 70 then ((b - 65) % 256) + 10 else -1)
    by_cases h2 : b ≥ 97
    · exact ev_if_pos h2 (l4Hex_j0 b _ (by rw [decide_eq_decide]; omega))
    · exact ev_if_neg h2 (l4Hex_j0 b _ (by rw [eq_comm, decide_eq_false_iff_not]; omega))
theorem hexOf_j0 (b : Int) (x : Bool) (hx : x = decide (97 ≤ b ∧ b ≤ 102)) : Ev (fun k => impl_hexOf.j0 k b x) (if 97 ≤ b ∧ b ≤ 102 then ((b - 97) % 256) + 10 else if 65 ≤ b ∧ b ≤ 70 then ((b - 65) % 256) + 10 else -1) := by
  refine Ev.step (fun k => impl_hexOf.j0.eq_2 ..) ?_
  by_cases h : 97 ≤ b ∧ b ≤ 102
  · refine ev_r_pos h ?_
    exact ev_if_pos (by rw [hx]; exact decide_eq_true h) (Ev.now _)
  · refine ev_r_neg h ?_
    refine ev_if_neg (by rw [hx, decide_eq_false h]; decide) ?_
    by_cases h2 : 65 ≤ b ∧ b ≤ 70
    · refine ev_r_pos h2 ?_
      exact ev_if_pos h2.1 (ev_if_pos h2.2 (Ev.now _))
    · refine ev_r_neg h2 ?_
      by_cases h3 : b ≥ 65
      · exact ev_if_pos h3 (ev_if_neg (by omega) (Ev.now _))
      · exact ev_if_neg h3 (Ev.now _)
theorem impl_hexOf_ev (b : Int) : Ev (fun k => impl_hexOf.f k b) (hexV b) := by
  unfold impl_hexOf.f hexV
  refine ev_bind0 (impl_isDigit_eq b) ?_
  by_cases h : digI b = true
  · rw [h]
    exact ev_if_pos rfl (Ev.now _)
  · have h' := Bool.eq_false_iff.mpr h
    rw [h']
    refine ev_if_neg (by decide) ?_
    show Ev _ (if 97 ≤ b ∧ b ≤ 102 then ((b - 97) % 256) + 10 else if 65 ≤ b ∧ b ≤ 70 then ((b - 65) % 256) + 10 else -1)
    by_cases h2 : b ≥ 97
    · exact ev_if_pos h2 (hexOf_j0 b _ (by rw [decide_eq_decide]; omega))
    · exact ev_if_neg h2 (hexOf_j0 b _ (by rw [eq_comm, decide_eq_false_iff_not]; omega))
/-- what is told of the digits that were read. -/
def hashE (acc : List Int) : Int × Int × Int × Bool := if (acc.length : Int) = 3 then (wrap64 (17 * (rd acc 0)), wrap64 (17 * (rd acc 1)), wrap64 (17 * (rd acc 2)), true) else if (acc.length : Int) = 6 then (wrap64 ((wrap64 (16 * (rd acc 0))) + (rd acc 1)), wrap64 ((wrap64 (16 * (rd acc 2))) + (rd acc 3)), wrap64 ((wrap64 (16 * (rd acc 4))) + (rd acc 5)), true) else (0, 0, 0, false)
def hashL : List UInt8 → List Int → Int × Int × Int × Bool
  | [], acc => hashE acc
  | c :: l, acc => if hexV (c.toNat : Int) < 0 then (0, 0, 0, false) else hashL l (acc ++ [hexV (c.toNat : Int)])
theorem l7Hash_end (s : ByteArray) (acc : List Int) : Ev (fun k => spec_l7Hash.l0 k s acc (s.size : Int)) (hashE acc) := by
  refine Ev.step (fun k => spec_l7Hash.l0.eq_2 ..) (ev_if_neg (by omega) ?_)
  unfold hashE
  by_cases h : (acc.length : Int) = 3
  · refine ev_r_pos h ?_
    exact ev_if_pos h (ev_if_pos (by omega) (ev_if_pos (by omega) (ev_if_pos (by omega) (Ev.now _))))
  · refine ev_r_neg h ?_
    refine ev_if_neg h ?_
    by_cases h6 : (acc.length : Int) = 6
    · refine ev_r_pos h6 ?_
      exact ev_if_pos h6 (ev_if_pos (by omega) (ev_if_pos (by omega) (ev_if_pos (by omega) (ev_if_pos (by omega) (ev_if_pos (by omega) (ev_if_pos (by omega) (Ev.now _)))))))
    · refine ev_r_neg h6 ?_
      exact ev_if_neg h6 (Ev.now _)
theorem spec_l7Hash_ev (s : ByteArray) (hs : s.size ≤ 1048576) : Ev (fun k => spec_l7Hash.f k s) (hashL (B s) []) := by
  have hl := B_len s
  have key : ∀ n i (acc : List Int), i + n = (B s).length → acc.length ≤ i → Ev (fun k => spec_l7Hash.l0 k s acc (i : Int)) (hashL ((B s).drop i) acc) := by
    intro n
    induction n with
    | zero =>
      intro i acc hi ha
      rw [List.drop_of_length_le (by omega), show (i : Int) = (s.size : Int) by omega]
      exact l7Hash_end s acc
    | succ n ih =>
      intro i acc hi ha
      rw [drop_cons (B s) 0 i (by omega)]
      unfold hashL
      refine Ev.step (fun k => spec_l7Hash.l0.eq_2 ..) (ev_if_pos (by omega) (ev_if_pos (by omega) ?_))
      refine ev_bind (spec_l4Hex_ev _) ?_
      rw [bt_U s i (by omega)]
      by_cases h : hexV (((B s).getD i 0).toNat : Int) < 0
      · refine ev_r_pos h ?_
        exact ev_if_pos h (Ev.now _)
      · refine ev_r_neg h ?_
        refine ev_if_neg h (ev_if_pos (by omega) ?_)
        rw [wrap_id (x := (i : Int) + 1) (by omega) (by omega)]
        exact ih (i + 1) _ (by omega) (by rw [List.length_append, List.length_singleton]; omega)
  have := key (B s).length 0 [] (by omega) (by simp)
  rw [List.drop_zero] at this
  exact this

end Go.Proofs.YtooilehdljeepaaDoor.Pure
