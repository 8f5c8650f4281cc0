/- ReadNumbers: the program's ReadNumbers answers as the reference's at every text, and its answer owns its memory; no condition. -/
import Derived.Test.YtfjabcfmcnphcaaDoorPFnExactReadNumbersx8
import Derived.Test.YtfjabcfmcnphcaaDoorPlain
import Derived.Test.YtfjabcfmcnphcaaDoorEvs
import Derived.Test.YtfjabcfmcnphcaaDoorBits
import Derived.Test.YtfjabcfmcnphcaaDoorFix
import Derived.Test.YtfjabcfmcnphcaaDoorStr
import Derived.Test.YtfjabcfmcnphcaaDoorWord
import Derived.Test.YtfjabcfmcnphcaaDoorNum
import Derived.Test.YtfjabcfmcnphcaaDoorNumEnd
import Derived.Test.YtfjabcfmcnphcaaDoorTrim
import Derived.Test.YtfjabcfmcnphcaaDoorGap
set_option linter.unusedVariables false
set_option linter.unusedSimpArgs false
namespace Go.Proofs.YtfjabcfmcnphcaaDoor.Pure
open Go.RowKit Go.Proofs.YtfjabcfmcnphcaaDoor.PFnExactReadNumbers Go.Proofs.YtfjabcfmcnphcaaDoorW.PrintWords Go.Proofs.YtfjabcfmcnphcaaDoorW.PrintLast Go.Proofs.YtfjabcfmcnphcaaDoorW.PrintMore Go.Proofs.YtfjabcfmcnphcaaDoor.Plain

/-! spec_l4Blank -/
-- plain: Trim
theorem spec_l4Blank_eq (c : UInt8) : spec_l4Blank.f (c.toNat : Int) = some (blankU c) := by
  unfold spec_l4Blank.f blankU
  have e : ∀ n : Nat, n < 256 → (((c.toNat : Int) = (n : Int)) ↔ c = UInt8.ofNat n) := fun n hn => u8_nat hn
  by_cases h9 : c = 9
  · subst h9; rfl
  · rw [if_neg (by rw [show (9 : Int) = ((9 : Nat) : Int) from rfl, e 9 (by omega)]; exact h9)]
    by_cases h10 : c = 10
    · subst h10; rfl
    · rw [if_neg (by rw [show (10 : Int) = ((10 : Nat) : Int) from rfl, e 10 (by omega)]; exact h10)]
      by_cases h13 : c = 13
      · subst h13; rfl
      · rw [if_neg (by rw [show (13 : Int) = ((13 : Nat) : Int) from rfl, e 13 (by omega)]; exact h13)]
        by_cases h32 : c = 32
        · subst h32; rfl
        · have h1 : ((c.toNat : Int) == 32) = false := beq_eq_false_iff_ne.mpr (by rw [show (32 : Int) = ((32 : Nat) : Int) from rfl]; exact fun h => h32 ((e 32 (by omega)).1 h))
          rw [h1]
          simp [h9, h10, h13, h32]

/-! spec_l5Trim -/
-- plain: Evs Trim
theorem l5Trim_right : ∀ (n : Nat) (s : ByteArray), s.size = n → n ≤ 1048576 → Ev (fun k => spec_l5Trim.l1 k s) (ofL (dropR (B s))) := by
  intro n
  induction n with
  | zero =>
    intro s hs _
    have e : B s = [] := List.length_eq_zero_iff.mp (by rw [B_len]; exact hs)
    refine Ev.step (fun k => spec_l5Trim.l1.eq_2 ..) (ev_if_neg (by omega) ?_)
    have e2 : ofL (dropR (B s)) = s := by rw [e, dropR_nil, ← e, ofL_B]
    rw [e2]; exact Ev.now _
  | succ n ih =>
    intro s hs hn
    have hl := B_len s
    refine Ev.step (fun k => spec_l5Trim.l1.eq_2 ..) (ev_if_pos (by omega) ?_)
    rw [wrap_id (x := (s.size : Int) - 1) (by omega) (by omega), show (s.size : Int) - 1 = (n : Int) by omega]
    refine ev_if_pos (by omega) (ev_if_pos (by omega) ?_)
    rw [bt_U s n (by omega)]
    refine ev_bind0 (spec_l4Blank_eq _) ?_
    have hsplit : B s = (B s).take n ++ [(B s).getD n 0] := by
      have h1 := List.take_append_drop n (B s)
      rw [drop_cons (B s) 0 n (by omega), List.drop_eq_nil_of_le (by omega)] at h1
      exact h1.symm
    have hR : dropR (B s) = if blankU ((B s).getD n 0) = true then dropR ((B s).take n) else B s := by
      have h1 := dropR_snoc ((B s).take n) ((B s).getD n 0)
      rw [← hsplit] at h1
      exact h1
    rw [hR]
    by_cases hb : blankU ((B s).getD n 0) = true
    · rw [if_pos hb]
      refine ev_if_pos hb (ev_if_pos (by omega) ?_)
      rw [Int.toNat_natCast]
      have hB : B (s.extract 0 n) = (B s).take n := by rw [B_extract]; simp
      have h2 := ih (s.extract 0 n) (by rw [← B_len, hB, List.length_take]; omega) (by omega)
      rw [hB] at h2
      exact h2
    · rw [if_neg hb, ofL_B]
      exact ev_if_neg hb (Ev.now _)
theorem l5Trim_left : ∀ (n : Nat) (s : ByteArray), s.size = n → n ≤ 1048576 → Ev (fun k => spec_l5Trim.l0 k s) (ofL (dropR (dropL (B s)))) := by
  intro n
  induction n with
  | zero =>
    intro s hs hn
    have e : B s = [] := List.length_eq_zero_iff.mp (by rw [B_len]; exact hs)
    have h := l5Trim_right 0 s hs hn
    have e2 : dropL (B s) = B s := by rw [e]; rfl
    rw [e2]
    exact Ev.step (fun k => spec_l5Trim.l0.eq_2 ..) (ev_if_neg (by omega) (Ev.step (fun k => spec_l5Trim.j1.eq_2 ..) h))
  | succ n ih =>
    intro s hs hn
    have hl := B_len s
    refine Ev.step (fun k => spec_l5Trim.l0.eq_2 ..) (ev_if_pos (by omega) (ev_if_pos (by omega) ?_))
    rw [show bt s 0 = _ from bt_U s 0 (by omega)]
    refine ev_bind0 (spec_l4Blank_eq _) ?_
    have hsplit : B s = (B s).getD 0 0 :: (B s).drop 1 := by
      have h1 := drop_cons (B s) 0 0 (by omega)
      rw [List.drop_zero] at h1
      exact h1
    by_cases hb : blankU ((B s).getD 0 0) = true
    · refine ev_if_pos hb (ev_if_pos (by omega) ?_)
      have hB : B (s.extract 1 s.size) = (B s).drop 1 := by
        rw [B_extract, List.take_of_length_le (by rw [List.length_drop]; omega)]
      have h2 := ih (s.extract 1 s.size) (by rw [← B_len, hB, List.length_drop]; omega) (by omega)
      rw [hB] at h2
      have e : dropL (B s) = dropL ((B s).drop 1) := by
        rw [hsplit]; unfold dropL; rw [List.dropWhile_cons, if_pos (by simpa using hb)]; simp
      rw [e]
      exact h2
    · have e : dropL (B s) = B s := by
        rw [hsplit]; unfold dropL; rw [List.dropWhile_cons, if_neg (by simpa using hb)]
      rw [e]
      exact ev_if_neg hb (Ev.step (fun k => spec_l5Trim.j1.eq_2 ..) (l5Trim_right (n + 1) s hs hn))
/-- a text without blanks around it. -/
def trimP (s : ByteArray) : ByteArray := ofL (dropR (dropL (B s)))
theorem trimP_size (s : ByteArray) : (trimP s).size ≤ s.size := by
  rw [← B_len, ← B_len]
  unfold trimP
  rw [B_ofL]
  exact Nat.le_trans (dropR_len _) (dropL_len _)
theorem spec_l5Trim_ev (s : ByteArray) (hs : s.size ≤ 1048576) : Ev (fun k => spec_l5Trim.f k s) (trimP s) := l5Trim_left s.size s rfl hs

/-! spec_l1Down -/
theorem spec_l1Down_eq (a b : Int) (hb : 0 < b) (ha0 : -9223372036854775808 ≤ a) (ha1 : a ≤ 9223372036854775807) : spec_l1Down.f a b = some (a / b) := by
  have hr := ediv_range a b hb
  unfold spec_l1Down.f
  rw [if_neg (by omega)]
  have d0 : decide (b < 0) = false := decide_eq_false (by omega)
  by_cases h1 : Int.tmod a b < 0
  · have h2 := tmod_neg_of hb h1
    have h3 := tdiv_down hb h1
    rw [if_neg (by omega), if_pos (by rw [d0]; simp [h2]), wrap_id (x := Int.tdiv a b) (by omega) (by omega), wrap_id (by omega) (by omega), h3]
  · have h3 := tdiv_even hb h1
    rw [wrap_id (x := Int.tdiv a b) (by omega) (by omega), h3]
    by_cases h0 : Int.tmod a b = 0
    · rw [if_pos h0]
    · rw [if_neg h0, if_neg]
      rw [d0]
      have : ¬ a < 0 := fun h => by have := tmod_of_neg hb h; omega
      simp [this]

/-! spec_l1In -/
theorem spec_l1In_eq (a b c : Int) : spec_l1In.f a b c = some (decide (b ≤ a ∧ a ≤ c)) := by
  unfold spec_l1In.f
  split
  · rename_i h; simp [show b ≤ a from h]
  · rename_i h; simp [show ¬ b ≤ a from h]

/-! spec_GoodFixed -/
theorem spec_GoodFixed_eq (a : Int) : spec_GoodFixed.f a = some (decide (-1099511627776 ≤ a ∧ a ≤ 1099511627776)) := by
  unfold spec_GoodFixed.f; rw [spec_l1In_eq]; rfl

/-! spec_l1Digit -/
-- plain: Word
theorem spec_l1Digit_eq (c : Int) : spec_l1Digit.f c = some (digI c) := by
  unfold spec_l1Digit.f digI
  split
  · rename_i h; congr 1; rw [decide_eq_decide]; omega
  · rename_i h; congr 1; rw [eq_comm, decide_eq_false_iff_not]; omega

/-! spec_l1Decimal -/
-- plain: Evs Num
theorem dec_j10 (at_ x : Int) (h0 : -100000000000000 ≤ x) (h1 : x ≤ 100000000000000) :
    Ev (fun k => spec_l1Decimal.j10 k at_ x) (if -1099511627776 ≤ (x * 65536 + 500000) / 1000000 ∧ (x * 65536 + 500000) / 1000000 ≤ 1099511627776 then (at_, (x * 65536 + 500000) / 1000000) else (0, 0)) := by
  refine ev_done fun k => ?_
  rw [spec_l1Decimal.j10, wrap_id (x := x * 65536) (by omega) (by omega), wrap_id (by omega) (by omega), spec_l1Down_eq _ _ (by omega) (by omega) (by omega), Option.bind_some, spec_GoodFixed_eq, Option.bind_some]
  by_cases h : -1099511627776 ≤ (x * 65536 + 500000) / 1000000 ∧ (x * 65536 + 500000) / 1000000 ≤ 1099511627776
  · rw [if_pos h, if_pos (by simpa using h)]
  · rw [if_neg h, if_neg (by simpa using h)]
theorem dec_l2 (at_ : Int) (neg : Bool) (n behind : Nat) (hb : behind ≤ 6) (hn : n * 10 ^ (6 - behind) ≤ 100000000000000) :
    Ev (fun k => spec_l1Decimal.l2 k at_ neg n behind) (if -1099511627776 ≤ millionths neg (n * 10 ^ (6 - behind)) ∧ millionths neg (n * 10 ^ (6 - behind)) ≤ 1099511627776 then (at_, millionths neg (n * 10 ^ (6 - behind))) else (0, 0)) := by
  have key := ev_up (6 - behind) (fun j k => spec_l1Decimal.l2 k at_ neg ((n * 10 ^ j : Nat) : Int) ((behind + j : Nat) : Int)) (if -1099511627776 ≤ millionths neg (n * 10 ^ (6 - behind)) ∧ millionths neg (n * 10 ^ (6 - behind)) ≤ 1099511627776 then (at_, millionths neg (n * 10 ^ (6 - behind))) else (0, 0)) ?_ ?_
  · simpa using key
  · generalize n * 10 ^ (6 - behind) = m at *
    refine Ev.step (fun k => spec_l1Decimal.l2.eq_2 ..) (ev_if_neg (by omega) ?_)
    unfold millionths
    cases neg
    · refine ev_if_neg (by decide) ?_
      have := dec_j10 at_ (m : Int) (by omega) (by omega)
      simpa using this
    · refine ev_if_pos rfl ?_
      rw [wrap_id (x := -(m : Int)) (by omega) (by omega)]
      have := dec_j10 at_ (-(m : Int)) (by omega) (by omega)
      simpa using this
  · intro j hj h
    refine Ev.step (fun k => spec_l1Decimal.l2.eq_2 ..) (ev_if_pos (by omega) ?_)
    have e1 : n * 10 ^ (j + 1) = n * 10 ^ j * 10 := by rw [Nat.pow_succ, Nat.mul_assoc]
    have e2 : n * 10 ^ (j + 1) ≤ n * 10 ^ (6 - behind) := Nat.mul_le_mul_left _ (pow10_le (by omega))
    rw [e1] at h e2
    generalize n * 10 ^ j = m at *
    rw [wrap_id (x := (m : Int) * 10) (by omega) (by omega), wrap_id (x := ((behind + j : Nat) : Int) + 1) (by omega) (by omega)]
    exact h
theorem dec_fin (at_ : Nat) (neg : Bool) (n ahead behind : Nat) (ha : ahead ≤ 1048576) (hb : behind ≤ 1048576) (hn : ahead ≤ 8 → behind ≤ 6 → n * 10 ^ (6 - behind) ≤ 100000000000000) :
    Ev (fun k => spec_l1Decimal.j7 k at_ neg n ahead behind) (finD at_ neg n ahead behind) := by
  have hz : Ev (fun k => spec_l1Decimal.j8 k at_ neg n behind true) (0, 0) := Ev.step (fun k => spec_l1Decimal.j8.eq_2 ..) (ev_if_pos rfl (Ev.now _))
  unfold finD
  refine Ev.step (fun k => spec_l1Decimal.j7.eq_2 ..) ?_
  rw [wrap_id (x := (ahead : Int) + behind) (by omega) (by omega)]
  by_cases h0 : ahead + behind = 0
  · rw [if_pos (.inl h0)]; exact ev_if_pos (by omega) hz
  · refine ev_if_neg (by omega) ?_
    by_cases h1 : 8 < ahead
    · rw [if_pos (.inr (.inl h1))]; exact ev_if_pos (by omega) hz
    · refine ev_if_neg (by omega) ?_
      by_cases h2 : 6 < behind
      · rw [if_pos (.inr (.inr h2)), decide_eq_true (p := (behind : Int) > 6) (by omega)]; exact hz
      · rw [if_neg (by omega), decide_eq_false (p := (behind : Int) > 6) (by omega)]
        exact Ev.step (fun k => spec_l1Decimal.j8.eq_2 ..) (ev_if_neg (by decide) (dec_l2 at_ neg n behind (by omega) (hn (by omega) (by omega))))
theorem dec_ahead (s : ByteArray) (hs : s.size ≤ 1048576) (p : Nat) (neg : Bool) (r : Int × Int) (hp : p ≤ (B s).length)
    (tail : Ev (fun k => spec_l1Decimal.j3 k s (digEnd (B s) p : Nat) neg (accD (B s) p 0 9 (digEnd (B s) p - p) : Nat) ((digEnd (B s) p - p : Nat) : Int) false) r) :
    Ev (fun k => spec_l1Decimal.l0 k s p neg 0 0) r := by
  have hl := B_len s
  have hge := digEnd_ge (B s) p
  have hle := digEnd_le (B s) p hp
  have key := ev_up (digEnd (B s) p - p) (fun i k => spec_l1Decimal.l0 k s ((p + i : Nat) : Int) neg ((accD (B s) p 0 9 i : Nat) : Int) ((i : Nat) : Int)) r ?_ ?_
  · exact key
  · show Ev (fun k => spec_l1Decimal.l0 k s ((p + (digEnd (B s) p - p) : Nat) : Int) neg _ _) r
    rw [show p + (digEnd (B s) p - p) = digEnd (B s) p by omega]
    refine Ev.step (fun k => spec_l1Decimal.l0.eq_2 ..) ?_
    by_cases hw : digEnd (B s) p < (B s).length
    · refine ev_if_pos (by omega) (ev_if_pos (by omega) (ev_bind0 (spec_l1Digit_eq _) ?_))
      have h2 := digEnd_stop (B s) p hw
      rw [bt_U s _ hw]
      unfold digU at h2
      rw [h2]
      exact tail
    · exact ev_if_neg (by omega) tail
  · intro i hi h
    obtain ⟨h1, h2⟩ := digEnd_mem (B s) p (p + i) (by omega) (by omega)
    obtain ⟨h3, h4, h5⟩ := digV_le h2
    refine Ev.step (fun k => spec_l1Decimal.l0.eq_2 ..) (ev_if_pos (by omega) (ev_if_pos (by omega) (ev_bind0 (spec_l1Digit_eq _) ?_)))
    rw [bt_U s _ h1]
    unfold digU at h2
    rw [h2]
    refine Ev.step (fun k => spec_l1Decimal.j3.eq_2 ..) (ev_if_pos rfl ?_)
    have hb := accD_lt' (B s) p 0 9 i 1 (fun j hj => (digV_le (digEnd_mem (B s) p (p + j) (by omega) (by omega)).2).1) (by omega)
    rw [accD] at h
    by_cases hc : i < 9
    · have hp9 := pow10_le (a := i) (b := 9) (by omega)
      rw [if_pos hc] at h
      refine ev_if_pos (by omega) (ev_if_pos (by omega) (ev_if_pos (by omega) ?_))
      rw [bt_U s _ h1, h5, wrap_id (x := 10 * ((accD (B s) p 0 9 i : Nat) : Int)) (by omega) (by omega), wrap_id (x := 10 * ((accD (B s) p 0 9 i : Nat) : Int) + _) (by omega) (by omega), wrap_id (x := ((p + i : Nat) : Int) + 1) (by omega) (by omega), wrap_id (x := (i : Int) + 1) (by omega) (by omega)]
      have e : ((10 * accD (B s) p 0 9 i + digV (B s) (p + i) : Nat) : Int) = 10 * ((accD (B s) p 0 9 i : Nat) : Int) + (digV (B s) (p + i) : Nat) := by omega
      rw [e] at h
      exact h
    · rw [if_neg hc] at h
      refine ev_if_neg (by omega) ?_
      rw [wrap_id (x := ((p + i : Nat) : Int) + 1) (by omega) (by omega), wrap_id (x := (i : Int) + 1) (by omega) (by omega)]
      exact h
theorem dec_behind (s : ByteArray) (hs : s.size ≤ 1048576) (q v ahead : Nat) (neg : Bool) (r : Int × Int) (hq : q ≤ (B s).length) (hv : v + 1 ≤ 10 ^ 9)
    (tail : Ev (fun k => spec_l1Decimal.j7 k (digEnd (B s) q : Nat) neg (accD (B s) q v 6 (digEnd (B s) q - q) : Nat) ahead ((digEnd (B s) q - q : Nat) : Int)) r) :
    Ev (fun k => spec_l1Decimal.l1 k s q neg v ahead 0) r := by
  have hl := B_len s
  have hge := digEnd_ge (B s) q
  have hle := digEnd_le (B s) q hq
  have key := ev_up (digEnd (B s) q - q) (fun i k => spec_l1Decimal.l1 k s ((q + i : Nat) : Int) neg ((accD (B s) q v 6 i : Nat) : Int) ahead ((i : Nat) : Int)) r ?_ ?_
  · exact key
  · show Ev (fun k => spec_l1Decimal.l1 k s ((q + (digEnd (B s) q - q) : Nat) : Int) neg _ _ _) r
    rw [show q + (digEnd (B s) q - q) = digEnd (B s) q by omega]
    refine Ev.step (fun k => spec_l1Decimal.l1.eq_2 ..) ?_
    have t2 : Ev (fun k => spec_l1Decimal.j6 k s (digEnd (B s) q : Nat) neg (accD (B s) q v 6 (digEnd (B s) q - q) : Nat) ahead ((digEnd (B s) q - q : Nat) : Int) false) r := Ev.step (fun k => spec_l1Decimal.j6.eq_2 ..) (ev_if_neg (by decide) tail)
    by_cases hw : digEnd (B s) q < (B s).length
    · refine ev_if_pos (by omega) (ev_if_pos (by omega) (ev_bind0 (spec_l1Digit_eq _) ?_))
      have h2 := digEnd_stop (B s) q hw
      rw [bt_U s _ hw]
      unfold digU at h2
      rw [h2]
      exact t2
    · exact ev_if_neg (by omega) t2
  · intro i hi h
    obtain ⟨h1, h2⟩ := digEnd_mem (B s) q (q + i) (by omega) (by omega)
    obtain ⟨h3, h4, h5⟩ := digV_le h2
    refine Ev.step (fun k => spec_l1Decimal.l1.eq_2 ..) (ev_if_pos (by omega) (ev_if_pos (by omega) (ev_bind0 (spec_l1Digit_eq _) ?_)))
    rw [bt_U s _ h1]
    unfold digU at h2
    rw [h2]
    refine Ev.step (fun k => spec_l1Decimal.j6.eq_2 ..) (ev_if_pos rfl ?_)
    have hb := accD_lt (B s) q v 6 i (10 ^ 9) (fun j hj => (digV_le (digEnd_mem (B s) q (q + j) (by omega) (by omega)).2).1) hv
    rw [accD] at h
    by_cases hc : i < 6
    · rw [if_pos hc] at h
      refine ev_if_pos (by omega) (ev_if_pos (by omega) (ev_if_pos (by omega) ?_))
      rw [bt_U s _ h1, h5, wrap_id (x := 10 * ((accD (B s) q v 6 i : Nat) : Int)) (by omega) (by omega), wrap_id (x := 10 * ((accD (B s) q v 6 i : Nat) : Int) + _) (by omega) (by omega), wrap_id (x := ((q + i : Nat) : Int) + 1) (by omega) (by omega), wrap_id (x := (i : Int) + 1) (by omega) (by omega)]
      have e : ((10 * accD (B s) q v 6 i + digV (B s) (q + i) : Nat) : Int) = 10 * ((accD (B s) q v 6 i : Nat) : Int) + (digV (B s) (q + i) : Nat) := by omega
      rw [e] at h
      exact h
    · rw [if_neg hc] at h
      refine ev_if_neg (by omega) ?_
      rw [wrap_id (x := ((q + i : Nat) : Int) + 1) (by omega) (by omega), wrap_id (x := (i : Int) + 1) (by omega) (by omega)]
      exact h
theorem num_bound (l : List UInt8) (p w : Nat) (hw : w = digEnd l p) : accD l p 0 9 (w - p) + 1 ≤ 10 ^ 9 ∧ (w - p ≤ 8 → accD l p 0 9 (w - p) + 1 ≤ 10 ^ 8) := by
  subst hw
  have hd : ∀ i, i < digEnd l p - p → digV l (p + i) ≤ 9 := fun j hj => (digV_le (digEnd_mem l p (p + j) (by omega) (by omega)).2).1
  have h1 := accD_lt l p 0 9 (digEnd l p - p) 1 hd (by omega)
  have h2 := accD_lt' l p 0 9 (digEnd l p - p) 1 hd (by omega)
  refine ⟨by omega, fun h => ?_⟩
  have h3 := pow10_le (a := digEnd l p - p) (b := 8) h
  omega
theorem num_bound2 (l : List UInt8) (q v e : Nat) (he : e = digEnd l q) (hv : v + 1 ≤ 10 ^ 8) (h6 : e - q ≤ 6) : accD l q v 6 (e - q) * 10 ^ (6 - (e - q)) ≤ 100000000000000 := by
  subst he
  have hd : ∀ i, i < digEnd l q - q → digV l (q + i) ≤ 9 := fun j hj => (digV_le (digEnd_mem l q (q + j) (by omega) (by omega)).2).1
  have h2 := accD_lt' l q v 6 (digEnd l q - q) (10 ^ 8) hd hv
  generalize hm : digEnd l q - q = m at *
  have h3 : accD l q v 6 m * 10 ^ (6 - m) ≤ 10 ^ 8 * 10 ^ m * 10 ^ (6 - m) := Nat.mul_le_mul_right _ (by omega)
  rw [Nat.mul_assoc, ← Nat.pow_add, show m + (6 - m) = 6 by omega] at h3
  exact h3
theorem spec_l1Decimal_tail (s : ByteArray) (hs : s.size ≤ 1048576) (p : Nat) (neg : Bool) (hp : p ≤ (B s).length) (hpe : p = signAt (B s)) (hne : neg = negAt (B s)) :
    Ev (fun k => spec_l1Decimal.j1 k s p neg) (decimalP (B s)) := by
  have hl := B_len s
  refine Ev.step (fun k => spec_l1Decimal.j1.eq_2 ..) ?_
  refine dec_ahead s hs p neg _ hp ?_
  refine Ev.step (fun k => spec_l1Decimal.j3.eq_2 ..) (ev_if_neg (by decide) ?_)
  have hge := digEnd_ge (B s) p
  have hle := digEnd_le (B s) p hp
  obtain ⟨hb1, hb2⟩ := num_bound (B s) p _ rfl
  unfold decimalP
  rw [← hpe, ← hne]
  obtain ⟨w, hw⟩ : ∃ w, digEnd (B s) p = w := ⟨_, rfl⟩
  obtain ⟨v, hv⟩ : ∃ v, accD (B s) p 0 9 (w - p) = v := ⟨_, rfl⟩
  rw [hw] at hge hle hb1 hb2 ⊢
  rw [hv] at hb1 hb2 ⊢
  rw [wrap_id (x := (w : Int) + 1) (by omega) (by omega)]
  have none_ : Ev (fun k => spec_l1Decimal.j4 k s w neg v ((w - p : Nat) : Int) 0 false) (finD w neg v (w - p) 0) := by
    refine Ev.step (fun k => spec_l1Decimal.j4.eq_2 ..) (ev_if_neg (by decide) ?_)
    refine dec_fin w neg v (w - p) 0 (by omega) (by omega) (fun h _ => ?_)
    have := hb2 h
    omega
  by_cases h1 : w + 1 < (B s).length
  · refine ev_if_pos (by omega) (ev_if_pos (by omega) (ev_if_pos (by omega) ?_))
    rw [bt_U s w (by omega)]
    by_cases h2 : ((B s).getD w 0).toNat = 46
    · refine ev_if_pos (by omega) (ev_if_pos (by omega) (ev_bind0 (spec_l1Digit_eq _) ?_))
      rw [cast_succ, bt_U s (w + 1) (by omega)]
      by_cases h3 : digU ((B s).getD (w + 1) 0) = true
      · rw [if_pos ⟨h1, h2, h3⟩]
        unfold digU at h3
        rw [h3]
        refine Ev.step (fun k => spec_l1Decimal.j4.eq_2 ..) (ev_if_pos rfl ?_)
        rw [wrap_id (x := (w : Int) + 1) (by omega) (by omega), cast_succ]
        have hge2 := digEnd_ge (B s) (w + 1)
        have hle2 := digEnd_le (B s) (w + 1) (by omega)
        refine dec_behind s hs (w + 1) v (w - p) neg _ (by omega) hb1 ?_
        exact dec_fin _ neg _ (w - p) _ (by omega) (by omega) (fun h h6 => num_bound2 (B s) (w + 1) v _ rfl (hb2 h) h6)
      · rw [if_neg (fun h => h3 h.2.2)]
        have h4 : digI (((B s).getD (w + 1) 0).toNat : Int) = false := by unfold digU at h3; simpa using h3
        rw [h4]
        exact none_
    · rw [if_neg (fun h => h2 h.2.1)]
      exact ev_if_neg (by omega) none_
  · rw [if_neg (fun h => h1 h.1)]
    exact ev_if_neg (by omega) none_
theorem spec_l1Decimal_ev (s : ByteArray) (hs : s.size ≤ 1048576) : Ev (fun k => spec_l1Decimal.f k s) (decimalP (B s)) := by
  have hl := B_len s
  simp only [spec_l1Decimal.f]
  have yes (h0 : 0 < s.size) (hc : ((B s).getD 0 0).toNat = 45 ∨ ((B s).getD 0 0).toNat = 43) : Ev (fun k => spec_l1Decimal.j0 k s 0 false true) (decimalP (B s)) := by
    refine Ev.step (fun k => spec_l1Decimal.j0.eq_2 ..) (ev_if_pos rfl (ev_if_pos (by omega) (ev_if_pos (by omega) ?_)))
    have hb := bt_U s 0 (by omega)
    have e : ((bt s 0) == 45) = negAt (B s) := by
      unfold negAt
      rw [show bt s 0 = _ from hb]
      rw [Bool.eq_iff_iff]; simp; omega
    rw [e, show wrap64 (0 + 1) = ((1 : Nat) : Int) from wrap_id (by omega) (by omega)]
    exact spec_l1Decimal_tail s hs 1 _ (by omega) (by unfold signAt; rw [if_pos ⟨by omega, hc⟩]) rfl
  have no (hc : ¬ (0 < (B s).length ∧ (((B s).getD 0 0).toNat = 45 ∨ ((B s).getD 0 0).toNat = 43))) : Ev (fun k => spec_l1Decimal.j0 k s 0 false false) (decimalP (B s)) := by
    refine Ev.step (fun k => spec_l1Decimal.j0.eq_2 ..) (ev_if_neg (by decide) ?_)
    exact spec_l1Decimal_tail s hs 0 _ (by omega) (by unfold signAt; rw [if_neg hc]) (by unfold negAt; rw [eq_comm, decide_eq_false_iff_not]; exact fun h => hc ⟨h.1, .inl h.2⟩)
  by_cases h0 : 0 < s.size
  · refine ev_if_pos (by omega) ?_
    have hb := bt_U s 0 (by omega)
    rw [show bt s 0 = _ from hb]
    by_cases h1 : ((B s).getD 0 0).toNat = 45
    · exact ev_if_pos (by omega) (yes h0 (.inl h1))
    · refine ev_if_neg (by omega) ?_
      by_cases h2 : ((B s).getD 0 0).toNat = 43
      · rw [show ((((B s).getD 0 0).toNat : Int) == 43) = true from beq_iff_eq.mpr (by omega)]
        exact yes h0 (.inr h2)
      · rw [show ((((B s).getD 0 0).toNat : Int) == 43) = false from beq_eq_false_iff_ne.mpr (by omega)]
        exact no (fun h => by rcases h.2 with h | h; exact h1 h; exact h2 h)
  · exact ev_if_neg (by omega) (no (by omega))

/-! spec_l7Gap -/
-- plain: Evs Trim Gap
theorem gap_l1 (l : List UInt8) : ∀ (n p : Nat), l.length - p = n → p ≤ l.length → Ev (fun k => spec_l7Gap.l1 k (ofL (l.drop p))) (ofL (l.drop (runEnd blankU l p))) := by
  intro n
  induction n with
  | zero =>
    intro p hn hp
    have hz : (ofL (l.drop p)).size = l.length - p := by rw [ofL_size, List.length_drop]
    rw [runEnd_end blankU l p (by omega)]
    exact Ev.step (fun k => spec_l7Gap.l1.eq_2 ..) (ev_if_neg (by omega) (Ev.now _))
  | succ n ih =>
    intro p hn hp
    have hz : (ofL (l.drop p)).size = l.length - p := by rw [ofL_size, List.length_drop]
    refine Ev.step (fun k => spec_l7Gap.l1.eq_2 ..) (ev_if_pos (by omega) (ev_if_pos (by omega) ?_))
    rw [show bt (ofL (l.drop p)) 0 = _ from bt_ofL (l.drop p) 0 (by rw [List.length_drop]; omega), getD_drop, Nat.add_zero]
    refine ev_bind0 (spec_l4Blank_eq _) ?_
    by_cases hb : blankU (l.getD p 0) = true
    · rw [runEnd_yes blankU l p (by omega) hb]
      refine ev_if_pos hb (ev_if_pos (by omega) ?_)
      rw [ofL_from, List.drop_drop]
      exact ih (p + 1) (by omega) (by omega)
    · rw [runEnd_no blankU l p (by omega) hb]
      exact ev_if_neg hb (Ev.now _)
theorem gap_l0 (l : List UInt8) (r : ByteArray) : ∀ (n p : Nat), l.length - p = n → p ≤ l.length → Ev (fun k => spec_l7Gap.j1 k (ofL (l.drop (runEnd blankU l p)))) r → Ev (fun k => spec_l7Gap.l0 k (ofL (l.drop p))) r := by
  intro n
  induction n with
  | zero =>
    intro p hn hp h
    have hz : (ofL (l.drop p)).size = l.length - p := by rw [ofL_size, List.length_drop]
    rw [runEnd_end blankU l p (by omega)] at h
    exact Ev.step (fun k => spec_l7Gap.l0.eq_2 ..) (ev_if_neg (by omega) h)
  | succ n ih =>
    intro p hn hp h
    have hz : (ofL (l.drop p)).size = l.length - p := by rw [ofL_size, List.length_drop]
    refine Ev.step (fun k => spec_l7Gap.l0.eq_2 ..) (ev_if_pos (by omega) (ev_if_pos (by omega) ?_))
    rw [show bt (ofL (l.drop p)) 0 = _ from bt_ofL (l.drop p) 0 (by rw [List.length_drop]; omega), getD_drop, Nat.add_zero]
    refine ev_bind0 (spec_l4Blank_eq _) ?_
    by_cases hb : blankU (l.getD p 0) = true
    · rw [runEnd_yes blankU l p (by omega) hb] at h
      refine ev_if_pos hb (ev_if_pos (by omega) ?_)
      rw [ofL_from, List.drop_drop]
      exact ih (p + 1) (by omega) (by omega) h
    · rw [runEnd_no blankU l p (by omega) hb] at h
      exact ev_if_neg hb h
theorem spec_l7Gap_ev (l : List UInt8) : Ev (fun k => spec_l7Gap.f k (ofL l)) (ofL (l.drop (gapEnd l 0))) := by
  have h : Ev (fun k => spec_l7Gap.l0 k (ofL (l.drop 0))) (ofL (l.drop (gapEnd l 0))) := by
    refine gap_l0 l _ l.length 0 (by omega) (by omega) ?_
    have hle := runEnd_le blankU l 0 (by omega)
    unfold gapEnd
    obtain ⟨q, hq⟩ : ∃ q, runEnd blankU l 0 = q := ⟨_, rfl⟩
    rw [hq] at hle ⊢
    have hz : (ofL (l.drop q)).size = l.length - q := by rw [ofL_size, List.length_drop]
    refine Ev.step (fun k => spec_l7Gap.j1.eq_2 ..) ?_
    have stay (hc : ¬ (q < l.length ∧ (l.getD q 0).toNat = 44)) : Ev (fun k => spec_l7Gap.j2 k (ofL (l.drop q)) false) (ofL (l.drop (if q < l.length ∧ (l.getD q 0).toNat = 44 then runEnd blankU l (q + 1) else q))) := by
      rw [if_neg hc]
      have h1 := gap_l1 l (l.length - q) q rfl (by omega)
      have e : runEnd blankU l q = q := by
        by_cases hq2 : q < l.length
        · refine runEnd_no blankU l q hq2 ?_
          have := runEnd_stop blankU l l.length 0 (by omega) (by omega)
          rw [hq] at this
          exact this
        · exact runEnd_end blankU l q (by omega)
      rw [e] at h1
      exact Ev.step (fun k => spec_l7Gap.j2.eq_2 ..) (ev_if_neg (by decide) (Ev.step (fun k => spec_l7Gap.j3.eq_2 ..) h1))
    by_cases hq2 : q < l.length
    · refine ev_if_pos (by omega) (ev_if_pos (by omega) ?_)
      rw [show bt (ofL (l.drop q)) 0 = _ from bt_ofL (l.drop q) 0 (by rw [List.length_drop]; omega), getD_drop, Nat.add_zero]
      by_cases hc : (l.getD q 0).toNat = 44
      · rw [if_pos ⟨hq2, hc⟩, show (((l.getD q 0).toNat : Int) == 44) = true from beq_iff_eq.mpr (by omega)]
        refine Ev.step (fun k => spec_l7Gap.j2.eq_2 ..) (ev_if_pos rfl (ev_if_pos (by omega) ?_))
        rw [ofL_from, List.drop_drop]
        exact Ev.step (fun k => spec_l7Gap.j3.eq_2 ..) (gap_l1 l (l.length - (q + 1)) (q + 1) rfl (by omega))
      · rw [show (((l.getD q 0).toNat : Int) == 44) = false from beq_eq_false_iff_ne.mpr (by omega)]
        exact stay (fun h => hc h.2)
    · exact ev_if_neg (by omega) (stay (fun h => hq2 h.1))
  rw [List.drop_zero] at h
  exact h

/-! impl_trimmed -/
-- plain: Trim
theorem impl_trimmed_eq (s : ByteArray) (hs : s.size ≤ 1048576) : impl_trimmed.f s = some (trimP s) := by
  unfold impl_trimmed.f
  rw [if_pos (by omega)]
  have e : trimB s = trimP s := by
    unfold trimB trimP
    show ofL (dropL (dropR (B s))) = _
    rw [dropL_dropR]
  rw [e]

/-! impl_down -/
theorem impl_down_eq (a b : Int) (hb : 0 < b) (ha0 : -9223372036854775808 ≤ a) (ha1 : a ≤ 9223372036854775807) : impl_down.f a b = some (a / b) := by
  have hr := ediv_range a b hb
  unfold impl_down.f
  rw [if_neg (by omega)]
  by_cases h1 : Int.tmod a b < 0
  · have h2 := tmod_neg_of hb h1
    have h3 := tdiv_down hb h1
    rw [if_pos h1, wrap_id (x := Int.tdiv a b) (by omega) (by omega), wrap_id (by omega) (by omega), h3]
  · have h3 := tdiv_even hb h1
    rw [if_neg h1, wrap_id (x := Int.tdiv a b) (by omega) (by omega), h3]

/-! impl_within -/
theorem impl_within_eq (a b c : Int) : impl_within.f a b c = some (decide (b ≤ a ∧ a ≤ c)) := by
  unfold impl_within.f
  split
  · rename_i h; simp [h]
  · rename_i h; simp [h]

/-! impl_GoodFixed -/
theorem impl_GoodFixed_eq (a : Int) : impl_GoodFixed.f a = some (decide (-1099511627776 ≤ a ∧ a ≤ 1099511627776)) := by
  unfold impl_GoodFixed.f; rw [impl_within_eq]; rfl

/-! impl_isDigit -/
-- plain: Word
theorem impl_isDigit_eq (c : Int) : impl_isDigit.f c = some (digI c) := by
  unfold impl_isDigit.f digI
  split
  · rename_i h; congr 1; rw [decide_eq_decide]; omega
  · rename_i h; congr 1; rw [eq_comm, decide_eq_false_iff_not]; omega

/-! impl_digitsFrom -/
-- plain: Evs Num
theorem impl_digitsFrom_ev (s : ByteArray) (hs : s.size ≤ 1048577) (p : Nat) (hp : p ≤ (B s).length) : Ev (fun k => impl_digitsFrom.f k s p) ((digEnd (B s) p : Nat) : Int) := by
  have hl := B_len s
  have hge := digEnd_ge (B s) p
  have hle := digEnd_le (B s) p hp
  have key := ev_up (digEnd (B s) p - p) (fun i k => impl_digitsFrom.l0 k s ((p + i : Nat) : Int)) ((digEnd (B s) p : Nat) : Int) ?_ ?_
  · exact key
  · show Ev (fun k => impl_digitsFrom.l0 k s ((p + (digEnd (B s) p - p) : Nat) : Int)) _
    rw [show p + (digEnd (B s) p - p) = digEnd (B s) p by omega]
    refine Ev.step (fun k => impl_digitsFrom.l0.eq_2 ..) ?_
    by_cases hw : digEnd (B s) p < (B s).length
    · refine ev_if_pos (by omega) (ev_if_pos (by omega) (ev_bind0 (impl_isDigit_eq _) ?_))
      have h2 := digEnd_stop (B s) p hw
      rw [bt_U s _ hw]
      unfold digU at h2
      rw [h2]
      exact ev_if_neg (by decide) (Ev.now _)
    · exact ev_if_neg (by omega) (Ev.now _)
  · intro i hi h
    obtain ⟨h1, h2⟩ := digEnd_mem (B s) p (p + i) (by omega) (by omega)
    refine Ev.step (fun k => impl_digitsFrom.l0.eq_2 ..) (ev_if_pos (by omega) (ev_if_pos (by omega) (ev_bind0 (impl_isDigit_eq _) ?_)))
    rw [bt_U s _ h1]
    unfold digU at h2
    rw [h2]
    refine ev_if_pos rfl ?_
    rw [wrap_id (x := ((p + i : Nat) : Int) + 1) (by omega) (by omega)]
    exact h

/-! impl_ReadFixed -/
-- plain: Evs Num Fix
/-- the answer of so many millionths. -/
def endP (neg : Bool) (n : Nat) : Int × Bool := if -1099511627776 ≤ millionths neg n ∧ millionths neg n ≤ 1099511627776 then (millionths neg n, true) else (0, false)
def sgn (neg : Bool) : Int := if neg = true then -1 else 1
theorem rf_l2 (neg : Bool) (n m : Nat) (hm : m ≤ 6) (hn : n * 10 ^ m ≤ 100000000000000) : Ev (fun k => impl_ReadFixed.l2 k (sgn neg) n m) (endP neg (n * 10 ^ m)) := by
  have key := ev_up m (fun j k => impl_ReadFixed.l2 k (sgn neg) ((n * 10 ^ j : Nat) : Int) ((m - j : Nat) : Int)) (endP neg (n * 10 ^ m)) ?_ ?_
  · simpa using key
  · generalize n * 10 ^ m = t at *
    refine Ev.step (fun k => impl_ReadFixed.l2.eq_2 ..) (ev_if_neg (by omega) ?_)
    have e : wrap64 (sgn neg * (t : Int)) = if neg = true then -(t : Int) else (t : Int) := by
      cases neg
      · rw [if_neg (by decide)]; unfold sgn; rw [if_neg (by decide), Int.one_mul]; exact wrap_id (by omega) (by omega)
      · rw [if_pos rfl]; unfold sgn; rw [if_pos rfl, Int.neg_one_mul]; exact wrap_id (by omega) (by omega)
    rw [e]
    unfold endP millionths
    have hr : -100000000000000 ≤ (if neg = true then -(t : Int) else (t : Int)) ∧ (if neg = true then -(t : Int) else (t : Int)) ≤ 100000000000000 := by split <;> omega
    generalize (if neg = true then -(t : Int) else (t : Int)) = x at *
    rw [wrap_id (x := x * 65536) (by omega) (by omega), wrap_id (x := x * 65536 + 500000) (by omega) (by omega)]
    refine ev_bind0 (impl_down_eq _ _ (by omega) (by omega) (by omega)) (ev_bind0 (impl_GoodFixed_eq _) ?_)
    by_cases h : -1099511627776 ≤ (x * 65536 + 500000) / 1000000 ∧ (x * 65536 + 500000) / 1000000 ≤ 1099511627776
    · rw [if_pos h]; exact ev_if_pos (by simpa using h) (Ev.now _)
    · rw [if_neg h]; exact ev_if_neg (by simpa using h) (Ev.now _)
  · intro j hj h
    refine Ev.step (fun k => impl_ReadFixed.l2.eq_2 ..) (ev_if_pos (by omega) ?_)
    have e1 : n * 10 ^ (j + 1) = n * 10 ^ j * 10 := by rw [Nat.pow_succ, Nat.mul_assoc]
    have e2 : n * 10 ^ (j + 1) ≤ n * 10 ^ m := Nat.mul_le_mul_left _ (pow10_le (by omega))
    rw [e1] at h e2
    generalize n * 10 ^ j = t at *
    rw [wrap_id (x := (t : Int) * 10) (by omega) (by omega), wrap_id (x := ((m - j : Nat) : Int) - 1) (by omega) (by omega), show ((m - j : Nat) : Int) - 1 = ((m - (j + 1) : Nat) : Int) by omega]
    exact h
theorem rf_l1 (s : ByteArray) (hs : s.size ≤ 1048576) (neg : Bool) (q v : Nat) (hq : q ≤ (B s).length) (hv : v + 1 ≤ 10 ^ 8) (h6 : digEnd (B s) q - q ≤ 6) :
    Ev (fun k => impl_ReadFixed.l1 k s (sgn neg) (digEnd (B s) q : Nat) v 6 q) (endP neg (accD (B s) q v 6 (digEnd (B s) q - q) * 10 ^ (6 - (digEnd (B s) q - q)))) := by
  have hl := B_len s
  have hge := digEnd_ge (B s) q
  have hle := digEnd_le (B s) q hq
  have key := ev_up (digEnd (B s) q - q) (fun i k => impl_ReadFixed.l1 k s (sgn neg) (digEnd (B s) q : Nat) ((accD (B s) q v 6 i : Nat) : Int) ((6 - i : Nat) : Int) ((q + i : Nat) : Int)) (endP neg (accD (B s) q v 6 (digEnd (B s) q - q) * 10 ^ (6 - (digEnd (B s) q - q)))) ?_ ?_
  · exact key
  · exact Ev.step (fun k => impl_ReadFixed.l1.eq_2 ..) (ev_if_neg (by omega) (rf_l2 neg _ _ (by omega) (num_bound2 (B s) q v _ rfl hv h6)))
  · intro i hi h
    obtain ⟨h1, h2⟩ := digEnd_mem (B s) q (q + i) (by omega) (by omega)
    obtain ⟨h3, h4, h5⟩ := digV_le h2
    refine Ev.step (fun k => impl_ReadFixed.l1.eq_2 ..) (ev_if_pos (by omega) (ev_if_pos (by omega) (ev_if_pos (by omega) ?_)))
    have hb := accD_lt (B s) q v 6 i (10 ^ 8) (fun j hj => (digV_le (digEnd_mem (B s) q (q + j) (by omega) (by omega)).2).1) hv
    rw [accD, if_pos (by omega)] at h
    rw [bt_U s _ h1, h5, wrap_id (x := 10 * ((accD (B s) q v 6 i : Nat) : Int)) (by omega) (by omega), wrap_id (x := 10 * ((accD (B s) q v 6 i : Nat) : Int) + _) (by omega) (by omega), wrap_id (x := ((q + i : Nat) : Int) + 1) (by omega) (by omega), wrap_id (x := ((6 - i : Nat) : Int) - 1) (by omega) (by omega)]
    have e : ((10 * accD (B s) q v 6 i + digV (B s) (q + i) : Nat) : Int) = 10 * ((accD (B s) q v 6 i : Nat) : Int) + (digV (B s) (q + i) : Nat) := by omega
    rw [e] at h
    rw [show ((6 - i : Nat) : Int) - 1 = ((6 - (i + 1) : Nat) : Int) by omega]
    exact h
theorem rf_l0 (s : ByteArray) (hs : s.size ≤ 1048576) (sg : Int) (p e : Nat) (r : Int × Bool) (hp : p ≤ (B s).length) (h8 : digEnd (B s) p - p ≤ 8)
    (tail : Ev (fun k => impl_ReadFixed.l1 k s sg e (accD (B s) p 0 9 (digEnd (B s) p - p) : Nat) 6 ((digEnd (B s) p + 1 : Nat) : Int)) r) :
    Ev (fun k => impl_ReadFixed.l0 k s sg (digEnd (B s) p : Nat) e 0 6 (bytesOf (s.extract p (digEnd (B s) p))) ((bytesOf (s.extract p (digEnd (B s) p))).length : Int) 0) r := by
  have hl := B_len s
  have hge := digEnd_ge (B s) p
  have hle := digEnd_le (B s) p hp
  have hBe : B (s.extract p (digEnd (B s) p)) = ((B s).drop p).take (digEnd (B s) p - p) := B_extract _ _ _
  have hlen : (bytesOf (s.extract p (digEnd (B s) p))).length = digEnd (B s) p - p := by
    rw [bytesOf_length, ← B_len, hBe, List.length_take, List.length_drop]; omega
  rw [hlen]
  have key := ev_up (digEnd (B s) p - p) (fun i k => impl_ReadFixed.l0 k s sg (digEnd (B s) p : Nat) e ((accD (B s) p 0 9 i : Nat) : Int) 6 (bytesOf (s.extract p (digEnd (B s) p))) ((digEnd (B s) p - p : Nat) : Int) ((i : Nat) : Int)) r ?_ ?_
  · exact key
  · refine Ev.step (fun k => impl_ReadFixed.l0.eq_2 ..) (ev_if_neg (by omega) ?_)
    rw [wrap_id (x := ((digEnd (B s) p : Nat) : Int) + 1) (by omega) (by omega)]
    exact tail
  · intro i hi h
    obtain ⟨h1, h2⟩ := digEnd_mem (B s) p (p + i) (by omega) (by omega)
    obtain ⟨h3, h4, h5⟩ := digV_le h2
    refine Ev.step (fun k => impl_ReadFixed.l0.eq_2 ..) (ev_if_pos (by omega) (ev_if_pos (by omega) (ev_if_pos (by omega) ?_)))
    have hb := accD_lt' (B s) p 0 9 i 1 (fun j hj => (digV_le (digEnd_mem (B s) p (p + j) (by omega) (by omega)).2).1) (by omega)
    have hp8 := pow10_le (a := i) (b := 8) (by omega)
    have hrd : rd (bytesOf (s.extract p (digEnd (B s) p))) (i : Int) = (((B s).getD (p + i) 0).toNat : Int) := by
      rw [rd_bytesOf, bt_U _ i (by rw [hBe, List.length_take, List.length_drop]; omega), hBe]
      rw [List.getD_eq_getElem?_getD, List.getElem?_take_of_lt (by omega), List.getElem?_drop, ← List.getD_eq_getElem?_getD]
    rw [accD, if_pos (by omega)] at h
    rw [hrd, h5, wrap_id (x := 10 * ((accD (B s) p 0 9 i : Nat) : Int)) (by omega) (by omega), wrap_id (x := 10 * ((accD (B s) p 0 9 i : Nat) : Int) + _) (by omega) (by omega), wrap_id (x := (i : Int) + 1) (by omega) (by omega)]
    have e : ((10 * accD (B s) p 0 9 i + digV (B s) (p + i) : Nat) : Int) = 10 * ((accD (B s) p 0 9 i : Nat) : Int) + (digV (B s) (p + i) : Nat) := by omega
    rw [e] at h
    exact h
theorem rf_j3 (s : ByteArray) (hs : s.size ≤ 1048576) (sg : Int) (p e : Nat) (r : Int × Bool) (hp : p ≤ (B s).length) (he : e ≤ (B s).length)
    (tail : e = (B s).length → digEnd (B s) p - p ≤ 8 → e ≠ p → Ev (fun k => impl_ReadFixed.l1 k s sg e (accD (B s) p 0 9 (digEnd (B s) p - p) : Nat) 6 ((digEnd (B s) p + 1 : Nat) : Int)) r) :
    Ev (fun k => impl_ReadFixed.j3 k s p sg (digEnd (B s) p : Nat) e) (if e = (B s).length ∧ digEnd (B s) p - p ≤ 8 ∧ e ≠ p then r else (0, false)) := by
  have hl := B_len s
  have hge := digEnd_ge (B s) p
  have hle := digEnd_le (B s) p hp
  have hz : Ev (fun k => impl_ReadFixed.j4 k s p sg (digEnd (B s) p : Nat) e true) (0, false) := Ev.step (fun k => impl_ReadFixed.j4.eq_2 ..) (ev_if_pos rfl (Ev.now _))
  refine Ev.step (fun k => impl_ReadFixed.j3.eq_2 ..) ?_
  rw [wrap_id (x := ((digEnd (B s) p : Nat) : Int) - p) (by omega) (by omega)]
  by_cases h1 : e = (B s).length
  · refine ev_if_pos (by omega) ?_
    by_cases h2 : digEnd (B s) p - p ≤ 8
    · refine ev_if_neg (by omega) ?_
      by_cases h3 : e = p
      · rw [if_neg (by omega), show ((e : Int) == (p : Int)) = true from beq_iff_eq.mpr (by omega)]; exact hz
      · rw [if_pos ⟨h1, h2, h3⟩, show ((e : Int) == (p : Int)) = false from beq_eq_false_iff_ne.mpr (by omega)]
        refine Ev.step (fun k => impl_ReadFixed.j4.eq_2 ..) (ev_if_neg (by decide) (ev_if_pos (by omega) (ev_if_pos (by omega) (ev_if_pos (by omega) ?_))))
        rw [Int.toNat_natCast, Int.toNat_natCast]
        have hsz : (s.extract p (digEnd (B s) p)).size ≤ 9223372036854775807 := by
          rw [← B_len, B_extract, List.length_take, List.length_drop]; omega
        refine ev_if_pos hsz ?_
        exact rf_l0 s hs sg p e r hp h2 (tail h1 h2 h3)
    · rw [if_neg (by omega)]; exact ev_if_pos (by omega) hz
  · rw [if_neg (by omega)]; exact ev_if_neg (by omega) hz
theorem readP_short (l : List UInt8) (w n a b : Nat) (neg : Bool) (h : decimalP l = finD w neg n a b) (hw : w < l.length) : readP l = (0, false) := by
  unfold readP
  rw [h]
  unfold finD
  split
  · rfl
  · split
    · simp only
      split
      · rfl
      · rw [if_pos (by omega)]
    · rfl
theorem readP_whole (l : List UInt8) (w n a b : Nat) (neg : Bool) (h : decimalP l = finD w neg n a b) (hw : w = l.length) (hw0 : a + b ≠ 0 → w ≠ 0) :
    readP l = if a + b = 0 ∨ 8 < a ∨ 6 < b then (0, false) else endP neg (n * 10 ^ (6 - b)) := by
  unfold readP
  rw [h]
  unfold finD endP
  split
  · rfl
  · rename_i h1
    split
    · simp only
      rw [if_neg (by omega), if_neg (by omega)]
    · rfl
theorem rf_j1 (s : ByteArray) (hs : s.size ≤ 1048576) (p : Nat) (neg : Bool) (hp : p ≤ (B s).length) (hpe : p = signAt (B s)) (hne : neg = negAt (B s)) :
    Ev (fun k => impl_ReadFixed.j1 k s p (sgn neg)) (readP (B s)) := by
  have hl := B_len s
  refine Ev.step (fun k => impl_ReadFixed.j1.eq_2 ..) (ev_bind (impl_digitsFrom_ev s (by omega) p hp) ?_)
  have hge := digEnd_ge (B s) p
  have hle := digEnd_le (B s) p hp
  obtain ⟨hb1, hb2⟩ := num_bound (B s) p _ rfl
  by_cases hdot : digEnd (B s) p < (B s).length ∧ ((B s).getD (digEnd (B s) p) 0).toNat = 46
  · obtain ⟨h1, h2⟩ := hdot
    refine ev_if_pos (by omega) (ev_if_pos (by omega) ?_)
    rw [bt_U s _ h1, show ((((B s).getD (digEnd (B s) p) 0).toNat : Int) == 46) = true from beq_iff_eq.mpr (by omega)]
    refine Ev.step (fun k => impl_ReadFixed.j2.eq_2 ..) (ev_if_pos rfl ?_)
    rw [wrap_id (x := ((digEnd (B s) p : Nat) : Int) + 1) (by omega) (by omega), cast_succ]
    have hge2 := digEnd_ge (B s) (digEnd (B s) p + 1)
    have hle2 := digEnd_le (B s) (digEnd (B s) p + 1) (by omega)
    refine ev_bind (impl_digitsFrom_ev s (by omega) (digEnd (B s) p + 1) (by omega)) (ev_bind0 (impl_within_eq _ _ _) ?_)
    rw [wrap_id (x := ((digEnd (B s) (digEnd (B s) p + 1) : Nat) : Int) - ((digEnd (B s) p : Nat) : Int)) (by omega) (by omega), wrap_id (x := ((digEnd (B s) (digEnd (B s) p + 1) : Nat) : Int) - ((digEnd (B s) p : Nat) : Int) - 1) (by omega) (by omega)]
    by_cases h3 : digEnd (B s) p + 1 < (B s).length ∧ digU ((B s).getD (digEnd (B s) p + 1) 0) = true
    · have hd : decimalP (B s) = finD (digEnd (B s) (digEnd (B s) p + 1)) neg (accD (B s) (digEnd (B s) p + 1) (accD (B s) p 0 9 (digEnd (B s) p - p)) 6 (digEnd (B s) (digEnd (B s) p + 1) - (digEnd (B s) p + 1))) (digEnd (B s) p - p) (digEnd (B s) (digEnd (B s) p + 1) - (digEnd (B s) p + 1)) := by
        unfold decimalP
        rw [← hpe, ← hne, if_pos ⟨h3.1, h2, h3.2⟩]
      have hpos : digEnd (B s) p + 1 < digEnd (B s) (digEnd (B s) p + 1) := by
        unfold digEnd at *
        have := runEnd_yes digU (B s) (runEnd digU (B s) p + 1) h3.1 h3.2
        have h9 := runEnd_ge digU (B s) (runEnd digU (B s) p + 1 + 1)
        omega
      by_cases h6 : digEnd (B s) (digEnd (B s) p + 1) - (digEnd (B s) p + 1) ≤ 6
      · refine ev_if_pos (by rw [decide_eq_true_eq]; omega) ?_
        have h := rf_j3 s hs (sgn neg) p (digEnd (B s) (digEnd (B s) p + 1)) (endP neg (accD (B s) (digEnd (B s) p + 1) (accD (B s) p 0 9 (digEnd (B s) p - p)) 6 (digEnd (B s) (digEnd (B s) p + 1) - (digEnd (B s) p + 1)) * 10 ^ (6 - (digEnd (B s) (digEnd (B s) p + 1) - (digEnd (B s) p + 1))))) hp hle2
          (fun _ h8 _ => rf_l1 s hs neg (digEnd (B s) p + 1) _ (by omega) (hb2 h8) h6)
        by_cases hw : digEnd (B s) (digEnd (B s) p + 1) = (B s).length
        · rw [readP_whole (B s) _ _ _ _ neg hd hw (by omega)]
          by_cases h8 : digEnd (B s) p - p ≤ 8
          · rw [if_neg (by omega)]; rw [if_pos ⟨hw, h8, by omega⟩] at h; exact h
          · rw [if_pos (by omega)]; rw [if_neg (by omega)] at h; exact h
        · rw [readP_short (B s) _ _ _ _ neg hd (by omega)]
          rw [if_neg (by omega)] at h; exact h
      · refine ev_if_neg (by rw [decide_eq_true_eq]; omega) ?_
        by_cases hw : digEnd (B s) (digEnd (B s) p + 1) = (B s).length
        · rw [readP_whole (B s) _ _ _ _ neg hd hw (by omega), if_pos (by omega)]; exact Ev.now _
        · rw [readP_short (B s) _ _ _ _ neg hd (by omega)]; exact Ev.now _
    · have hd : decimalP (B s) = finD (digEnd (B s) p) neg (accD (B s) p 0 9 (digEnd (B s) p - p)) (digEnd (B s) p - p) 0 := by
        unfold decimalP
        rw [← hpe, ← hne, if_neg (fun h => h3 ⟨h.1, h.2.2⟩)]
      have hstay : digEnd (B s) (digEnd (B s) p + 1) = digEnd (B s) p + 1 := by
        by_cases h4 : digEnd (B s) p + 1 < (B s).length
        · unfold digEnd at *
          exact runEnd_no digU (B s) _ h4 (fun h => h3 ⟨h4, h⟩)
        · exact runEnd_end digU (B s) _ (by omega)
      rw [readP_short (B s) _ _ _ _ neg hd h1]
      exact ev_if_neg (by rw [decide_eq_true_eq]; omega) (Ev.now _)
  · have hd : decimalP (B s) = finD (digEnd (B s) p) neg (accD (B s) p 0 9 (digEnd (B s) p - p)) (digEnd (B s) p - p) 0 := by
      unfold decimalP
      rw [← hpe, ← hne, if_neg (fun h => hdot ⟨by omega, h.2.1⟩)]
    have h := rf_j3 s hs (sgn neg) p (digEnd (B s) p) (endP neg (accD (B s) p 0 9 (digEnd (B s) p - p) * 10 ^ 6)) hp hle (fun _ h8 _ => by
      refine Ev.step (fun k => impl_ReadFixed.l1.eq_2 ..) (ev_if_neg (by omega) ?_)
      have := hb2 h8
      exact rf_l2 neg _ 6 (by omega) (by omega))
    have hj2 : Ev (fun k => impl_ReadFixed.j2 k s p (sgn neg) (digEnd (B s) p : Nat) (digEnd (B s) p : Nat) false) (readP (B s)) := by
      refine Ev.step (fun k => impl_ReadFixed.j2.eq_2 ..) (ev_if_neg (by decide) ?_)
      by_cases hw : digEnd (B s) p = (B s).length
      · rw [readP_whole (B s) _ _ _ _ neg hd hw (by omega)]
        by_cases h8 : digEnd (B s) p - p ≤ 8 ∧ digEnd (B s) p ≠ p
        · rw [if_neg (by omega)]; rw [if_pos ⟨hw, h8.1, h8.2⟩] at h; exact h
        · rw [if_pos (by omega)]; rw [if_neg (by omega)] at h; exact h
      · rw [readP_short (B s) _ _ _ _ neg hd (by omega)]
        rw [if_neg (by omega)] at h; exact h
    by_cases h1 : digEnd (B s) p < (B s).length
    · refine ev_if_pos (by omega) (ev_if_pos (by omega) ?_)
      rw [bt_U s _ h1, show ((((B s).getD (digEnd (B s) p) 0).toNat : Int) == 46) = false from beq_eq_false_iff_ne.mpr (fun h => hdot ⟨h1, by omega⟩)]
      exact hj2
    · exact ev_if_neg (by omega) hj2
theorem impl_ReadFixed_ev (s : ByteArray) (hs : s.size ≤ 1048576) : Ev (fun k => impl_ReadFixed.f k s) (readP (B s)) := by
  have hl := B_len s
  simp only [impl_ReadFixed.f]
  have no (hc : ¬ (0 < (B s).length ∧ (((B s).getD 0 0).toNat = 45 ∨ ((B s).getD 0 0).toNat = 43))) : Ev (fun k => impl_ReadFixed.j0 k s 0 1 false) (readP (B s)) := by
    refine Ev.step (fun k => impl_ReadFixed.j0.eq_2 ..) (ev_if_neg (by decide) ?_)
    have hn : negAt (B s) = false := by unfold negAt; rw [decide_eq_false_iff_not]; exact fun h => hc ⟨h.1, .inl h.2⟩
    have := rf_j1 s hs 0 false (by omega) (by unfold signAt; rw [if_neg hc]) hn.symm
    exact this
  by_cases h0 : (B s).length = 0
  · refine ev_if_pos (by rw [toList_B]; exact List.length_eq_zero_iff.mp h0) (no (by omega))
  · refine ev_if_neg (by rw [toList_B]; exact fun h => h0 (by rw [h]; rfl)) (ev_if_pos (by omega) ?_)
    have hb := bt_U s 0 (by omega)
    rw [show bt s 0 = _ from hb]
    have yes (hc : ((B s).getD 0 0).toNat = 45 ∨ ((B s).getD 0 0).toNat = 43) : Ev (fun k => impl_ReadFixed.j0 k s 0 1 true) (readP (B s)) := by
      refine Ev.step (fun k => impl_ReadFixed.j0.eq_2 ..) (ev_if_pos rfl (ev_if_pos (by omega) ?_))
      rw [show bt s 0 = _ from hb]
      have hp1 : 1 = signAt (B s) := by unfold signAt; rw [if_pos ⟨by omega, hc⟩]
      by_cases h45 : ((B s).getD 0 0).toNat = 45
      · refine ev_if_pos (by omega) ?_
        exact rf_j1 s hs 1 true (by omega) hp1 (by unfold negAt; rw [eq_comm, decide_eq_true_eq]; exact ⟨by omega, h45⟩)
      · refine ev_if_neg (by omega) ?_
        exact rf_j1 s hs 1 false (by omega) hp1 (by unfold negAt; rw [eq_comm, decide_eq_false_iff_not]; exact fun h => h45 h.2)
    by_cases h1 : ((B s).getD 0 0).toNat = 45
    · exact ev_if_pos (by omega) (yes (.inl h1))
    · refine ev_if_neg (by omega) ?_
      by_cases h2 : ((B s).getD 0 0).toNat = 43
      · rw [show ((((B s).getD 0 0).toNat : Int) == 43) = true from beq_iff_eq.mpr (by omega)]
        exact yes (.inr h2)
      · rw [show ((((B s).getD 0 0).toNat : Int) == 43) = false from beq_eq_false_iff_ne.mpr (by omega)]
        exact no (fun h => by rcases h.2 with h | h; exact h1 h; exact h2 h)

/-! impl_numberEnd -/
-- plain: Evs NumEnd Gap
theorem numberEnd_j1 (s : ByteArray) (hs : s.size ≤ 1048576) (p : Nat) (hpl : p ≤ (B s).length) (l : List UInt8) (hd : (B s).drop p = l) : Ev (fun k => impl_numberEnd.j1 k s ((p + signAt l : Nat) : Int)) ((p + numEnd l : Nat) : Int) := by
  have hl := B_len s
  have hll : l.length = (B s).length - p := by rw [← hd, List.length_drop]
  have hget : ∀ i, (B s).getD (p + i) 0 = l.getD i 0 := fun i => by rw [← hd, getD_drop]
  have hdig : ∀ q, digEnd (B s) (p + q) = p + digEnd l q := fun q => by rw [digEnd_drop, hd]
  have hsl := signAt_le l
  have hge := digEnd_ge l (signAt l)
  have hle := digEnd_le l (signAt l) hsl
  have h0 := impl_digitsFrom_ev s (by omega) (p + signAt l) (by omega)
  rw [hdig] at h0
  refine Ev.step (fun k => impl_numberEnd.j1.eq_2 ..) (ev_bind h0 ?_)
  obtain ⟨w, hw⟩ : ∃ w, digEnd l (signAt l) = w := ⟨_, rfl⟩
  have hyes : w + 1 < l.length ∧ (l.getD w 0).toNat = 46 ∧ digU (l.getD (w + 1) 0) = true → numEnd l = digEnd l (w + 1) := fun h => by unfold numEnd; rw [hw, if_pos h]
  have hno : ¬ (w + 1 < l.length ∧ (l.getD w 0).toNat = 46 ∧ digU (l.getD (w + 1) 0) = true) → numEnd l = w := fun h => by unfold numEnd; rw [hw, if_neg h]
  rw [hw] at hge hle ⊢
  have no : Ev (fun k => impl_numberEnd.j2 k s ((p + w : Nat) : Int) false) ((p + w : Nat) : Int) := Ev.step (fun k => impl_numberEnd.j2.eq_2 ..) (ev_if_neg (by decide) (Ev.now _))
  by_cases h1 : w < l.length
  · refine ev_if_pos (by omega) (ev_if_pos (by omega) ?_)
    rw [bt_U s (p + w) (by omega), hget]
    by_cases h2 : (l.getD w 0).toNat = 46
    · rw [show (((l.getD w 0).toNat : Int) == 46) = true from beq_iff_eq.mpr (by omega)]
      refine Ev.step (fun k => impl_numberEnd.j2.eq_2 ..) (ev_if_pos rfl ?_)
      rw [wrap_id (x := ((p + w : Nat) : Int) + 1) (by omega) (by omega), cast_succ]
      have h3' := impl_digitsFrom_ev s (by omega) (p + (w + 1)) (by omega)
      rw [hdig] at h3'
      refine ev_bind h3' ?_
      by_cases h3 : w + 1 < l.length ∧ digU (l.getD (w + 1) 0) = true
      · rw [hyes ⟨h3.1, h2, h3.2⟩]
        have h4 : digEnd l (w + 1) = digEnd l (w + 1 + 1) := runEnd_yes digU l _ h3.1 h3.2
        have h5 := digEnd_ge l (w + 1 + 1)
        exact ev_if_pos (by omega) (Ev.now _)
      · rw [hno (fun h => h3 ⟨h.1, h.2.2⟩)]
        have h4 : digEnd l (w + 1) = w + 1 := by
          by_cases h5 : w + 1 < l.length
          · exact runEnd_no digU l _ h5 (fun h => h3 ⟨h5, h⟩)
          · exact runEnd_end digU l _ (by omega)
        exact ev_if_neg (by omega) (Ev.now _)
    · rw [hno (fun h => h2 h.2.1), show (((l.getD w 0).toNat : Int) == 46) = false from beq_eq_false_iff_ne.mpr (by omega)]
      exact no
  · rw [hno (by omega)]
    exact ev_if_neg (by omega) no
theorem impl_numberEnd_at (s : ByteArray) (hs : s.size ≤ 1048576) (p : Nat) (hpl : p ≤ (B s).length) (l : List UInt8) (hd : (B s).drop p = l) : Ev (fun k => impl_numberEnd.f k s p) ((p + numEnd l : Nat) : Int) := by
  have hl := B_len s
  have hll : l.length = (B s).length - p := by rw [← hd, List.length_drop]
  have hget : ∀ i, (B s).getD (p + i) 0 = l.getD i 0 := fun i => by rw [← hd, getD_drop]
  have h := numberEnd_j1 s hs p hpl l hd
  simp only [impl_numberEnd.f]
  have no (hc : ¬ (0 < l.length ∧ ((l.getD 0 0).toNat = 45 ∨ (l.getD 0 0).toNat = 43))) : Ev (fun k => impl_numberEnd.j0 k s (p : Int) false) ((p + numEnd l : Nat) : Int) := by
    have e : signAt l = 0 := by unfold signAt; rw [if_neg hc]
    rw [e] at h
    exact Ev.step (fun k => impl_numberEnd.j0.eq_2 ..) (ev_if_neg (by decide) h)
  by_cases h0 : 0 < l.length
  · refine ev_if_pos (by omega) (ev_if_pos (by omega) ?_)
    rw [show bt s (p : Int) = (((B s).getD (p + 0) 0).toNat : Int) from bt_U s p (by omega), hget]
    have yes (hc : (l.getD 0 0).toNat = 45 ∨ (l.getD 0 0).toNat = 43) : Ev (fun k => impl_numberEnd.j0 k s (p : Int) true) ((p + numEnd l : Nat) : Int) := by
      have e : signAt l = 1 := by unfold signAt; rw [if_pos ⟨h0, hc⟩]
      rw [e] at h
      refine Ev.step (fun k => impl_numberEnd.j0.eq_2 ..) (ev_if_pos rfl ?_)
      rw [show wrap64 ((p : Int) + 1) = ((p + 1 : Nat) : Int) from wrap_id (by omega) (by omega)]
      exact h
    by_cases h1 : (l.getD 0 0).toNat = 45
    · exact ev_if_pos (by omega) (yes (.inl h1))
    · refine ev_if_neg (by omega) ?_
      by_cases h2 : (l.getD 0 0).toNat = 43
      · rw [show (((l.getD 0 0).toNat : Int) == 43) = true from beq_iff_eq.mpr (by omega)]
        exact yes (.inr h2)
      · rw [show (((l.getD 0 0).toNat : Int) == 43) = false from beq_eq_false_iff_ne.mpr (by omega)]
        exact no (fun h => by rcases h.2 with h | h; exact h1 h; exact h2 h)
  · exact ev_if_neg (by omega) (no (by omega))
theorem impl_numberEnd_ev (s : ByteArray) (hs : s.size ≤ 1048576) : Ev (fun k => impl_numberEnd.f k s 0) ((numEnd (B s) : Nat) : Int) := by
  have h := impl_numberEnd_at s hs 0 (by omega) (B s) rfl
  rw [Nat.zero_add] at h
  exact h

/-! impl_isBlank -/
-- plain: Trim
theorem impl_isBlank_eq (c : UInt8) : impl_isBlank.f (c.toNat : Int) = some (blankU c) := by
  unfold impl_isBlank.f blankU
  have e : ∀ n : Nat, n < 256 → (((c.toNat : Int) = (n : Int)) ↔ c = UInt8.ofNat n) := fun n hn => u8_nat hn
  by_cases h9 : c = 9
  · subst h9; rfl
  · rw [if_neg (by rw [show (9 : Int) = ((9 : Nat) : Int) from rfl, e 9 (by omega)]; exact h9)]
    by_cases h10 : c = 10
    · subst h10; rfl
    · rw [if_neg (by rw [show (10 : Int) = ((10 : Nat) : Int) from rfl, e 10 (by omega)]; exact h10)]
      by_cases h13 : c = 13
      · subst h13; rfl
      · rw [if_neg (by rw [show (13 : Int) = ((13 : Nat) : Int) from rfl, e 13 (by omega)]; exact h13)]
        by_cases h32 : c = 32
        · subst h32; rfl
        · have h1 : ((c.toNat : Int) == 32) = false := beq_eq_false_iff_ne.mpr (by rw [show (32 : Int) = ((32 : Nat) : Int) from rfl]; exact fun h => h32 ((e 32 (by omega)).1 h))
          rw [h1]
          simp [h9, h10, h13, h32]

/-! impl_numbersOf -/
-- plain: Evs NumEnd Gap
theorem no_l1 (s : ByteArray) (hs : s.size ≤ 1048576) (out : List Int) (e : Int) (r : List Int × Bool) : ∀ (n p : Nat), (B s).length - p = n → p ≤ (B s).length → Ev (fun k => impl_numbersOf.j2 k s out ((runEnd blankU (B s) p : Nat) : Int) e) r → Ev (fun k => impl_numbersOf.l1 k s out (p : Int) e) r := by
  have hl := B_len s
  intro n
  induction n with
  | zero =>
    intro p hn hp h
    rw [runEnd_end blankU (B s) p (by omega)] at h
    exact Ev.step (fun k => impl_numbersOf.l1.eq_2 ..) (ev_if_neg (by omega) h)
  | succ n ih =>
    intro p hn hp h
    refine Ev.step (fun k => impl_numbersOf.l1.eq_2 ..) (ev_if_pos (by omega) (ev_if_pos (by omega) ?_))
    rw [bt_U s p (by omega)]
    refine ev_bind0 (impl_isBlank_eq _) ?_
    by_cases hb : blankU ((B s).getD p 0) = true
    · rw [runEnd_yes blankU (B s) p (by omega) hb] at h
      refine ev_if_pos hb ?_
      rw [wrap_id (x := (p : Int) + 1) (by omega) (by omega), cast_succ]
      exact ih (p + 1) (by omega) (by omega) h
    · rw [runEnd_no blankU (B s) p (by omega) hb] at h
      exact ev_if_neg hb h
theorem no_l2 (s : ByteArray) (hs : s.size ≤ 1048576) (out : List Int) (e : Nat) (r : List Int × Bool) : ∀ (n p : Nat), (B s).length - p = n → p ≤ (B s).length → e < p → Ev (fun k => impl_numbersOf.l0 k s out ((runEnd blankU (B s) p : Nat) : Int)) r → Ev (fun k => impl_numbersOf.l2 k s out (p : Int) (e : Int)) r := by
  have hl := B_len s
  intro n
  induction n with
  | zero =>
    intro p hn hp he h
    rw [runEnd_end blankU (B s) p (by omega)] at h
    exact Ev.step (fun k => impl_numbersOf.l2.eq_2 ..) (ev_if_neg (by omega) (ev_if_neg (by omega) h))
  | succ n ih =>
    intro p hn hp he h
    refine Ev.step (fun k => impl_numbersOf.l2.eq_2 ..) (ev_if_pos (by omega) (ev_if_pos (by omega) ?_))
    rw [bt_U s p (by omega)]
    refine ev_bind0 (impl_isBlank_eq _) ?_
    by_cases hb : blankU ((B s).getD p 0) = true
    · rw [runEnd_yes blankU (B s) p (by omega) hb] at h
      refine ev_if_pos hb ?_
      rw [wrap_id (x := (p : Int) + 1) (by omega) (by omega), cast_succ]
      exact ih (p + 1) (by omega) (by omega) (by omega) h
    · rw [runEnd_no blankU (B s) p (by omega) hb] at h
      exact ev_if_neg hb (ev_if_neg (by omega) h)
def signU (c : UInt8) : Prop := c.toNat = 45 ∨ c.toNat = 43
theorem no_gap (s : ByteArray) (hs : s.size ≤ 1048576) (out : List Int) (e q : Nat) (he : e < (B s).length) (hq : gapEnd (B s) e = q) (r : List Int × Bool)
    (h1 : (q ≠ e ∨ signU ((B s).getD q 0)) → Ev (fun k => impl_numbersOf.l0 k s out (q : Int)) r) (h2 : q = e → ¬ signU ((B s).getD q 0) → r = ([], false)) : Ev (fun k => impl_numbersOf.l1 k s out (e : Int) (e : Int)) r := by
  have hl := B_len s
  refine no_l1 s hs out e r _ e rfl (by omega) ?_
  have hle := runEnd_le blankU (B s) e (by omega)
  have hge := runEnd_ge blankU (B s) e
  unfold gapEnd at hq
  obtain ⟨a, ha⟩ : ∃ a, runEnd blankU (B s) e = a := ⟨_, rfl⟩
  rw [ha] at hq hle hge ⊢
  refine Ev.step (fun k => impl_numbersOf.j2.eq_2 ..) ?_
  by_cases hc : a < (B s).length ∧ ((B s).getD a 0).toNat = 44
  · rw [if_pos hc] at hq
    have hge2 := runEnd_ge blankU (B s) (a + 1)
    refine ev_if_pos (by omega) (ev_if_pos (by omega) ?_)
    rw [bt_U s a hc.1, show ((((B s).getD a 0).toNat : Int) == 44) = true from beq_iff_eq.mpr (by omega)]
    refine Ev.step (fun k => impl_numbersOf.j3.eq_2 ..) (ev_if_pos rfl ?_)
    rw [wrap_id (x := (a : Int) + 1) (by omega) (by omega), cast_succ]
    refine no_l2 s hs out e r _ (a + 1) rfl (by omega) (by omega) ?_
    rw [hq]
    exact h1 (.inl (by omega))
  · rw [if_neg hc] at hq
    subst hq
    have stay : Ev (fun k => impl_numbersOf.j3 k s out (a : Int) (e : Int) false) r := by
      refine Ev.step (fun k => impl_numbersOf.j3.eq_2 ..) (ev_if_neg (by decide) ?_)
      by_cases hae : a = e
      · refine ev_if_pos (by omega) (ev_if_pos (by omega) (ev_if_pos (by omega) ?_))
        rw [bt_U s a (by omega)]
        by_cases h45 : ((B s).getD a 0).toNat = 45
        · exact ev_if_pos (by omega) (h1 (.inr (.inl h45)))
        · refine ev_if_neg (by omega) ?_
          by_cases h43 : ((B s).getD a 0).toNat = 43
          · exact ev_if_pos (by omega) (h1 (.inr (.inr h43)))
          · rw [h2 hae (fun h => by rcases h with h | h; exact h45 h; exact h43 h)]
            exact ev_if_neg (by omega) (Ev.now _)
      · exact ev_if_neg (by omega) (h1 (.inl hae))
    by_cases hal : a < (B s).length
    · refine ev_if_pos (by omega) (ev_if_pos (by omega) ?_)
      rw [bt_U s a hal, show ((((B s).getD a 0).toNat : Int) == 44) = false from beq_eq_false_iff_ne.mpr (fun h => hc ⟨hal, by omega⟩)]
      exact stay
    · exact ev_if_neg (by omega) stay

/-! impl_ReadNumbers -/
-- plain: Evs NumEnd Gap Trim
/-- what is told of numbers that were read: at most sixty. -/
def fixN (r : List Int × Bool) : List Int × Bool := if r.2 = true then (if r.1.length > 60 then ([], false) else (r.1, true)) else ([], false)
theorem numbers_same (s : ByteArray) (hs : s.size ≤ 1048576) : ∀ (n p : Nat) (out : List Int), (B s).length - p < n → p ≤ (B s).length → out.length ≤ p →
    ∃ r, Ev (fun k => impl_numbersOf.l0 k s out (p : Int)) r ∧ r.1.length ≤ (B s).length ∧ (r.2 = true → out.length < r.1.length) ∧ (out.length ≤ 60 → Ev (fun k => spec_l7Numbers.l0 k (ofL ((B s).drop p)) out) (fixN r)) := by
  intro n
  induction n with
  | zero => intro p out hn; omega
  | succ n ih =>
    intro p out hn hp ho
    have hl := B_len s
    obtain ⟨l, hd⟩ : ∃ l, (B s).drop p = l := ⟨_, rfl⟩
    rw [hd]
    have hll : l.length = (B s).length - p := by rw [← hd, List.length_drop]
    have hne := impl_numberEnd_at s hs p hp l hd
    have hle := numEnd_le l
    have hB : B (s.extract p (p + numEnd l)) = l.take (numEnd l) := by rw [B_extract, hd, Nat.add_sub_cancel_left]
    have hr := impl_ReadFixed_ev (s.extract p (p + numEnd l)) (by rw [← B_len, hB, List.length_take]; omega)
    rw [hB, readP_take] at hr
    have hds := spec_l1Decimal_ev (ofL l) (by rw [ofL_size]; omega)
    rw [B_ofL] at hds
    have hone := decimalP_one l
    obtain ⟨e, he⟩ : ∃ e, numEnd l = e := ⟨_, rfl⟩
    rw [he] at hne hle hr hone
    generalize decimalP l = d at hr hds hone
    obtain ⟨m, x⟩ := d
    simp only at hr hone
    have istep : ∀ r, Ev (fun k => (impl_ReadFixed.f k (s.extract p (p + e))).bind fun bt142 => (if bt142.2 = true then (if out.length < 17592186044416 then ((some (out ++ [bt142.1] : List Int)).bind fun y144 => (if ((p + e : Nat) : Int) = (s.size : Int) then (some (y144, true)) else (impl_numbersOf.l1 k s y144 ((p + e : Nat) : Int) ((p + e : Nat) : Int)))) else (none)) else (some (([] : List Int), false)))) r → Ev (fun k => impl_numbersOf.l0 k s out (p : Int)) r :=
      fun r h => Ev.step (fun k => impl_numbersOf.l0.eq_2 ..) (ev_bind hne (ev_if_pos (by omega) (ev_if_pos (by omega) (ev_if_pos (by omega) h))))
    have sstep : ∀ r, Ev (fun k => if m = 0 then (spec_l7Numbers.j1 k (ofL l) out m x true) else (spec_l7Numbers.j1 k (ofL l) out m x ((out.length : Int) == 60))) r → Ev (fun k => spec_l7Numbers.l0 k (ofL l) out) r :=
      fun r h => Ev.step (fun k => spec_l7Numbers.l0.eq_2 ..) (ev_bind hds h)
    have none_ : fixN ([], false) = ([], false) := rfl
    by_cases h0 : m = 0
    · rw [if_pos h0] at hr
      exact ⟨([], false), istep _ (ev_bind hr (ev_if_neg (by decide) (Ev.now _))), by simp, by simp, fun _ => sstep _ (ev_if_pos h0 (Ev.step (fun k => spec_l7Numbers.j1.eq_2 ..) (ev_if_pos rfl (Ev.now _))))⟩
    rw [if_neg h0] at hr
    obtain rfl : m = (e : Int) := by rcases hone with h | h; exact absurd h h0; exact h
    have iadd : ∀ r, Ev (fun k => if ((p + e : Nat) : Int) = (s.size : Int) then (some (out ++ [x], true)) else (impl_numbersOf.l1 k s (out ++ [x]) ((p + e : Nat) : Int) ((p + e : Nat) : Int))) r → Ev (fun k => impl_numbersOf.l0 k s out (p : Int)) r :=
      fun r h => istep r (ev_bind hr (ev_if_pos rfl (ev_if_pos (by omega) (ev_bind0 rfl h))))
    have full : ∀ r : List Int × Bool, (r.2 = true → out.length < r.1.length) → out.length = 60 → Ev (fun k => spec_l7Numbers.l0 k (ofL l) out) (fixN r) := by
      intro r h1 h2
      have e1 : fixN r = ([], false) := by
        unfold fixN
        by_cases h : r.2 = true
        · rw [if_pos h, if_pos (by have := h1 h; omega)]
        · rw [if_neg h]
      rw [e1]
      exact sstep _ (ev_if_neg h0 (Ev.step (fun k => spec_l7Numbers.j1.eq_2 ..) (ev_if_pos (beq_iff_eq.mpr (by omega)) (Ev.now _))))
    have sadd : ∀ r, out.length < 60 → Ev (fun k => if (ofL (l.drop e)).toList = ([] : List UInt8) then (some (out ++ [x], true)) else ((spec_l7Gap.f k (ofL (l.drop e))).bind fun t117 => (if (t117.size : Int) = ((ofL (l.drop e)).size : Int) then (if 0 < (t117.size : Int) then (if (bt t117 0) = 45 then (spec_l7Numbers.l0 k t117 (out ++ [x])) else (if (bt t117 0) = 43 then (spec_l7Numbers.l0 k t117 (out ++ [x])) else (some (([] : List Int), false)))) else (none)) else (spec_l7Numbers.l0 k t117 (out ++ [x]))))) r → Ev (fun k => spec_l7Numbers.l0 k (ofL l) out) r := by
      intro r h2 h
      refine sstep _ (ev_if_neg h0 (Ev.step (fun k => spec_l7Numbers.j1.eq_2 ..) (ev_if_neg (by simp; omega) (ev_if_pos (by omega) (ev_bind0 rfl (ev_if_pos (by omega) (ev_if_pos (by rw [ofL_size]; omega) ?_)))))))
      rw [Int.toNat_natCast, ofL_from]
      exact h
    have hlen' : (out ++ [x]).length = out.length + 1 := by simp
    by_cases hend : p + e = s.size
    · refine ⟨(out ++ [x], true), iadd _ (ev_if_pos (by omega) (Ev.now _)), by simp only [hlen']; omega, fun _ => by simp only [hlen']; omega, fun h60 => ?_⟩
      by_cases h2 : out.length = 60
      · exact full _ (fun _ => by simp only [hlen']; omega) h2
      · refine sadd _ (by omega) (ev_if_pos (by rw [toList_B, B_ofL, List.drop_eq_nil_of_le (by omega)]) ?_)
        have e1 : fixN (out ++ [x], true) = (out ++ [x], true) := by unfold fixN; rw [if_pos rfl, if_neg (by simp only [hlen']; omega)]
        rw [e1]; exact Ev.now _
    · -- a gap, and on
      have hdrop : (B s).drop (p + e) = l.drop e := by rw [← hd, List.drop_drop]
      obtain ⟨q, hq⟩ : ∃ q, gapEnd (B s) (p + e) = q := ⟨_, rfl⟩
      have hqge := gapEnd_ge (B s) (p + e)
      have hqle := gapEnd_le (B s) (p + e) (by omega)
      have hg := gapEnd_drop (B s) (p + e) 0 (by omega)
      rw [Nat.add_zero, hdrop, hq] at hg
      rw [hq] at hqge hqle
      have hgap := spec_l7Gap_ev (l.drop e)
      have hdq : (l.drop e).drop (gapEnd (l.drop e) 0) = (B s).drop q := by rw [hg, ← hdrop, List.drop_drop]
      rw [hdq] at hgap
      have hz1 : (ofL ((B s).drop q)).size = (B s).length - q := by rw [ofL_size, List.length_drop]
      have hz2 : (ofL (l.drop e)).size = (B s).length - (p + e) := by rw [ofL_size, List.length_drop]; omega
      have hne2 : ¬ (ofL (l.drop e)).toList = ([] : List UInt8) := by
        rw [toList_B]; intro h
        have := congrArg List.length h
        rw [B_len, hz2] at this
        simp at this; omega
      have hbt : q < (B s).length → bt (ofL ((B s).drop q)) 0 = (((B s).getD q 0).toNat : Int) := fun h => by
        rw [show bt (ofL ((B s).drop q)) 0 = _ from bt_ofL ((B s).drop q) 0 (by rw [List.length_drop]; omega), getD_drop, Nat.add_zero]
      by_cases hst : q = p + e ∧ ¬ signU ((B s).getD q 0)
      · refine ⟨([], false), iadd _ (ev_if_neg (by omega) (no_gap s hs _ (p + e) q (by omega) hq _ (fun h => ?_) (fun _ _ => rfl))), by simp, by simp, fun h60 => ?_⟩
        · rcases h with h | h
          · exact absurd hst.1 h
          · exact absurd h hst.2
        · by_cases h2 : out.length = 60
          · exact full _ (by simp) h2
          · refine sadd _ (by omega) (ev_if_neg hne2 (ev_bind hgap (ev_if_pos (by omega) (ev_if_pos (by omega) ?_))))
            rw [hbt (by omega)]
            exact ev_if_neg (fun h => hst.2 (.inl (by omega))) (ev_if_neg (fun h => hst.2 (.inr (by omega))) (Ev.now _))
      · obtain ⟨r, g1, g2, g3, g4⟩ := ih q (out ++ [x]) (by omega) hqle (by rw [hlen']; omega)
        refine ⟨r, iadd _ (ev_if_neg (by omega) (no_gap s hs _ (p + e) q (by omega) hq _ (fun _ => g1) (fun h1 h2 => absurd ⟨h1, h2⟩ hst))), g2, fun h => by have := g3 h; rw [hlen'] at this; omega, fun h60 => ?_⟩
        by_cases h2 : out.length = 60
        · exact full r (fun h => by have := g3 h; rw [hlen'] at this; omega) h2
        · have g5 := g4 (by rw [hlen']; omega)
          refine sadd _ (by omega) (ev_if_neg hne2 (ev_bind hgap ?_))
          by_cases hqe : q = p + e
          · refine ev_if_pos (by omega) (ev_if_pos (by omega) ?_)
            rw [hbt (by omega)]
            have hsg : signU ((B s).getD q 0) := Classical.byContradiction fun h => hst ⟨hqe, h⟩
            by_cases h45 : ((B s).getD q 0).toNat = 45
            · exact ev_if_pos (by omega) g5
            · have h43 : ((B s).getD q 0).toNat = 43 := by rcases hsg with h | h; exact absurd h h45; exact h
              exact ev_if_neg (by omega) (ev_if_pos (by omega) g5)
          · exact ev_if_neg (by omega) g5
theorem numbers_both (s : ByteArray) (hs : s.size ≤ 600) : ∃ r : List Int × Bool, Ev (fun k => spec_l7Numbers.f k s) r ∧ Ev (fun k => impl_ReadNumbers.f k s) r ∧ r.1.length ≤ 60 := by
  have ht := trimP_size s
  have hl := B_len (trimP s)
  obtain ⟨r, g1, g2, g3, g4⟩ := numbers_same (trimP s) (by omega) ((B (trimP s)).length + 1) 0 [] (by omega) (by omega) (by simp)
  have g5 := g4 (by simp)
  rw [List.drop_zero, ofL_B] at g5
  refine ⟨fixN r, ?_, ?_, ?_⟩
  · simp only [spec_l7Numbers.f]
    exact ev_bind (spec_l5Trim_ev s (by omega)) g5
  · simp only [impl_ReadNumbers.f]
    refine ev_if_neg (by omega) (ev_bind0 (impl_trimmed_eq s (by omega)) (ev_bind (Ev.congr (fun k => rfl) g1) ?_))
    unfold fixN
    by_cases h : r.2 = true
    · have e1 : (if r.2 = true then (if r.1.length > 60 then (([] : List Int), false) else (r.1, true)) else ([], false)) = (if r.1.length > 60 then ([], false) else (r.1, true)) := if_pos h
      rw [e1]
      refine ev_if_pos h ?_
      by_cases h2 : r.1.length > 60
      · have e2 : (if r.1.length > 60 then (([] : List Int), false) else (r.1, true)) = ([], false) := if_pos h2
        rw [e2]
        exact ev_if_pos (by omega) (Ev.now _)
      · have e2 : (if r.1.length > 60 then (([] : List Int), false) else (r.1, true)) = (r.1, true) := if_neg h2
        rw [e2]
        exact ev_if_neg (by omega) (Ev.now _)
    · have e1 : (if r.2 = true then (if r.1.length > 60 then (([] : List Int), false) else (r.1, true)) else ([], false)) = ([], false) := if_neg h
      rw [e1]
      exact ev_if_neg h (Ev.now _)
  · unfold fixN
    split
    · split
      · simp
      · simp only; omega
    · simp

/-! laws_eqIntS -/
-- plain: Evs
theorem laws_eqIntS_same (l : List Int) (hn : l.length ≤ 35184372088832) : Ev (fun k => laws_eqIntS.f k l l) true := by
  refine Ev.congr (f := fun k => laws_eqIntS.l0 k l l 0) (fun k => ?_) ?_
  · unfold laws_eqIntS.f; rw [if_pos rfl]
  · refine ev_up l.length (fun i k => laws_eqIntS.l0 k l l i) true ?_ ?_
    · refine ev_done fun k => ?_
      rw [laws_eqIntS.l0, if_neg (by omega)]
    · intro i hi h
      refine Ev.step (fun k => ?_) h
      rw [laws_eqIntS.l0, if_pos (by omega), if_pos (by omega), if_pos (by omega), if_pos rfl, wrap_up hi (by omega)]
theorem laws_eqIntS_of (l l' : List Int) (hl : l = l') (hn : l.length ≤ 35184372088832) : Ev (fun k => laws_eqIntS.f k l l') true := by
  subst hl; exact laws_eqIntS_same l hn

/-! laws_markIntS -/
-- plain: Evs
/-- What the marks write from the number x on. -/
def markedInt (n : Nat) (x : Int) : List Int := (List.range n).map fun (j : Nat) => (x + (j : Int))
theorem markedInt_length (n : Nat) (x : Int) : (markedInt n x).length = n := by simp [markedInt]
theorem markedInt_get (n : Nat) (x : Int) (i : Nat) (h : i < n) : (markedInt n x).getD i 0 = (x + (i : Int)) := by
  simp [markedInt, h]
theorem markedInt_take (n : Nat) (x : Int) (l : List Int) (hl : l.length = n) (i : Nat) (h : i < n) : ((markedInt n x).take i ++ l.drop i).set i ((x + (i : Int))) = (markedInt n x).take (i + 1) ++ l.drop (i + 1) := by
  rw [← markedInt_get n x i h, take_set _ _ _ (by rw [markedInt_length]; exact h) _ (by simp; omega), List.tail_drop]
theorem laws_markIntS_ev (l : List Int) (x : Int) (h0 : 0 ≤ x) (h1 : x + l.length ≤ 9223372036854775807) : Ev (fun k => laws_markIntS.f k l x) (x + l.length, markedInt l.length x) := by
  refine Ev.congr (f := fun k => laws_markIntS.l0 k l x 0) (fun k => rfl) ?_
  have key := ev_up l.length (fun i k => laws_markIntS.l0 k ((markedInt l.length x).take i ++ l.drop i) (x + i) i) (x + l.length, markedInt l.length x) ?_ ?_
  · simpa using key
  · refine ev_done fun k => ?_
    rw [laws_markIntS.l0, if_neg (by simp [markedInt_length])]
    rw [List.take_of_length_le (by simp [markedInt_length])]; simp
  · intro i hi h
    refine Ev.step (fun k => ?_) h
    rw [laws_markIntS.l0, if_pos (by simp [markedInt_length]; omega), if_pos (by omega), wrap_up hi (by omega), Int.toNat_natCast, markedInt_take _ _ _ rfl i hi, wrap_id (by omega) (by omega)]
    congr 1
    omega

/-! laws_heldIntS -/
-- plain: Evs
-- (behind laws_markIntS)
theorem laws_heldIntS_ev (n : Nat) (x : Int) (h0 : 0 ≤ x) (h1 : x + n ≤ 9223372036854775807) : Ev (fun k => laws_heldIntS.f k (markedInt n x) x) (x + n) := by
  refine Ev.congr (f := fun k => laws_heldIntS.l0 k (markedInt n x) x 0) (fun k => rfl) ?_
  have key := ev_up n (fun i k => laws_heldIntS.l0 k (markedInt n x) (x + i) i) (x + n) ?_ ?_
  · simpa using key
  · refine ev_done fun k => ?_
    rw [laws_heldIntS.l0, if_neg (by simp [markedInt_length])]
  · intro i hi h
    refine Ev.step (fun k => ?_) h
    rw [laws_heldIntS.l0, if_pos (by simp [markedInt_length]; omega), if_pos (by omega), rd_nat, markedInt_get n x i hi, if_pos rfl, wrap_up hi (by omega), wrap_id (by omega) (by omega)]
    congr 1
    omega

-- plain: Evs
theorem FnExactReadNumbers : laws_FnExactReadNumbers.Pure := by
  intro s hs
  by_cases hlen : (s.size : Int) > 1048576
  · exact ⟨0, by unfold laws_FnExactReadNumbers.f; rw [if_pos hlen]⟩
  have main : ∃ r : List Int × Bool, Ev (fun k => spec_ReadNumbers.f k s) r ∧ Ev (fun k => impl_ReadNumbers.f k s) r ∧ r.1.length ≤ 60 := by
    by_cases h6 : (s.size : Int) > 600
    · refine ⟨([], false), ?_, ?_, by simp⟩
      · simp only [spec_ReadNumbers.f]; exact ev_if_pos h6 (Ev.now _)
      · simp only [impl_ReadNumbers.f]; exact ev_if_pos h6 (Ev.now _)
    · obtain ⟨r, h1, h2, h3⟩ := numbers_both s (by omega)
      refine ⟨r, ?_, h2, h3⟩
      simp only [spec_ReadNumbers.f]
      exact ev_if_neg h6 (ev_bind h1 (Ev.now _))
  obtain ⟨⟨r, b⟩, h1, h2, hr⟩ := main
  simp only at hr
  refine Ev.rounds ?_
  simp only [laws_FnExactReadNumbers.f]
  refine ev_if_neg hlen (ev_bind h1 (ev_bind h2 (ev_bind (laws_eqIntS_same r (by omega)) (ev_if_pos rfl ?_))))
  refine Ev.step (fun k => laws_FnExactReadNumbers.j0.eq_2 ..) (ev_if_neg (by simp) ?_)
  refine ev_bind (laws_markIntS_ev r 1 (by omega) (by omega)) ?_
  refine ev_bind (laws_heldIntS_ev r.length 1 (by omega) (by omega)) ?_
  refine ev_if_neg (by omega) (ev_if_pos rfl ?_)
  refine ev_bind h2 (ev_bind (laws_eqIntS_same r (by omega)) (ev_if_pos rfl ?_))
  refine Ev.step (fun k => laws_FnExactReadNumbers.j1.eq_2 ..) (ev_if_neg (by simp) ?_)
  refine ev_bind (laws_heldIntS_ev r.length 1 (by omega) (by omega)) ?_
  exact ev_if_neg (by omega) (ev_if_pos rfl (Ev.now true))

end Go.Proofs.YtfjabcfmcnphcaaDoor.Pure
