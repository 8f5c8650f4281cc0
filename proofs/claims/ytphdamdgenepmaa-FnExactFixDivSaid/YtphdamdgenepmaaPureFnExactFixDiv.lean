/- FixDiv: the program's FixDiv answers as the reference's at all integers; no condition. -/
import Derived.Test.YtphdamdgenepmaaPFnExactFixDivx2
import Derived.Test.YtphdamdgenepmaaPlain
import Derived.Test.YtphdamdgenepmaaEvs
import Derived.Test.YtphdamdgenepmaaBits
import Derived.Test.YtphdamdgenepmaaFix
set_option linter.unusedVariables false
set_option linter.unusedSimpArgs false
namespace Go.Proofs.Ytphdamdgenepmaa.Pure
open Go.RowKit Go.Proofs.Ytphdamdgenepmaa.PFnExactFixDiv Go.Proofs.YtphdamdgenepmaaW.PrintWords Go.Proofs.YtphdamdgenepmaaW.PrintLast Go.Proofs.YtphdamdgenepmaaW.PrintMore Go.Proofs.Ytphdamdgenepmaa.Plain

/-! spec_l1In -/
theorem spec_l1In_eq (a b c : Int) : spec_l1In.f a b c = some (decide (b ≤ a ∧ a ≤ c)) := by
  unfold spec_l1In.f
  split
  · rename_i h; simp [show b ≤ a from h]
  · rename_i h; simp [show ¬ b ≤ a from h]

/-! spec_GoodFixed -/
theorem spec_GoodFixed_eq (a : Int) : spec_GoodFixed.f a = some (decide (-1099511627776 ≤ a ∧ a ≤ 1099511627776)) := by
  unfold spec_GoodFixed.f; rw [spec_l1In_eq]; rfl

/-! spec_l1Times -/
-- plain: Fix
theorem spec_l1Times_eq (a b : Int) (ha0 : 0 ≤ a) (ha : a < 18446744073709551616) (hb0 : 0 ≤ b) (hb : b < 18446744073709551616) :
    spec_l1Times.f a b = some (a * b / 18446744073709551616, a * b % 18446744073709551616) := by
  obtain ⟨p, q, r, s, hp, hq, hr, hs, e, hp0, hp1, hq0, hq1, hr0, hr1, hs0, hs1⟩ := halves_mul a b ha0 ha hb0 hb
  unfold spec_l1Times.f
  rw [Int.tmod_eq_emod_of_nonneg (a := a) ha0, Int.tmod_eq_emod_of_nonneg (a := b) hb0, Int.tdiv_eq_ediv_of_nonneg (a := a) ha0, Int.tdiv_eq_ediv_of_nonneg (a := b) hb0]
  rw [u64_id (a / 4294967296) (by omega) (by omega), u64_id (b / 4294967296) (by omega) (by omega)]
  rw [← hp, ← hq, ← hr, ← hs]
  rw [u64_id p hp0 (by omega), u64_id q hq0 (by omega), u64_id r hr0 (by omega), u64_id s hs0 (by omega)]
  rw [Int.tdiv_eq_ediv_of_nonneg (a := p) hp0, u64_id (p / 4294967296) (by omega) (by omega), u64_id (q + p / 4294967296) (by omega) (by omega)]
  rw [Int.tdiv_eq_ediv_of_nonneg (a := q + _) (by omega), Int.tmod_eq_emod_of_nonneg (a := q + _) (by omega), u64_id ((q + p / 4294967296) / 4294967296) (by omega) (by omega)]
  rw [u64_id (r + _) (by omega) (by omega), Int.tdiv_eq_ediv_of_nonneg (a := r + _) (by omega), u64_id ((r + (q + p / 4294967296) % 4294967296) / 4294967296) (by omega) (by omega)]
  rw [u64_id (s + _) (by omega) (by omega), u64_id (s + _ + _) (by omega) (by omega)]
  rw [Int.tmod_eq_emod_of_nonneg (a := p) hp0, wrap_u64 (_ * 4294967296), u64_join32 _ _ (by omega) (by omega) (by omega) (by omega) (by omega)]
  rw [e]
  clear e hp hq hr hs
  congr 2 <;> omega

/-! spec_l1Plus -/
-- plain: Fix
theorem spec_l1Plus_eq (a b : Int) (ha0 : 0 ≤ a) (hb0 : 0 ≤ b) (hb : b < 18446744073709551616) (h : a + b < 340282366920938463463374607431768211456) :
    spec_l1Plus.f (a / 18446744073709551616) (a % 18446744073709551616) b = some ((a + b) / 18446744073709551616, (a + b) % 18446744073709551616) := by
  unfold spec_l1Plus.f
  rw [wrap_u64, wrap_u64]
  by_cases h1 : (a % 18446744073709551616 + b) % 18446744073709551616 < a % 18446744073709551616
  · rw [if_pos h1]; congr 2 <;> omega
  · rw [if_neg h1]; congr 2 <;> omega

/-! spec_l1Sum -/
-- plain: Fix
theorem spec_l1Sum_eq (a b : Int) (ha0 : 0 ≤ a) (hb0 : 0 ≤ b) (h : a + b < 340282366920938463463374607431768211456) :
    spec_l1Sum.f (a / 18446744073709551616) (a % 18446744073709551616) (b / 18446744073709551616) (b % 18446744073709551616) = some ((a + b) / 18446744073709551616, (a + b) % 18446744073709551616) := by
  unfold spec_l1Sum.f
  rw [spec_l1Plus_eq a (b % 18446744073709551616) ha0 (by omega) (by omega) (by omega), Option.bind_some]
  simp only [wrap_u64]
  congr 2 <;> omega

/-! spec_l1Less -/
-- plain: Fix
theorem spec_l1Less_eq (a b : Int) : spec_l1Less.f (a / 18446744073709551616) (a % 18446744073709551616) (b / 18446744073709551616) (b % 18446744073709551616) = some (decide (a < b)) := by
  unfold spec_l1Less.f
  by_cases h1 : a / 18446744073709551616 < b / 18446744073709551616
  · rw [if_pos h1, decide_eq_true (by omega)]
  · rw [if_neg h1]
    by_cases h2 : a / 18446744073709551616 = b / 18446744073709551616
    · rw [if_pos h2]; congr 1; rw [decide_eq_decide]; omega
    · rw [if_neg h2, decide_eq_false (by omega)]

/-! spec_l1Over -/
-- plain: Fix
theorem spec_l1Over_ev (a b top : Int) (ha0 : 0 ≤ a) (hb0 : 0 < b) (hb : b < 18446744073709551616) (ht0 : 0 ≤ top) (ht : top ≤ 4611686018427387904) :
    Ev (fun k => spec_l1Over.f k (a / 18446744073709551616) (a % 18446744073709551616) b top) (if a / b ≤ top then a / b else top) := by
  have mid : ∀ lo hi : Int, 0 ≤ lo → lo < hi → hi ≤ top → IntKind.u64.wrap (lo + (IntKind.u64.wrap (Int.tdiv (IntKind.u64.wrap ((IntKind.u64.wrap (hi - lo)) + 1)) 2))) = lo + (hi - lo + 1) / 2 := by
    intro lo hi h0 h1 h2
    rw [u64_id (hi - lo) (by omega) (by omega), u64_id (hi - lo + 1) (by omega) (by omega), Int.tdiv_eq_ediv_of_nonneg (by omega), u64_id ((hi - lo + 1) / 2) (by omega) (by omega), u64_id _ (by omega) (by omega)]
  have H := bisect_ev (fun lo hi k => spec_l1Over.l0 k b lo hi (a / 18446744073709551616) (a % 18446744073709551616)) (fun m => m * b ≤ a) 0 top ?_ ?_ ?_ ht0 (by omega)
  · obtain ⟨r, hr, h0, h1, h2, h3⟩ := H
    have hle : r ≤ a / b := by rw [Int.le_ediv_iff_mul_le hb0]; exact h2
    have e : (if a / b ≤ top then a / b else top) = r := by
      rcases h3 with rfl | h3
      · split <;> omega
      · have : a / b < r + 1 := by rw [Int.ediv_lt_iff_lt_mul hb0]; omega
        split <;> omega
    rw [e]; exact hr
  · intro lo h0 h1
    refine ev_done fun k => ?_
    rw [spec_l1Over.l0, if_neg (by omega)]
  · intro lo hi r h0 h1 h2 hp h
    refine Ev.step (fun k => ?_) h
    rw [spec_l1Over.l0, if_pos h1, mid lo hi h0 h1 h2, spec_l1Times_eq _ _ (by omega) (by omega) (by omega) (by omega), Option.bind_some, spec_l1Less_eq, Option.bind_some, if_neg (by simpa using hp)]
  · intro lo hi r h0 h1 h2 hp h
    refine Ev.step (fun k => ?_) h
    rw [spec_l1Over.l0, if_pos h1, mid lo hi h0 h1 h2, spec_l1Times_eq _ _ (by omega) (by omega) (by omega) (by omega), Option.bind_some, spec_l1Less_eq, Option.bind_some, if_pos (by simpa using hp), u64_id _ (by omega) (by omega)]

/-! spec_l1Cut -/
-- plain: Fix
theorem spec_l1Cut_eq (a : Int) : spec_l1Cut.f a = some (cutFix a) := by
  unfold spec_l1Cut.f cutFix
  split
  · rfl
  · split <;> rfl

/-! spec_l1Near -/
-- plain: Fix
theorem spec_l1Near_ev (neg : Bool) (v b : Int) (hv0 : 0 ≤ v) (hv : v ≤ 1208925819614629174706176) (hb0 : 0 < b) (hb : b ≤ 1099511627776) :
    Ev (fun k => spec_l1Near.f k neg (v / 18446744073709551616) (v % 18446744073709551616) b) (nearFix neg v b) := by
  have hw : IntKind.u64.wrap (2 * b) = 2 * b := u64_id _ (by omega) (by omega)
  have hcap : ∀ q : Int, 0 ≤ q → wrap64 (if q ≤ 4398046511104 then q else 4398046511104) = (if q ≤ 4398046511104 then q else 4398046511104) ∧ wrap64 (-(if q ≤ 4398046511104 then q else 4398046511104)) = -(if q ≤ 4398046511104 then q else 4398046511104) := by
    intro q hq
    split <;> exact ⟨wrap_id (by omega) (by omega), wrap_id (by omega) (by omega)⟩
  simp only [spec_l1Near.f]
  rw [spec_l1Sum_eq v v hv0 hv0 (by omega)]
  simp only [Option.bind_some]
  rw [spec_l1Plus_eq (v + v) b (by omega) (by omega) (by omega) (by omega)]
  simp only [Option.bind_some]
  cases neg with
  | false =>
    refine ev_if_neg (by decide) (Ev.step (fun k => spec_l1Near.j0.eq_2 ..) ?_)
    rw [hw]
    have h := spec_l1Over_ev (v + v + b) (2 * b) 4398046511104 (by omega) (by omega) (by omega) (by omega) (by omega)
    refine ev_bind h (ev_if_neg (by decide) ?_)
    have hq : 0 ≤ (v + v + b) / (2 * b) := Int.ediv_nonneg (by omega) (by omega)
    rw [(hcap _ hq).1, spec_l1Cut_eq, (cutFix_cap _ hq).1]
    simp only [Option.bind_some]
    have e : nearFix false v b = cutFix ((v + v + b) / (2 * b)) := by unfold nearFix; rw [if_neg (by decide)]; congr 2; omega
    rw [e]; exact Ev.now _
  | true =>
    have h := spec_l1Over_ev (v + v + b - 1) (2 * b) 4398046511104 (by omega) (by omega) (by omega) (by omega) (by omega)
    have hq : 0 ≤ (v + v + b - 1) / (2 * b) := Int.ediv_nonneg (by omega) (by omega)
    have e : nearFix true v b = cutFix (-((v + v + b - 1) / (2 * b))) := by unfold nearFix; rw [if_pos rfl]; congr 3; omega
    have hfin : Ev (fun k => spec_l1Near.j0 k true b ((v + v + b - 1) / 18446744073709551616) ((v + v + b - 1) % 18446744073709551616)) (nearFix true v b) := by
      refine Ev.step (fun k => spec_l1Near.j0.eq_2 ..) ?_
      rw [hw]
      refine ev_bind h (ev_if_pos rfl ?_)
      rw [(hcap _ hq).1, (hcap _ hq).2, spec_l1Cut_eq, (cutFix_cap _ hq).2]
      simp only [Option.bind_some]
      rw [e]; exact Ev.now _
    refine ev_if_pos rfl ?_
    by_cases hz : (v + v + b) % 18446744073709551616 = 0
    · refine ev_if_pos hz ?_
      rw [wrap_u64, wrap_u64]
      have e1 : ((v + v + b) / 18446744073709551616 - 1) % 18446744073709551616 = (v + v + b - 1) / 18446744073709551616 := by omega
      have e2 : ((v + v + b) % 18446744073709551616 - 1) % 18446744073709551616 = (v + v + b - 1) % 18446744073709551616 := by omega
      rw [e1, e2]; exact hfin
    · refine ev_if_neg hz ?_
      rw [wrap_u64]
      have e1 : (v + v + b) / 18446744073709551616 = (v + v + b - 1) / 18446744073709551616 := by omega
      have e2 : ((v + v + b) % 18446744073709551616 - 1) % 18446744073709551616 = (v + v + b - 1) % 18446744073709551616 := by omega
      rw [e1, e2]; exact hfin

/-! spec_l1Abs -/
-- plain: Fix
theorem spec_l1Abs_eq (a : Int) (h0 : -9223372036854775807 ≤ a) (h1 : a ≤ 9223372036854775807) : spec_l1Abs.f a = some (if a < 0 then -a else a) := by
  unfold spec_l1Abs.f
  split
  · rw [wrap_id (by omega) (by omega)]
  · rfl

/-! spec_FixDiv -/
-- plain: Fix
def fixDiv (a b : Int) : Int := if (-1099511627776 ≤ a ∧ a ≤ 1099511627776) ∧ (-1099511627776 ≤ b ∧ b ≤ 1099511627776) ∧ b ≠ 0 then nearFix ((decide (a < 0)) != (decide (b < 0))) ((if a < 0 then -a else a) * 65536) (if b < 0 then -b else b) else 0
theorem fixDiv_at (a b : Int) (ha : -1099511627776 ≤ a ∧ a ≤ 1099511627776) (hb : -1099511627776 ≤ b ∧ b ≤ 1099511627776) (h0 : b ≠ 0) :
    fixDiv a b = nearFix ((decide (a < 0)) != (decide (b < 0))) ((if a < 0 then -a else a) * 65536) (if b < 0 then -b else b) := by
  unfold fixDiv; rw [if_pos ⟨ha, hb, h0⟩]
theorem spec_FixDiv_ev (a b : Int) : Ev (fun k => spec_FixDiv.f k a b) (fixDiv a b) := by
  simp only [spec_FixDiv.f, spec_GoodFixed_eq, Option.bind_some]
  have hz : Ev (fun k => spec_FixDiv.j0 k a b true) 0 := Ev.step (fun k => spec_FixDiv.j0.eq_2 ..) (ev_if_pos rfl (Ev.now 0))
  by_cases ha : -1099511627776 ≤ a ∧ a ≤ 1099511627776
  · refine ev_if_pos (by simpa using ha) ?_
    by_cases hb : -1099511627776 ≤ b ∧ b ≤ 1099511627776
    · refine ev_if_pos (by simpa using hb) ?_
      by_cases h0 : b = 0
      · have e : fixDiv a b = 0 := by unfold fixDiv; rw [if_neg (by omega)]
        rw [e, show (b == 0) = true by simpa using h0]; exact hz
      · have e : fixDiv a b = nearFix ((decide (a < 0)) != (decide (b < 0))) ((if a < 0 then -a else a) * 65536) (if b < 0 then -b else b) := by unfold fixDiv; rw [if_pos ⟨ha, hb, h0⟩]
        rw [e, show (b == 0) = false by simpa using h0]
        refine Ev.step (fun k => spec_FixDiv.j0.eq_2 ..) (ev_if_neg (by decide) ?_)
        rw [spec_l1Abs_eq a (by omega) (by omega), spec_l1Abs_eq b (by omega) (by omega)]
        simp only [Option.bind_some]
        have ra : 0 ≤ (if a < 0 then -a else a) ∧ (if a < 0 then -a else a) ≤ 1099511627776 := by split <;> omega
        have rb : 0 < (if b < 0 then -b else b) ∧ (if b < 0 then -b else b) ≤ 1099511627776 := by split <;> omega
        generalize (if a < 0 then -a else a) = x at *
        generalize (if b < 0 then -b else b) = y at *
        rw [u64_id x (by omega) (by omega), u64_id y (by omega) (by omega), spec_l1Times_eq x 65536 (by omega) (by omega) (by omega) (by omega)]
        simp only [Option.bind_some]
        exact ev_bind (spec_l1Near_ev _ (x * 65536) y (by omega) (by omega) (by omega) (by omega)) (Ev.now _)
    · have e : fixDiv a b = 0 := by unfold fixDiv; rw [if_neg (by omega)]
      rw [e]; exact ev_if_neg (by simpa using hb) hz
  · have e : fixDiv a b = 0 := by unfold fixDiv; rw [if_neg (by omega)]
    rw [e]; exact ev_if_neg (by simpa using ha) hz

/-! impl_within -/
theorem impl_within_eq (a b c : Int) : impl_within.f a b c = some (decide (b ≤ a ∧ a ≤ c)) := by
  unfold impl_within.f
  split
  · rename_i h; simp [h]
  · rename_i h; simp [h]

/-! impl_GoodFixed -/
theorem impl_GoodFixed_eq (a : Int) : impl_GoodFixed.f a = some (decide (-1099511627776 ≤ a ∧ a ≤ 1099511627776)) := by
  unfold impl_GoodFixed.f; rw [impl_within_eq]; rfl

/-! impl_areFixed -/
-- plain: Fix
theorem impl_areFixed_ev (l : List Int) (hl : l.length ≤ 9223372036854775807) : Ev (fun k => impl_areFixed.f k l) (l.all fun x => decide (-1099511627776 ≤ x ∧ x ≤ 1099511627776)) := by
  refine ev_from l.length (fun i k => impl_areFixed.l0 k l l.length i) (fun i => (l.drop i).all fun x => decide (-1099511627776 ≤ x ∧ x ≤ 1099511627776)) ?_ ?_ 0 (by omega)
  · refine ev_done fun k => ?_
    rw [impl_areFixed.l0, if_neg (by omega)]; simp
  · intro i hi h
    rw [drop_cons l 0 i hi, List.all_cons]
    by_cases hc : -1099511627776 ≤ l.getD i 0 ∧ l.getD i 0 ≤ 1099511627776
    · rw [decide_eq_true hc, Bool.true_and]
      refine Ev.step (fun k => ?_) h
      rw [impl_areFixed.l0, if_pos (by omega), if_pos (by omega), if_pos (by omega), rd_nat, impl_GoodFixed_eq, Option.bind_some, if_pos (by simpa using hc), wrap_up hi hl]
    · rw [decide_eq_false hc, Bool.false_and]
      refine ev_done fun k => ?_
      rw [impl_areFixed.l0, if_pos (by omega), if_pos (by omega), if_pos (by omega), rd_nat, impl_GoodFixed_eq, Option.bind_some, if_neg (by simpa using hc)]

/-! impl_cut -/
-- plain: Fix
theorem impl_cut_fix (a : Int) : impl_cut.f a (-1099511627776) 1099511627776 = some (cutFix a) := by
  unfold impl_cut.f cutFix mx mn
  congr 1
  split <;> (try split) <;> (try split) <;> (try split) <;> omega

/-! impl_down -/
theorem impl_down_eq (a b : Int) (hb : 0 < b) (ha0 : -9223372036854775808 ≤ a) (ha1 : a ≤ 9223372036854775807) : impl_down.f a b = some (a / b) := by
  have hr := ediv_range a b hb
  unfold impl_down.f
  rw [if_neg (by omega)]
  by_cases h1 : Int.tmod a b < 0
  · have h2 := tmod_neg_of hb h1
    have h3 := tdiv_down hb h1
    rw [if_pos h1, wrap_id (x := Int.tdiv a b) (by omega) (by omega), wrap_id (by omega) (by omega), h3]
  · have h3 := tdiv_even hb h1
    rw [if_neg h1, wrap_id (x := Int.tdiv a b) (by omega) (by omega), h3]

/-! impl_FixDiv -/
-- plain: Fix
theorem fixDiv_pos (a b : Int) (ha : -1099511627776 ≤ a ∧ a ≤ 1099511627776) (hb : 0 < b ∧ b ≤ 1099511627776) : fixDiv a b = cutFix ((2 * a * 65536 + b) / (2 * b)) := by
  rw [fixDiv_at a b ha (by omega) (by omega), if_neg (c := b < 0) (by omega), decide_eq_false (p := b < 0) (by omega)]
  by_cases h : a < 0
  · rw [if_pos h, decide_eq_true h]
    unfold nearFix
    rw [if_pos (by decide)]
    have := neg_near (2 * (-a * 65536)) b hb.1
    rw [← this]
    congr 2; omega
  · rw [if_neg h, decide_eq_false h]
    unfold nearFix
    rw [if_neg (by decide)]
    congr 2; omega
theorem fixDiv_neg (a b : Int) (ha : -1099511627776 ≤ a ∧ a ≤ 1099511627776) (hb : -1099511627776 ≤ b ∧ b < 0) : fixDiv a b = fixDiv (-a) (-b) := by
  by_cases h0 : a = 0
  · subst h0
    rw [fixDiv_at 0 b ha (by omega) (by omega), fixDiv_at (-0) (-b) (by omega) (by omega) (by omega)]
    rw [Int.neg_zero, if_neg (c := (0:Int) < 0) (by omega), if_pos (c := b < 0) (by omega), if_neg (c := -b < 0) (by omega), decide_eq_true (p := b < 0) (by omega), decide_eq_false (p := -b < 0) (by omega)]
    have e : nearFix true (0 * 65536) (-b) = 0 ∧ nearFix false (0 * 65536) (-b) = 0 := by
      unfold nearFix
      rw [if_pos rfl, if_neg (by decide)]
      have e1 : (2 * (0 * 65536) + -b - 1) / (2 * -b) = 0 := Int.ediv_eq_zero_of_lt (by omega) (by omega)
      have e2 : (2 * (0 * 65536) + -b) / (2 * -b) = 0 := Int.ediv_eq_zero_of_lt (by omega) (by omega)
      rw [e1, e2]; decide
    exact e.1.trans e.2.symm
  · rw [fixDiv_at a b ha (by omega) (by omega), fixDiv_at (-a) (-b) (by omega) (by omega) (by omega)]
    rw [if_pos (c := b < 0) (by omega), if_neg (c := -b < 0) (by omega), decide_eq_true (p := b < 0) (by omega), decide_eq_false (p := -b < 0) (by omega)]
    by_cases h : a < 0
    · rw [if_pos h, if_neg (c := -a < 0) (by omega), decide_eq_true h, decide_eq_false (p := -a < 0) (by omega)]; rfl
    · rw [if_neg h, if_pos (c := -a < 0) (by omega), decide_eq_false h, decide_eq_true (p := -a < 0) (by omega), Int.neg_neg]; rfl
theorem impl_FixDiv_ev (a b : Int) : Ev (fun k => impl_FixDiv.f k a b) (fixDiv a b) := by
  simp only [impl_FixDiv.f]
  refine ev_bind (impl_areFixed_ev [a, b] (by simp)) ?_
  have hz : Ev (fun k => impl_FixDiv.j0 k a b true) 0 := Ev.step (fun k => impl_FixDiv.j0.eq_2 ..) (ev_if_pos rfl (Ev.now 0))
  by_cases hab : (-1099511627776 ≤ a ∧ a ≤ 1099511627776) ∧ (-1099511627776 ≤ b ∧ b ≤ 1099511627776)
  · obtain ⟨ha, hb⟩ := hab
    refine ev_if_pos (by simp; omega) ?_
    by_cases h0 : b = 0
    · have e : fixDiv a b = 0 := by unfold fixDiv; rw [if_neg (by omega)]
      rw [e, show (b == 0) = true by simpa using h0]; exact hz
    · rw [show (b == 0) = false by simpa using h0]
      refine Ev.step (fun k => impl_FixDiv.j0.eq_2 ..) (ev_if_neg (by decide) ?_)
      by_cases hn : b < 0
      · rw [fixDiv_neg a b ha ⟨hb.1, hn⟩, fixDiv_pos (-a) (-b) (by omega) (by omega)]
        refine ev_if_pos hn ?_
        rw [wrap_id (x := -a) (by omega) (by omega), wrap_id (x := -b) (by omega) (by omega), wrap_id (x := 2 * -a) (by omega) (by omega), wrap_id (x := 2 * -a * 65536) (by omega) (by omega), wrap_id (x := 2 * -a * 65536 + -b) (by omega) (by omega), wrap_id (x := 2 * -b) (by omega) (by omega),
          impl_down_eq _ _ (by omega) (by omega) (by omega), Option.bind_some, impl_cut_fix, Option.bind_some]
        exact Ev.now _
      · rw [fixDiv_pos a b (by omega) (by omega)]
        refine ev_if_neg hn ?_
        rw [wrap_id (x := 2 * a) (by omega) (by omega), wrap_id (x := 2 * a * 65536) (by omega) (by omega), wrap_id (x := 2 * a * 65536 + b) (by omega) (by omega), wrap_id (x := 2 * b) (by omega) (by omega),
          impl_down_eq _ _ (by omega) (by omega) (by omega), Option.bind_some, impl_cut_fix, Option.bind_some]
        exact Ev.now _
  · have e : fixDiv a b = 0 := by unfold fixDiv; rw [if_neg (by omega)]
    rw [e]
    exact ev_if_neg (by simp; omega) hz

-- plain: Fix
theorem FnExactFixDiv : laws_FnExactFixDiv.Pure := by
  intro a b _ _
  refine Ev.rounds ?_
  simp only [laws_FnExactFixDiv.f]
  exact ev_bind (spec_FixDiv_ev a b) (ev_bind (impl_FixDiv_ev a b) (ev_if_pos rfl (Ev.now true)))

end Go.Proofs.Ytphdamdgenepmaa.Pure
