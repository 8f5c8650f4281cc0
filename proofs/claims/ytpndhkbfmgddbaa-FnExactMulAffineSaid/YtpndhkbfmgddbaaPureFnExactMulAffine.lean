/- MulAffine: the program's MulAffine answers as the reference's at all affines; no condition. -/
import Derived.Test.YtpndhkbfmgddbaaPFnExactMulAffinex8
import Derived.Test.YtpndhkbfmgddbaaPlain
import Derived.Test.YtpndhkbfmgddbaaEvs
import Derived.Test.YtpndhkbfmgddbaaBits
import Derived.Test.YtpndhkbfmgddbaaFix
set_option linter.unusedVariables false
set_option linter.unusedSimpArgs false
namespace Go.Proofs.Ytpndhkbfmgddbaa.Pure
open Go.RowKit Go.Proofs.Ytpndhkbfmgddbaa.PFnExactMulAffine Go.Proofs.YtpndhkbfmgddbaaW.PrintWords Go.Proofs.YtpndhkbfmgddbaaW.PrintLast Go.Proofs.YtpndhkbfmgddbaaW.PrintMore Go.Proofs.Ytpndhkbfmgddbaa.Plain

/-! spec_l1In -/
theorem spec_l1In_eq (a b c : Int) : spec_l1In.f a b c = some (decide (b ≤ a ∧ a ≤ c)) := by
  unfold spec_l1In.f
  split
  · rename_i h; simp [show b ≤ a from h]
  · rename_i h; simp [show ¬ b ≤ a from h]

/-! spec_GoodAffine -/
-- plain: Evs
theorem spec_GoodAffine_l0_ev (l : List Int) (hl : l.length ≤ 9223372036854775807) : Ev (fun k => spec_GoodAffine.l0 k l l.length 0) (l.all fun x => decide (-4294967296 ≤ x ∧ x ≤ 4294967296)) := by
  refine ev_from l.length (fun i k => spec_GoodAffine.l0 k l l.length i) (fun i => (l.drop i).all fun x => decide (-4294967296 ≤ x ∧ x ≤ 4294967296)) ?_ ?_ 0 (by omega)
  · refine ev_done fun k => ?_
    rw [spec_GoodAffine.l0, if_neg (by omega)]; simp
  · intro i hi h
    rw [drop_cons l 0 i hi, List.all_cons]
    by_cases hc : -4294967296 ≤ l.getD i 0 ∧ l.getD i 0 ≤ 4294967296
    · rw [decide_eq_true hc, Bool.true_and]
      refine Ev.step (fun k => ?_) h
      rw [spec_GoodAffine.l0, if_pos (by omega), if_pos (by omega), if_pos (by omega), rd_nat, spec_l1In_eq, Option.bind_some, if_pos (by simpa using hc), wrap_up hi hl]
    · rw [decide_eq_false hc, Bool.false_and]
      refine ev_done fun k => ?_
      rw [spec_GoodAffine.l0, if_pos (by omega), if_pos (by omega), if_pos (by omega), rd_nat, spec_l1In_eq, Option.bind_some, if_neg (by simpa using hc)]
theorem spec_GoodAffine_ev (a b c d e f : Int) : Ev (fun k => spec_GoodAffine.f k a b c d e f) ([a, b, c, d, e, f].all fun x => decide (-4294967296 ≤ x ∧ x ≤ 4294967296)) :=
  Ev.congr (fun k => rfl) (spec_GoodAffine_l0_ev [a, b, c, d, e, f] (by simp))

/-! spec_GoodFixed -/
theorem spec_GoodFixed_eq (a : Int) : spec_GoodFixed.f a = some (decide (-1099511627776 ≤ a ∧ a ≤ 1099511627776)) := by
  unfold spec_GoodFixed.f; rw [spec_l1In_eq]; rfl

/-! spec_l1Plus -/
-- plain: Fix
theorem spec_l1Plus_eq (a b : Int) (ha0 : 0 ≤ a) (hb0 : 0 ≤ b) (hb : b < 18446744073709551616) (h : a + b < 340282366920938463463374607431768211456) :
    spec_l1Plus.f (a / 18446744073709551616) (a % 18446744073709551616) b = some ((a + b) / 18446744073709551616, (a + b) % 18446744073709551616) := by
  unfold spec_l1Plus.f
  rw [wrap_u64, wrap_u64]
  by_cases h1 : (a % 18446744073709551616 + b) % 18446744073709551616 < a % 18446744073709551616
  · rw [if_pos h1]; congr 2 <;> omega
  · rw [if_neg h1]; congr 2 <;> omega

/-! spec_l1Sum -/
-- plain: Fix
theorem spec_l1Sum_eq (a b : Int) (ha0 : 0 ≤ a) (hb0 : 0 ≤ b) (h : a + b < 340282366920938463463374607431768211456) :
    spec_l1Sum.f (a / 18446744073709551616) (a % 18446744073709551616) (b / 18446744073709551616) (b % 18446744073709551616) = some ((a + b) / 18446744073709551616, (a + b) % 18446744073709551616) := by
  unfold spec_l1Sum.f
  rw [spec_l1Plus_eq a (b % 18446744073709551616) ha0 (by omega) (by omega) (by omega), Option.bind_some]
  simp only [wrap_u64]
  congr 2 <;> omega

/-! spec_l1Times -/
-- plain: Fix
theorem spec_l1Times_eq (a b : Int) (ha0 : 0 ≤ a) (ha : a < 18446744073709551616) (hb0 : 0 ≤ b) (hb : b < 18446744073709551616) :
    spec_l1Times.f a b = some (a * b / 18446744073709551616, a * b % 18446744073709551616) := by
  obtain ⟨p, q, r, s, hp, hq, hr, hs, e, hp0, hp1, hq0, hq1, hr0, hr1, hs0, hs1⟩ := halves_mul a b ha0 ha hb0 hb
  unfold spec_l1Times.f
  rw [Int.tmod_eq_emod_of_nonneg (a := a) ha0, Int.tmod_eq_emod_of_nonneg (a := b) hb0, Int.tdiv_eq_ediv_of_nonneg (a := a) ha0, Int.tdiv_eq_ediv_of_nonneg (a := b) hb0]
  rw [u64_id (a / 4294967296) (by omega) (by omega), u64_id (b / 4294967296) (by omega) (by omega)]
  rw [← hp, ← hq, ← hr, ← hs]
  rw [u64_id p hp0 (by omega), u64_id q hq0 (by omega), u64_id r hr0 (by omega), u64_id s hs0 (by omega)]
  rw [Int.tdiv_eq_ediv_of_nonneg (a := p) hp0, u64_id (p / 4294967296) (by omega) (by omega), u64_id (q + p / 4294967296) (by omega) (by omega)]
  rw [Int.tdiv_eq_ediv_of_nonneg (a := q + _) (by omega), Int.tmod_eq_emod_of_nonneg (a := q + _) (by omega), u64_id ((q + p / 4294967296) / 4294967296) (by omega) (by omega)]
  rw [u64_id (r + _) (by omega) (by omega), Int.tdiv_eq_ediv_of_nonneg (a := r + _) (by omega), u64_id ((r + (q + p / 4294967296) % 4294967296) / 4294967296) (by omega) (by omega)]
  rw [u64_id (s + _) (by omega) (by omega), u64_id (s + _ + _) (by omega) (by omega)]
  rw [Int.tmod_eq_emod_of_nonneg (a := p) hp0, wrap_u64 (_ * 4294967296), u64_join32 _ _ (by omega) (by omega) (by omega) (by omega) (by omega)]
  rw [e]
  clear e hp hq hr hs
  congr 2 <;> omega

/-! spec_l1Less -/
-- plain: Fix
theorem spec_l1Less_eq (a b : Int) : spec_l1Less.f (a / 18446744073709551616) (a % 18446744073709551616) (b / 18446744073709551616) (b % 18446744073709551616) = some (decide (a < b)) := by
  unfold spec_l1Less.f
  by_cases h1 : a / 18446744073709551616 < b / 18446744073709551616
  · rw [if_pos h1, decide_eq_true (by omega)]
  · rw [if_neg h1]
    by_cases h2 : a / 18446744073709551616 = b / 18446744073709551616
    · rw [if_pos h2]; congr 1; rw [decide_eq_decide]; omega
    · rw [if_neg h2, decide_eq_false (by omega)]

/-! spec_l1Over -/
-- plain: Fix
theorem spec_l1Over_ev (a b top : Int) (ha0 : 0 ≤ a) (hb0 : 0 < b) (hb : b < 18446744073709551616) (ht0 : 0 ≤ top) (ht : top ≤ 4611686018427387904) :
    Ev (fun k => spec_l1Over.f k (a / 18446744073709551616) (a % 18446744073709551616) b top) (if a / b ≤ top then a / b else top) := by
  have mid : ∀ lo hi : Int, 0 ≤ lo → lo < hi → hi ≤ top → IntKind.u64.wrap (lo + (IntKind.u64.wrap (Int.tdiv (IntKind.u64.wrap ((IntKind.u64.wrap (hi - lo)) + 1)) 2))) = lo + (hi - lo + 1) / 2 := by
    intro lo hi h0 h1 h2
    rw [u64_id (hi - lo) (by omega) (by omega), u64_id (hi - lo + 1) (by omega) (by omega), Int.tdiv_eq_ediv_of_nonneg (by omega), u64_id ((hi - lo + 1) / 2) (by omega) (by omega), u64_id _ (by omega) (by omega)]
  have H := bisect_ev (fun lo hi k => spec_l1Over.l0 k b lo hi (a / 18446744073709551616) (a % 18446744073709551616)) (fun m => m * b ≤ a) 0 top ?_ ?_ ?_ ht0 (by omega)
  · obtain ⟨r, hr, h0, h1, h2, h3⟩ := H
    have hle : r ≤ a / b := by rw [Int.le_ediv_iff_mul_le hb0]; exact h2
    have e : (if a / b ≤ top then a / b else top) = r := by
      rcases h3 with rfl | h3
      · split <;> omega
      · have : a / b < r + 1 := by rw [Int.ediv_lt_iff_lt_mul hb0]; omega
        split <;> omega
    rw [e]; exact hr
  · intro lo h0 h1
    refine ev_done fun k => ?_
    rw [spec_l1Over.l0, if_neg (by omega)]
  · intro lo hi r h0 h1 h2 hp h
    refine Ev.step (fun k => ?_) h
    rw [spec_l1Over.l0, if_pos h1, mid lo hi h0 h1 h2, spec_l1Times_eq _ _ (by omega) (by omega) (by omega) (by omega), Option.bind_some, spec_l1Less_eq, Option.bind_some, if_neg (by simpa using hp)]
  · intro lo hi r h0 h1 h2 hp h
    refine Ev.step (fun k => ?_) h
    rw [spec_l1Over.l0, if_pos h1, mid lo hi h0 h1 h2, spec_l1Times_eq _ _ (by omega) (by omega) (by omega) (by omega), Option.bind_some, spec_l1Less_eq, Option.bind_some, if_pos (by simpa using hp), u64_id _ (by omega) (by omega)]

/-! spec_l1Cut -/
-- plain: Fix
theorem spec_l1Cut_eq (a : Int) : spec_l1Cut.f a = some (cutFix a) := by
  unfold spec_l1Cut.f cutFix
  split
  · rfl
  · split <;> rfl

/-! spec_l1Near -/
-- plain: Fix
theorem spec_l1Near_ev (neg : Bool) (v b : Int) (hv0 : 0 ≤ v) (hv : v ≤ 1208925819614629174706176) (hb0 : 0 < b) (hb : b ≤ 1099511627776) :
    Ev (fun k => spec_l1Near.f k neg (v / 18446744073709551616) (v % 18446744073709551616) b) (nearFix neg v b) := by
  have hw : IntKind.u64.wrap (2 * b) = 2 * b := u64_id _ (by omega) (by omega)
  have hcap : ∀ q : Int, 0 ≤ q → wrap64 (if q ≤ 4398046511104 then q else 4398046511104) = (if q ≤ 4398046511104 then q else 4398046511104) ∧ wrap64 (-(if q ≤ 4398046511104 then q else 4398046511104)) = -(if q ≤ 4398046511104 then q else 4398046511104) := by
    intro q hq
    split <;> exact ⟨wrap_id (by omega) (by omega), wrap_id (by omega) (by omega)⟩
  simp only [spec_l1Near.f]
  rw [spec_l1Sum_eq v v hv0 hv0 (by omega)]
  simp only [Option.bind_some]
  rw [spec_l1Plus_eq (v + v) b (by omega) (by omega) (by omega) (by omega)]
  simp only [Option.bind_some]
  cases neg with
  | false =>
    refine ev_if_neg (by decide) (Ev.step (fun k => spec_l1Near.j0.eq_2 ..) ?_)
    rw [hw]
    have h := spec_l1Over_ev (v + v + b) (2 * b) 4398046511104 (by omega) (by omega) (by omega) (by omega) (by omega)
    refine ev_bind h (ev_if_neg (by decide) ?_)
    have hq : 0 ≤ (v + v + b) / (2 * b) := Int.ediv_nonneg (by omega) (by omega)
    rw [(hcap _ hq).1, spec_l1Cut_eq, (cutFix_cap _ hq).1]
    simp only [Option.bind_some]
    have e : nearFix false v b = cutFix ((v + v + b) / (2 * b)) := by unfold nearFix; rw [if_neg (by decide)]; congr 2; omega
    rw [e]; exact Ev.now _
  | true =>
    have h := spec_l1Over_ev (v + v + b - 1) (2 * b) 4398046511104 (by omega) (by omega) (by omega) (by omega) (by omega)
    have hq : 0 ≤ (v + v + b - 1) / (2 * b) := Int.ediv_nonneg (by omega) (by omega)
    have e : nearFix true v b = cutFix (-((v + v + b - 1) / (2 * b))) := by unfold nearFix; rw [if_pos rfl]; congr 3; omega
    have hfin : Ev (fun k => spec_l1Near.j0 k true b ((v + v + b - 1) / 18446744073709551616) ((v + v + b - 1) % 18446744073709551616)) (nearFix true v b) := by
      refine Ev.step (fun k => spec_l1Near.j0.eq_2 ..) ?_
      rw [hw]
      refine ev_bind h (ev_if_pos rfl ?_)
      rw [(hcap _ hq).1, (hcap _ hq).2, spec_l1Cut_eq, (cutFix_cap _ hq).2]
      simp only [Option.bind_some]
      rw [e]; exact Ev.now _
    refine ev_if_pos rfl ?_
    by_cases hz : (v + v + b) % 18446744073709551616 = 0
    · refine ev_if_pos hz ?_
      rw [wrap_u64, wrap_u64]
      have e1 : ((v + v + b) / 18446744073709551616 - 1) % 18446744073709551616 = (v + v + b - 1) / 18446744073709551616 := by omega
      have e2 : ((v + v + b) % 18446744073709551616 - 1) % 18446744073709551616 = (v + v + b - 1) % 18446744073709551616 := by omega
      rw [e1, e2]; exact hfin
    · refine ev_if_neg hz ?_
      rw [wrap_u64]
      have e1 : (v + v + b) / 18446744073709551616 = (v + v + b - 1) / 18446744073709551616 := by omega
      have e2 : ((v + v + b) % 18446744073709551616 - 1) % 18446744073709551616 = (v + v + b - 1) % 18446744073709551616 := by omega
      rw [e1, e2]; exact hfin

/-! spec_l1Abs -/
-- plain: Fix
theorem spec_l1Abs_eq (a : Int) (h0 : -9223372036854775807 ≤ a) (h1 : a ≤ 9223372036854775807) : spec_l1Abs.f a = some (if a < 0 then -a else a) := by
  unfold spec_l1Abs.f
  split
  · rw [wrap_id (by omega) (by omega)]
  · rfl

/-! spec_FixMul -/
-- plain: Fix
def fixMul (a b : Int) : Int := if (-1099511627776 ≤ a ∧ a ≤ 1099511627776) ∧ (-1099511627776 ≤ b ∧ b ≤ 1099511627776) then nearFix ((decide (a < 0)) != (decide (b < 0))) ((if a < 0 then -a else a) * (if b < 0 then -b else b)) 65536 else 0
theorem fixMul_at (a b : Int) (ha : -1099511627776 ≤ a ∧ a ≤ 1099511627776) (hb : -1099511627776 ≤ b ∧ b ≤ 1099511627776) :
    fixMul a b = nearFix ((decide (a < 0)) != (decide (b < 0))) ((if a < 0 then -a else a) * (if b < 0 then -b else b)) 65536 := by
  unfold fixMul; rw [if_pos ⟨ha, hb⟩]
theorem fixMul_range (a b : Int) : -1099511627776 ≤ fixMul a b ∧ fixMul a b ≤ 1099511627776 := by
  unfold fixMul nearFix
  split
  · split
    · exact cutFix_range _
    · exact cutFix_range _
  · omega
theorem spec_FixMul_ev (a b : Int) : Ev (fun k => spec_FixMul.f k a b) (fixMul a b) := by
  simp only [spec_FixMul.f, spec_GoodFixed_eq, Option.bind_some]
  have hz : Ev (fun k => spec_FixMul.j0 k a b true) 0 := Ev.step (fun k => spec_FixMul.j0.eq_2 ..) (ev_if_pos rfl (Ev.now 0))
  by_cases ha : -1099511627776 ≤ a ∧ a ≤ 1099511627776
  · refine ev_if_pos (by simpa using ha) ?_
    by_cases hb : -1099511627776 ≤ b ∧ b ≤ 1099511627776
    · rw [fixMul_at a b ha hb, decide_eq_true hb]
      refine Ev.step (fun k => spec_FixMul.j0.eq_2 ..) (ev_if_neg (by decide) ?_)
      rw [spec_l1Abs_eq a (by omega) (by omega), spec_l1Abs_eq b (by omega) (by omega)]
      simp only [Option.bind_some]
      have ra : 0 ≤ (if a < 0 then -a else a) ∧ (if a < 0 then -a else a) ≤ 1099511627776 := by split <;> omega
      have rb : 0 ≤ (if b < 0 then -b else b) ∧ (if b < 0 then -b else b) ≤ 1099511627776 := by split <;> omega
      generalize (if a < 0 then -a else a) = x at *
      generalize (if b < 0 then -b else b) = y at *
      have hv := mul_bound ra.1 ra.2 rb.1 rb.2
      rw [u64_id x (by omega) (by omega), u64_id y (by omega) (by omega), spec_l1Times_eq x y (by omega) (by omega) (by omega) (by omega)]
      simp only [Option.bind_some]
      exact ev_bind (spec_l1Near_ev _ (x * y) 65536 (by omega) (by omega) (by omega) (by omega)) (Ev.now _)
    · have e : fixMul a b = 0 := by unfold fixMul; rw [if_neg (by omega)]
      rw [e, decide_eq_false hb]; exact hz
  · have e : fixMul a b = 0 := by unfold fixMul; rw [if_neg (by omega)]
    rw [e]; exact ev_if_neg (by simpa using ha) hz

/-! impl_within -/
theorem impl_within_eq (a b c : Int) : impl_within.f a b c = some (decide (b ≤ a ∧ a ≤ c)) := by
  unfold impl_within.f
  split
  · rename_i h; simp [h]
  · rename_i h; simp [h]

/-! impl_GoodAffine -/
-- plain: Evs
theorem impl_GoodAffine_l0_ev (l : List Int) (hl : l.length ≤ 9223372036854775807) : Ev (fun k => impl_GoodAffine.l0 k l l.length 0) (l.all fun x => decide (-4294967296 ≤ x ∧ x ≤ 4294967296)) := by
  refine ev_from l.length (fun i k => impl_GoodAffine.l0 k l l.length i) (fun i => (l.drop i).all fun x => decide (-4294967296 ≤ x ∧ x ≤ 4294967296)) ?_ ?_ 0 (by omega)
  · refine ev_done fun k => ?_
    rw [impl_GoodAffine.l0, if_neg (by omega)]; simp
  · intro i hi h
    rw [drop_cons l 0 i hi, List.all_cons]
    by_cases hc : -4294967296 ≤ l.getD i 0 ∧ l.getD i 0 ≤ 4294967296
    · rw [decide_eq_true hc, Bool.true_and]
      refine Ev.step (fun k => ?_) h
      rw [impl_GoodAffine.l0, if_pos (by omega), if_pos (by omega), if_pos (by omega), rd_nat, impl_within_eq, Option.bind_some, if_pos (by simpa using hc), wrap_up hi hl]
    · rw [decide_eq_false hc, Bool.false_and]
      refine ev_done fun k => ?_
      rw [impl_GoodAffine.l0, if_pos (by omega), if_pos (by omega), if_pos (by omega), rd_nat, impl_within_eq, Option.bind_some, if_neg (by simpa using hc)]
theorem impl_GoodAffine_ev (a b c d e f : Int) : Ev (fun k => impl_GoodAffine.f k a b c d e f) ([a, b, c, d, e, f].all fun x => decide (-4294967296 ≤ x ∧ x ≤ 4294967296)) :=
  Ev.congr (fun k => rfl) (impl_GoodAffine_l0_ev [a, b, c, d, e, f] (by simp))

/-! impl_GoodFixed -/
theorem impl_GoodFixed_eq (a : Int) : impl_GoodFixed.f a = some (decide (-1099511627776 ≤ a ∧ a ≤ 1099511627776)) := by
  unfold impl_GoodFixed.f; rw [impl_within_eq]; rfl

/-! impl_areFixed -/
-- plain: Fix
theorem impl_areFixed_ev (l : List Int) (hl : l.length ≤ 9223372036854775807) : Ev (fun k => impl_areFixed.f k l) (l.all fun x => decide (-1099511627776 ≤ x ∧ x ≤ 1099511627776)) := by
  refine ev_from l.length (fun i k => impl_areFixed.l0 k l l.length i) (fun i => (l.drop i).all fun x => decide (-1099511627776 ≤ x ∧ x ≤ 1099511627776)) ?_ ?_ 0 (by omega)
  · refine ev_done fun k => ?_
    rw [impl_areFixed.l0, if_neg (by omega)]; simp
  · intro i hi h
    rw [drop_cons l 0 i hi, List.all_cons]
    by_cases hc : -1099511627776 ≤ l.getD i 0 ∧ l.getD i 0 ≤ 1099511627776
    · rw [decide_eq_true hc, Bool.true_and]
      refine Ev.step (fun k => ?_) h
      rw [impl_areFixed.l0, if_pos (by omega), if_pos (by omega), if_pos (by omega), rd_nat, impl_GoodFixed_eq, Option.bind_some, if_pos (by simpa using hc), wrap_up hi hl]
    · rw [decide_eq_false hc, Bool.false_and]
      refine ev_done fun k => ?_
      rw [impl_areFixed.l0, if_pos (by omega), if_pos (by omega), if_pos (by omega), rd_nat, impl_GoodFixed_eq, Option.bind_some, if_neg (by simpa using hc)]

/-! impl_cut -/
-- plain: Fix
theorem impl_cut_fix (a : Int) : impl_cut.f a (-1099511627776) 1099511627776 = some (cutFix a) := by
  unfold impl_cut.f cutFix mx mn
  congr 1
  split <;> (try split) <;> (try split) <;> (try split) <;> omega

/-! impl_down -/
theorem impl_down_eq (a b : Int) (hb : 0 < b) (ha0 : -9223372036854775808 ≤ a) (ha1 : a ≤ 9223372036854775807) : impl_down.f a b = some (a / b) := by
  have hr := ediv_range a b hb
  unfold impl_down.f
  rw [if_neg (by omega)]
  by_cases h1 : Int.tmod a b < 0
  · have h2 := tmod_neg_of hb h1
    have h3 := tdiv_down hb h1
    rw [if_pos h1, wrap_id (x := Int.tdiv a b) (by omega) (by omega), wrap_id (by omega) (by omega), h3]
  · have h3 := tdiv_even hb h1
    rw [if_neg h1, wrap_id (x := Int.tdiv a b) (by omega) (by omega), h3]

/-! bits_Mul64 -/
-- plain: Fix
theorem u64_low32 (a : Int) (h0 : 0 ≤ a) (h1 : a < 18446744073709551616) : Go.bits .and .u64 a 4294967295 = a % 4294967296 := by
  rw [Go.u64_and a 4294967295 h0 h1 (by omega) (by omega), show (4294967295 : Int).toNat = 4294967295 from rfl, Go.nat_mask32]; omega
theorem bits_Mul64_eq (a b : Int) (ha0 : 0 ≤ a) (ha : a < 18446744073709551616) (hb0 : 0 ≤ b) (hb : b < 18446744073709551616) :
    bits_Mul64.f a b = some (a * b / 18446744073709551616, a * b % 18446744073709551616) := by
  obtain ⟨p, q, r, s, hp, hq, hr, hs, e, hp0, hp1, hq0, hq1, hr0, hr1, hs0, hs1⟩ := halves_mul a b ha0 ha hb0 hb
  unfold bits_Mul64.f
  rw [u64_low32 a ha0 ha, u64_low32 b hb0 hb]
  rw [← hp, ← hq, ← hr, ← hs]
  rw [u64_id p hp0 (by omega), u64_id q hq0 (by omega), u64_id r hr0 (by omega), u64_id s hs0 (by omega)]
  rw [u64_id (q + p / 4294967296) (by omega) (by omega), u64_low32 (q + p / 4294967296) (by omega) (by omega)]
  rw [u64_id (s + (q + p / 4294967296) / 4294967296) (by omega) (by omega), u64_id ((q + p / 4294967296) % 4294967296 + r) (by omega) (by omega), u64_id (s + _ + _) (by omega) (by omega), wrap_u64]
  congr 2
  rw [e]
  clear e hp hq hr hs
  omega

/-! impl_FixMul -/
-- plain: Fix
theorem u64_join48 (x y : Int) (hx0 : 0 ≤ x) (hx : x % 281474976710656 = 0) (hx1 : x < 18446744073709551616) (hy0 : 0 ≤ y) (hy : y < 281474976710656) : Go.bits .or .u64 x y = x + y :=
  bits_join .u64 64 (by decide) wraps_u64 48 x y hx0 (by simpa using hx) (by simpa using hx1) hy0 (by simpa using hy) (by omega)
/-- what the product to the nearest is, by the half that is added. -/
theorem nearFix_half (neg : Bool) (v : Int) (h0 : 0 ≤ v) : nearFix neg v 65536 = if neg = true then cutFix (-((v + 32767) / 65536)) else cutFix ((v + 32768) / 65536) := by
  unfold nearFix
  cases neg
  · rw [if_neg (by decide), if_neg (by decide)]; congr 1; omega
  · rw [if_pos rfl, if_pos rfl]; congr 2; omega
theorem impl_FixMul_wide (a b : Int) (neg : Bool) (v h : Int) (hh : 0 ≤ h) (hh1 : h ≤ 32768) (h0 : 0 ≤ v) (hv : v ≤ 1208925819614629174706176) :
    Ev (fun k => impl_FixMul.j1 k neg (v / 18446744073709551616) (v % 18446744073709551616) h) (if neg = true then cutFix (-((v + h) / 65536)) else cutFix ((v + h) / 65536)) := by
  refine Ev.step (fun k => impl_FixMul.j1.eq_2 ..) ?_
  have ec : add64c (v % 18446744073709551616) h = (v + h) / 18446744073709551616 - v / 18446744073709551616 := by unfold add64c; omega
  have es : add64s (v % 18446744073709551616) h = (v + h) % 18446744073709551616 := by unfold add64s; omega
  rw [ec, es, u64_id (v / 18446744073709551616 + _) (by omega) (by omega)]
  rw [show v / 18446744073709551616 + ((v + h) / 18446744073709551616 - v / 18446744073709551616) = (v + h) / 18446744073709551616 by omega]
  generalize hu : v + h = u
  by_cases hc : u / 18446744073709551616 / 65536 = 0
  · refine ev_if_pos hc ?_
    rw [u64_id (u / 18446744073709551616 * 281474976710656) (by omega) (by omega), u64_join48 _ _ (by omega) (by omega) (by omega) (by omega) (by omega)]
    rw [show u / 18446744073709551616 * 281474976710656 + u % 18446744073709551616 / 65536 = u / 65536 by omega]
    have hm : 0 ≤ mn (u / 65536) 1099511627776 ∧ mn (u / 65536) 1099511627776 ≤ 1099511627776 := by unfold mn; split <;> omega
    rw [wrap_id (x := mn _ _) (by omega) (by omega), wrap_id (x := - mn _ _) (by omega) (by omega)]
    have e1 : cutFix (-(u / 65536)) = - mn (u / 65536) 1099511627776 := by unfold cutFix mn; split <;> (try split) <;> (try split) <;> omega
    have e2 : cutFix (u / 65536) = mn (u / 65536) 1099511627776 := by unfold cutFix mn; split <;> (try split) <;> (try split) <;> omega
    rw [e1, e2]
    cases neg
    · exact ev_if_neg (by decide) (Ev.now _)
    · exact ev_if_pos rfl (Ev.now _)
  · refine ev_if_neg hc ?_
    have e1 : cutFix (-(u / 65536)) = -1099511627776 := by unfold cutFix; split <;> (try split) <;> omega
    have e2 : cutFix (u / 65536) = 1099511627776 := by unfold cutFix; split <;> (try split) <;> omega
    rw [e1, e2]
    cases neg
    · exact ev_if_neg (by decide) (Ev.now _)
    · exact ev_if_pos rfl (Ev.now _)
theorem mul_signs (a b : Int) : a * b = if ((decide (a < 0)) != (decide (b < 0))) = true then -((if a < 0 then -a else a) * (if b < 0 then -b else b)) else (if a < 0 then -a else a) * (if b < 0 then -b else b) := by
  by_cases ha : a < 0
  · by_cases hb : b < 0
    · rw [if_pos ha, if_pos hb, decide_eq_true ha, decide_eq_true hb, if_neg (by decide), Int.neg_mul_neg]
    · rw [if_pos ha, if_neg hb, decide_eq_true ha, decide_eq_false hb, if_pos (by decide), Int.neg_mul, Int.neg_neg]
  · by_cases hb : b < 0
    · rw [if_neg ha, if_pos hb, decide_eq_false ha, decide_eq_true hb, if_pos (by decide), Int.mul_neg, Int.neg_neg]
    · rw [if_neg ha, if_neg hb, decide_eq_false ha, decide_eq_false hb, if_neg (by decide)]
theorem impl_FixMul_ev (a b : Int) : Ev (fun k => impl_FixMul.f k a b) (fixMul a b) := by
  simp only [impl_FixMul.f]
  refine ev_bind (impl_areFixed_ev [a, b] (by simp)) ?_
  by_cases hab : (-1099511627776 ≤ a ∧ a ≤ 1099511627776) ∧ (-1099511627776 ≤ b ∧ b ≤ 1099511627776)
  · obtain ⟨ha, hb⟩ := hab
    refine ev_if_pos (by simp; omega) ?_
    have hs := mul_signs a b
    have ra : 0 ≤ (if a < 0 then -a else a) ∧ (if a < 0 then -a else a) ≤ 1099511627776 := by split <;> omega
    have rb : 0 ≤ (if b < 0 then -b else b) ∧ (if b < 0 then -b else b) ≤ 1099511627776 := by split <;> omega
    have hv := mul_bound ra.1 ra.2 rb.1 rb.2
    have ea : mx a (wrap64 (-a)) = (if a < 0 then -a else a) := by rw [wrap_id (by omega) (by omega)]; unfold mx; split <;> split <;> omega
    have eb : mx b (wrap64 (-b)) = (if b < 0 then -b else b) := by rw [wrap_id (by omega) (by omega)]; unfold mx; split <;> split <;> omega
    rw [fixMul_at a b ha hb, nearFix_half _ _ hv.1]
    have wide : Ev (fun k => impl_FixMul.j0 k a b false) (if ((decide (a < 0)) != (decide (b < 0))) = true then cutFix (-(((if a < 0 then -a else a) * (if b < 0 then -b else b) + 32767) / 65536)) else cutFix (((if a < 0 then -a else a) * (if b < 0 then -b else b) + 32768) / 65536)) := by
      refine Ev.step (fun k => impl_FixMul.j0.eq_2 ..) (ev_if_neg (by decide) ?_)
      rw [ea, eb]
      generalize (if a < 0 then -a else a) = x at *
      generalize (if b < 0 then -b else b) = y at *
      rw [u64_id x (by omega) (by omega), u64_id y (by omega) (by omega), bits_Mul64_eq x y (by omega) (by omega) (by omega) (by omega)]
      simp only [Option.bind_some]
      by_cases hn : ((decide (a < 0)) != (decide (b < 0))) = true
      · refine ev_if_pos hn ?_
        have := impl_FixMul_wide a b ((decide (a < 0)) != (decide (b < 0))) (x * y) 32767 (by omega) (by omega) hv.1 (by omega)
        rw [if_pos hn] at this ⊢
        exact this
      · refine ev_if_neg hn ?_
        have := impl_FixMul_wide a b ((decide (a < 0)) != (decide (b < 0))) (x * y) 32768 (by omega) (by omega) hv.1 (by omega)
        rw [if_neg hn] at this ⊢
        exact this
    simp only [impl_within_eq, Option.bind_some]
    by_cases h1 : -1073741824 ≤ a ∧ a ≤ 1073741824
    · refine ev_if_pos (by simpa using h1) ?_
      by_cases h2 : -1073741824 ≤ b ∧ b ≤ 1073741824
      · rw [decide_eq_true h2]
        refine Ev.step (fun k => impl_FixMul.j0.eq_2 ..) (ev_if_pos rfl ?_)
        have ra' : (if a < 0 then -a else a) ≤ 1073741824 := by split <;> omega
        have rb' : (if b < 0 then -b else b) ≤ 1073741824 := by split <;> omega
        have hv' := mul_bound ra.1 ra' rb.1 rb'
        clear wide ea eb
        generalize (if a < 0 then -a else a) * (if b < 0 then -b else b) = v at *
        generalize a * b = z at *
        by_cases hn : ((decide (a < 0)) != (decide (b < 0))) = true
        · rw [if_pos hn] at hs ⊢
          subst hs
          rw [wrap_id (x := -v) (by omega) (by omega), wrap_id (by omega) (by omega), impl_down_eq _ _ (by omega) (by omega) (by omega), Option.bind_some, impl_cut_fix, Option.bind_some, show (-v + 32768) / 65536 = -((v + 32767) / 65536) by omega]
          exact Ev.now _
        · rw [if_neg hn] at hs ⊢
          subst hs
          rw [wrap_id (x := z) (by omega) (by omega), wrap_id (by omega) (by omega), impl_down_eq _ _ (by omega) (by omega) (by omega), Option.bind_some, impl_cut_fix, Option.bind_some]
          exact Ev.now _
      · rw [decide_eq_false h2]; exact wide
    · exact ev_if_neg (by simpa using h1) wide
  · have e : fixMul a b = 0 := by unfold fixMul; rw [if_neg (by omega)]
    rw [e]
    exact ev_if_neg (by simp; omega) (Ev.now 0)

-- plain: Evs Fix
theorem MulAffine_same (a0 a1 a2 a3 a4 a5 b0 b1 b2 b3 b4 b5 : Int) : ∃ r, Ev (fun k => spec_MulAffine.f k a0 a1 a2 a3 a4 a5 b0 b1 b2 b3 b4 b5) r ∧ Ev (fun k => impl_MulAffine.f k a0 a1 a2 a3 a4 a5 b0 b1 b2 b3 b4 b5) r := by
  obtain ⟨ga, sa, ia⟩ : ∃ g, Ev (fun k => spec_GoodAffine.f k a0 a1 a2 a3 a4 a5) g ∧ Ev (fun k => impl_GoodAffine.f k a0 a1 a2 a3 a4 a5) g := ⟨_, spec_GoodAffine_ev a0 a1 a2 a3 a4 a5, impl_GoodAffine_ev a0 a1 a2 a3 a4 a5⟩
  obtain ⟨gb, sb, ib⟩ : ∃ g, Ev (fun k => spec_GoodAffine.f k b0 b1 b2 b3 b4 b5) g ∧ Ev (fun k => impl_GoodAffine.f k b0 b1 b2 b3 b4 b5) g := ⟨_, spec_GoodAffine_ev b0 b1 b2 b3 b4 b5, impl_GoodAffine_ev b0 b1 b2 b3 b4 b5⟩
  obtain ⟨gx, sx, ix⟩ : ∃ g, Ev (fun k => spec_GoodAffine.f k (wrap64 (fixMul a0 b0 + fixMul a2 b1)) (wrap64 (fixMul a1 b0 + fixMul a3 b1)) (wrap64 (fixMul a0 b2 + fixMul a2 b3)) (wrap64 (fixMul a1 b2 + fixMul a3 b3)) (wrap64 (wrap64 (fixMul a0 b4 + fixMul a2 b5) + a4)) (wrap64 (wrap64 (fixMul a1 b4 + fixMul a3 b5) + a5))) g ∧ Ev (fun k => impl_GoodAffine.f k (wrap64 (fixMul a0 b0 + fixMul a2 b1)) (wrap64 (fixMul a1 b0 + fixMul a3 b1)) (wrap64 (fixMul a0 b2 + fixMul a2 b3)) (wrap64 (fixMul a1 b2 + fixMul a3 b3)) (wrap64 (wrap64 (fixMul a0 b4 + fixMul a2 b5) + a4)) (wrap64 (wrap64 (fixMul a1 b4 + fixMul a3 b5) + a5))) g := ⟨_, spec_GoodAffine_ev (wrap64 (fixMul a0 b0 + fixMul a2 b1)) (wrap64 (fixMul a1 b0 + fixMul a3 b1)) (wrap64 (fixMul a0 b2 + fixMul a2 b3)) (wrap64 (fixMul a1 b2 + fixMul a3 b3)) (wrap64 (wrap64 (fixMul a0 b4 + fixMul a2 b5) + a4)) (wrap64 (wrap64 (fixMul a1 b4 + fixMul a3 b5) + a5)), impl_GoodAffine_ev (wrap64 (fixMul a0 b0 + fixMul a2 b1)) (wrap64 (fixMul a1 b0 + fixMul a3 b1)) (wrap64 (fixMul a0 b2 + fixMul a2 b3)) (wrap64 (fixMul a1 b2 + fixMul a3 b3)) (wrap64 (wrap64 (fixMul a0 b4 + fixMul a2 b5) + a4)) (wrap64 (wrap64 (fixMul a1 b4 + fixMul a3 b5) + a5))⟩
  have hm : Ev (fun k => spec_l7Mul.f k a0 a1 a2 a3 a4 a5 b0 b1 b2 b3 b4 b5) ((wrap64 (fixMul a0 b0 + fixMul a2 b1)), (wrap64 (fixMul a1 b0 + fixMul a3 b1)), (wrap64 (fixMul a0 b2 + fixMul a2 b3)), (wrap64 (fixMul a1 b2 + fixMul a3 b3)), (wrap64 (wrap64 (fixMul a0 b4 + fixMul a2 b5) + a4)), (wrap64 (wrap64 (fixMul a1 b4 + fixMul a3 b5) + a5))) := by
    simp only [spec_l7Mul.f]
    exact ev_bind (spec_FixMul_ev a0 b0) (ev_bind (spec_FixMul_ev a2 b1) (ev_bind (spec_FixMul_ev a1 b0) (ev_bind (spec_FixMul_ev a3 b1) (ev_bind (spec_FixMul_ev a0 b2) (ev_bind (spec_FixMul_ev a2 b3) (ev_bind (spec_FixMul_ev a1 b2) (ev_bind (spec_FixMul_ev a3 b3) (ev_bind (spec_FixMul_ev a0 b4) (ev_bind (spec_FixMul_ev a2 b5) (ev_bind (spec_FixMul_ev a1 b4) (ev_bind (spec_FixMul_ev a3 b5) (Ev.now _))))))))))))
  simp only [spec_MulAffine.f, impl_MulAffine.f]
  cases ga with
  | false => exact ⟨(0, 0, 0, 0, 0, 0, false), ev_bind sa (ev_if_neg (by decide) (Ev.step (fun k => spec_MulAffine.j0.eq_2 ..) (ev_if_pos rfl (Ev.now _)))), ev_bind ia (ev_if_neg (by decide) (Ev.step (fun k => impl_MulAffine.j0.eq_2 ..) (ev_if_pos rfl (Ev.now _))))⟩
  | true =>
    cases gb with
    | false => exact ⟨(0, 0, 0, 0, 0, 0, false), ev_bind sa (ev_if_pos rfl (ev_bind sb (Ev.step (fun k => spec_MulAffine.j0.eq_2 ..) (ev_if_pos rfl (Ev.now _))))), ev_bind ia (ev_if_pos rfl (ev_bind ib (Ev.step (fun k => impl_MulAffine.j0.eq_2 ..) (ev_if_pos rfl (Ev.now _)))))⟩
    | true =>
      cases gx with
      | true => exact ⟨((wrap64 (fixMul a0 b0 + fixMul a2 b1)), (wrap64 (fixMul a1 b0 + fixMul a3 b1)), (wrap64 (fixMul a0 b2 + fixMul a2 b3)), (wrap64 (fixMul a1 b2 + fixMul a3 b3)), (wrap64 (wrap64 (fixMul a0 b4 + fixMul a2 b5) + a4)), (wrap64 (wrap64 (fixMul a1 b4 + fixMul a3 b5) + a5)), true), ev_bind sa (ev_if_pos rfl (ev_bind sb (Ev.step (fun k => spec_MulAffine.j0.eq_2 ..) (ev_if_neg (by decide) (ev_bind hm (ev_bind sx (ev_if_pos rfl (Ev.now _)))))))), ev_bind ia (ev_if_pos rfl (ev_bind ib (Ev.step (fun k => impl_MulAffine.j0.eq_2 ..) (ev_if_neg (by decide) (ev_bind (impl_FixMul_ev a0 b0) (ev_bind (impl_FixMul_ev a2 b1) (ev_bind (impl_FixMul_ev a1 b0) (ev_bind (impl_FixMul_ev a3 b1) (ev_bind (impl_FixMul_ev a0 b2) (ev_bind (impl_FixMul_ev a2 b3) (ev_bind (impl_FixMul_ev a1 b2) (ev_bind (impl_FixMul_ev a3 b3) (ev_bind (impl_FixMul_ev a0 b4) (ev_bind (impl_FixMul_ev a2 b5) (ev_bind (impl_FixMul_ev a1 b4) (ev_bind (impl_FixMul_ev a3 b5) (ev_bind ix (ev_if_pos rfl (Ev.now _)))))))))))))))))))⟩
      | false => exact ⟨(0, 0, 0, 0, 0, 0, false), ev_bind sa (ev_if_pos rfl (ev_bind sb (Ev.step (fun k => spec_MulAffine.j0.eq_2 ..) (ev_if_neg (by decide) (ev_bind hm (ev_bind sx (ev_if_neg (by decide) (Ev.now _)))))))), ev_bind ia (ev_if_pos rfl (ev_bind ib (Ev.step (fun k => impl_MulAffine.j0.eq_2 ..) (ev_if_neg (by decide) (ev_bind (impl_FixMul_ev a0 b0) (ev_bind (impl_FixMul_ev a2 b1) (ev_bind (impl_FixMul_ev a1 b0) (ev_bind (impl_FixMul_ev a3 b1) (ev_bind (impl_FixMul_ev a0 b2) (ev_bind (impl_FixMul_ev a2 b3) (ev_bind (impl_FixMul_ev a1 b2) (ev_bind (impl_FixMul_ev a3 b3) (ev_bind (impl_FixMul_ev a0 b4) (ev_bind (impl_FixMul_ev a2 b5) (ev_bind (impl_FixMul_ev a1 b4) (ev_bind (impl_FixMul_ev a3 b5) (ev_bind ix (ev_if_neg (by decide) (Ev.now _)))))))))))))))))))⟩
theorem FnExactMulAffine (a0 a1 a2 a3 a4 a5 b0 b1 b2 b3 b4 b5 : Int) (w0_0 : (Lit.int .i64 a0).wf = true) (w0_1 : (Lit.int .i64 a1).wf = true) (w0_2 : (Lit.int .i64 a2).wf = true) (w0_3 : (Lit.int .i64 a3).wf = true) (w0_4 : (Lit.int .i64 a4).wf = true) (w0_5 : (Lit.int .i64 a5).wf = true) (w1_0 : (Lit.int .i64 b0).wf = true) (w1_1 : (Lit.int .i64 b1).wf = true) (w1_2 : (Lit.int .i64 b2).wf = true) (w1_3 : (Lit.int .i64 b3).wf = true) (w1_4 : (Lit.int .i64 b4).wf = true) (w1_5 : (Lit.int .i64 b5).wf = true) : ∃ k, laws_FnExactMulAffine.f k a0 a1 a2 a3 a4 a5 b0 b1 b2 b3 b4 b5 = some true := by
  refine Ev.rounds ?_
  simp only [laws_FnExactMulAffine.f, laws_toAffine.f, Option.bind_some]
  obtain ⟨⟨r0, r1, r2, r3, r4, r5, rb⟩, h1, h2⟩ := MulAffine_same a0 a1 a2 a3 a4 a5 b0 b1 b2 b3 b4 b5
  refine ev_bind h1 (ev_bind h2 (ev_bind0 (a := true) (by unfold laws_eqAffine.f; simp) ?_))
  exact ev_if_pos rfl (ev_if_neg (by simp) (Ev.now true))

end Go.Proofs.Ytpndhkbfmgddbaa.Pure
