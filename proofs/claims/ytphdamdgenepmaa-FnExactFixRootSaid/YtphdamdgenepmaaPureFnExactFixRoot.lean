/- FixRoot: the program's FixRoot answers as the reference's at every integer; no condition. -/
import Derived.Test.YtphdamdgenepmaaPFnExactFixRootx1
import Derived.Test.YtphdamdgenepmaaPlain
import Derived.Test.YtphdamdgenepmaaEvs
import Derived.Test.YtphdamdgenepmaaBits
import Derived.Test.YtphdamdgenepmaaFix
set_option linter.unusedVariables false
set_option linter.unusedSimpArgs false
namespace Go.Proofs.Ytphdamdgenepmaa.Pure
open Go.RowKit Go.Proofs.Ytphdamdgenepmaa.PFnExactFixRoot Go.Proofs.YtphdamdgenepmaaW.PrintWords Go.Proofs.YtphdamdgenepmaaW.PrintLast Go.Proofs.Ytphdamdgenepmaa.Plain

/-! spec_l1In -/
theorem spec_l1In_eq (a b c : Int) : spec_l1In.f a b c = some (decide (b ≤ a ∧ a ≤ c)) := by
  unfold spec_l1In.f
  split
  · rename_i h; simp [show b ≤ a from h]
  · rename_i h; simp [show ¬ b ≤ a from h]

/-! spec_GoodFixed -/
theorem spec_GoodFixed_eq (a : Int) : spec_GoodFixed.f a = some (decide (-1099511627776 ≤ a ∧ a ≤ 1099511627776)) := by
  unfold spec_GoodFixed.f; rw [spec_l1In_eq]; rfl

/-! spec_l1Times -/
-- plain: Fix
theorem spec_l1Times_eq (a b : Int) (ha0 : 0 ≤ a) (ha : a < 18446744073709551616) (hb0 : 0 ≤ b) (hb : b < 18446744073709551616) :
    spec_l1Times.f a b = some (a * b / 18446744073709551616, a * b % 18446744073709551616) := by
  obtain ⟨p, q, r, s, hp, hq, hr, hs, e, hp0, hp1, hq0, hq1, hr0, hr1, hs0, hs1⟩ := halves_mul a b ha0 ha hb0 hb
  unfold spec_l1Times.f
  rw [Int.tmod_eq_emod_of_nonneg (a := a) ha0, Int.tmod_eq_emod_of_nonneg (a := b) hb0, Int.tdiv_eq_ediv_of_nonneg (a := a) ha0, Int.tdiv_eq_ediv_of_nonneg (a := b) hb0]
  rw [u64_id (a / 4294967296) (by omega) (by omega), u64_id (b / 4294967296) (by omega) (by omega)]
  rw [← hp, ← hq, ← hr, ← hs]
  rw [u64_id p hp0 (by omega), u64_id q hq0 (by omega), u64_id r hr0 (by omega), u64_id s hs0 (by omega)]
  rw [Int.tdiv_eq_ediv_of_nonneg (a := p) hp0, u64_id (p / 4294967296) (by omega) (by omega), u64_id (q + p / 4294967296) (by omega) (by omega)]
  rw [Int.tdiv_eq_ediv_of_nonneg (a := q + _) (by omega), Int.tmod_eq_emod_of_nonneg (a := q + _) (by omega), u64_id ((q + p / 4294967296) / 4294967296) (by omega) (by omega)]
  rw [u64_id (r + _) (by omega) (by omega), Int.tdiv_eq_ediv_of_nonneg (a := r + _) (by omega), u64_id ((r + (q + p / 4294967296) % 4294967296) / 4294967296) (by omega) (by omega)]
  rw [u64_id (s + _) (by omega) (by omega), u64_id (s + _ + _) (by omega) (by omega)]
  rw [Int.tmod_eq_emod_of_nonneg (a := p) hp0, wrap_u64 (_ * 4294967296), u64_join32 _ _ (by omega) (by omega) (by omega) (by omega) (by omega)]
  rw [e]
  clear e hp hq hr hs
  congr 2 <;> omega

/-! spec_l1Less -/
-- plain: Fix
theorem spec_l1Less_eq (a b : Int) : spec_l1Less.f (a / 18446744073709551616) (a % 18446744073709551616) (b / 18446744073709551616) (b % 18446744073709551616) = some (decide (a < b)) := by
  unfold spec_l1Less.f
  by_cases h1 : a / 18446744073709551616 < b / 18446744073709551616
  · rw [if_pos h1, decide_eq_true (by omega)]
  · rw [if_neg h1]
    by_cases h2 : a / 18446744073709551616 = b / 18446744073709551616
    · rw [if_pos h2]; congr 1; rw [decide_eq_decide]; omega
    · rw [if_neg h2, decide_eq_false (by omega)]

/-! spec_l1Root -/
-- plain: Fix
theorem spec_l1Root_ev (a top : Int) (ha0 : 0 ≤ a) (ht0 : 0 ≤ top) (ht : top ≤ 4611686018427387904) : ∃ r, Ev (fun k => spec_l1Root.f k (a / 18446744073709551616) (a % 18446744073709551616) top) r ∧ 0 ≤ r ∧ r ≤ top ∧ r * r ≤ a ∧ (r = top ∨ a < (r + 1) * (r + 1)) := by
  have mid : ∀ lo hi : Int, 0 ≤ lo → lo < hi → hi ≤ top → IntKind.u64.wrap (lo + (IntKind.u64.wrap (Int.tdiv (IntKind.u64.wrap ((IntKind.u64.wrap (hi - lo)) + 1)) 2))) = lo + (hi - lo + 1) / 2 := by
    intro lo hi h0 h1 h2
    rw [u64_id (hi - lo) (by omega) (by omega), u64_id (hi - lo + 1) (by omega) (by omega), Int.tdiv_eq_ediv_of_nonneg (by omega), u64_id ((hi - lo + 1) / 2) (by omega) (by omega), u64_id _ (by omega) (by omega)]
  have H := bisect_ev (fun lo hi k => spec_l1Root.l0 k lo hi (a / 18446744073709551616) (a % 18446744073709551616)) (fun m => m * m ≤ a) 0 top ?_ ?_ ?_ ht0 (by omega)
  · obtain ⟨r, hr, h0, h1, h2, h3⟩ := H
    exact ⟨r, hr, h0, h1, h2, h3.imp id (fun h => by omega)⟩
  · intro lo h0 h1
    refine ev_done fun k => ?_
    rw [spec_l1Root.l0, if_neg (by omega)]
  · intro lo hi r h0 h1 h2 hp h
    refine Ev.step (fun k => ?_) h
    rw [spec_l1Root.l0, if_pos h1, mid lo hi h0 h1 h2, spec_l1Times_eq _ _ (by omega) (by omega) (by omega) (by omega), Option.bind_some, spec_l1Less_eq, Option.bind_some, if_neg (by simpa using hp)]
  · intro lo hi r h0 h1 h2 hp h
    refine Ev.step (fun k => ?_) h
    rw [spec_l1Root.l0, if_pos h1, mid lo hi h0 h1 h2, spec_l1Times_eq _ _ (by omega) (by omega) (by omega) (by omega), Option.bind_some, spec_l1Less_eq, Option.bind_some, if_pos (by simpa using hp), u64_id _ (by omega) (by omega)]

/-! impl_within -/
theorem impl_within_eq (a b c : Int) : impl_within.f a b c = some (decide (b ≤ a ∧ a ≤ c)) := by
  unfold impl_within.f
  split
  · rename_i h; simp [h]
  · rename_i h; simp [h]

/-! impl_root -/
-- plain: Fix
theorem impl_root_ev (a : Int) (ha0 : 0 ≤ a) (ha : a ≤ 1152921504606846976) : ∃ r, Ev (fun k => impl_root.f k a) r ∧ 0 ≤ r ∧ r ≤ 1073741824 ∧ r * r ≤ a ∧ (r = 1073741824 ∨ a < (r + 1) * (r + 1)) := by
  have mid : ∀ lo hi : Int, 0 ≤ lo → lo < hi → hi ≤ 1073741824 → wrap64 (Int.tdiv (wrap64 ((wrap64 (lo + hi)) + 1)) 2) = lo + (hi - lo + 1) / 2 := by
    intro lo hi h0 h1 h2
    rw [wrap_id (x := lo + hi) (by omega) (by omega), wrap_id (x := lo + hi + 1) (by omega) (by omega), Int.tdiv_eq_ediv_of_nonneg (by omega), wrap_id (by omega) (by omega)]
    omega
  have sq : ∀ lo hi : Int, 0 ≤ lo → lo < hi → hi ≤ 1073741824 → wrap64 ((lo + (hi - lo + 1) / 2) * (lo + (hi - lo + 1) / 2)) = (lo + (hi - lo + 1) / 2) * (lo + (hi - lo + 1) / 2) := by
    intro lo hi h0 h1 h2
    have := mul_bound (x := lo + (hi - lo + 1) / 2) (y := lo + (hi - lo + 1) / 2) (m := 1073741824) (n := 1073741824) (by omega) (by omega) (by omega) (by omega)
    rw [wrap_id (by omega) (by omega)]
  have H := bisect_ev (fun lo hi k => impl_root.l0 k a lo hi) (fun m => m * m ≤ a) 0 1073741824 ?_ ?_ ?_ (by omega) (by omega)
  · obtain ⟨r, hr, h0, h1, h2, h3⟩ := H
    exact ⟨r, hr, h0, h1, h2, h3.imp id (fun h => by omega)⟩
  · intro lo h0 h1
    refine ev_done fun k => ?_
    rw [impl_root.l0, if_neg (by omega)]
  · intro lo hi r h0 h1 h2 hp h
    refine Ev.step (fun k => ?_) h
    rw [impl_root.l0, if_pos h1, mid lo hi h0 h1 h2, sq lo hi h0 h1 h2, if_pos hp]
  · intro lo hi r h0 h1 h2 hp h
    refine Ev.step (fun k => ?_) h
    rw [impl_root.l0, if_pos h1, mid lo hi h0 h1 h2, sq lo hi h0 h1 h2, if_neg hp, wrap_id (by omega) (by omega)]

-- plain: Fix
theorem FnExactFixRoot : laws_FnExactFixRoot.Pure := by
  intro a _
  refine Ev.rounds ?_
  simp only [laws_FnExactFixRoot.f, spec_FixRoot.f, impl_FixRoot.f, spec_GoodFixed_eq, impl_within_eq, Option.bind_some]
  by_cases h : 0 ≤ a ∧ a ≤ 1099511627776
  · obtain ⟨r, hr, r0, r1, r2, r3⟩ := spec_l1Root_ev (a * 65536) 1099511627776 (by omega) (by omega) (by omega)
    obtain ⟨s, hs, s0, s1, s2, s3⟩ := impl_root_ev (a * 65536) (by omega) (by omega)
    have hr3 : a * 65536 < (r + 1) * (r + 1) := by
      rcases r3 with rfl | h
      · omega
      · exact h
    have hs3 : a * 65536 < (s + 1) * (s + 1) := by
      rcases s3 with rfl | h
      · omega
      · exact h
    obtain rfl := root_unique r0 s0 r2 hr3 s2 hs3
    have ew : wrap64 r = r := wrap_id (by omega) (by omega)
    refine ev_bind (a := r) (ev_if_neg (by omega) ?_) ?_
    · rw [decide_eq_true (by omega)]
      refine Ev.step (fun k => spec_FixRoot.j0.eq_2 ..) (ev_if_neg (by decide) ?_)
      rw [u64_id a (by omega) (by omega), spec_l1Times_eq a 65536 (by omega) (by omega) (by omega) (by omega)]
      simp only [Option.bind_some]
      refine ev_bind hr ?_
      rw [ew]; exact Ev.now r
    · refine ev_bind (a := r) (ev_if_pos (by simpa using h) ?_) (ev_if_pos rfl (Ev.now true))
      rw [wrap_id (x := a * 65536) (by omega) (by omega)]
      exact ev_bind hs (Ev.now r)
  · refine ev_bind (a := 0) ?_ (ev_bind (a := 0) (ev_if_neg (by simpa using h) (Ev.now 0)) (ev_if_pos rfl (Ev.now true)))
    by_cases h0 : a < 0
    · exact ev_if_pos h0 (Ev.step (fun k => spec_FixRoot.j0.eq_2 ..) (ev_if_pos rfl (Ev.now 0)))
    · refine ev_if_neg h0 ?_
      rw [decide_eq_false (by omega)]
      exact Ev.step (fun k => spec_FixRoot.j0.eq_2 ..) (ev_if_pos rfl (Ev.now 0))

end Go.Proofs.Ytphdamdgenepmaa.Pure
