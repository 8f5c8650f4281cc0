/- SinOf: the program's SinOf answers as the reference's at every integer; no condition. -/
import Derived.Test.YthebkooanhkpfaaPFnExactSinOfx1
import Derived.Test.YthebkooanhkpfaaPlain
import Derived.Test.YthebkooanhkpfaaEvs
import Derived.Test.YthebkooanhkpfaaBits
import Derived.Test.YthebkooanhkpfaaFix
set_option linter.unusedVariables false
set_option linter.unusedSimpArgs false
namespace Go.Proofs.Ythebkooanhkpfaa.Pure
open Go.RowKit Go.Proofs.Ythebkooanhkpfaa.PFnExactSinOf Go.Proofs.YthebkooanhkpfaaW.PrintWords Go.Proofs.YthebkooanhkpfaaW.PrintLast Go.Proofs.YthebkooanhkpfaaW.PrintMore Go.Proofs.Ythebkooanhkpfaa.Plain

/-! spec_l1Down -/
theorem spec_l1Down_eq (a b : Int) (hb : 0 < b) (ha0 : -9223372036854775808 ≤ a) (ha1 : a ≤ 9223372036854775807) : spec_l1Down.f a b = some (a / b) := by
  have hr := ediv_range a b hb
  unfold spec_l1Down.f
  rw [if_neg (by omega)]
  have d0 : decide (b < 0) = false := decide_eq_false (by omega)
  by_cases h1 : Int.tmod a b < 0
  · have h2 := tmod_neg_of hb h1
    have h3 := tdiv_down hb h1
    rw [if_neg (by omega), if_pos (by rw [d0]; simp [h2]), wrap_id (x := Int.tdiv a b) (by omega) (by omega), wrap_id (by omega) (by omega), h3]
  · have h3 := tdiv_even hb h1
    rw [wrap_id (x := Int.tdiv a b) (by omega) (by omega), h3]
    by_cases h0 : Int.tmod a b = 0
    · rw [if_pos h0]
    · rw [if_neg h0, if_neg]
      rw [d0]
      have : ¬ a < 0 := fun h => by have := tmod_of_neg hb h; omega
      simp [this]

/-! spec_l1Mod -/
theorem spec_l1Mod_eq (a b : Int) (hb : 0 < b) (hb1 : b ≤ 4294967296) (ha0 : -9223372036854775808 ≤ a) (ha1 : a ≤ 9223372036854775807) : spec_l1Mod.f a b = some (a % b) := by
  unfold spec_l1Mod.f
  rw [spec_l1Down_eq a b hb ha0 ha1, Option.bind_some]
  have h0 := Int.emod_nonneg a (Int.ne_of_gt hb)
  have h1 := Int.emod_lt_of_pos a hb
  have h2 := Int.mul_ediv_add_emod a b
  have h3 : wrap64 (a - wrap64 (b * (a / b))) = a % b := by
    generalize b * (a / b) = m at *
    generalize a % b = r at *
    subst h2
    unfold wrap64
    omega
  rw [h3]

/-! spec_SinOf -/
-- plain: Evs Fix
theorem sinT_range : ∀ q : Nat, q < 17 → 0 ≤ sinT.getD q 0 ∧ sinT.getD q 0 ≤ 65536 := by decide
theorem lerp_eq (c d r : Int) (hc : 0 ≤ c ∧ c ≤ 65536) (hd : 0 ≤ d ∧ d ≤ 65536) (hr : 0 ≤ r ∧ r ≤ 63) :
    wrap64 (Int.tdiv (wrap64 ((wrap64 ((wrap64 (c * (wrap64 (64 - r)))) + (wrap64 (d * r)))) + 32)) 64) = (c * (64 - r) + d * r + 32) / 64 := by
  have h1 := mul_bound (x := c) (y := 64 - r) (m := 65536) (n := 64) hc.1 hc.2 (by omega) (by omega)
  have h2 := mul_bound (x := d) (y := r) (m := 65536) (n := 64) hd.1 hd.2 (by omega) (by omega)
  rw [wrap_id (x := 64 - r) (by omega) (by omega)]
  generalize c * (64 - r) = x at *
  generalize d * r = y at *
  rw [wrap_id (x := x) (by omega) (by omega), wrap_id (x := y) (by omega) (by omega), wrap_id (x := x + y) (by omega) (by omega), wrap_id (x := x + y + 32) (by omega) (by omega), Int.tdiv_eq_ediv_of_nonneg (by omega), wrap_id (by omega) (by omega)]
theorem spec_SinOf_low (a t : Int) (ha : -9223372036854775808 ≤ a ∧ a ≤ 9223372036854775807) (h : a % 4096 = t) (h1 : t ≤ 1024) : Ev (fun k => spec_SinOf.f k a) (sinLow t) := by
  refine ev_done fun k => ?_
  rw [spec_SinOf.f, spec_l1Mod_eq a 4096 (by omega) (by omega) ha.1 ha.2, Option.bind_some, h, if_neg (by omega), if_neg (by omega)]
  unfold sinLow
  by_cases e : t = 1024
  · rw [if_pos e, if_pos e]
  · rw [if_neg e, if_neg e, spec_l1Table.f, Option.bind_some, show ([0, 6424, 12785, 19024, 25080, 30893, 36410, 41576, 46341, 50660, 54491, 57798, 60547, 62714, 64277, 65220, 65536] : List Int) = sinT from rfl]
    have hlen : sinT.length = 17 := rfl
    rw [Int.tdiv_eq_ediv_of_nonneg (a := t) (by omega), Int.tmod_eq_emod_of_nonneg (a := t) (by omega), wrap_id (x := t / 64) (by omega) (by omega), wrap_id (x := t / 64 + 1) (by omega) (by omega)]
    obtain ⟨q, hq⟩ : ∃ q : Nat, t / 64 = (q : Int) := ⟨(t / 64).toNat, by omega⟩
    rw [hq, hlen, if_pos (by omega), if_pos (by omega), if_pos (by omega), if_pos (by omega), cast_succ, rd_nat, rd_nat, lerp_eq _ _ _ (sinT_range q (by omega)) (sinT_range (q + 1) (by omega)) (by omega), Int.toNat_natCast]
theorem spec_SinOf_mid (a t : Int) (ha : -9223372036854775808 ≤ a ∧ a ≤ 9223372036854775807) (h : a % 4096 = t) (h1 : t < 2048) : Ev (fun k => spec_SinOf.f k a) (sinMid t) := by
  unfold sinMid
  by_cases hm : 1024 < t
  · rw [if_pos hm]
    refine Ev.step (fun k => spec_SinOf.f.eq_2 ..) ?_
    refine ev_bind0 (spec_l1Mod_eq a 4096 (by omega) (by omega) ha.1 ha.2) ?_
    rw [h]
    refine ev_if_neg (by omega) (ev_if_pos hm ?_)
    rw [wrap_id (by omega) (by omega)]
    exact ev_bind (spec_SinOf_low (2048 - t) (2048 - t) (by omega) (by omega) (by omega)) (Ev.now _)
  · rw [if_neg hm]
    exact spec_SinOf_low a t ha h (by omega)
theorem spec_SinOf_ev (a : Int) (ha : -9223372036854775808 ≤ a ∧ a ≤ 9223372036854775807) : Ev (fun k => spec_SinOf.f k a) (sinAll (a % 4096)) := by
  obtain ⟨t, h⟩ : ∃ t, a % 4096 = t := ⟨_, rfl⟩
  rw [h]
  unfold sinAll
  by_cases hm : 2048 ≤ t
  · rw [if_pos hm]
    have hs := sinMid_range (t - 2048) (by omega) (by omega)
    refine Ev.step (fun k => spec_SinOf.f.eq_2 ..) ?_
    refine ev_bind0 (spec_l1Mod_eq a 4096 (by omega) (by omega) ha.1 ha.2) ?_
    rw [h]
    refine ev_if_pos hm ?_
    rw [wrap_id (x := t - 2048) (by omega) (by omega)]
    refine ev_bind (spec_SinOf_mid (t - 2048) (t - 2048) (by omega) (by omega) (by omega)) ?_
    rw [wrap_id (by omega) (by omega)]
    exact Ev.now _
  · rw [if_neg hm]
    exact spec_SinOf_mid a t ha h (by omega)

/-! impl_turned -/
theorem impl_turned_eq (a : Int) : impl_turned.f a = some (a % 4096) := by
  unfold impl_turned.f
  have h : Int.tmod (wrap64 (Int.tmod a 4096 + 4096)) 4096 = a % 4096 := by
    have hc := tmod_cases a 4096 (by omega)
    generalize Int.tmod a 4096 = t at *
    rw [wrap_id (by omega) (by omega), Int.tmod_eq_emod_of_nonneg (by omega)]
    omega
  rw [h]

/-! impl_SinOf -/
theorem impl_SinOf_eq (a : Int) : impl_SinOf.f a = some (sinAll (a % 4096)) := by
  unfold impl_SinOf.f
  rw [impl_turned_eq, Option.bind_some, if_pos (by omega)]

-- plain: Evs Fix
theorem FnExactSinOf : laws_FnExactSinOf.Pure := by
  intro a w
  refine Ev.rounds ?_
  simp only [laws_FnExactSinOf.f]
  exact ev_bind (spec_SinOf_ev a (wf_i64 w)) (ev_bind0 (impl_SinOf_eq a) (ev_if_pos rfl (Ev.now true)))

end Go.Proofs.Ythebkooanhkpfaa.Pure
