/- GoodAffine: the program's GoodAffine answers as the reference's at every affine; no condition. -/
import Derived.Test.YthebkooanhkpfaaPFnExactGoodAffinex1
import Derived.Test.YthebkooanhkpfaaPlain
import Derived.Test.YthebkooanhkpfaaEvs
set_option linter.unusedVariables false
set_option linter.unusedSimpArgs false
namespace Go.Proofs.Ythebkooanhkpfaa.Pure
open Go.RowKit Go.Proofs.Ythebkooanhkpfaa.PFnExactGoodAffine Go.Proofs.YthebkooanhkpfaaW.PrintWords Go.Proofs.YthebkooanhkpfaaW.PrintLast Go.Proofs.YthebkooanhkpfaaW.PrintMore Go.Proofs.Ythebkooanhkpfaa.Plain

/-! spec_l1In -/
theorem spec_l1In_eq (a b c : Int) : spec_l1In.f a b c = some (decide (b ≤ a ∧ a ≤ c)) := by
  unfold spec_l1In.f
  split
  · rename_i h; simp [show b ≤ a from h]
  · rename_i h; simp [show ¬ b ≤ a from h]

/-! spec_GoodAffine -/
-- plain: Evs
theorem spec_GoodAffine_l0_ev (l : List Int) (hl : l.length ≤ 9223372036854775807) : Ev (fun k => spec_GoodAffine.l0 k l l.length 0) (l.all fun x => decide (-4294967296 ≤ x ∧ x ≤ 4294967296)) := by
  refine ev_from l.length (fun i k => spec_GoodAffine.l0 k l l.length i) (fun i => (l.drop i).all fun x => decide (-4294967296 ≤ x ∧ x ≤ 4294967296)) ?_ ?_ 0 (by omega)
  · refine ev_done fun k => ?_
    rw [spec_GoodAffine.l0, if_neg (by omega)]; simp
  · intro i hi h
    rw [drop_cons l 0 i hi, List.all_cons]
    by_cases hc : -4294967296 ≤ l.getD i 0 ∧ l.getD i 0 ≤ 4294967296
    · rw [decide_eq_true hc, Bool.true_and]
      refine Ev.step (fun k => ?_) h
      rw [spec_GoodAffine.l0, if_pos (by omega), if_pos (by omega), if_pos (by omega), rd_nat, spec_l1In_eq, Option.bind_some, if_pos (by simpa using hc), wrap_up hi hl]
    · rw [decide_eq_false hc, Bool.false_and]
      refine ev_done fun k => ?_
      rw [spec_GoodAffine.l0, if_pos (by omega), if_pos (by omega), if_pos (by omega), rd_nat, spec_l1In_eq, Option.bind_some, if_neg (by simpa using hc)]
theorem spec_GoodAffine_ev (a b c d e f : Int) : Ev (fun k => spec_GoodAffine.f k a b c d e f) ([a, b, c, d, e, f].all fun x => decide (-4294967296 ≤ x ∧ x ≤ 4294967296)) :=
  Ev.congr (fun k => rfl) (spec_GoodAffine_l0_ev [a, b, c, d, e, f] (by simp))

/-! impl_within -/
theorem impl_within_eq (a b c : Int) : impl_within.f a b c = some (decide (b ≤ a ∧ a ≤ c)) := by
  unfold impl_within.f
  split
  · rename_i h; simp [h]
  · rename_i h; simp [h]

/-! impl_GoodAffine -/
-- plain: Evs
theorem impl_GoodAffine_l0_ev (l : List Int) (hl : l.length ≤ 9223372036854775807) : Ev (fun k => impl_GoodAffine.l0 k l l.length 0) (l.all fun x => decide (-4294967296 ≤ x ∧ x ≤ 4294967296)) := by
  refine ev_from l.length (fun i k => impl_GoodAffine.l0 k l l.length i) (fun i => (l.drop i).all fun x => decide (-4294967296 ≤ x ∧ x ≤ 4294967296)) ?_ ?_ 0 (by omega)
  · refine ev_done fun k => ?_
    rw [impl_GoodAffine.l0, if_neg (by omega)]; simp
  · intro i hi h
    rw [drop_cons l 0 i hi, List.all_cons]
    by_cases hc : -4294967296 ≤ l.getD i 0 ∧ l.getD i 0 ≤ 4294967296
    · rw [decide_eq_true hc, Bool.true_and]
      refine Ev.step (fun k => ?_) h
      rw [impl_GoodAffine.l0, if_pos (by omega), if_pos (by omega), if_pos (by omega), rd_nat, impl_within_eq, Option.bind_some, if_pos (by simpa using hc), wrap_up hi hl]
    · rw [decide_eq_false hc, Bool.false_and]
      refine ev_done fun k => ?_
      rw [impl_GoodAffine.l0, if_pos (by omega), if_pos (by omega), if_pos (by omega), rd_nat, impl_within_eq, Option.bind_some, if_neg (by simpa using hc)]
theorem impl_GoodAffine_ev (a b c d e f : Int) : Ev (fun k => impl_GoodAffine.f k a b c d e f) ([a, b, c, d, e, f].all fun x => decide (-4294967296 ≤ x ∧ x ≤ 4294967296)) :=
  Ev.congr (fun k => rfl) (impl_GoodAffine_l0_ev [a, b, c, d, e, f] (by simp))

-- plain: Evs
theorem FnExactGoodAffine (a0 a1 a2 a3 a4 a5 : Int) (w0 : (Lit.int .i64 a0).wf = true) (w1 : (Lit.int .i64 a1).wf = true) (w2 : (Lit.int .i64 a2).wf = true) (w3 : (Lit.int .i64 a3).wf = true) (w4 : (Lit.int .i64 a4).wf = true) (w5 : (Lit.int .i64 a5).wf = true) :
    ∃ k, laws_FnExactGoodAffine.f k a0 a1 a2 a3 a4 a5 = some true := by
  refine Ev.rounds ?_
  simp only [laws_FnExactGoodAffine.f, laws_toAffine.f, Option.bind_some]
  refine ev_bind (spec_GoodAffine_ev a0 a1 a2 a3 a4 a5) ?_
  refine ev_bind (impl_GoodAffine_ev a0 a1 a2 a3 a4 a5) ?_
  exact ev_if_neg (by simp) (Ev.now true)

end Go.Proofs.Ythebkooanhkpfaa.Pure
