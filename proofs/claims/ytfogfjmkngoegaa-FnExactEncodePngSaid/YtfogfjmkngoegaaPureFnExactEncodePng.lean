/- EncodePng: the program's EncodePng answers as the reference's at all sizes and pixels, writes into none, and its answer is its own; no condition. -/
import Derived.Test.YtfogfjmkngoegaaPureFnExactEncodePngy1
import Derived.Test.YtfogfjmkngoegaaPlain
import Derived.Test.YtfogfjmkngoegaaBits
import Derived.Test.YtfogfjmkngoegaaEvs
import Derived.Test.YtfogfjmkngoegaaFix
import Derived.Test.YtfogfjmkngoegaaPng
set_option linter.unusedVariables false
set_option linter.unusedSimpArgs false
namespace Go.Proofs.Ytfogfjmkngoegaa.Pure
open Go.RowKit Go.Proofs.Ytfogfjmkngoegaa.PFnExactEncodePng Go.Proofs.YtfogfjmkngoegaaW.PrintWords Go.Proofs.YtfogfjmkngoegaaW.PrintLast Go.Proofs.YtfogfjmkngoegaaW.PrintMore Go.Proofs.Ytfogfjmkngoegaa.Plain

-- plain: Evs Bits Png
theorem Encode_same (a0 a1 : Int) (D : List Int) (hD : InB D) (hl : D.length ≤ 1048576) : ∃ r, Ev (fun k => spec_EncodePng.f k a0 a1 D) r ∧ Ev (fun k => impl_EncodePng.f k a0 a1 D) r ∧ r.1.length ≤ 1000000 := by
  have side : ∀ x : Int, spec_l3Side.f x = some (decide (1 ≤ x ∧ x ≤ 36)) := fun x => by unfold spec_l3Side.f; rw [spec_l1In_eq]; rfl
  have bad : Ev (fun k => impl_EncodePng.j0 k a0 a1 D true) (([] : List Int), false) := Ev.step (fun k => impl_EncodePng.j0.eq_2 ..) (ev_if_pos rfl (Ev.now _))
  simp only [spec_EncodePng.f, impl_EncodePng.f]
  by_cases h0 : 1 ≤ a0 ∧ a0 ≤ 36
  rotate_left
  · exact ⟨([], false), ev_bind0 (side a0) (ev_if_neg (by rw [decide_eq_false h0]; decide) (Ev.now _)), ev_bind0 (impl_within_eq _ _ _) (ev_if_neg (by rw [decide_eq_false h0]; decide) bad), by simp⟩
  by_cases h1 : 1 ≤ a1 ∧ a1 ≤ 36
  rotate_left
  · exact ⟨([], false), ev_bind0 (side a0) (ev_if_pos (decide_eq_true h0) (ev_bind0 (side a1) (ev_if_neg (by rw [decide_eq_false h1]; decide) (Ev.now _)))), ev_bind0 (impl_within_eq _ _ _) (ev_if_pos (decide_eq_true h0) (ev_bind0 (impl_within_eq _ _ _) (ev_if_neg (by rw [decide_eq_false h1]; decide) bad))), by simp⟩
  by_cases h2 : (D.length : Int) = wrap64 (wrap64 (4 * a0) * a1)
  rotate_left
  · refine ⟨([], false), ev_bind0 (side a0) (ev_if_pos (decide_eq_true h0) (ev_bind0 (side a1) (ev_if_pos (decide_eq_true h1) (ev_if_neg h2 (Ev.now _))))), ev_bind0 (impl_within_eq _ _ _) (ev_if_pos (decide_eq_true h0) (ev_bind0 (impl_within_eq _ _ _) (ev_if_pos (decide_eq_true h1) ?_))), by simp⟩
    rw [show ((D.length : Int) != wrap64 (wrap64 (4 * a0) * a1)) = true from bne_iff_ne.mpr h2]
    exact bad
  obtain ⟨m, rfl⟩ := Int.eq_ofNat_of_zero_le (show 0 ≤ a0 by omega)
  obtain ⟨h, rfl⟩ := Int.eq_ofNat_of_zero_le (show 0 ≤ a1 by omega)
  have w4 : wrap64 (4 * (m : Int)) = ((4 * m : Nat) : Int) := by rw [wrap_id (by omega) (by omega)]; omega
  have hle : 4 * m * h ≤ 144 * 36 := Nat.mul_le_mul (by omega) (by omega)
  have e : ((4 * m : Nat) : Int) * (h : Int) = ((4 * m * h : Nat) : Int) := by rw [← Int.natCast_mul]
  have hlen : D.length = 4 * m * h := by
    rw [w4, e, wrap_id (by omega) (by omega)] at h2
    omega
  obtain ⟨r, r1, r2, r3⟩ := Encode_core D hD m h (by omega) (by omega) hlen
  refine ⟨(r, true), ev_bind0 (side _) (ev_if_pos (decide_eq_true h0) (ev_bind0 (side _) (ev_if_pos (decide_eq_true h1) (ev_if_pos h2 (ev_bind r1 (Ev.now _)))))), ev_bind0 (impl_within_eq _ _ _) (ev_if_pos (decide_eq_true h0) (ev_bind0 (impl_within_eq _ _ _) (ev_if_pos (decide_eq_true h1) ?_))), r3⟩
  rw [show ((D.length : Int) != wrap64 (wrap64 (4 * (m : Int)) * (h : Int))) = false from bne_eq_false_iff_eq.mpr h2]
  refine Ev.step (fun k => impl_EncodePng.j0.eq_2 ..) (ev_if_neg (by decide) ?_)
  rw [w4]
  refine ev_if_pos (by omega) (ev_if_pos (by omega) ?_)
  rw [Int.toNat_natCast]
  exact r2
theorem FnExactEncodePng : laws_FnExactEncodePng.Pure := by
  intro a0 a1 l ha0 ha1 hm hb hw
  by_cases hlen : (l.length : Int) > 1048576
  · exact ⟨0, by unfold laws_FnExactEncodePng.f; rw [if_pos hlen]⟩
  obtain ⟨⟨r, b⟩, hs, hi, hr⟩ := Encode_same a0 a1 l (inB_of hw) (by omega)
  simp only at hr
  refine Ev.rounds ?_
  simp only [laws_FnExactEncodePng.f]
  refine ev_if_neg hlen ?_
  refine ev_bind (laws_toByteS_ev l (by omega)) ?_
  refine ev_bind hs ?_
  refine ev_bind (laws_toByteS_ev l (by omega)) ?_
  refine ev_bind hi ?_
  refine ev_bind (laws_eqByteS_same r (by omega)) ?_
  refine ev_if_pos rfl ?_
  refine Ev.step (fun k => laws_FnExactEncodePng.j0.eq_2 ..) ?_
  refine ev_if_neg (by simp) ?_
  refine ev_bind (laws_toByteS_ev l (by omega)) ?_
  refine ev_bind (laws_eqByteS_same l (by omega)) ?_
  refine ev_if_pos rfl ?_
  refine ev_bind (laws_markByteS_ev l 1 (by omega) (by omega)) ?_
  refine ev_if_neg (by simp only; omega) ?_
  refine ev_bind (laws_eqByteS_same r (by omega)) ?_
  refine ev_if_pos rfl ?_
  refine Ev.step (fun k => laws_FnExactEncodePng.j1.eq_2 ..) ?_
  refine ev_if_neg (by simp) ?_
  refine ev_bind (laws_markByteS_ev r 1 (by omega) (by omega)) ?_
  refine ev_bind (laws_heldByteS_ev r.length 1 (by omega) (by omega)) ?_
  refine ev_if_neg (by omega) ?_
  refine ev_if_pos rfl ?_
  refine ev_bind (laws_toByteS_ev l (by omega)) ?_
  refine ev_bind hi ?_
  refine ev_bind (laws_eqByteS_same r (by omega)) ?_
  refine ev_if_pos rfl ?_
  refine Ev.step (fun k => laws_FnExactEncodePng.j2.eq_2 ..) ?_
  refine ev_if_neg (by simp) ?_
  refine ev_bind (laws_heldByteS_ev r.length 1 (by omega) (by omega)) ?_
  refine ev_if_neg (by omega) ?_
  exact ev_if_pos rfl (Ev.now true)

end Go.Proofs.Ytfogfjmkngoegaa.Pure
