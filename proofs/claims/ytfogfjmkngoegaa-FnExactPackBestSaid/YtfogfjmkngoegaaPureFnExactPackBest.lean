/- PackBest: the program's PackBest answers as the reference's at all bytes, writes into none, and its answer is its own; no condition. -/
import Derived.Test.YtfogfjmkngoegaaPureFnExactPackBesty2
import Derived.Test.YtfogfjmkngoegaaPlain
import Derived.Test.YtfogfjmkngoegaaBits
import Derived.Test.YtfogfjmkngoegaaEvs
set_option linter.unusedVariables false
set_option linter.unusedSimpArgs false
namespace Go.Proofs.Ytfogfjmkngoegaa.Pure
open Go.RowKit Go.Proofs.Ytfogfjmkngoegaa.PFnExactPackBest Go.Proofs.YtfogfjmkngoegaaW.PrintWords Go.Proofs.YtfogfjmkngoegaaW.PrintLast Go.Proofs.YtfogfjmkngoegaaW.PrintMore Go.Proofs.Ytfogfjmkngoegaa.Plain

-- plain: Evs Bits
theorem PackBest_same (D : List Int) (hd : ∀ x ∈ D, 0 ≤ x ∧ x < 256) : ∃ r, Ev (fun k => spec_PackBest.f k D) r ∧ Ev (fun k => impl_PackBest.f k D) r ∧ r.1.length ≤ 10000000 := by
  by_cases h6 : (D.length : Int) > 6000
  · refine ⟨([], false), ?_, ?_, by simp⟩
    · simp only [spec_PackBest.f]; exact ev_if_pos h6 (Ev.now _)
    · simp only [impl_PackBest.f]
      exact ev_bind0 (a := ([], false)) (by unfold impl_PackStoredOf.f; rw [if_pos h6]) (ev_if_neg (by decide) (Ev.now _))
  obtain ⟨r, s1, s2, s3, _⟩ := PackBest_core D hd h6
  refine ⟨(r, true), ?_, s2, s3⟩
  simp only [spec_PackBest.f]
  exact ev_if_neg h6 (ev_bind s1 (Ev.now _))
theorem FnExactPackBest : laws_FnExactPackBest.Pure := by
  intro l hm hb hw
  by_cases hlen : (l.length : Int) > 1048576
  · exact ⟨0, by unfold laws_FnExactPackBest.f; rw [if_pos hlen]⟩
  obtain ⟨⟨r, b⟩, hs, hi, hr⟩ := PackBest_same l (fun x hx => by have := u8_range (hw x hx); omega)
  simp only at hr
  refine Ev.rounds ?_
  simp only [laws_FnExactPackBest.f]
  refine ev_if_neg hlen ?_
  refine ev_bind (laws_toByteS_ev l (by omega)) ?_
  refine ev_bind hs ?_
  refine ev_bind (laws_toByteS_ev l (by omega)) ?_
  refine ev_bind hi ?_
  refine ev_bind (laws_eqByteS_same r (by omega)) ?_
  refine ev_if_pos rfl ?_
  refine Ev.step (fun k => laws_FnExactPackBest.j0.eq_2 ..) ?_
  refine ev_if_neg (by simp) ?_
  refine ev_bind (laws_toByteS_ev l (by omega)) ?_
  refine ev_bind (laws_eqByteS_same l (by omega)) ?_
  refine ev_if_pos rfl ?_
  refine ev_bind (laws_markByteS_ev l 1 (by omega) (by omega)) ?_
  refine ev_if_neg (by simp only; omega) ?_
  refine ev_bind (laws_eqByteS_same r (by omega)) ?_
  refine ev_if_pos rfl ?_
  refine Ev.step (fun k => laws_FnExactPackBest.j1.eq_2 ..) ?_
  refine ev_if_neg (by simp) ?_
  refine ev_bind (laws_markByteS_ev r 1 (by omega) (by omega)) ?_
  refine ev_bind (laws_heldByteS_ev r.length 1 (by omega) (by omega)) ?_
  refine ev_if_neg (by omega) ?_
  refine ev_if_pos rfl ?_
  refine ev_bind (laws_toByteS_ev l (by omega)) ?_
  refine ev_bind hi ?_
  refine ev_bind (laws_eqByteS_same r (by omega)) ?_
  refine ev_if_pos rfl ?_
  refine Ev.step (fun k => laws_FnExactPackBest.j2.eq_2 ..) ?_
  refine ev_if_neg (by simp) ?_
  refine ev_bind (laws_heldByteS_ev r.length 1 (by omega) (by omega)) ?_
  refine ev_if_neg (by omega) ?_
  exact ev_if_pos rfl (Ev.now true)

end Go.Proofs.Ytfogfjmkngoegaa.Pure
