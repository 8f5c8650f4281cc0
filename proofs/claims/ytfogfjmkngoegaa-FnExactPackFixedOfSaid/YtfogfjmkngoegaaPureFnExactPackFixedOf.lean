/- PackFixedOf: the program's PackFixedOf answers as the reference's at all bytes, writes into none, and its answer is its own; no condition. -/
import Derived.Test.YtfogfjmkngoegaaPureFnExactPackFixedOfy2
import Derived.Test.YtfogfjmkngoegaaPlain
import Derived.Test.YtfogfjmkngoegaaBits
import Derived.Test.YtfogfjmkngoegaaEvs
set_option linter.unusedVariables false
set_option linter.unusedSimpArgs false
namespace Go.Proofs.Ytfogfjmkngoegaa.Pure
open Go.RowKit Go.Proofs.Ytfogfjmkngoegaa.PFnExactPackFixedOf Go.Proofs.YtfogfjmkngoegaaW.PrintWords Go.Proofs.YtfogfjmkngoegaaW.PrintLast Go.Proofs.YtfogfjmkngoegaaW.PrintMore Go.Proofs.Ytfogfjmkngoegaa.Plain

-- plain: Evs Bits
theorem FnExactPackFixedOf : laws_FnExactPackFixedOf.Pure := by
  intro l hm hb hw
  by_cases hlen : (l.length : Int) > 1048576
  · exact ⟨0, by unfold laws_FnExactPackFixedOf.f; rw [if_pos hlen]⟩
  obtain ⟨⟨r, b⟩, hs, hi, hr⟩ := PackFixed_same l (fun x hx => by have := u8_range (hw x hx); omega)
  simp only at hr
  refine Ev.rounds ?_
  simp only [laws_FnExactPackFixedOf.f]
  refine ev_if_neg hlen ?_
  refine ev_bind (laws_toByteS_ev l (by omega)) ?_
  refine ev_bind hs ?_
  refine ev_bind (laws_toByteS_ev l (by omega)) ?_
  refine ev_bind hi ?_
  refine ev_bind (laws_eqByteS_same r (by omega)) ?_
  refine ev_if_pos rfl ?_
  refine Ev.step (fun k => laws_FnExactPackFixedOf.j0.eq_2 ..) ?_
  refine ev_if_neg (by simp) ?_
  refine ev_bind (laws_toByteS_ev l (by omega)) ?_
  refine ev_bind (laws_eqByteS_same l (by omega)) ?_
  refine ev_if_pos rfl ?_
  refine ev_bind (laws_markByteS_ev l 1 (by omega) (by omega)) ?_
  refine ev_if_neg (by simp only; omega) ?_
  refine ev_bind (laws_eqByteS_same r (by omega)) ?_
  refine ev_if_pos rfl ?_
  refine Ev.step (fun k => laws_FnExactPackFixedOf.j1.eq_2 ..) ?_
  refine ev_if_neg (by simp) ?_
  refine ev_bind (laws_markByteS_ev r 1 (by omega) (by omega)) ?_
  refine ev_bind (laws_heldByteS_ev r.length 1 (by omega) (by omega)) ?_
  refine ev_if_neg (by omega) ?_
  refine ev_if_pos rfl ?_
  refine ev_bind (laws_toByteS_ev l (by omega)) ?_
  refine ev_bind hi ?_
  refine ev_bind (laws_eqByteS_same r (by omega)) ?_
  refine ev_if_pos rfl ?_
  refine Ev.step (fun k => laws_FnExactPackFixedOf.j2.eq_2 ..) ?_
  refine ev_if_neg (by simp) ?_
  refine ev_bind (laws_heldByteS_ev r.length 1 (by omega) (by omega)) ?_
  refine ev_if_neg (by omega) ?_
  exact ev_if_pos rfl (Ev.now true)

end Go.Proofs.Ytfogfjmkngoegaa.Pure
