/- ReadSheet: the program's ReadSheet answers as the reference's at every text, and its answer owns its memory; no condition. -/
import Derived.Test.YtooilehdljeepaaDoorPureFnExactReadSheety1
import Derived.Test.YtooilehdljeepaaDoorPlain
import Derived.Test.YtooilehdljeepaaDoorEvs
import Derived.Test.YtooilehdljeepaaDoorStr
import Derived.Test.YtooilehdljeepaaDoorWord
import Derived.Test.YtooilehdljeepaaDoorTrim
import Derived.Test.YtooilehdljeepaaDoorCuts
import Derived.Test.YtooilehdljeepaaDoorDecl
import Derived.Test.YtooilehdljeepaaDoorField
set_option linter.unusedVariables false
set_option linter.unusedSimpArgs false
namespace Go.Proofs.YtooilehdljeepaaDoor.Pure
open Go.RowKit Go.Proofs.YtooilehdljeepaaDoor.PFnExactReadSheet Go.Proofs.YtooilehdljeepaaDoorW.PrintWords Go.Proofs.YtooilehdljeepaaDoorW.PrintLast Go.Proofs.YtooilehdljeepaaDoorW.PrintMore Go.Proofs.YtooilehdljeepaaDoor.Plain

-- plain: Evs Word Trim Field Cuts Decl
theorem FnExactReadSheet : laws_FnExactReadSheet.Pure := by
  intro s hs
  refine Ev.rounds ?_
  simp only [laws_FnExactReadSheet.f]
  by_cases hlen : (s.size : Int) > 1048576
  · exact ev_if_pos hlen (Ev.now _)
  refine ev_if_neg hlen ?_
  obtain ⟨v, e1, e2, g2, g3⟩ := sheet_both s (by omega)
  have hend := mkRulesEnd_le v.1 1 g3
  have hge := mkRulesEnd_ge v.1 1
  have m1 : Ev (fun k => laws_markRuleS.f k v.1 1) (mkRulesEnd v.1 1, mkRules v.1 1) := markRules_l0 v.1 [] 1 (by omega) (by omega) (by rw [List.nil_append]; omega) g3
  have m2 : Ev (fun k => laws_heldRuleS.f k (mkRules v.1 1) 1) (mkRulesEnd v.1 1) := heldRules_l0 v.1 [] 1 (by omega) (by omega) (by rw [List.nil_append]; omega) g3
  refine ev_bind e1 (ev_bind e2 (ev_bind (eqRules_same v.1 (by omega) g3) (ev_if_pos ⟨rfl, rfl⟩ ?_)))
  exact ev_bind m1 (ev_bind m2 (ev_if_pos ⟨by omega, rfl⟩ (Ev.now _)))

end Go.Proofs.YtooilehdljeepaaDoor.Pure
