/- ReadSelector: the program's ReadSelector answers as the reference's at every text, and its answer owns its memory; no condition. -/
import Derived.Test.YtganmdnieihpeaaPureFnExactReadSelectory5
import Derived.Test.YtganmdnieihpeaaPlain
import Derived.Test.YtganmdnieihpeaaEvs
import Derived.Test.YtganmdnieihpeaaStr
import Derived.Test.YtganmdnieihpeaaWord
import Derived.Test.YtganmdnieihpeaaTrim
import Derived.Test.YtganmdnieihpeaaField
set_option linter.unusedVariables false
set_option linter.unusedSimpArgs false
namespace Go.Proofs.Ytganmdnieihpeaa.Pure
open Go.RowKit Go.Proofs.Ytganmdnieihpeaa.PFnExactReadSelector Go.Proofs.YtganmdnieihpeaaW.PrintWords Go.Proofs.YtganmdnieihpeaaW.PrintLast Go.Proofs.YtganmdnieihpeaaW.PrintMore Go.Proofs.Ytganmdnieihpeaa.Plain

-- plain: Evs Word Trim Field
theorem mkPartsEnd_le : ∀ (l : List S40) (x : Int) (n : Nat), l.length ≤ n → (∀ p ∈ l, p.f2.length ≤ 4) → mkPartsEnd l x ≤ x + 6 * n
  | [], x, n, _, _ => by rw [mkPartsEnd]; omega
  | p :: t, x, n, hn, h => by
    rw [List.length_cons] at hn
    have h1 := mkPartsEnd_le t (x + 2 + p.f2.length) (n - 1) (by omega) (fun q hq => h q (List.mem_cons_of_mem _ hq))
    have h2 := h p List.mem_cons_self
    rw [mkPartsEnd]; omega
theorem FnExactReadSelector : laws_FnExactReadSelector.Pure := by
  intro s hs
  refine Ev.rounds ?_
  simp only [laws_FnExactReadSelector.f]
  by_cases hlen : (s.size : Int) > 1048576
  · exact ev_if_pos hlen (Ev.now _)
  refine ev_if_neg hlen ?_
  have hs1 : s.size ≤ 1048576 := by omega
  have e1 : Ev (fun k => spec_ReadSelector.f k s) (selV [] ((wordsL blankU [] (B s)).map ofL)) := by
    simp only [spec_ReadSelector.f]
    exact ev_bind (spec_l5Selector_ev s hs1) (Ev.now _)
  have e2 := impl_ReadSelector_ev s hs1
  rw [← selV_selW _ [] rfl (by simp)] at e2
  obtain ⟨_, g2, g3⟩ := selV_good s
  generalize selV [] ((wordsL blankU [] (B s)).map ofL) = v at e1 e2 g2 g3
  have hend := mkPartsEnd_le v.1 1 5 g2 g3
  have hge := mkPartsEnd_ge v.1 1
  refine ev_bind e1 (ev_bind e2 (ev_bind (laws_eqPartS_same v.1 (by omega) (fun x hx => by have := g3 x hx; omega)) (ev_if_pos ⟨rfl, rfl⟩ ?_)))
  refine ev_bind (laws_markPartS_ev v.1 1 (by omega) (by omega) (by omega)) (ev_bind (laws_heldPartS_ev v.1 1 (by omega) (by omega) (by omega)) (ev_if_pos ⟨by omega, rfl⟩ (Ev.now _)))

end Go.Proofs.Ytganmdnieihpeaa.Pure
