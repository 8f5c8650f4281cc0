/- SheetText: the program's SheetText answers as the reference's at every sheet, and writes into none; no condition. -/
import Derived.Test.YtganmdnieihpeaaDoorPureFnExactSheetTexty2
import Derived.Test.YtganmdnieihpeaaDoorPlain
import Derived.Test.YtganmdnieihpeaaDoorEvs
import Derived.Test.YtganmdnieihpeaaDoorStr
import Derived.Test.YtganmdnieihpeaaDoorWord
import Derived.Test.YtganmdnieihpeaaDoorTrim
import Derived.Test.YtganmdnieihpeaaDoorCuts
import Derived.Test.YtganmdnieihpeaaDoorDecl
import Derived.Test.YtganmdnieihpeaaDoorGen
set_option linter.unusedVariables false
set_option linter.unusedSimpArgs false
namespace Go.Proofs.YtganmdnieihpeaaDoor.Pure
open Go.RowKit Go.Proofs.YtganmdnieihpeaaDoor.PFnExactSheetText Go.Proofs.YtganmdnieihpeaaDoorW.PrintWords Go.Proofs.YtganmdnieihpeaaDoorW.PrintLast Go.Proofs.YtganmdnieihpeaaDoorW.PrintMore Go.Proofs.YtganmdnieihpeaaDoor.Plain

-- plain: Word Trim Gen
theorem FnExactSheetText (l : List S40) (g : l.length ≤ maxLen ∧ ∀ x ∈ l, goodRuleIn x) : ∃ k, laws_FnExactSheetText.f k l = some true := by
  obtain ⟨gl, gg⟩ := g
  refine Ev.rounds ?_
  simp only [laws_FnExactSheetText.f]
  obtain ⟨r, hr, hc⟩ := laws_szRuleS_ev l 1048576 (by omega) (by omega) gl gg
  refine ev_bind hr ?_
  by_cases hn : r < 0
  · exact ev_if_pos hn (Ev.now true)
  refine ev_if_neg hn ?_
  obtain ⟨hl, hs⟩ := rule_sizes l (by rcases hc with hc | ⟨hc, hc2⟩ <;> omega)
  have hto := laws_toRuleS_ev l hl hs
  have hml : (l.map toRule).length ≤ 1048576 := by simpa using hl
  have hsm : ∀ x ∈ l.map toRule, smallI x := by
    intro x hx
    obtain ⟨y, hy, rfl⟩ := List.mem_map.1 hx
    obtain ⟨h0, h1, h2, h3⟩ := hs y hy
    refine ⟨by show (y.f0.map _).length ≤ _; simpa using h0, fun z hz => ?_, by show (y.f1.map _).length ≤ _; simpa using h2, fun d hd => ?_⟩
    · obtain ⟨u, hu, rfl⟩ := List.mem_map.1 hz
      refine ⟨by simpa using (h1 u hu).1, fun v hv => ?_⟩
      obtain ⟨p, hp, rfl⟩ := List.mem_map.1 hv
      exact (h1 u hu).2 p hp
    · obtain ⟨u, hu, rfl⟩ := List.mem_map.1 hd
      exact h3 u hu
  have main : ∃ v : ByteArray × Bool, Ev (fun k => spec_SheetText.f k (l.map toRule)) v ∧ Ev (fun k => impl_SheetText.f k (l.map toRule)) v := by
    generalize l.map toRule = L at hml hsm
    by_cases h30 : (L.length : Int) > 30
    · exact ⟨failB, by simp only [spec_SheetText.f]; exact ev_if_pos h30 (Ev.now _), by simp only [impl_SheetText.f]; exact ev_if_pos h30 (Ev.now _)⟩
    · refine ⟨fin [] L, ?_, ?_⟩
      · simp only [spec_SheetText.f]
        have h := spec_rules L (by omega) hsm L.length 0 (⟨#[]⟩ : ByteArray) (by omega) (by show 0 ≤ _; omega)
        exact ev_if_neg h30 h
      · simp only [impl_SheetText.f]
        have h := impl_rules L (by omega) hsm L.length 0 (⟨#[]⟩ : ByteArray) (by omega) (by show 0 ≤ _; omega)
        exact ev_if_neg h30 h
  obtain ⟨⟨v, b⟩, h1, h2⟩ := main
  refine ev_bind hto (ev_bind h1 (ev_bind hto (ev_bind h2 ?_)))
  refine ev_if_pos rfl ?_
  refine Ev.step (fun k => laws_FnExactSheetText.j0.eq_2 ..) (ev_if_neg (by simp) ?_)
  refine ev_bind hto ?_
  refine ev_bind (laws_eqRuleS_same (l.map toRule) hml hsm) ?_
  exact ev_if_pos rfl (Ev.now true)

end Go.Proofs.YtganmdnieihpeaaDoor.Pure
