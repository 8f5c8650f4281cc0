/- MarksText: the program's MarksText answers as the reference's at all nodes, and writes into none; no condition. -/
import Derived.Test.YthfbpmjcjiihnaaGreatDoorPureFnExactMarksTexty1
import Derived.Test.YthfbpmjcjiihnaaGreatDoorPlain
import Derived.Test.YthfbpmjcjiihnaaGreatDoorEvs
import Derived.Test.YthfbpmjcjiihnaaGreatDoorStr
import Derived.Test.YthfbpmjcjiihnaaGreatDoorWord
import Derived.Test.YthfbpmjcjiihnaaGreatDoorRune
import Derived.Test.YthfbpmjcjiihnaaGreatDoorMark
set_option linter.unusedVariables false
set_option linter.unusedSimpArgs false
namespace Go.Proofs.YthfbpmjcjiihnaaGreatDoor.Pure
open Go.RowKit Go.Proofs.YthfbpmjcjiihnaaGreatDoor.PFnExactMarksText Go.Proofs.YthfbpmjcjiihnaaGreatDoorW.PrintWords Go.Proofs.YthfbpmjcjiihnaaGreatDoorW.PrintLast Go.Proofs.YthfbpmjcjiihnaaGreatDoorW.PrintMore Go.Proofs.YthfbpmjcjiihnaaGreatDoor.Plain

-- plain: Evs Mark Str
theorem MarksText_same (l : List S38) (hn : l.length ≤ 1048576) (hsz : ∀ x ∈ l, sizesNode x) : ∃ r, Ev (fun k => spec_MarksText.f k l) r ∧ Ev (fun k => impl_MarksText.f k l) r := by
  obtain ⟨v, h1, h2, h3⟩ := GoodNodes_both l hn hsz
  simp only [spec_MarksText.f, impl_MarksText.f]
  by_cases hv : v = true
  · subst hv
    obtain ⟨⟨hl1, hl⟩, hok⟩ := h3 rfl
    obtain ⟨t, t1, t2, _, _⟩ := text_both l hl hsz hok l.length 0 (by omega) (by omega)
    by_cases hb : (t.size : Int) > 3000
    · exact ⟨((⟨#[]⟩ : ByteArray), false), ev_bind h1 (ev_if_pos rfl (ev_bind t1 (ev_if_pos hb (Ev.now _)))), ev_bind h2 (ev_if_pos rfl (ev_bind t2 (ev_if_pos hb (Ev.now _))))⟩
    · exact ⟨(t, true), ev_bind h1 (ev_if_pos rfl (ev_bind t1 (ev_if_neg hb (Ev.now _)))), ev_bind h2 (ev_if_pos rfl (ev_bind t2 (ev_if_neg hb (Ev.now _))))⟩
  · exact ⟨((⟨#[]⟩ : ByteArray), false), ev_bind h1 (ev_if_neg hv (Ev.now _)), ev_bind h2 (ev_if_neg hv (Ev.now _))⟩
theorem FnExactMarksText (l : List S33) (g : l.length ≤ maxLen ∧ ∀ x ∈ l, goodNodeIn x) : ∃ k, laws_FnExactMarksText.f k l = some true := by
  obtain ⟨gl, gg⟩ := g
  refine Ev.rounds ?_
  simp only [laws_FnExactMarksText.f]
  obtain ⟨r, hr, hc⟩ := laws_szNodeS_ev l 1048576 (by omega) (by omega) gl gg
  refine ev_bind hr ?_
  by_cases hn : r < 0
  · exact ev_if_pos hn (Ev.now true)
  refine ev_if_neg hn ?_
  obtain ⟨hl, hs, hsz⟩ := nodes_of l (by rcases hc with hc | ⟨hc, hc2⟩ <;> omega) gg
  have hto := laws_toNodeS_ev l hl hs
  have hml : (l.map toNode).length ≤ 1048576 := by simpa using hl
  obtain ⟨⟨v, b⟩, h1, h2⟩ := MarksText_same (l.map toNode) hml hsz
  refine ev_bind hto (ev_bind h1 (ev_bind hto (ev_bind h2 ?_)))
  refine ev_if_pos rfl (Ev.step (fun k => laws_FnExactMarksText.j0.eq_2 ..) (ev_if_neg (by simp) (ev_bind hto ?_)))
  refine ev_bind (laws_eqNodeS_same (l.map toNode) (by omega) (fun x hx => by have := (hsz x hx).2.2.1; omega)) ?_
  exact ev_if_pos rfl (Ev.now true)

end Go.Proofs.YthfbpmjcjiihnaaGreatDoor.Pure
