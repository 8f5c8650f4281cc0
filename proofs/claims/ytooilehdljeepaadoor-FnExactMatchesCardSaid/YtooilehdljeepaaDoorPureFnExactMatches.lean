/- Matches: the program's Matches answers as the reference's at all nodes, places and selectors, and writes into none; no condition. -/
import Derived.Test.YtooilehdljeepaaDoorPureFnExactMatchesy1
import Derived.Test.YtooilehdljeepaaDoorPlain
import Derived.Test.YtooilehdljeepaaDoorEvs
import Derived.Test.YtooilehdljeepaaDoorStr
import Derived.Test.YtooilehdljeepaaDoorWord
import Derived.Test.YtooilehdljeepaaDoorTrim
import Derived.Test.YtooilehdljeepaaDoorField
import Derived.Test.YtooilehdljeepaaDoorRune
import Derived.Test.YtooilehdljeepaaDoorMark
set_option linter.unusedVariables false
set_option linter.unusedSimpArgs false
namespace Go.Proofs.YtooilehdljeepaaDoor.Pure
open Go.RowKit Go.Proofs.YtooilehdljeepaaDoor.PFnExactMatches Go.Proofs.YtooilehdljeepaaDoorW.PrintWords Go.Proofs.YtooilehdljeepaaDoorW.PrintLast Go.Proofs.YtooilehdljeepaaDoorW.PrintMore Go.Proofs.YtooilehdljeepaaDoor.Plain

-- plain: Evs Field
theorem totPartS_nonneg9 (l : List S63) : 0 ≤ totPartS l := by unfold totPartS; have := totPartS_parts l; omega
theorem totNodeS_nonneg9 (l : List S60) : 0 ≤ totNodeS l := by unfold totNodeS; have := totNodeS_parts l; omega
theorem FnExactMatches (l : List S60) (a : Int) (s : List S63) (g : l.length ≤ maxLen ∧ ∀ x ∈ l, goodNodeIn x) (ga : (Lit.int .i64 a).wf = true) (gs : s.length ≤ maxLen ∧ ∀ x ∈ s, goodPartIn x) : ∃ k, laws_FnExactMatches.f k l a s = some true := by
  obtain ⟨gl, gg⟩ := g
  obtain ⟨sl, sg⟩ := gs
  refine Ev.rounds ?_
  simp only [laws_FnExactMatches.f]
  obtain ⟨r, hr, hc⟩ := laws_szNodeS_ev l 1048576 (by omega) (by omega) gl gg
  refine ev_bind hr ?_
  by_cases hn : r < 0
  · exact ev_if_pos hn (Ev.now true)
  refine ev_if_neg hn ?_
  have hnn := totNodeS_nonneg9 l
  obtain ⟨r2, hr2, hc2⟩ := laws_szPartS_ev s r (by omega) (by rcases hc with hc | ⟨hc, hc2⟩ <;> omega) sl sg
  refine ev_bind hr2 ?_
  by_cases hn2 : r2 < 0
  · exact ev_if_pos hn2 (Ev.now true)
  refine ev_if_neg hn2 ?_
  have hpn := totPartS_nonneg9 s
  obtain ⟨hl, hsl, hsz⟩ := nodes_of l (by rcases hc with hc | ⟨hc, hc9⟩ <;> rcases hc2 with hc2 | ⟨hc2, hc8⟩ <;> omega) gg
  obtain ⟨hpl, hps⟩ := sizes_of s (by rcases hc with hc | ⟨hc, hc9⟩ <;> rcases hc2 with hc2 | ⟨hc2, hc8⟩ <;> omega)
  have hto := laws_toNodeS_ev l hl hsl
  have htp := laws_toPartS_ev s hpl (fun x hx => (hps x hx).2.2.1)
  have hml : (l.map toNode).length ≤ 1048576 := by simpa using hl
  have hmp : (s.map toPart).length ≤ 1048576 := by simpa using hpl
  have hsp : ∀ x ∈ s.map toPart, sizesPart x := by
    intro x hx
    obtain ⟨y, hy, rfl⟩ := List.mem_map.1 hx
    exact hps y hy
  obtain ⟨v, h1, h2⟩ := Matches_same (l.map toNode) hml hsz a (s.map toPart) hmp hsp
  refine ev_bind hto (ev_bind htp (ev_bind h1 (ev_bind hto (ev_bind htp (ev_bind h2 ?_)))))
  refine ev_if_neg (by simp) (ev_bind hto ?_)
  refine ev_bind (laws_eqNodeS_same (l.map toNode) (by omega) (fun x hx => by have := (hsz x hx).2.2.1; omega)) ?_
  refine ev_if_pos rfl (ev_bind htp ?_)
  refine ev_bind (laws_eqPartS_same (s.map toPart) (by omega) (fun x hx => by have := (hsp x hx).2.2.1; omega)) ?_
  exact ev_if_pos rfl (Ev.now true)

end Go.Proofs.YtooilehdljeepaaDoor.Pure
