/- HasCycle: the program's HasCycle answers as the reference's at all nodes, and writes into none; no condition. -/
import Derived.Test.YtooilehdljeepaaDoorPureFnExactHasCycley1
import Derived.Test.YtooilehdljeepaaDoorPlain
import Derived.Test.YtooilehdljeepaaDoorEvs
import Derived.Test.YtooilehdljeepaaDoorStr
import Derived.Test.YtooilehdljeepaaDoorWord
import Derived.Test.YtooilehdljeepaaDoorRune
import Derived.Test.YtooilehdljeepaaDoorMark
set_option linter.unusedVariables false
set_option linter.unusedSimpArgs false
namespace Go.Proofs.YtooilehdljeepaaDoor.Pure
open Go.RowKit Go.Proofs.YtooilehdljeepaaDoor.PFnExactHasCycle Go.Proofs.YtooilehdljeepaaDoorW.PrintWords Go.Proofs.YtooilehdljeepaaDoorW.PrintLast Go.Proofs.YtooilehdljeepaaDoorW.PrintMore Go.Proofs.YtooilehdljeepaaDoor.Plain

-- plain: Evs Mark
theorem seen_set (seen : List Bool) (j : Nat) (hj : j < seen.length) (h : ¬ seen.getD j false = true) : (seen.set j true).count false + 1 = seen.count false := by
  have e : seen[j] = false := by
    rw [List.getD_eq_getElem?_getD, List.getElem?_eq_getElem hj, Option.getD_some] at h
    simpa using h
  have hp : 0 < seen.count false := List.count_pos_iff.mpr (e ▸ List.getElem_mem hj)
  rw [List.count_set hj, e]
  simp
  omega
theorem cyc_l1 (l : List S69) (hl : l.length ≤ 60) (U : Nat → List Int) (hU : ∀ u, u < l.length → Ev (fun k => spec_l8Uses.f k l (u : Int)) (U u) ∧ (¬ B (nodeAt l u).f0 = [] → Ev (fun k => impl_UsesOf.f k l (u : Int)) (U u, true)) ∧ UsesOk l (U u))
    (u : Nat) (r0 : Bool × Bool) (g1 : Ev (fun k => spec_HasCycle.l0 k l l (l.length : Int) (wrap64 ((u : Int) + 1))) r0) (g2 : Ev (fun k => impl_HasCycle.l0 k l (l.length : Int) (wrap64 ((u : Int) + 1))) r0) :
    ∀ (M : Nat) (seen : List Bool) (todo : List Int), seen.length = l.length → seen.count false * (l.length + 1) + todo.length ≤ M → M ≤ 100000 → (∀ v ∈ todo, 0 ≤ v ∧ v < (l.length : Int) ∧ ¬ B (nodeAt l v.toNat).f0 = []) →
    ∃ r, Ev (fun k => spec_HasCycle.l1 k l (u : Int) seen todo l (l.length : Int) (u : Int)) r ∧ Ev (fun k => impl_HasCycle.l1 k l (u : Int) seen todo (l.length : Int) (u : Int)) r := by
  have base : ∀ seen : List Bool, ∃ r, Ev (fun k => spec_HasCycle.l1 k l (u : Int) seen [] l (l.length : Int) (u : Int)) r ∧ Ev (fun k => impl_HasCycle.l1 k l (u : Int) seen [] (l.length : Int) (u : Int)) r := fun seen =>
    ⟨r0, Ev.step (fun k => spec_HasCycle.l1.eq_2 ..) (ev_if_neg (by simp) g1), Ev.step (fun k => impl_HasCycle.l1.eq_2 ..) (ev_if_neg (by simp) g2)⟩
  intro M
  induction M with
  | zero =>
    intro seen todo h1 h2 h3 h4
    have : todo = [] := List.length_eq_zero_iff.mp (by omega)
    subst this
    exact base seen
  | succ M ih =>
    intro seen todo h1 h2 h3 h4
    cases todo with
    | nil => exact base seen
    | cons v rest =>
      obtain ⟨a1, a2, a3⟩ := h4 v (List.mem_cons_self ..)
      obtain ⟨j, rfl⟩ := Int.eq_ofNat_of_zero_le a1
      rw [Int.toNat_natCast] at a3
      have h4' : ∀ v ∈ rest, 0 ≤ v ∧ v < (l.length : Int) ∧ ¬ B (nodeAt l v.toNat).f0 = [] := fun v hv => h4 v (List.mem_cons_of_mem _ hv)
      have hlen : ((((j : Int) :: rest).length : Nat) : Int) > 0 := by rw [List.length_cons]; omega
      rw [List.length_cons] at h2
      have hrd : rd ((j : Int) :: rest) 0 = (j : Int) := rfl
      have e1 : ∀ r, Ev (fun k => if (j : Int) = (u : Int) then (some (true, true)) else (if 0 ≤ (j : Int) then (if (j : Int) < (seen.length : Int) then (if (rdOf false seen (j : Int) = true) then (spec_HasCycle.l1 k l (u : Int) seen rest l (l.length : Int) (u : Int)) else ((spec_l8Uses.f k l (j : Int)).bind fun t222 => (if rest.length + t222.length < 17592186044416 then (spec_HasCycle.l1 k l (u : Int) (seen.set (j : Int).toNat true) (rest ++ t222) l (l.length : Int) (u : Int)) else (none)))) else (none)) else (none))) r → Ev (fun k => spec_HasCycle.l1 k l (u : Int) seen ((j : Int) :: rest) l (l.length : Int) (u : Int)) r := by
        intro r h
        refine Ev.step (fun k => spec_HasCycle.l1.eq_2 ..) (ev_if_pos hlen (ev_if_pos hlen (ev_if_pos (by omega) (ev_bind0 (a := rest) rfl ?_))))
        rw [hrd]
        exact h
      have e2 : ∀ r, Ev (fun k => if (j : Int) = (u : Int) then (some (true, true)) else (if 0 ≤ (j : Int) then (if (j : Int) < (seen.length : Int) then (if (rdOf false seen (j : Int) = true) then (impl_HasCycle.l1 k l (u : Int) seen rest (l.length : Int) (u : Int)) else ((impl_UsesOf.f k l (j : Int)).bind fun bt324 => (if rest.length + bt324.1.length < 17592186044416 then (impl_HasCycle.l1 k l (u : Int) (seen.set (j : Int).toNat true) (rest ++ bt324.1) (l.length : Int) (u : Int)) else (none)))) else (none)) else (none))) r → Ev (fun k => impl_HasCycle.l1 k l (u : Int) seen ((j : Int) :: rest) (l.length : Int) (u : Int)) r := by
        intro r h
        refine Ev.step (fun k => impl_HasCycle.l1.eq_2 ..) (ev_if_pos hlen (ev_if_pos hlen (ev_if_pos (by omega) (ev_bind0 (a := rest) rfl ?_))))
        rw [hrd]
        exact h
      by_cases hju : (j : Int) = (u : Int)
      · exact ⟨(true, true), e1 _ (ev_if_pos hju (Ev.now _)), e2 _ (ev_if_pos hju (Ev.now _))⟩
      by_cases hs : seen.getD j false = true
      · obtain ⟨r, f1, f2⟩ := ih seen rest h1 (by omega) (by omega) h4'
        exact ⟨r, e1 _ (ev_if_neg hju (ev_if_pos (by omega) (ev_if_pos (by omega) (ev_if_pos (by rw [rdOf_nat]; exact hs) f1)))), e2 _ (ev_if_neg hju (ev_if_pos (by omega) (ev_if_pos (by omega) (ev_if_pos (by rw [rdOf_nat]; exact hs) f2))))⟩
      · obtain ⟨u1, u2, u3, u4⟩ := hU j (by omega)
        have hc := seen_set seen j (by omega) hs
        have hm : seen.count false * (l.length + 1) = (seen.set j true).count false * (l.length + 1) + (l.length + 1) := by rw [← hc, Nat.succ_mul]
        obtain ⟨r, f1, f2⟩ := ih (seen.set j true) (rest ++ U j) (by rw [List.length_set]; exact h1) (by rw [List.length_append]; omega) (by omega) (fun v hv => by
          rcases List.mem_append.mp hv with hv | hv
          · exact h4' v hv
          · exact u4 v hv)
        refine ⟨r, e1 _ (ev_if_neg hju (ev_if_pos (by omega) (ev_if_pos (by omega) (ev_if_neg (by rw [rdOf_nat]; exact hs) (ev_bind u1 (ev_if_pos (by omega) ?_)))))), e2 _ (ev_if_neg hju (ev_if_pos (by omega) (ev_if_pos (by omega) (ev_if_neg (by rw [rdOf_nat]; exact hs) (ev_bind (u2 a3) (ev_if_pos ?_ ?_))))))⟩
        · rw [Int.toNat_natCast]; exact f1
        · show rest.length + (U j).length < _
          omega
        · rw [Int.toNat_natCast]; exact f2
theorem cyc_l0 (l : List S69) (hl : l.length ≤ 60) (U : Nat → List Int) (hU : ∀ u, u < l.length → Ev (fun k => spec_l8Uses.f k l (u : Int)) (U u) ∧ (¬ B (nodeAt l u).f0 = [] → Ev (fun k => impl_UsesOf.f k l (u : Int)) (U u, true)) ∧ UsesOk l (U u))
    (hE : ∀ u, u < l.length → B (nodeAt l u).f0 = [] → Ev (fun k => impl_UsesOf.f k l (u : Int)) ([], false)) : ∀ c i : Nat, i + c = l.length → ∃ r, Ev (fun k => spec_HasCycle.l0 k l l (l.length : Int) (i : Int)) r ∧ Ev (fun k => impl_HasCycle.l0 k l (l.length : Int) (i : Int)) r := by
  intro c
  induction c with
  | zero =>
    intro i hi
    exact ⟨(false, true), Ev.step (fun k => spec_HasCycle.l0.eq_2 ..) (ev_if_neg (by omega) (Ev.now _)), Ev.step (fun k => impl_HasCycle.l0.eq_2 ..) (ev_if_neg (by omega) (Ev.now _))⟩
  | succ c ih =>
    intro i hi
    obtain ⟨r0, g1, g2⟩ := ih (i + 1) (by omega)
    have hw : ∀ _ : Unit, wrap64 ((i : Int) + 1) = ((i + 1 : Nat) : Int) := fun _ => by rw [wrap_id (x := (i : Int) + 1) (by omega) (by omega), cast_succ]
    rw [← hw ()] at g1 g2
    obtain ⟨u1, u2, u3, u4⟩ := hU i (by omega)
    by_cases hn : B (nodeAt l i).f0 = []
    · refine ⟨r0, Ev.step (fun k => spec_HasCycle.l0.eq_2 ..) (ev_if_pos (by omega) (ev_if_pos (by omega) (ev_if_pos (by omega) (ev_if_pos (by rw [rd_node, toList_B]; exact hn) g1)))), Ev.step (fun k => impl_HasCycle.l0.eq_2 ..) (ev_if_pos (by omega) (ev_if_pos (by omega) (ev_if_pos (by omega) (ev_bind (hE i (by omega) hn) ?_))))⟩
      exact Ev.step (fun k => impl_HasCycle.l1.eq_2 ..) (ev_if_neg (by simp) g2)
    · have hq : l.length * (l.length + 1) ≤ 60 * 61 := Nat.mul_le_mul hl (by omega)
      obtain ⟨r, f1, f2⟩ := cyc_l1 l hl U hU i r0 g1 g2 10000 (List.replicate l.length false) (U i) List.length_replicate (by rw [List.count_replicate_self]; omega) (by omega) u4
      refine ⟨r, Ev.step (fun k => spec_HasCycle.l0.eq_2 ..) (ev_if_pos (by omega) (ev_if_pos (by omega) (ev_if_pos (by omega) (ev_if_neg (by rw [rd_node, toList_B]; exact hn) (ev_if_pos (by omega) (ev_if_pos (by omega) (ev_bind u1 ?_))))))), Ev.step (fun k => impl_HasCycle.l0.eq_2 ..) (ev_if_pos (by omega) (ev_if_pos (by omega) (ev_if_pos (by omega) (ev_bind (u2 hn) ?_))))⟩
      · rw [Int.toNat_natCast]; exact f1
      · rw [Int.toNat_natCast]; exact f2
theorem HasCycle_same (l : List S69) (hn : l.length ≤ 1048576) (hsz : ∀ x ∈ l, sizesNode x) : ∃ r, Ev (fun k => spec_HasCycle.f k l) r ∧ Ev (fun k => impl_HasCycle.f k l) r := by
  obtain ⟨v, h1, h2, h3⟩ := GoodNodes_both l hn hsz
  simp only [spec_HasCycle.f, impl_HasCycle.f]
  by_cases hv : v = true
  · subst hv
    obtain ⟨⟨_, hl⟩, hok⟩ := h3 rfl
    obtain ⟨U, hU⟩ : ∃ U : Nat → List Int, ∀ u, u < l.length → Ev (fun k => spec_l8Uses.f k l (u : Int)) (U u) ∧ (¬ B (nodeAt l u).f0 = [] → Ev (fun k => impl_UsesOf.f k l (u : Int)) (U u, true)) ∧ (B (nodeAt l u).f0 = [] → Ev (fun k => impl_UsesOf.f k l (u : Int)) ([], false)) ∧ UsesOk l (U u) := by
      refine Classical.axiomOfChoice (r := fun (u : Nat) (r : List Int) => u < l.length → Ev (fun k => spec_l8Uses.f k l (u : Int)) r ∧ (¬ B (nodeAt l u).f0 = [] → Ev (fun k => impl_UsesOf.f k l (u : Int)) (r, true)) ∧ (B (nodeAt l u).f0 = [] → Ev (fun k => impl_UsesOf.f k l (u : Int)) ([], false)) ∧ UsesOk l r) (fun u => ?_)
      by_cases hu : u < l.length
      · obtain ⟨r, hr⟩ := uses_both l hl hok hsz h2 u hu
        exact ⟨r, fun _ => hr⟩
      · exact ⟨[], fun h => absurd h hu⟩
    obtain ⟨r, f1, f2⟩ := cyc_l0 l hl U (fun u hu => ⟨(hU u hu).1, (hU u hu).2.1, (hU u hu).2.2.2⟩) (fun u hu => (hU u hu).2.2.1) l.length 0 (by omega)
    exact ⟨r, ev_bind h1 (ev_if_pos rfl f1), ev_bind h2 (ev_if_pos rfl f2)⟩
  · exact ⟨(false, false), ev_bind h1 (ev_if_neg hv (Ev.now _)), ev_bind h2 (ev_if_neg hv (Ev.now _))⟩
theorem FnExactHasCycle (l : List S60) (g : l.length ≤ maxLen ∧ ∀ x ∈ l, goodNodeIn x) : ∃ k, laws_FnExactHasCycle.f k l = some true := by
  obtain ⟨gl, gg⟩ := g
  refine Ev.rounds ?_
  simp only [laws_FnExactHasCycle.f]
  obtain ⟨r, hr, hc⟩ := laws_szNodeS_ev l 1048576 (by omega) (by omega) gl gg
  refine ev_bind hr ?_
  by_cases hn : r < 0
  · exact ev_if_pos hn (Ev.now true)
  refine ev_if_neg hn ?_
  obtain ⟨hl, hs, hsz⟩ := nodes_of l (by rcases hc with hc | ⟨hc, hc2⟩ <;> omega) gg
  have hto := laws_toNodeS_ev l hl hs
  have hml : (l.map toNode).length ≤ 1048576 := by simpa using hl
  obtain ⟨⟨v1, v2⟩, h1, h2⟩ := HasCycle_same (l.map toNode) hml hsz
  refine ev_bind hto (ev_bind h1 (ev_bind hto (ev_bind h2 ?_)))
  refine ev_if_neg (by simp) ?_
  rw [show ((v1, v2).2 != (v1, v2).2) = false from bne_self_eq_false ..]
  refine Ev.step (fun k => laws_FnExactHasCycle.j0.eq_2 ..) (ev_if_neg (by decide) (ev_bind hto ?_))
  refine ev_bind (laws_eqNodeS_same (l.map toNode) (by omega) (fun x hx => by have := (hsz x hx).2.2.1; omega)) ?_
  exact ev_if_pos rfl (Ev.now true)

end Go.Proofs.YtooilehdljeepaaDoor.Pure
