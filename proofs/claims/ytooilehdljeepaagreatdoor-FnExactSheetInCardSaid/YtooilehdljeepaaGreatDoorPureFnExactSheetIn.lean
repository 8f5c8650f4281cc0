/- SheetIn: the program's SheetIn answers as the reference's at all nodes, writes into none, keeps none of them, and its answer owns its memory; no condition. -/
import Derived.Test.YtooilehdljeepaaGreatDoorPureFnExactSheetIny1
import Derived.Test.YtooilehdljeepaaGreatDoorPlain
import Derived.Test.YtooilehdljeepaaGreatDoorEvs
import Derived.Test.YtooilehdljeepaaGreatDoorStr
import Derived.Test.YtooilehdljeepaaGreatDoorWord
import Derived.Test.YtooilehdljeepaaGreatDoorTrim
import Derived.Test.YtooilehdljeepaaGreatDoorCuts
import Derived.Test.YtooilehdljeepaaGreatDoorDecl
import Derived.Test.YtooilehdljeepaaGreatDoorField
import Derived.Test.YtooilehdljeepaaGreatDoorRune
import Derived.Test.YtooilehdljeepaaGreatDoorMark
set_option linter.unusedVariables false
set_option linter.unusedSimpArgs false
namespace Go.Proofs.YtooilehdljeepaaGreatDoor.Pure
open Go.RowKit Go.Proofs.YtooilehdljeepaaGreatDoor.PFnExactSheetIn Go.Proofs.YtooilehdljeepaaGreatDoorW.PrintWords Go.Proofs.YtooilehdljeepaaGreatDoorW.PrintLast Go.Proofs.YtooilehdljeepaaGreatDoorW.PrintMore Go.Proofs.YtooilehdljeepaaGreatDoor.Plain
theorem take_in {α : Type} (n : Nat) (xs ys : List α) : (xs.take n ++ ys).take n = (xs ++ ys).take n := by
 rw [List.take_append, List.take_append, List.take_take, Nat.min_self, List.length_take]
 congr 2
 omega
theorem in_l1 (l : List S40) (i : Nat) (hi : i < l.length) (hl : l.length ≤ 60) (rules : List S50) (hr : rules.length ≤ 30) (r : List S50) : ∀ (d j : Nat) (ys : List S50), j + d = rules.length → ys.length ≤ 30 →
  Ev (fun k => spec_l6In.l0 k l ((ys ++ rules.drop j).take 30) l (l.length : Int) ((i + 1 : Nat) : Int)) r → Ev (fun k => spec_l6In.l1 k l ys l (l.length : Int) (i : Int) rules (rules.length : Int) (j : Int)) r := by
 intro d
 induction d with
 | zero =>
  intro j ys hj hy h
  refine Ev.step (fun k => spec_l6In.l1.eq_2 ..) (ev_if_neg (by omega) ?_)
  rw [List.drop_eq_nil_of_le (by omega), List.append_nil, List.take_of_length_le hy] at h
  rw [wrap_id (x := (i : Int) + 1) (by omega) (by omega), cast_succ]
  exact h
 | succ d ih =>
  intro j ys hj hy h
  have hd := drop_cons rules z50 j (by omega)
  have hrd : rd_T50 rules (j : Int) = rules.getD j z50 := by simp [rd_T50]
  refine Ev.step (fun k => spec_l6In.l1.eq_2 ..) (ev_if_pos (by omega) (ev_if_pos (by omega) (ev_if_pos (by omega) ?_)))
  rw [hrd, wrap_id (x := (j : Int) + 1) (by omega) (by omega), cast_succ]
  by_cases h30 : (ys.length : Int) < 30
  ·refine ev_if_pos h30 (ev_if_pos (by omega) (ih (j + 1) _ (by omega) (by rw [List.length_append, List.length_singleton]; omega) ?_))
   rw [List.append_assoc, List.singleton_append]
   rw [hd] at h
   exact h
  ·refine ev_if_neg h30 (ih (j + 1) _ (by omega) hy ?_)
   have e1 : (ys ++ rules.drop j).take 30 = ys := by rw [List.take_append_of_le_length (by omega), List.take_of_length_le hy]
   have e2 : (ys ++ rules.drop (j + 1)).take 30 = ys := by rw [List.take_append_of_le_length (by omega), List.take_of_length_le hy]
   rw [e1] at h
   rw [e2]
   exact h
theorem in_both (l : List S40) (hsz : ∀ x ∈ l, sizesNode x) (htx : txtFrom l 0 ≤ 1048576) (hl1 : 1 ≤ l.length) (hl : l.length ≤ 60) (hok : ∀ j, j < l.length → NodeOk l j) (h2 : Ev (fun k => impl_GoodNodes.f k l) true) : ∀ (c i : Nat) (xs : List S50), i + c = l.length → xs.length ≤ 30 * i → (∀ x ∈ xs, RuleOk x) →
  ∃ r, Ev (fun k => spec_l6In.l0 k l (xs.take 30) l (l.length : Int) (i : Int)) r ∧ Ev (fun k => impl_SheetIn.l0 k l xs l (l.length : Int) (i : Int)) r ∧ r.length ≤ 30 ∧ ∀ x ∈ r, RuleOk x := by
 intro c
 induction c with
 | zero =>
  intro i xs hi hx hg
  refine ⟨xs.take 30, Ev.step (fun k => spec_l6In.l0.eq_2 ..) (ev_if_neg (by omega) (Ev.now _)), Ev.step (fun k => impl_SheetIn.l0.eq_2 ..) (ev_if_neg (by omega) ?_), by rw [List.length_take]; omega, fun x hx => hg x (List.mem_of_mem_take hx)⟩
  have e : mn (xs.length : Int) 30 = ((min xs.length 30 : Nat) : Int) := by unfold mn; split <;> omega
  rw [e]
  refine ev_if_pos (by omega) (ev_if_pos (by omega) ?_)
  rw [Int.toNat_natCast]
  have e2 : xs.take (min xs.length 30) = xs.take 30 := by
   by_cases h : xs.length ≤ 30
   ·rw [Nat.min_eq_left h, List.take_of_length_le (Nat.le_refl _), List.take_of_length_le h]
   ·rw [Nat.min_eq_right (by omega)]
  rw [e2]
  exact Ev.now _
 | succ c ih =>
  intro i xs hi hx hg
  by_cases hn : B (nodeAt l i).f0 = [115, 116, 121, 108, 101]
  ·obtain ⟨t, t1, t2, t3⟩ := under_at l hsz hl1 hl hok h2 i (by omega)
   obtain ⟨v, e1, e2, g2, g3⟩ := sheet_both t (by omega)
   obtain ⟨r, r1, r2, r3, r4⟩ := ih (i + 1) (xs ++ v.1) (by omega) (by rw [List.length_append]; omega) (fun x hx => (List.mem_append.1 hx).elim (hg x) (g3 x))
   refine ⟨r, Ev.step (fun k => spec_l6In.l0.eq_2 ..) (ev_if_pos (by omega) (ev_if_pos (by omega) (ev_if_pos (by omega) ?_))), Ev.step (fun k => impl_SheetIn.l0.eq_2 ..) (ev_if_pos (by omega) (ev_if_pos (by omega) (ev_if_pos (by omega) ?_))), r3, r4⟩
   ·rw [rd_node]
    refine ev_if_pos (by rw [toList_B]; exact hn) (ev_bind t1 (ev_bind e1 ?_))
    refine in_l1 l i (by omega) hl v.1 g2 r v.1.length 0 (xs.take 30) (by omega) (by rw [List.length_take]; omega) ?_
    rw [List.drop_zero, take_in]
    exact r1
   ·rw [rd_node]
    refine ev_if_pos (by rw [toList_B]; exact hn) (ev_bind t2 (ev_bind e2 (ev_if_pos (by omega) ?_)))
    rw [wrap_id (x := (i : Int) + 1) (by omega) (by omega), cast_succ]
    exact r2
  ·obtain ⟨r, r1, r2, r3, r4⟩ := ih (i + 1) xs (by omega) (by omega) hg
   refine ⟨r, Ev.step (fun k => spec_l6In.l0.eq_2 ..) (ev_if_pos (by omega) (ev_if_pos (by omega) (ev_if_pos (by omega) ?_))), Ev.step (fun k => impl_SheetIn.l0.eq_2 ..) (ev_if_pos (by omega) (ev_if_pos (by omega) (ev_if_pos (by omega) ?_))), r3, r4⟩
   ·rw [rd_node, wrap_id (x := (i : Int) + 1) (by omega) (by omega), cast_succ]
    exact ev_if_neg (by rw [toList_B]; exact hn) r1
   ·rw [rd_node, wrap_id (x := (i : Int) + 1) (by omega) (by omega), cast_succ]
    exact ev_if_neg (by rw [toList_B]; exact hn) r2
theorem SheetIn_both (l : List S40) (hn : l.length ≤ 1048576) (hsz : ∀ x ∈ l, sizesNode x) (htx : txtFrom l 0 ≤ 1048576) :
  ∃ r, Ev (fun k => spec_SheetIn.f k l) r ∧ Ev (fun k => impl_SheetIn.f k l) r ∧ r.length ≤ 30 ∧ ∀ x ∈ r, RuleOk x := by
 obtain ⟨v, h1, h2, h3⟩ := GoodNodes_both l hn hsz
 simp only [spec_SheetIn.f, impl_SheetIn.f]
 by_cases hv : v = true
 ·subst hv
  obtain ⟨⟨hl1, hl⟩, hok⟩ := h3 rfl
  obtain ⟨r, r1, r2, r3, r4⟩ := in_both l hsz htx hl1 hl hok h2 l.length 0 [] (by omega) (by simp) (fun x hx => by cases hx)
  refine ⟨r, ev_bind h1 (ev_if_pos rfl (ev_bind (a := r) ?_ (Ev.now _))), ev_bind h2 (ev_if_pos rfl r2), r3, r4⟩
  simp only [spec_l6In.f]
  exact r1
 ·exact ⟨[], ev_bind h1 (ev_if_neg hv (Ev.now _)), ev_bind h2 (ev_if_neg hv (Ev.now _)), by simp, fun x hx => by cases hx⟩
theorem txt_tot (l : List S36) : (txtFrom (l.map toNode) 0 : Int) ≤ (l.map totNode).sum := by
 unfold txtFrom
 rw [List.drop_zero]
 induction l with
 | nil => simp
 | cons x l ih =>
  rw [List.map_cons, List.map_cons, List.sum_cons, List.map_cons, List.sum_cons]
  have h0 := totAttrS_parts x.f2
  have h1 : totNode x = (x.f0.size : Int) + ((x.f2.length : Int) + (x.f2.map totAttr).sum) + (x.f3.size : Int) := rfl
  have h2 : (toNode x).f3.size = x.f3.size := rfl
  rw [h2]
  omega
theorem FnExactSheetIn (l : List S36) (g : l.length ≤ maxLen ∧ ∀ x ∈ l, goodNodeIn x) : ∃ k, laws_FnExactSheetIn.f k l = some true := by
 obtain ⟨gl, gg⟩ := g
 refine Ev.rounds ?_
 simp only [laws_FnExactSheetIn.f]
 obtain ⟨z, hz, hc⟩ := laws_szNodeS_ev l 1048576 (by omega) (by omega) gl gg
 refine ev_bind hz ?_
 by_cases hn : z < 0
 ·exact ev_if_pos hn (Ev.now true)
 refine ev_if_neg hn ?_
 have htot : totNodeS l ≤ 1048576 := by rcases hc with hc | ⟨hc, hc2⟩ <;> omega
 obtain ⟨hl, hs, hsz⟩ := nodes_of l htot gg
 have hto := laws_toNodeS_ev l hl hs
 have hml : (l.map toNode).length ≤ 1048576 := by simpa using hl
 have htx : txtFrom (l.map toNode) 0 ≤ 1048576 := by
  have h1 := txt_tot l
  have h2 : totNodeS l = (l.length : Int) + (l.map totNode).sum := rfl
  omega
 obtain ⟨r, e1, e2, g2, g3⟩ := SheetIn_both (l.map toNode) hml hsz htx
 obtain ⟨e, Y, he, hY⟩ := laws_markNodeS_ev (l.map toNode) hml (fun x hx => (hsz x hx).2.2.1)
 have hend := mkRulesEnd_le r 1 g3
 have hge := mkRulesEnd_ge r 1
 have m1 : Ev (fun k => laws_markRuleS.f k r 1) (mkRulesEnd r 1, mkRules r 1) := markRules_l0 r [] 1 (by omega) (by omega) (by rw [List.nil_append]; omega) g3
 have m2 : Ev (fun k => laws_heldRuleS.f k (mkRules r 1) 1) (mkRulesEnd r 1) := heldRules_l0 r [] 1 (by omega) (by omega) (by rw [List.nil_append]; omega) g3
 refine ev_bind hto (ev_bind e1 (ev_bind e2 (ev_bind (eqRules_same r (by omega) g3) ?_)))
 refine ev_bind (laws_eqNodeS_same (l.map toNode) (by omega) (fun x hx => by have := (hsz x hx).2.2.1; omega)) (ev_if_pos ⟨rfl, rfl⟩ ?_)
 refine ev_bind hY (ev_if_pos he ?_)
 exact ev_bind m1 (ev_bind m2 (ev_if_pos ⟨by omega, rfl⟩ (Ev.now _)))
end Go.Proofs.YtooilehdljeepaaGreatDoor.Pure
