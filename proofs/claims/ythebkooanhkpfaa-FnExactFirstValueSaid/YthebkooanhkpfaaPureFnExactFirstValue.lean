/- FirstValue: the program's FirstValue answers as the reference's at every text; no condition. -/
import Derived.Test.YthebkooanhkpfaaPFnExactFirstValuex1
import Derived.Test.YthebkooanhkpfaaPlain
import Derived.Test.YthebkooanhkpfaaEvs
set_option linter.unusedVariables false
set_option linter.unusedSimpArgs false
namespace Go.Proofs.Ythebkooanhkpfaa.Pure
open Go.RowKit Go.Proofs.Ythebkooanhkpfaa.PFnExactFirstValue Go.Proofs.YthebkooanhkpfaaW.PrintWords Go.Proofs.YthebkooanhkpfaaW.PrintLast Go.Proofs.Ythebkooanhkpfaa.Plain

/-! spec_FirstValue -/
-- plain: Evs
def firstTold : Option (ByteArray × ByteArray) → ByteArray × Bool
  | some p => (p.2, true)
  | none => ((⟨#[]⟩ : ByteArray), false)
theorem spec_FirstValue_l0_ev (ns fs : List ByteArray) (a : ByteArray) (hl : ns.length ≤ 9223372036854775807) (hf : fs.length = ns.length) : Ev (fun k => spec_FirstValue.l0 k a fs ns ns.length 0) (firstTold ((ns.zip fs).find? fun p => decide (p.1.data.toList = a.data.toList))) := by
  refine ev_from ns.length (fun i k => spec_FirstValue.l0 k a fs ns ns.length i) (fun i => firstTold (((ns.drop i).zip (fs.drop i)).find? fun p => decide (p.1.data.toList = a.data.toList))) ?_ ?_ 0 (by omega)
  · refine ev_done fun k => ?_
    rw [spec_FirstValue.l0, if_neg (by omega)]; simp [firstTold]
  · intro i hi h
    rw [drop_cons ns ByteArray.empty i hi, drop_cons fs ByteArray.empty i (by omega), List.zip_cons_cons, List.find?_cons]
    by_cases hc : (ns.getD i ByteArray.empty).data.toList = a.data.toList
    · refine ev_done fun k => ?_
      rw [spec_FirstValue.l0, if_pos (by omega), if_pos (by omega), if_pos (by omega), if_pos (by rw [rdOf_nat, str_eq]; exact hc), if_pos (by omega), rdOf_nat, decide_eq_true hc]
      rfl
    · rw [decide_eq_false hc]
      refine Ev.step (fun k => ?_) h
      rw [spec_FirstValue.l0, if_pos (by omega), if_pos (by omega), if_pos (by omega), if_neg (by rw [rdOf_nat, str_eq]; exact hc), wrap_up hi hl]

/-! impl_propertyOf -/
-- plain: Evs
def propTold : Option S39 → ByteArray × ByteArray × Bool × Bool
  | some p => (p.f0, p.f1, p.f2, true)
  | none => ((⟨#[]⟩ : ByteArray), (⟨#[]⟩ : ByteArray), false, false)
theorem impl_propertyOf_l0_ev (l : List S39) (a : ByteArray) (hl : l.length ≤ 9223372036854775807) : Ev (fun k => impl_propertyOf.l0 k a l l.length 0) (propTold (l.find? fun x => decide (x.f0.data.toList = a.data.toList))) := by
  refine ev_from l.length (fun i k => impl_propertyOf.l0 k a l l.length i) (fun i => propTold ((l.drop i).find? fun x => decide (x.f0.data.toList = a.data.toList))) ?_ ?_ 0 (by omega)
  · refine ev_done fun k => ?_
    rw [impl_propertyOf.l0, if_neg (by omega)]; simp [propTold]
  · intro i hi h
    have hrd : rd_T39 l (i : Int) = l.getD i z39 := by simp [rd_T39]
    by_cases hc : (l.getD i z39).f0.data.toList = a.data.toList
    · refine ev_done fun k => ?_
      rw [impl_propertyOf.l0, if_pos (by omega), if_pos (by omega), if_pos (by omega), hrd, if_pos (by rw [str_eq]; exact hc), drop_cons l z39 i hi, List.find?_cons, decide_eq_true hc]
      rfl
    · refine Ev.step (fun k => ?_) (by rw [drop_cons l z39 i hi, List.find?_cons, decide_eq_false hc]; exact h)
      rw [impl_propertyOf.l0, if_pos (by omega), if_pos (by omega), if_pos (by omega), hrd, if_neg (by rw [str_eq]; exact hc), wrap_up hi hl]

theorem FnExactFirstValue : laws_FnExactFirstValue.Pure := by
  intro a _
  by_cases hlen : (a.size : Int) > 1048576
  · exact ⟨0, by unfold laws_FnExactFirstValue.f; rw [if_pos hlen]⟩
  refine Ev.rounds ?_
  simp only [laws_FnExactFirstValue.f]
  refine ev_if_neg hlen ?_
  simp only [spec_FirstValue.f, spec_Properties.f, impl_FirstValue.f, impl_propertyOf.f, impl_properties.f, Option.bind_some, Option.bind_assoc]
  refine ev_bind (spec_FirstValue_l0_ev _ _ a (by simp) (by simp)) ?_
  refine ev_bind (impl_propertyOf_l0_ev _ a (by simp)) ?_
  simp only [str_eq]
  generalize a.data.toList = s
  simp only [List.zip_cons_cons, List.zip_nil_left, List.find?_cons, List.find?_nil]
  refine ev_if_pos ?_ (ev_if_neg ?_ (Ev.now true))
  all_goals
    by_cases h0 : ([99, 108, 105, 112, 45, 112, 97, 116, 104] : List UInt8) = s
    · subst h0; decide
    by_cases h1 : ([99, 111, 108, 111, 114] : List UInt8) = s
    · subst h1; decide
    by_cases h2 : ([100, 105, 115, 112, 108, 97, 121] : List UInt8) = s
    · subst h2; decide
    by_cases h3 : ([102, 105, 108, 108] : List UInt8) = s
    · subst h3; decide
    by_cases h4 : ([102, 105, 108, 108, 45, 111, 112, 97, 99, 105, 116, 121] : List UInt8) = s
    · subst h4; decide
    by_cases h5 : ([102, 105, 108, 108, 45, 114, 117, 108, 101] : List UInt8) = s
    · subst h5; decide
    by_cases h6 : ([111, 102, 102, 115, 101, 116] : List UInt8) = s
    · subst h6; decide
    by_cases h7 : ([111, 112, 97, 99, 105, 116, 121] : List UInt8) = s
    · subst h7; decide
    by_cases h8 : ([115, 116, 111, 112, 45, 99, 111, 108, 111, 114] : List UInt8) = s
    · subst h8; decide
    by_cases h9 : ([115, 116, 114, 111, 107, 101] : List UInt8) = s
    · subst h9; decide
    by_cases h10 : ([115, 116, 114, 111, 107, 101, 45, 100, 97, 115, 104, 97, 114, 114, 97, 121] : List UInt8) = s
    · subst h10; decide
    by_cases h11 : ([115, 116, 114, 111, 107, 101, 45, 108, 105, 110, 101, 99, 97, 112] : List UInt8) = s
    · subst h11; decide
    by_cases h12 : ([115, 116, 114, 111, 107, 101, 45, 108, 105, 110, 101, 106, 111, 105, 110] : List UInt8) = s
    · subst h12; decide
    by_cases h13 : ([115, 116, 114, 111, 107, 101, 45, 111, 112, 97, 99, 105, 116, 121] : List UInt8) = s
    · subst h13; decide
    by_cases h14 : ([115, 116, 114, 111, 107, 101, 45, 119, 105, 100, 116, 104] : List UInt8) = s
    · subst h14; decide
    by_cases h15 : ([118, 105, 115, 105, 98, 105, 108, 105, 116, 121] : List UInt8) = s
    · subst h15; decide
    rw [decide_eq_false h0, decide_eq_false h1, decide_eq_false h2, decide_eq_false h3, decide_eq_false h4, decide_eq_false h5, decide_eq_false h6, decide_eq_false h7, decide_eq_false h8, decide_eq_false h9, decide_eq_false h10, decide_eq_false h11, decide_eq_false h12, decide_eq_false h13, decide_eq_false h14, decide_eq_false h15]; decide

end Go.Proofs.Ythebkooanhkpfaa.Pure
