/- Lemmas for the pure statement of FnExactMatches, part 1. -/
import Derived.Test.YtooilehdljeepaaDoorPFnExactMatchesx21
import Derived.Test.YtooilehdljeepaaDoorPlain
import Derived.Test.YtooilehdljeepaaDoorEvs
import Derived.Test.YtooilehdljeepaaDoorStr
import Derived.Test.YtooilehdljeepaaDoorWord
import Derived.Test.YtooilehdljeepaaDoorTrim
import Derived.Test.YtooilehdljeepaaDoorField
import Derived.Test.YtooilehdljeepaaDoorRune
import Derived.Test.YtooilehdljeepaaDoorMark
set_option linter.unusedVariables false
set_option linter.unusedSimpArgs false
namespace Go.Proofs.YtooilehdljeepaaDoor.Pure
open Go.RowKit Go.Proofs.YtooilehdljeepaaDoor.PFnExactMatches Go.Proofs.YtooilehdljeepaaDoorW.PrintWords Go.Proofs.YtooilehdljeepaaDoorW.PrintLast Go.Proofs.YtooilehdljeepaaDoorW.PrintMore Go.Proofs.YtooilehdljeepaaDoor.Plain

/-! laws_szAttr -/
-- plain: Evs
def totAttr (x : S143) : Int := (x.f0.size : Int) + (x.f1.size : Int)
theorem totAttr_nonneg (x : S143) : 0 ≤ totAttr x := by unfold totAttr; omega
def goodAttr (x : S143) : Prop := x.f0.size ≤ maxLen ∧ x.f1.size ≤ maxLen
theorem szAttr_eq (x : S143) (a : Int) (h0 : 0 ≤ a) (h1 : a ≤ 1048576) (hg : goodAttr x) : ∃ r, laws_szAttr.f x.f0 x.f1 a = some r ∧ (r < 0 ∨ (r = a - totAttr x ∧ 0 ≤ r)) := by
  obtain ⟨hx, hy⟩ := hg
  unfold maxLen at hx hy
  unfold laws_szAttr.f totAttr
  rw [wrap_id (x := a - _) (by omega) (by omega)]
  by_cases c : a - (x.f0.size : Int) < 0
  · rw [if_pos c]; exact ⟨_, rfl, .inl (by omega)⟩
  · rw [if_neg c, wrap_id (x := _ - (x.f1.size : Int)) (by omega) (by omega)]
    by_cases c2 : a - (x.f0.size : Int) - (x.f1.size : Int) < 0
    · rw [if_pos c2]; exact ⟨_, rfl, .inl (by omega)⟩
    · rw [if_neg c2]; exact ⟨_, rfl, .inr ⟨by omega, by omega⟩⟩

/-! laws_szAttrS -/
-- plain: Evs
def totAttrS (l : List S143) : Int := (l.length : Int) + (l.map totAttr).sum
theorem totAttrS_parts (l : List S143) : 0 ≤ (l.map totAttr).sum := by
  induction l with
  | nil => simp
  | cons x l ih => rw [List.map_cons, List.sum_cons]; have := totAttr_nonneg x; omega
theorem laws_szAttrS_l0_ev (l : List S143) (hl : l.length ≤ maxLen) (hg : ∀ x ∈ l, goodAttr x) : ∀ (d i : Nat) (a : Int), i + d = l.length → 0 ≤ a → a ≤ 1048576 →
    ∃ r, Ev (fun k => laws_szAttrS.l0 k l a i) r ∧ (r < 0 ∨ (r = a - ((l.drop i).map totAttr).sum ∧ 0 ≤ r)) := by
  unfold maxLen at hl
  intro d
  induction d with
  | zero =>
    intro i a hi h0 h1
    refine ⟨a, ev_done fun k => ?_, .inr ⟨by rw [List.drop_eq_nil_of_le (by omega)]; simp, h0⟩⟩
    rw [laws_szAttrS.l0, if_neg (by omega)]
  | succ d ih =>
    intro i a hi h0 h1
    have hil : i < l.length := by omega
    have hx : goodAttr (l.getD i z143) := by rw [List.getD_eq_getElem?_getD, List.getElem?_eq_getElem hil]; exact hg _ (List.getElem_mem hil)
    have hrd : rd_T143 l (i : Int) = l.getD i z143 := by simp [rd_T143]
    rw [drop_cons l z143 i hil, List.map_cons, List.sum_cons]
    obtain ⟨r1, e1, c1⟩ := szAttr_eq (l.getD i z143) a h0 h1 hx
    have ht := totAttr_nonneg (l.getD i z143)
    rcases c1 with c1 | ⟨c1, c2⟩
    · refine ⟨-1, ev_done fun k => by rw [laws_szAttrS.l0, if_pos (by omega), if_pos (by omega), hrd, e1, Option.bind_some, if_pos c1], .inl (by omega)⟩
    · obtain ⟨r, hr, hc⟩ := ih (i + 1) r1 (by omega) c2 (by omega)
      refine ⟨r, Ev.step (fun k => by rw [laws_szAttrS.l0, if_pos (by omega), if_pos (by omega), hrd, e1, Option.bind_some, if_neg (by omega), wrap_up hil hl]) hr, ?_⟩
      rcases hc with hc | ⟨hc, hc2⟩
      · exact .inl hc
      · exact .inr ⟨by rw [hc, c1]; omega, hc2⟩
theorem laws_szAttrS_ev (l : List S143) (a : Int) (h0 : 0 ≤ a) (h1 : a ≤ 1048576) (hl : l.length ≤ maxLen) (hg : ∀ x ∈ l, goodAttr x) :
    ∃ r, Ev (fun k => laws_szAttrS.f k l a) r ∧ (r < 0 ∨ (r = a - totAttrS l ∧ 0 ≤ r)) := by
  have hl' := hl
  unfold maxLen at hl'
  simp only [laws_szAttrS.f]
  rw [wrap_id (x := a - _) (by omega) (by omega)]
  by_cases c : a - (l.length : Int) < 0
  · exact ⟨-1, ev_if_pos c (Ev.now _), .inl (by omega)⟩
  · obtain ⟨r, hr, hc⟩ := laws_szAttrS_l0_ev l hl hg l.length 0 (a - (l.length : Int)) (by omega) (by omega) (by omega)
    refine ⟨r, ev_if_neg c hr, ?_⟩
    rcases hc with hc | ⟨hc, hc2⟩
    · exact .inl hc
    · exact .inr ⟨by rw [hc]; unfold totAttrS; rw [List.drop_zero]; omega, hc2⟩

/-! laws_szNode -/
-- plain: Evs
theorem szNode_ev (a0 : ByteArray) (a1 : Int) (l : List S143) (a3 : ByteArray) (a : Int) (h0 : 0 ≤ a) (h1 : a ≤ 1048576) (g0 : a0.size ≤ maxLen) (gl : l.length ≤ maxLen) (gg : ∀ x ∈ l, goodAttr x) (g3 : a3.size ≤ maxLen) :
    ∃ r, Ev (fun k => laws_szNode.f k a0 a1 l a3 a) r ∧ (r < 0 ∨ (r = a - ((a0.size : Int) + totAttrS l + (a3.size : Int)) ∧ 0 ≤ r)) := by
  unfold maxLen at g0 g3
  have ht : 0 ≤ totAttrS l := by unfold totAttrS; have := totAttrS_parts l; omega
  simp only [laws_szNode.f]
  rw [wrap_id (x := a - _) (by omega) (by omega)]
  by_cases c : a - (a0.size : Int) < 0
  · exact ⟨-1, ev_if_pos c (Ev.now _), .inl (by omega)⟩
  · obtain ⟨r, hr, hc⟩ := laws_szAttrS_ev l (a - (a0.size : Int)) (by omega) (by omega) gl gg
    rcases hc with hc | ⟨hc, hc2⟩
    · exact ⟨-1, ev_if_neg c (ev_bind hr (ev_if_pos hc (Ev.now _))), .inl (by omega)⟩
    · by_cases c2 : r - (a3.size : Int) < 0
      · refine ⟨-1, ev_if_neg c (ev_bind hr (ev_if_neg (by omega) ?_)), .inl (by omega)⟩
        rw [wrap_id (by omega) (by omega)]
        exact ev_if_pos c2 (Ev.now _)
      · refine ⟨_, ev_if_neg c (ev_bind hr (ev_if_neg (by omega) ?_)), .inr ⟨rfl, by omega⟩⟩
        rw [wrap_id (by omega) (by omega)]
        have e : a - ((a0.size : Int) + totAttrS l + (a3.size : Int)) = r - (a3.size : Int) := by omega
        rw [e]
        exact ev_if_neg c2 (Ev.now _)

/-! laws_szNodeS -/
-- plain: Evs
def totNode (x : S60) : Int := (x.f0.size : Int) + totAttrS x.f2 + (x.f3.size : Int)
theorem totNode_nonneg (x : S60) : 0 ≤ totNode x := by unfold totNode totAttrS; have := totAttrS_parts x.f2; omega
def goodNodeIn (x : S60) : Prop := x.f0.size ≤ maxLen ∧ (Lit.int .i64 x.f1).wf = true ∧ (x.f2.length ≤ maxLen ∧ ∀ y ∈ x.f2, goodAttr y) ∧ x.f3.size ≤ maxLen
theorem szNodeX_ev (x : S60) (a : Int) (h0 : 0 ≤ a) (h1 : a ≤ 1048576) (hg : goodNodeIn x) : ∃ r, Ev (fun k => laws_szNode.f k x.f0 x.f1 x.f2 x.f3 a) r ∧ (r < 0 ∨ (r = a - totNode x ∧ 0 ≤ r)) :=
  szNode_ev x.f0 x.f1 x.f2 x.f3 a h0 h1 hg.1 hg.2.2.1.1 hg.2.2.1.2 hg.2.2.2
def totNodeS (l : List S60) : Int := (l.length : Int) + (l.map totNode).sum
theorem totNodeS_parts (l : List S60) : 0 ≤ (l.map totNode).sum := by
  induction l with
  | nil => simp
  | cons x l ih => rw [List.map_cons, List.sum_cons]; have := totNode_nonneg x; omega
theorem laws_szNodeS_l0_ev (l : List S60) (hl : l.length ≤ maxLen) (hg : ∀ x ∈ l, goodNodeIn x) : ∀ (d i : Nat) (a : Int), i + d = l.length → 0 ≤ a → a ≤ 1048576 →
    ∃ r, Ev (fun k => laws_szNodeS.l0 k l a i) r ∧ (r < 0 ∨ (r = a - ((l.drop i).map totNode).sum ∧ 0 ≤ r)) := by
  unfold maxLen at hl
  intro d
  induction d with
  | zero =>
    intro i a hi h0 h1
    refine ⟨a, ev_done fun k => ?_, .inr ⟨by rw [List.drop_eq_nil_of_le (by omega)]; simp, h0⟩⟩
    rw [laws_szNodeS.l0, if_neg (by omega)]
  | succ d ih =>
    intro i a hi h0 h1
    have hil : i < l.length := by omega
    have hx : goodNodeIn (l.getD i z60) := by rw [List.getD_eq_getElem?_getD, List.getElem?_eq_getElem hil]; exact hg _ (List.getElem_mem hil)
    have hrd : rd_T60 l (i : Int) = l.getD i z60 := by simp [rd_T60]
    rw [drop_cons l z60 i hil, List.map_cons, List.sum_cons]
    obtain ⟨r1, e1, c1⟩ := szNodeX_ev (l.getD i z60) a h0 h1 hx
    have ht := totNode_nonneg (l.getD i z60)
    rcases c1 with c1 | ⟨c1, c2⟩
    · refine ⟨-1, (by refine Ev.step (fun k => by rw [laws_szNodeS.l0, if_pos (by omega), if_pos (by omega), hrd]) ?_; exact ev_bind e1 (ev_if_pos c1 (Ev.now _))), .inl (by omega)⟩
    · obtain ⟨r, hr, hc⟩ := ih (i + 1) r1 (by omega) c2 (by omega)
      refine ⟨r, (by refine Ev.step (fun k => by rw [laws_szNodeS.l0, if_pos (by omega), if_pos (by omega), hrd]) ?_; refine ev_bind e1 (ev_if_neg (by omega) ?_); rw [wrap_up hil hl]; exact hr), ?_⟩
      rcases hc with hc | ⟨hc, hc2⟩
      · exact .inl hc
      · exact .inr ⟨by rw [hc, c1]; omega, hc2⟩
theorem laws_szNodeS_ev (l : List S60) (a : Int) (h0 : 0 ≤ a) (h1 : a ≤ 1048576) (hl : l.length ≤ maxLen) (hg : ∀ x ∈ l, goodNodeIn x) :
    ∃ r, Ev (fun k => laws_szNodeS.f k l a) r ∧ (r < 0 ∨ (r = a - totNodeS l ∧ 0 ≤ r)) := by
  have hl' := hl
  unfold maxLen at hl'
  simp only [laws_szNodeS.f]
  rw [wrap_id (x := a - _) (by omega) (by omega)]
  by_cases c : a - (l.length : Int) < 0
  · exact ⟨-1, ev_if_pos c (Ev.now _), .inl (by omega)⟩
  · obtain ⟨r, hr, hc⟩ := laws_szNodeS_l0_ev l hl hg l.length 0 (a - (l.length : Int)) (by omega) (by omega) (by omega)
    refine ⟨r, ev_if_neg c hr, ?_⟩
    rcases hc with hc | ⟨hc, hc2⟩
    · exact .inl hc
    · exact .inr ⟨by rw [hc]; unfold totNodeS; rw [List.drop_zero]; omega, hc2⟩

/-! laws_szStringS -/
-- plain: Evs
def totStr (x : ByteArray) : Int := (x.size : Int)
def totStringS (l : List ByteArray) : Int := (l.length : Int) + (l.map totStr).sum
theorem totStringS_parts (l : List ByteArray) : 0 ≤ (l.map totStr).sum := by
  induction l with
  | nil => simp
  | cons x l ih => rw [List.map_cons, List.sum_cons]; unfold totStr; unfold totStr at ih; omega
theorem laws_szStringS_l0_ev (l : List ByteArray) (hl : l.length ≤ maxLen) (hg : ∀ x ∈ l, x.size ≤ maxLen) : ∀ (d i : Nat) (a : Int), i + d = l.length → 0 ≤ a → a ≤ 1048576 →
    ∃ r, Ev (fun k => laws_szStringS.l0 k l a i) r ∧ (r < 0 ∨ (r = a - ((l.drop i).map totStr).sum ∧ 0 ≤ r)) := by
  unfold maxLen at hl hg
  intro d
  induction d with
  | zero =>
    intro i a hi h0 h1
    refine ⟨a, ev_done fun k => ?_, .inr ⟨by rw [List.drop_eq_nil_of_le (by omega)]; simp, h0⟩⟩
    rw [laws_szStringS.l0, if_neg (by omega)]
  | succ d ih =>
    intro i a hi h0 h1
    have hil : i < l.length := by omega
    have hx : (l.getD i ByteArray.empty).size ≤ 9223372036854775807 := by rw [List.getD_eq_getElem?_getD, List.getElem?_eq_getElem hil]; exact hg _ (List.getElem_mem hil)
    rw [drop_cons l ByteArray.empty i hil, List.map_cons, List.sum_cons]
    have hz : totStr (l.getD i ByteArray.empty) = ((l.getD i ByteArray.empty).size : Int) := rfl
    by_cases c : a - ((l.getD i ByteArray.empty).size : Int) < 0
    · refine ⟨-1, ev_done fun k => ?_, .inl (by omega)⟩
      rw [laws_szStringS.l0, if_pos (by omega), if_pos (by omega), rdOf_nat, wrap_id (x := a - _) (by omega) (by omega), if_pos c]
    · obtain ⟨r, hr, hc⟩ := ih (i + 1) (a - ((l.getD i ByteArray.empty).size : Int)) (by omega) (by omega) (by omega)
      refine ⟨r, Ev.step (fun k => ?_) hr, ?_⟩
      · rw [laws_szStringS.l0, if_pos (by omega), if_pos (by omega), rdOf_nat, wrap_id (x := a - _) (by omega) (by omega), if_neg c, wrap_up hil hl]
      · rcases hc with hc | ⟨hc, hc2⟩
        · exact .inl hc
        · exact .inr ⟨by rw [hc, hz]; omega, hc2⟩
theorem laws_szStringS_ev (l : List ByteArray) (a : Int) (h0 : 0 ≤ a) (h1 : a ≤ 1048576) (hl : l.length ≤ maxLen) (hg : ∀ x ∈ l, x.size ≤ maxLen) :
    ∃ r, Ev (fun k => laws_szStringS.f k l a) r ∧ (r < 0 ∨ (r = a - totStringS l ∧ 0 ≤ r)) := by
  have hl' := hl
  unfold maxLen at hl'
  simp only [laws_szStringS.f]
  rw [wrap_id (x := a - _) (by omega) (by omega)]
  by_cases c : a - (l.length : Int) < 0
  · exact ⟨-1, ev_if_pos c (Ev.now _), .inl (by omega)⟩
  · obtain ⟨r, hr, hc⟩ := laws_szStringS_l0_ev l hl hg l.length 0 (a - (l.length : Int)) (by omega) (by omega) (by omega)
    refine ⟨r, ev_if_neg c hr, ?_⟩
    rcases hc with hc | ⟨hc, hc2⟩
    · exact .inl hc
    · exact .inr ⟨by rw [hc]; unfold totStringS; rw [List.drop_zero]; omega, hc2⟩

/-! laws_szPart -/
-- plain: Evs
def totPart (x : S63) : Int := (x.f0.size : Int) + (x.f1.size : Int) + totStringS x.f2
theorem totPart_nonneg (x : S63) : 0 ≤ totPart x := by unfold totPart totStringS; have := totStringS_parts x.f2; omega
def goodPartIn (x : S63) : Prop := x.f0.size ≤ maxLen ∧ x.f1.size ≤ maxLen ∧ (x.f2.length ≤ maxLen ∧ ∀ y ∈ x.f2, y.size ≤ maxLen)
theorem szPart_ev (x : S63) (a : Int) (h0 : 0 ≤ a) (h1 : a ≤ 1048576) (hg : goodPartIn x) : ∃ r, Ev (fun k => laws_szPart.f k x.f0 x.f1 x.f2 a) r ∧ (r < 0 ∨ (r = a - totPart x ∧ 0 ≤ r)) := by
  obtain ⟨hx, hy, hz, hw⟩ := hg
  have ht : 0 ≤ totStringS x.f2 := by unfold totStringS; have := totStringS_parts x.f2; omega
  unfold maxLen at hx hy
  simp only [laws_szPart.f]
  unfold totPart
  rw [wrap_id (x := a - _) (by omega) (by omega)]
  by_cases c : a - (x.f0.size : Int) < 0
  · exact ⟨_, ev_if_pos c (Ev.now _), .inl (by omega)⟩
  · rw [wrap_id (x := _ - (x.f1.size : Int)) (by omega) (by omega)]
    by_cases c2 : a - (x.f0.size : Int) - (x.f1.size : Int) < 0
    · exact ⟨_, ev_if_neg c (ev_if_pos c2 (Ev.now _)), .inl (by omega)⟩
    · obtain ⟨r, hr, hc⟩ := laws_szStringS_ev x.f2 (a - (x.f0.size : Int) - (x.f1.size : Int)) (by omega) (by omega) hz hw
      rcases hc with hc | ⟨hc, hc2⟩
      · exact ⟨_, ev_if_neg c (ev_if_neg c2 (ev_bind hr (ev_if_pos hc (Ev.now _)))), .inl (by omega)⟩
      · exact ⟨r, ev_if_neg c (ev_if_neg c2 (ev_bind hr (ev_if_neg (by omega) (Ev.now _)))), .inr ⟨by omega, hc2⟩⟩

/-! laws_szPartS -/
-- plain: Evs
def totPartS (l : List S63) : Int := (l.length : Int) + (l.map totPart).sum
theorem totPartS_parts (l : List S63) : 0 ≤ (l.map totPart).sum := by
  induction l with
  | nil => simp
  | cons x l ih => rw [List.map_cons, List.sum_cons]; have := totPart_nonneg x; omega
theorem laws_szPartS_l0_ev (l : List S63) (hl : l.length ≤ maxLen) (hg : ∀ x ∈ l, goodPartIn x) : ∀ (d i : Nat) (a : Int), i + d = l.length → 0 ≤ a → a ≤ 1048576 →
    ∃ r, Ev (fun k => laws_szPartS.l0 k l a i) r ∧ (r < 0 ∨ (r = a - ((l.drop i).map totPart).sum ∧ 0 ≤ r)) := by
  unfold maxLen at hl
  intro d
  induction d with
  | zero =>
    intro i a hi h0 h1
    refine ⟨a, ev_done fun k => ?_, .inr ⟨by rw [List.drop_eq_nil_of_le (by omega)]; simp, h0⟩⟩
    rw [laws_szPartS.l0, if_neg (by omega)]
  | succ d ih =>
    intro i a hi h0 h1
    have hil : i < l.length := by omega
    have hx : goodPartIn (l.getD i z63) := by rw [List.getD_eq_getElem?_getD, List.getElem?_eq_getElem hil]; exact hg _ (List.getElem_mem hil)
    have hrd : rd_T63 l (i : Int) = l.getD i z63 := by simp [rd_T63]
    rw [drop_cons l z63 i hil, List.map_cons, List.sum_cons]
    obtain ⟨r1, e1, c1⟩ := szPart_ev (l.getD i z63) a h0 h1 hx
    have ht := totPart_nonneg (l.getD i z63)
    rcases c1 with c1 | ⟨c1, c2⟩
    · refine ⟨-1, (by refine Ev.step (fun k => by rw [laws_szPartS.l0, if_pos (by omega), if_pos (by omega), hrd]) ?_; exact ev_bind e1 (ev_if_pos c1 (Ev.now _))), .inl (by omega)⟩
    · obtain ⟨r, hr, hc⟩ := ih (i + 1) r1 (by omega) c2 (by omega)
      refine ⟨r, (by refine Ev.step (fun k => by rw [laws_szPartS.l0, if_pos (by omega), if_pos (by omega), hrd]) ?_; refine ev_bind e1 (ev_if_neg (by omega) ?_); rw [wrap_up hil hl]; exact hr), ?_⟩
      rcases hc with hc | ⟨hc, hc2⟩
      · exact .inl hc
      · exact .inr ⟨by rw [hc, c1]; omega, hc2⟩
theorem laws_szPartS_ev (l : List S63) (a : Int) (h0 : 0 ≤ a) (h1 : a ≤ 1048576) (hl : l.length ≤ maxLen) (hg : ∀ x ∈ l, goodPartIn x) :
    ∃ r, Ev (fun k => laws_szPartS.f k l a) r ∧ (r < 0 ∨ (r = a - totPartS l ∧ 0 ≤ r)) := by
  have hl' := hl
  unfold maxLen at hl'
  simp only [laws_szPartS.f]
  rw [wrap_id (x := a - _) (by omega) (by omega)]
  by_cases c : a - (l.length : Int) < 0
  · exact ⟨-1, ev_if_pos c (Ev.now _), .inl (by omega)⟩
  · obtain ⟨r, hr, hc⟩ := laws_szPartS_l0_ev l hl hg l.length 0 (a - (l.length : Int)) (by omega) (by omega) (by omega)
    refine ⟨r, ev_if_neg c hr, ?_⟩
    rcases hc with hc | ⟨hc, hc2⟩
    · exact .inl hc
    · exact .inr ⟨by rw [hc]; unfold totPartS; rw [List.drop_zero]; omega, hc2⟩

/-! spec_l1In -/
theorem spec_l1In_eq (a b c : Int) : spec_l1In.f a b c = some (decide (b ≤ a ∧ a ≤ c)) := by
  unfold spec_l1In.f
  split
  · rename_i h; simp [show b ≤ a from h]
  · rename_i h; simp [show ¬ b ≤ a from h]

/-! spec_l4Letter -/
-- plain: Word
theorem spec_l4Letter_eq (c : Int) : spec_l4Letter.f c = some (ltrI c || decide (c = 95)) := by
  have hb : (c == 95) = decide (c = 95) := by rw [Bool.eq_iff_iff]; simp
  unfold spec_l4Letter.f
  rw [hb]
  unfold ltrI
  by_cases h1 : (97 ≤ c ∧ c ≤ 122)
  · rw [if_pos h1.1, if_pos h1.2, decide_eq_true (p := (97 ≤ c ∧ c ≤ 122) ∨ (65 ≤ c ∧ c ≤ 90)) (.inl h1)]; rfl
  · by_cases h2 : (65 ≤ c ∧ c ≤ 90)
    · rw [decide_eq_true (p := (97 ≤ c ∧ c ≤ 122) ∨ (65 ≤ c ∧ c ≤ 90)) (.inr h2), Bool.true_or]
      by_cases h3 : c ≥ 97
      · omega
      · rw [if_neg h3, if_pos h2.1, if_pos h2.2]
    · rw [decide_eq_false (p := (97 ≤ c ∧ c ≤ 122) ∨ (65 ≤ c ∧ c ≤ 90)) (by omega), Bool.false_or]
      by_cases h3 : c ≥ 97
      · rw [if_pos h3, if_neg (by omega), if_pos (by omega), if_neg (by omega)]
      · rw [if_neg h3]
        by_cases h4 : c ≥ 65
        · rw [if_pos h4, if_neg (by omega)]
        · rw [if_neg h4]

/-! spec_l1Digit -/
-- plain: Word
theorem spec_l1Digit_eq (c : Int) : spec_l1Digit.f c = some (digI c) := by
  unfold spec_l1Digit.f digI
  split
  · rename_i h; congr 1; rw [decide_eq_decide]; omega
  · rename_i h; congr 1; rw [eq_comm, decide_eq_false_iff_not]; omega

/-! spec_l4Inner -/
-- plain: Mark
theorem spec_l4Inner_eq (c : Int) : spec_l4Inner.f c = some (nmI c) := by
  unfold spec_l4Inner.f nmI
  rw [show spec_l4Letter.f c = some (nmBI c) from spec_l4Letter_eq c, Option.bind_some, spec_l1Digit_eq]
  cases nmBI c with
  | true => rfl
  | false =>
    rw [if_neg (by decide), Option.bind_some]
    cases digI c with
    | true => rfl
    | false =>
      rw [if_neg (by decide)]
      by_cases h1 : c = 45
      · rw [if_pos h1]; simp [h1]
      · rw [if_neg h1]
        by_cases h2 : c = 58
        · rw [if_pos h2]; simp [h2]
        · rw [if_neg h2]; simp only [Option.some.injEq]; rw [Bool.eq_iff_iff]; simp [h1, h2]

/-! spec_l4Name -/
-- plain: Evs Mark
theorem l4Name_l0 (s : ByteArray) (hs : s.size ≤ 1048576) : Ev (fun k => spec_l4Name.l0 k s 0) ((B s).all nmU) := by
  have hl := B_len s
  have key := ev_from (B s).length (fun i k => spec_l4Name.l0 k s (i : Int)) (fun i => ((B s).drop i).all nmU) ?_ ?_ 0 (by omega)
  · exact key
  · rw [List.drop_length]
    exact Ev.step (fun k => spec_l4Name.l0.eq_2 ..) (ev_if_neg (by omega) (Ev.now _))
  · intro i hi h
    refine Ev.step (fun k => spec_l4Name.l0.eq_2 ..) (ev_if_pos (by omega) (ev_if_pos (by omega) ?_))
    rw [bt_U s i hi, drop_cons (B s) 0 i hi, List.all_cons]
    refine ev_bind0 (spec_l4Inner_eq _) ?_
    by_cases hc : nmU ((B s).getD i 0) = true
    · rw [hc, Bool.true_and]
      refine ev_if_pos hc ?_
      rw [wrap_id (x := (i : Int) + 1) (by omega) (by omega), cast_succ]
      exact h
    · rw [Bool.eq_false_iff.mpr hc, Bool.false_and]
      exact ev_if_neg hc (Ev.now _)
theorem spec_l4Name_ev (s : ByteArray) (hs : s.size ≤ 1048576) : Ev (fun k => spec_l4Name.f k s) (isNameL (B s)) := by
  have hl := B_len s
  simp only [spec_l4Name.f]
  refine ev_bind0 (spec_l1In_eq _ _ _) ?_
  unfold isNameL
  by_cases h : 1 ≤ (B s).length ∧ (B s).length ≤ 30
  · rw [decide_eq_true h, Bool.true_and]
    refine ev_if_pos (decide_eq_true (by omega)) (ev_if_pos (by omega) ?_)
    rw [show bt s 0 = _ from bt_U s 0 (by omega)]
    refine ev_bind0 (show spec_l4Letter.f _ = some (nmBI _) from spec_l4Letter_eq _) (Ev.step (fun k => spec_l4Name.j0.eq_2 ..) ?_)
    by_cases hc : nmB ((B s).getD 0 0) = true
    · rw [hc, Bool.true_and]
      exact ev_if_neg (by show ¬ (!nmB ((B s).getD 0 0)) = true; rw [hc]; decide) (l4Name_l0 s hs)
    · rw [Bool.eq_false_iff.mpr hc, Bool.false_and]
      exact ev_if_pos (by show (!nmB ((B s).getD 0 0)) = true; rw [Bool.eq_false_iff.mpr hc]; rfl) (Ev.now _)
  · rw [decide_eq_false h, Bool.false_and, Bool.false_and]
    exact ev_if_neg (by rw [decide_eq_false (by omega)]; decide) (Ev.step (fun k => spec_l4Name.j0.eq_2 ..) (ev_if_pos rfl (Ev.now _)))

/-! spec_l4Bad -/
-- plain: Evs Mark
theorem rune_next (s : ByteArray) (m : Int) (i x : Nat) (hi : (i : Int) < m) (hm : m ≤ 4) (hs : i < (B s).length) (hl2 : (B s).length ≤ 1048576) (hx : x ≤ 1000000) (r : Int × Int)
    (h1 : (128 ≤ nb (B s) i ∧ nb (B s) i ≤ 191) → Ev (fun k => spec_l4Rune.l0 k s m ((x * 64 + (nb (B s) i - 128) : Nat) : Int) ((i + 1 : Nat) : Int)) r) (h2 : ¬ (128 ≤ nb (B s) i ∧ nb (B s) i ≤ 191) → r = (-1, 1)) :
    Ev (fun k => spec_l4Rune.l0 k s m (x : Int) (i : Int)) r := by
  have hl := B_len s
  refine Ev.step (fun k => spec_l4Rune.l0.eq_2 ..) (ev_if_pos hi (ev_if_pos (by omega) (ev_if_pos (by omega) ?_)))
  rw [show bt s (i : Int) = ((nb (B s) i : Nat) : Int) from bt_U s i hs]
  have hb := nb_lt (B s) i
  generalize nb (B s) i = b at *
  by_cases c1 : b < 128
  · rw [h2 (by omega)]; exact ev_if_pos (by omega) (Ev.now _)
  · refine ev_if_neg (by omega) ?_
    by_cases c2 : 191 < b
    · rw [h2 (by omega)]; exact ev_if_pos (by omega) (Ev.now _)
    · refine ev_if_neg (by omega) ?_
      rw [wrap_id (x := (x : Int) * 64) (by omega) (by omega), wrap_id (x := (b : Int)) (by omega) (by omega), wrap_id (x := (x : Int) * 64 + (b : Int)) (by omega) (by omega), wrap_id (x := (x : Int) * 64 + (b : Int) - 128) (by omega) (by omega), wrap_id (x := (i : Int) + 1) (by omega) (by omega), cast_succ]
      have e : (x : Int) * 64 + (b : Int) - 128 = ((x * 64 + (b - 128) : Nat) : Int) := by omega
      rw [e]
      exact h1 (by omega)
theorem rune_bad (s : ByteArray) (m x : Int) (h : (s.size : Int) < m) (hm : m ≠ 0) : Ev (fun k => spec_l4Rune.j2 k s m x) (-1, 1) :=
  Ev.step (fun k => spec_l4Rune.j2.eq_2 ..) (ev_if_neg hm (Ev.step (fun k => spec_l4Rune.j3.eq_2 ..) (ev_if_pos (decide_eq_true h) (Ev.now _))))
theorem rune_in (s : ByteArray) (m x : Int) (h : ¬ (s.size : Int) < m) (hm : m ≠ 0) (r : Int × Int) (h1 : Ev (fun k => spec_l4Rune.l0 k s m x 1) r) : Ev (fun k => spec_l4Rune.j2 k s m x) r :=
  Ev.step (fun k => spec_l4Rune.j2.eq_2 ..) (ev_if_neg hm (Ev.step (fun k => spec_l4Rune.j3.eq_2 ..) (ev_if_neg (by rw [decide_eq_false h]; decide) h1)))
theorem rune_2 (s : ByteArray) (hs : s.size ≤ 1048576) (h0 : 194 ≤ nb (B s) 0 ∧ nb (B s) 0 ≤ 223) : Ev (fun k => spec_l4Rune.j2 k s 2 ((nb (B s) 0 - 192 : Nat) : Int)) (runeP (B s)) := by
  have hl := B_len s
  have hd : decP (B s) = _ := dec_2 (n := (B s).length) (b2 := nb (B s) 2) (b3 := nb (B s) 3) h0 (nb_lt (B s) 1)
  by_cases hn : 1 < (B s).length
  · refine rune_in s 2 _ (by omega) (by decide) _ (rune_next s 2 1 _ (by omega) (by omega) hn (by omega) (by omega) _ (fun hc => ?_) (fun hc => ?_))
    · rw [if_pos ⟨hn, hc⟩] at hd
      rw [show runeP (B s) = _ from fixR_ok hd (by omega)]
      exact Ev.step (fun k => spec_l4Rune.l0.eq_2 ..) (ev_if_neg (by omega) (ev_if_neg (by omega) (ev_if_neg (by omega) (Ev.now _))))
    · rw [if_neg (fun h => hc h.2)] at hd
      exact fixR_bad hd
  · rw [if_neg (fun h => hn h.1)] at hd
    rw [show runeP (B s) = _ from fixR_bad hd]
    exact rune_bad s 2 _ (by omega) (by decide)
theorem rune_3 (s : ByteArray) (hs : s.size ≤ 1048576) (h0 : 224 ≤ nb (B s) 0 ∧ nb (B s) 0 ≤ 239) : Ev (fun k => spec_l4Rune.j2 k s 3 ((nb (B s) 0 - 224 : Nat) : Int)) (runeP (B s)) := by
  have hl := B_len s
  have hd : decP (B s) = _ := dec_3 (n := (B s).length) (b3 := nb (B s) 3) h0 (nb_lt (B s) 1) (nb_lt (B s) 2)
  have hb1 := nb_lt (B s) 1
  have hb2 := nb_lt (B s) 2
  by_cases hn : 2 < (B s).length
  · refine rune_in s 3 _ (by omega) (by decide) _ (rune_next s 3 1 _ (by omega) (by omega) (by omega) (by omega) (by omega) _ (fun hc1 => ?_) (fun hc => ?_))
    · refine rune_next s 3 2 _ (by omega) (by omega) hn (by omega) (by omega) _ (fun hc2 => ?_) (fun hc => ?_)
      · rw [if_pos ⟨⟨by omega, hc1⟩, hn, hc2⟩] at hd
        obtain ⟨x, hx⟩ : ∃ x, ((nb (B s) 0 - 224) * 64 + (nb (B s) 1 - 128)) * 64 + (nb (B s) 2 - 128) = x := ⟨_, rfl⟩
        rw [hx] at hd ⊢
        refine Ev.step (fun k => spec_l4Rune.l0.eq_2 ..) (ev_if_neg (by omega) (ev_if_pos rfl ?_))
        by_cases c1 : x < 2048
        · rw [if_pos (.inl c1)] at hd
          rw [show runeP (B s) = _ from fixR_bad hd]
          exact ev_if_pos (by omega) (Ev.now _)
        · refine ev_if_neg (by omega) (ev_bind0 (spec_l1In_eq _ _ _) ?_)
          by_cases c2 : 55296 ≤ x ∧ x ≤ 57343
          · rw [if_pos (.inr c2)] at hd
            rw [show runeP (B s) = _ from fixR_bad hd]
            exact ev_if_pos (decide_eq_true (by omega)) (Ev.now _)
          · rw [if_neg (by omega)] at hd
            rw [show runeP (B s) = _ from fixR_ok hd (by omega)]
            exact ev_if_neg (by rw [decide_eq_false (by omega)]; decide) (ev_if_neg (by omega) (Ev.now _))
      · rw [if_neg (fun h => hc h.2.2)] at hd
        exact fixR_bad hd
    · rw [if_neg (fun h => hc h.1.2)] at hd
      exact fixR_bad hd
  · rw [if_neg (fun h => hn h.2.1)] at hd
    rw [show runeP (B s) = _ from fixR_bad hd]
    exact rune_bad s 3 _ (by omega) (by decide)
theorem rune_4 (s : ByteArray) (hs : s.size ≤ 1048576) (h0 : 240 ≤ nb (B s) 0 ∧ nb (B s) 0 ≤ 244) : Ev (fun k => spec_l4Rune.j2 k s 4 ((nb (B s) 0 - 240 : Nat) : Int)) (runeP (B s)) := by
  have hl := B_len s
  have hd : decP (B s) = _ := dec_4 (n := (B s).length) h0 (nb_lt (B s) 1) (nb_lt (B s) 2) (nb_lt (B s) 3)
  have hb1 := nb_lt (B s) 1
  have hb2 := nb_lt (B s) 2
  have hb3 := nb_lt (B s) 3
  by_cases hn : 3 < (B s).length
  · refine rune_in s 4 _ (by omega) (by decide) _ (rune_next s 4 1 _ (by omega) (by omega) (by omega) (by omega) (by omega) _ (fun hc1 => ?_) (fun hc => ?_))
    · refine rune_next s 4 2 _ (by omega) (by omega) (by omega) (by omega) (by omega) _ (fun hc2 => ?_) (fun hc => ?_)
      · refine rune_next s 4 3 _ (by omega) (by omega) hn (by omega) (by omega) _ (fun hc3 => ?_) (fun hc => ?_)
        · rw [if_pos ⟨⟨by omega, hc1⟩, ⟨by omega, hc2⟩, hn, hc3⟩] at hd
          obtain ⟨x, hx⟩ : ∃ x, (((nb (B s) 0 - 240) * 64 + (nb (B s) 1 - 128)) * 64 + (nb (B s) 2 - 128)) * 64 + (nb (B s) 3 - 128) = x := ⟨_, rfl⟩
          rw [hx] at hd ⊢
          refine Ev.step (fun k => spec_l4Rune.l0.eq_2 ..) (ev_if_neg (by omega) (ev_if_neg (by omega) (ev_if_pos rfl (ev_bind0 (spec_l1In_eq _ _ _) ?_))))
          by_cases c1 : 65536 ≤ x ∧ x ≤ 1114111
          · rw [if_pos c1] at hd
            rw [show runeP (B s) = _ from fixR_ok hd (by omega)]
            exact ev_if_pos (decide_eq_true (by omega)) (Ev.now _)
          · rw [if_neg c1] at hd
            rw [show runeP (B s) = _ from fixR_bad hd]
            exact ev_if_neg (by rw [decide_eq_false (by omega)]; decide) (Ev.now _)
        · rw [if_neg (fun h => hc h.2.2.2)] at hd
          exact fixR_bad hd
      · rw [if_neg (fun h => hc h.2.1.2)] at hd
        exact fixR_bad hd
    · rw [if_neg (fun h => hc h.1.2)] at hd
      exact fixR_bad hd
  · rw [if_neg (fun h => hn h.2.2.1)] at hd
    rw [show runeP (B s) = _ from fixR_bad hd]
    exact rune_bad s 4 _ (by omega) (by decide)
theorem spec_l4Rune_ev (s : ByteArray) (hs : s.size ≤ 1048576) (h0 : 0 < (B s).length) : Ev (fun k => spec_l4Rune.f k s) (runeP (B s)) := by
  have hl := B_len s
  have hb := nb_lt (B s) 0
  have e0 : bt s 0 = ((nb (B s) 0 : Nat) : Int) := bt_U s 0 h0
  simp only [spec_l4Rune.f]
  refine ev_if_pos (by omega) ?_
  rw [e0]
  have wr : ∀ q : Nat, q ≤ nb (B s) 0 → wrap64 (wrap64 ((nb (B s) 0 : Nat) : Int) - (q : Int)) = ((nb (B s) 0 - q : Nat) : Int) := fun q hq => by
    rw [wrap_id (x := ((nb (B s) 0 : Nat) : Int)) (by omega) (by omega), wrap_id (by omega) (by omega)]; omega
  have none_ (h : ¬ nb (B s) 0 < 128) (h2 : ¬ (194 ≤ nb (B s) 0 ∧ nb (B s) 0 ≤ 244)) : Ev (fun k => spec_l4Rune.j2 k s 0 0) (runeP (B s)) := by
    rw [show runeP (B s) = _ from fixR_bad (show decP (B s) = _ from dec_0 h h2 hb)]
    exact Ev.step (fun k => spec_l4Rune.j2.eq_2 ..) (ev_if_pos rfl (Ev.step (fun k => spec_l4Rune.j3.eq_2 ..) (ev_if_pos rfl (Ev.now _))))
  by_cases c1 : nb (B s) 0 < 128
  · refine ev_if_pos (by omega) ?_
    rw [show runeP (B s) = _ from fixR_ok (show decP (B s) = _ from dec_1 c1) (by omega), wrap_id (by omega) (by omega)]
    exact Ev.now _
  refine ev_if_neg (by omega) ?_
  have rest (h : ¬ (194 ≤ nb (B s) 0 ∧ nb (B s) 0 ≤ 223)) : Ev (fun k => spec_l4Rune.j0 k s ((nb (B s) 0 : Nat) : Int) 0 0 false) (runeP (B s)) := by
    refine Ev.step (fun k => spec_l4Rune.j0.eq_2 ..) (ev_if_neg (by decide) ?_)
    have rest2 (h : ¬ (224 ≤ nb (B s) 0 ∧ nb (B s) 0 ≤ 239)) : Ev (fun k => spec_l4Rune.j1 k s ((nb (B s) 0 : Nat) : Int) 0 0 false) (runeP (B s)) := by
      refine Ev.step (fun k => spec_l4Rune.j1.eq_2 ..) (ev_if_neg (by decide) ?_)
      by_cases d1 : 240 ≤ nb (B s) 0
      · refine ev_if_pos (by omega) ?_
        by_cases d2 : nb (B s) 0 ≤ 244
        · refine ev_if_pos (by omega) ?_
          rw [show wrap64 (wrap64 ((nb (B s) 0 : Nat) : Int) - 240) = _ from wr 240 d1]
          exact rune_4 s hs ⟨d1, d2⟩
        · exact ev_if_neg (by omega) (none_ c1 (by omega))
      · exact ev_if_neg (by omega) (none_ c1 (by omega))
    by_cases d1 : 224 ≤ nb (B s) 0
    · refine ev_if_pos (by omega) ?_
      by_cases d2 : nb (B s) 0 ≤ 239
      · rw [decide_eq_true (show ((nb (B s) 0 : Nat) : Int) ≤ 239 by omega)]
        refine Ev.step (fun k => spec_l4Rune.j1.eq_2 ..) (ev_if_pos rfl ?_)
        rw [show wrap64 (wrap64 ((nb (B s) 0 : Nat) : Int) - 224) = _ from wr 224 d1]
        exact rune_3 s hs ⟨d1, d2⟩
      · rw [decide_eq_false (show ¬ ((nb (B s) 0 : Nat) : Int) ≤ 239 by omega)]
        exact rest2 (by omega)
    · exact ev_if_neg (by omega) (rest2 (by omega))
  by_cases d1 : 194 ≤ nb (B s) 0
  · refine ev_if_pos (by omega) ?_
    by_cases d2 : nb (B s) 0 ≤ 223
    · rw [decide_eq_true (show ((nb (B s) 0 : Nat) : Int) ≤ 223 by omega)]
      refine Ev.step (fun k => spec_l4Rune.j0.eq_2 ..) (ev_if_pos rfl ?_)
      rw [show wrap64 (wrap64 ((nb (B s) 0 : Nat) : Int) - 192) = _ from wr 192 (by omega)]
      exact rune_2 s hs ⟨d1, d2⟩
    · rw [decide_eq_false (show ¬ ((nb (B s) 0 : Nat) : Int) ≤ 223 by omega)]
      exact rest (by omega)
  · exact ev_if_neg (by omega) (rest (by omega))
theorem spec_l4May_eq (r : Int) : spec_l4May.f r = some (mayR r) := by
  unfold spec_l4May.f mayR
  repeat' split
  all_goals (simp only [Option.some.injEq]; rw [Bool.eq_iff_iff]; simp; try omega)
theorem spec_l4Bad_l0 (s : ByteArray) (hs : s.size ≤ 1048576) : ∀ (n p : Nat), (B s).length - p < n → p ≤ (B s).length → Ev (fun k => spec_l4Bad.l0 k s (p : Int)) (badFrom (B s) n p) := by
  have hl := B_len s
  intro n
  induction n with
  | zero => intro p h; omega
  | succ n ih =>
    intro p hn hp
    rw [badFrom]
    by_cases h : p < (B s).length
    · rw [if_pos h]
      have hB : B (s.extract p s.size) = (B s).drop p := by rw [B_extract, List.take_of_length_le (by rw [List.length_drop]; omega)]
      have hlen : ((B s).drop p).length = (B s).length - p := List.length_drop
      have hr := spec_l4Rune_ev (s.extract p s.size) (by rw [← B_len, hB]; omega) (by rw [hB]; omega)
      rw [hB] at hr
      have hw := runeP_width ((B s).drop p) (by omega)
      refine Ev.step (fun k => spec_l4Bad.l0.eq_2 ..) (ev_if_pos (by omega) (ev_if_pos (by omega) (ev_if_pos (by omega) (ev_bind hr (ev_bind0 (spec_l4May_eq _) ?_)))))
      generalize runeP ((B s).drop p) = d at *
      by_cases hm : mayR d.1 = true
      · rw [if_pos hm]
        refine ev_if_pos hm ?_
        rw [wrap_id (x := (p : Int) + d.2) (by omega) (by omega), show (p : Int) + d.2 = ((p + d.2.toNat : Nat) : Int) by omega]
        exact ih _ (by omega) (by omega)
      · rw [if_neg hm]
        exact ev_if_neg hm (Ev.now _)
    · rw [if_neg h]
      exact Ev.step (fun k => spec_l4Bad.l0.eq_2 ..) (ev_if_neg (by omega) (Ev.now _))
theorem spec_l4Bad_ev (s : ByteArray) (hs : s.size ≤ 1048576) : Ev (fun k => spec_l4Bad.f k s) (badP (B s)) := spec_l4Bad_l0 s hs _ 0 (by omega) (by omega)

/-! spec_l5Start -/
-- plain: Word
theorem spec_l5Start_eq (c : Int) : spec_l5Start.f c = some (ltrI c || decide (c = 95) || decide (c = 45)) := by
  have hb : (c == 45) = decide (c = 45) := by rw [Bool.eq_iff_iff]; simp
  unfold spec_l5Start.f
  rw [spec_l4Letter_eq, Option.bind_some, hb]
  split
  · rename_i h; rw [h, Bool.true_or]
  · rename_i h; rw [Bool.not_eq_true] at h; rw [h, Bool.false_or]

/-! spec_l5Inner -/
-- plain: Word
theorem spec_l5Inner_eq (c : Int) : spec_l5Inner.f c = some (wordI c) := by
  unfold spec_l5Inner.f
  rw [spec_l5Start_eq, Option.bind_some, spec_l1Digit_eq, Option.bind_some]
  unfold wordI
  generalize ltrI c = a; generalize digI c = b; generalize decide (c = 95) = d; generalize decide (c = 45) = e
  cases a <;> cases b <;> cases d <;> cases e <;> rfl

/-! spec_l5Run -/
-- plain: Word
def runL (l : List UInt8) : Nat := if runEnd wordU l 0 = 0 then 0 else if digU (l.getD 0 0) = true then 0 else if runEnd wordU l 0 > 30 then 0 else runEnd wordU l 0
theorem spec_l5Run_ev (s : ByteArray) (hs : s.size ≤ 9223372036854775806) : Ev (fun k => spec_l5Run.f k s) ((runL (B s) : Nat) : Int) := by
  refine Ev.congr (f := fun k => spec_l5Run.l0 k s 0) (fun k => rfl) ?_
  have hl := B_len s
  have fin : ∀ e : Nat, e ≤ (B s).length → ∀ k : Nat, (if (e : Int) = 0 then (some (0 : Int)) else (if 0 < (s.size : Int) then ((spec_l1Digit.f (bt s 0)).bind fun t => (if t = true then (some 0) else (if (e : Int) > 30 then (some 0) else (some (e : Int))))) else (none))) =
      some (((if e = 0 then 0 else if digU ((B s).getD 0 0) = true then 0 else if e > 30 then 0 else e : Nat) : Nat) : Int) := by
    intro e he k
    by_cases h0 : e = 0
    · rw [if_pos (by omega), if_pos h0]; rfl
    · have hb := bt_U s 0 (by omega)
      have hd : digI (bt s 0) = digU ((B s).getD 0 0) := by
        have : bt s ((0 : Nat) : Int) = bt s 0 := rfl
        rw [← this, hb]; rfl
      rw [if_neg (by omega), if_neg h0, if_pos (by omega), spec_l1Digit_eq, Option.bind_some, hd]
      split
      · rfl
      · by_cases h30 : e > 30
        · rw [if_pos (by omega), if_pos h30]; rfl
        · rw [if_neg (by omega), if_neg h30]
  have key := ev_from (B s).length (fun i k => spec_l5Run.l0 k s i) (fun i => (((if runEnd wordU (B s) i = 0 then 0 else if digU ((B s).getD 0 0) = true then 0 else if runEnd wordU (B s) i > 30 then 0 else runEnd wordU (B s) i : Nat) : Nat) : Int)) ?_ ?_ 0 (by omega)
  · exact key
  · refine ev_done fun k => ?_
    rw [spec_l5Run.l0, if_neg (by omega), fin _ (Nat.le_refl _) k, runEnd_end _ _ _ (Nat.le_refl _)]
  · intro i hi h
    by_cases hp : wordU ((B s).getD i 0) = true
    · rw [runEnd_yes _ _ _ hi hp]
      refine Ev.step (fun k => ?_) h
      rw [spec_l5Run.l0, if_pos (by omega), if_pos (by omega), spec_l5Inner_eq, Option.bind_some, bt_U s i hi, if_pos (show wordI _ = true from hp), wrap_up hi (by omega)]
    · refine ev_done fun k => ?_
      rw [spec_l5Run.l0, if_pos (by omega), if_pos (by omega), spec_l5Inner_eq, Option.bind_some, bt_U s i hi, if_neg (show ¬ wordI _ = true from hp), runEnd_no _ _ _ hi hp, fin i (by omega) k]

/-! spec_l5Word -/
-- plain: Word
theorem runL_word (l : List UInt8) : (decide (0 < l.length) && decide (runL l = l.length)) = isWordL l := by
  unfold isWordL runL
  have hr := runEnd_le wordU l 0 (by omega)
  have ha := runEnd_all wordU l
  by_cases h0 : 0 < l.length
  · rw [decide_eq_true h0, Bool.true_and]
    cases hd : digU (l.getD 0 0) with
    | true =>
      simp only [if_true, Bool.not_true, Bool.and_false, Bool.false_and]
      rw [decide_eq_false_iff_not]; split <;> omega
    | false =>
      simp only [Bool.false_eq_true, if_false, Bool.not_false, Bool.and_true]
      by_cases hw : l.all wordU = true
      · rw [hw, Bool.and_true, decide_eq_decide, ha.2 hw]
        rw [if_neg (by omega)]
        split <;> omega
      · have hne : runEnd wordU l 0 ≠ l.length := fun h => hw (ha.1 h)
        rw [Bool.not_eq_true] at hw
        rw [hw, Bool.and_false, decide_eq_false_iff_not]
        split
        · omega
        · split <;> omega
  · rw [decide_eq_false h0, decide_eq_false (p := 1 ≤ l.length ∧ l.length ≤ 30) (by omega)]; simp
theorem spec_l5Word_ev (s : ByteArray) (hs : s.size ≤ 9223372036854775806) : Ev (fun k => spec_l5Word.f k s) (isWordL (B s)) := by
  have hl := B_len s
  simp only [spec_l5Word.f]
  rw [← runL_word]
  by_cases h : (s.size : Int) > 0
  · refine ev_if_pos h (ev_bind (spec_l5Run_ev s hs) ?_)
    have e : (decide (0 < (B s).length) && decide (runL (B s) = (B s).length)) = (((runL (B s) : Nat) : Int) == (s.size : Int)) := by
      rw [decide_eq_true (by omega), Bool.true_and, Bool.eq_iff_iff, decide_eq_true_iff, beq_iff_eq]; omega
    rw [e]; exact Ev.now _
  · refine ev_if_neg h ?_
    rw [decide_eq_false (by omega), Bool.false_and]; exact Ev.now _

/-! spec_l5GoodPart -/
-- plain: Word
def sizesPart (x : S71) : Prop := x.f0.size ≤ 1048576 ∧ x.f1.size ≤ 1048576 ∧ x.f2.length ≤ 1048576 ∧ ∀ y ∈ x.f2, y.size ≤ 1048576
def typeOkL (l : List UInt8) : Bool := decide (l = []) || decide (l = [42]) || isWordL l
def idOkL (l : List UInt8) : Bool := decide (l = []) || isWordL l
def partOk (x : S71) : Bool := typeOkL (B x.f0) && idOkL (B x.f1) && decide (x.f2.length ≤ 4) && x.f2.all (fun y => isWordL (B y)) && (!decide (B x.f0 = []) || !decide (B x.f1 = []) || decide (0 < x.f2.length))
theorem spec_l5GoodPart_l0_ev (a b : ByteArray) (c : List ByteArray) (hc : c.length ≤ 1048576) (hg : ∀ y ∈ c, y.size ≤ 1048576) :
    Ev (fun k => spec_l5GoodPart.l0 k c c.length 0 a b c) (c.all (fun y => isWordL (B y)) && (!decide (B a = []) || !decide (B b = []) || decide (0 < c.length))) := by
  refine ev_from c.length (fun i k => spec_l5GoodPart.l0 k c c.length i a b c) (fun i => (c.drop i).all (fun y => isWordL (B y)) && (!decide (B a = []) || !decide (B b = []) || decide (0 < c.length))) ?_ ?_ 0 (by omega)
  · refine ev_done fun k => ?_
    rw [spec_l5GoodPart.l0, if_neg (by omega), toList_B, toList_B]
    simp only [List.drop_length, List.all_nil, Bool.true_and]
    by_cases h1 : B a = []
    · rw [if_pos h1, decide_eq_true h1]
      by_cases h2 : B b = []
      · rw [if_pos h2, decide_eq_true h2]; simp
      · rw [if_neg h2, decide_eq_false h2]; simp
    · rw [if_neg h1, decide_eq_false h1]; simp
  · intro i hi h
    have hmem : c.getD i ByteArray.empty ∈ c := by rw [List.getD_eq_getElem?_getD, List.getElem?_eq_getElem hi]; exact List.getElem_mem hi
    have hz := hg _ hmem
    rw [drop_cons c ByteArray.empty i hi, List.all_cons]
    refine Ev.step (fun k => by rw [spec_l5GoodPart.l0, if_pos (by omega), if_pos (by omega), if_pos (by omega), rdOf_nat]) ?_
    refine ev_bind (spec_l5Word_ev _ (by omega)) ?_
    cases isWordL (B (c.getD i ByteArray.empty)) with
    | true => refine ev_if_pos rfl ?_; rw [wrap_up hi (by omega), Bool.true_and]; exact h
    | false => refine ev_if_neg (by decide) ?_; rw [Bool.false_and, Bool.false_and]; exact Ev.now _
theorem spec_l5GoodPart_j0_ev (t : Bool) (a b : ByteArray) (c : List ByteArray) (hc : c.length ≤ 1048576) (hg : ∀ y ∈ c, y.size ≤ 1048576) :
    Ev (fun k => spec_l5GoodPart.j0 k t a b c) (!t && (c.all (fun y => isWordL (B y)) && (!decide (B a = []) || !decide (B b = []) || decide (0 < c.length)))) := by
  refine Ev.step (fun k => spec_l5GoodPart.j0.eq_2 ..) ?_
  cases t with
  | true => exact ev_if_pos rfl (Ev.now _)
  | false => exact ev_if_neg (by decide) (spec_l5GoodPart_l0_ev a b c hc hg)
theorem spec_l5GoodPart_ev (x : S71) (hx : sizesPart x) : Ev (fun k => spec_l5GoodPart.f k x.f0 x.f1 x.f2) (partOk x) := by
  obtain ⟨x0, x1, x2⟩ := x
  obtain ⟨h0, h1, h2, h3⟩ := hx
  simp only at h0 h1 h2 h3
  have hle : decide (x2.length ≤ 4) = !(decide ((x2.length : Int) > 4)) := by rw [Bool.eq_iff_iff]; simp; omega
  have fin : ∀ (p : Bool), Ev (fun k => if idOkL (B x1) = true then spec_l5GoodPart.j0 k (decide ((x2.length : Int) > 4)) x0 x1 x2 else spec_l5GoodPart.j0 k true x0 x1 x2) (idOkL (B x1) && decide (x2.length ≤ 4) && (x2.all (fun y => isWordL (B y)) && (!decide (B x0 = []) || !decide (B x1 = []) || decide (0 < x2.length)))) := by
    intro _
    cases hi : idOkL (B x1) with
    | true => refine ev_if_pos rfl ?_; rw [hle, Bool.true_and]; exact spec_l5GoodPart_j0_ev _ x0 x1 x2 h2 h3
    | false => refine ev_if_neg (by decide) ?_; rw [Bool.false_and, Bool.false_and]; exact spec_l5GoodPart_j0_ev true x0 x1 x2 h2 h3
  have rest : Ev (fun k => if x1.toList = ([] : List UInt8) then spec_l5GoodPart.j0 k (decide ((x2.length : Int) > 4)) x0 x1 x2 else (spec_l5Word.f k x1).bind fun t => if t = true then spec_l5GoodPart.j0 k (decide ((x2.length : Int) > 4)) x0 x1 x2 else spec_l5GoodPart.j0 k true x0 x1 x2) (idOkL (B x1) && decide (x2.length ≤ 4) && (x2.all (fun y => isWordL (B y)) && (!decide (B x0 = []) || !decide (B x1 = []) || decide (0 < x2.length)))) := by
    have f := fin true
    by_cases hb : B x1 = []
    · refine ev_if_pos (by rw [toList_B]; exact hb) ?_
      have hi : idOkL (B x1) = true := by unfold idOkL; rw [hb]; rfl
      simp only [hi, if_true] at f
      rw [hi]; exact f
    · refine ev_if_neg (by rw [toList_B]; exact hb) ?_
      have hi : idOkL (B x1) = isWordL (B x1) := by unfold idOkL; rw [decide_eq_false hb, Bool.false_or]
      rw [hi] at f
      refine ev_bind (spec_l5Word_ev x1 (by omega)) ?_
      rw [hi]; exact f
  have e : partOk ⟨x0, x1, x2⟩ = (typeOkL (B x0) && (idOkL (B x1) && decide (x2.length ≤ 4) && (x2.all (fun y => isWordL (B y)) && (!decide (B x0 = []) || !decide (B x1 = []) || decide (0 < x2.length))))) := by
    unfold partOk; simp only [Bool.and_assoc]
  rw [e]
  simp only [spec_l5GoodPart.f]
  by_cases ha : B x0 = []
  · refine ev_if_pos (by rw [toList_B]; exact ha) ?_
    have ht : typeOkL (B x0) = true := by unfold typeOkL; rw [ha]; rfl
    rw [ht, Bool.true_and]; exact rest
  · refine ev_if_neg (by rw [toList_B]; exact ha) ?_
    by_cases hs : B x0 = [42]
    · refine ev_if_pos (by rw [toList_B]; exact hs) ?_
      have ht : typeOkL (B x0) = true := by unfold typeOkL; rw [hs]; rfl
      rw [ht, Bool.true_and]; exact rest
    · refine ev_if_neg (by rw [toList_B]; exact hs) ?_
      have ht : typeOkL (B x0) = isWordL (B x0) := by unfold typeOkL; rw [decide_eq_false ha, decide_eq_false hs]; simp
      refine ev_bind (spec_l5Word_ev x0 (by omega)) ?_
      rw [ht]
      cases isWordL (B x0) with
      | true => refine ev_if_pos rfl ?_; rw [Bool.true_and]; exact rest
      | false => refine ev_if_neg (by decide) ?_; rw [Bool.false_and]; exact spec_l5GoodPart_j0_ev true x0 x1 x2 h2 h3

/-! spec_l5Good -/
-- plain: Word
def selOk (l : List S71) : Bool := decide (1 ≤ l.length ∧ l.length ≤ 5) && l.all partOk
theorem spec_l5Good_ev (l : List S71) (hl : l.length ≤ 1048576) (hg : ∀ x ∈ l, sizesPart x) : Ev (fun k => spec_l5Good.f k l) (selOk l) := by
  simp only [spec_l5Good.f, spec_l1In_eq, Option.bind_some]
  unfold selOk
  by_cases h : 1 ≤ l.length ∧ l.length ≤ 5
  · refine ev_if_pos (by rw [decide_eq_true_iff]; omega) ?_
    rw [decide_eq_true h, Bool.true_and]
    refine ev_from l.length (fun i k => spec_l5Good.l0 k l l.length i) (fun i => (l.drop i).all partOk) ?_ ?_ 0 (by omega)
    · refine ev_done fun k => ?_
      rw [spec_l5Good.l0, if_neg (by omega)]; simp
    · intro i hi hh
      have hrd : rd_T71 l (i : Int) = l.getD i z71 := by simp [rd_T71]
      have hmem : l.getD i z71 ∈ l := by rw [List.getD_eq_getElem?_getD, List.getElem?_eq_getElem hi]; exact List.getElem_mem hi
      rw [drop_cons l z71 i hi, List.all_cons]
      refine Ev.step (fun k => by rw [spec_l5Good.l0, if_pos (by omega), if_pos (by omega), if_pos (by omega), hrd]) ?_
      refine ev_bind (spec_l5GoodPart_ev _ (hg _ hmem)) ?_
      cases partOk (l.getD i z71) with
      | true => refine ev_if_pos rfl ?_; rw [wrap_up hi (by omega), Bool.true_and]; exact hh
      | false => refine ev_if_neg (by decide) ?_; rw [Bool.false_and]; exact Ev.now _
  · refine ev_if_neg (by rw [decide_eq_true_iff]; omega) ?_
    rw [decide_eq_false h, Bool.false_and]; exact Ev.now _

/-! spec_AttrOf -/
-- plain: Evs
def attrTold : Option S144 → ByteArray × Bool
  | some p => (p.f1, true)
  | none => ((⟨#[]⟩ : ByteArray), false)
def attrFind (l : List S144) (a : ByteArray) : ByteArray × Bool := attrTold (l.find? fun x => decide (x.f0.data.toList = a.data.toList))
theorem spec_AttrOf_ev (n : ByteArray) (u : Int) (l : List S144) (t : ByteArray) (a : ByteArray) (hl : l.length ≤ 9223372036854775807) : Ev (fun k => spec_AttrOf.f k n u l t a) (attrFind l a) := by
  refine Ev.congr (f := fun k => spec_AttrOf.l0 k a l l.length 0) (fun k => rfl) ?_
  refine ev_from l.length (fun i k => spec_AttrOf.l0 k a l l.length i) (fun i => attrTold ((l.drop i).find? fun x => decide (x.f0.data.toList = a.data.toList))) ?_ ?_ 0 (by omega)
  · refine ev_done fun k => ?_
    rw [spec_AttrOf.l0, if_neg (by omega)]; simp [attrTold]
  · intro i hi h
    have hrd : rd_T144 l (i : Int) = l.getD i z144 := by simp [rd_T144]
    by_cases hc : (l.getD i z144).f0.data.toList = a.data.toList
    · refine ev_done fun k => ?_
      rw [spec_AttrOf.l0, if_pos (by omega), if_pos (by omega), if_pos (by omega), hrd, if_pos (by rw [str_eq]; exact hc), drop_cons l z144 i hi, List.find?_cons, decide_eq_true hc]
      rfl
    · refine Ev.step (fun k => ?_) (by rw [drop_cons l z144 i hi, List.find?_cons, decide_eq_false hc]; exact h)
      rw [spec_AttrOf.l0, if_pos (by omega), if_pos (by omega), if_pos (by omega), hrd, if_neg (by rw [str_eq]; exact hc), wrap_up hi hl]

/-! spec_l4Blank -/
-- plain: Trim
theorem spec_l4Blank_eq (c : UInt8) : spec_l4Blank.f (c.toNat : Int) = some (blankU c) := by
  unfold spec_l4Blank.f blankU
  have e : ∀ n : Nat, n < 256 → (((c.toNat : Int) = (n : Int)) ↔ c = UInt8.ofNat n) := fun n hn => u8_nat hn
  by_cases h9 : c = 9
  · subst h9; rfl
  · rw [if_neg (by rw [show (9 : Int) = ((9 : Nat) : Int) from rfl, e 9 (by omega)]; exact h9)]
    by_cases h10 : c = 10
    · subst h10; rfl
    · rw [if_neg (by rw [show (10 : Int) = ((10 : Nat) : Int) from rfl, e 10 (by omega)]; exact h10)]
      by_cases h13 : c = 13
      · subst h13; rfl
      · rw [if_neg (by rw [show (13 : Int) = ((13 : Nat) : Int) from rfl, e 13 (by omega)]; exact h13)]
        by_cases h32 : c = 32
        · subst h32; rfl
        · have h1 : ((c.toNat : Int) == 32) = false := beq_eq_false_iff_ne.mpr (by rw [show (32 : Int) = ((32 : Nat) : Int) from rfl]; exact fun h => h32 ((e 32 (by omega)).1 h))
          rw [h1]
          simp [h9, h10, h13, h32]

/-! spec_l6Words -/
-- plain: Evs Field
def wordsB (s : ByteArray) : List ByteArray := (wordsL blankU [] (B s)).map ofL
theorem spec_words_l0 (s : ByteArray) (hs : s.size ≤ 1048576) : ∀ (m i : Nat) (xs : List ByteArray) (w : ByteArray), i + m = s.size → xs.length ≤ i → w.size ≤ i → Ev (fun k => spec_l6Words.l0 k s xs w (i : Int)) (xs ++ (wordsL blankU (B w) ((B s).drop i)).map ofL) := by
  have hB := B_len s
  have stop : ∀ xs w, Ev (fun k => spec_l6Words.l0 k s xs w (((s.size + 1 : Nat)) : Int)) xs := fun xs w => ev_done fun k => by rw [spec_l6Words.l0, if_neg (by omega)]
  have cut : ∀ (i : Nat) (xs : List ByteArray) (w : ByteArray) (r : List ByteArray), i ≤ s.size → xs.length ≤ i →
      (B w = [] → Ev (fun k => spec_l6Words.l0 k s xs (⟨#[]⟩ : ByteArray) (((i + 1 : Nat)) : Int)) r) → (¬ B w = [] → Ev (fun k => spec_l6Words.l0 k s (xs ++ [w]) (⟨#[]⟩ : ByteArray) (((i + 1 : Nat)) : Int)) r) → Ev (fun k => spec_l6Words.j1 k s xs w (i : Int) false) r := by
    intro i xs w r hi hx h1 h2
    refine Ev.step (fun k => spec_l6Words.j1.eq_2 ..) (ev_if_neg (by decide) ?_)
    rw [wrap_id (x := (i : Int) + 1) (by omega) (by omega), cast_succ]
    by_cases h : B w = []
    · exact ev_if_pos (by rw [toList_B]; exact h) (h1 h)
    · exact ev_if_neg (by rw [toList_B]; exact h) (ev_if_pos (by omega) (h2 h))
  intro m
  induction m with
  | zero =>
    intro i xs w hi hx hw
    obtain rfl : i = s.size := by omega
    have hd : (B s).drop s.size = [] := List.drop_eq_nil_of_le (by omega)
    rw [hd, wordsL]
    refine Ev.step (fun k => spec_l6Words.l0.eq_2 ..) (ev_if_pos (by omega) (ev_if_neg (by omega) ?_))
    refine cut s.size xs w _ (by omega) hx (fun h => ?_) (fun h => ?_)
    · rw [if_pos h, List.map_nil, List.append_nil]; exact stop _ _
    · rw [if_neg h, List.map_cons, List.map_nil, ofL_B]; exact stop _ _
  | succ m ih =>
    intro i xs w hi hx hw
    have hd := drop_cons (B s) 0 i (by omega)
    refine Ev.step (fun k => spec_l6Words.l0.eq_2 ..) (ev_if_pos (by omega) (ev_if_pos (by omega) (ev_if_pos (by omega) ?_)))
    rw [bt_U s i (by omega)]
    obtain ⟨c, hc⟩ : ∃ c, (B s).getD i 0 = c := ⟨_, rfl⟩
    rw [hc]
    refine ev_bind0 (spec_l4Blank_eq c) ?_
    rw [hd, hc, wordsL]
    by_cases hb : blankU c = true
    · rw [hb]
      refine cut i xs w _ (by omega) hx (fun h => ?_) (fun h => ?_)
      · rw [if_pos rfl, if_pos h]
        exact ih (i + 1) xs _ (by omega) (by omega) (by show 0 ≤ _; omega)
      · rw [if_pos rfl, if_neg h]
        have h9 := ih (i + 1) (xs ++ [w]) (⟨#[]⟩ : ByteArray) (by omega) (by rw [List.length_append]; simp only [List.length_cons, List.length_nil]; omega) (by show 0 ≤ _; omega)
        rw [List.map_cons, ofL_B]
        rw [List.append_assoc] at h9
        exact h9
    · rw [Bool.eq_false_iff.2 hb]
      have ex : B (s.extract i (i + 1)) = [c] := by
        rw [B_extract, hd, hc, Nat.add_sub_cancel_left]; rfl
      have sz : (s.extract i (i + 1)).size = 1 := by rw [← B_len, ex]; rfl
      refine Ev.step (fun k => spec_l6Words.j1.eq_2 ..) (ev_if_pos (by decide) ?_)
      rw [wrap_id (x := (i : Int) + 1) (by omega) (by omega), cast_succ, Int.toNat_natCast, Int.toNat_natCast]
      refine ev_if_pos (by omega) (ev_if_pos (by omega) (ev_if_pos (by omega) (ev_if_pos (by rw [sz]; omega) ?_)))
      have hsz : (w ++ s.extract i (i + 1)).size = w.size + 1 := by rw [← B_len, B_append, ex, List.length_append, B_len]; rfl
      have h9 := ih (i + 1) xs (w ++ s.extract i (i + 1)) (by omega) (by omega) (by omega)
      rw [B_append, ex] at h9
      rw [if_neg (by decide)]
      exact h9
theorem spec_l6Words_ev (s : ByteArray) (hs : s.size ≤ 1048576) : Ev (fun k => spec_l6Words.f k s) (wordsB s) := by
  have h := spec_words_l0 s hs s.size 0 [] (⟨#[]⟩ : ByteArray) (by omega) (by simp) (by show 0 ≤ _; omega)
  exact h
theorem wordsB_size (s : ByteArray) (hs : s.size ≤ 1048576) : (wordsB s).length ≤ 1048577 ∧ ∀ x ∈ wordsB s, x.size ≤ 1048576 := by
  have h := wordsL_len blankU (B s) []
  have hB := B_len s
  unfold wordsB
  refine ⟨by rw [List.length_map]; omega, fun x hx => ?_⟩
  obtain ⟨y, hy, rfl⟩ := List.mem_map.1 hx
  have h2 := h.2 y hy
  have h3 := B_len (ofL y)
  rw [B_ofL] at h3
  simp only [List.length_nil] at h2
  omega

/-! spec_l6Has -/
-- plain: Evs
theorem spec_l6Has_ev (l : List ByteArray) (a : ByteArray) (hl : l.length ≤ 9223372036854775807) : Ev (fun k => spec_l6Has.f k l a) (l.any fun x => decide (x.data.toList = a.data.toList)) := by
  refine ev_from l.length (fun i k => spec_l6Has.l0 k a l l.length i) (fun i => (l.drop i).any fun x => decide (x.data.toList = a.data.toList)) ?_ ?_ 0 (by omega)
  · refine ev_done fun k => ?_
    rw [spec_l6Has.l0, if_neg (by omega)]; simp
  · intro i hi h
    by_cases hc : (l.getD i ByteArray.empty).data.toList = a.data.toList
    · refine ev_done fun k => ?_
      rw [spec_l6Has.l0, if_pos (by omega), if_pos (by omega), if_pos (by omega), if_pos (by rw [rdOf_nat, str_eq]; exact hc), drop_cons l ByteArray.empty i hi, List.any_cons, decide_eq_true hc, Bool.true_or]
    · refine Ev.step (fun k => ?_) (by rw [drop_cons l ByteArray.empty i hi, List.any_cons, decide_eq_false hc, Bool.false_or]; exact h)
      rw [spec_l6Has.l0, if_pos (by omega), if_pos (by omega), if_pos (by omega), if_neg (by rw [rdOf_nat, str_eq]; exact hc), wrap_up hi hl]

/-! laws_toAttrS -/
-- plain: Evs
def toAttr (x : S143) : S144 := ⟨x.f0, x.f1⟩
theorem laws_toAttrS_ev (l : List S143) (hn : l.length ≤ 1048576) : Ev (fun k => laws_toAttrS.f k l) (l.map toAttr) := by
  refine Ev.congr (f := fun k => laws_toAttrS.l0 k l (List.replicate l.length z144) 0) (fun k => ?_) ?_
  · unfold laws_toAttrS.f; rw [if_pos (by omega), if_pos (by omega)]; rfl
  · refine ev_up l.length (fun i k => laws_toAttrS.l0 k l ((l.map toAttr).take i ++ List.replicate (l.length - i) z144) i) (l.map toAttr) ?_ ?_
    · refine ev_done fun k => ?_
      rw [laws_toAttrS.l0, if_neg (by omega), List.take_of_length_le (by simp)]; simp
    · intro i hi h
      refine Ev.step (fun k => ?_) h
      have e : (⟨(rd_T143 l (i : Int)).f0, (rd_T143 l (i : Int)).f1⟩ : S144) = (l.map toAttr).getD i z144 := by simp [rd_T143, hi, toAttr]
      rw [laws_toAttrS.l0, if_pos (by omega), if_pos (by omega)]
      simp only [laws_toAttr.f, Option.bind_some]
      rw [if_pos (by simp; omega), e, Int.toNat_natCast, take_set _ _ _ (by simpa using hi) _ (by simp; omega), List.tail_replicate, wrap_up hi (by omega)]
      congr 3

/-! laws_toNode -/
-- plain: Evs
theorem laws_toNode_ev (a0 : ByteArray) (a1 : Int) (l : List S143) (a3 : ByteArray) (hn : l.length ≤ 1048576) : Ev (fun k => laws_toNode.f k a0 a1 l a3) (a0, a1, l.map toAttr, a3) := by
  simp only [laws_toNode.f]
  exact ev_bind (laws_toAttrS_ev l hn) (Ev.now _)

/-! laws_toNodeS -/
-- plain: Evs
def toNode (x : S60) : S69 := ⟨x.f0, x.f1, x.f2.map toAttr, x.f3⟩
theorem laws_toNodeX_ev (x : S60) (hn : x.f2.length ≤ 1048576) : Ev (fun k => laws_toNode.f k x.f0 x.f1 x.f2 x.f3) (x.f0, x.f1, x.f2.map toAttr, x.f3) := laws_toNode_ev x.f0 x.f1 x.f2 x.f3 hn
theorem laws_toNodeS_ev (l : List S60) (hn : l.length ≤ 1048576) (hg : ∀ x ∈ l, x.f2.length ≤ 1048576) : Ev (fun k => laws_toNodeS.f k l) (l.map toNode) := by
  refine Ev.congr (f := fun k => laws_toNodeS.l0 k l (List.replicate l.length z69) 0) (fun k => ?_) ?_
  · unfold laws_toNodeS.f; rw [if_pos (by omega), if_pos (by omega)]; rfl
  · refine ev_up l.length (fun i k => laws_toNodeS.l0 k l ((l.map toNode).take i ++ List.replicate (l.length - i) z69) i) (l.map toNode) ?_ ?_
    · refine ev_done fun k => ?_
      rw [laws_toNodeS.l0, if_neg (by omega), List.take_of_length_le (by simp)]; simp
    · intro i hi h
      have hrd : rd_T60 l (i : Int) = l.getD i z60 := by simp [rd_T60]
      have hmem : l.getD i z60 ∈ l := by rw [List.getD_eq_getElem?_getD, List.getElem?_eq_getElem hi]; exact List.getElem_mem hi
      have e : toNode (l.getD i z60) = (l.map toNode).getD i z69 := by simp [hi]
      refine Ev.step (fun k => by rw [laws_toNodeS.l0, if_pos (by omega), if_pos (by omega), hrd]) ?_
      refine ev_bind (laws_toNodeX_ev (l.getD i z60) (hg _ hmem)) (ev_if_pos (by simp; omega) ?_)
      have e2 := take_set (l.map toNode) z69 i (by simpa using hi) (List.replicate (l.length - i) z69) (by simp; omega)
      rw [← e, List.tail_replicate] at e2
      rw [Int.toNat_natCast, wrap_up hi (by omega)]
      refine Ev.congr (fun k => ?_) h
      rw [show l.length - (i + 1) = l.length - i - 1 by omega, ← e2]
      rfl

/-! laws_toStringS -/
-- plain: Evs
theorem laws_toStringS_ev (l : List ByteArray) (hn : l.length ≤ 1048576) : Ev (fun k => laws_toStringS.f k l) l := by
  refine Ev.congr (f := fun k => laws_toStringS.l0 k l (List.replicate l.length (⟨#[]⟩ : ByteArray)) 0) (fun k => ?_) ?_
  · unfold laws_toStringS.f; rw [if_pos (by omega), if_pos (by omega)]; rfl
  · refine ev_up l.length (fun i k => laws_toStringS.l0 k l (l.take i ++ List.replicate (l.length - i) (⟨#[]⟩ : ByteArray)) i) l ?_ ?_
    · refine ev_done fun k => ?_
      rw [laws_toStringS.l0, if_neg (by omega)]; simp
    · intro i hi h
      refine Ev.step (fun k => ?_) h
      rw [laws_toStringS.l0, if_pos (by omega), if_pos (by omega), if_pos (by simp; omega), wrap_up hi (by omega), rdOf_nat, Int.toNat_natCast, take_set _ _ _ hi _ (by simp; omega), List.tail_replicate]
      congr 3

/-! laws_toPart -/
-- plain: Evs
def toPart (x : S63) : S71 := ⟨x.f0, x.f1, x.f2⟩
theorem laws_toPart_ev (x : S63) (hn : x.f2.length ≤ 1048576) : Ev (fun k => laws_toPart.f k x.f0 x.f1 x.f2) (x.f0, x.f1, x.f2) := by
  simp only [laws_toPart.f]
  exact ev_bind (laws_toStringS_ev x.f2 hn) (Ev.now _)

/-! laws_toPartS -/
-- plain: Evs
theorem laws_toPartS_ev (l : List S63) (hn : l.length ≤ 1048576) (hg : ∀ x ∈ l, x.f2.length ≤ 1048576) : Ev (fun k => laws_toPartS.f k l) (l.map toPart) := by
  refine Ev.congr (f := fun k => laws_toPartS.l0 k l (List.replicate l.length z71) 0) (fun k => ?_) ?_
  · unfold laws_toPartS.f; rw [if_pos (by omega), if_pos (by omega)]; rfl
  · refine ev_up l.length (fun i k => laws_toPartS.l0 k l ((l.map toPart).take i ++ List.replicate (l.length - i) z71) i) (l.map toPart) ?_ ?_
    · refine ev_done fun k => ?_
      rw [laws_toPartS.l0, if_neg (by omega), List.take_of_length_le (by simp)]; simp
    · intro i hi h
      have hrd : rd_T63 l (i : Int) = l.getD i z63 := by simp [rd_T63]
      have hmem : l.getD i z63 ∈ l := by rw [List.getD_eq_getElem?_getD, List.getElem?_eq_getElem hi]; exact List.getElem_mem hi
      have e : toPart (l.getD i z63) = (l.map toPart).getD i z71 := by simp [hi]
      refine Ev.step (fun k => by rw [laws_toPartS.l0, if_pos (by omega), if_pos (by omega), hrd]) ?_
      refine ev_bind (laws_toPart_ev (l.getD i z63) (hg _ hmem)) (ev_if_pos (by simp; omega) ?_)
      have e2 := take_set (l.map toPart) z71 i (by simpa using hi) (List.replicate (l.length - i) z71) (by simp; omega)
      rw [← e, List.tail_replicate] at e2
      rw [Int.toNat_natCast, wrap_up hi (by omega)]
      refine Ev.congr (fun k => ?_) h
      rw [show l.length - (i + 1) = l.length - i - 1 by omega, ← e2]
      rfl

/-! impl_within -/
theorem impl_within_eq (a b c : Int) : impl_within.f a b c = some (decide (b ≤ a ∧ a ≤ c)) := by
  unfold impl_within.f
  split
  · rename_i h; simp [h]
  · rename_i h; simp [h]

/-! impl_badByte -/
-- plain: Evs Mark
theorem impl_mayRune_eq (r : Int) (h1 : r ≤ 1114111) (h2 : r < 55296 ∨ 57343 < r) : impl_mayRune.f r = some (mayR r) := by
  unfold impl_mayRune.f mayR
  rw [impl_within_eq, impl_within_eq]
  simp only [Option.bind_some]
  rw [decide_eq_false (show ¬ (55296 ≤ r ∧ r ≤ 57343) by omega)]
  repeat' split
  all_goals (simp only [Option.some.injEq]; rw [Bool.eq_iff_iff]; simp at *; try omega)
theorem impl_badByte_l0 (s : ByteArray) (hs : s.size ≤ 1048576) : ∀ (n p : Nat), (B s).length - p < n → p ≤ (B s).length → Ev (fun k => impl_badByte.l0 k s (p : Int)) (badFrom (B s) n p) := by
  have hl := B_len s
  intro n
  induction n with
  | zero => intro p h; omega
  | succ n ih =>
    intro p hn hp
    rw [badFrom]
    by_cases h : p < (B s).length
    · rw [if_pos h]
      have hB : B (s.extract p s.size) = (B s).drop p := by rw [B_extract, List.take_of_length_le (by rw [List.length_drop]; omega)]
      have hlen : ((B s).drop p).length = (B s).length - p := List.length_drop
      have hgo := decodeGo_B (s.extract p s.size) (by rw [hB]; omega)
      rw [hB] at hgo
      have hf : utf8_DecodeRuneInString.f (s.extract p s.size) = some (((decP ((B s).drop p)).1 : Int), ((decP ((B s).drop p)).2 : Int)) := by
        unfold utf8_DecodeRuneInString.f; rw [hgo]
      have hw := decP_width ((B s).drop p) (by omega)
      have hm := decP_may ((B s).drop p)
      have hR : runeP ((B s).drop p) = fixR (decP ((B s).drop p)) := rfl
      rw [hR]
      refine Ev.step (fun k => impl_badByte.l0.eq_2 ..) (ev_if_pos (by omega) (ev_if_pos (by omega) (ev_if_pos (by omega) (ev_bind0 hf ?_))))
      clear hf hgo hR
      generalize decP ((B s).drop p) = d at *
      obtain ⟨x, w⟩ := d
      simp only at hw hm ⊢
      have go (hne : ¬ (x = 65533 ∧ w = 1)) : Ev (fun k => (impl_mayRune.f (wrap64 (x : Int))).bind fun t174 => (if t174 = true then (impl_badByte.l0 k s (wrap64 ((p : Int) + (w : Int)))) else (some (p : Int)))) (if mayR (fixR (x, w)).1 = true then badFrom (B s) n (p + (fixR (x, w)).2.toNat) else (p : Int)) := by
        rw [fixR_ok (d := (x, w)) rfl hne, wrap_id (x := (x : Int)) (by omega) (by omega)]
        refine ev_bind0 (impl_mayRune_eq _ (by omega) (by omega)) ?_
        simp only
        by_cases hc : mayR (x : Int) = true
        · rw [if_pos hc]
          refine ev_if_pos hc ?_
          rw [wrap_id (x := (p : Int) + (w : Int)) (by omega) (by omega), show (p : Int) + (w : Int) = ((p + (w : Int).toNat : Nat) : Int) by omega]
          exact ih _ (by omega) (by omega)
        · rw [if_neg hc]; exact ev_if_neg hc (Ev.now _)
      by_cases h1 : x = 65533
      · refine ev_if_pos (by omega) ?_
        by_cases h2 : w = 1
        · refine ev_if_pos (by omega) ?_
          rw [fixR_bad (d := (x, w)) (by rw [h1, h2])]
          exact Ev.now _
        · exact ev_if_neg (by omega) (go (fun hh => h2 hh.2))
      · exact ev_if_neg (by omega) (go (fun hh => h1 hh.1))
    · rw [if_neg h]
      exact Ev.step (fun k => impl_badByte.l0.eq_2 ..) (ev_if_neg (by omega) (Ev.now _))
theorem impl_badByte_ev (s : ByteArray) (hs : s.size ≤ 1048576) : Ev (fun k => impl_badByte.f k s) (badP (B s)) := impl_badByte_l0 s hs _ 0 (by omega) (by omega)

/-! impl_isDigit -/
-- plain: Word
theorem impl_isDigit_eq (c : Int) : impl_isDigit.f c = some (digI c) := by
  unfold impl_isDigit.f digI
  split
  · rename_i h; congr 1; rw [decide_eq_decide]; omega
  · rename_i h; congr 1; rw [eq_comm, decide_eq_false_iff_not]; omega

/-! impl_isLetter -/
-- plain: Word
theorem impl_isLetter_eq (c : Int) : impl_isLetter.f c = some (ltrI c) := by
  unfold impl_isLetter.f ltrI
  split
  · split
    · congr 1; rw [eq_comm, decide_eq_true_iff]; omega
    · split
      · congr 1; rw [decide_eq_decide]; omega
      · congr 1; rw [eq_comm, decide_eq_false_iff_not]; omega
  · split
    · congr 1; rw [decide_eq_decide]; omega
    · congr 1; rw [eq_comm, decide_eq_false_iff_not]; omega

/-! impl_mayBegin -/
-- plain: Mark
theorem impl_mayBegin_eq (c : Int) : impl_mayBegin.f c = some (nmBI c) := by
  unfold impl_mayBegin.f nmBI
  rw [impl_isLetter_eq, Option.bind_some]
  cases ltrI c with
  | true => rfl
  | false => rw [if_neg (by decide)]; simp only [Option.some.injEq]; rw [Bool.eq_iff_iff]; simp

/-! impl_isName -/
-- plain: Evs Mark
theorem nameEnd_l0 (s : ByteArray) (hs : s.size ≤ 1048576) : Ev (fun k => impl_nameEnd.l0 k s 0) ((runEnd nmU (B s) 0 : Nat) : Int) := by
  have hl := B_len s
  have key := ev_from (B s).length (fun i k => impl_nameEnd.l0 k s (i : Int)) (fun i => ((runEnd nmU (B s) i : Nat) : Int)) ?_ ?_ 0 (by omega)
  · exact key
  · rw [runEnd_end nmU (B s) _ (by omega)]
    exact Ev.step (fun k => impl_nameEnd.l0.eq_2 ..) (ev_if_neg (by omega) (Ev.now _))
  · intro i hi h
    refine Ev.step (fun k => impl_nameEnd.l0.eq_2 ..) (ev_if_pos (by omega) (ev_if_pos (by omega) ?_))
    rw [bt_U s i hi, wrap_id (x := (i : Int) + 1) (by omega) (by omega), cast_succ]
    have yes (hc : nmU ((B s).getD i 0) = true) : Ev (fun k => impl_nameEnd.l0 k s ((i + 1 : Nat) : Int)) ((runEnd nmU (B s) i : Nat) : Int) := by
      rw [runEnd_yes nmU (B s) i hi hc]; exact h
    have hU : nmU ((B s).getD i 0) = (nmBI (((B s).getD i 0).toNat : Int) || digI (((B s).getD i 0).toNat : Int) || decide ((((B s).getD i 0).toNat : Int) = 45) || decide ((((B s).getD i 0).toNat : Int) = 58) || decide ((((B s).getD i 0).toNat : Int) = 46)) := rfl
    refine ev_bind0 (impl_mayBegin_eq _) ?_
    by_cases h1 : nmBI (((B s).getD i 0).toNat : Int) = true
    · exact ev_if_pos h1 (yes (by rw [hU, h1]; rfl))
    refine ev_if_neg h1 (ev_bind0 (impl_isDigit_eq _) ?_)
    by_cases h2 : digI (((B s).getD i 0).toNat : Int) = true
    · exact ev_if_pos h2 (yes (by rw [hU, h2]; simp))
    refine ev_if_neg h2 ?_
    by_cases h3 : (((B s).getD i 0).toNat : Int) = 45
    · exact ev_if_pos h3 (yes (by rw [hU, decide_eq_true h3]; simp))
    refine ev_if_neg h3 ?_
    by_cases h4 : (((B s).getD i 0).toNat : Int) = 58
    · exact ev_if_pos h4 (yes (by rw [hU, decide_eq_true h4]; simp))
    refine ev_if_neg h4 ?_
    by_cases h5 : (((B s).getD i 0).toNat : Int) = 46
    · exact ev_if_pos h5 (yes (by rw [hU, decide_eq_true h5]; simp))
    refine ev_if_neg h5 ?_
    rw [runEnd_no nmU (B s) i hi (by rw [hU, Bool.eq_false_iff.mpr h1, Bool.eq_false_iff.mpr h2, decide_eq_false h3, decide_eq_false h4, decide_eq_false h5]; decide)]
    exact Ev.now _
theorem impl_isName_ev (s : ByteArray) (hs : s.size ≤ 1048576) : Ev (fun k => impl_isName.f k s) (isNameL (B s)) := by
  have hl := B_len s
  simp only [impl_isName.f]
  refine ev_bind0 (impl_within_eq _ _ _) ?_
  unfold isNameL
  by_cases h : 1 ≤ (B s).length ∧ (B s).length ≤ 30
  · rw [decide_eq_true h, Bool.true_and]
    refine ev_if_pos (decide_eq_true (by omega)) ?_
    have hend : Ev (fun k => impl_nameEnd.f k s 0) (if nmB ((B s).getD 0 0) = true then ((runEnd nmU (B s) 0 : Nat) : Int) else 0) := by
      simp only [impl_nameEnd.f]
      refine ev_if_neg (by omega) (ev_if_pos (by omega) (ev_if_pos (by omega) ?_))
      rw [show bt s 0 = _ from bt_U s 0 (by omega)]
      refine ev_bind0 (impl_mayBegin_eq _) (Ev.step (fun k => impl_nameEnd.j0.eq_2 ..) ?_)
      by_cases hc : nmB ((B s).getD 0 0) = true
      · rw [if_pos hc]
        exact ev_if_neg (by show ¬ (!nmB ((B s).getD 0 0)) = true; rw [hc]; decide) (nameEnd_l0 s hs)
      · rw [if_neg hc]
        exact ev_if_pos (by show (!nmB ((B s).getD 0 0)) = true; rw [Bool.eq_false_iff.mpr hc]; rfl) (Ev.now _)
    refine ev_bind hend ?_
    by_cases hc : nmB ((B s).getD 0 0) = true
    · rw [if_pos hc, hc, Bool.true_and]
      have e : ((((runEnd nmU (B s) 0 : Nat) : Int) == (s.size : Int)) : Bool) = (B s).all nmU := by
        have := runEnd_all nmU (B s)
        rw [Bool.eq_iff_iff, ← this, beq_iff_eq]; omega
      rw [e]; exact Ev.now _
    · rw [if_neg hc, Bool.eq_false_iff.mpr hc, Bool.false_and]
      have e : (((0 : Int) == (s.size : Int)) : Bool) = false := beq_eq_false_iff_ne.mpr (by omega)
      rw [e]; exact Ev.now _
  · rw [decide_eq_false h, Bool.false_and, Bool.false_and]
    exact ev_if_neg (by rw [decide_eq_false (by omega)]; decide) (Ev.now _)

/-! impl_wordEnd -/
-- plain: Word
theorem impl_wordEnd_l0_ev (s : ByteArray) (hs : s.size ≤ 9223372036854775806) (i : Nat) : Ev (fun k => impl_wordEnd.l0 k s i) ((runEnd wordU (B s) i : Nat) : Int) := by
  have hl := B_len s
  by_cases hi0 : i ≤ (B s).length
  · refine ev_from (B s).length (fun i k => impl_wordEnd.l0 k s i) (fun i => ((runEnd wordU (B s) i : Nat) : Int)) ?_ ?_ i hi0
    · refine ev_done fun k => ?_
      rw [impl_wordEnd.l0, if_neg (by omega), runEnd_end _ _ _ (Nat.le_refl _)]
    · intro i hi h
      have hb := bt_U s i hi
      by_cases hp : wordU ((B s).getD i 0) = true
      · rw [runEnd_yes _ _ _ hi hp]
        refine Ev.step (fun k => ?_) h
        rw [impl_wordEnd.l0, if_pos (by omega), if_pos (by omega), impl_isLetter_eq, Option.bind_some, impl_isDigit_eq, Option.bind_some, hb, wrap_up hi (by omega)]
        unfold wordU wordI at hp
        by_cases c1 : ltrI (((B s).getD i 0).toNat : Int) = true
        · rw [if_pos c1]
        · rw [if_neg c1]
          by_cases c2 : digI (((B s).getD i 0).toNat : Int) = true
          · rw [if_pos c2]
          · rw [if_neg c2]
            by_cases c3 : (((B s).getD i 0).toNat : Int) = 95
            · rw [if_pos c3]
            · rw [if_neg c3, if_pos]
              simp only [Bool.not_eq_true] at c1 c2
              rw [c1, c2, decide_eq_false c3] at hp
              simpa using hp
      · refine ev_done fun k => ?_
        rw [impl_wordEnd.l0, if_pos (by omega), if_pos (by omega), impl_isLetter_eq, Option.bind_some, impl_isDigit_eq, Option.bind_some, hb, runEnd_no _ _ _ hi hp]
        unfold wordU wordI at hp
        simp only [Bool.or_eq_true, not_or, decide_eq_true_iff] at hp
        rw [if_neg hp.1.1.1, if_neg hp.1.1.2, if_neg hp.1.2, if_neg hp.2]
  · refine ev_done fun k => ?_
    rw [impl_wordEnd.l0, if_neg (by omega), runEnd_end _ _ _ (by omega)]
def wordEndL (l : List UInt8) (i : Nat) : Nat := if i < l.length ∧ digU (l.getD i 0) = true then i else runEnd wordU l i
theorem impl_wordEnd_ev (s : ByteArray) (hs : s.size ≤ 9223372036854775806) (i : Nat) : Ev (fun k => impl_wordEnd.f k s i) ((wordEndL (B s) i : Nat) : Int) := by
  have hl := B_len s
  simp only [impl_wordEnd.f]
  unfold wordEndL
  by_cases hi : i < (B s).length
  · refine ev_if_pos (by omega) (ev_if_pos (by omega) ?_)
    rw [impl_isDigit_eq, bt_U s i hi]
    simp only [Option.bind_some]
    by_cases hd : digU ((B s).getD i 0) = true
    · rw [if_pos ⟨hi, hd⟩]
      refine Ev.step (fun k => impl_wordEnd.j0.eq_2 ..) (ev_if_pos hd (Ev.now _))
    · rw [if_neg (fun h => hd h.2)]
      refine Ev.step (fun k => impl_wordEnd.j0.eq_2 ..) (ev_if_neg hd (impl_wordEnd_l0_ev s hs i))
  · rw [if_neg (fun h => hi h.1)]
    refine ev_if_neg (by omega) (Ev.step (fun k => impl_wordEnd.j0.eq_2 ..) (ev_if_neg (by decide) (impl_wordEnd_l0_ev s hs i)))

/-! impl_isWord -/
-- plain: Word
theorem wordEnd_word (l : List UInt8) : (decide (1 ≤ l.length ∧ l.length ≤ 30) && decide (wordEndL l 0 = l.length)) = isWordL l := by
  unfold isWordL wordEndL
  have ha := runEnd_all wordU l
  by_cases h0 : 1 ≤ l.length ∧ l.length ≤ 30
  · rw [decide_eq_true h0, Bool.true_and, Bool.true_and]
    cases hd : digU (l.getD 0 0) with
    | true =>
      rw [if_pos ⟨by omega, rfl⟩]
      simp only [Bool.not_true, Bool.false_and]
      rw [decide_eq_false_iff_not]; omega
    | false =>
      rw [if_neg (fun h => by simp at h)]
      simp only [Bool.not_false, Bool.true_and]
      rw [Bool.eq_iff_iff, decide_eq_true_iff]; exact ha
  · rw [decide_eq_false h0]; simp
theorem impl_isWord_ev (s : ByteArray) (hs : s.size ≤ 9223372036854775806) : Ev (fun k => impl_isWord.f k s) (isWordL (B s)) := by
  have hl := B_len s
  simp only [impl_isWord.f]
  rw [← wordEnd_word, impl_within_eq]
  simp only [Option.bind_some]
  by_cases h : 1 ≤ (B s).length ∧ (B s).length ≤ 30
  · refine ev_if_pos (by rw [decide_eq_true_iff]; omega) (ev_bind (impl_wordEnd_ev s hs 0) ?_)
    have e : (decide (1 ≤ (B s).length ∧ (B s).length ≤ 30) && decide (wordEndL (B s) 0 = (B s).length)) = (((wordEndL (B s) 0 : Nat) : Int) == (s.size : Int)) := by
      rw [decide_eq_true h, Bool.true_and, Bool.eq_iff_iff, decide_eq_true_iff, beq_iff_eq]; omega
    rw [e]; exact Ev.now _
  · refine ev_if_neg (by rw [decide_eq_true_iff]; omega) ?_
    rw [decide_eq_false h, Bool.false_and]; exact Ev.now _

/-! impl_isPart -/
-- plain: Word
theorem impl_isPart_j1_ev (t : Bool) (a b : ByteArray) (c : List ByteArray) (ha : a.size ≤ 1048576) (hb : b.size ≤ 1048576) : Ev (fun k => impl_isPart.j1 k t a b c) (!t && (typeOkL (B a) && idOkL (B b))) := by
  have rest : Ev (fun k => if b.toList = ([] : List UInt8) then (some true) else ((impl_isWord.f k b).bind fun t => (some t))) (idOkL (B b)) := by
    by_cases h : B b = []
    · have hi : idOkL (B b) = true := by unfold idOkL; rw [h]; rfl
      rw [hi]; exact ev_if_pos (by rw [toList_B]; exact h) (Ev.now _)
    · have hi : idOkL (B b) = isWordL (B b) := by unfold idOkL; rw [decide_eq_false h, Bool.false_or]
      rw [hi]; exact ev_if_neg (by rw [toList_B]; exact h) (ev_bind (impl_isWord_ev b (by omega)) (Ev.now _))
  refine Ev.step (fun k => impl_isPart.j1.eq_2 ..) ?_
  cases t with
  | true => exact ev_if_pos rfl (Ev.now _)
  | false =>
    refine ev_if_neg (by decide) ?_
    rw [Bool.not_false, Bool.true_and]
    by_cases h0 : B a = []
    · have ht : typeOkL (B a) = true := by unfold typeOkL; rw [h0]; rfl
      rw [ht, Bool.true_and]; exact ev_if_pos (by rw [toList_B]; exact h0) rest
    · refine ev_if_neg (by rw [toList_B]; exact h0) ?_
      by_cases hs : B a = [42]
      · have ht : typeOkL (B a) = true := by unfold typeOkL; rw [hs]; rfl
        rw [ht, Bool.true_and]; exact ev_if_pos (by rw [toList_B]; exact hs) rest
      · have ht : typeOkL (B a) = isWordL (B a) := by unfold typeOkL; rw [decide_eq_false h0, decide_eq_false hs]; simp
        refine ev_if_neg (by rw [toList_B]; exact hs) (ev_bind (impl_isWord_ev a (by omega)) ?_)
        rw [ht]
        cases isWordL (B a) with
        | true => rw [Bool.true_and]; exact ev_if_pos rfl rest
        | false => exact ev_if_neg (by decide) (Ev.now _)
theorem impl_isPart_ev (x : S71) (hx : sizesPart x) : Ev (fun k => impl_isPart.f k x.f0 x.f1 x.f2) (partOk x) := by
  obtain ⟨a, b, c⟩ := x
  obtain ⟨h0, h1, h2, h3⟩ := hx
  simp only at h0 h1 h2 h3
  have hle : (!(decide ((c.length : Int) > 4))) = decide (c.length ≤ 4) := by rw [Bool.eq_iff_iff]; simp; omega
  have e : partOk ⟨a, b, c⟩ = (c.all (fun y => isWordL (B y)) && ((!decide (B a = []) || !decide (B b = []) || decide (0 < c.length)) && decide (c.length ≤ 4) && (typeOkL (B a) && idOkL (B b)))) := by
    unfold partOk
    simp only
    generalize typeOkL (B a) = p; generalize idOkL (B b) = q; generalize decide (c.length ≤ 4) = r; generalize c.all (fun y => isWordL (B y)) = s; generalize decide (B a = []) = t; generalize decide (B b = []) = u; generalize decide (0 < c.length) = v
    cases p <;> cases q <;> cases r <;> cases s <;> cases t <;> cases u <;> cases v <;> rfl
  rw [e]
  refine ev_from c.length (fun i k => impl_isPart.l0 k c c.length i a b c) (fun i => (c.drop i).all (fun y => isWordL (B y)) && ((!decide (B a = []) || !decide (B b = []) || decide (0 < c.length)) && decide (c.length ≤ 4) && (typeOkL (B a) && idOkL (B b)))) ?_ ?_ 0 (by omega)
  · refine Ev.step (fun k => by rw [impl_isPart.l0, if_neg (by omega), toList_B, toList_B]) ?_
    simp only [List.drop_length, List.all_nil, Bool.true_and]
    have j := fun t => impl_isPart_j1_ev t a b c h0 h1
    by_cases ha : B a = []
    · refine ev_if_pos ha ?_
      by_cases hb : B b = []
      · refine ev_if_pos hb ?_
        by_cases hc : (c.length : Int) = 0
        · refine ev_if_pos hc ?_
          rw [decide_eq_true ha, decide_eq_true hb, decide_eq_false (p := 0 < c.length) (by omega)]
          exact j true
        · refine ev_if_neg hc ?_
          rw [decide_eq_true ha, decide_eq_true hb, decide_eq_true (p := 0 < c.length) (by omega), ← hle]
          exact j _
      · refine ev_if_neg hb ?_
        rw [decide_eq_true ha, decide_eq_false hb, ← hle]
        exact j _
    · refine ev_if_neg ha ?_
      rw [decide_eq_false ha, ← hle]
      exact j _
  · intro i hi h
    have hmem : c.getD i ByteArray.empty ∈ c := by rw [List.getD_eq_getElem?_getD, List.getElem?_eq_getElem hi]; exact List.getElem_mem hi
    have hz := h3 _ hmem
    rw [drop_cons c ByteArray.empty i hi, List.all_cons]
    refine Ev.step (fun k => by rw [impl_isPart.l0, if_pos (by omega), if_pos (by omega), if_pos (by omega), rdOf_nat]) ?_
    refine ev_bind (impl_isWord_ev _ (by omega)) ?_
    cases isWordL (B (c.getD i ByteArray.empty)) with
    | true => refine ev_if_pos rfl ?_; rw [wrap_up hi (by omega), Bool.true_and]; exact h
    | false => refine ev_if_neg (by decide) ?_; rw [Bool.false_and, Bool.false_and]; exact Ev.now _

/-! impl_isSelector -/
-- plain: Word
theorem impl_isSelector_ev (l : List S71) (hl : l.length ≤ 1048576) (hg : ∀ x ∈ l, sizesPart x) : Ev (fun k => impl_isSelector.f k l) (selOk l) := by
  have e : selOk l = (l.all partOk && decide (1 ≤ (l.length : Int) ∧ (l.length : Int) ≤ 5)) := by
    unfold selOk; rw [Bool.and_comm]; congr 1; rw [decide_eq_decide]; omega
  rw [e]
  refine ev_from l.length (fun i k => impl_isSelector.l0 k l l l.length i) (fun i => (l.drop i).all partOk && decide (1 ≤ (l.length : Int) ∧ (l.length : Int) ≤ 5)) ?_ ?_ 0 (by omega)
  · refine ev_done fun k => ?_
    rw [impl_isSelector.l0, if_neg (by omega), impl_within_eq, Option.bind_some]; simp
  · intro i hi hh
    have hrd : rd_T71 l (i : Int) = l.getD i z71 := by simp [rd_T71]
    have hmem : l.getD i z71 ∈ l := by rw [List.getD_eq_getElem?_getD, List.getElem?_eq_getElem hi]; exact List.getElem_mem hi
    rw [drop_cons l z71 i hi, List.all_cons]
    refine Ev.step (fun k => by rw [impl_isSelector.l0, if_pos (by omega), if_pos (by omega), if_pos (by omega), hrd]) ?_
    refine ev_bind (impl_isPart_ev _ (hg _ hmem)) ?_
    cases partOk (l.getD i z71) with
    | true => refine ev_if_pos rfl ?_; rw [wrap_up hi (by omega), Bool.true_and]; exact hh
    | false => refine ev_if_neg (by decide) ?_; rw [Bool.false_and, Bool.false_and]; exact Ev.now _

/-! impl_AttrOf -/
-- plain: Evs
theorem impl_AttrOf_ev (n : ByteArray) (u : Int) (l : List S144) (t : ByteArray) (a : ByteArray) (hl : l.length ≤ 9223372036854775807) : Ev (fun k => impl_AttrOf.f k n u l t a) (attrFind l a) := by
  refine Ev.congr (f := fun k => impl_AttrOf.l0 k a l l.length 0) (fun k => rfl) ?_
  refine ev_from l.length (fun i k => impl_AttrOf.l0 k a l l.length i) (fun i => attrTold ((l.drop i).find? fun x => decide (x.f0.data.toList = a.data.toList))) ?_ ?_ 0 (by omega)
  · refine ev_done fun k => ?_
    rw [impl_AttrOf.l0, if_neg (by omega)]; simp [attrTold]
  · intro i hi h
    have hrd : rd_T144 l (i : Int) = l.getD i z144 := by simp [rd_T144]
    by_cases hc : (l.getD i z144).f0.data.toList = a.data.toList
    · refine ev_done fun k => ?_
      rw [impl_AttrOf.l0, if_pos (by omega), if_pos (by omega), if_pos (by omega), hrd, if_pos (by rw [str_eq]; exact hc), drop_cons l z144 i hi, List.find?_cons, decide_eq_true hc]
      rfl
    · refine Ev.step (fun k => ?_) (by rw [drop_cons l z144 i hi, List.find?_cons, decide_eq_false hc]; exact h)
      rw [impl_AttrOf.l0, if_pos (by omega), if_pos (by omega), if_pos (by omega), hrd, if_neg (by rw [str_eq]; exact hc), wrap_up hi hl]

/-! impl_fields -/
-- plain: Evs Field
theorem impl_fields_eq (s : ByteArray) (hs : s.size ≤ 1048576) : impl_fields.f s = some ((wordsL blankU [] (B s)).map ofL) := by
  unfold impl_fields.f
  rw [if_pos (by omega), fields_words blankR blankU ?_ ?_ blankU_far]
  · intro x hx
    unfold blankR
    rw [beq_eq_false_iff_ne.mpr (by omega : x ≠ 9), beq_eq_false_iff_ne.mpr (by omega : x ≠ 10), beq_eq_false_iff_ne.mpr (by omega : x ≠ 13), beq_eq_false_iff_ne.mpr (by omega : x ≠ 32)]
    rfl
  · intro c _
    rw [blankU_rune]; rfl

/-! slices_Contains_string_string -/
-- plain: Evs
theorem slices_Index_s_ev (l : List ByteArray) (a : ByteArray) (hl : l.length ≤ 9223372036854775807) : ∀ (m i : Nat), i + m = l.length → ∃ r, Ev (fun k => slices_Index_string_string.l0 k l a (l.length : Int) (i : Int)) r ∧ decide (r ≥ 0) = (l.drop i).any (fun x => decide (x.data.toList = a.data.toList)) := by
  intro m
  induction m with
  | zero =>
    intro i hi
    refine ⟨-1, ev_done fun k => by rw [slices_Index_string_string.l0, if_neg (by omega)], ?_⟩
    rw [List.drop_eq_nil_of_le (by omega)]; rfl
  | succ m ih =>
    intro i hi
    rw [drop_cons l ByteArray.empty i (by omega), List.any_cons]
    by_cases hc : (l.getD i ByteArray.empty).data.toList = a.data.toList
    · refine ⟨(i : Int), ev_done fun k => ?_, ?_⟩
      · rw [slices_Index_string_string.l0, if_pos (by omega), if_pos (by omega), if_pos (by omega), if_pos (by rw [rdOf_nat, str_eq]; exact hc.symm)]
      · rw [decide_eq_true hc, Bool.true_or]; exact decide_eq_true (by omega)
    · obtain ⟨r, h1, h2⟩ := ih (i + 1) (by omega)
      refine ⟨r, Ev.step (fun k => ?_) h1, ?_⟩
      · rw [slices_Index_string_string.l0, if_pos (by omega), if_pos (by omega), if_pos (by omega), if_neg (by rw [rdOf_nat, str_eq]; exact fun h => hc h.symm), wrap_up (by omega : i < l.length) hl]
      · rw [decide_eq_false hc, Bool.false_or]; exact h2
theorem slices_Contains_s_ev (l : List ByteArray) (a : ByteArray) (hl : l.length ≤ 9223372036854775807) : Ev (fun k => slices_Contains_string_string.f k l a) (l.any fun x => decide (x.data.toList = a.data.toList)) := by
  obtain ⟨r, h1, h2⟩ := slices_Index_s_ev l a hl l.length 0 (by omega)
  rw [List.drop_zero] at h2
  rw [← h2]
  simp only [slices_Contains_string_string.f]
  exact ev_bind h1 (Ev.now _)

/-! laws_eqAttrS -/
-- plain: Evs
theorem laws_eqAttrS_same (l : List S144) (hn : l.length ≤ 9223372036854775807) : Ev (fun k => laws_eqAttrS.f k l l) true := by
  refine Ev.congr (f := fun k => laws_eqAttrS.l0 k l l 0) (fun k => ?_) ?_
  · unfold laws_eqAttrS.f; rw [if_pos rfl]
  · refine ev_up l.length (fun i k => laws_eqAttrS.l0 k l l i) true ?_ ?_
    · refine ev_done fun k => ?_
      rw [laws_eqAttrS.l0, if_neg (by omega)]
    · intro i hi h
      refine Ev.step (fun k => ?_) h
      rw [laws_eqAttrS.l0, if_pos (by omega), if_pos (by omega), if_pos (by omega)]
      unfold laws_eqAttr.f
      rw [if_pos rfl, if_pos rfl, Option.bind_some, if_pos rfl, wrap_up hi (by omega)]

/-! laws_eqNode -/
-- plain: Evs
theorem laws_eqNode_same (a0 : ByteArray) (a1 : Int) (l : List S144) (a3 : ByteArray) (hn : l.length ≤ 9223372036854775807) : Ev (fun k => laws_eqNode.f k a0 a1 l a3 a0 a1 l a3) true := by
  simp only [laws_eqNode.f]
  exact ev_if_pos trivial (ev_if_pos trivial (ev_bind (laws_eqAttrS_same l hn) (ev_if_pos rfl (ev_if_pos trivial (Ev.now _)))))

/-! laws_eqNodeS -/
-- plain: Evs
theorem laws_eqNodeS_same (l : List S69) (hn : l.length ≤ 9223372036854775807) (hg : ∀ x ∈ l, x.f2.length ≤ 9223372036854775807) : Ev (fun k => laws_eqNodeS.f k l l) true := by
  refine Ev.congr (f := fun k => laws_eqNodeS.l0 k l l 0) (fun k => ?_) ?_
  · unfold laws_eqNodeS.f; rw [if_pos rfl]
  · refine ev_up l.length (fun i k => laws_eqNodeS.l0 k l l i) true ?_ ?_
    · refine ev_done fun k => ?_
      rw [laws_eqNodeS.l0, if_neg (by omega)]
    · intro i hi h
      have hrd : rd_T69 l (i : Int) = l.getD i z69 := by simp [rd_T69]
      have hmem : l.getD i z69 ∈ l := by rw [List.getD_eq_getElem?_getD, List.getElem?_eq_getElem hi]; exact List.getElem_mem hi
      refine Ev.step (fun k => by rw [laws_eqNodeS.l0, if_pos (by omega), if_pos (by omega), if_pos (by omega), hrd]) ?_
      refine ev_bind (laws_eqNode_same _ _ _ _ (hg _ hmem)) (ev_if_pos rfl ?_)
      rw [wrap_up hi (by omega)]; exact h

/-! laws_eqStringS -/
-- plain: Evs
theorem laws_eqStringS_same (l : List ByteArray) (hn : l.length ≤ 9223372036854775807) : Ev (fun k => laws_eqStringS.f k l l) true := by
  refine Ev.congr (f := fun k => laws_eqStringS.l0 k l l 0) (fun k => ?_) ?_
  · unfold laws_eqStringS.f; rw [if_pos rfl]
  · refine ev_up l.length (fun i k => laws_eqStringS.l0 k l l i) true ?_ ?_
    · refine ev_done fun k => ?_
      rw [laws_eqStringS.l0, if_neg (by omega)]
    · intro i hi h
      refine Ev.step (fun k => ?_) h
      rw [laws_eqStringS.l0, if_pos (by omega), if_pos (by omega), if_pos (by omega), if_pos rfl, wrap_up hi (by omega)]

/-! laws_eqPart -/
-- plain: Evs
theorem laws_eqPart_same (a b : ByteArray) (l : List ByteArray) (hn : l.length ≤ 9223372036854775807) : Ev (fun k => laws_eqPart.f k a b l a b l) true := by
  simp only [laws_eqPart.f]
  exact ev_if_pos trivial (ev_if_pos trivial (ev_bind (laws_eqStringS_same l hn) (ev_if_pos rfl (Ev.now _))))

/-! laws_eqPartS -/
-- plain: Evs
theorem laws_eqPartS_same (l : List S71) (hn : l.length ≤ 9223372036854775807) (hg : ∀ x ∈ l, x.f2.length ≤ 9223372036854775807) : Ev (fun k => laws_eqPartS.f k l l) true := by
  refine Ev.congr (f := fun k => laws_eqPartS.l0 k l l 0) (fun k => ?_) ?_
  · unfold laws_eqPartS.f; rw [if_pos rfl]
  · refine ev_up l.length (fun i k => laws_eqPartS.l0 k l l i) true ?_ ?_
    · refine ev_done fun k => ?_
      rw [laws_eqPartS.l0, if_neg (by omega)]
    · intro i hi h
      have hrd : rd_T71 l (i : Int) = l.getD i z71 := by simp [rd_T71]
      have hmem : l.getD i z71 ∈ l := by rw [List.getD_eq_getElem?_getD, List.getElem?_eq_getElem hi]; exact List.getElem_mem hi
      refine Ev.step (fun k => by rw [laws_eqPartS.l0, if_pos (by omega), if_pos (by omega), if_pos (by omega), hrd]) ?_
      refine ev_bind (laws_eqPart_same _ _ _ (hg _ hmem)) (ev_if_pos rfl ?_)
      rw [wrap_up hi (by omega)]; exact h

/-! nodesizes -/
-- plain: Word
theorem totAttr_mem (l : List S143) : ∀ x ∈ l, totAttr x ≤ (l.map totAttr).sum := by
  induction l with
  | nil => intro x hx; simp at hx
  | cons y l ih =>
    intro x hx
    rw [List.map_cons, List.sum_cons]
    have := totAttrS_parts l
    have := totAttr_nonneg y
    rcases List.mem_cons.1 hx with rfl | hx
    · omega
    · have := ih x hx; omega
theorem totNode_mem (l : List S60) : ∀ x ∈ l, totNode x ≤ (l.map totNode).sum := by
  induction l with
  | nil => intro x hx; simp at hx
  | cons y l ih =>
    intro x hx
    rw [List.map_cons, List.sum_cons]
    have := totNodeS_parts l
    have := totNode_nonneg y
    rcases List.mem_cons.1 hx with rfl | hx
    · omega
    · have := ih x hx; omega
/-- sizes of a node. -/
def sizesNode (x : S69) : Prop := x.f0.size ≤ 1048576 ∧ (-9223372036854775808 ≤ x.f1 ∧ x.f1 ≤ 9223372036854775807) ∧ x.f2.length ≤ 1048576 ∧ (∀ y ∈ x.f2, y.f0.size ≤ 1048576 ∧ y.f1.size ≤ 1048576) ∧ x.f3.size ≤ 1048576
theorem nodes_of (l : List S60) (h : totNodeS l ≤ 1048576) (hg : ∀ x ∈ l, goodNodeIn x) : l.length ≤ 1048576 ∧ (∀ x ∈ l, x.f2.length ≤ 1048576) ∧ ∀ x ∈ l.map toNode, sizesNode x := by
  unfold totNodeS at h
  have h0 := totNodeS_parts l
  have key : ∀ x ∈ l, x.f0.size ≤ 1048576 ∧ x.f2.length ≤ 1048576 ∧ (∀ y ∈ x.f2, y.f0.size ≤ 1048576 ∧ y.f1.size ≤ 1048576) ∧ x.f3.size ≤ 1048576 := by
    intro x hx
    have h1 := totNode_mem l x hx
    have hd : totNode x = (x.f0.size : Int) + ((x.f2.length : Int) + (x.f2.map totAttr).sum) + (x.f3.size : Int) := rfl
    have h2 := totAttrS_parts x.f2
    refine ⟨by omega, by omega, fun y hy => ?_, by omega⟩
    have h3 := totAttr_mem x.f2 y hy
    have h4 : totAttr y = (y.f0.size : Int) + (y.f1.size : Int) := rfl
    omega
  refine ⟨by omega, fun x hx => (key x hx).2.1, fun x hx => ?_⟩
  obtain ⟨y, hy, rfl⟩ := List.mem_map.1 hx
  obtain ⟨k0, k1, k2, k3⟩ := key y hy
  have hw := wf_i64 (hg y hy).2.1
  refine ⟨k0, ⟨hw.1, hw.2⟩, by simpa [toNode] using k1, fun z hz => ?_, k3⟩
  obtain ⟨u, hu, rfl⟩ := List.mem_map.1 hz
  exact k2 u hu

/-! partsizes -/
-- plain: Word
theorem totStr_mem (l : List ByteArray) : ∀ x ∈ l, (x.size : Int) ≤ (l.map totStr).sum := by
  induction l with
  | nil => intro x hx; simp at hx
  | cons y l ih =>
    intro x hx
    rw [List.map_cons, List.sum_cons]
    have := totStringS_parts l
    have hy : 0 ≤ totStr y := by unfold totStr; omega
    rcases List.mem_cons.1 hx with rfl | hx
    · have : totStr x = (x.size : Int) := rfl
      omega
    · have := ih x hx; omega
theorem totPart_mem (l : List S63) : ∀ x ∈ l, totPart x ≤ (l.map totPart).sum := by
  induction l with
  | nil => intro x hx; simp at hx
  | cons y l ih =>
    intro x hx
    rw [List.map_cons, List.sum_cons]
    have := totPartS_parts l
    have := totPart_nonneg y
    rcases List.mem_cons.1 hx with rfl | hx
    · omega
    · have := ih x hx; omega
theorem sizes_of (l : List S63) (h : totPartS l ≤ 1048576) : l.length ≤ 1048576 ∧ ∀ x ∈ l, x.f0.size ≤ 1048576 ∧ x.f1.size ≤ 1048576 ∧ x.f2.length ≤ 1048576 ∧ ∀ y ∈ x.f2, y.size ≤ 1048576 := by
  unfold totPartS at h
  have h0 := totPartS_parts l
  refine ⟨by omega, fun x hx => ?_⟩
  have h1 := totPart_mem l x hx
  have hd : totPart x = (x.f0.size : Int) + (x.f1.size : Int) + ((x.f2.length : Int) + (x.f2.map totStr).sum) := rfl
  have h2 := totStringS_parts x.f2
  refine ⟨by omega, by omega, by omega, fun y hy => ?_⟩
  have := totStr_mem x.f2 y hy
  omega

/-! fits -/
-- plain: Evs Field
def idB : ByteArray := ⟨#[105, 100]⟩
def classB : ByteArray := ⟨#[99, 108, 97, 115, 115]⟩
/-- does a part fit a node? -/
def typeFits (n : S69) (p : S71) : Bool := decide (B p.f0 = []) || (decide (B p.f0 = [42]) || decide (B p.f0 = B n.f0))
def idFits (n : S69) (p : S71) : Bool := decide (B p.f1 = []) || ((attrFind n.f2 idB).2 && decide (B (attrFind n.f2 idB).1 = B p.f1))
def classFits (n : S69) (p : S71) : Bool := p.f2.all fun c => (wordsB (attrFind n.f2 classB).1).any fun x => decide (x.data.toList = c.data.toList)
def fitsP (n : S69) (p : S71) : Bool := typeFits n p && (idFits n p && classFits n p)
theorem attrFind_size (l : List S144) (hl : ∀ y ∈ l, y.f0.size ≤ 1048576 ∧ y.f1.size ≤ 1048576) (a : ByteArray) : (attrFind l a).1.size ≤ 1048576 := by
  unfold attrFind
  cases h : l.find? (fun x => decide (x.f0.data.toList = a.data.toList)) with
  | none => show 0 ≤ _; omega
  | some y => exact (hl y (List.mem_of_find?_eq_some h)).2
theorem spec_fits_l0 (W : List ByteArray) (hW : W.length ≤ 9223372036854775807) (C : List ByteArray) (hC : C.length ≤ 9223372036854775807) : Ev (fun k => spec_l6Fits.l0 k W C (C.length : Int) 0) (C.all fun c => W.any fun x => decide (x.data.toList = c.data.toList)) := by
  refine ev_from C.length (fun i k => spec_l6Fits.l0 k W C (C.length : Int) (i : Int)) (fun i => (C.drop i).all fun c => W.any fun x => decide (x.data.toList = c.data.toList)) ?_ ?_ 0 (by omega)
  · refine ev_done fun k => ?_
    rw [spec_l6Fits.l0, if_neg (by omega)]; simp
  · intro i hi h
    rw [drop_cons C ByteArray.empty i hi, List.all_cons]
    refine Ev.step (fun k => spec_l6Fits.l0.eq_2 ..) (ev_if_pos (by omega) (ev_if_pos (by omega) (ev_if_pos (by omega) ?_)))
    rw [rdOf_nat]
    refine ev_bind (spec_l6Has_ev W _ hW) ?_
    generalize (W.any fun x => decide (x.data.toList = (C.getD i ByteArray.empty).data.toList)) = b
    cases b with
    | true => rw [Bool.true_and]; refine ev_if_pos rfl ?_; rw [wrap_up hi hC]; exact h
    | false => rw [Bool.false_and]; exact ev_if_neg (by decide) (Ev.now _)
theorem impl_fits_l0 (W : List ByteArray) (hW : W.length ≤ 9223372036854775807) (C : List ByteArray) (hC : C.length ≤ 9223372036854775807) : Ev (fun k => impl_fits.l0 k W C (C.length : Int) 0) (C.all fun c => W.any fun x => decide (x.data.toList = c.data.toList)) := by
  refine ev_from C.length (fun i k => impl_fits.l0 k W C (C.length : Int) (i : Int)) (fun i => (C.drop i).all fun c => W.any fun x => decide (x.data.toList = c.data.toList)) ?_ ?_ 0 (by omega)
  · refine ev_done fun k => ?_
    rw [impl_fits.l0, if_neg (by omega)]; simp
  · intro i hi h
    rw [drop_cons C ByteArray.empty i hi, List.all_cons]
    refine Ev.step (fun k => impl_fits.l0.eq_2 ..) (ev_if_pos (by omega) (ev_if_pos (by omega) (ev_if_pos (by omega) ?_)))
    rw [rdOf_nat]
    refine ev_bind (slices_Contains_s_ev W _ hW) ?_
    generalize (W.any fun x => decide (x.data.toList = (C.getD i ByteArray.empty).data.toList)) = b
    cases b with
    | true => rw [Bool.true_and]; refine ev_if_pos rfl ?_; rw [wrap_up hi hC]; exact h
    | false => rw [Bool.false_and]; exact ev_if_neg (by decide) (Ev.now _)
theorem spec_l6Fits_ev (n : S69) (p : S71) (hn : sizesNode n) (hp : sizesPart p) : Ev (fun k => spec_l6Fits.f k n.f0 n.f1 n.f2 n.f3 p.f0 p.f1 p.f2) (fitsP n p) := by
  obtain ⟨_, _, hl, hy, _⟩ := hn
  obtain ⟨_, _, hc, _⟩ := hp
  have hsz := attrFind_size n.f2 hy classB
  have tail : Ev (fun k => spec_l6Fits.j1 k false n.f0 n.f1 n.f2 n.f3 p.f0 p.f1 p.f2) (classFits n p) := by
    refine Ev.step (fun k => spec_l6Fits.j1.eq_2 ..) (ev_if_neg (by decide) ?_)
    refine ev_bind (spec_AttrOf_ev n.f0 n.f1 n.f2 n.f3 classB (by omega)) ?_
    unfold classFits
    generalize attrFind n.f2 classB = d at hsz ⊢
    refine ev_bind (spec_l6Words_ev d.1 hsz) ?_
    exact spec_fits_l0 _ (by have := (wordsB_size d.1 hsz).1; omega) _ (by omega)
  have no1 : Ev (fun k => spec_l6Fits.j1 k true n.f0 n.f1 n.f2 n.f3 p.f0 p.f1 p.f2) false := Ev.step (fun k => spec_l6Fits.j1.eq_2 ..) (ev_if_pos rfl (Ev.now _))
  have mid : Ev (fun k => spec_l6Fits.j0 k false n.f0 n.f1 n.f2 n.f3 p.f0 p.f1 p.f2) (idFits n p && classFits n p) := by
    refine Ev.step (fun k => spec_l6Fits.j0.eq_2 ..) (ev_if_neg (by decide) ?_)
    refine ev_bind (spec_AttrOf_ev n.f0 n.f1 n.f2 n.f3 idB (by omega)) ?_
    unfold idFits
    generalize attrFind n.f2 idB = d
    by_cases h1 : B p.f1 = []
    · rw [decide_eq_true h1, Bool.true_or, Bool.true_and]
      exact ev_if_pos (by rw [toList_B]; exact h1) tail
    · rw [decide_eq_false h1, Bool.false_or]
      refine ev_if_neg (by rw [toList_B]; exact h1) ?_
      by_cases h2 : d.2 = true
      · rw [h2, Bool.true_and]
        refine ev_if_pos rfl ?_
        by_cases h3 : B d.1 = B p.f1
        · rw [decide_eq_true h3, Bool.true_and, show (d.1.toList != p.f1.toList) = false from bne_eq_false_iff_eq.mpr (by rw [toList_B, toList_B]; exact h3)]
          exact tail
        · rw [decide_eq_false h3, Bool.false_and, show (d.1.toList != p.f1.toList) = true from bne_iff_ne.mpr (by rw [toList_B, toList_B]; exact h3)]
          exact no1
      · rw [Bool.eq_false_iff.2 h2, Bool.false_and, Bool.false_and]
        exact ev_if_neg (by decide) no1
  have no0 : Ev (fun k => spec_l6Fits.j0 k true n.f0 n.f1 n.f2 n.f3 p.f0 p.f1 p.f2) false := Ev.step (fun k => spec_l6Fits.j0.eq_2 ..) (ev_if_pos rfl (Ev.now _))
  simp only [spec_l6Fits.f]
  unfold fitsP typeFits
  by_cases h1 : B p.f0 = []
  · rw [decide_eq_true h1, Bool.true_or, Bool.true_and]
    exact ev_if_pos (by rw [toList_B]; exact h1) mid
  · rw [decide_eq_false h1, Bool.false_or]
    refine ev_if_neg (by rw [toList_B]; exact h1) ?_
    by_cases h2 : B p.f0 = [42]
    · rw [decide_eq_true h2, Bool.true_or, Bool.true_and]
      exact ev_if_pos (by rw [toList_B]; exact h2) mid
    · rw [decide_eq_false h2, Bool.false_or]
      refine ev_if_neg (by rw [toList_B]; exact h2) ?_
      by_cases h3 : B p.f0 = B n.f0
      · rw [decide_eq_true h3, Bool.true_and, show (p.f0.toList != n.f0.toList) = false from bne_eq_false_iff_eq.mpr (by rw [toList_B, toList_B]; exact h3)]
        exact mid
      · rw [decide_eq_false h3, Bool.false_and, show (p.f0.toList != n.f0.toList) = true from bne_iff_ne.mpr (by rw [toList_B, toList_B]; exact h3)]
        exact no0
theorem impl_fits_ev (n : S69) (p : S71) (hn : sizesNode n) (hp : sizesPart p) : Ev (fun k => impl_fits.f k n.f0 n.f1 n.f2 n.f3 p.f0 p.f1 p.f2) (fitsP n p) := by
  obtain ⟨_, _, hl, hy, _⟩ := hn
  obtain ⟨_, _, hc, _⟩ := hp
  have hsz := attrFind_size n.f2 hy classB
  have tail : Ev (fun k => impl_fits.j1 k false n.f0 n.f1 n.f2 n.f3 p.f0 p.f1 p.f2) (classFits n p) := by
    refine Ev.step (fun k => impl_fits.j1.eq_2 ..) (ev_if_neg (by decide) ?_)
    refine ev_bind (impl_AttrOf_ev n.f0 n.f1 n.f2 n.f3 classB (by omega)) ?_
    unfold classFits
    generalize attrFind n.f2 classB = d at hsz ⊢
    refine ev_bind0 (impl_fields_eq d.1 hsz) ?_
    exact impl_fits_l0 _ (by have := (wordsB_size d.1 hsz).1; unfold wordsB at this; omega) _ (by omega)
  have no1 : Ev (fun k => impl_fits.j1 k true n.f0 n.f1 n.f2 n.f3 p.f0 p.f1 p.f2) false := Ev.step (fun k => impl_fits.j1.eq_2 ..) (ev_if_pos rfl (Ev.now _))
  have mid : Ev (fun k => impl_fits.j0 k false n.f0 n.f1 n.f2 n.f3 p.f0 p.f1 p.f2) (idFits n p && classFits n p) := by
    refine Ev.step (fun k => impl_fits.j0.eq_2 ..) (ev_if_neg (by decide) ?_)
    refine ev_bind (impl_AttrOf_ev n.f0 n.f1 n.f2 n.f3 idB (by omega)) ?_
    unfold idFits
    generalize attrFind n.f2 idB = d
    by_cases h1 : B p.f1 = []
    · rw [decide_eq_true h1, Bool.true_or, Bool.true_and]
      exact ev_if_pos (by rw [toList_B]; exact h1) tail
    · rw [decide_eq_false h1, Bool.false_or]
      refine ev_if_neg (by rw [toList_B]; exact h1) ?_
      by_cases h2 : d.2 = true
      · rw [h2, Bool.true_and]
        refine ev_if_pos rfl ?_
        by_cases h3 : B d.1 = B p.f1
        · rw [decide_eq_true h3, Bool.true_and, show (d.1.toList != p.f1.toList) = false from bne_eq_false_iff_eq.mpr (by rw [toList_B, toList_B]; exact h3)]
          exact tail
        · rw [decide_eq_false h3, Bool.false_and, show (d.1.toList != p.f1.toList) = true from bne_iff_ne.mpr (by rw [toList_B, toList_B]; exact h3)]
          exact no1
      · rw [Bool.eq_false_iff.2 h2, Bool.false_and, Bool.false_and]
        exact ev_if_neg (by decide) no1
  have no0 : Ev (fun k => impl_fits.j0 k true n.f0 n.f1 n.f2 n.f3 p.f0 p.f1 p.f2) false := Ev.step (fun k => impl_fits.j0.eq_2 ..) (ev_if_pos rfl (Ev.now _))
  simp only [impl_fits.f]
  unfold fitsP typeFits
  by_cases h1 : B p.f0 = []
  · rw [decide_eq_true h1, Bool.true_or, Bool.true_and]
    exact ev_if_pos (by rw [toList_B]; exact h1) mid
  · rw [decide_eq_false h1, Bool.false_or]
    refine ev_if_neg (by rw [toList_B]; exact h1) ?_
    by_cases h2 : B p.f0 = [42]
    · rw [decide_eq_true h2, Bool.true_or, Bool.true_and]
      exact ev_if_pos (by rw [toList_B]; exact h2) mid
    · rw [decide_eq_false h2, Bool.false_or]
      refine ev_if_neg (by rw [toList_B]; exact h2) ?_
      by_cases h3 : B p.f0 = B n.f0
      · rw [decide_eq_true h3, Bool.true_and, show (p.f0.toList != n.f0.toList) = false from bne_eq_false_iff_eq.mpr (by rw [toList_B, toList_B]; exact h3)]
        exact mid
      · rw [decide_eq_false h3, Bool.false_and, show (p.f0.toList != n.f0.toList) = true from bne_iff_ne.mpr (by rw [toList_B, toList_B]; exact h3)]
        exact no0

/-! attrs_ok -/
-- plain: Evs Mark
/-- all of so many places from one on. -/
def allFrom (p : Nat → Bool) : Nat → Nat → Bool
  | 0, _ => true
  | c + 1, i => p i && allFrom p c (i + 1)
def attrOkAt (l : List S144) (i : Nat) : Bool := isNameL (B (l.getD i z144).f0) && textOk (B (l.getD i z144).f1) && !((l.take i).any fun z => decide (B z.f0 = B (l.getD i z144).f0))
def attrsOk (l : List S144) : Bool := decide (l.length ≤ 12) && allFrom (attrOkAt l) l.length 0
def sizesAttrs (l : List S144) : Prop := l.length ≤ 1048576 ∧ ∀ y ∈ l, y.f0.size ≤ 1048576 ∧ y.f1.size ≤ 1048576
theorem bad_dec (l : List UInt8) : decide (badP l ≥ 0) = !textOk l := by unfold textOk; rw [Bool.eq_iff_iff]; simp
theorem spec_l4Attrs_l1 (l : List S144) (i : Nat) (y : List S144) (hy : y.length ≤ 1048576) (nm vl : ByteArray) (r : Bool) (h : Ev (fun k => spec_l4Attrs.l0 k l l (l.length : Int) (wrap64 ((i : Int) + 1))) r) :
    Ev (fun k => spec_l4Attrs.l1 k l l (l.length : Int) (i : Int) y (y.length : Int) 0 nm vl) (!(y.any fun z => decide (B z.f0 = B nm)) && r) := by
  have key := ev_from y.length (fun j k => spec_l4Attrs.l1 k l l (l.length : Int) (i : Int) y (y.length : Int) (j : Int) nm vl) (fun j => !((y.drop j).any fun z => decide (B z.f0 = B nm)) && r) ?_ ?_ 0 (by omega)
  · exact key
  · simp only [List.drop_length, List.any_nil, Bool.not_false, Bool.true_and]
    exact Ev.step (fun k => spec_l4Attrs.l1.eq_2 ..) (ev_if_neg (by omega) h)
  · intro j hj h2
    have hrd : rd_T144 y (j : Int) = y.getD j z144 := by simp [rd_T144]
    rw [drop_cons y z144 j hj, List.any_cons]
    refine Ev.step (fun k => spec_l4Attrs.l1.eq_2 ..) (ev_if_pos (by omega) (ev_if_pos (by omega) (ev_if_pos (by omega) ?_)))
    rw [hrd]
    by_cases hc : B (y.getD j z144).f0 = B nm
    · rw [decide_eq_true hc]
      exact ev_if_pos (by rw [toList_B, toList_B]; exact hc) (Ev.now _)
    · rw [decide_eq_false hc, Bool.false_or]
      refine ev_if_neg (by rw [toList_B, toList_B]; exact hc) ?_
      rw [wrap_id (x := (j : Int) + 1) (by omega) (by omega), cast_succ]
      exact h2
theorem impl_areAttrs_l1 (l : List S144) (i : Nat) (y : List S144) (hy : y.length ≤ 1048576) (nm vl : ByteArray) (r : Bool) (h : Ev (fun k => impl_areAttrs.l0 k l l (l.length : Int) (wrap64 ((i : Int) + 1))) r) :
    Ev (fun k => impl_areAttrs.l1 k l l (l.length : Int) (i : Int) y (y.length : Int) 0 nm vl) (!(y.any fun z => decide (B z.f0 = B nm)) && r) := by
  have key := ev_from y.length (fun j k => impl_areAttrs.l1 k l l (l.length : Int) (i : Int) y (y.length : Int) (j : Int) nm vl) (fun j => !((y.drop j).any fun z => decide (B z.f0 = B nm)) && r) ?_ ?_ 0 (by omega)
  · exact key
  · simp only [List.drop_length, List.any_nil, Bool.not_false, Bool.true_and]
    exact Ev.step (fun k => impl_areAttrs.l1.eq_2 ..) (ev_if_neg (by omega) h)
  · intro j hj h2
    have hrd : rd_T144 y (j : Int) = y.getD j z144 := by simp [rd_T144]
    rw [drop_cons y z144 j hj, List.any_cons]
    refine Ev.step (fun k => impl_areAttrs.l1.eq_2 ..) (ev_if_pos (by omega) (ev_if_pos (by omega) (ev_if_pos (by omega) ?_)))
    rw [hrd]
    by_cases hc : B (y.getD j z144).f0 = B nm
    · rw [decide_eq_true hc]
      exact ev_if_pos (by rw [toList_B, toList_B]; exact hc.symm) (Ev.now _)
    · rw [decide_eq_false hc, Bool.false_or]
      refine ev_if_neg (by rw [toList_B, toList_B]; exact fun h => hc h.symm) ?_
      rw [wrap_id (x := (j : Int) + 1) (by omega) (by omega), cast_succ]
      exact h2
theorem spec_l4Attrs_ev (l : List S144) (hs : sizesAttrs l) : Ev (fun k => spec_l4Attrs.f k l) (attrsOk l) := by
  obtain ⟨hl, hg⟩ := hs
  simp only [spec_l4Attrs.f]
  unfold attrsOk
  by_cases h12 : l.length ≤ 12
  · rw [decide_eq_true h12, Bool.true_and]
    refine ev_if_neg (by omega) ?_
    have key := ev_from l.length (fun i k => spec_l4Attrs.l0 k l l (l.length : Int) (i : Int)) (fun i => allFrom (attrOkAt l) (l.length - i) i) ?_ ?_ 0 (by omega)
    · exact key
    · rw [Nat.sub_self]
      exact Ev.step (fun k => spec_l4Attrs.l0.eq_2 ..) (ev_if_neg (by omega) (Ev.now _))
    · intro i hi h
      have hmem : l.getD i z144 ∈ l := by rw [List.getD_eq_getElem?_getD, List.getElem?_eq_getElem hi]; exact List.getElem_mem hi
      have hz := hg _ hmem
      have hrd : rd_T144 l (i : Int) = l.getD i z144 := by simp [rd_T144]
      have e : l.length - i = (l.length - (i + 1)) + 1 := by omega
      rw [e, allFrom]
      unfold attrOkAt
      refine Ev.step (fun k => spec_l4Attrs.l0.eq_2 ..) (ev_if_pos (by omega) (ev_if_pos (by omega) (ev_if_pos (by omega) ?_)))
      rw [hrd]
      generalize l.getD i z144 = x at *
      refine ev_bind (spec_l4Name_ev x.f0 hz.1) ?_
      by_cases hn : isNameL (B x.f0) = true
      · rw [hn, Bool.true_and]
        refine ev_if_pos rfl (ev_bind (spec_l4Bad_ev x.f1 hz.2) ?_)
        rw [bad_dec]
        by_cases ht : textOk (B x.f1) = true
        · rw [ht, Bool.true_and]
          refine Ev.step (fun k => spec_l4Attrs.j1.eq_2 ..) (ev_if_neg (by decide) (ev_if_pos (by omega) (ev_if_pos (by omega) (ev_bind0 rfl ?_))))
          refine spec_l4Attrs_l1 l i _ (by rw [List.length_take]; omega) x.f0 x.f1 _ ?_
          rw [wrap_id (x := (i : Int) + 1) (by omega) (by omega), cast_succ]
          exact h
        · rw [Bool.eq_false_iff.mpr ht]
          exact Ev.step (fun k => spec_l4Attrs.j1.eq_2 ..) (ev_if_pos rfl (Ev.now _))
      · rw [Bool.eq_false_iff.mpr hn]
        exact ev_if_neg (by decide) (Ev.step (fun k => spec_l4Attrs.j1.eq_2 ..) (ev_if_pos rfl (Ev.now _)))
  · rw [decide_eq_false h12, Bool.false_and]
    exact ev_if_pos (by omega) (Ev.now _)
theorem impl_areAttrs_ev (l : List S144) (hs : sizesAttrs l) : Ev (fun k => impl_areAttrs.f k l) (attrsOk l) := by
  obtain ⟨hl, hg⟩ := hs
  simp only [impl_areAttrs.f]
  unfold attrsOk
  rw [Bool.and_comm]
  have key := ev_from l.length (fun i k => impl_areAttrs.l0 k l l (l.length : Int) (i : Int)) (fun i => allFrom (attrOkAt l) (l.length - i) i && decide (l.length ≤ 12)) ?_ ?_ 0 (by omega)
  · exact key
  · rw [Nat.sub_self]
    refine Ev.step (fun k => impl_areAttrs.l0.eq_2 ..) (ev_if_neg (by omega) ?_)
    have e : (allFrom (attrOkAt l) 0 l.length && decide (l.length ≤ 12)) = decide ((l.length : Int) ≤ 12) := by rw [allFrom, Bool.true_and, Bool.eq_iff_iff]; simp; omega
    rw [e]; exact Ev.now _
  · intro i hi h
    have hmem : l.getD i z144 ∈ l := by rw [List.getD_eq_getElem?_getD, List.getElem?_eq_getElem hi]; exact List.getElem_mem hi
    have hz := hg _ hmem
    have hrd : rd_T144 l (i : Int) = l.getD i z144 := by simp [rd_T144]
    have e : l.length - i = (l.length - (i + 1)) + 1 := by omega
    rw [e, allFrom]
    unfold attrOkAt
    refine Ev.step (fun k => impl_areAttrs.l0.eq_2 ..) (ev_if_pos (by omega) (ev_if_pos (by omega) (ev_if_pos (by omega) ?_)))
    rw [hrd]
    generalize l.getD i z144 = x at *
    refine ev_bind (impl_isName_ev x.f0 hz.1) ?_
    by_cases hn : isNameL (B x.f0) = true
    · rw [hn, Bool.true_and]
      refine ev_if_pos rfl (ev_bind (impl_badByte_ev x.f1 hz.2) ?_)
      rw [bad_dec]
      by_cases ht : textOk (B x.f1) = true
      · rw [ht, Bool.true_and, Bool.and_assoc]
        refine Ev.step (fun k => impl_areAttrs.j1.eq_2 ..) (ev_if_neg (by decide) (ev_if_pos (by omega) (ev_if_pos (by omega) (ev_bind0 rfl ?_))))
        refine impl_areAttrs_l1 l i _ (by rw [List.length_take]; omega) x.f0 x.f1 _ ?_
        rw [wrap_id (x := (i : Int) + 1) (by omega) (by omega), cast_succ]
        exact h
      · rw [Bool.eq_false_iff.mpr ht]
        exact Ev.step (fun k => impl_areAttrs.j1.eq_2 ..) (ev_if_pos rfl (Ev.now _))
    · rw [Bool.eq_false_iff.mpr hn]
      exact ev_if_neg (by decide) (Ev.step (fun k => impl_areAttrs.j1.eq_2 ..) (ev_if_pos rfl (Ev.now _)))

/-! nodes_ok -/
-- plain: Evs Mark
def nodeAt (l : List S69) (i : Nat) : S69 := l.getD i z69
def upOf (l : List S69) (i : Nat) : Int := (nodeAt l i).f1
/-- the node around stands ahead; the first one has none. -/
def UpOk (l : List S69) (j : Nat) : Prop := (j = 0 ∧ upOf l j = -1) ∨ (0 < j ∧ 0 ≤ upOf l j ∧ upOf l j < (j : Int))
theorem UpOk.lt {l : List S69} {j : Nat} (h : UpOk l j) : -1 ≤ upOf l j ∧ upOf l j < (j : Int) := by rcases h with ⟨h1, h2⟩ | ⟨h1, h2, h3⟩ <;> omega
/-- is u the node a or one around it? -/
def around (l : List S69) (u : Int) : Nat → Int → Bool
  | 0, _ => false
  | n + 1, a => if a < 0 then false else if a = u then true else around l u n (upOf l a.toNat)
/-- how many are around a node, with it. -/
def depth (l : List S69) : Nat → Int → Nat
  | 0, _ => 0
  | n + 1, a => if a < 0 then 0 else depth l n (upOf l a.toNat) + 1
theorem depth_fuel (l : List S69) (m : Nat) (prev : ∀ j, j < m → UpOk l j) : ∀ (n n' : Nat) (a : Int), a < (m : Int) → a < (n : Int) → a < (n' : Int) → depth l n a = depth l n' a := by
  intro n
  induction n with
  | zero =>
    intro n' a h0 h1 h2
    cases n' with
    | zero => rfl
    | succ n' => rw [depth, depth, if_pos (by omega)]
  | succ n ih =>
    intro n' a h0 h1 h2
    cases n' with
    | zero => rw [depth, depth, if_pos (by omega)]
    | succ n' =>
      rw [depth, depth]
      by_cases ha : a < 0
      · rw [if_pos ha, if_pos ha]
      · have hu := (prev a.toNat (by omega)).lt
        rw [if_neg ha, if_neg ha, ih n' (upOf l a.toNat) (by omega) (by omega) (by omega)]
theorem depth_le (l : List S69) : ∀ (n : Nat) (a : Int), depth l n a ≤ n := by
  intro n
  induction n with
  | zero => intro a; simp [depth]
  | succ n ih =>
    intro a
    rw [depth]
    split
    · omega
    · have := ih (upOf l a.toNat); omega
theorem rd_node (l : List S69) (i : Nat) : rd_T69 l (i : Int) = nodeAt l i := by simp [rd_T69, nodeAt]
theorem rd_nodeI (l : List S69) (a : Int) : rd_T69 l a = nodeAt l a.toNat := rfl
theorem impl_isAround_l0 (l : List S69) (m : Nat) (hm : m ≤ l.length) (prev : ∀ j, j < m → UpOk l j) (u : Int) : ∀ (n : Nat) (a : Int), a < (n : Int) → a < (m : Int) → Ev (fun k => impl_isAround.l0 k l u a) (around l u n a) := by
  intro n
  induction n with
  | zero =>
    intro a h1 h2
    exact Ev.step (fun k => impl_isAround.l0.eq_2 ..) (ev_if_neg (by omega) (Ev.now _))
  | succ n ih =>
    intro a h1 h2
    rw [around]
    by_cases ha : a < 0
    · rw [if_pos ha]
      exact Ev.step (fun k => impl_isAround.l0.eq_2 ..) (ev_if_neg (by omega) (Ev.now _))
    · rw [if_neg ha]
      refine Ev.step (fun k => impl_isAround.l0.eq_2 ..) (ev_if_pos (by omega) ?_)
      by_cases hu : a = u
      · rw [if_pos hu]; exact ev_if_pos hu (Ev.now _)
      · rw [if_neg hu]
        have hlt := (prev a.toNat (by omega)).lt
        exact ev_if_neg hu (ev_if_pos (by omega) (ev_if_pos (by omega) (ih (upOf l a.toNat) (by omega) (by omega))))
theorem spec_l4Deep_l0 (l : List S69) (m : Nat) (hm : m ≤ l.length) (hl : l.length ≤ 60) (prev : ∀ j, j < m → UpOk l j) : ∀ (n : Nat) (a : Int) (c : Nat), a < (n : Int) → a < (m : Int) → c + n ≤ 1000 → Ev (fun k => spec_l4Deep.l0 k l a (c : Int)) ((c + depth l n a : Nat) : Int) := by
  intro n
  induction n with
  | zero =>
    intro a c h1 h2 h3
    exact Ev.step (fun k => spec_l4Deep.l0.eq_2 ..) (ev_if_neg (by omega) (Ev.now _))
  | succ n ih =>
    intro a c h1 h2 h3
    rw [depth]
    by_cases ha : a < 0
    · rw [if_pos ha]
      exact Ev.step (fun k => spec_l4Deep.l0.eq_2 ..) (ev_if_neg (by omega) (Ev.now _))
    · rw [if_neg ha]
      have hlt := (prev a.toNat (by omega)).lt
      refine Ev.step (fun k => spec_l4Deep.l0.eq_2 ..) (ev_if_pos (by omega) (ev_if_pos (by omega) (ev_if_pos (by omega) ?_)))
      rw [wrap_id (x := (c : Int) + 1) (by omega) (by omega), cast_succ, show c + (depth l n (upOf l a.toNat) + 1) = (c + 1) + depth l n (upOf l a.toNat) by omega]
      exact ih (upOf l a.toNat) (c + 1) (by omega) (by omega) (by omega)
/-- is a node good, those ahead being so? -/
def NodeOk (l : List S69) (k : Nat) : Prop :=
  UpOk l k ∧ attrsOk (nodeAt l k).f2 = true ∧ (0 < k → around l (upOf l k) k ((k : Int) - 1) = true ∧ ¬ B (nodeAt l (upOf l k).toNat).f0 = []) ∧
  (B (nodeAt l k).f0 = [] → 0 < k ∧ (nodeAt l k).f2.length = 0 ∧ ¬ B (nodeAt l k).f3 = [] ∧ textOk (B (nodeAt l k).f3) = true ∧ ¬ (B (nodeAt l (k - 1)).f0 = [] ∧ upOf l (k - 1) = upOf l k)) ∧
  (¬ B (nodeAt l k).f0 = [] → isNameL (B (nodeAt l k).f0) = true ∧ B (nodeAt l k).f3 = [] ∧ depth l (k + 1) (k : Int) ≤ 10)
theorem node_mem (l : List S69) (i : Nat) (hi : i < l.length) : nodeAt l i ∈ l := by unfold nodeAt; rw [List.getD_eq_getElem?_getD, List.getElem?_eq_getElem hi]; exact List.getElem_mem hi
theorem nodes_l1 (l : List S69) (hl : l.length ≤ 60) (i : Nat) (hi : i < l.length) (prev : ∀ j, j < i → UpOk l j) (n0 : ByteArray) (u : Int) (hu : 0 ≤ u) (ats : List S144) (tx : ByteArray) (r : Bool) :
    ∀ (n : Nat) (a : Int), a < (n : Int) → a < (i : Int) →
    (around l u n a = true → ¬ B (nodeAt l u.toNat).f0 = [] → Ev (fun k => spec_GoodNodes.j3 k l (i : Int) l (l.length : Int) (i : Int) n0 u ats tx) r) →
    (around l u n a = true → B (nodeAt l u.toNat).f0 = [] → r = false) → (around l u n a = false → r = false) →
    Ev (fun k => spec_GoodNodes.l1 k l (i : Int) a l (l.length : Int) (i : Int) n0 u ats tx) r := by
  intro n
  induction n with
  | zero =>
    intro a h1 h2 g1 g2 g3
    rw [g3 rfl]
    exact Ev.step (fun k => spec_GoodNodes.l1.eq_2 ..) (ev_if_neg (by omega) (ev_if_pos (by omega) (Ev.now _)))
  | succ n ih =>
    intro a h1 h2 g1 g2 g3
    rw [around] at g1 g2 g3
    by_cases ha : a < 0
    · rw [if_pos ha] at g3
      rw [g3 rfl]
      exact Ev.step (fun k => spec_GoodNodes.l1.eq_2 ..) (ev_if_neg (by omega) (ev_if_pos (by omega) (Ev.now _)))
    · rw [if_neg ha] at g1 g2 g3
      refine Ev.step (fun k => spec_GoodNodes.l1.eq_2 ..) (ev_if_pos (by omega) ?_)
      by_cases hau : a = u
      · rw [if_pos hau] at g1 g2 g3
        refine ev_if_pos hau (ev_if_neg (by omega) (ev_if_pos (by omega) (ev_if_pos (by omega) ?_)))
        rw [rd_nodeI, hau]
        by_cases hb : B (nodeAt l u.toNat).f0 = []
        · rw [g2 rfl hb]
          exact ev_if_pos (by rw [toList_B]; exact hb) (Ev.now _)
        · exact ev_if_neg (by rw [toList_B]; exact hb) (g1 rfl hb)
      · rw [if_neg hau] at g1 g2 g3
        have hlt := (prev a.toNat (by omega)).lt
        exact ev_if_neg hau (ev_if_pos (by omega) (ev_if_pos (by omega) (ih (upOf l a.toNat) (by omega) (by omega) g1 g2 g3)))
theorem spec_node (l : List S69) (hl : l.length ≤ 60) (hsz : ∀ x ∈ l, sizesNode x) (i : Nat) (hi : i < l.length) (prev : ∀ j, j < i → UpOk l j) (r : Bool)
    (hyes : NodeOk l i → Ev (fun k => spec_GoodNodes.l0 k l l (l.length : Int) ((i + 1 : Nat) : Int)) r) (hno : ¬ NodeOk l i → r = false) :
    Ev (fun k => spec_GoodNodes.l0 k l l (l.length : Int) (i : Int)) r := by
  have hx := hsz _ (node_mem l i hi)
  obtain ⟨x, hxe⟩ : ∃ x, nodeAt l i = x := ⟨_, rfl⟩
  obtain ⟨n0, u, ats, tx⟩ := x
  rw [hxe] at hx
  obtain ⟨z0, z1, z2, z2', z3⟩ := hx
  simp only at z0 z1 z2 z2' z3
  have hu : upOf l i = u := by unfold upOf; rw [hxe]
  have hno1 (h : NodeOk l i → False) : r = false := hno h
  have un : NodeOk l i → UpOk l i ∧ attrsOk ats = true ∧ (0 < i → around l u i ((i : Int) - 1) = true ∧ ¬ B (nodeAt l u.toNat).f0 = []) ∧ (B n0 = [] → 0 < i ∧ ats.length = 0 ∧ ¬ B tx = [] ∧ textOk (B tx) = true ∧ ¬ (B (nodeAt l (i - 1)).f0 = [] ∧ upOf l (i - 1) = u)) ∧ (¬ B n0 = [] → isNameL (B n0) = true ∧ B tx = [] ∧ depth l (i + 1) (i : Int) ≤ 10) := by
    unfold NodeOk; rw [hxe, hu]; exact id
  have nu : UpOk l i ∧ attrsOk ats = true ∧ (0 < i → around l u i ((i : Int) - 1) = true ∧ ¬ B (nodeAt l u.toNat).f0 = []) ∧ (B n0 = [] → 0 < i ∧ ats.length = 0 ∧ ¬ B tx = [] ∧ textOk (B tx) = true ∧ ¬ (B (nodeAt l (i - 1)).f0 = [] ∧ upOf l (i - 1) = u)) ∧ (¬ B n0 = [] → isNameL (B n0) = true ∧ B tx = [] ∧ depth l (i + 1) (i : Int) ≤ 10) → NodeOk l i := by
    unfold NodeOk; rw [hxe, hu]; exact id
  have bad1 (h : r = false) : Ev (fun k => spec_GoodNodes.j1 k l (i : Int) l (l.length : Int) (i : Int) true n0 u ats tx) r := by
    rw [h]; exact Ev.step (fun k => spec_GoodNodes.j1.eq_2 ..) (ev_if_pos rfl (Ev.now _))
  have next (h : NodeOk l i) : Ev (fun k => spec_GoodNodes.l0 k l l (l.length : Int) (wrap64 ((i : Int) + 1))) r := by
    rw [wrap_id (x := (i : Int) + 1) (by omega) (by omega), cast_succ]; exact hyes h
  refine Ev.step (fun k => spec_GoodNodes.l0.eq_2 ..) (ev_if_pos (by omega) (ev_if_pos (by omega) (ev_if_pos (by omega) ?_)))
  rw [rd_node, hxe]
  dsimp only
  refine ev_bind0 (spec_l1In_eq _ _ _) ?_
  rw [wrap_id (x := (i : Int) - 1) (by omega) (by omega)]
  by_cases c1 : -1 ≤ u ∧ u ≤ (i : Int) - 1
  rotate_left
  · exact ev_if_neg (by rw [decide_eq_false c1]; decide) (bad1 (hno1 fun h => c1 (by have := (un h).1.lt; rw [hu] at this; omega)))
  refine ev_if_pos (decide_eq_true c1) ?_
  by_cases c2 : UpOk l i
  rotate_left
  · refine ev_if_pos ?_ (bad1 (hno1 fun h => c2 (un h).1))
    unfold UpOk at c2
    rw [hu] at c2
    by_cases hz : i = 0
    · have h1 : ¬ u = -1 := fun h => c2 (.inl ⟨hz, h⟩)
      rw [beq_eq_false_iff_ne.mpr h1, beq_iff_eq.mpr (show (i : Int) = 0 by omega)]; rfl
    · have h1 : u = -1 := by
        by_cases h : u = -1
        · exact h
        · exact absurd (.inr ⟨by omega, by omega, by omega⟩) c2
      rw [beq_iff_eq.mpr h1, beq_eq_false_iff_ne.mpr (show ¬ (i : Int) = 0 by omega)]; rfl
  refine ev_if_neg ?_ ?_
  · unfold UpOk at c2
    rw [hu] at c2
    rcases c2 with ⟨h1, h2⟩ | ⟨h1, h2, h3⟩
    · rw [beq_iff_eq.mpr h2, beq_iff_eq.mpr (show (i : Int) = 0 by omega)]; decide
    · rw [beq_eq_false_iff_ne.mpr (show ¬ u = -1 by omega), beq_eq_false_iff_ne.mpr (show ¬ (i : Int) = 0 by omega)]; decide
  refine ev_bind (spec_l4Attrs_ev ats ⟨z2, z2'⟩) ?_
  by_cases c3 : attrsOk ats = true
  rotate_left
  · rw [Bool.eq_false_iff.mpr c3]; exact bad1 (hno1 fun h => c3 (un h).2.1)
  rw [c3]
  have prev' : ∀ j, j < i + 1 → UpOk l j := fun j hj => by
    by_cases h : j = i
    · rw [h]; exact c2
    · exact prev j (by omega)
  have tail (c4 : 0 < i → around l u i ((i : Int) - 1) = true ∧ ¬ B (nodeAt l u.toNat).f0 = []) : Ev (fun k => spec_GoodNodes.j3 k l (i : Int) l (l.length : Int) (i : Int) n0 u ats tx) r := by
    refine Ev.step (fun k => spec_GoodNodes.j3.eq_2 ..) ?_
    have badj4 (h : r = false) : Ev (fun k => spec_GoodNodes.j4 k l (i : Int) l (l.length : Int) (i : Int) true n0 u ats tx) r := by
      rw [h]; exact Ev.step (fun k => spec_GoodNodes.j4.eq_2 ..) (ev_if_pos rfl (Ev.now _))
    by_cases cn : B n0 = []
    · refine ev_if_pos (by rw [toList_B]; exact cn) ?_
      by_cases e1 : i = 0
      · exact ev_if_pos (by omega) (badj4 (hno1 fun h => by have := ((un h).2.2.2.1 cn).1; omega))
      refine ev_if_neg (by omega) ?_
      by_cases e2 : ats.length = 0
      rotate_left
      · exact ev_if_pos (by omega) (badj4 (hno1 fun h => e2 ((un h).2.2.2.1 cn).2.1))
      refine ev_if_neg (by omega) ?_
      by_cases e3 : B tx = []
      · exact ev_if_pos (by rw [toList_B]; exact e3) (badj4 (hno1 fun h => ((un h).2.2.2.1 cn).2.2.1 e3))
      refine ev_if_neg (by rw [toList_B]; exact e3) (ev_bind (spec_l4Bad_ev tx z3) ?_)
      rw [bad_dec]
      by_cases e4 : textOk (B tx) = true
      rotate_left
      · rw [Bool.eq_false_iff.mpr e4]; exact badj4 (hno1 fun h => e4 ((un h).2.2.2.1 cn).2.2.2.1)
      rw [e4]
      refine Ev.step (fun k => spec_GoodNodes.j4.eq_2 ..) (ev_if_neg (by decide) ?_)
      rw [wrap_id (x := (i : Int) - 1) (by omega) (by omega)]
      refine ev_if_pos (by omega) (ev_if_pos (by omega) ?_)
      rw [show (i : Int) - 1 = ((i - 1 : Nat) : Int) by omega, rd_node]
      by_cases e5 : B (nodeAt l (i - 1)).f0 = []
      · refine ev_if_pos (by rw [toList_B]; exact e5) ?_
        by_cases e6 : upOf l (i - 1) = u
        · rw [hno1 fun h => ((un h).2.2.2.1 cn).2.2.2.2 ⟨e5, e6⟩]
          exact ev_if_pos e6 (Ev.now _)
        · exact ev_if_neg e6 (next (nu ⟨c2, c3, c4, fun _ => ⟨by omega, e2, e3, e4, fun h => e6 h.2⟩, fun h => absurd cn h⟩))
      · exact ev_if_neg (by rw [toList_B]; exact e5) (next (nu ⟨c2, c3, c4, fun _ => ⟨by omega, e2, e3, e4, fun h => e5 h.1⟩, fun h => absurd cn h⟩))
    · refine ev_if_neg (by rw [toList_B]; exact cn) (ev_bind (spec_l4Name_ev n0 z0) ?_)
      by_cases e1 : isNameL (B n0) = true
      rotate_left
      · rw [hno1 fun h => e1 ((un h).2.2.2.2 cn).1]
        exact ev_if_neg e1 (Ev.now _)
      refine ev_if_pos e1 ?_
      by_cases e2 : B tx = []
      rotate_left
      · rw [hno1 fun h => e2 ((un h).2.2.2.2 cn).2.1]
        exact ev_if_neg (by rw [toList_B]; exact e2) (Ev.now _)
      have hd := spec_l4Deep_l0 l (i + 1) (by omega) hl prev' (i + 1) (i : Int) 0 (by omega) (by omega) (by omega)
      refine ev_if_pos (by rw [toList_B]; exact e2) (ev_bind (show Ev (fun k => spec_l4Deep.f k l (i : Int)) _ from hd) ?_)
      by_cases e3 : depth l (i + 1) (i : Int) ≤ 10
      · exact ev_if_neg (by omega) (next (nu ⟨c2, c3, c4, fun h => absurd h cn, fun _ => ⟨e1, e2, e3⟩⟩))
      · rw [hno1 fun h => e3 ((un h).2.2.2.2 cn).2.2]
        exact ev_if_pos (by omega) (Ev.now _)
  refine Ev.step (fun k => spec_GoodNodes.j1.eq_2 ..) (ev_if_neg (by decide) ?_)
  by_cases hz : i = 0
  · exact ev_if_neg (by omega) (tail (fun h => by omega))
  · refine ev_if_pos (by omega) ?_
    rw [wrap_id (x := (i : Int) - 1) (by omega) (by omega)]
    have hu0 : 0 ≤ u := by have c2' := c2; unfold UpOk at c2'; rw [hu] at c2'; rcases c2' with h | h <;> omega
    exact nodes_l1 l hl i hi prev n0 u hu0 ats tx r i ((i : Int) - 1) (by omega) (by omega) (fun g1 g2 => tail (fun _ => ⟨g1, g2⟩)) (fun g1 g2 => hno1 fun h => ((un h).2.2.1 (by omega)).2 g2) (fun g1 => hno1 fun h => by have := ((un h).2.2.1 (by omega)).1; rw [g1] at this; cases this)
theorem impl_node (l : List S69) (hl : l.length ≤ 60) (hsz : ∀ x ∈ l, sizesNode x) (i : Nat) (hi : i < l.length) (prev : ∀ j, j < i → UpOk l j) (xs : List Int) (hxl : xs.length = l.length) (hxs : ∀ j, j < i → xs.getD j 0 = ((depth l (j + 1) (j : Int) : Nat) : Int)) (r : Bool)
    (hyes : NodeOk l i → ∀ ys : List Int, ys.length = l.length → (∀ j, j < i + 1 → ys.getD j 0 = ((depth l (j + 1) (j : Int) : Nat) : Int)) → Ev (fun k => impl_GoodNodes.l0 k l ys l (l.length : Int) ((i + 1 : Nat) : Int)) r) (hno : ¬ NodeOk l i → r = false) :
    Ev (fun k => impl_GoodNodes.l0 k l xs l (l.length : Int) (i : Int)) r := by
  have hx := hsz _ (node_mem l i hi)
  obtain ⟨x, hxe⟩ : ∃ x, nodeAt l i = x := ⟨_, rfl⟩
  obtain ⟨n0, u, ats, tx⟩ := x
  rw [hxe] at hx
  obtain ⟨z0, z1, z2, z2', z3⟩ := hx
  simp only at z0 z1 z2 z2' z3
  have hu : upOf l i = u := by unfold upOf; rw [hxe]
  have hno1 (h : NodeOk l i → False) : r = false := hno h
  have un : NodeOk l i → UpOk l i ∧ attrsOk ats = true ∧ (0 < i → around l u i ((i : Int) - 1) = true ∧ ¬ B (nodeAt l u.toNat).f0 = []) ∧ (B n0 = [] → 0 < i ∧ ats.length = 0 ∧ ¬ B tx = [] ∧ textOk (B tx) = true ∧ ¬ (B (nodeAt l (i - 1)).f0 = [] ∧ upOf l (i - 1) = u)) ∧ (¬ B n0 = [] → isNameL (B n0) = true ∧ B tx = [] ∧ depth l (i + 1) (i : Int) ≤ 10) := by
    unfold NodeOk; rw [hxe, hu]; exact id
  have nu : UpOk l i ∧ attrsOk ats = true ∧ (0 < i → around l u i ((i : Int) - 1) = true ∧ ¬ B (nodeAt l u.toNat).f0 = []) ∧ (B n0 = [] → 0 < i ∧ ats.length = 0 ∧ ¬ B tx = [] ∧ textOk (B tx) = true ∧ ¬ (B (nodeAt l (i - 1)).f0 = [] ∧ upOf l (i - 1) = u)) ∧ (¬ B n0 = [] → isNameL (B n0) = true ∧ B tx = [] ∧ depth l (i + 1) (i : Int) ≤ 10) → NodeOk l i := by
    unfold NodeOk; rw [hxe, hu]; exact id
  have bad1 (h : r = false) : Ev (fun k => impl_GoodNodes.j1 k l xs (i : Int) l (l.length : Int) (i : Int) true n0 u ats tx) r := by
    rw [h]; exact Ev.step (fun k => impl_GoodNodes.j1.eq_2 ..) (ev_if_pos rfl (Ev.now _))
  have bad3 (h : r = false) : Ev (fun k => impl_GoodNodes.j3 k l xs (i : Int) l (l.length : Int) (i : Int) true n0 u ats tx) r := by
    rw [h]; exact Ev.step (fun k => impl_GoodNodes.j3.eq_2 ..) (ev_if_pos rfl (Ev.now _))
  have hup : upOf l i = u := hu
  -- the last part: where the node stands, and how deep
  have tail (c3 : attrsOk ats = true) (cE : B n0 = [] → ats.length = 0 ∧ ¬ B tx = [] ∧ textOk (B tx) = true) (cN : ¬ B n0 = [] → isNameL (B n0) = true ∧ B tx = []) :
      Ev (fun k => impl_GoodNodes.j2 k l xs (i : Int) l (l.length : Int) (i : Int) n0 u ats tx) r := by
    refine Ev.step (fun k => impl_GoodNodes.j2.eq_2 ..) ?_
    by_cases hz : i = 0
    · refine ev_if_pos (by omega) ?_
      by_cases cn : B n0 = []
      · rw [hno1 fun h => by have := ((un h).2.2.2.1 cn).1; omega]
        exact ev_if_pos (by rw [toList_B]; exact cn) (Ev.now _)
      · refine ev_if_neg (by rw [toList_B]; exact cn) ?_
        by_cases cu : u = -1
        · refine ev_if_pos cu (ev_if_pos (by omega) ?_)
          rw [wrap_id (x := (i : Int) + 1) (by omega) (by omega), cast_succ]
          have hd : depth l (0 + 1) ((0 : Nat) : Int) = 1 := by
            have hu2 : upOf l ((0 : Nat) : Int).toNat = -1 := by show upOf l 0 = -1; rw [← hz, hu]; exact cu
            rw [depth, if_neg (by omega), hu2, depth]
          refine hyes (nu ⟨.inl ⟨hz, by rw [hu]; exact cu⟩, c3, fun h => by omega, fun h => absurd h cn, fun h => ⟨(cN h).1, (cN h).2, ?_⟩⟩) _ (by rw [List.length_set]; exact hxl) (fun j hj => ?_)
          · rw [hz, hd]; omega
          · obtain rfl : j = 0 := by omega
            rw [hd]
            show (xs.set 0 1).getD 0 0 = 1
            rw [List.getD_eq_getElem?_getD, List.getElem?_set_self (by omega)]; rfl
        · rw [hno1 fun h => cu (by rcases (un h).1 with ⟨_, h2⟩ | ⟨h2, _⟩; rw [hu] at h2; exact h2; omega)]
          exact ev_if_neg cu (Ev.now _)
    · refine ev_if_neg (by omega) (ev_bind0 (impl_within_eq _ _ _) ?_)
      rw [wrap_id (x := (i : Int) - 1) (by omega) (by omega)]
      by_cases c1 : 0 ≤ u ∧ u ≤ (i : Int) - 1
      rotate_left
      · exact ev_if_neg (by rw [decide_eq_false c1]; decide) (bad3 (hno1 fun h => c1 (by rcases (un h).1 with ⟨h1, _⟩ | ⟨h1, h2, h3⟩; omega; rw [hu] at h2 h3; omega)))
      have c2 : UpOk l i := .inr ⟨by omega, by rw [hu]; exact c1.1, by rw [hu]; omega⟩
      have prev' : ∀ j, j < i + 1 → UpOk l j := fun j hj => by
        by_cases h : j = i
        · rw [h]; exact c2
        · exact prev j (by omega)
      refine ev_if_pos (decide_eq_true c1) (ev_if_pos c1.1 (ev_if_pos (by omega) ?_))
      rw [rd_nodeI]
      by_cases c4 : B (nodeAt l u.toNat).f0 = []
      · exact ev_if_pos (by rw [toList_B]; exact c4) (bad3 (hno1 fun h => ((un h).2.2.1 (by omega)).2 c4))
      refine ev_if_neg (by rw [toList_B]; exact c4) (ev_bind (show Ev (fun k => impl_isAround.f k l u ((i : Int) - 1)) _ from impl_isAround_l0 l i (by omega) prev u i ((i : Int) - 1) (by omega) (by omega)) ?_)
      by_cases c5 : around l u i ((i : Int) - 1) = true
      rotate_left
      · rw [Bool.eq_false_iff.mpr c5]; exact bad3 (hno1 fun h => c5 ((un h).2.2.1 (by omega)).1)
      rw [c5]
      refine Ev.step (fun k => impl_GoodNodes.j3.eq_2 ..) (ev_if_neg (by decide) ?_)
      -- the neighbour ahead, then the depth
      have hdu : depth l (i + 1) (i : Int) = depth l (u.toNat + 1) u + 1 := by
        have hu2 : upOf l ((i : Nat) : Int).toNat = u := by show upOf l i = u; exact hu
        rw [depth, if_neg (by omega), hu2, depth_fuel l (i + 1) prev' i (u.toNat + 1) u (by omega) (by omega) (by omega)]
      have hxu : rd xs u = ((depth l (u.toNat + 1) u : Nat) : Int) := by
        have := hxs u.toNat (by omega)
        rw [show ((u.toNat : Nat) : Int) = u by omega] at this
        exact this
      have hdl := depth_le l (u.toNat + 1) u
      have fin (cX : B n0 = [] → ¬ (B (nodeAt l (i - 1)).f0 = [] ∧ upOf l (i - 1) = u)) : Ev (fun k => impl_GoodNodes.j4 k l xs (i : Int) l (l.length : Int) (i : Int) false n0 u ats tx) r := by
        refine Ev.step (fun k => impl_GoodNodes.j4.eq_2 ..) (ev_if_neg (by decide) (ev_if_pos c1.1 (ev_if_pos (by omega) (ev_if_pos (by omega) (ev_if_pos (by omega) (ev_bind0 rfl ?_))))))
        rw [hxu, Int.toNat_natCast, wrap_id (x := ((depth l (u.toNat + 1) u : Nat) : Int) + 1) (by omega) (by omega), cast_succ, ← hdu, wrap_id (x := (i : Int) + 1) (by omega) (by omega), cast_succ]
        have hys : ∀ j, j < i + 1 → (xs.set i ((depth l (i + 1) (i : Int) : Nat) : Int)).getD j 0 = ((depth l (j + 1) (j : Int) : Nat) : Int) := by
          intro j hj
          by_cases h : j = i
          · subst h; rw [List.getD_eq_getElem?_getD, List.getElem?_set_self (by omega)]; rfl
          · rw [List.getD_eq_getElem?_getD, List.getElem?_set_ne (by omega), ← List.getD_eq_getElem?_getD]; exact hxs j (by omega)
        by_cases cn : B n0 = []
        · refine ev_if_pos (by rw [toList_B]; exact cn) ?_
          exact hyes (nu ⟨c2, c3, fun _ => ⟨c5, c4⟩, fun h => ⟨by omega, (cE h).1, (cE h).2.1, (cE h).2.2, cX h⟩, fun h => absurd cn h⟩) _ (by rw [List.length_set]; exact hxl) hys
        · refine ev_if_neg (by rw [toList_B]; exact cn) ?_
          have hrd : rd (xs.set i ((depth l (i + 1) (i : Int) : Nat) : Int)) (i : Int) = ((depth l (i + 1) (i : Int) : Nat) : Int) := by rw [rd_nat]; exact hys i (by omega)
          rw [hrd]
          by_cases e3 : depth l (i + 1) (i : Int) ≤ 10
          · exact ev_if_neg (by omega) (hyes (nu ⟨c2, c3, fun _ => ⟨c5, c4⟩, fun h => absurd h cn, fun h => ⟨(cN h).1, (cN h).2, e3⟩⟩) _ (by rw [List.length_set]; exact hxl) hys)
          · rw [hno1 fun h => e3 ((un h).2.2.2.2 cn).2.2]
            exact ev_if_pos (by omega) (Ev.now _)
      by_cases cn : B n0 = []
      · refine ev_if_pos (by rw [toList_B]; exact cn) ?_
        rw [wrap_id (x := (i : Int) - 1) (by omega) (by omega)]
        refine ev_if_pos (by omega) (ev_if_pos (by omega) ?_)
        rw [show (i : Int) - 1 = ((i - 1 : Nat) : Int) by omega, rd_node]
        by_cases e5 : B (nodeAt l (i - 1)).f0 = []
        · refine ev_if_pos (by rw [toList_B]; exact e5) ?_
          by_cases e6 : upOf l (i - 1) = u
          · rw [show ((nodeAt l (i - 1)).f1 == u) = true from beq_iff_eq.mpr e6, hno1 fun h => ((un h).2.2.2.1 cn).2.2.2.2 ⟨e5, e6⟩]
            exact Ev.step (fun k => impl_GoodNodes.j4.eq_2 ..) (ev_if_pos rfl (Ev.now _))
          · rw [show ((nodeAt l (i - 1)).f1 == u) = false from beq_eq_false_iff_ne.mpr e6]
            exact fin (fun _ h => e6 h.2)
        · exact ev_if_neg (by rw [toList_B]; exact e5) (fin (fun _ h => e5 h.1))
      · exact ev_if_neg (by rw [toList_B]; exact cn) (fin (fun h => absurd h cn))
  refine Ev.step (fun k => impl_GoodNodes.l0.eq_2 ..) (ev_if_pos (by omega) (ev_if_pos (by omega) (ev_if_pos (by omega) ?_)))
  rw [rd_node, hxe]
  dsimp only
  by_cases cn : B n0 = []
  · refine ev_if_pos (by rw [toList_B]; exact cn) ?_
    by_cases e3 : B tx = []
    · exact ev_if_pos (by rw [toList_B]; exact e3) (bad1 (hno1 fun h => ((un h).2.2.2.1 cn).2.2.1 e3))
    refine ev_if_neg (by rw [toList_B]; exact e3) ?_
    by_cases e2 : ats.length = 0
    rotate_left
    · exact ev_if_pos (by omega) (bad1 (hno1 fun h => e2 ((un h).2.2.2.1 cn).2.1))
    refine ev_if_neg (by omega) (ev_bind (impl_badByte_ev tx z3) ?_)
    rw [bad_dec]
    by_cases e4 : textOk (B tx) = true
    rotate_left
    · rw [Bool.eq_false_iff.mpr e4]; exact bad1 (hno1 fun h => e4 ((un h).2.2.2.1 cn).2.2.2.1)
    rw [e4]
    refine Ev.step (fun k => impl_GoodNodes.j1.eq_2 ..) (ev_if_neg (by decide) (ev_if_pos (by rw [toList_B]; exact cn) (tail ?_ (fun _ => ⟨e2, e3, e4⟩) (fun h => absurd cn h))))
    obtain rfl := List.length_eq_zero_iff.mp e2
    rfl
  · refine ev_if_neg (by rw [toList_B]; exact cn) (Ev.step (fun k => impl_GoodNodes.j1.eq_2 ..) (ev_if_neg (by decide) (ev_if_neg (by rw [toList_B]; exact cn) (ev_bind (impl_isName_ev n0 z0) ?_))))
    by_cases e1 : isNameL (B n0) = true
    rotate_left
    · rw [hno1 fun h => e1 ((un h).2.2.2.2 cn).1]
      exact ev_if_neg e1 (Ev.now _)
    refine ev_if_pos e1 ?_
    by_cases e2 : B tx = []
    rotate_left
    · rw [hno1 fun h => e2 ((un h).2.2.2.2 cn).2.1]
      exact ev_if_neg (by rw [toList_B]; exact e2) (Ev.now _)
    refine ev_if_pos (by rw [toList_B]; exact e2) (ev_bind (impl_areAttrs_ev ats ⟨z2, z2'⟩) ?_)
    by_cases c3 : attrsOk ats = true
    rotate_left
    · rw [hno1 fun h => c3 (un h).2.1]
      exact ev_if_neg c3 (Ev.now _)
    exact ev_if_pos c3 (tail c3 (fun h => absurd h cn) (fun _ => ⟨e1, e2⟩))
theorem nodes_both (l : List S69) (hl : l.length ≤ 60) (hsz : ∀ x ∈ l, sizesNode x) : ∀ (c i : Nat) (xs : List Int), i + c = l.length → (∀ j, j < i → NodeOk l j) → xs.length = l.length → (∀ j, j < i → xs.getD j 0 = ((depth l (j + 1) (j : Int) : Nat) : Int)) →
    ∃ r, Ev (fun k => spec_GoodNodes.l0 k l l (l.length : Int) (i : Int)) r ∧ Ev (fun k => impl_GoodNodes.l0 k l xs l (l.length : Int) (i : Int)) r ∧ (r = true → ∀ j, j < l.length → NodeOk l j) := by
  intro c
  induction c with
  | zero =>
    intro i xs hc hp hx1 hx2
    exact ⟨true, Ev.step (fun k => spec_GoodNodes.l0.eq_2 ..) (ev_if_neg (by omega) (Ev.now _)), Ev.step (fun k => impl_GoodNodes.l0.eq_2 ..) (ev_if_neg (by omega) (Ev.now _)), fun _ j hj => hp j (by omega)⟩
  | succ c ih =>
    intro i xs hc hp hx1 hx2
    have prev : ∀ j, j < i → UpOk l j := fun j hj => (hp j hj).1
    by_cases h : NodeOk l i
    · have hp' : ∀ j, j < i + 1 → NodeOk l j := fun j hj => by
        by_cases he : j = i
        · rw [he]; exact h
        · exact hp j (by omega)
      -- the answers of both from the next one on: told by spec's, which is one
      obtain ⟨r, g1, _, g3⟩ := ih (i + 1) ((List.range l.length).map fun j => ((depth l (j + 1) (j : Int) : Nat) : Int)) (by omega) hp' (by simp) (fun j hj => by simp [show j < l.length by omega])
      refine ⟨r, spec_node l hl hsz i (by omega) prev r (fun _ => g1) (fun hn => absurd h hn), impl_node l hl hsz i (by omega) prev xs hx1 hx2 r (fun _ ys hy1 hy2 => ?_) (fun hn => absurd h hn), g3⟩
      obtain ⟨r', f1, f2, _⟩ := ih (i + 1) ys (by omega) hp' hy1 hy2
      rw [ev_unique g1 f1]; exact f2
    · exact ⟨false, spec_node l hl hsz i (by omega) prev false (fun hy => absurd hy h) (fun _ => rfl), impl_node l hl hsz i (by omega) prev xs hx1 hx2 false (fun hy => absurd hy h) (fun _ => rfl), fun hf => by cases hf⟩
theorem GoodNodes_both (l : List S69) (hn : l.length ≤ 1048576) (hsz : ∀ x ∈ l, sizesNode x) : ∃ r, Ev (fun k => spec_GoodNodes.f k l) r ∧ Ev (fun k => impl_GoodNodes.f k l) r ∧ (r = true → (1 ≤ l.length ∧ l.length ≤ 60) ∧ ∀ j, j < l.length → NodeOk l j) := by
  simp only [spec_GoodNodes.f, impl_GoodNodes.f]
  by_cases h : 1 ≤ l.length ∧ l.length ≤ 60
  · obtain ⟨r, g1, g2, g3⟩ := nodes_both l h.2 hsz l.length 0 (List.replicate l.length 0) (by omega) (fun j hj => by omega) (by simp) (fun j hj => by omega)
    exact ⟨r, ev_bind0 (spec_l1In_eq _ _ _) (ev_if_pos (decide_eq_true (by omega)) g1), ev_bind0 (impl_within_eq _ _ _) (ev_if_pos (decide_eq_true (by omega)) (ev_if_pos (by omega) (ev_if_pos (by omega) g2))), fun hr => ⟨h, g3 hr⟩⟩
  · exact ⟨false, ev_bind0 (spec_l1In_eq _ _ _) (ev_if_neg (by rw [decide_eq_false (by omega)]; decide) (Ev.now _)), ev_bind0 (impl_within_eq _ _ _) (ev_if_neg (by rw [decide_eq_false (by omega)]; decide) (Ev.now _)), fun hf => by cases hf⟩

/-! ancestors -/
-- plain: Evs Field
def pAt (l : List S71) (i : Nat) : S71 := l.getD i z71
theorem rd_p (l : List S71) (i : Nat) : rd_T71 l (i : Int) = pAt l i := by simp [rd_T71, pAt]
theorem p_mem (l : List S71) (i : Nat) (hi : i < l.length) : pAt l i ∈ l := by unfold pAt; rw [List.getD_eq_getElem?_getD, List.getElem?_eq_getElem hi]; exact List.getElem_mem hi
/-- going outward from the node a: do the first n parts fit nodes around? -/
def climb (l : List S69) (s : List S71) : Nat → Int → Nat → Bool
  | 0, _, n => decide (n = 0)
  | m + 1, a, n => if n = 0 then true else if 0 ≤ a then (if fitsP (nodeAt l a.toNat) (pAt s (n - 1)) = true then climb l s m (upOf l a.toNat) (n - 1) else climb l s m (upOf l a.toNat) n) else false
section
variable (l : List S69) (s : List S71) (hl : l.length ≤ 60) (hs : s.length ≤ 5) (hsz : ∀ x ∈ l, sizesNode x) (hsp : ∀ x ∈ s, sizesPart x) (hup : ∀ j, j < l.length → UpOk l j)
include hl hs hsz hsp hup
theorem spec_climb : ∀ (m : Nat) (a : Int) (n : Nat), a < (m : Int) → a < (l.length : Int) → n ≤ s.length → Ev (fun k => spec_l6Matches.l0 k l a s (n : Int)) (climb l s m a n) := by
  have stop : ∀ (a : Int) (n : Nat), Ev (fun k => spec_l6Matches.j1 k l a s (n : Int) false) (decide (n = 0)) := by
    intro a n
    refine Ev.step (fun k => spec_l6Matches.j1.eq_2 ..) (ev_if_neg (by decide) ?_)
    rw [show decide (n = 0) = ((n : Int) == 0) by rw [Bool.eq_iff_iff, decide_eq_true_eq, beq_iff_eq]; omega]
    exact Ev.now _
  intro m
  induction m with
  | zero =>
    intro a n ha _ hn
    rw [climb]
    exact Ev.step (fun k => spec_l6Matches.l0.eq_2 ..) (ev_if_neg (by omega) (stop a n))
  | succ m ih =>
    intro a n ha hal hn
    rw [climb]
    by_cases h0 : 0 ≤ a
    · refine Ev.step (fun k => spec_l6Matches.l0.eq_2 ..) (ev_if_pos h0 ?_)
      by_cases hn0 : n = 0
      · rw [if_pos hn0, show decide ((n : Int) > 0) = false from decide_eq_false (by omega)]
        have h := stop a n
        rw [decide_eq_true hn0] at h
        exact h
      · rw [if_neg hn0, if_pos h0, show decide ((n : Int) > 0) = true from decide_eq_true (by omega)]
        have hu := (hup a.toNat (by omega)).lt
        have w1 : wrap64 ((n : Int) - 1) = ((n - 1 : Nat) : Int) := by rw [wrap_id (by omega) (by omega)]; omega
        refine Ev.step (fun k => spec_l6Matches.j1.eq_2 ..) (ev_if_pos rfl (ev_if_pos h0 (ev_if_pos hal ?_)))
        rw [w1]
        refine ev_if_pos (by omega) (ev_if_pos (by omega) ?_)
        rw [rd_nodeI, rd_p]
        refine ev_bind (spec_l6Fits_ev _ _ (hsz _ (node_mem l a.toNat (by omega))) (hsp _ (p_mem s (n - 1) (by omega)))) ?_
        have i1 := ih (upOf l a.toNat) (n - 1) (by omega) (by omega) (by omega)
        have i2 := ih (upOf l a.toNat) n (by omega) (by omega) hn
        by_cases hf : fitsP (nodeAt l a.toNat) (pAt s (n - 1)) = true
        · rw [if_pos hf]; exact ev_if_pos hf i1
        · rw [if_neg hf]; exact ev_if_neg hf i2
    · refine Ev.step (fun k => spec_l6Matches.l0.eq_2 ..) (ev_if_neg h0 ?_)
      have h := stop a n
      rw [if_neg h0]
      by_cases hn0 : n = 0
      · rw [if_pos hn0]; rw [decide_eq_true hn0] at h; exact h
      · rw [if_neg hn0]; rw [decide_eq_false hn0] at h; exact h
theorem impl_climb : ∀ (m : Nat) (a : Int) (n : Nat), a < (m : Int) → a < (l.length : Int) → n < s.length → Ev (fun k => impl_Matches.l1 k l a s (n : Int)) (climb l s m a (n + 1)) := by
  intro m
  induction m with
  | zero =>
    intro a n ha _ hn
    rw [climb]
    exact Ev.step (fun k => impl_Matches.l1.eq_2 ..) (ev_if_neg (by omega) (ev_if_pos (by omega) (Ev.now _)))
  | succ m ih =>
    intro a n ha hal hn
    rw [climb, if_neg (by omega), Nat.add_sub_cancel]
    by_cases h0 : 0 ≤ a
    · rw [if_pos h0]
      have hu := (hup a.toNat (by omega)).lt
      refine Ev.step (fun k => impl_Matches.l1.eq_2 ..) (ev_if_pos h0 (ev_if_pos h0 (ev_if_pos hal (ev_if_pos (by omega) (ev_if_pos (by omega) ?_)))))
      rw [rd_nodeI, rd_p]
      refine ev_bind (impl_fits_ev _ _ (hsz _ (node_mem l a.toNat (by omega))) (hsp _ (p_mem s n (by omega)))) ?_
      by_cases hf : fitsP (nodeAt l a.toNat) (pAt s n) = true
      · rw [if_pos hf]
        refine ev_if_pos hf (ev_if_neg (by omega) ?_)
        cases n with
        | zero =>
          have hc : climb l s m (upOf l a.toNat) 0 = true := by cases m <;> rfl
          rw [hc]
          rw [show wrap64 (((0 : Nat) : Int) - 1) = -1 from wrap_id (by omega) (by omega)]
          exact Ev.step (fun k => impl_Matches.l0.eq_2 ..) (ev_if_neg (by omega) (Ev.now _))
        | succ n =>
          rw [show wrap64 (((n + 1 : Nat) : Int) - 1) = ((n : Nat) : Int) by rw [wrap_id (by omega) (by omega)]; omega]
          refine Ev.step (fun k => impl_Matches.l0.eq_2 ..) (ev_if_pos (by omega) (ev_if_pos h0 (ev_if_pos hal ?_)))
          rw [rd_nodeI]
          exact ih (upOf l a.toNat) n (by omega) (by omega) (by omega)
      · rw [if_neg hf]
        exact ev_if_neg hf (ih (upOf l a.toNat) n (by omega) (by omega) hn)
    · rw [if_neg h0]
      exact Ev.step (fun k => impl_Matches.l1.eq_2 ..) (ev_if_neg h0 (ev_if_pos (by omega) (Ev.now _)))
theorem spec_l6Matches_ev (a : Nat) (ha : a < l.length) (h1 : 1 ≤ s.length) : Ev (fun k => spec_l6Matches.f k l (a : Int) s) (fitsP (nodeAt l a) (pAt s (s.length - 1)) && climb l s l.length (upOf l a) (s.length - 1)) := by
  have hu := (hup a ha).lt
  have w1 : wrap64 ((s.length : Int) - 1) = ((s.length - 1 : Nat) : Int) := by rw [wrap_id (by omega) (by omega)]; omega
  simp only [spec_l6Matches.f]
  rw [w1, rd_p]
  refine ev_if_pos (by omega) (ev_if_pos (by omega) (ev_if_pos (by omega) (ev_if_pos (by omega) ?_)))
  rw [rd_node]
  refine ev_bind (spec_l6Fits_ev _ _ (hsz _ (node_mem l a ha)) (hsp _ (p_mem s (s.length - 1) (by omega)))) ?_
  have h := spec_climb l s hl hs hsz hsp hup l.length (upOf l a) (s.length - 1) (by omega) (by omega) (by omega)
  by_cases hf : fitsP (nodeAt l a) (pAt s (s.length - 1)) = true
  · rw [hf, Bool.true_and]; exact ev_if_pos rfl h
  · rw [Bool.eq_false_iff.2 hf, Bool.false_and]; exact ev_if_neg (by decide) (Ev.now _)
theorem impl_Matches_ev (a : Nat) (ha : a < l.length) (h1 : 1 ≤ s.length) : Ev (fun k => impl_Matches.j0 k l (a : Int) s false) (fitsP (nodeAt l a) (pAt s (s.length - 1)) && climb l s l.length (upOf l a) (s.length - 1)) := by
  have hu := (hup a ha).lt
  have w1 : wrap64 ((s.length : Int) - 1) = ((s.length - 1 : Nat) : Int) := by rw [wrap_id (by omega) (by omega)]; omega
  refine Ev.step (fun k => impl_Matches.j0.eq_2 ..) (ev_if_neg (by decide) ?_)
  rw [w1, rd_p]
  refine ev_if_pos (by omega) (ev_if_pos (by omega) (ev_if_pos (by omega) (ev_if_pos (by omega) ?_)))
  rw [rd_node]
  refine ev_bind (impl_fits_ev _ _ (hsz _ (node_mem l a ha)) (hsp _ (p_mem s (s.length - 1) (by omega)))) ?_
  by_cases hf : fitsP (nodeAt l a) (pAt s (s.length - 1)) = true
  · rw [hf, Bool.true_and]
    refine ev_if_pos rfl ?_
    by_cases hs1 : s.length = 1
    · rw [hs1]
      have hc : climb l s l.length (upOf l a) (1 - 1) = true := by
        cases l.length <;> rfl
      rw [hc, show wrap64 (((1 - 1 : Nat) : Int) - 1) = -1 from wrap_id (by omega) (by omega)]
      exact Ev.step (fun k => impl_Matches.l0.eq_2 ..) (ev_if_neg (by omega) (Ev.now _))
    · have h := impl_climb l s hl hs hsz hsp hup l.length (upOf l a) (s.length - 2) (by omega) (by omega) (by omega)
      rw [show s.length - 2 + 1 = s.length - 1 by omega] at h
      rw [show wrap64 (((s.length - 1 : Nat) : Int) - 1) = ((s.length - 2 : Nat) : Int) by rw [wrap_id (by omega) (by omega)]; omega]
      refine Ev.step (fun k => impl_Matches.l0.eq_2 ..) (ev_if_pos (by omega) (ev_if_pos (by omega) (ev_if_pos (by omega) ?_)))
      rw [rd_node]
      exact h
  · rw [Bool.eq_false_iff.2 hf, Bool.false_and]; exact ev_if_neg (by decide) (Ev.now _)
end
def isEl (l : List S69) (a : Int) : Bool := decide (0 ≤ a ∧ a ≤ (l.length : Int) - 1) && !(decide (B (nodeAt l a.toNat).f0 = []))
theorem spec_l6Element_eq (l : List S69) (hl : l.length ≤ 1048576) (a : Int) : spec_l6Element.f l a = some (isEl l a) := by
  unfold spec_l6Element.f isEl
  rw [spec_l1In_eq, wrap_id (x := (l.length : Int) - 1) (by omega) (by omega), Option.bind_some]
  by_cases h : 0 ≤ a ∧ a ≤ (l.length : Int) - 1
  · rw [decide_eq_true h, if_pos rfl, if_pos h.1, if_pos (by omega), Bool.true_and, rd_nodeI, nenil_, toList_B]
    congr 1
    cases B (nodeAt l a.toNat).f0 <;> rfl
  · rw [decide_eq_false h, Bool.false_and]; rfl
theorem impl_isElement_eq (l : List S69) (hl : l.length ≤ 1048576) (a : Int) : impl_isElement.f l a = some (isEl l a) := by
  unfold impl_isElement.f isEl
  rw [impl_within_eq, wrap_id (x := (l.length : Int) - 1) (by omega) (by omega), Option.bind_some]
  by_cases h : 0 ≤ a ∧ a ≤ (l.length : Int) - 1
  · rw [decide_eq_true h, if_pos rfl, if_pos h.1, if_pos (by omega), Bool.true_and, rd_nodeI, nenil_, toList_B]
    congr 1
    cases B (nodeAt l a.toNat).f0 <;> rfl
  · rw [decide_eq_false h, Bool.false_and]; rfl
theorem isEl_at {l : List S69} {a : Int} (h : isEl l a = true) : ∃ n : Nat, a = (n : Int) ∧ n < l.length := by
  unfold isEl at h
  rw [Bool.and_eq_true] at h
  have := of_decide_eq_true h.1
  exact ⟨a.toNat, by omega, by omega⟩
theorem Matches_same (l : List S69) (hn : l.length ≤ 1048576) (hsz : ∀ x ∈ l, sizesNode x) (a : Int) (s : List S71) (hs : s.length ≤ 1048576) (hsp : ∀ x ∈ s, sizesPart x) : ∃ r, Ev (fun k => spec_Matches.f k l a s) r ∧ Ev (fun k => impl_Matches.f k l a s) r := by
  obtain ⟨v, h1, h2, h3⟩ := GoodNodes_both l hn hsz
  simp only [spec_Matches.f, impl_Matches.f]
  have bad : Ev (fun k => impl_Matches.j0 k l a s true) false := Ev.step (fun k => impl_Matches.j0.eq_2 ..) (ev_if_pos rfl (Ev.now _))
  by_cases hv : v = true
  · obtain ⟨⟨_, hl⟩, hok⟩ := h3 hv
    by_cases he : isEl l a = true
    · obtain ⟨n, rfl, hna⟩ := isEl_at he
      by_cases hg : selOk s = true
      · have h5 : 1 ≤ s.length ∧ s.length ≤ 5 := by
          unfold selOk at hg
          rw [Bool.and_eq_true] at hg
          exact of_decide_eq_true hg.1
        have hup : ∀ j, j < l.length → UpOk l j := fun j hj => (hok j hj).1
        refine ⟨_, ev_bind h1 (ev_if_pos hv (ev_bind0 (spec_l6Element_eq l hn _) (ev_if_pos he (ev_bind (spec_l5Good_ev s hs hsp) (ev_if_pos hg (ev_bind (spec_l6Matches_ev l s hl h5.2 hsz hsp hup n hna h5.1) (Ev.now _))))))), ?_⟩
        refine ev_bind h2 (ev_if_pos hv (ev_bind0 (impl_isElement_eq l hn _) (ev_if_pos he (ev_bind (impl_isSelector_ev s hs hsp) ?_))))
        rw [hg]
        exact impl_Matches_ev l s hl h5.2 hsz hsp hup n hna h5.1
      · refine ⟨false, ev_bind h1 (ev_if_pos hv (ev_bind0 (spec_l6Element_eq l hn _) (ev_if_pos he (ev_bind (spec_l5Good_ev s hs hsp) (ev_if_neg hg (Ev.now _)))))), ?_⟩
        refine ev_bind h2 (ev_if_pos hv (ev_bind0 (impl_isElement_eq l hn _) (ev_if_pos he (ev_bind (impl_isSelector_ev s hs hsp) ?_))))
        rw [Bool.eq_false_iff.2 hg]
        exact bad
    · exact ⟨false, ev_bind h1 (ev_if_pos hv (ev_bind0 (spec_l6Element_eq l hn _) (ev_if_neg he (Ev.now _)))), ev_bind h2 (ev_if_pos hv (ev_bind0 (impl_isElement_eq l hn _) (ev_if_neg he bad)))⟩
  · exact ⟨false, ev_bind h1 (ev_if_neg hv (Ev.now _)), ev_bind h2 (ev_if_neg hv bad)⟩

end Go.Proofs.YtooilehdljeepaaDoor.Pure
