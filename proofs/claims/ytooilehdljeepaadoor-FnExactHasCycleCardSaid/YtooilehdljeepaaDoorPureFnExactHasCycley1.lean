/- Lemmas for the pure statement of FnExactHasCycle, part 1. -/
import Derived.Test.YtooilehdljeepaaDoorPFnExactHasCyclex15
import Derived.Test.YtooilehdljeepaaDoorPlain
import Derived.Test.YtooilehdljeepaaDoorEvs
import Derived.Test.YtooilehdljeepaaDoorStr
import Derived.Test.YtooilehdljeepaaDoorWord
import Derived.Test.YtooilehdljeepaaDoorRune
import Derived.Test.YtooilehdljeepaaDoorMark
set_option linter.unusedVariables false
set_option linter.unusedSimpArgs false
namespace Go.Proofs.YtooilehdljeepaaDoor.Pure
open Go.RowKit Go.Proofs.YtooilehdljeepaaDoor.PFnExactHasCycle Go.Proofs.YtooilehdljeepaaDoorW.PrintWords Go.Proofs.YtooilehdljeepaaDoorW.PrintLast Go.Proofs.YtooilehdljeepaaDoorW.PrintMore Go.Proofs.YtooilehdljeepaaDoor.Plain

/-! laws_szAttr -/
-- plain: Evs
def totAttr (x : S143) : Int := (x.f0.size : Int) + (x.f1.size : Int)
theorem totAttr_nonneg (x : S143) : 0 ≤ totAttr x := by unfold totAttr; omega
def goodAttr (x : S143) : Prop := x.f0.size ≤ maxLen ∧ x.f1.size ≤ maxLen
theorem szAttr_eq (x : S143) (a : Int) (h0 : 0 ≤ a) (h1 : a ≤ 1048576) (hg : goodAttr x) : ∃ r, laws_szAttr.f x.f0 x.f1 a = some r ∧ (r < 0 ∨ (r = a - totAttr x ∧ 0 ≤ r)) := by
  obtain ⟨hx, hy⟩ := hg
  unfold maxLen at hx hy
  unfold laws_szAttr.f totAttr
  rw [wrap_id (x := a - _) (by omega) (by omega)]
  by_cases c : a - (x.f0.size : Int) < 0
  · rw [if_pos c]; exact ⟨_, rfl, .inl (by omega)⟩
  · rw [if_neg c, wrap_id (x := _ - (x.f1.size : Int)) (by omega) (by omega)]
    by_cases c2 : a - (x.f0.size : Int) - (x.f1.size : Int) < 0
    · rw [if_pos c2]; exact ⟨_, rfl, .inl (by omega)⟩
    · rw [if_neg c2]; exact ⟨_, rfl, .inr ⟨by omega, by omega⟩⟩

/-! laws_szAttrS -/
-- plain: Evs
def totAttrS (l : List S143) : Int := (l.length : Int) + (l.map totAttr).sum
theorem totAttrS_parts (l : List S143) : 0 ≤ (l.map totAttr).sum := by
  induction l with
  | nil => simp
  | cons x l ih => rw [List.map_cons, List.sum_cons]; have := totAttr_nonneg x; omega
theorem laws_szAttrS_l0_ev (l : List S143) (hl : l.length ≤ maxLen) (hg : ∀ x ∈ l, goodAttr x) : ∀ (d i : Nat) (a : Int), i + d = l.length → 0 ≤ a → a ≤ 1048576 →
    ∃ r, Ev (fun k => laws_szAttrS.l0 k l a i) r ∧ (r < 0 ∨ (r = a - ((l.drop i).map totAttr).sum ∧ 0 ≤ r)) := by
  unfold maxLen at hl
  intro d
  induction d with
  | zero =>
    intro i a hi h0 h1
    refine ⟨a, ev_done fun k => ?_, .inr ⟨by rw [List.drop_eq_nil_of_le (by omega)]; simp, h0⟩⟩
    rw [laws_szAttrS.l0, if_neg (by omega)]
  | succ d ih =>
    intro i a hi h0 h1
    have hil : i < l.length := by omega
    have hx : goodAttr (l.getD i z143) := by rw [List.getD_eq_getElem?_getD, List.getElem?_eq_getElem hil]; exact hg _ (List.getElem_mem hil)
    have hrd : rd_T143 l (i : Int) = l.getD i z143 := by simp [rd_T143]
    rw [drop_cons l z143 i hil, List.map_cons, List.sum_cons]
    obtain ⟨r1, e1, c1⟩ := szAttr_eq (l.getD i z143) a h0 h1 hx
    have ht := totAttr_nonneg (l.getD i z143)
    rcases c1 with c1 | ⟨c1, c2⟩
    · refine ⟨-1, ev_done fun k => by rw [laws_szAttrS.l0, if_pos (by omega), if_pos (by omega), hrd, e1, Option.bind_some, if_pos c1], .inl (by omega)⟩
    · obtain ⟨r, hr, hc⟩ := ih (i + 1) r1 (by omega) c2 (by omega)
      refine ⟨r, Ev.step (fun k => by rw [laws_szAttrS.l0, if_pos (by omega), if_pos (by omega), hrd, e1, Option.bind_some, if_neg (by omega), wrap_up hil hl]) hr, ?_⟩
      rcases hc with hc | ⟨hc, hc2⟩
      · exact .inl hc
      · exact .inr ⟨by rw [hc, c1]; omega, hc2⟩
theorem laws_szAttrS_ev (l : List S143) (a : Int) (h0 : 0 ≤ a) (h1 : a ≤ 1048576) (hl : l.length ≤ maxLen) (hg : ∀ x ∈ l, goodAttr x) :
    ∃ r, Ev (fun k => laws_szAttrS.f k l a) r ∧ (r < 0 ∨ (r = a - totAttrS l ∧ 0 ≤ r)) := by
  have hl' := hl
  unfold maxLen at hl'
  simp only [laws_szAttrS.f]
  rw [wrap_id (x := a - _) (by omega) (by omega)]
  by_cases c : a - (l.length : Int) < 0
  · exact ⟨-1, ev_if_pos c (Ev.now _), .inl (by omega)⟩
  · obtain ⟨r, hr, hc⟩ := laws_szAttrS_l0_ev l hl hg l.length 0 (a - (l.length : Int)) (by omega) (by omega) (by omega)
    refine ⟨r, ev_if_neg c hr, ?_⟩
    rcases hc with hc | ⟨hc, hc2⟩
    · exact .inl hc
    · exact .inr ⟨by rw [hc]; unfold totAttrS; rw [List.drop_zero]; omega, hc2⟩

/-! laws_szNode -/
-- plain: Evs
theorem szNode_ev (a0 : ByteArray) (a1 : Int) (l : List S143) (a3 : ByteArray) (a : Int) (h0 : 0 ≤ a) (h1 : a ≤ 1048576) (g0 : a0.size ≤ maxLen) (gl : l.length ≤ maxLen) (gg : ∀ x ∈ l, goodAttr x) (g3 : a3.size ≤ maxLen) :
    ∃ r, Ev (fun k => laws_szNode.f k a0 a1 l a3 a) r ∧ (r < 0 ∨ (r = a - ((a0.size : Int) + totAttrS l + (a3.size : Int)) ∧ 0 ≤ r)) := by
  unfold maxLen at g0 g3
  have ht : 0 ≤ totAttrS l := by unfold totAttrS; have := totAttrS_parts l; omega
  simp only [laws_szNode.f]
  rw [wrap_id (x := a - _) (by omega) (by omega)]
  by_cases c : a - (a0.size : Int) < 0
  · exact ⟨-1, ev_if_pos c (Ev.now _), .inl (by omega)⟩
  · obtain ⟨r, hr, hc⟩ := laws_szAttrS_ev l (a - (a0.size : Int)) (by omega) (by omega) gl gg
    rcases hc with hc | ⟨hc, hc2⟩
    · exact ⟨-1, ev_if_neg c (ev_bind hr (ev_if_pos hc (Ev.now _))), .inl (by omega)⟩
    · by_cases c2 : r - (a3.size : Int) < 0
      · refine ⟨-1, ev_if_neg c (ev_bind hr (ev_if_neg (by omega) ?_)), .inl (by omega)⟩
        rw [wrap_id (by omega) (by omega)]
        exact ev_if_pos c2 (Ev.now _)
      · refine ⟨_, ev_if_neg c (ev_bind hr (ev_if_neg (by omega) ?_)), .inr ⟨rfl, by omega⟩⟩
        rw [wrap_id (by omega) (by omega)]
        have e : a - ((a0.size : Int) + totAttrS l + (a3.size : Int)) = r - (a3.size : Int) := by omega
        rw [e]
        exact ev_if_neg c2 (Ev.now _)

/-! laws_szNodeS -/
-- plain: Evs
def totNode (x : S60) : Int := (x.f0.size : Int) + totAttrS x.f2 + (x.f3.size : Int)
theorem totNode_nonneg (x : S60) : 0 ≤ totNode x := by unfold totNode totAttrS; have := totAttrS_parts x.f2; omega
def goodNodeIn (x : S60) : Prop := x.f0.size ≤ maxLen ∧ (Lit.int .i64 x.f1).wf = true ∧ (x.f2.length ≤ maxLen ∧ ∀ y ∈ x.f2, goodAttr y) ∧ x.f3.size ≤ maxLen
theorem szNodeX_ev (x : S60) (a : Int) (h0 : 0 ≤ a) (h1 : a ≤ 1048576) (hg : goodNodeIn x) : ∃ r, Ev (fun k => laws_szNode.f k x.f0 x.f1 x.f2 x.f3 a) r ∧ (r < 0 ∨ (r = a - totNode x ∧ 0 ≤ r)) :=
  szNode_ev x.f0 x.f1 x.f2 x.f3 a h0 h1 hg.1 hg.2.2.1.1 hg.2.2.1.2 hg.2.2.2
def totNodeS (l : List S60) : Int := (l.length : Int) + (l.map totNode).sum
theorem totNodeS_parts (l : List S60) : 0 ≤ (l.map totNode).sum := by
  induction l with
  | nil => simp
  | cons x l ih => rw [List.map_cons, List.sum_cons]; have := totNode_nonneg x; omega
theorem laws_szNodeS_l0_ev (l : List S60) (hl : l.length ≤ maxLen) (hg : ∀ x ∈ l, goodNodeIn x) : ∀ (d i : Nat) (a : Int), i + d = l.length → 0 ≤ a → a ≤ 1048576 →
    ∃ r, Ev (fun k => laws_szNodeS.l0 k l a i) r ∧ (r < 0 ∨ (r = a - ((l.drop i).map totNode).sum ∧ 0 ≤ r)) := by
  unfold maxLen at hl
  intro d
  induction d with
  | zero =>
    intro i a hi h0 h1
    refine ⟨a, ev_done fun k => ?_, .inr ⟨by rw [List.drop_eq_nil_of_le (by omega)]; simp, h0⟩⟩
    rw [laws_szNodeS.l0, if_neg (by omega)]
  | succ d ih =>
    intro i a hi h0 h1
    have hil : i < l.length := by omega
    have hx : goodNodeIn (l.getD i z60) := by rw [List.getD_eq_getElem?_getD, List.getElem?_eq_getElem hil]; exact hg _ (List.getElem_mem hil)
    have hrd : rd_T60 l (i : Int) = l.getD i z60 := by simp [rd_T60]
    rw [drop_cons l z60 i hil, List.map_cons, List.sum_cons]
    obtain ⟨r1, e1, c1⟩ := szNodeX_ev (l.getD i z60) a h0 h1 hx
    have ht := totNode_nonneg (l.getD i z60)
    rcases c1 with c1 | ⟨c1, c2⟩
    · refine ⟨-1, (by refine Ev.step (fun k => by rw [laws_szNodeS.l0, if_pos (by omega), if_pos (by omega), hrd]) ?_; exact ev_bind e1 (ev_if_pos c1 (Ev.now _))), .inl (by omega)⟩
    · obtain ⟨r, hr, hc⟩ := ih (i + 1) r1 (by omega) c2 (by omega)
      refine ⟨r, (by refine Ev.step (fun k => by rw [laws_szNodeS.l0, if_pos (by omega), if_pos (by omega), hrd]) ?_; refine ev_bind e1 (ev_if_neg (by omega) ?_); rw [wrap_up hil hl]; exact hr), ?_⟩
      rcases hc with hc | ⟨hc, hc2⟩
      · exact .inl hc
      · exact .inr ⟨by rw [hc, c1]; omega, hc2⟩
theorem laws_szNodeS_ev (l : List S60) (a : Int) (h0 : 0 ≤ a) (h1 : a ≤ 1048576) (hl : l.length ≤ maxLen) (hg : ∀ x ∈ l, goodNodeIn x) :
    ∃ r, Ev (fun k => laws_szNodeS.f k l a) r ∧ (r < 0 ∨ (r = a - totNodeS l ∧ 0 ≤ r)) := by
  have hl' := hl
  unfold maxLen at hl'
  simp only [laws_szNodeS.f]
  rw [wrap_id (x := a - _) (by omega) (by omega)]
  by_cases c : a - (l.length : Int) < 0
  · exact ⟨-1, ev_if_pos c (Ev.now _), .inl (by omega)⟩
  · obtain ⟨r, hr, hc⟩ := laws_szNodeS_l0_ev l hl hg l.length 0 (a - (l.length : Int)) (by omega) (by omega) (by omega)
    refine ⟨r, ev_if_neg c hr, ?_⟩
    rcases hc with hc | ⟨hc, hc2⟩
    · exact .inl hc
    · exact .inr ⟨by rw [hc]; unfold totNodeS; rw [List.drop_zero]; omega, hc2⟩

/-! laws_toAttrS -/
-- plain: Evs
def toAttr (x : S143) : S144 := ⟨x.f0, x.f1⟩
theorem laws_toAttrS_ev (l : List S143) (hn : l.length ≤ 1048576) : Ev (fun k => laws_toAttrS.f k l) (l.map toAttr) := by
  refine Ev.congr (f := fun k => laws_toAttrS.l0 k l (List.replicate l.length z144) 0) (fun k => ?_) ?_
  · unfold laws_toAttrS.f; rw [if_pos (by omega), if_pos (by omega)]; rfl
  · refine ev_up l.length (fun i k => laws_toAttrS.l0 k l ((l.map toAttr).take i ++ List.replicate (l.length - i) z144) i) (l.map toAttr) ?_ ?_
    · refine ev_done fun k => ?_
      rw [laws_toAttrS.l0, if_neg (by omega), List.take_of_length_le (by simp)]; simp
    · intro i hi h
      refine Ev.step (fun k => ?_) h
      have e : (⟨(rd_T143 l (i : Int)).f0, (rd_T143 l (i : Int)).f1⟩ : S144) = (l.map toAttr).getD i z144 := by simp [rd_T143, hi, toAttr]
      rw [laws_toAttrS.l0, if_pos (by omega), if_pos (by omega)]
      simp only [laws_toAttr.f, Option.bind_some]
      rw [if_pos (by simp; omega), e, Int.toNat_natCast, take_set _ _ _ (by simpa using hi) _ (by simp; omega), List.tail_replicate, wrap_up hi (by omega)]
      congr 3

/-! laws_toNode -/
-- plain: Evs
theorem laws_toNode_ev (a0 : ByteArray) (a1 : Int) (l : List S143) (a3 : ByteArray) (hn : l.length ≤ 1048576) : Ev (fun k => laws_toNode.f k a0 a1 l a3) (a0, a1, l.map toAttr, a3) := by
  simp only [laws_toNode.f]
  exact ev_bind (laws_toAttrS_ev l hn) (Ev.now _)

/-! laws_toNodeS -/
-- plain: Evs
def toNode (x : S60) : S69 := ⟨x.f0, x.f1, x.f2.map toAttr, x.f3⟩
theorem laws_toNodeX_ev (x : S60) (hn : x.f2.length ≤ 1048576) : Ev (fun k => laws_toNode.f k x.f0 x.f1 x.f2 x.f3) (x.f0, x.f1, x.f2.map toAttr, x.f3) := laws_toNode_ev x.f0 x.f1 x.f2 x.f3 hn
theorem laws_toNodeS_ev (l : List S60) (hn : l.length ≤ 1048576) (hg : ∀ x ∈ l, x.f2.length ≤ 1048576) : Ev (fun k => laws_toNodeS.f k l) (l.map toNode) := by
  refine Ev.congr (f := fun k => laws_toNodeS.l0 k l (List.replicate l.length z69) 0) (fun k => ?_) ?_
  · unfold laws_toNodeS.f; rw [if_pos (by omega), if_pos (by omega)]; rfl
  · refine ev_up l.length (fun i k => laws_toNodeS.l0 k l ((l.map toNode).take i ++ List.replicate (l.length - i) z69) i) (l.map toNode) ?_ ?_
    · refine ev_done fun k => ?_
      rw [laws_toNodeS.l0, if_neg (by omega), List.take_of_length_le (by simp)]; simp
    · intro i hi h
      have hrd : rd_T60 l (i : Int) = l.getD i z60 := by simp [rd_T60]
      have hmem : l.getD i z60 ∈ l := by rw [List.getD_eq_getElem?_getD, List.getElem?_eq_getElem hi]; exact List.getElem_mem hi
      have e : toNode (l.getD i z60) = (l.map toNode).getD i z69 := by simp [hi]
      refine Ev.step (fun k => by rw [laws_toNodeS.l0, if_pos (by omega), if_pos (by omega), hrd]) ?_
      refine ev_bind (laws_toNodeX_ev (l.getD i z60) (hg _ hmem)) (ev_if_pos (by simp; omega) ?_)
      have e2 := take_set (l.map toNode) z69 i (by simpa using hi) (List.replicate (l.length - i) z69) (by simp; omega)
      rw [← e, List.tail_replicate] at e2
      rw [Int.toNat_natCast, wrap_up hi (by omega)]
      refine Ev.congr (fun k => ?_) h
      rw [show l.length - (i + 1) = l.length - i - 1 by omega, ← e2]
      rfl

/-! laws_eqAttrS -/
-- plain: Evs
theorem laws_eqAttrS_same (l : List S144) (hn : l.length ≤ 9223372036854775807) : Ev (fun k => laws_eqAttrS.f k l l) true := by
  refine Ev.congr (f := fun k => laws_eqAttrS.l0 k l l 0) (fun k => ?_) ?_
  · unfold laws_eqAttrS.f; rw [if_pos rfl]
  · refine ev_up l.length (fun i k => laws_eqAttrS.l0 k l l i) true ?_ ?_
    · refine ev_done fun k => ?_
      rw [laws_eqAttrS.l0, if_neg (by omega)]
    · intro i hi h
      refine Ev.step (fun k => ?_) h
      rw [laws_eqAttrS.l0, if_pos (by omega), if_pos (by omega), if_pos (by omega)]
      unfold laws_eqAttr.f
      rw [if_pos rfl, if_pos rfl, Option.bind_some, if_pos rfl, wrap_up hi (by omega)]

/-! laws_eqNode -/
-- plain: Evs
theorem laws_eqNode_same (a0 : ByteArray) (a1 : Int) (l : List S144) (a3 : ByteArray) (hn : l.length ≤ 9223372036854775807) : Ev (fun k => laws_eqNode.f k a0 a1 l a3 a0 a1 l a3) true := by
  simp only [laws_eqNode.f]
  exact ev_if_pos trivial (ev_if_pos trivial (ev_bind (laws_eqAttrS_same l hn) (ev_if_pos rfl (ev_if_pos trivial (Ev.now _)))))

/-! laws_eqNodeS -/
-- plain: Evs
theorem laws_eqNodeS_same (l : List S69) (hn : l.length ≤ 9223372036854775807) (hg : ∀ x ∈ l, x.f2.length ≤ 9223372036854775807) : Ev (fun k => laws_eqNodeS.f k l l) true := by
  refine Ev.congr (f := fun k => laws_eqNodeS.l0 k l l 0) (fun k => ?_) ?_
  · unfold laws_eqNodeS.f; rw [if_pos rfl]
  · refine ev_up l.length (fun i k => laws_eqNodeS.l0 k l l i) true ?_ ?_
    · refine ev_done fun k => ?_
      rw [laws_eqNodeS.l0, if_neg (by omega)]
    · intro i hi h
      have hrd : rd_T69 l (i : Int) = l.getD i z69 := by simp [rd_T69]
      have hmem : l.getD i z69 ∈ l := by rw [List.getD_eq_getElem?_getD, List.getElem?_eq_getElem hi]; exact List.getElem_mem hi
      refine Ev.step (fun k => by rw [laws_eqNodeS.l0, if_pos (by omega), if_pos (by omega), if_pos (by omega), hrd]) ?_
      refine ev_bind (laws_eqNode_same _ _ _ _ (hg _ hmem)) (ev_if_pos rfl ?_)
      rw [wrap_up hi (by omega)]; exact h

/-! spec_l1In -/
theorem spec_l1In_eq (a b c : Int) : spec_l1In.f a b c = some (decide (b ≤ a ∧ a ≤ c)) := by
  unfold spec_l1In.f
  split
  · rename_i h; simp [show b ≤ a from h]
  · rename_i h; simp [show ¬ b ≤ a from h]

/-! spec_l4Letter -/
-- plain: Word
theorem spec_l4Letter_eq (c : Int) : spec_l4Letter.f c = some (ltrI c || decide (c = 95)) := by
  have hb : (c == 95) = decide (c = 95) := by rw [Bool.eq_iff_iff]; simp
  unfold spec_l4Letter.f
  rw [hb]
  unfold ltrI
  by_cases h1 : (97 ≤ c ∧ c ≤ 122)
  · rw [if_pos h1.1, if_pos h1.2, decide_eq_true (p := (97 ≤ c ∧ c ≤ 122) ∨ (65 ≤ c ∧ c ≤ 90)) (.inl h1)]; rfl
  · by_cases h2 : (65 ≤ c ∧ c ≤ 90)
    · rw [decide_eq_true (p := (97 ≤ c ∧ c ≤ 122) ∨ (65 ≤ c ∧ c ≤ 90)) (.inr h2), Bool.true_or]
      by_cases h3 : c ≥ 97
      · omega
      · rw [if_neg h3, if_pos h2.1, if_pos h2.2]
    · rw [decide_eq_false (p := (97 ≤ c ∧ c ≤ 122) ∨ (65 ≤ c ∧ c ≤ 90)) (by omega), Bool.false_or]
      by_cases h3 : c ≥ 97
      · rw [if_pos h3, if_neg (by omega), if_pos (by omega), if_neg (by omega)]
      · rw [if_neg h3]
        by_cases h4 : c ≥ 65
        · rw [if_pos h4, if_neg (by omega)]
        · rw [if_neg h4]

/-! spec_l1Digit -/
-- plain: Word
theorem spec_l1Digit_eq (c : Int) : spec_l1Digit.f c = some (digI c) := by
  unfold spec_l1Digit.f digI
  split
  · rename_i h; congr 1; rw [decide_eq_decide]; omega
  · rename_i h; congr 1; rw [eq_comm, decide_eq_false_iff_not]; omega

/-! spec_l4Inner -/
-- plain: Mark
theorem spec_l4Inner_eq (c : Int) : spec_l4Inner.f c = some (nmI c) := by
  unfold spec_l4Inner.f nmI
  rw [show spec_l4Letter.f c = some (nmBI c) from spec_l4Letter_eq c, Option.bind_some, spec_l1Digit_eq]
  cases nmBI c with
  | true => rfl
  | false =>
    rw [if_neg (by decide), Option.bind_some]
    cases digI c with
    | true => rfl
    | false =>
      rw [if_neg (by decide)]
      by_cases h1 : c = 45
      · rw [if_pos h1]; simp [h1]
      · rw [if_neg h1]
        by_cases h2 : c = 58
        · rw [if_pos h2]; simp [h2]
        · rw [if_neg h2]; simp only [Option.some.injEq]; rw [Bool.eq_iff_iff]; simp [h1, h2]

/-! spec_l4Name -/
-- plain: Evs Mark
theorem l4Name_l0 (s : ByteArray) (hs : s.size ≤ 1048576) : Ev (fun k => spec_l4Name.l0 k s 0) ((B s).all nmU) := by
  have hl := B_len s
  have key := ev_from (B s).length (fun i k => spec_l4Name.l0 k s (i : Int)) (fun i => ((B s).drop i).all nmU) ?_ ?_ 0 (by omega)
  · exact key
  · rw [List.drop_length]
    exact Ev.step (fun k => spec_l4Name.l0.eq_2 ..) (ev_if_neg (by omega) (Ev.now _))
  · intro i hi h
    refine Ev.step (fun k => spec_l4Name.l0.eq_2 ..) (ev_if_pos (by omega) (ev_if_pos (by omega) ?_))
    rw [bt_U s i hi, drop_cons (B s) 0 i hi, List.all_cons]
    refine ev_bind0 (spec_l4Inner_eq _) ?_
    by_cases hc : nmU ((B s).getD i 0) = true
    · rw [hc, Bool.true_and]
      refine ev_if_pos hc ?_
      rw [wrap_id (x := (i : Int) + 1) (by omega) (by omega), cast_succ]
      exact h
    · rw [Bool.eq_false_iff.mpr hc, Bool.false_and]
      exact ev_if_neg hc (Ev.now _)
theorem spec_l4Name_ev (s : ByteArray) (hs : s.size ≤ 1048576) : Ev (fun k => spec_l4Name.f k s) (isNameL (B s)) := by
  have hl := B_len s
  simp only [spec_l4Name.f]
  refine ev_bind0 (spec_l1In_eq _ _ _) ?_
  unfold isNameL
  by_cases h : 1 ≤ (B s).length ∧ (B s).length ≤ 30
  · rw [decide_eq_true h, Bool.true_and]
    refine ev_if_pos (decide_eq_true (by omega)) (ev_if_pos (by omega) ?_)
    rw [show bt s 0 = _ from bt_U s 0 (by omega)]
    refine ev_bind0 (show spec_l4Letter.f _ = some (nmBI _) from spec_l4Letter_eq _) (Ev.step (fun k => spec_l4Name.j0.eq_2 ..) ?_)
    by_cases hc : nmB ((B s).getD 0 0) = true
    · rw [hc, Bool.true_and]
      exact ev_if_neg (by show ¬ (!nmB ((B s).getD 0 0)) = true; rw [hc]; decide) (l4Name_l0 s hs)
    · rw [Bool.eq_false_iff.mpr hc, Bool.false_and]
      exact ev_if_pos (by show (!nmB ((B s).getD 0 0)) = true; rw [Bool.eq_false_iff.mpr hc]; rfl) (Ev.now _)
  · rw [decide_eq_false h, Bool.false_and, Bool.false_and]
    exact ev_if_neg (by rw [decide_eq_false (by omega)]; decide) (Ev.step (fun k => spec_l4Name.j0.eq_2 ..) (ev_if_pos rfl (Ev.now _)))

/-! spec_l4Bad -/
-- plain: Evs Mark
theorem rune_next (s : ByteArray) (m : Int) (i x : Nat) (hi : (i : Int) < m) (hm : m ≤ 4) (hs : i < (B s).length) (hl2 : (B s).length ≤ 1048576) (hx : x ≤ 1000000) (r : Int × Int)
    (h1 : (128 ≤ nb (B s) i ∧ nb (B s) i ≤ 191) → Ev (fun k => spec_l4Rune.l0 k s m ((x * 64 + (nb (B s) i - 128) : Nat) : Int) ((i + 1 : Nat) : Int)) r) (h2 : ¬ (128 ≤ nb (B s) i ∧ nb (B s) i ≤ 191) → r = (-1, 1)) :
    Ev (fun k => spec_l4Rune.l0 k s m (x : Int) (i : Int)) r := by
  have hl := B_len s
  refine Ev.step (fun k => spec_l4Rune.l0.eq_2 ..) (ev_if_pos hi (ev_if_pos (by omega) (ev_if_pos (by omega) ?_)))
  rw [show bt s (i : Int) = ((nb (B s) i : Nat) : Int) from bt_U s i hs]
  have hb := nb_lt (B s) i
  generalize nb (B s) i = b at *
  by_cases c1 : b < 128
  · rw [h2 (by omega)]; exact ev_if_pos (by omega) (Ev.now _)
  · refine ev_if_neg (by omega) ?_
    by_cases c2 : 191 < b
    · rw [h2 (by omega)]; exact ev_if_pos (by omega) (Ev.now _)
    · refine ev_if_neg (by omega) ?_
      rw [wrap_id (x := (x : Int) * 64) (by omega) (by omega), wrap_id (x := (b : Int)) (by omega) (by omega), wrap_id (x := (x : Int) * 64 + (b : Int)) (by omega) (by omega), wrap_id (x := (x : Int) * 64 + (b : Int) - 128) (by omega) (by omega), wrap_id (x := (i : Int) + 1) (by omega) (by omega), cast_succ]
      have e : (x : Int) * 64 + (b : Int) - 128 = ((x * 64 + (b - 128) : Nat) : Int) := by omega
      rw [e]
      exact h1 (by omega)
theorem rune_bad (s : ByteArray) (m x : Int) (h : (s.size : Int) < m) (hm : m ≠ 0) : Ev (fun k => spec_l4Rune.j2 k s m x) (-1, 1) :=
  Ev.step (fun k => spec_l4Rune.j2.eq_2 ..) (ev_if_neg hm (Ev.step (fun k => spec_l4Rune.j3.eq_2 ..) (ev_if_pos (decide_eq_true h) (Ev.now _))))
theorem rune_in (s : ByteArray) (m x : Int) (h : ¬ (s.size : Int) < m) (hm : m ≠ 0) (r : Int × Int) (h1 : Ev (fun k => spec_l4Rune.l0 k s m x 1) r) : Ev (fun k => spec_l4Rune.j2 k s m x) r :=
  Ev.step (fun k => spec_l4Rune.j2.eq_2 ..) (ev_if_neg hm (Ev.step (fun k => spec_l4Rune.j3.eq_2 ..) (ev_if_neg (by rw [decide_eq_false h]; decide) h1)))
theorem rune_2 (s : ByteArray) (hs : s.size ≤ 1048576) (h0 : 194 ≤ nb (B s) 0 ∧ nb (B s) 0 ≤ 223) : Ev (fun k => spec_l4Rune.j2 k s 2 ((nb (B s) 0 - 192 : Nat) : Int)) (runeP (B s)) := by
  have hl := B_len s
  have hd : decP (B s) = _ := dec_2 (n := (B s).length) (b2 := nb (B s) 2) (b3 := nb (B s) 3) h0 (nb_lt (B s) 1)
  by_cases hn : 1 < (B s).length
  · refine rune_in s 2 _ (by omega) (by decide) _ (rune_next s 2 1 _ (by omega) (by omega) hn (by omega) (by omega) _ (fun hc => ?_) (fun hc => ?_))
    · rw [if_pos ⟨hn, hc⟩] at hd
      rw [show runeP (B s) = _ from fixR_ok hd (by omega)]
      exact Ev.step (fun k => spec_l4Rune.l0.eq_2 ..) (ev_if_neg (by omega) (ev_if_neg (by omega) (ev_if_neg (by omega) (Ev.now _))))
    · rw [if_neg (fun h => hc h.2)] at hd
      exact fixR_bad hd
  · rw [if_neg (fun h => hn h.1)] at hd
    rw [show runeP (B s) = _ from fixR_bad hd]
    exact rune_bad s 2 _ (by omega) (by decide)
theorem rune_3 (s : ByteArray) (hs : s.size ≤ 1048576) (h0 : 224 ≤ nb (B s) 0 ∧ nb (B s) 0 ≤ 239) : Ev (fun k => spec_l4Rune.j2 k s 3 ((nb (B s) 0 - 224 : Nat) : Int)) (runeP (B s)) := by
  have hl := B_len s
  have hd : decP (B s) = _ := dec_3 (n := (B s).length) (b3 := nb (B s) 3) h0 (nb_lt (B s) 1) (nb_lt (B s) 2)
  have hb1 := nb_lt (B s) 1
  have hb2 := nb_lt (B s) 2
  by_cases hn : 2 < (B s).length
  · refine rune_in s 3 _ (by omega) (by decide) _ (rune_next s 3 1 _ (by omega) (by omega) (by omega) (by omega) (by omega) _ (fun hc1 => ?_) (fun hc => ?_))
    · refine rune_next s 3 2 _ (by omega) (by omega) hn (by omega) (by omega) _ (fun hc2 => ?_) (fun hc => ?_)
      · rw [if_pos ⟨⟨by omega, hc1⟩, hn, hc2⟩] at hd
        obtain ⟨x, hx⟩ : ∃ x, ((nb (B s) 0 - 224) * 64 + (nb (B s) 1 - 128)) * 64 + (nb (B s) 2 - 128) = x := ⟨_, rfl⟩
        rw [hx] at hd ⊢
        refine Ev.step (fun k => spec_l4Rune.l0.eq_2 ..) (ev_if_neg (by omega) (ev_if_pos rfl ?_))
        by_cases c1 : x < 2048
        · rw [if_pos (.inl c1)] at hd
          rw [show runeP (B s) = _ from fixR_bad hd]
          exact ev_if_pos (by omega) (Ev.now _)
        · refine ev_if_neg (by omega) (ev_bind0 (spec_l1In_eq _ _ _) ?_)
          by_cases c2 : 55296 ≤ x ∧ x ≤ 57343
          · rw [if_pos (.inr c2)] at hd
            rw [show runeP (B s) = _ from fixR_bad hd]
            exact ev_if_pos (decide_eq_true (by omega)) (Ev.now _)
          · rw [if_neg (by omega)] at hd
            rw [show runeP (B s) = _ from fixR_ok hd (by omega)]
            exact ev_if_neg (by rw [decide_eq_false (by omega)]; decide) (ev_if_neg (by omega) (Ev.now _))
      · rw [if_neg (fun h => hc h.2.2)] at hd
        exact fixR_bad hd
    · rw [if_neg (fun h => hc h.1.2)] at hd
      exact fixR_bad hd
  · rw [if_neg (fun h => hn h.2.1)] at hd
    rw [show runeP (B s) = _ from fixR_bad hd]
    exact rune_bad s 3 _ (by omega) (by decide)
theorem rune_4 (s : ByteArray) (hs : s.size ≤ 1048576) (h0 : 240 ≤ nb (B s) 0 ∧ nb (B s) 0 ≤ 244) : Ev (fun k => spec_l4Rune.j2 k s 4 ((nb (B s) 0 - 240 : Nat) : Int)) (runeP (B s)) := by
  have hl := B_len s
  have hd : decP (B s) = _ := dec_4 (n := (B s).length) h0 (nb_lt (B s) 1) (nb_lt (B s) 2) (nb_lt (B s) 3)
  have hb1 := nb_lt (B s) 1
  have hb2 := nb_lt (B s) 2
  have hb3 := nb_lt (B s) 3
  by_cases hn : 3 < (B s).length
  · refine rune_in s 4 _ (by omega) (by decide) _ (rune_next s 4 1 _ (by omega) (by omega) (by omega) (by omega) (by omega) _ (fun hc1 => ?_) (fun hc => ?_))
    · refine rune_next s 4 2 _ (by omega) (by omega) (by omega) (by omega) (by omega) _ (fun hc2 => ?_) (fun hc => ?_)
      · refine rune_next s 4 3 _ (by omega) (by omega) hn (by omega) (by omega) _ (fun hc3 => ?_) (fun hc => ?_)
        · rw [if_pos ⟨⟨by omega, hc1⟩, ⟨by omega, hc2⟩, hn, hc3⟩] at hd
          obtain ⟨x, hx⟩ : ∃ x, (((nb (B s) 0 - 240) * 64 + (nb (B s) 1 - 128)) * 64 + (nb (B s) 2 - 128)) * 64 + (nb (B s) 3 - 128) = x := ⟨_, rfl⟩
          rw [hx] at hd ⊢
          refine Ev.step (fun k => spec_l4Rune.l0.eq_2 ..) (ev_if_neg (by omega) (ev_if_neg (by omega) (ev_if_pos rfl (ev_bind0 (spec_l1In_eq _ _ _) ?_))))
          by_cases c1 : 65536 ≤ x ∧ x ≤ 1114111
          · rw [if_pos c1] at hd
            rw [show runeP (B s) = _ from fixR_ok hd (by omega)]
            exact ev_if_pos (decide_eq_true (by omega)) (Ev.now _)
          · rw [if_neg c1] at hd
            rw [show runeP (B s) = _ from fixR_bad hd]
            exact ev_if_neg (by rw [decide_eq_false (by omega)]; decide) (Ev.now _)
        · rw [if_neg (fun h => hc h.2.2.2)] at hd
          exact fixR_bad hd
      · rw [if_neg (fun h => hc h.2.1.2)] at hd
        exact fixR_bad hd
    · rw [if_neg (fun h => hc h.1.2)] at hd
      exact fixR_bad hd
  · rw [if_neg (fun h => hn h.2.2.1)] at hd
    rw [show runeP (B s) = _ from fixR_bad hd]
    exact rune_bad s 4 _ (by omega) (by decide)
theorem spec_l4Rune_ev (s : ByteArray) (hs : s.size ≤ 1048576) (h0 : 0 < (B s).length) : Ev (fun k => spec_l4Rune.f k s) (runeP (B s)) := by
  have hl := B_len s
  have hb := nb_lt (B s) 0
  have e0 : bt s 0 = ((nb (B s) 0 : Nat) : Int) := bt_U s 0 h0
  simp only [spec_l4Rune.f]
  refine ev_if_pos (by omega) ?_
  rw [e0]
  have wr : ∀ q : Nat, q ≤ nb (B s) 0 → wrap64 (wrap64 ((nb (B s) 0 : Nat) : Int) - (q : Int)) = ((nb (B s) 0 - q : Nat) : Int) := fun q hq => by
    rw [wrap_id (x := ((nb (B s) 0 : Nat) : Int)) (by omega) (by omega), wrap_id (by omega) (by omega)]; omega
  have none_ (h : ¬ nb (B s) 0 < 128) (h2 : ¬ (194 ≤ nb (B s) 0 ∧ nb (B s) 0 ≤ 244)) : Ev (fun k => spec_l4Rune.j2 k s 0 0) (runeP (B s)) := by
    rw [show runeP (B s) = _ from fixR_bad (show decP (B s) = _ from dec_0 h h2 hb)]
    exact Ev.step (fun k => spec_l4Rune.j2.eq_2 ..) (ev_if_pos rfl (Ev.step (fun k => spec_l4Rune.j3.eq_2 ..) (ev_if_pos rfl (Ev.now _))))
  by_cases c1 : nb (B s) 0 < 128
  · refine ev_if_pos (by omega) ?_
    rw [show runeP (B s) = _ from fixR_ok (show decP (B s) = _ from dec_1 c1) (by omega), wrap_id (by omega) (by omega)]
    exact Ev.now _
  refine ev_if_neg (by omega) ?_
  have rest (h : ¬ (194 ≤ nb (B s) 0 ∧ nb (B s) 0 ≤ 223)) : Ev (fun k => spec_l4Rune.j0 k s ((nb (B s) 0 : Nat) : Int) 0 0 false) (runeP (B s)) := by
    refine Ev.step (fun k => spec_l4Rune.j0.eq_2 ..) (ev_if_neg (by decide) ?_)
    have rest2 (h : ¬ (224 ≤ nb (B s) 0 ∧ nb (B s) 0 ≤ 239)) : Ev (fun k => spec_l4Rune.j1 k s ((nb (B s) 0 : Nat) : Int) 0 0 false) (runeP (B s)) := by
      refine Ev.step (fun k => spec_l4Rune.j1.eq_2 ..) (ev_if_neg (by decide) ?_)
      by_cases d1 : 240 ≤ nb (B s) 0
      · refine ev_if_pos (by omega) ?_
        by_cases d2 : nb (B s) 0 ≤ 244
        · refine ev_if_pos (by omega) ?_
          rw [show wrap64 (wrap64 ((nb (B s) 0 : Nat) : Int) - 240) = _ from wr 240 d1]
          exact rune_4 s hs ⟨d1, d2⟩
        · exact ev_if_neg (by omega) (none_ c1 (by omega))
      · exact ev_if_neg (by omega) (none_ c1 (by omega))
    by_cases d1 : 224 ≤ nb (B s) 0
    · refine ev_if_pos (by omega) ?_
      by_cases d2 : nb (B s) 0 ≤ 239
      · rw [decide_eq_true (show ((nb (B s) 0 : Nat) : Int) ≤ 239 by omega)]
        refine Ev.step (fun k => spec_l4Rune.j1.eq_2 ..) (ev_if_pos rfl ?_)
        rw [show wrap64 (wrap64 ((nb (B s) 0 : Nat) : Int) - 224) = _ from wr 224 d1]
        exact rune_3 s hs ⟨d1, d2⟩
      · rw [decide_eq_false (show ¬ ((nb (B s) 0 : Nat) : Int) ≤ 239 by omega)]
        exact rest2 (by omega)
    · exact ev_if_neg (by omega) (rest2 (by omega))
  by_cases d1 : 194 ≤ nb (B s) 0
  · refine ev_if_pos (by omega) ?_
    by_cases d2 : nb (B s) 0 ≤ 223
    · rw [decide_eq_true (show ((nb (B s) 0 : Nat) : Int) ≤ 223 by omega)]
      refine Ev.step (fun k => spec_l4Rune.j0.eq_2 ..) (ev_if_pos rfl ?_)
      rw [show wrap64 (wrap64 ((nb (B s) 0 : Nat) : Int) - 192) = _ from wr 192 (by omega)]
      exact rune_2 s hs ⟨d1, d2⟩
    · rw [decide_eq_false (show ¬ ((nb (B s) 0 : Nat) : Int) ≤ 223 by omega)]
      exact rest (by omega)
  · exact ev_if_neg (by omega) (rest (by omega))
theorem spec_l4May_eq (r : Int) : spec_l4May.f r = some (mayR r) := by
  unfold spec_l4May.f mayR
  repeat' split
  all_goals (simp only [Option.some.injEq]; rw [Bool.eq_iff_iff]; simp; try omega)
theorem spec_l4Bad_l0 (s : ByteArray) (hs : s.size ≤ 1048576) : ∀ (n p : Nat), (B s).length - p < n → p ≤ (B s).length → Ev (fun k => spec_l4Bad.l0 k s (p : Int)) (badFrom (B s) n p) := by
  have hl := B_len s
  intro n
  induction n with
  | zero => intro p h; omega
  | succ n ih =>
    intro p hn hp
    rw [badFrom]
    by_cases h : p < (B s).length
    · rw [if_pos h]
      have hB : B (s.extract p s.size) = (B s).drop p := by rw [B_extract, List.take_of_length_le (by rw [List.length_drop]; omega)]
      have hlen : ((B s).drop p).length = (B s).length - p := List.length_drop
      have hr := spec_l4Rune_ev (s.extract p s.size) (by rw [← B_len, hB]; omega) (by rw [hB]; omega)
      rw [hB] at hr
      have hw := runeP_width ((B s).drop p) (by omega)
      refine Ev.step (fun k => spec_l4Bad.l0.eq_2 ..) (ev_if_pos (by omega) (ev_if_pos (by omega) (ev_if_pos (by omega) (ev_bind hr (ev_bind0 (spec_l4May_eq _) ?_)))))
      generalize runeP ((B s).drop p) = d at *
      by_cases hm : mayR d.1 = true
      · rw [if_pos hm]
        refine ev_if_pos hm ?_
        rw [wrap_id (x := (p : Int) + d.2) (by omega) (by omega), show (p : Int) + d.2 = ((p + d.2.toNat : Nat) : Int) by omega]
        exact ih _ (by omega) (by omega)
      · rw [if_neg hm]
        exact ev_if_neg hm (Ev.now _)
    · rw [if_neg h]
      exact Ev.step (fun k => spec_l4Bad.l0.eq_2 ..) (ev_if_neg (by omega) (Ev.now _))
theorem spec_l4Bad_ev (s : ByteArray) (hs : s.size ≤ 1048576) : Ev (fun k => spec_l4Bad.f k s) (badP (B s)) := spec_l4Bad_l0 s hs _ 0 (by omega) (by omega)

/-! spec_AttrOf -/
-- plain: Evs
def attrTold : Option S144 → ByteArray × Bool
  | some p => (p.f1, true)
  | none => ((⟨#[]⟩ : ByteArray), false)
def attrFind (l : List S144) (a : ByteArray) : ByteArray × Bool := attrTold (l.find? fun x => decide (x.f0.data.toList = a.data.toList))
theorem spec_AttrOf_ev (n : ByteArray) (u : Int) (l : List S144) (t : ByteArray) (a : ByteArray) (hl : l.length ≤ 9223372036854775807) : Ev (fun k => spec_AttrOf.f k n u l t a) (attrFind l a) := by
  refine Ev.congr (f := fun k => spec_AttrOf.l0 k a l l.length 0) (fun k => rfl) ?_
  refine ev_from l.length (fun i k => spec_AttrOf.l0 k a l l.length i) (fun i => attrTold ((l.drop i).find? fun x => decide (x.f0.data.toList = a.data.toList))) ?_ ?_ 0 (by omega)
  · refine ev_done fun k => ?_
    rw [spec_AttrOf.l0, if_neg (by omega)]; simp [attrTold]
  · intro i hi h
    have hrd : rd_T144 l (i : Int) = l.getD i z144 := by simp [rd_T144]
    by_cases hc : (l.getD i z144).f0.data.toList = a.data.toList
    · refine ev_done fun k => ?_
      rw [spec_AttrOf.l0, if_pos (by omega), if_pos (by omega), if_pos (by omega), hrd, if_pos (by rw [str_eq]; exact hc), drop_cons l z144 i hi, List.find?_cons, decide_eq_true hc]
      rfl
    · refine Ev.step (fun k => ?_) (by rw [drop_cons l z144 i hi, List.find?_cons, decide_eq_false hc]; exact h)
      rw [spec_AttrOf.l0, if_pos (by omega), if_pos (by omega), if_pos (by omega), hrd, if_neg (by rw [str_eq]; exact hc), wrap_up hi hl]

/-! impl_within -/
theorem impl_within_eq (a b c : Int) : impl_within.f a b c = some (decide (b ≤ a ∧ a ≤ c)) := by
  unfold impl_within.f
  split
  · rename_i h; simp [h]
  · rename_i h; simp [h]

/-! impl_badByte -/
-- plain: Evs Mark
theorem impl_mayRune_eq (r : Int) (h1 : r ≤ 1114111) (h2 : r < 55296 ∨ 57343 < r) : impl_mayRune.f r = some (mayR r) := by
  unfold impl_mayRune.f mayR
  rw [impl_within_eq, impl_within_eq]
  simp only [Option.bind_some]
  rw [decide_eq_false (show ¬ (55296 ≤ r ∧ r ≤ 57343) by omega)]
  repeat' split
  all_goals (simp only [Option.some.injEq]; rw [Bool.eq_iff_iff]; simp at *; try omega)
theorem impl_badByte_l0 (s : ByteArray) (hs : s.size ≤ 1048576) : ∀ (n p : Nat), (B s).length - p < n → p ≤ (B s).length → Ev (fun k => impl_badByte.l0 k s (p : Int)) (badFrom (B s) n p) := by
  have hl := B_len s
  intro n
  induction n with
  | zero => intro p h; omega
  | succ n ih =>
    intro p hn hp
    rw [badFrom]
    by_cases h : p < (B s).length
    · rw [if_pos h]
      have hB : B (s.extract p s.size) = (B s).drop p := by rw [B_extract, List.take_of_length_le (by rw [List.length_drop]; omega)]
      have hlen : ((B s).drop p).length = (B s).length - p := List.length_drop
      have hgo := decodeGo_B (s.extract p s.size) (by rw [hB]; omega)
      rw [hB] at hgo
      have hf : utf8_DecodeRuneInString.f (s.extract p s.size) = some (((decP ((B s).drop p)).1 : Int), ((decP ((B s).drop p)).2 : Int)) := by
        unfold utf8_DecodeRuneInString.f; rw [hgo]
      have hw := decP_width ((B s).drop p) (by omega)
      have hm := decP_may ((B s).drop p)
      have hR : runeP ((B s).drop p) = fixR (decP ((B s).drop p)) := rfl
      rw [hR]
      refine Ev.step (fun k => impl_badByte.l0.eq_2 ..) (ev_if_pos (by omega) (ev_if_pos (by omega) (ev_if_pos (by omega) (ev_bind0 hf ?_))))
      clear hf hgo hR
      generalize decP ((B s).drop p) = d at *
      obtain ⟨x, w⟩ := d
      simp only at hw hm ⊢
      have go (hne : ¬ (x = 65533 ∧ w = 1)) : Ev (fun k => (impl_mayRune.f (wrap64 (x : Int))).bind fun t174 => (if t174 = true then (impl_badByte.l0 k s (wrap64 ((p : Int) + (w : Int)))) else (some (p : Int)))) (if mayR (fixR (x, w)).1 = true then badFrom (B s) n (p + (fixR (x, w)).2.toNat) else (p : Int)) := by
        rw [fixR_ok (d := (x, w)) rfl hne, wrap_id (x := (x : Int)) (by omega) (by omega)]
        refine ev_bind0 (impl_mayRune_eq _ (by omega) (by omega)) ?_
        simp only
        by_cases hc : mayR (x : Int) = true
        · rw [if_pos hc]
          refine ev_if_pos hc ?_
          rw [wrap_id (x := (p : Int) + (w : Int)) (by omega) (by omega), show (p : Int) + (w : Int) = ((p + (w : Int).toNat : Nat) : Int) by omega]
          exact ih _ (by omega) (by omega)
        · rw [if_neg hc]; exact ev_if_neg hc (Ev.now _)
      by_cases h1 : x = 65533
      · refine ev_if_pos (by omega) ?_
        by_cases h2 : w = 1
        · refine ev_if_pos (by omega) ?_
          rw [fixR_bad (d := (x, w)) (by rw [h1, h2])]
          exact Ev.now _
        · exact ev_if_neg (by omega) (go (fun hh => h2 hh.2))
      · exact ev_if_neg (by omega) (go (fun hh => h1 hh.1))
    · rw [if_neg h]
      exact Ev.step (fun k => impl_badByte.l0.eq_2 ..) (ev_if_neg (by omega) (Ev.now _))
theorem impl_badByte_ev (s : ByteArray) (hs : s.size ≤ 1048576) : Ev (fun k => impl_badByte.f k s) (badP (B s)) := impl_badByte_l0 s hs _ 0 (by omega) (by omega)

/-! impl_isDigit -/
-- plain: Word
theorem impl_isDigit_eq (c : Int) : impl_isDigit.f c = some (digI c) := by
  unfold impl_isDigit.f digI
  split
  · rename_i h; congr 1; rw [decide_eq_decide]; omega
  · rename_i h; congr 1; rw [eq_comm, decide_eq_false_iff_not]; omega

/-! impl_isLetter -/
-- plain: Word
theorem impl_isLetter_eq (c : Int) : impl_isLetter.f c = some (ltrI c) := by
  unfold impl_isLetter.f ltrI
  split
  · split
    · congr 1; rw [eq_comm, decide_eq_true_iff]; omega
    · split
      · congr 1; rw [decide_eq_decide]; omega
      · congr 1; rw [eq_comm, decide_eq_false_iff_not]; omega
  · split
    · congr 1; rw [decide_eq_decide]; omega
    · congr 1; rw [eq_comm, decide_eq_false_iff_not]; omega

/-! impl_mayBegin -/
-- plain: Mark
theorem impl_mayBegin_eq (c : Int) : impl_mayBegin.f c = some (nmBI c) := by
  unfold impl_mayBegin.f nmBI
  rw [impl_isLetter_eq, Option.bind_some]
  cases ltrI c with
  | true => rfl
  | false => rw [if_neg (by decide)]; simp only [Option.some.injEq]; rw [Bool.eq_iff_iff]; simp

/-! impl_isName -/
-- plain: Evs Mark
theorem nameEnd_l0 (s : ByteArray) (hs : s.size ≤ 1048576) : Ev (fun k => impl_nameEnd.l0 k s 0) ((runEnd nmU (B s) 0 : Nat) : Int) := by
  have hl := B_len s
  have key := ev_from (B s).length (fun i k => impl_nameEnd.l0 k s (i : Int)) (fun i => ((runEnd nmU (B s) i : Nat) : Int)) ?_ ?_ 0 (by omega)
  · exact key
  · rw [runEnd_end nmU (B s) _ (by omega)]
    exact Ev.step (fun k => impl_nameEnd.l0.eq_2 ..) (ev_if_neg (by omega) (Ev.now _))
  · intro i hi h
    refine Ev.step (fun k => impl_nameEnd.l0.eq_2 ..) (ev_if_pos (by omega) (ev_if_pos (by omega) ?_))
    rw [bt_U s i hi, wrap_id (x := (i : Int) + 1) (by omega) (by omega), cast_succ]
    have yes (hc : nmU ((B s).getD i 0) = true) : Ev (fun k => impl_nameEnd.l0 k s ((i + 1 : Nat) : Int)) ((runEnd nmU (B s) i : Nat) : Int) := by
      rw [runEnd_yes nmU (B s) i hi hc]; exact h
    have hU : nmU ((B s).getD i 0) = (nmBI (((B s).getD i 0).toNat : Int) || digI (((B s).getD i 0).toNat : Int) || decide ((((B s).getD i 0).toNat : Int) = 45) || decide ((((B s).getD i 0).toNat : Int) = 58) || decide ((((B s).getD i 0).toNat : Int) = 46)) := rfl
    refine ev_bind0 (impl_mayBegin_eq _) ?_
    by_cases h1 : nmBI (((B s).getD i 0).toNat : Int) = true
    · exact ev_if_pos h1 (yes (by rw [hU, h1]; rfl))
    refine ev_if_neg h1 (ev_bind0 (impl_isDigit_eq _) ?_)
    by_cases h2 : digI (((B s).getD i 0).toNat : Int) = true
    · exact ev_if_pos h2 (yes (by rw [hU, h2]; simp))
    refine ev_if_neg h2 ?_
    by_cases h3 : (((B s).getD i 0).toNat : Int) = 45
    · exact ev_if_pos h3 (yes (by rw [hU, decide_eq_true h3]; simp))
    refine ev_if_neg h3 ?_
    by_cases h4 : (((B s).getD i 0).toNat : Int) = 58
    · exact ev_if_pos h4 (yes (by rw [hU, decide_eq_true h4]; simp))
    refine ev_if_neg h4 ?_
    by_cases h5 : (((B s).getD i 0).toNat : Int) = 46
    · exact ev_if_pos h5 (yes (by rw [hU, decide_eq_true h5]; simp))
    refine ev_if_neg h5 ?_
    rw [runEnd_no nmU (B s) i hi (by rw [hU, Bool.eq_false_iff.mpr h1, Bool.eq_false_iff.mpr h2, decide_eq_false h3, decide_eq_false h4, decide_eq_false h5]; decide)]
    exact Ev.now _
theorem impl_isName_ev (s : ByteArray) (hs : s.size ≤ 1048576) : Ev (fun k => impl_isName.f k s) (isNameL (B s)) := by
  have hl := B_len s
  simp only [impl_isName.f]
  refine ev_bind0 (impl_within_eq _ _ _) ?_
  unfold isNameL
  by_cases h : 1 ≤ (B s).length ∧ (B s).length ≤ 30
  · rw [decide_eq_true h, Bool.true_and]
    refine ev_if_pos (decide_eq_true (by omega)) ?_
    have hend : Ev (fun k => impl_nameEnd.f k s 0) (if nmB ((B s).getD 0 0) = true then ((runEnd nmU (B s) 0 : Nat) : Int) else 0) := by
      simp only [impl_nameEnd.f]
      refine ev_if_neg (by omega) (ev_if_pos (by omega) (ev_if_pos (by omega) ?_))
      rw [show bt s 0 = _ from bt_U s 0 (by omega)]
      refine ev_bind0 (impl_mayBegin_eq _) (Ev.step (fun k => impl_nameEnd.j0.eq_2 ..) ?_)
      by_cases hc : nmB ((B s).getD 0 0) = true
      · rw [if_pos hc]
        exact ev_if_neg (by show ¬ (!nmB ((B s).getD 0 0)) = true; rw [hc]; decide) (nameEnd_l0 s hs)
      · rw [if_neg hc]
        exact ev_if_pos (by show (!nmB ((B s).getD 0 0)) = true; rw [Bool.eq_false_iff.mpr hc]; rfl) (Ev.now _)
    refine ev_bind hend ?_
    by_cases hc : nmB ((B s).getD 0 0) = true
    · rw [if_pos hc, hc, Bool.true_and]
      have e : ((((runEnd nmU (B s) 0 : Nat) : Int) == (s.size : Int)) : Bool) = (B s).all nmU := by
        have := runEnd_all nmU (B s)
        rw [Bool.eq_iff_iff, ← this, beq_iff_eq]; omega
      rw [e]; exact Ev.now _
    · rw [if_neg hc, Bool.eq_false_iff.mpr hc, Bool.false_and]
      have e : (((0 : Int) == (s.size : Int)) : Bool) = false := beq_eq_false_iff_ne.mpr (by omega)
      rw [e]; exact Ev.now _
  · rw [decide_eq_false h, Bool.false_and, Bool.false_and]
    exact ev_if_neg (by rw [decide_eq_false (by omega)]; decide) (Ev.now _)

/-! impl_AttrOf -/
-- plain: Evs
theorem impl_AttrOf_ev (n : ByteArray) (u : Int) (l : List S144) (t : ByteArray) (a : ByteArray) (hl : l.length ≤ 9223372036854775807) : Ev (fun k => impl_AttrOf.f k n u l t a) (attrFind l a) := by
  refine Ev.congr (f := fun k => impl_AttrOf.l0 k a l l.length 0) (fun k => rfl) ?_
  refine ev_from l.length (fun i k => impl_AttrOf.l0 k a l l.length i) (fun i => attrTold ((l.drop i).find? fun x => decide (x.f0.data.toList = a.data.toList))) ?_ ?_ 0 (by omega)
  · refine ev_done fun k => ?_
    rw [impl_AttrOf.l0, if_neg (by omega)]; simp [attrTold]
  · intro i hi h
    have hrd : rd_T144 l (i : Int) = l.getD i z144 := by simp [rd_T144]
    by_cases hc : (l.getD i z144).f0.data.toList = a.data.toList
    · refine ev_done fun k => ?_
      rw [impl_AttrOf.l0, if_pos (by omega), if_pos (by omega), if_pos (by omega), hrd, if_pos (by rw [str_eq]; exact hc), drop_cons l z144 i hi, List.find?_cons, decide_eq_true hc]
      rfl
    · refine Ev.step (fun k => ?_) (by rw [drop_cons l z144 i hi, List.find?_cons, decide_eq_false hc]; exact h)
      rw [impl_AttrOf.l0, if_pos (by omega), if_pos (by omega), if_pos (by omega), hrd, if_neg (by rw [str_eq]; exact hc), wrap_up hi hl]

/-! stringslite_HasPrefix -/
-- plain: Str
theorem stringslite_HasPrefix_eq (s p : ByteArray) : stringslite_HasPrefix.f s p = some (decide (B p <+: B s)) := by
  unfold stringslite_HasPrefix.f
  by_cases h : (s.size : Int) ≥ (p.size : Int)
  · rw [if_pos h, if_pos (by omega), if_pos h]
    congr 1
    rw [toList_B, toList_B, B_extract, Int.toNat_natCast, Nat.sub_zero, List.drop_zero, Bool.eq_iff_iff, beq_iff_eq, decide_eq_true_iff, List.prefix_iff_eq_take, B_len]
    exact eq_comm
  · rw [if_neg h]
    congr 1
    rw [eq_comm, decide_eq_false_iff_not]
    intro hp
    have := hp.length_le
    rw [B_len, B_len] at this
    omega

/-! stringslite_CutPrefix -/
-- plain: Str
def cutPrefix (s p : ByteArray) : ByteArray × Bool := if B p <+: B s then (s.extract p.size s.size, true) else (s, false)
theorem stringslite_CutPrefix_eq (s p : ByteArray) : stringslite_CutPrefix.f s p = some (cutPrefix s p) := by
  unfold stringslite_CutPrefix.f cutPrefix
  rw [stringslite_HasPrefix_eq, Option.bind_some]
  by_cases h : B p <+: B s
  · have := h.length_le
    rw [B_len, B_len] at this
    rw [if_pos (by simpa using h), if_pos h, if_pos (by omega), if_pos (by omega), Int.toNat_natCast]
  · rw [if_neg (by simpa using h), if_neg h]

/-! strings_CutPrefix -/
-- plain: Str
theorem strings_CutPrefix_eq (s p : ByteArray) : strings_CutPrefix.f s p = some (cutPrefix s p) := by
  unfold strings_CutPrefix.f
  rw [stringslite_CutPrefix_eq]; rfl

/-! nodesizes -/
-- plain: Word
theorem totAttr_mem (l : List S143) : ∀ x ∈ l, totAttr x ≤ (l.map totAttr).sum := by
  induction l with
  | nil => intro x hx; simp at hx
  | cons y l ih =>
    intro x hx
    rw [List.map_cons, List.sum_cons]
    have := totAttrS_parts l
    have := totAttr_nonneg y
    rcases List.mem_cons.1 hx with rfl | hx
    · omega
    · have := ih x hx; omega
theorem totNode_mem (l : List S60) : ∀ x ∈ l, totNode x ≤ (l.map totNode).sum := by
  induction l with
  | nil => intro x hx; simp at hx
  | cons y l ih =>
    intro x hx
    rw [List.map_cons, List.sum_cons]
    have := totNodeS_parts l
    have := totNode_nonneg y
    rcases List.mem_cons.1 hx with rfl | hx
    · omega
    · have := ih x hx; omega
/-- sizes of a node. -/
def sizesNode (x : S69) : Prop := x.f0.size ≤ 1048576 ∧ (-9223372036854775808 ≤ x.f1 ∧ x.f1 ≤ 9223372036854775807) ∧ x.f2.length ≤ 1048576 ∧ (∀ y ∈ x.f2, y.f0.size ≤ 1048576 ∧ y.f1.size ≤ 1048576) ∧ x.f3.size ≤ 1048576
theorem nodes_of (l : List S60) (h : totNodeS l ≤ 1048576) (hg : ∀ x ∈ l, goodNodeIn x) : l.length ≤ 1048576 ∧ (∀ x ∈ l, x.f2.length ≤ 1048576) ∧ ∀ x ∈ l.map toNode, sizesNode x := by
  unfold totNodeS at h
  have h0 := totNodeS_parts l
  have key : ∀ x ∈ l, x.f0.size ≤ 1048576 ∧ x.f2.length ≤ 1048576 ∧ (∀ y ∈ x.f2, y.f0.size ≤ 1048576 ∧ y.f1.size ≤ 1048576) ∧ x.f3.size ≤ 1048576 := by
    intro x hx
    have h1 := totNode_mem l x hx
    have hd : totNode x = (x.f0.size : Int) + ((x.f2.length : Int) + (x.f2.map totAttr).sum) + (x.f3.size : Int) := rfl
    have h2 := totAttrS_parts x.f2
    refine ⟨by omega, by omega, fun y hy => ?_, by omega⟩
    have h3 := totAttr_mem x.f2 y hy
    have h4 : totAttr y = (y.f0.size : Int) + (y.f1.size : Int) := rfl
    omega
  refine ⟨by omega, fun x hx => (key x hx).2.1, fun x hx => ?_⟩
  obtain ⟨y, hy, rfl⟩ := List.mem_map.1 hx
  obtain ⟨k0, k1, k2, k3⟩ := key y hy
  have hw := wf_i64 (hg y hy).2.1
  refine ⟨k0, ⟨hw.1, hw.2⟩, by simpa [toNode] using k1, fun z hz => ?_, k3⟩
  obtain ⟨u, hu, rfl⟩ := List.mem_map.1 hz
  exact k2 u hu

/-! attrs_ok -/
-- plain: Evs Mark
/-- all of so many places from one on. -/
def allFrom (p : Nat → Bool) : Nat → Nat → Bool
  | 0, _ => true
  | c + 1, i => p i && allFrom p c (i + 1)
def attrOkAt (l : List S144) (i : Nat) : Bool := isNameL (B (l.getD i z144).f0) && textOk (B (l.getD i z144).f1) && !((l.take i).any fun z => decide (B z.f0 = B (l.getD i z144).f0))
def attrsOk (l : List S144) : Bool := decide (l.length ≤ 12) && allFrom (attrOkAt l) l.length 0
def sizesAttrs (l : List S144) : Prop := l.length ≤ 1048576 ∧ ∀ y ∈ l, y.f0.size ≤ 1048576 ∧ y.f1.size ≤ 1048576
theorem bad_dec (l : List UInt8) : decide (badP l ≥ 0) = !textOk l := by unfold textOk; rw [Bool.eq_iff_iff]; simp
theorem spec_l4Attrs_l1 (l : List S144) (i : Nat) (y : List S144) (hy : y.length ≤ 1048576) (nm vl : ByteArray) (r : Bool) (h : Ev (fun k => spec_l4Attrs.l0 k l l (l.length : Int) (wrap64 ((i : Int) + 1))) r) :
    Ev (fun k => spec_l4Attrs.l1 k l l (l.length : Int) (i : Int) y (y.length : Int) 0 nm vl) (!(y.any fun z => decide (B z.f0 = B nm)) && r) := by
  have key := ev_from y.length (fun j k => spec_l4Attrs.l1 k l l (l.length : Int) (i : Int) y (y.length : Int) (j : Int) nm vl) (fun j => !((y.drop j).any fun z => decide (B z.f0 = B nm)) && r) ?_ ?_ 0 (by omega)
  · exact key
  · simp only [List.drop_length, List.any_nil, Bool.not_false, Bool.true_and]
    exact Ev.step (fun k => spec_l4Attrs.l1.eq_2 ..) (ev_if_neg (by omega) h)
  · intro j hj h2
    have hrd : rd_T144 y (j : Int) = y.getD j z144 := by simp [rd_T144]
    rw [drop_cons y z144 j hj, List.any_cons]
    refine Ev.step (fun k => spec_l4Attrs.l1.eq_2 ..) (ev_if_pos (by omega) (ev_if_pos (by omega) (ev_if_pos (by omega) ?_)))
    rw [hrd]
    by_cases hc : B (y.getD j z144).f0 = B nm
    · rw [decide_eq_true hc]
      exact ev_if_pos (by rw [toList_B, toList_B]; exact hc) (Ev.now _)
    · rw [decide_eq_false hc, Bool.false_or]
      refine ev_if_neg (by rw [toList_B, toList_B]; exact hc) ?_
      rw [wrap_id (x := (j : Int) + 1) (by omega) (by omega), cast_succ]
      exact h2
theorem impl_areAttrs_l1 (l : List S144) (i : Nat) (y : List S144) (hy : y.length ≤ 1048576) (nm vl : ByteArray) (r : Bool) (h : Ev (fun k => impl_areAttrs.l0 k l l (l.length : Int) (wrap64 ((i : Int) + 1))) r) :
    Ev (fun k => impl_areAttrs.l1 k l l (l.length : Int) (i : Int) y (y.length : Int) 0 nm vl) (!(y.any fun z => decide (B z.f0 = B nm)) && r) := by
  have key := ev_from y.length (fun j k => impl_areAttrs.l1 k l l (l.length : Int) (i : Int) y (y.length : Int) (j : Int) nm vl) (fun j => !((y.drop j).any fun z => decide (B z.f0 = B nm)) && r) ?_ ?_ 0 (by omega)
  · exact key
  · simp only [List.drop_length, List.any_nil, Bool.not_false, Bool.true_and]
    exact Ev.step (fun k => impl_areAttrs.l1.eq_2 ..) (ev_if_neg (by omega) h)
  · intro j hj h2
    have hrd : rd_T144 y (j : Int) = y.getD j z144 := by simp [rd_T144]
    rw [drop_cons y z144 j hj, List.any_cons]
    refine Ev.step (fun k => impl_areAttrs.l1.eq_2 ..) (ev_if_pos (by omega) (ev_if_pos (by omega) (ev_if_pos (by omega) ?_)))
    rw [hrd]
    by_cases hc : B (y.getD j z144).f0 = B nm
    · rw [decide_eq_true hc]
      exact ev_if_pos (by rw [toList_B, toList_B]; exact hc.symm) (Ev.now _)
    · rw [decide_eq_false hc, Bool.false_or]
      refine ev_if_neg (by rw [toList_B, toList_B]; exact fun h => hc h.symm) ?_
      rw [wrap_id (x := (j : Int) + 1) (by omega) (by omega), cast_succ]
      exact h2
theorem spec_l4Attrs_ev (l : List S144) (hs : sizesAttrs l) : Ev (fun k => spec_l4Attrs.f k l) (attrsOk l) := by
  obtain ⟨hl, hg⟩ := hs
  simp only [spec_l4Attrs.f]
  unfold attrsOk
  by_cases h12 : l.length ≤ 12
  · rw [decide_eq_true h12, Bool.true_and]
    refine ev_if_neg (by omega) ?_
    have key := ev_from l.length (fun i k => spec_l4Attrs.l0 k l l (l.length : Int) (i : Int)) (fun i => allFrom (attrOkAt l) (l.length - i) i) ?_ ?_ 0 (by omega)
    · exact key
    · rw [Nat.sub_self]
      exact Ev.step (fun k => spec_l4Attrs.l0.eq_2 ..) (ev_if_neg (by omega) (Ev.now _))
    · intro i hi h
      have hmem : l.getD i z144 ∈ l := by rw [List.getD_eq_getElem?_getD, List.getElem?_eq_getElem hi]; exact List.getElem_mem hi
      have hz := hg _ hmem
      have hrd : rd_T144 l (i : Int) = l.getD i z144 := by simp [rd_T144]
      have e : l.length - i = (l.length - (i + 1)) + 1 := by omega
      rw [e, allFrom]
      unfold attrOkAt
      refine Ev.step (fun k => spec_l4Attrs.l0.eq_2 ..) (ev_if_pos (by omega) (ev_if_pos (by omega) (ev_if_pos (by omega) ?_)))
      rw [hrd]
      generalize l.getD i z144 = x at *
      refine ev_bind (spec_l4Name_ev x.f0 hz.1) ?_
      by_cases hn : isNameL (B x.f0) = true
      · rw [hn, Bool.true_and]
        refine ev_if_pos rfl (ev_bind (spec_l4Bad_ev x.f1 hz.2) ?_)
        rw [bad_dec]
        by_cases ht : textOk (B x.f1) = true
        · rw [ht, Bool.true_and]
          refine Ev.step (fun k => spec_l4Attrs.j1.eq_2 ..) (ev_if_neg (by decide) (ev_if_pos (by omega) (ev_if_pos (by omega) (ev_bind0 rfl ?_))))
          refine spec_l4Attrs_l1 l i _ (by rw [List.length_take]; omega) x.f0 x.f1 _ ?_
          rw [wrap_id (x := (i : Int) + 1) (by omega) (by omega), cast_succ]
          exact h
        · rw [Bool.eq_false_iff.mpr ht]
          exact Ev.step (fun k => spec_l4Attrs.j1.eq_2 ..) (ev_if_pos rfl (Ev.now _))
      · rw [Bool.eq_false_iff.mpr hn]
        exact ev_if_neg (by decide) (Ev.step (fun k => spec_l4Attrs.j1.eq_2 ..) (ev_if_pos rfl (Ev.now _)))
  · rw [decide_eq_false h12, Bool.false_and]
    exact ev_if_pos (by omega) (Ev.now _)
theorem impl_areAttrs_ev (l : List S144) (hs : sizesAttrs l) : Ev (fun k => impl_areAttrs.f k l) (attrsOk l) := by
  obtain ⟨hl, hg⟩ := hs
  simp only [impl_areAttrs.f]
  unfold attrsOk
  rw [Bool.and_comm]
  have key := ev_from l.length (fun i k => impl_areAttrs.l0 k l l (l.length : Int) (i : Int)) (fun i => allFrom (attrOkAt l) (l.length - i) i && decide (l.length ≤ 12)) ?_ ?_ 0 (by omega)
  · exact key
  · rw [Nat.sub_self]
    refine Ev.step (fun k => impl_areAttrs.l0.eq_2 ..) (ev_if_neg (by omega) ?_)
    have e : (allFrom (attrOkAt l) 0 l.length && decide (l.length ≤ 12)) = decide ((l.length : Int) ≤ 12) := by rw [allFrom, Bool.true_and, Bool.eq_iff_iff]; simp; omega
    rw [e]; exact Ev.now _
  · intro i hi h
    have hmem : l.getD i z144 ∈ l := by rw [List.getD_eq_getElem?_getD, List.getElem?_eq_getElem hi]; exact List.getElem_mem hi
    have hz := hg _ hmem
    have hrd : rd_T144 l (i : Int) = l.getD i z144 := by simp [rd_T144]
    have e : l.length - i = (l.length - (i + 1)) + 1 := by omega
    rw [e, allFrom]
    unfold attrOkAt
    refine Ev.step (fun k => impl_areAttrs.l0.eq_2 ..) (ev_if_pos (by omega) (ev_if_pos (by omega) (ev_if_pos (by omega) ?_)))
    rw [hrd]
    generalize l.getD i z144 = x at *
    refine ev_bind (impl_isName_ev x.f0 hz.1) ?_
    by_cases hn : isNameL (B x.f0) = true
    · rw [hn, Bool.true_and]
      refine ev_if_pos rfl (ev_bind (impl_badByte_ev x.f1 hz.2) ?_)
      rw [bad_dec]
      by_cases ht : textOk (B x.f1) = true
      · rw [ht, Bool.true_and, Bool.and_assoc]
        refine Ev.step (fun k => impl_areAttrs.j1.eq_2 ..) (ev_if_neg (by decide) (ev_if_pos (by omega) (ev_if_pos (by omega) (ev_bind0 rfl ?_))))
        refine impl_areAttrs_l1 l i _ (by rw [List.length_take]; omega) x.f0 x.f1 _ ?_
        rw [wrap_id (x := (i : Int) + 1) (by omega) (by omega), cast_succ]
        exact h
      · rw [Bool.eq_false_iff.mpr ht]
        exact Ev.step (fun k => impl_areAttrs.j1.eq_2 ..) (ev_if_pos rfl (Ev.now _))
    · rw [Bool.eq_false_iff.mpr hn]
      exact ev_if_neg (by decide) (Ev.step (fun k => impl_areAttrs.j1.eq_2 ..) (ev_if_pos rfl (Ev.now _)))

/-! nodes_ok -/
-- plain: Evs Mark
def nodeAt (l : List S69) (i : Nat) : S69 := l.getD i z69
def upOf (l : List S69) (i : Nat) : Int := (nodeAt l i).f1
/-- the node around stands ahead; the first one has none. -/
def UpOk (l : List S69) (j : Nat) : Prop := (j = 0 ∧ upOf l j = -1) ∨ (0 < j ∧ 0 ≤ upOf l j ∧ upOf l j < (j : Int))
theorem UpOk.lt {l : List S69} {j : Nat} (h : UpOk l j) : -1 ≤ upOf l j ∧ upOf l j < (j : Int) := by rcases h with ⟨h1, h2⟩ | ⟨h1, h2, h3⟩ <;> omega
/-- is u the node a or one around it? -/
def around (l : List S69) (u : Int) : Nat → Int → Bool
  | 0, _ => false
  | n + 1, a => if a < 0 then false else if a = u then true else around l u n (upOf l a.toNat)
/-- how many are around a node, with it. -/
def depth (l : List S69) : Nat → Int → Nat
  | 0, _ => 0
  | n + 1, a => if a < 0 then 0 else depth l n (upOf l a.toNat) + 1
theorem depth_fuel (l : List S69) (m : Nat) (prev : ∀ j, j < m → UpOk l j) : ∀ (n n' : Nat) (a : Int), a < (m : Int) → a < (n : Int) → a < (n' : Int) → depth l n a = depth l n' a := by
  intro n
  induction n with
  | zero =>
    intro n' a h0 h1 h2
    cases n' with
    | zero => rfl
    | succ n' => rw [depth, depth, if_pos (by omega)]
  | succ n ih =>
    intro n' a h0 h1 h2
    cases n' with
    | zero => rw [depth, depth, if_pos (by omega)]
    | succ n' =>
      rw [depth, depth]
      by_cases ha : a < 0
      · rw [if_pos ha, if_pos ha]
      · have hu := (prev a.toNat (by omega)).lt
        rw [if_neg ha, if_neg ha, ih n' (upOf l a.toNat) (by omega) (by omega) (by omega)]
theorem depth_le (l : List S69) : ∀ (n : Nat) (a : Int), depth l n a ≤ n := by
  intro n
  induction n with
  | zero => intro a; simp [depth]
  | succ n ih =>
    intro a
    rw [depth]
    split
    · omega
    · have := ih (upOf l a.toNat); omega
theorem rd_node (l : List S69) (i : Nat) : rd_T69 l (i : Int) = nodeAt l i := by simp [rd_T69, nodeAt]
theorem rd_nodeI (l : List S69) (a : Int) : rd_T69 l a = nodeAt l a.toNat := rfl
theorem impl_isAround_l0 (l : List S69) (m : Nat) (hm : m ≤ l.length) (prev : ∀ j, j < m → UpOk l j) (u : Int) : ∀ (n : Nat) (a : Int), a < (n : Int) → a < (m : Int) → Ev (fun k => impl_isAround.l0 k l u a) (around l u n a) := by
  intro n
  induction n with
  | zero =>
    intro a h1 h2
    exact Ev.step (fun k => impl_isAround.l0.eq_2 ..) (ev_if_neg (by omega) (Ev.now _))
  | succ n ih =>
    intro a h1 h2
    rw [around]
    by_cases ha : a < 0
    · rw [if_pos ha]
      exact Ev.step (fun k => impl_isAround.l0.eq_2 ..) (ev_if_neg (by omega) (Ev.now _))
    · rw [if_neg ha]
      refine Ev.step (fun k => impl_isAround.l0.eq_2 ..) (ev_if_pos (by omega) ?_)
      by_cases hu : a = u
      · rw [if_pos hu]; exact ev_if_pos hu (Ev.now _)
      · rw [if_neg hu]
        have hlt := (prev a.toNat (by omega)).lt
        exact ev_if_neg hu (ev_if_pos (by omega) (ev_if_pos (by omega) (ih (upOf l a.toNat) (by omega) (by omega))))
theorem spec_l4Deep_l0 (l : List S69) (m : Nat) (hm : m ≤ l.length) (hl : l.length ≤ 60) (prev : ∀ j, j < m → UpOk l j) : ∀ (n : Nat) (a : Int) (c : Nat), a < (n : Int) → a < (m : Int) → c + n ≤ 1000 → Ev (fun k => spec_l4Deep.l0 k l a (c : Int)) ((c + depth l n a : Nat) : Int) := by
  intro n
  induction n with
  | zero =>
    intro a c h1 h2 h3
    exact Ev.step (fun k => spec_l4Deep.l0.eq_2 ..) (ev_if_neg (by omega) (Ev.now _))
  | succ n ih =>
    intro a c h1 h2 h3
    rw [depth]
    by_cases ha : a < 0
    · rw [if_pos ha]
      exact Ev.step (fun k => spec_l4Deep.l0.eq_2 ..) (ev_if_neg (by omega) (Ev.now _))
    · rw [if_neg ha]
      have hlt := (prev a.toNat (by omega)).lt
      refine Ev.step (fun k => spec_l4Deep.l0.eq_2 ..) (ev_if_pos (by omega) (ev_if_pos (by omega) (ev_if_pos (by omega) ?_)))
      rw [wrap_id (x := (c : Int) + 1) (by omega) (by omega), cast_succ, show c + (depth l n (upOf l a.toNat) + 1) = (c + 1) + depth l n (upOf l a.toNat) by omega]
      exact ih (upOf l a.toNat) (c + 1) (by omega) (by omega) (by omega)
/-- is a node good, those ahead being so? -/
def NodeOk (l : List S69) (k : Nat) : Prop :=
  UpOk l k ∧ attrsOk (nodeAt l k).f2 = true ∧ (0 < k → around l (upOf l k) k ((k : Int) - 1) = true ∧ ¬ B (nodeAt l (upOf l k).toNat).f0 = []) ∧
  (B (nodeAt l k).f0 = [] → 0 < k ∧ (nodeAt l k).f2.length = 0 ∧ ¬ B (nodeAt l k).f3 = [] ∧ textOk (B (nodeAt l k).f3) = true ∧ ¬ (B (nodeAt l (k - 1)).f0 = [] ∧ upOf l (k - 1) = upOf l k)) ∧
  (¬ B (nodeAt l k).f0 = [] → isNameL (B (nodeAt l k).f0) = true ∧ B (nodeAt l k).f3 = [] ∧ depth l (k + 1) (k : Int) ≤ 10)
theorem node_mem (l : List S69) (i : Nat) (hi : i < l.length) : nodeAt l i ∈ l := by unfold nodeAt; rw [List.getD_eq_getElem?_getD, List.getElem?_eq_getElem hi]; exact List.getElem_mem hi
theorem nodes_l1 (l : List S69) (hl : l.length ≤ 60) (i : Nat) (hi : i < l.length) (prev : ∀ j, j < i → UpOk l j) (n0 : ByteArray) (u : Int) (hu : 0 ≤ u) (ats : List S144) (tx : ByteArray) (r : Bool) :
    ∀ (n : Nat) (a : Int), a < (n : Int) → a < (i : Int) →
    (around l u n a = true → ¬ B (nodeAt l u.toNat).f0 = [] → Ev (fun k => spec_GoodNodes.j3 k l (i : Int) l (l.length : Int) (i : Int) n0 u ats tx) r) →
    (around l u n a = true → B (nodeAt l u.toNat).f0 = [] → r = false) → (around l u n a = false → r = false) →
    Ev (fun k => spec_GoodNodes.l1 k l (i : Int) a l (l.length : Int) (i : Int) n0 u ats tx) r := by
  intro n
  induction n with
  | zero =>
    intro a h1 h2 g1 g2 g3
    rw [g3 rfl]
    exact Ev.step (fun k => spec_GoodNodes.l1.eq_2 ..) (ev_if_neg (by omega) (ev_if_pos (by omega) (Ev.now _)))
  | succ n ih =>
    intro a h1 h2 g1 g2 g3
    rw [around] at g1 g2 g3
    by_cases ha : a < 0
    · rw [if_pos ha] at g3
      rw [g3 rfl]
      exact Ev.step (fun k => spec_GoodNodes.l1.eq_2 ..) (ev_if_neg (by omega) (ev_if_pos (by omega) (Ev.now _)))
    · rw [if_neg ha] at g1 g2 g3
      refine Ev.step (fun k => spec_GoodNodes.l1.eq_2 ..) (ev_if_pos (by omega) ?_)
      by_cases hau : a = u
      · rw [if_pos hau] at g1 g2 g3
        refine ev_if_pos hau (ev_if_neg (by omega) (ev_if_pos (by omega) (ev_if_pos (by omega) ?_)))
        rw [rd_nodeI, hau]
        by_cases hb : B (nodeAt l u.toNat).f0 = []
        · rw [g2 rfl hb]
          exact ev_if_pos (by rw [toList_B]; exact hb) (Ev.now _)
        · exact ev_if_neg (by rw [toList_B]; exact hb) (g1 rfl hb)
      · rw [if_neg hau] at g1 g2 g3
        have hlt := (prev a.toNat (by omega)).lt
        exact ev_if_neg hau (ev_if_pos (by omega) (ev_if_pos (by omega) (ih (upOf l a.toNat) (by omega) (by omega) g1 g2 g3)))
theorem spec_node (l : List S69) (hl : l.length ≤ 60) (hsz : ∀ x ∈ l, sizesNode x) (i : Nat) (hi : i < l.length) (prev : ∀ j, j < i → UpOk l j) (r : Bool)
    (hyes : NodeOk l i → Ev (fun k => spec_GoodNodes.l0 k l l (l.length : Int) ((i + 1 : Nat) : Int)) r) (hno : ¬ NodeOk l i → r = false) :
    Ev (fun k => spec_GoodNodes.l0 k l l (l.length : Int) (i : Int)) r := by
  have hx := hsz _ (node_mem l i hi)
  obtain ⟨x, hxe⟩ : ∃ x, nodeAt l i = x := ⟨_, rfl⟩
  obtain ⟨n0, u, ats, tx⟩ := x
  rw [hxe] at hx
  obtain ⟨z0, z1, z2, z2', z3⟩ := hx
  simp only at z0 z1 z2 z2' z3
  have hu : upOf l i = u := by unfold upOf; rw [hxe]
  have hno1 (h : NodeOk l i → False) : r = false := hno h
  have un : NodeOk l i → UpOk l i ∧ attrsOk ats = true ∧ (0 < i → around l u i ((i : Int) - 1) = true ∧ ¬ B (nodeAt l u.toNat).f0 = []) ∧ (B n0 = [] → 0 < i ∧ ats.length = 0 ∧ ¬ B tx = [] ∧ textOk (B tx) = true ∧ ¬ (B (nodeAt l (i - 1)).f0 = [] ∧ upOf l (i - 1) = u)) ∧ (¬ B n0 = [] → isNameL (B n0) = true ∧ B tx = [] ∧ depth l (i + 1) (i : Int) ≤ 10) := by
    unfold NodeOk; rw [hxe, hu]; exact id
  have nu : UpOk l i ∧ attrsOk ats = true ∧ (0 < i → around l u i ((i : Int) - 1) = true ∧ ¬ B (nodeAt l u.toNat).f0 = []) ∧ (B n0 = [] → 0 < i ∧ ats.length = 0 ∧ ¬ B tx = [] ∧ textOk (B tx) = true ∧ ¬ (B (nodeAt l (i - 1)).f0 = [] ∧ upOf l (i - 1) = u)) ∧ (¬ B n0 = [] → isNameL (B n0) = true ∧ B tx = [] ∧ depth l (i + 1) (i : Int) ≤ 10) → NodeOk l i := by
    unfold NodeOk; rw [hxe, hu]; exact id
  have bad1 (h : r = false) : Ev (fun k => spec_GoodNodes.j1 k l (i : Int) l (l.length : Int) (i : Int) true n0 u ats tx) r := by
    rw [h]; exact Ev.step (fun k => spec_GoodNodes.j1.eq_2 ..) (ev_if_pos rfl (Ev.now _))
  have next (h : NodeOk l i) : Ev (fun k => spec_GoodNodes.l0 k l l (l.length : Int) (wrap64 ((i : Int) + 1))) r := by
    rw [wrap_id (x := (i : Int) + 1) (by omega) (by omega), cast_succ]; exact hyes h
  refine Ev.step (fun k => spec_GoodNodes.l0.eq_2 ..) (ev_if_pos (by omega) (ev_if_pos (by omega) (ev_if_pos (by omega) ?_)))
  rw [rd_node, hxe]
  dsimp only
  refine ev_bind0 (spec_l1In_eq _ _ _) ?_
  rw [wrap_id (x := (i : Int) - 1) (by omega) (by omega)]
  by_cases c1 : -1 ≤ u ∧ u ≤ (i : Int) - 1
  rotate_left
  · exact ev_if_neg (by rw [decide_eq_false c1]; decide) (bad1 (hno1 fun h => c1 (by have := (un h).1.lt; rw [hu] at this; omega)))
  refine ev_if_pos (decide_eq_true c1) ?_
  by_cases c2 : UpOk l i
  rotate_left
  · refine ev_if_pos ?_ (bad1 (hno1 fun h => c2 (un h).1))
    unfold UpOk at c2
    rw [hu] at c2
    by_cases hz : i = 0
    · have h1 : ¬ u = -1 := fun h => c2 (.inl ⟨hz, h⟩)
      rw [beq_eq_false_iff_ne.mpr h1, beq_iff_eq.mpr (show (i : Int) = 0 by omega)]; rfl
    · have h1 : u = -1 := by
        by_cases h : u = -1
        · exact h
        · exact absurd (.inr ⟨by omega, by omega, by omega⟩) c2
      rw [beq_iff_eq.mpr h1, beq_eq_false_iff_ne.mpr (show ¬ (i : Int) = 0 by omega)]; rfl
  refine ev_if_neg ?_ ?_
  · unfold UpOk at c2
    rw [hu] at c2
    rcases c2 with ⟨h1, h2⟩ | ⟨h1, h2, h3⟩
    · rw [beq_iff_eq.mpr h2, beq_iff_eq.mpr (show (i : Int) = 0 by omega)]; decide
    · rw [beq_eq_false_iff_ne.mpr (show ¬ u = -1 by omega), beq_eq_false_iff_ne.mpr (show ¬ (i : Int) = 0 by omega)]; decide
  refine ev_bind (spec_l4Attrs_ev ats ⟨z2, z2'⟩) ?_
  by_cases c3 : attrsOk ats = true
  rotate_left
  · rw [Bool.eq_false_iff.mpr c3]; exact bad1 (hno1 fun h => c3 (un h).2.1)
  rw [c3]
  have prev' : ∀ j, j < i + 1 → UpOk l j := fun j hj => by
    by_cases h : j = i
    · rw [h]; exact c2
    · exact prev j (by omega)
  have tail (c4 : 0 < i → around l u i ((i : Int) - 1) = true ∧ ¬ B (nodeAt l u.toNat).f0 = []) : Ev (fun k => spec_GoodNodes.j3 k l (i : Int) l (l.length : Int) (i : Int) n0 u ats tx) r := by
    refine Ev.step (fun k => spec_GoodNodes.j3.eq_2 ..) ?_
    have badj4 (h : r = false) : Ev (fun k => spec_GoodNodes.j4 k l (i : Int) l (l.length : Int) (i : Int) true n0 u ats tx) r := by
      rw [h]; exact Ev.step (fun k => spec_GoodNodes.j4.eq_2 ..) (ev_if_pos rfl (Ev.now _))
    by_cases cn : B n0 = []
    · refine ev_if_pos (by rw [toList_B]; exact cn) ?_
      by_cases e1 : i = 0
      · exact ev_if_pos (by omega) (badj4 (hno1 fun h => by have := ((un h).2.2.2.1 cn).1; omega))
      refine ev_if_neg (by omega) ?_
      by_cases e2 : ats.length = 0
      rotate_left
      · exact ev_if_pos (by omega) (badj4 (hno1 fun h => e2 ((un h).2.2.2.1 cn).2.1))
      refine ev_if_neg (by omega) ?_
      by_cases e3 : B tx = []
      · exact ev_if_pos (by rw [toList_B]; exact e3) (badj4 (hno1 fun h => ((un h).2.2.2.1 cn).2.2.1 e3))
      refine ev_if_neg (by rw [toList_B]; exact e3) (ev_bind (spec_l4Bad_ev tx z3) ?_)
      rw [bad_dec]
      by_cases e4 : textOk (B tx) = true
      rotate_left
      · rw [Bool.eq_false_iff.mpr e4]; exact badj4 (hno1 fun h => e4 ((un h).2.2.2.1 cn).2.2.2.1)
      rw [e4]
      refine Ev.step (fun k => spec_GoodNodes.j4.eq_2 ..) (ev_if_neg (by decide) ?_)
      rw [wrap_id (x := (i : Int) - 1) (by omega) (by omega)]
      refine ev_if_pos (by omega) (ev_if_pos (by omega) ?_)
      rw [show (i : Int) - 1 = ((i - 1 : Nat) : Int) by omega, rd_node]
      by_cases e5 : B (nodeAt l (i - 1)).f0 = []
      · refine ev_if_pos (by rw [toList_B]; exact e5) ?_
        by_cases e6 : upOf l (i - 1) = u
        · rw [hno1 fun h => ((un h).2.2.2.1 cn).2.2.2.2 ⟨e5, e6⟩]
          exact ev_if_pos e6 (Ev.now _)
        · exact ev_if_neg e6 (next (nu ⟨c2, c3, c4, fun _ => ⟨by omega, e2, e3, e4, fun h => e6 h.2⟩, fun h => absurd cn h⟩))
      · exact ev_if_neg (by rw [toList_B]; exact e5) (next (nu ⟨c2, c3, c4, fun _ => ⟨by omega, e2, e3, e4, fun h => e5 h.1⟩, fun h => absurd cn h⟩))
    · refine ev_if_neg (by rw [toList_B]; exact cn) (ev_bind (spec_l4Name_ev n0 z0) ?_)
      by_cases e1 : isNameL (B n0) = true
      rotate_left
      · rw [hno1 fun h => e1 ((un h).2.2.2.2 cn).1]
        exact ev_if_neg e1 (Ev.now _)
      refine ev_if_pos e1 ?_
      by_cases e2 : B tx = []
      rotate_left
      · rw [hno1 fun h => e2 ((un h).2.2.2.2 cn).2.1]
        exact ev_if_neg (by rw [toList_B]; exact e2) (Ev.now _)
      have hd := spec_l4Deep_l0 l (i + 1) (by omega) hl prev' (i + 1) (i : Int) 0 (by omega) (by omega) (by omega)
      refine ev_if_pos (by rw [toList_B]; exact e2) (ev_bind (show Ev (fun k => spec_l4Deep.f k l (i : Int)) _ from hd) ?_)
      by_cases e3 : depth l (i + 1) (i : Int) ≤ 10
      · exact ev_if_neg (by omega) (next (nu ⟨c2, c3, c4, fun h => absurd h cn, fun _ => ⟨e1, e2, e3⟩⟩))
      · rw [hno1 fun h => e3 ((un h).2.2.2.2 cn).2.2]
        exact ev_if_pos (by omega) (Ev.now _)
  refine Ev.step (fun k => spec_GoodNodes.j1.eq_2 ..) (ev_if_neg (by decide) ?_)
  by_cases hz : i = 0
  · exact ev_if_neg (by omega) (tail (fun h => by omega))
  · refine ev_if_pos (by omega) ?_
    rw [wrap_id (x := (i : Int) - 1) (by omega) (by omega)]
    have hu0 : 0 ≤ u := by have c2' := c2; unfold UpOk at c2'; rw [hu] at c2'; rcases c2' with h | h <;> omega
    exact nodes_l1 l hl i hi prev n0 u hu0 ats tx r i ((i : Int) - 1) (by omega) (by omega) (fun g1 g2 => tail (fun _ => ⟨g1, g2⟩)) (fun g1 g2 => hno1 fun h => ((un h).2.2.1 (by omega)).2 g2) (fun g1 => hno1 fun h => by have := ((un h).2.2.1 (by omega)).1; rw [g1] at this; cases this)
theorem impl_node (l : List S69) (hl : l.length ≤ 60) (hsz : ∀ x ∈ l, sizesNode x) (i : Nat) (hi : i < l.length) (prev : ∀ j, j < i → UpOk l j) (xs : List Int) (hxl : xs.length = l.length) (hxs : ∀ j, j < i → xs.getD j 0 = ((depth l (j + 1) (j : Int) : Nat) : Int)) (r : Bool)
    (hyes : NodeOk l i → ∀ ys : List Int, ys.length = l.length → (∀ j, j < i + 1 → ys.getD j 0 = ((depth l (j + 1) (j : Int) : Nat) : Int)) → Ev (fun k => impl_GoodNodes.l0 k l ys l (l.length : Int) ((i + 1 : Nat) : Int)) r) (hno : ¬ NodeOk l i → r = false) :
    Ev (fun k => impl_GoodNodes.l0 k l xs l (l.length : Int) (i : Int)) r := by
  have hx := hsz _ (node_mem l i hi)
  obtain ⟨x, hxe⟩ : ∃ x, nodeAt l i = x := ⟨_, rfl⟩
  obtain ⟨n0, u, ats, tx⟩ := x
  rw [hxe] at hx
  obtain ⟨z0, z1, z2, z2', z3⟩ := hx
  simp only at z0 z1 z2 z2' z3
  have hu : upOf l i = u := by unfold upOf; rw [hxe]
  have hno1 (h : NodeOk l i → False) : r = false := hno h
  have un : NodeOk l i → UpOk l i ∧ attrsOk ats = true ∧ (0 < i → around l u i ((i : Int) - 1) = true ∧ ¬ B (nodeAt l u.toNat).f0 = []) ∧ (B n0 = [] → 0 < i ∧ ats.length = 0 ∧ ¬ B tx = [] ∧ textOk (B tx) = true ∧ ¬ (B (nodeAt l (i - 1)).f0 = [] ∧ upOf l (i - 1) = u)) ∧ (¬ B n0 = [] → isNameL (B n0) = true ∧ B tx = [] ∧ depth l (i + 1) (i : Int) ≤ 10) := by
    unfold NodeOk; rw [hxe, hu]; exact id
  have nu : UpOk l i ∧ attrsOk ats = true ∧ (0 < i → around l u i ((i : Int) - 1) = true ∧ ¬ B (nodeAt l u.toNat).f0 = []) ∧ (B n0 = [] → 0 < i ∧ ats.length = 0 ∧ ¬ B tx = [] ∧ textOk (B tx) = true ∧ ¬ (B (nodeAt l (i - 1)).f0 = [] ∧ upOf l (i - 1) = u)) ∧ (¬ B n0 = [] → isNameL (B n0) = true ∧ B tx = [] ∧ depth l (i + 1) (i : Int) ≤ 10) → NodeOk l i := by
    unfold NodeOk; rw [hxe, hu]; exact id
  have bad1 (h : r = false) : Ev (fun k => impl_GoodNodes.j1 k l xs (i : Int) l (l.length : Int) (i : Int) true n0 u ats tx) r := by
    rw [h]; exact Ev.step (fun k => impl_GoodNodes.j1.eq_2 ..) (ev_if_pos rfl (Ev.now _))
  have bad3 (h : r = false) : Ev (fun k => impl_GoodNodes.j3 k l xs (i : Int) l (l.length : Int) (i : Int) true n0 u ats tx) r := by
    rw [h]; exact Ev.step (fun k => impl_GoodNodes.j3.eq_2 ..) (ev_if_pos rfl (Ev.now _))
  have hup : upOf l i = u := hu
  -- the last part: where the node stands, and how deep
  have tail (c3 : attrsOk ats = true) (cE : B n0 = [] → ats.length = 0 ∧ ¬ B tx = [] ∧ textOk (B tx) = true) (cN : ¬ B n0 = [] → isNameL (B n0) = true ∧ B tx = []) :
      Ev (fun k => impl_GoodNodes.j2 k l xs (i : Int) l (l.length : Int) (i : Int) n0 u ats tx) r := by
    refine Ev.step (fun k => impl_GoodNodes.j2.eq_2 ..) ?_
    by_cases hz : i = 0
    · refine ev_if_pos (by omega) ?_
      by_cases cn : B n0 = []
      · rw [hno1 fun h => by have := ((un h).2.2.2.1 cn).1; omega]
        exact ev_if_pos (by rw [toList_B]; exact cn) (Ev.now _)
      · refine ev_if_neg (by rw [toList_B]; exact cn) ?_
        by_cases cu : u = -1
        · refine ev_if_pos cu (ev_if_pos (by omega) ?_)
          rw [wrap_id (x := (i : Int) + 1) (by omega) (by omega), cast_succ]
          have hd : depth l (0 + 1) ((0 : Nat) : Int) = 1 := by
            have hu2 : upOf l ((0 : Nat) : Int).toNat = -1 := by show upOf l 0 = -1; rw [← hz, hu]; exact cu
            rw [depth, if_neg (by omega), hu2, depth]
          refine hyes (nu ⟨.inl ⟨hz, by rw [hu]; exact cu⟩, c3, fun h => by omega, fun h => absurd h cn, fun h => ⟨(cN h).1, (cN h).2, ?_⟩⟩) _ (by rw [List.length_set]; exact hxl) (fun j hj => ?_)
          · rw [hz, hd]; omega
          · obtain rfl : j = 0 := by omega
            rw [hd]
            show (xs.set 0 1).getD 0 0 = 1
            rw [List.getD_eq_getElem?_getD, List.getElem?_set_self (by omega)]; rfl
        · rw [hno1 fun h => cu (by rcases (un h).1 with ⟨_, h2⟩ | ⟨h2, _⟩; rw [hu] at h2; exact h2; omega)]
          exact ev_if_neg cu (Ev.now _)
    · refine ev_if_neg (by omega) (ev_bind0 (impl_within_eq _ _ _) ?_)
      rw [wrap_id (x := (i : Int) - 1) (by omega) (by omega)]
      by_cases c1 : 0 ≤ u ∧ u ≤ (i : Int) - 1
      rotate_left
      · exact ev_if_neg (by rw [decide_eq_false c1]; decide) (bad3 (hno1 fun h => c1 (by rcases (un h).1 with ⟨h1, _⟩ | ⟨h1, h2, h3⟩; omega; rw [hu] at h2 h3; omega)))
      have c2 : UpOk l i := .inr ⟨by omega, by rw [hu]; exact c1.1, by rw [hu]; omega⟩
      have prev' : ∀ j, j < i + 1 → UpOk l j := fun j hj => by
        by_cases h : j = i
        · rw [h]; exact c2
        · exact prev j (by omega)
      refine ev_if_pos (decide_eq_true c1) (ev_if_pos c1.1 (ev_if_pos (by omega) ?_))
      rw [rd_nodeI]
      by_cases c4 : B (nodeAt l u.toNat).f0 = []
      · exact ev_if_pos (by rw [toList_B]; exact c4) (bad3 (hno1 fun h => ((un h).2.2.1 (by omega)).2 c4))
      refine ev_if_neg (by rw [toList_B]; exact c4) (ev_bind (show Ev (fun k => impl_isAround.f k l u ((i : Int) - 1)) _ from impl_isAround_l0 l i (by omega) prev u i ((i : Int) - 1) (by omega) (by omega)) ?_)
      by_cases c5 : around l u i ((i : Int) - 1) = true
      rotate_left
      · rw [Bool.eq_false_iff.mpr c5]; exact bad3 (hno1 fun h => c5 ((un h).2.2.1 (by omega)).1)
      rw [c5]
      refine Ev.step (fun k => impl_GoodNodes.j3.eq_2 ..) (ev_if_neg (by decide) ?_)
      -- the neighbour ahead, then the depth
      have hdu : depth l (i + 1) (i : Int) = depth l (u.toNat + 1) u + 1 := by
        have hu2 : upOf l ((i : Nat) : Int).toNat = u := by show upOf l i = u; exact hu
        rw [depth, if_neg (by omega), hu2, depth_fuel l (i + 1) prev' i (u.toNat + 1) u (by omega) (by omega) (by omega)]
      have hxu : rd xs u = ((depth l (u.toNat + 1) u : Nat) : Int) := by
        have := hxs u.toNat (by omega)
        rw [show ((u.toNat : Nat) : Int) = u by omega] at this
        exact this
      have hdl := depth_le l (u.toNat + 1) u
      have fin (cX : B n0 = [] → ¬ (B (nodeAt l (i - 1)).f0 = [] ∧ upOf l (i - 1) = u)) : Ev (fun k => impl_GoodNodes.j4 k l xs (i : Int) l (l.length : Int) (i : Int) false n0 u ats tx) r := by
        refine Ev.step (fun k => impl_GoodNodes.j4.eq_2 ..) (ev_if_neg (by decide) (ev_if_pos c1.1 (ev_if_pos (by omega) (ev_if_pos (by omega) (ev_if_pos (by omega) (ev_bind0 rfl ?_))))))
        rw [hxu, Int.toNat_natCast, wrap_id (x := ((depth l (u.toNat + 1) u : Nat) : Int) + 1) (by omega) (by omega), cast_succ, ← hdu, wrap_id (x := (i : Int) + 1) (by omega) (by omega), cast_succ]
        have hys : ∀ j, j < i + 1 → (xs.set i ((depth l (i + 1) (i : Int) : Nat) : Int)).getD j 0 = ((depth l (j + 1) (j : Int) : Nat) : Int) := by
          intro j hj
          by_cases h : j = i
          · subst h; rw [List.getD_eq_getElem?_getD, List.getElem?_set_self (by omega)]; rfl
          · rw [List.getD_eq_getElem?_getD, List.getElem?_set_ne (by omega), ← List.getD_eq_getElem?_getD]; exact hxs j (by omega)
        by_cases cn : B n0 = []
        · refine ev_if_pos (by rw [toList_B]; exact cn) ?_
          exact hyes (nu ⟨c2, c3, fun _ => ⟨c5, c4⟩, fun h => ⟨by omega, (cE h).1, (cE h).2.1, (cE h).2.2, cX h⟩, fun h => absurd cn h⟩) _ (by rw [List.length_set]; exact hxl) hys
        · refine ev_if_neg (by rw [toList_B]; exact cn) ?_
          have hrd : rd (xs.set i ((depth l (i + 1) (i : Int) : Nat) : Int)) (i : Int) = ((depth l (i + 1) (i : Int) : Nat) : Int) := by rw [rd_nat]; exact hys i (by omega)
          rw [hrd]
          by_cases e3 : depth l (i + 1) (i : Int) ≤ 10
          · exact ev_if_neg (by omega) (hyes (nu ⟨c2, c3, fun _ => ⟨c5, c4⟩, fun h => absurd h cn, fun h => ⟨(cN h).1, (cN h).2, e3⟩⟩) _ (by rw [List.length_set]; exact hxl) hys)
          · rw [hno1 fun h => e3 ((un h).2.2.2.2 cn).2.2]
            exact ev_if_pos (by omega) (Ev.now _)
      by_cases cn : B n0 = []
      · refine ev_if_pos (by rw [toList_B]; exact cn) ?_
        rw [wrap_id (x := (i : Int) - 1) (by omega) (by omega)]
        refine ev_if_pos (by omega) (ev_if_pos (by omega) ?_)
        rw [show (i : Int) - 1 = ((i - 1 : Nat) : Int) by omega, rd_node]
        by_cases e5 : B (nodeAt l (i - 1)).f0 = []
        · refine ev_if_pos (by rw [toList_B]; exact e5) ?_
          by_cases e6 : upOf l (i - 1) = u
          · rw [show ((nodeAt l (i - 1)).f1 == u) = true from beq_iff_eq.mpr e6, hno1 fun h => ((un h).2.2.2.1 cn).2.2.2.2 ⟨e5, e6⟩]
            exact Ev.step (fun k => impl_GoodNodes.j4.eq_2 ..) (ev_if_pos rfl (Ev.now _))
          · rw [show ((nodeAt l (i - 1)).f1 == u) = false from beq_eq_false_iff_ne.mpr e6]
            exact fin (fun _ h => e6 h.2)
        · exact ev_if_neg (by rw [toList_B]; exact e5) (fin (fun _ h => e5 h.1))
      · exact ev_if_neg (by rw [toList_B]; exact cn) (fin (fun h => absurd h cn))
  refine Ev.step (fun k => impl_GoodNodes.l0.eq_2 ..) (ev_if_pos (by omega) (ev_if_pos (by omega) (ev_if_pos (by omega) ?_)))
  rw [rd_node, hxe]
  dsimp only
  by_cases cn : B n0 = []
  · refine ev_if_pos (by rw [toList_B]; exact cn) ?_
    by_cases e3 : B tx = []
    · exact ev_if_pos (by rw [toList_B]; exact e3) (bad1 (hno1 fun h => ((un h).2.2.2.1 cn).2.2.1 e3))
    refine ev_if_neg (by rw [toList_B]; exact e3) ?_
    by_cases e2 : ats.length = 0
    rotate_left
    · exact ev_if_pos (by omega) (bad1 (hno1 fun h => e2 ((un h).2.2.2.1 cn).2.1))
    refine ev_if_neg (by omega) (ev_bind (impl_badByte_ev tx z3) ?_)
    rw [bad_dec]
    by_cases e4 : textOk (B tx) = true
    rotate_left
    · rw [Bool.eq_false_iff.mpr e4]; exact bad1 (hno1 fun h => e4 ((un h).2.2.2.1 cn).2.2.2.1)
    rw [e4]
    refine Ev.step (fun k => impl_GoodNodes.j1.eq_2 ..) (ev_if_neg (by decide) (ev_if_pos (by rw [toList_B]; exact cn) (tail ?_ (fun _ => ⟨e2, e3, e4⟩) (fun h => absurd cn h))))
    obtain rfl := List.length_eq_zero_iff.mp e2
    rfl
  · refine ev_if_neg (by rw [toList_B]; exact cn) (Ev.step (fun k => impl_GoodNodes.j1.eq_2 ..) (ev_if_neg (by decide) (ev_if_neg (by rw [toList_B]; exact cn) (ev_bind (impl_isName_ev n0 z0) ?_))))
    by_cases e1 : isNameL (B n0) = true
    rotate_left
    · rw [hno1 fun h => e1 ((un h).2.2.2.2 cn).1]
      exact ev_if_neg e1 (Ev.now _)
    refine ev_if_pos e1 ?_
    by_cases e2 : B tx = []
    rotate_left
    · rw [hno1 fun h => e2 ((un h).2.2.2.2 cn).2.1]
      exact ev_if_neg (by rw [toList_B]; exact e2) (Ev.now _)
    refine ev_if_pos (by rw [toList_B]; exact e2) (ev_bind (impl_areAttrs_ev ats ⟨z2, z2'⟩) ?_)
    by_cases c3 : attrsOk ats = true
    rotate_left
    · rw [hno1 fun h => c3 (un h).2.1]
      exact ev_if_neg c3 (Ev.now _)
    exact ev_if_pos c3 (tail c3 (fun h => absurd h cn) (fun _ => ⟨e1, e2⟩))
theorem nodes_both (l : List S69) (hl : l.length ≤ 60) (hsz : ∀ x ∈ l, sizesNode x) : ∀ (c i : Nat) (xs : List Int), i + c = l.length → (∀ j, j < i → NodeOk l j) → xs.length = l.length → (∀ j, j < i → xs.getD j 0 = ((depth l (j + 1) (j : Int) : Nat) : Int)) →
    ∃ r, Ev (fun k => spec_GoodNodes.l0 k l l (l.length : Int) (i : Int)) r ∧ Ev (fun k => impl_GoodNodes.l0 k l xs l (l.length : Int) (i : Int)) r ∧ (r = true → ∀ j, j < l.length → NodeOk l j) := by
  intro c
  induction c with
  | zero =>
    intro i xs hc hp hx1 hx2
    exact ⟨true, Ev.step (fun k => spec_GoodNodes.l0.eq_2 ..) (ev_if_neg (by omega) (Ev.now _)), Ev.step (fun k => impl_GoodNodes.l0.eq_2 ..) (ev_if_neg (by omega) (Ev.now _)), fun _ j hj => hp j (by omega)⟩
  | succ c ih =>
    intro i xs hc hp hx1 hx2
    have prev : ∀ j, j < i → UpOk l j := fun j hj => (hp j hj).1
    by_cases h : NodeOk l i
    · have hp' : ∀ j, j < i + 1 → NodeOk l j := fun j hj => by
        by_cases he : j = i
        · rw [he]; exact h
        · exact hp j (by omega)
      -- the answers of both from the next one on: told by spec's, which is one
      obtain ⟨r, g1, _, g3⟩ := ih (i + 1) ((List.range l.length).map fun j => ((depth l (j + 1) (j : Int) : Nat) : Int)) (by omega) hp' (by simp) (fun j hj => by simp [show j < l.length by omega])
      refine ⟨r, spec_node l hl hsz i (by omega) prev r (fun _ => g1) (fun hn => absurd h hn), impl_node l hl hsz i (by omega) prev xs hx1 hx2 r (fun _ ys hy1 hy2 => ?_) (fun hn => absurd h hn), g3⟩
      obtain ⟨r', f1, f2, _⟩ := ih (i + 1) ys (by omega) hp' hy1 hy2
      rw [ev_unique g1 f1]; exact f2
    · exact ⟨false, spec_node l hl hsz i (by omega) prev false (fun hy => absurd hy h) (fun _ => rfl), impl_node l hl hsz i (by omega) prev xs hx1 hx2 false (fun hy => absurd hy h) (fun _ => rfl), fun hf => by cases hf⟩
theorem GoodNodes_both (l : List S69) (hn : l.length ≤ 1048576) (hsz : ∀ x ∈ l, sizesNode x) : ∃ r, Ev (fun k => spec_GoodNodes.f k l) r ∧ Ev (fun k => impl_GoodNodes.f k l) r ∧ (r = true → (1 ≤ l.length ∧ l.length ≤ 60) ∧ ∀ j, j < l.length → NodeOk l j) := by
  simp only [spec_GoodNodes.f, impl_GoodNodes.f]
  by_cases h : 1 ≤ l.length ∧ l.length ≤ 60
  · obtain ⟨r, g1, g2, g3⟩ := nodes_both l h.2 hsz l.length 0 (List.replicate l.length 0) (by omega) (fun j hj => by omega) (by simp) (fun j hj => by omega)
    exact ⟨r, ev_bind0 (spec_l1In_eq _ _ _) (ev_if_pos (decide_eq_true (by omega)) g1), ev_bind0 (impl_within_eq _ _ _) (ev_if_pos (decide_eq_true (by omega)) (ev_if_pos (by omega) (ev_if_pos (by omega) g2))), fun hr => ⟨h, g3 hr⟩⟩
  · exact ⟨false, ev_bind0 (spec_l1In_eq _ _ _) (ev_if_neg (by rw [decide_eq_false (by omega)]; decide) (Ev.now _)), ev_bind0 (impl_within_eq _ _ _) (ev_if_neg (by rw [decide_eq_false (by omega)]; decide) (Ev.now _)), fun hf => by cases hf⟩

/-! cyc1 -/
-- plain: Evs Mark Str
def hrefCut (v : ByteArray) : ByteArray := if (cutPrefix v (⟨#[35]⟩ : ByteArray)).2 = true then (cutPrefix v (⟨#[35]⟩ : ByteArray)).1 else (⟨#[]⟩ : ByteArray)
theorem hrefCut_ref (v : ByteArray) : (if (v.size : Int) = 0 then (some (⟨#[]⟩ : ByteArray)) else (if 0 < (v.size : Int) then (if (bt v 0) = 35 then (if 1 ≤ (v.size : Int) then (some (v.extract 1 v.size)) else (none)) else (some (⟨#[]⟩ : ByteArray))) else (none))) = some (hrefCut v) := by
  have hB : B (⟨#[35]⟩ : ByteArray) = [35] := rfl
  by_cases h0 : (v.size : Int) = 0
  · rw [if_pos h0]
    have hv : B v = [] := List.eq_nil_of_length_eq_zero (by rw [B_len]; omega)
    unfold hrefCut cutPrefix
    rw [hB, hv, if_neg (c := [35] <+: ([] : List UInt8)) (by simp)]; rfl
  · rw [if_neg h0, if_pos (by omega)]
    have hb := bt_B v 0 (by omega)
    have hlen := B_len v
    cases hv : B v with
    | nil => rw [hv] at hlen; simp at hlen; omega
    | cons c l =>
      rw [hv] at hb
      simp only [List.getD_cons_zero, Int.ofNat_zero, Int.natCast_zero, Int.cast_ofNat_Int] at hb
      unfold hrefCut cutPrefix
      rw [hB, hv]
      by_cases hc : c = 35
      · subst hc
        rw [if_pos (by rw [hb]; rfl), if_pos (by omega), if_pos (c := [35] <+: 35 :: l) (by simp)]
        rfl
      · rw [if_neg (c := bt v 0 = 35) (by rw [hb]; intro h; exact hc ((u8_nat (n := 35) (by decide)).1 h)), if_neg (c := [35] <+: c :: l) (by simp; exact fun h => hc h.symm)]
        rfl
theorem HrefOf_same (n : ByteArray) (u : Int) (l : List S144) (t : ByteArray) (hl : l.length ≤ 9223372036854775807) : ∃ r, Ev (fun k => spec_HrefOf.f k n u l t) r ∧ Ev (fun k => impl_HrefOf.f k n u l t) r := by
  simp only [spec_HrefOf.f, impl_HrefOf.f]
  have g1 := attrFind l (⟨#[104, 114, 101, 102]⟩ : ByteArray)
  by_cases hc : (attrFind l (⟨#[104, 114, 101, 102]⟩ : ByteArray)).2 = true
  · refine ⟨hrefCut (attrFind l (⟨#[104, 114, 101, 102]⟩ : ByteArray)).1, ?_, ?_⟩
    · refine ev_bind (spec_AttrOf_ev n u l t _ hl) (ev_if_pos hc ?_)
      rw [hrefCut_ref]; exact Ev.now _
    · refine ev_bind (impl_AttrOf_ev n u l t _ hl) (ev_if_pos hc ?_)
      rw [strings_CutPrefix_eq]
      simp only [Option.bind_some]
      unfold hrefCut
      split <;> exact Ev.now _
  · refine ⟨hrefCut (attrFind l (⟨#[120, 108, 105, 110, 107, 58, 104, 114, 101, 102]⟩ : ByteArray)).1, ?_, ?_⟩
    · refine ev_bind (spec_AttrOf_ev n u l t _ hl) (ev_if_neg hc (ev_bind (spec_AttrOf_ev n u l t _ hl) ?_))
      rw [hrefCut_ref]; exact Ev.now _
    · refine ev_bind (impl_AttrOf_ev n u l t _ hl) (ev_if_neg hc (ev_bind (impl_AttrOf_ev n u l t _ hl) ?_))
      rw [strings_CutPrefix_eq]
      simp only [Option.bind_some]
      unfold hrefCut
      split <;> exact Ev.now _
theorem around_low (l : List S69) (prev : ∀ j, j < l.length → UpOk l j) (u : Int) : ∀ (n : Nat) (a : Int), a < u → a < (l.length : Int) → around l u n a = false := by
  intro n
  induction n with
  | zero => intro a h1 h2; rfl
  | succ n ih =>
    intro a h1 h2
    rw [around]
    by_cases ha : a < 0
    · rw [if_pos ha]
    · have hlt := (prev a.toNat (by omega)).lt
      rw [if_neg ha, if_neg (by omega)]
      exact ih _ (by omega) (by omega)
theorem l8_both (l : List S69) (hl : l.length ≤ 60) (hok : ∀ j, j < l.length → NodeOk l j) (hsz : ∀ x ∈ l, sizesNode x) (a : ByteArray) (ha : ¬ B a = []) : ∀ (c i : Nat), i + c = l.length →
    ∃ r, Ev (fun k => spec_l8Node.l0 k a l (l.length : Int) (i : Int)) r ∧ Ev (fun k => impl_NodeOf.l0 k a l (l.length : Int) (i : Int)) r ∧ (-1 ≤ r ∧ r < (l.length : Int)) ∧ (0 ≤ r → ¬ B (nodeAt l r.toNat).f0 = []) := by
  intro c
  induction c with
  | zero =>
    intro i hi
    exact ⟨-1, Ev.step (fun k => spec_l8Node.l0.eq_2 ..) (ev_if_neg (by omega) (Ev.now _)), Ev.step (fun k => impl_NodeOf.l0.eq_2 ..) (ev_if_neg (by omega) (Ev.now _)), by omega, fun h => by omega⟩
  | succ c ih =>
    intro i hi
    obtain ⟨r, g1, g2, g3⟩ := ih (i + 1) (by omega)
    have hx := hsz _ (node_mem l i (by omega))
    have hE := (hok i (by omega)).2.2.2.1
    obtain ⟨x, hxe⟩ : ∃ x, nodeAt l i = x := ⟨_, rfl⟩
    rw [hxe] at hx hE
    have z2 := hx.2.2.1
    have s1 := spec_AttrOf_ev x.f0 x.f1 x.f2 x.f3 (⟨#[105, 100]⟩ : ByteArray) (by omega)
    have s2 := impl_AttrOf_ev x.f0 x.f1 x.f2 x.f3 (⟨#[105, 100]⟩ : ByteArray) (by omega)
    have hemp : B x.f0 = [] → (attrFind x.f2 (⟨#[105, 100]⟩ : ByteArray)).2 = false := fun h => by
      have := List.length_eq_zero_iff.mp (hE h).2.1
      rw [this]; rfl
    generalize attrFind x.f2 (⟨#[105, 100]⟩ : ByteArray) = d at *
    have next1 : Ev (fun k => spec_l8Node.l0 k a l (l.length : Int) (wrap64 ((i : Int) + 1))) r := by rw [wrap_id (x := (i : Int) + 1) (by omega) (by omega), cast_succ]; exact g1
    have next2 : Ev (fun k => impl_NodeOf.l0 k a l (l.length : Int) (wrap64 ((i : Int) + 1))) r := by rw [wrap_id (x := (i : Int) + 1) (by omega) (by omega), cast_succ]; exact g2
    have e1 : ∀ r, Ev (fun k => if x.f0.toList = ([] : List UInt8) then (spec_l8Node.l0 k a l (l.length : Int) (wrap64 ((i : Int) + 1))) else (if d.2 = true then (if d.1.toList = a.toList then (if a.toList = ([] : List UInt8) then (spec_l8Node.l0 k a l (l.length : Int) (wrap64 ((i : Int) + 1))) else (some (i : Int))) else (spec_l8Node.l0 k a l (l.length : Int) (wrap64 ((i : Int) + 1)))) else (spec_l8Node.l0 k a l (l.length : Int) (wrap64 ((i : Int) + 1))))) r → Ev (fun k => spec_l8Node.l0 k a l (l.length : Int) (i : Int)) r := by
      intro r h
      refine Ev.step (fun k => spec_l8Node.l0.eq_2 ..) (ev_if_pos (by omega) (ev_if_pos (by omega) (ev_if_pos (by omega) ?_)))
      rw [rd_node, hxe]
      exact ev_bind s1 h
    have e2 : ∀ r, Ev (fun k => if d.2 = true then (if d.1.toList = a.toList then (some (i : Int)) else (impl_NodeOf.l0 k a l (l.length : Int) (wrap64 ((i : Int) + 1)))) else (impl_NodeOf.l0 k a l (l.length : Int) (wrap64 ((i : Int) + 1)))) r → Ev (fun k => impl_NodeOf.l0 k a l (l.length : Int) (i : Int)) r := by
      intro r h
      refine Ev.step (fun k => impl_NodeOf.l0.eq_2 ..) (ev_if_pos (by omega) (ev_if_pos (by omega) (ev_if_pos (by omega) ?_)))
      rw [rd_node, hxe]
      exact ev_bind s2 h
    by_cases hn : B x.f0 = []
    · exact ⟨r, e1 r (ev_if_pos (by rw [toList_B]; exact hn) next1), e2 r (ev_if_neg (by rw [hemp hn]; decide) next2), g3⟩
    · have hn' : ¬ x.f0.toList = ([] : List UInt8) := by rw [toList_B]; exact hn
      by_cases hd : d.2 = true
      · by_cases he : d.1.toList = a.toList
        · exact ⟨(i : Int), e1 _ (ev_if_neg hn' (ev_if_pos hd (ev_if_pos he (ev_if_neg (by rw [toList_B]; exact ha) (Ev.now _))))), e2 _ (ev_if_pos hd (ev_if_pos he (Ev.now _))), by omega, fun _ => by rw [Int.toNat_natCast, hxe]; exact hn⟩
        · exact ⟨r, e1 _ (ev_if_neg hn' (ev_if_pos hd (ev_if_neg he next1))), e2 _ (ev_if_pos hd (ev_if_neg he next2)), g3⟩
      · exact ⟨r, e1 _ (ev_if_neg hn' (ev_if_neg hd next1)), e2 _ (ev_if_neg hd next2), g3⟩
theorem l8_empty (l : List S69) (hl : l.length ≤ 60) (hsz : ∀ x ∈ l, sizesNode x) (a : ByteArray) (ha : B a = []) : Ev (fun k => spec_l8Node.f k l a) (-1) := by
  refine Ev.congr (f := fun k => spec_l8Node.l0 k a l (l.length : Int) 0) (fun k => rfl) ?_
  have key := ev_up l.length (fun i k => spec_l8Node.l0 k a l (l.length : Int) (i : Int)) (-1) ?_ ?_
  · exact key
  · exact Ev.step (fun k => spec_l8Node.l0.eq_2 ..) (ev_if_neg (by omega) (Ev.now _))
  · intro i hi h
    have hx := hsz _ (node_mem l i (by omega))
    have z2 := hx.2.2.1
    have next1 : Ev (fun k => spec_l8Node.l0 k a l (l.length : Int) (wrap64 ((i : Int) + 1))) (-1) := by rw [wrap_id (x := (i : Int) + 1) (by omega) (by omega), cast_succ]; exact h
    refine Ev.step (fun k => spec_l8Node.l0.eq_2 ..) (ev_if_pos (by omega) (ev_if_pos (by omega) (ev_if_pos (by omega) ?_)))
    rw [rd_node]
    generalize nodeAt l i = x at *
    have s1 := spec_AttrOf_ev x.f0 x.f1 x.f2 x.f3 (⟨#[105, 100]⟩ : ByteArray) (by omega)
    generalize attrFind x.f2 (⟨#[105, 100]⟩ : ByteArray) = d at *
    refine ev_bind s1 ?_
    by_cases hn : x.f0.toList = ([] : List UInt8)
    · exact ev_if_pos hn next1
    · refine ev_if_neg hn ?_
      by_cases hd : d.2 = true
      · refine ev_if_pos hd ?_
        by_cases he : d.1.toList = a.toList
        · exact ev_if_pos he (ev_if_pos (by rw [toList_B]; exact ha) next1)
        · exact ev_if_neg he next1
      · exact ev_if_neg hd next1
theorem slices_Index_i_ev (l : List Int) (a : Int) (hl : l.length ≤ 9223372036854775807) : ∀ (m i : Nat), i + m = l.length → ∃ r, Ev (fun k => slices_Index_int_int.l0 k l a (l.length : Int) (i : Int)) r ∧ (r ≥ 0 ↔ a ∈ l.drop i) := by
  intro m
  induction m with
  | zero =>
    intro i hi
    refine ⟨-1, Ev.step (fun k => slices_Index_int_int.l0.eq_2 ..) (ev_if_neg (by omega) (Ev.now _)), ?_⟩
    rw [List.drop_eq_nil_of_le (by omega)]
    simp
  | succ m ih =>
    intro i hi
    rw [drop_cons l 0 i (by omega)]
    have er : rd l (i : Int) = l.getD i 0 := by unfold rd; rw [Int.toNat_natCast]
    by_cases hc : a = l.getD i 0
    · refine ⟨(i : Int), Ev.step (fun k => slices_Index_int_int.l0.eq_2 ..) (ev_if_pos (by omega) (ev_if_pos (by omega) (ev_if_pos (by omega) (ev_if_pos (by rw [er]; exact hc) (Ev.now _))))), ?_⟩
      exact ⟨fun _ => by rw [← hc]; exact List.mem_cons_self .., fun _ => by omega⟩
    · obtain ⟨r, h1, h2⟩ := ih (i + 1) (by omega)
      refine ⟨r, Ev.step (fun k => slices_Index_int_int.l0.eq_2 ..) (ev_if_pos (by omega) (ev_if_pos (by omega) (ev_if_pos (by omega) (ev_if_neg (by rw [er]; exact hc) ?_)))), ?_⟩
      · rw [wrap_id (x := (i : Int) + 1) (by omega) (by omega), cast_succ]; exact h1
      · rw [h2]
        exact ⟨fun h => List.mem_cons_of_mem _ h, fun h => by rcases List.mem_cons.mp h with h | h; exact absurd h hc; exact h⟩
theorem slices_Contains_i_ev (l : List Int) (a : Int) (hl : l.length ≤ 9223372036854775807) : Ev (fun k => slices_Contains_int_int.f k l a) (decide (a ∈ l)) := by
  obtain ⟨r, h1, h2⟩ := slices_Index_i_ev l a hl l.length 0 (by omega)
  rw [List.drop_zero] at h2
  have : decide (a ∈ l) = decide (r ≥ 0) := by rw [Bool.eq_iff_iff, decide_eq_true_eq, decide_eq_true_eq]; exact h2.symm
  rw [this]
  simp only [slices_Contains_int_int.f]
  exact ev_bind h1 (Ev.now _)
theorem spec_l8Below_ev (l : List S69) (prev : ∀ j, j < l.length → UpOk l j) (u : Int) (hu : 0 ≤ u) : ∀ (n : Nat) (a : Int), a < (n : Int) → a < (l.length : Int) → Ev (fun k => spec_l8Below.l0 k l a u) (around l u n a) := by
  intro n
  induction n with
  | zero =>
    intro a h1 h2
    refine Ev.step (fun k => spec_l8Below.l0.eq_2 ..) (ev_if_neg (by omega) ?_)
    rw [show (a == u) = false from beq_eq_false_iff_ne.mpr (by omega)]
    exact Ev.now _
  | succ n ih =>
    intro a h1 h2
    by_cases hau : a > u
    · have hlt := (prev a.toNat (by omega)).lt
      rw [around, if_neg (by omega), if_neg (by omega)]
      exact Ev.step (fun k => spec_l8Below.l0.eq_2 ..) (ev_if_pos hau (ev_if_pos (by omega) (ev_if_pos (by omega) (ih (upOf l a.toNat) (by omega) (by omega)))))
    · refine Ev.step (fun k => spec_l8Below.l0.eq_2 ..) (ev_if_neg hau ?_)
      by_cases he : a = u
      · rw [around, if_neg (by omega), if_pos he, beq_iff_eq.mpr he]
        exact Ev.now _
      · rw [around_low l prev u (n + 1) a (by omega) h2, beq_eq_false_iff_ne.mpr he]
        exact Ev.now _
theorem l8_node (l : List S69) (hl : l.length ≤ 60) (hok : ∀ j, j < l.length → NodeOk l j) (hsz : ∀ x ∈ l, sizesNode x) (hg : Ev (fun k => impl_GoodNodes.f k l) true) (a : ByteArray) :
    ∃ r, Ev (fun k => spec_l8Node.f k l a) r ∧ Ev (fun k => impl_NodeOf.f k l a) r ∧ (-1 ≤ r ∧ r < (l.length : Int)) ∧ (0 ≤ r → ¬ B (nodeAt l r.toNat).f0 = []) := by
  by_cases ha : B a = []
  · refine ⟨-1, l8_empty l hl hsz a ha, ?_, by omega, fun h => by omega⟩
    simp only [impl_NodeOf.f]
    refine ev_bind hg (ev_if_pos rfl ?_)
    rw [show (a.toList == ([] : List UInt8)) = true from beq_iff_eq.mpr (by rw [toList_B]; exact ha)]
    exact Ev.step (fun k => impl_NodeOf.j0.eq_2 ..) (ev_if_pos rfl (Ev.now _))
  · obtain ⟨r, g1, g2, g3, g4⟩ := l8_both l hl hok hsz a ha l.length 0 (by omega)
    refine ⟨r, g1, ?_, g3, g4⟩
    simp only [impl_NodeOf.f]
    refine ev_bind hg (ev_if_pos rfl ?_)
    rw [show (a.toList == ([] : List UInt8)) = false from beq_eq_false_iff_ne.mpr (by rw [toList_B]; exact ha)]
    exact Ev.step (fun k => impl_NodeOf.j0.eq_2 ..) (ev_if_neg (by decide) g2)

/-! cyc2 -/
-- plain: Evs Mark
/-- the places of the trues. -/
def outF (bits : List Bool) : Nat → Nat → List Int
  | 0, _ => []
  | m + 1, i => if bits.getD i false = true then (i : Int) :: outF bits m (i + 1) else outF bits m (i + 1)
theorem outF_mem (bits : List Bool) : ∀ (m i : Nat) (v : Int), v ∈ outF bits m i ↔ ∃ j : Nat, i ≤ j ∧ j < i + m ∧ v = (j : Int) ∧ bits.getD j false = true := by
  intro m
  induction m with
  | zero => intro i v; simp only [outF, List.not_mem_nil, false_iff]; rintro ⟨j, h1, h2, _⟩; omega
  | succ m ih =>
    intro i v
    unfold outF
    by_cases hb : bits.getD i false = true
    · rw [if_pos hb, List.mem_cons, ih]
      constructor
      · rintro (h | ⟨j, h1, h2, h3, h4⟩)
        · exact ⟨i, by omega, by omega, h, hb⟩
        · exact ⟨j, by omega, by omega, h3, h4⟩
      · rintro ⟨j, h1, h2, h3, h4⟩
        by_cases hj : j = i
        · exact .inl (by omega)
        · exact .inr ⟨j, by omega, by omega, h3, h4⟩
    · rw [if_neg hb, ih]
      constructor
      · rintro ⟨j, h1, h2, h3, h4⟩
        exact ⟨j, by omega, by omega, h3, h4⟩
      · rintro ⟨j, h1, h2, h3, h4⟩
        by_cases hj : j = i
        · subst hj; exact absurd h4 hb
        · exact ⟨j, by omega, by omega, h3, h4⟩
theorem outF_sorted (bits : List Bool) : ∀ (m i : Nat), (outF bits m i).Pairwise (fun a b => a < b) := by
  intro m
  induction m with
  | zero => intro i; exact List.Pairwise.nil
  | succ m ih =>
    intro i
    unfold outF
    split
    · refine List.Pairwise.cons (fun v hv => ?_) (ih (i + 1))
      obtain ⟨j, h1, h2, h3, _⟩ := (outF_mem bits m (i + 1) v).mp hv
      omega
    · exact ih (i + 1)
theorem outF_len (bits : List Bool) : ∀ (m i : Nat), (outF bits m i).length ≤ m := by
  intro m
  induction m with
  | zero => intro i; exact Nat.le_refl _
  | succ m ih =>
    intro i
    have := ih (i + 1)
    unfold outF
    split
    · rw [List.length_cons]; omega
    · omega
/-- sorted: the places in order. -/
theorem sort_outF (bits : List Bool) (xs : List Int) (hn : xs.Nodup) (hm : ∀ v, v ∈ xs ↔ ∃ j : Nat, j < bits.length ∧ v = (j : Int) ∧ bits.getD j false = true) : xs.mergeSort (fun x y => decide (x ≤ y)) = outF bits bits.length 0 := by
  have hp1 := outF_sorted bits bits.length 0
  have hnd : (outF bits bits.length 0).Nodup := hp1.imp (fun h => by omega)
  refine List.Perm.eq_of_pairwise (le := fun a b => decide (a ≤ b) = true) (fun a b _ _ h1 h2 => ?_) (List.pairwise_mergeSort (fun a b c h1 h2 => ?_) (fun a b => ?_) xs) (hp1.imp (fun h => decide_eq_true (by omega))) ?_
  · have := of_decide_eq_true h1
    have := of_decide_eq_true h2
    omega
  · have := of_decide_eq_true h1
    have := of_decide_eq_true h2
    exact decide_eq_true (by omega)
  · rw [Bool.or_eq_true, decide_eq_true_eq, decide_eq_true_eq]; omega
  · refine (List.mergeSort_perm xs _).trans ((List.perm_ext_iff_of_nodup hn hnd).mpr (fun v => ?_))
    rw [hm, outF_mem]
    constructor
    · rintro ⟨j, h1, h2⟩; exact ⟨j, by omega, by omega, h2⟩
    · rintro ⟨j, h0, h1, h2⟩; exact ⟨j, by omega, h2⟩
theorem uses_l1 (bits : List Bool) (hb : bits.length ≤ 60) : ∀ (m i : Nat) (acc : List Int), i + m = bits.length → acc.length ≤ i → Ev (fun k => spec_l8Uses.l1 k acc bits (bits.length : Int) (i : Int)) (acc ++ outF bits m i) := by
  intro m
  induction m with
  | zero =>
    intro i acc h1 h2
    unfold outF
    rw [List.append_nil]
    exact Ev.step (fun k => spec_l8Uses.l1.eq_2 ..) (ev_if_neg (by omega) (Ev.now _))
  | succ m ih =>
    intro i acc h1 h2
    have hw : ∀ _ : Unit, wrap64 ((i : Int) + 1) = ((i + 1 : Nat) : Int) := fun _ => by rw [wrap_id (x := (i : Int) + 1) (by omega) (by omega), cast_succ]
    refine Ev.step (fun k => spec_l8Uses.l1.eq_2 ..) (ev_if_pos (by omega) (ev_if_pos (by omega) (ev_if_pos (by omega) ?_)))
    rw [rdOf_nat, hw ()]
    unfold outF
    by_cases hbi : bits.getD i false = true
    · rw [if_pos hbi]
      refine ev_if_pos hbi (ev_if_pos (by omega) ?_)
      have := ih (i + 1) (acc ++ [(i : Int)]) (by omega) (by rw [List.length_append, List.length_singleton]; omega)
      rw [List.append_assoc] at this
      exact this
    · rw [if_neg hbi]
      exact ev_if_neg hbi (ih (i + 1) acc (by omega) (by omega))
theorem bits_set (bits : List Bool) (t j : Nat) (ht : t < bits.length) : (bits.set t true).getD j false = true ↔ (j = t ∨ bits.getD j false = true) := by
  rw [List.getD_eq_getElem?_getD, List.getD_eq_getElem?_getD, List.getElem?_set]
  by_cases h : t = j
  · subst h
    rw [if_pos rfl, if_pos ht]
    simp
  · rw [if_neg h]
    constructor
    · exact .inr
    · rintro (h2 | h2)
      · exact absurd h2.symm h
      · exact h2
/-- what is used at a place. -/
def CycT (l : List S69) (T : Nat → Int) : Prop := ∀ i, i < l.length → (∃ h, Ev (fun k => spec_HrefOf.f k (nodeAt l i).f0 (nodeAt l i).f1 (nodeAt l i).f2 (nodeAt l i).f3) h ∧ Ev (fun k => impl_HrefOf.f k (nodeAt l i).f0 (nodeAt l i).f1 (nodeAt l i).f2 (nodeAt l i).f3) h ∧ Ev (fun k => spec_l8Node.f k l h) (T i) ∧ Ev (fun k => impl_NodeOf.f k l h) (T i)) ∧ (-1 ≤ T i ∧ T i < (l.length : Int)) ∧ (0 ≤ T i → ¬ B (nodeAt l (T i).toNat).f0 = [])
theorem cycT_of (l : List S69) (hl : l.length ≤ 60) (hok : ∀ j, j < l.length → NodeOk l j) (hsz : ∀ x ∈ l, sizesNode x) (hg : Ev (fun k => impl_GoodNodes.f k l) true) : ∃ T, CycT l T := by
  refine Classical.axiomOfChoice (r := fun (i : Nat) (t : Int) => i < l.length → (∃ h, Ev (fun k => spec_HrefOf.f k (nodeAt l i).f0 (nodeAt l i).f1 (nodeAt l i).f2 (nodeAt l i).f3) h ∧ Ev (fun k => impl_HrefOf.f k (nodeAt l i).f0 (nodeAt l i).f1 (nodeAt l i).f2 (nodeAt l i).f3) h ∧ Ev (fun k => spec_l8Node.f k l h) t ∧ Ev (fun k => impl_NodeOf.f k l h) t) ∧ (-1 ≤ t ∧ t < (l.length : Int)) ∧ (0 ≤ t → ¬ B (nodeAt l t.toNat).f0 = [])) (fun i => ?_)
  by_cases hi : i < l.length
  · have hx := hsz _ (node_mem l i hi)
    have z2 := hx.2.2.1
    obtain ⟨h, h1, h2⟩ := HrefOf_same (nodeAt l i).f0 (nodeAt l i).f1 (nodeAt l i).f2 (nodeAt l i).f3 (by omega)
    obtain ⟨t, t1, t2, t3, t4⟩ := l8_node l hl hok hsz hg h
    exact ⟨t, fun _ => ⟨⟨h, h1, h2, t1, t2⟩, t3, t4⟩⟩
  · exact ⟨0, fun h => absurd h hi⟩
/-- what both know while they go through the nodes. -/
structure CycI (l : List S69) (bits : List Bool) (xs : List Int) : Prop where
  len : bits.length = l.length
  nod : xs.Nodup
  mem : ∀ v, v ∈ xs ↔ ∃ j : Nat, j < bits.length ∧ v = (j : Int) ∧ bits.getD j false = true
  nam : ∀ v, v ∈ xs → ¬ B (nodeAt l v.toNat).f0 = []
theorem CycI.more {l : List S69} {bits : List Bool} {xs : List Int} (h : CycI l bits xs) (t : Int) (h0 : 0 ≤ t) (h1 : t < (l.length : Int)) (hn : ¬ B (nodeAt l t.toNat).f0 = []) :
    (t ∈ xs → CycI l (bits.set t.toNat true) xs) ∧ (¬ t ∈ xs → CycI l (bits.set t.toNat true) (xs ++ [t])) := by
  have hl := h.len
  have hlt : t.toNat < bits.length := by omega
  constructor
  · intro hm
    obtain ⟨j0, a1, a2, a3⟩ := (h.mem t).mp hm
    refine ⟨by rw [List.length_set]; exact hl, h.nod, fun v => ?_, h.nam⟩
    rw [h.mem v]
    constructor
    · rintro ⟨j, b1, b2, b3⟩
      exact ⟨j, by rw [List.length_set]; exact b1, b2, (bits_set bits _ j hlt).mpr (.inr b3)⟩
    · rintro ⟨j, b1, b2, b3⟩
      rw [List.length_set] at b1
      rcases (bits_set bits _ j hlt).mp b3 with h2 | h2
      · exact ⟨j, b1, b2, by rw [show j = j0 by omega]; exact a3⟩
      · exact ⟨j, b1, b2, h2⟩
  · intro hm
    refine ⟨by rw [List.length_set]; exact hl, ?_, fun v => ?_, fun v hv => ?_⟩
    · rw [List.nodup_append]
      exact ⟨h.nod, (by simp), fun a ha b hb => by rw [List.mem_singleton] at hb; subst hb; exact fun e => hm (e ▸ ha)⟩
    · rw [List.mem_append, List.mem_singleton, h.mem v]
      constructor
      · rintro (⟨j, b1, b2, b3⟩ | h2)
        · exact ⟨j, by rw [List.length_set]; exact b1, b2, (bits_set bits _ j hlt).mpr (.inr b3)⟩
        · exact ⟨t.toNat, by rw [List.length_set]; exact hlt, by omega, (bits_set bits _ _ hlt).mpr (.inl rfl)⟩
      · rintro ⟨j, b1, b2, b3⟩
        rw [List.length_set] at b1
        rcases (bits_set bits _ j hlt).mp b3 with h2 | h2
        · exact .inr (by omega)
        · exact .inl ⟨j, b1, b2, h2⟩
    · rcases List.mem_append.mp hv with hv | hv
      · exact h.nam v hv
      · rw [List.mem_singleton] at hv; subst hv; exact hn
theorem CycI.nil (l : List S69) : CycI l (List.replicate l.length false) [] := by
  refine ⟨List.length_replicate, List.nodup_nil, fun v => ?_, fun v hv => by cases hv⟩
  simp only [List.not_mem_nil, false_iff]
  rintro ⟨j, h1, h2, h3⟩
  rw [List.getD_eq_getElem?_getD, List.getElem?_replicate] at h3
  split at h3 <;> simp at h3
/-- what both answer of a place's uses. -/
def UsesOk (l : List S69) (r : List Int) : Prop := r.length ≤ l.length ∧ ∀ v ∈ r, 0 ≤ v ∧ v < (l.length : Int) ∧ ¬ B (nodeAt l v.toNat).f0 = []
theorem CycI.told {l : List S69} {bits : List Bool} {xs : List Int} (h : CycI l bits xs) : xs.mergeSort (fun x y => decide (x ≤ y)) = outF bits bits.length 0 ∧ UsesOk l (outF bits bits.length 0) := by
  have e := sort_outF bits xs h.nod h.mem
  refine ⟨e, ?_, fun v hv => ?_⟩
  · have := outF_len bits bits.length 0
    rw [h.len] at this ⊢
    exact this
  · have hv2 := hv
    rw [← e, (List.mergeSort_perm xs _).mem_iff] at hv
    obtain ⟨j, b1, b2, _⟩ := (h.mem v).mp hv
    rw [h.len] at b1
    exact ⟨by omega, by omega, h.nam v hv⟩
theorem uses_go (l : List S69) (hl : l.length ≤ 60) (prev : ∀ j, j < l.length → UpOk l j) (T : Nat → Int) (hT : CycT l T) (u : Nat) : ∀ (c i : Nat) (bits : List Bool) (xs : List Int), i + c = l.length → u ≤ i → CycI l bits xs → xs.length ≤ i →
    ∃ r, Ev (fun k => spec_l8Uses.l0 k l (u : Int) bits (i : Int)) r ∧ Ev (fun k => impl_UsesOf.l0 k l (u : Int) xs l (l.length : Int) (i : Int)) (r, true) ∧ UsesOk l r := by
  intro c
  induction c with
  | zero =>
    intro i bits xs h1 h2 hI h3
    obtain ⟨e, hU⟩ := hI.told
    refine ⟨outF bits bits.length 0, Ev.step (fun k => spec_l8Uses.l0.eq_2 ..) (ev_if_neg (by omega) ?_), Ev.step (fun k => impl_UsesOf.l0.eq_2 ..) (ev_if_neg (by omega) ?_), hU⟩
    · have := uses_l1 bits (by rw [hI.len]; omega) bits.length 0 [] (by omega) (Nat.le_refl _)
      exact this
    · refine ev_bind0 (a := outF bits bits.length 0) ?_ (Ev.now _)
      unfold slices_Sort_int_int.f
      rw [if_pos (by omega), e]
  | succ c ih =>
    intro i bits xs h1 h2 hI h3
    have hw : ∀ _ : Unit, wrap64 ((i : Int) + 1) = ((i + 1 : Nat) : Int) := fun _ => by rw [wrap_id (x := (i : Int) + 1) (by omega) (by omega), cast_succ]
    obtain ⟨⟨h, t1, t2, t3, t4⟩, t5, t6⟩ := hT i (by omega)
    have hrd : rd_T69 l (i : Int) = nodeAt l i := rd_node l i
    have skip : (∀ r, Ev (fun k => spec_l8Uses.j1 k l (u : Int) bits (i : Int) true) r → Ev (fun k => impl_UsesOf.j2 k l (u : Int) xs l (l.length : Int) (i : Int) true (nodeAt l i).f0 (nodeAt l i).f1 (nodeAt l i).f2 (nodeAt l i).f3) (r, true) → ∃ r, Ev (fun k => spec_l8Uses.l0 k l (u : Int) bits (i : Int)) r ∧ Ev (fun k => impl_UsesOf.l0 k l (u : Int) xs l (l.length : Int) (i : Int)) (r, true) ∧ UsesOk l r) → ∃ r, Ev (fun k => spec_l8Uses.l0 k l (u : Int) bits (i : Int)) r ∧ Ev (fun k => impl_UsesOf.l0 k l (u : Int) xs l (l.length : Int) (i : Int)) (r, true) ∧ UsesOk l r := by
      intro hk
      obtain ⟨r, g1, g2, _⟩ := ih (i + 1) bits xs (by omega) (by omega) hI (by omega)
      refine hk r (Ev.step (fun k => spec_l8Uses.j1.eq_2 ..) (ev_if_pos rfl ?_)) (Ev.step (fun k => impl_UsesOf.j2.eq_2 ..) (ev_if_pos rfl ?_))
      · rw [hw ()]; exact g1
      · rw [hw ()]; exact g2
    have skipU : ∀ r, Ev (fun k => spec_l8Uses.j1 k l (u : Int) bits (i : Int) true) r → UsesOk l r := by
      intro r hr
      obtain ⟨r', g1, _, g3⟩ := ih (i + 1) bits xs (by omega) (by omega) hI (by omega)
      have g1' : Ev (fun k => spec_l8Uses.j1 k l (u : Int) bits (i : Int) true) r' := Ev.step (fun k => spec_l8Uses.j1.eq_2 ..) (ev_if_pos rfl (by rw [hw ()]; exact g1))
      rw [ev_unique hr g1']; exact g3
    by_cases hn : (nodeAt l i).f0.toList = ([117, 115, 101] : List UInt8)
    rotate_left
    · refine skip (fun r g1 g2 => ⟨r, Ev.step (fun k => spec_l8Uses.l0.eq_2 ..) (ev_if_pos (by omega) (ev_if_pos (by omega) (ev_if_neg (by rw [hrd]; exact hn) g1))), Ev.step (fun k => impl_UsesOf.l0.eq_2 ..) (ev_if_pos (by omega) (ev_if_pos (by omega) (ev_if_pos (by omega) (ev_if_neg (by rw [hrd]; exact hn) ?_)))), skipU r g1⟩)
      rw [hrd]; exact g2
    have hsb : Ev (fun k => spec_l8Below.f k l (i : Int) (u : Int)) (around l (u : Int) (l.length + 1) (i : Int)) := spec_l8Below_ev l prev (u : Int) (by omega) (l.length + 1) (i : Int) (by omega) (by omega)
    have hia : Ev (fun k => impl_isAround.f k l (u : Int) (i : Int)) (around l (u : Int) (l.length + 1) (i : Int)) := impl_isAround_l0 l l.length (by omega) prev (u : Int) (l.length + 1) (i : Int) (by omega) (by omega)
    cases ha : around l (u : Int) (l.length + 1) (i : Int) with
    | false =>
      rw [ha] at hsb hia
      refine skip (fun r g1 g2 => ⟨r, Ev.step (fun k => spec_l8Uses.l0.eq_2 ..) (ev_if_pos (by omega) (ev_if_pos (by omega) (ev_if_pos (by rw [hrd]; exact hn) (ev_bind hsb g1)))), Ev.step (fun k => impl_UsesOf.l0.eq_2 ..) (ev_if_pos (by omega) (ev_if_pos (by omega) (ev_if_pos (by omega) (ev_if_pos (by rw [hrd]; exact hn) (ev_bind hia ?_))))), skipU r g1⟩)
      rw [hrd]; exact g2
    | true =>
      rw [ha] at hsb hia
      have fin : ∀ r, Ev (fun k => spec_l8Uses.j1 k l (u : Int) bits (i : Int) false) r → Ev (fun k => impl_UsesOf.j2 k l (u : Int) xs l (l.length : Int) (i : Int) false (nodeAt l i).f0 (nodeAt l i).f1 (nodeAt l i).f2 (nodeAt l i).f3) (r, true) → UsesOk l r → ∃ r, Ev (fun k => spec_l8Uses.l0 k l (u : Int) bits (i : Int)) r ∧ Ev (fun k => impl_UsesOf.l0 k l (u : Int) xs l (l.length : Int) (i : Int)) (r, true) ∧ UsesOk l r := by
        intro r g1 g2 g3
        refine ⟨r, Ev.step (fun k => spec_l8Uses.l0.eq_2 ..) (ev_if_pos (by omega) (ev_if_pos (by omega) (ev_if_pos (by rw [hrd]; exact hn) (ev_bind hsb g1)))), Ev.step (fun k => impl_UsesOf.l0.eq_2 ..) (ev_if_pos (by omega) (ev_if_pos (by omega) (ev_if_pos (by omega) (ev_if_pos (by rw [hrd]; exact hn) (ev_bind hia ?_))))), g3⟩
        rw [hrd]; exact g2
      have hbl := hI.len
      by_cases ht : 0 ≤ T i
      · obtain ⟨m1, m2⟩ := hI.more (T i) ht t5.2 (t6 ht)
        have hct := slices_Contains_i_ev xs (T i) (by omega)
        by_cases hm : T i ∈ xs
        · obtain ⟨r, g1, g2, g3⟩ := ih (i + 1) (bits.set (T i).toNat true) xs (by omega) (by omega) (m1 hm) (by omega)
          rw [decide_eq_true hm] at hct
          refine fin r (Ev.step (fun k => spec_l8Uses.j1.eq_2 ..) (ev_if_neg (by decide) (ev_if_pos (by omega) (ev_if_pos (by omega) ?_)))) (Ev.step (fun k => impl_UsesOf.j2.eq_2 ..) (ev_if_neg (by decide) (ev_bind t2 (ev_bind t4 (ev_if_pos ht (ev_bind hct (ev_if_pos rfl ?_))))))) g3
          · rw [hrd, hw ()]
            exact ev_bind t1 (ev_bind t3 (ev_if_pos ht (ev_if_pos ht (ev_if_pos (by omega) g1))))
          · rw [hw ()]; exact g2
        · obtain ⟨r, g1, g2, g3⟩ := ih (i + 1) (bits.set (T i).toNat true) (xs ++ [T i]) (by omega) (by omega) (m2 hm) (by rw [List.length_append, List.length_singleton]; omega)
          rw [decide_eq_false hm] at hct
          refine fin r (Ev.step (fun k => spec_l8Uses.j1.eq_2 ..) (ev_if_neg (by decide) (ev_if_pos (by omega) (ev_if_pos (by omega) ?_)))) (Ev.step (fun k => impl_UsesOf.j2.eq_2 ..) (ev_if_neg (by decide) (ev_bind t2 (ev_bind t4 (ev_if_pos ht (ev_bind hct (ev_if_neg (by decide) (ev_if_pos (by omega) ?_)))))))) g3
          · rw [hrd, hw ()]
            exact ev_bind t1 (ev_bind t3 (ev_if_pos ht (ev_if_pos ht (ev_if_pos (by omega) g1))))
          · rw [hw ()]; exact g2
      · obtain ⟨r, g1, g2, g3⟩ := ih (i + 1) bits xs (by omega) (by omega) hI (by omega)
        refine fin r (Ev.step (fun k => spec_l8Uses.j1.eq_2 ..) (ev_if_neg (by decide) (ev_if_pos (by omega) (ev_if_pos (by omega) ?_)))) (Ev.step (fun k => impl_UsesOf.j2.eq_2 ..) (ev_if_neg (by decide) (ev_bind t2 (ev_bind t4 (ev_if_neg ht ?_))))) g3
        · rw [hrd, hw ()]
          exact ev_bind t1 (ev_bind t3 (ev_if_neg ht g1))
        · rw [hw ()]; exact g2
theorem uses_pre (l : List S69) (hl : l.length ≤ 60) (prev : ∀ j, j < l.length → UpOk l j) (u : Nat) (hu : u < l.length) (R : List Int × Bool) (hR : Ev (fun k => impl_UsesOf.l0 k l (u : Int) [] l (l.length : Int) (u : Int)) R) : ∀ (c i : Nat), i + c = u → Ev (fun k => impl_UsesOf.l0 k l (u : Int) [] l (l.length : Int) (i : Int)) R := by
  intro c
  induction c with
  | zero => intro i hi; rw [Nat.add_zero] at hi; subst hi; exact hR
  | succ c ih =>
    intro i hi
    have g := ih (i + 1) (by omega)
    have hw : ∀ _ : Unit, wrap64 ((i : Int) + 1) = ((i + 1 : Nat) : Int) := fun _ => by rw [wrap_id (x := (i : Int) + 1) (by omega) (by omega), cast_succ]
    have hia : Ev (fun k => impl_isAround.f k l (u : Int) (i : Int)) (around l (u : Int) (l.length + 1) (i : Int)) := impl_isAround_l0 l l.length (by omega) prev (u : Int) (l.length + 1) (i : Int) (by omega) (by omega)
    rw [around_low l prev (u : Int) (l.length + 1) (i : Int) (by omega) (by omega)] at hia
    have sk : ∀ a b c d, Ev (fun k => impl_UsesOf.j2 k l (u : Int) [] l (l.length : Int) (i : Int) true a b c d) R := fun a b c d => Ev.step (fun k => impl_UsesOf.j2.eq_2 ..) (ev_if_pos rfl (by rw [hw ()]; exact g))
    refine Ev.step (fun k => impl_UsesOf.l0.eq_2 ..) (ev_if_pos (by omega) (ev_if_pos (by omega) (ev_if_pos (by omega) ?_)))
    by_cases hn : (rd_T69 l (i : Int)).f0.toList = ([117, 115, 101] : List UInt8)
    · exact ev_if_pos hn (ev_bind hia (sk _ _ _ _))
    · exact ev_if_neg hn (sk _ _ _ _)
theorem uses_both (l : List S69) (hl : l.length ≤ 60) (hok : ∀ j, j < l.length → NodeOk l j) (hsz : ∀ x ∈ l, sizesNode x) (hg : Ev (fun k => impl_GoodNodes.f k l) true) (u : Nat) (hu : u < l.length) :
    ∃ r, Ev (fun k => spec_l8Uses.f k l (u : Int)) r ∧ (¬ B (nodeAt l u).f0 = [] → Ev (fun k => impl_UsesOf.f k l (u : Int)) (r, true)) ∧ (B (nodeAt l u).f0 = [] → Ev (fun k => impl_UsesOf.f k l (u : Int)) ([], false)) ∧ UsesOk l r := by
  obtain ⟨T, hT⟩ := cycT_of l hl hok hsz hg
  have prev : ∀ j, j < l.length → UpOk l j := fun j hj => (hok j hj).1
  obtain ⟨r, g1, g2, g3⟩ := uses_go l hl prev T hT u (l.length - u) u (List.replicate l.length false) [] (by omega) (Nat.le_refl _) (CycI.nil l) (by simp)
  have g2' := uses_pre l hl prev u hu _ g2 u 0 (by omega)
  have hel : impl_isElement.f l (u : Int) = some ((nodeAt l u).f0.toList != ([] : List UInt8)) := by
    unfold impl_isElement.f
    rw [impl_within_eq, Option.bind_some, wrap_id (x := (l.length : Int) - 1) (by omega) (by omega), if_pos (decide_eq_true (by omega)), if_pos (by omega), if_pos (by omega), rd_node]
  refine ⟨r, ?_, fun hn => ?_, fun hn => ?_, g3⟩
  · simp only [spec_l8Uses.f]
    exact ev_if_pos (by omega) (ev_if_pos (by omega) (by rw [Int.toNat_natCast]; exact g1))
  · simp only [impl_UsesOf.f]
    refine ev_bind hg (ev_if_pos rfl (ev_bind0 hel ?_))
    rw [show ((nodeAt l u).f0.toList != ([] : List UInt8)) = true from bne_iff_ne.mpr (by rw [toList_B]; exact hn)]
    exact Ev.step (fun k => impl_UsesOf.j0.eq_2 ..) (ev_if_neg (by decide) g2')
  · simp only [impl_UsesOf.f]
    refine ev_bind hg (ev_if_pos rfl (ev_bind0 hel ?_))
    rw [show ((nodeAt l u).f0.toList != ([] : List UInt8)) = false from by rw [toList_B, hn]; rfl]
    exact Ev.step (fun k => impl_UsesOf.j0.eq_2 ..) (ev_if_pos rfl (Ev.now _))

end Go.Proofs.YtooilehdljeepaaDoor.Pure
