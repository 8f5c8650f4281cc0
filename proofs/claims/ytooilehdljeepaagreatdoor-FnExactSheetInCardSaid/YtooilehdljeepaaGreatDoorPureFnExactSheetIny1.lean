/- Lemmas for the pure statement of FnExactSheetIn, part 1. -/
import Derived.Test.YtooilehdljeepaaGreatDoorPFnExactSheetInx3
import Derived.Test.YtooilehdljeepaaGreatDoorPlain
import Derived.Test.YtooilehdljeepaaGreatDoorEvs
import Derived.Test.YtooilehdljeepaaGreatDoorStr
import Derived.Test.YtooilehdljeepaaGreatDoorWord
import Derived.Test.YtooilehdljeepaaGreatDoorTrim
import Derived.Test.YtooilehdljeepaaGreatDoorCuts
import Derived.Test.YtooilehdljeepaaGreatDoorDecl
import Derived.Test.YtooilehdljeepaaGreatDoorField
import Derived.Test.YtooilehdljeepaaGreatDoorRune
import Derived.Test.YtooilehdljeepaaGreatDoorMark
set_option linter.unusedVariables false
set_option linter.unusedSimpArgs false
namespace Go.Proofs.YtooilehdljeepaaGreatDoor.Pure
open Go.RowKit Go.Proofs.YtooilehdljeepaaGreatDoor.PFnExactSheetIn Go.Proofs.YtooilehdljeepaaGreatDoorW.PrintWords Go.Proofs.YtooilehdljeepaaGreatDoorW.PrintLast Go.Proofs.YtooilehdljeepaaGreatDoorW.PrintMore Go.Proofs.YtooilehdljeepaaGreatDoor.Plain
def totAttr (x : S82) : Int := (x.f0.size : Int) + (x.f1.size : Int)
theorem totAttr_nonneg (x : S82) : 0 ≤ totAttr x := by unfold totAttr; omega
def goodAttr (x : S82) : Prop := x.f0.size ≤ maxLen ∧ x.f1.size ≤ maxLen
theorem szAttr_eq (x : S82) (a : Int) (h0 : 0 ≤ a) (h1 : a ≤ 1048576) (hg : goodAttr x) : ∃ r, laws_szAttr.f x.f0 x.f1 a = some r ∧ (r < 0 ∨ (r = a - totAttr x ∧ 0 ≤ r)) := by
 obtain ⟨hx, hy⟩ := hg
 unfold maxLen at hx hy
 unfold laws_szAttr.f totAttr
 rw [wrap_id (x := a - _) (by omega) (by omega)]
 by_cases c : a - (x.f0.size : Int) < 0
 ·rw [if_pos c]; exact ⟨_, rfl, .inl (by omega)⟩
 ·rw [if_neg c, wrap_id (x := _ - (x.f1.size : Int)) (by omega) (by omega)]
  by_cases c2 : a - (x.f0.size : Int) - (x.f1.size : Int) < 0
  ·rw [if_pos c2]; exact ⟨_, rfl, .inl (by omega)⟩
  ·rw [if_neg c2]; exact ⟨_, rfl, .inr ⟨by omega, by omega⟩⟩
def totAttrS (l : List S82) : Int := (l.length : Int) + (l.map totAttr).sum
theorem totAttrS_parts (l : List S82) : 0 ≤ (l.map totAttr).sum := by
 induction l with
 | nil => simp
 | cons x l ih => rw [List.map_cons, List.sum_cons]; have := totAttr_nonneg x; omega
theorem laws_szAttrS_l0_ev (l : List S82) (hl : l.length ≤ maxLen) (hg : ∀ x ∈ l, goodAttr x) : ∀ (d i : Nat) (a : Int), i + d = l.length → 0 ≤ a → a ≤ 1048576 →
  ∃ r, Ev (fun k => laws_szAttrS.l0 k l a i) r ∧ (r < 0 ∨ (r = a - ((l.drop i).map totAttr).sum ∧ 0 ≤ r)) := by
 unfold maxLen at hl
 intro d
 induction d with
 | zero =>
  intro i a hi h0 h1
  refine ⟨a, ev_done fun k => ?_, .inr ⟨by rw [List.drop_eq_nil_of_le (by omega)]; simp, h0⟩⟩
  rw [laws_szAttrS.l0, if_neg (by omega)]
 | succ d ih =>
  intro i a hi h0 h1
  have hil : i < l.length := by omega
  have hx : goodAttr (l.getD i z82) := by rw [List.getD_eq_getElem?_getD, List.getElem?_eq_getElem hil]; exact hg _ (List.getElem_mem hil)
  have hrd : rd_T82 l (i : Int) = l.getD i z82 := by simp [rd_T82]
  rw [drop_cons l z82 i hil, List.map_cons, List.sum_cons]
  obtain ⟨r1, e1, c1⟩ := szAttr_eq (l.getD i z82) a h0 h1 hx
  have ht := totAttr_nonneg (l.getD i z82)
  rcases c1 with c1 | ⟨c1, c2⟩
  ·refine ⟨-1, ev_done fun k => by rw [laws_szAttrS.l0, if_pos (by omega), if_pos (by omega), hrd, e1, Option.bind_some, if_pos c1], .inl (by omega)⟩
  ·obtain ⟨r, hr, hc⟩ := ih (i + 1) r1 (by omega) c2 (by omega)
   refine ⟨r, Ev.step (fun k => by rw [laws_szAttrS.l0, if_pos (by omega), if_pos (by omega), hrd, e1, Option.bind_some, if_neg (by omega), wrap_up hil hl]) hr, ?_⟩
   rcases hc with hc | ⟨hc, hc2⟩
   ·exact .inl hc
   ·exact .inr ⟨by rw [hc, c1]; omega, hc2⟩
theorem laws_szAttrS_ev (l : List S82) (a : Int) (h0 : 0 ≤ a) (h1 : a ≤ 1048576) (hl : l.length ≤ maxLen) (hg : ∀ x ∈ l, goodAttr x) :
  ∃ r, Ev (fun k => laws_szAttrS.f k l a) r ∧ (r < 0 ∨ (r = a - totAttrS l ∧ 0 ≤ r)) := by
 have hl' := hl
 unfold maxLen at hl'
 simp only [laws_szAttrS.f]
 rw [wrap_id (x := a - _) (by omega) (by omega)]
 by_cases c : a - (l.length : Int) < 0
 ·exact ⟨-1, ev_if_pos c (Ev.now _), .inl (by omega)⟩
 ·obtain ⟨r, hr, hc⟩ := laws_szAttrS_l0_ev l hl hg l.length 0 (a - (l.length : Int)) (by omega) (by omega) (by omega)
  refine ⟨r, ev_if_neg c hr, ?_⟩
  rcases hc with hc | ⟨hc, hc2⟩
  ·exact .inl hc
  ·exact .inr ⟨by rw [hc]; unfold totAttrS; rw [List.drop_zero]; omega, hc2⟩
theorem szNode_ev (a0 : ByteArray) (a1 : Int) (l : List S82) (a3 : ByteArray) (a : Int) (h0 : 0 ≤ a) (h1 : a ≤ 1048576) (g0 : a0.size ≤ maxLen) (gl : l.length ≤ maxLen) (gg : ∀ x ∈ l, goodAttr x) (g3 : a3.size ≤ maxLen) :
  ∃ r, Ev (fun k => laws_szNode.f k a0 a1 l a3 a) r ∧ (r < 0 ∨ (r = a - ((a0.size : Int) + totAttrS l + (a3.size : Int)) ∧ 0 ≤ r)) := by
 unfold maxLen at g0 g3
 have ht : 0 ≤ totAttrS l := by unfold totAttrS; have := totAttrS_parts l; omega
 simp only [laws_szNode.f]
 rw [wrap_id (x := a - _) (by omega) (by omega)]
 by_cases c : a - (a0.size : Int) < 0
 ·exact ⟨-1, ev_if_pos c (Ev.now _), .inl (by omega)⟩
 ·obtain ⟨r, hr, hc⟩ := laws_szAttrS_ev l (a - (a0.size : Int)) (by omega) (by omega) gl gg
  rcases hc with hc | ⟨hc, hc2⟩
  ·exact ⟨-1, ev_if_neg c (ev_bind hr (ev_if_pos hc (Ev.now _))), .inl (by omega)⟩
  ·by_cases c2 : r - (a3.size : Int) < 0
   ·refine ⟨-1, ev_if_neg c (ev_bind hr (ev_if_neg (by omega) ?_)), .inl (by omega)⟩
    rw [wrap_id (by omega) (by omega)]
    exact ev_if_pos c2 (Ev.now _)
   ·refine ⟨_, ev_if_neg c (ev_bind hr (ev_if_neg (by omega) ?_)), .inr ⟨rfl, by omega⟩⟩
    rw [wrap_id (by omega) (by omega)]
    have e : a - ((a0.size : Int) + totAttrS l + (a3.size : Int)) = r - (a3.size : Int) := by omega
    rw [e]
    exact ev_if_neg c2 (Ev.now _)
def totNode (x : S36) : Int := (x.f0.size : Int) + totAttrS x.f2 + (x.f3.size : Int)
theorem totNode_nonneg (x : S36) : 0 ≤ totNode x := by unfold totNode totAttrS; have := totAttrS_parts x.f2; omega
def goodNodeIn (x : S36) : Prop := x.f0.size ≤ maxLen ∧ (Lit.int .i64 x.f1).wf = true ∧ (x.f2.length ≤ maxLen ∧ ∀ y ∈ x.f2, goodAttr y) ∧ x.f3.size ≤ maxLen
theorem szNodeX_ev (x : S36) (a : Int) (h0 : 0 ≤ a) (h1 : a ≤ 1048576) (hg : goodNodeIn x) : ∃ r, Ev (fun k => laws_szNode.f k x.f0 x.f1 x.f2 x.f3 a) r ∧ (r < 0 ∨ (r = a - totNode x ∧ 0 ≤ r)) :=
 szNode_ev x.f0 x.f1 x.f2 x.f3 a h0 h1 hg.1 hg.2.2.1.1 hg.2.2.1.2 hg.2.2.2
def totNodeS (l : List S36) : Int := (l.length : Int) + (l.map totNode).sum
theorem totNodeS_parts (l : List S36) : 0 ≤ (l.map totNode).sum := by
 induction l with
 | nil => simp
 | cons x l ih => rw [List.map_cons, List.sum_cons]; have := totNode_nonneg x; omega
theorem laws_szNodeS_l0_ev (l : List S36) (hl : l.length ≤ maxLen) (hg : ∀ x ∈ l, goodNodeIn x) : ∀ (d i : Nat) (a : Int), i + d = l.length → 0 ≤ a → a ≤ 1048576 →
  ∃ r, Ev (fun k => laws_szNodeS.l0 k l a i) r ∧ (r < 0 ∨ (r = a - ((l.drop i).map totNode).sum ∧ 0 ≤ r)) := by
 unfold maxLen at hl
 intro d
 induction d with
 | zero =>
  intro i a hi h0 h1
  refine ⟨a, ev_done fun k => ?_, .inr ⟨by rw [List.drop_eq_nil_of_le (by omega)]; simp, h0⟩⟩
  rw [laws_szNodeS.l0, if_neg (by omega)]
 | succ d ih =>
  intro i a hi h0 h1
  have hil : i < l.length := by omega
  have hx : goodNodeIn (l.getD i z36) := by rw [List.getD_eq_getElem?_getD, List.getElem?_eq_getElem hil]; exact hg _ (List.getElem_mem hil)
  have hrd : rd_T36 l (i : Int) = l.getD i z36 := by simp [rd_T36]
  rw [drop_cons l z36 i hil, List.map_cons, List.sum_cons]
  obtain ⟨r1, e1, c1⟩ := szNodeX_ev (l.getD i z36) a h0 h1 hx
  have ht := totNode_nonneg (l.getD i z36)
  rcases c1 with c1 | ⟨c1, c2⟩
  ·refine ⟨-1, (by refine Ev.step (fun k => by rw [laws_szNodeS.l0, if_pos (by omega), if_pos (by omega), hrd]) ?_; exact ev_bind e1 (ev_if_pos c1 (Ev.now _))), .inl (by omega)⟩
  ·obtain ⟨r, hr, hc⟩ := ih (i + 1) r1 (by omega) c2 (by omega)
   refine ⟨r, (by refine Ev.step (fun k => by rw [laws_szNodeS.l0, if_pos (by omega), if_pos (by omega), hrd]) ?_; refine ev_bind e1 (ev_if_neg (by omega) ?_); rw [wrap_up hil hl]; exact hr), ?_⟩
   rcases hc with hc | ⟨hc, hc2⟩
   ·exact .inl hc
   ·exact .inr ⟨by rw [hc, c1]; omega, hc2⟩
theorem laws_szNodeS_ev (l : List S36) (a : Int) (h0 : 0 ≤ a) (h1 : a ≤ 1048576) (hl : l.length ≤ maxLen) (hg : ∀ x ∈ l, goodNodeIn x) :
  ∃ r, Ev (fun k => laws_szNodeS.f k l a) r ∧ (r < 0 ∨ (r = a - totNodeS l ∧ 0 ≤ r)) := by
 have hl' := hl
 unfold maxLen at hl'
 simp only [laws_szNodeS.f]
 rw [wrap_id (x := a - _) (by omega) (by omega)]
 by_cases c : a - (l.length : Int) < 0
 ·exact ⟨-1, ev_if_pos c (Ev.now _), .inl (by omega)⟩
 ·obtain ⟨r, hr, hc⟩ := laws_szNodeS_l0_ev l hl hg l.length 0 (a - (l.length : Int)) (by omega) (by omega) (by omega)
  refine ⟨r, ev_if_neg c hr, ?_⟩
  rcases hc with hc | ⟨hc, hc2⟩
  ·exact .inl hc
  ·exact .inr ⟨by rw [hc]; unfold totNodeS; rw [List.drop_zero]; omega, hc2⟩
theorem spec_l1In_eq (a b c : Int) : spec_l1In.f a b c = some (decide (b ≤ a ∧ a ≤ c)) := by
 unfold spec_l1In.f
 split
 ·rename_i h; simp [show b ≤ a from h]
 ·rename_i h; simp [show ¬ b ≤ a from h]
theorem spec_l4Letter_eq (c : Int) : spec_l4Letter.f c = some (ltrI c || decide (c = 95)) := by
 have hb : (c == 95) = decide (c = 95) := by rw [Bool.eq_iff_iff]; simp
 unfold spec_l4Letter.f
 rw [hb]
 unfold ltrI
 by_cases h1 : (97 ≤ c ∧ c ≤ 122)
 ·rw [if_pos h1.1, if_pos h1.2, decide_eq_true (p := (97 ≤ c ∧ c ≤ 122) ∨ (65 ≤ c ∧ c ≤ 90)) (.inl h1)]; rfl
 ·by_cases h2 : (65 ≤ c ∧ c ≤ 90)
  ·rw [decide_eq_true (p := (97 ≤ c ∧ c ≤ 122) ∨ (65 ≤ c ∧ c ≤ 90)) (.inr h2), Bool.true_or]
   by_cases h3 : c ≥ 97
   ·omega
   ·rw [if_neg h3, if_pos h2.1, if_pos h2.2]
  ·rw [decide_eq_false (p := (97 ≤ c ∧ c ≤ 122) ∨ (65 ≤ c ∧ c ≤ 90)) (by omega), Bool.false_or]
   by_cases h3 : c ≥ 97
   ·rw [if_pos h3, if_neg (by omega), if_pos (by omega), if_neg (by omega)]
   ·rw [if_neg h3]
    by_cases h4 : c ≥ 65
    ·rw [if_pos h4, if_neg (by omega)]
    ·rw [if_neg h4]
theorem spec_l1Digit_eq (c : Int) : spec_l1Digit.f c = some (digI c) := by
 unfold spec_l1Digit.f digI
 split
 ·rename_i h; congr 1; rw [decide_eq_decide]; omega
 ·rename_i h; congr 1; rw [eq_comm, decide_eq_false_iff_not]; omega
theorem spec_l4Inner_eq (c : Int) : spec_l4Inner.f c = some (nmI c) := by
 unfold spec_l4Inner.f nmI
 rw [show spec_l4Letter.f c = some (nmBI c) from spec_l4Letter_eq c, Option.bind_some, spec_l1Digit_eq]
 cases nmBI c with
 | true => rfl
 | false =>
  rw [if_neg (by decide), Option.bind_some]
  cases digI c with
  | true => rfl
  | false =>
   rw [if_neg (by decide)]
   by_cases h1 : c = 45
   ·rw [if_pos h1]; simp [h1]
   ·rw [if_neg h1]
    by_cases h2 : c = 58
    ·rw [if_pos h2]; simp [h2]
    ·rw [if_neg h2]; simp only [Option.some.injEq]; rw [Bool.eq_iff_iff]; simp [h1, h2]
theorem l4Name_l0 (s : ByteArray) (hs : s.size ≤ 1048576) : Ev (fun k => spec_l4Name.l0 k s 0) ((B s).all nmU) := by
 have hl := B_len s
 have key := ev_from (B s).length (fun i k => spec_l4Name.l0 k s (i : Int)) (fun i => ((B s).drop i).all nmU) ?_ ?_ 0 (by omega)
 ·exact key
 ·rw [List.drop_length]
  exact Ev.step (fun k => spec_l4Name.l0.eq_2 ..) (ev_if_neg (by omega) (Ev.now _))
 ·intro i hi h
  refine Ev.step (fun k => spec_l4Name.l0.eq_2 ..) (ev_if_pos (by omega) (ev_if_pos (by omega) ?_))
  rw [bt_U s i hi, drop_cons (B s) 0 i hi, List.all_cons]
  refine ev_bind0 (spec_l4Inner_eq _) ?_
  by_cases hc : nmU ((B s).getD i 0) = true
  ·rw [hc, Bool.true_and]
   refine ev_if_pos hc ?_
   rw [wrap_id (x := (i : Int) + 1) (by omega) (by omega), cast_succ]
   exact h
  ·rw [Bool.eq_false_iff.mpr hc, Bool.false_and]
   exact ev_if_neg hc (Ev.now _)
theorem spec_l4Name_ev (s : ByteArray) (hs : s.size ≤ 1048576) : Ev (fun k => spec_l4Name.f k s) (isNameL (B s)) := by
 have hl := B_len s
 simp only [spec_l4Name.f]
 refine ev_bind0 (spec_l1In_eq _ _ _) ?_
 unfold isNameL
 by_cases h : 1 ≤ (B s).length ∧ (B s).length ≤ 30
 ·rw [decide_eq_true h, Bool.true_and]
  refine ev_if_pos (decide_eq_true (by omega)) (ev_if_pos (by omega) ?_)
  rw [show bt s 0 = _ from bt_U s 0 (by omega)]
  refine ev_bind0 (show spec_l4Letter.f _ = some (nmBI _) from spec_l4Letter_eq _) (Ev.step (fun k => spec_l4Name.j0.eq_2 ..) ?_)
  by_cases hc : nmB ((B s).getD 0 0) = true
  ·rw [hc, Bool.true_and]
   exact ev_if_neg (by show ¬ (!nmB ((B s).getD 0 0)) = true; rw [hc]; decide) (l4Name_l0 s hs)
  ·rw [Bool.eq_false_iff.mpr hc, Bool.false_and]
   exact ev_if_pos (by show (!nmB ((B s).getD 0 0)) = true; rw [Bool.eq_false_iff.mpr hc]; rfl) (Ev.now _)
 ·rw [decide_eq_false h, Bool.false_and, Bool.false_and]
  exact ev_if_neg (by rw [decide_eq_false (by omega)]; decide) (Ev.step (fun k => spec_l4Name.j0.eq_2 ..) (ev_if_pos rfl (Ev.now _)))
theorem rune_next (s : ByteArray) (m : Int) (i x : Nat) (hi : (i : Int) < m) (hm : m ≤ 4) (hs : i < (B s).length) (hl2 : (B s).length ≤ 1048576) (hx : x ≤ 1000000) (r : Int × Int)
  (h1 : (128 ≤ nb (B s) i ∧ nb (B s) i ≤ 191) → Ev (fun k => spec_l4Rune.l0 k s m ((x * 64 + (nb (B s) i - 128) : Nat) : Int) ((i + 1 : Nat) : Int)) r) (h2 : ¬ (128 ≤ nb (B s) i ∧ nb (B s) i ≤ 191) → r = (-1, 1)) :
  Ev (fun k => spec_l4Rune.l0 k s m (x : Int) (i : Int)) r := by
 have hl := B_len s
 refine Ev.step (fun k => spec_l4Rune.l0.eq_2 ..) (ev_if_pos hi (ev_if_pos (by omega) (ev_if_pos (by omega) ?_)))
 rw [show bt s (i : Int) = ((nb (B s) i : Nat) : Int) from bt_U s i hs]
 have hb := nb_lt (B s) i
 generalize nb (B s) i = b at *
 by_cases c1 : b < 128
 ·rw [h2 (by omega)]; exact ev_if_pos (by omega) (Ev.now _)
 ·refine ev_if_neg (by omega) ?_
  by_cases c2 : 191 < b
  ·rw [h2 (by omega)]; exact ev_if_pos (by omega) (Ev.now _)
  ·refine ev_if_neg (by omega) ?_
   rw [wrap_id (x := (x : Int) * 64) (by omega) (by omega), wrap_id (x := (b : Int)) (by omega) (by omega), wrap_id (x := (x : Int) * 64 + (b : Int)) (by omega) (by omega), wrap_id (x := (x : Int) * 64 + (b : Int) - 128) (by omega) (by omega), wrap_id (x := (i : Int) + 1) (by omega) (by omega), cast_succ]
   have e : (x : Int) * 64 + (b : Int) - 128 = ((x * 64 + (b - 128) : Nat) : Int) := by omega
   rw [e]
   exact h1 (by omega)
theorem rune_bad (s : ByteArray) (m x : Int) (h : (s.size : Int) < m) (hm : m ≠ 0) : Ev (fun k => spec_l4Rune.j2 k s m x) (-1, 1) :=
 Ev.step (fun k => spec_l4Rune.j2.eq_2 ..) (ev_if_neg hm (Ev.step (fun k => spec_l4Rune.j3.eq_2 ..) (ev_if_pos (decide_eq_true h) (Ev.now _))))
theorem rune_in (s : ByteArray) (m x : Int) (h : ¬ (s.size : Int) < m) (hm : m ≠ 0) (r : Int × Int) (h1 : Ev (fun k => spec_l4Rune.l0 k s m x 1) r) : Ev (fun k => spec_l4Rune.j2 k s m x) r :=
 Ev.step (fun k => spec_l4Rune.j2.eq_2 ..) (ev_if_neg hm (Ev.step (fun k => spec_l4Rune.j3.eq_2 ..) (ev_if_neg (by rw [decide_eq_false h]; decide) h1)))
theorem rune_2 (s : ByteArray) (hs : s.size ≤ 1048576) (h0 : 194 ≤ nb (B s) 0 ∧ nb (B s) 0 ≤ 223) : Ev (fun k => spec_l4Rune.j2 k s 2 ((nb (B s) 0 - 192 : Nat) : Int)) (runeP (B s)) := by
 have hl := B_len s
 have hd : decP (B s) = _ := dec_2 (n := (B s).length) (b2 := nb (B s) 2) (b3 := nb (B s) 3) h0 (nb_lt (B s) 1)
 by_cases hn : 1 < (B s).length
 ·refine rune_in s 2 _ (by omega) (by decide) _ (rune_next s 2 1 _ (by omega) (by omega) hn (by omega) (by omega) _ (fun hc => ?_) (fun hc => ?_))
  ·rw [if_pos ⟨hn, hc⟩] at hd
   rw [show runeP (B s) = _ from fixR_ok hd (by omega)]
   exact Ev.step (fun k => spec_l4Rune.l0.eq_2 ..) (ev_if_neg (by omega) (ev_if_neg (by omega) (ev_if_neg (by omega) (Ev.now _))))
  ·rw [if_neg (fun h => hc h.2)] at hd
   exact fixR_bad hd
 ·rw [if_neg (fun h => hn h.1)] at hd
  rw [show runeP (B s) = _ from fixR_bad hd]
  exact rune_bad s 2 _ (by omega) (by decide)
theorem rune_3 (s : ByteArray) (hs : s.size ≤ 1048576) (h0 : 224 ≤ nb (B s) 0 ∧ nb (B s) 0 ≤ 239) : Ev (fun k => spec_l4Rune.j2 k s 3 ((nb (B s) 0 - 224 : Nat) : Int)) (runeP (B s)) := by
 have hl := B_len s
 have hd : decP (B s) = _ := dec_3 (n := (B s).length) (b3 := nb (B s) 3) h0 (nb_lt (B s) 1) (nb_lt (B s) 2)
 have hb1 := nb_lt (B s) 1
 have hb2 := nb_lt (B s) 2
 by_cases hn : 2 < (B s).length
 ·refine rune_in s 3 _ (by omega) (by decide) _ (rune_next s 3 1 _ (by omega) (by omega) (by omega) (by omega) (by omega) _ (fun hc1 => ?_) (fun hc => ?_))
  ·refine rune_next s 3 2 _ (by omega) (by omega) hn (by omega) (by omega) _ (fun hc2 => ?_) (fun hc => ?_)
   ·rw [if_pos ⟨⟨by omega, hc1⟩, hn, hc2⟩] at hd
    obtain ⟨x, hx⟩ : ∃ x, ((nb (B s) 0 - 224) * 64 + (nb (B s) 1 - 128)) * 64 + (nb (B s) 2 - 128) = x := ⟨_, rfl⟩
    rw [hx] at hd ⊢
    refine Ev.step (fun k => spec_l4Rune.l0.eq_2 ..) (ev_if_neg (by omega) (ev_if_pos rfl ?_))
    by_cases c1 : x < 2048
    ·rw [if_pos (.inl c1)] at hd
     rw [show runeP (B s) = _ from fixR_bad hd]
     exact ev_if_pos (by omega) (Ev.now _)
    ·refine ev_if_neg (by omega) (ev_bind0 (spec_l1In_eq _ _ _) ?_)
     by_cases c2 : 55296 ≤ x ∧ x ≤ 57343
     ·rw [if_pos (.inr c2)] at hd
      rw [show runeP (B s) = _ from fixR_bad hd]
      exact ev_if_pos (decide_eq_true (by omega)) (Ev.now _)
     ·rw [if_neg (by omega)] at hd
      rw [show runeP (B s) = _ from fixR_ok hd (by omega)]
      exact ev_if_neg (by rw [decide_eq_false (by omega)]; decide) (ev_if_neg (by omega) (Ev.now _))
   ·rw [if_neg (fun h => hc h.2.2)] at hd
    exact fixR_bad hd
  ·rw [if_neg (fun h => hc h.1.2)] at hd
   exact fixR_bad hd
 ·rw [if_neg (fun h => hn h.2.1)] at hd
  rw [show runeP (B s) = _ from fixR_bad hd]
  exact rune_bad s 3 _ (by omega) (by decide)
theorem rune_4 (s : ByteArray) (hs : s.size ≤ 1048576) (h0 : 240 ≤ nb (B s) 0 ∧ nb (B s) 0 ≤ 244) : Ev (fun k => spec_l4Rune.j2 k s 4 ((nb (B s) 0 - 240 : Nat) : Int)) (runeP (B s)) := by
 have hl := B_len s
 have hd : decP (B s) = _ := dec_4 (n := (B s).length) h0 (nb_lt (B s) 1) (nb_lt (B s) 2) (nb_lt (B s) 3)
 have hb1 := nb_lt (B s) 1
 have hb2 := nb_lt (B s) 2
 have hb3 := nb_lt (B s) 3
 by_cases hn : 3 < (B s).length
 ·refine rune_in s 4 _ (by omega) (by decide) _ (rune_next s 4 1 _ (by omega) (by omega) (by omega) (by omega) (by omega) _ (fun hc1 => ?_) (fun hc => ?_))
  ·refine rune_next s 4 2 _ (by omega) (by omega) (by omega) (by omega) (by omega) _ (fun hc2 => ?_) (fun hc => ?_)
   ·refine rune_next s 4 3 _ (by omega) (by omega) hn (by omega) (by omega) _ (fun hc3 => ?_) (fun hc => ?_)
    ·rw [if_pos ⟨⟨by omega, hc1⟩, ⟨by omega, hc2⟩, hn, hc3⟩] at hd
     obtain ⟨x, hx⟩ : ∃ x, (((nb (B s) 0 - 240) * 64 + (nb (B s) 1 - 128)) * 64 + (nb (B s) 2 - 128)) * 64 + (nb (B s) 3 - 128) = x := ⟨_, rfl⟩
     rw [hx] at hd ⊢
     refine Ev.step (fun k => spec_l4Rune.l0.eq_2 ..) (ev_if_neg (by omega) (ev_if_neg (by omega) (ev_if_pos rfl (ev_bind0 (spec_l1In_eq _ _ _) ?_))))
     by_cases c1 : 65536 ≤ x ∧ x ≤ 1114111
     ·rw [if_pos c1] at hd
      rw [show runeP (B s) = _ from fixR_ok hd (by omega)]
      exact ev_if_pos (decide_eq_true (by omega)) (Ev.now _)
     ·rw [if_neg c1] at hd
      rw [show runeP (B s) = _ from fixR_bad hd]
      exact ev_if_neg (by rw [decide_eq_false (by omega)]; decide) (Ev.now _)
    ·rw [if_neg (fun h => hc h.2.2.2)] at hd
     exact fixR_bad hd
   ·rw [if_neg (fun h => hc h.2.1.2)] at hd
    exact fixR_bad hd
  ·rw [if_neg (fun h => hc h.1.2)] at hd
   exact fixR_bad hd
 ·rw [if_neg (fun h => hn h.2.2.1)] at hd
  rw [show runeP (B s) = _ from fixR_bad hd]
  exact rune_bad s 4 _ (by omega) (by decide)
theorem spec_l4Rune_ev (s : ByteArray) (hs : s.size ≤ 1048576) (h0 : 0 < (B s).length) : Ev (fun k => spec_l4Rune.f k s) (runeP (B s)) := by
 have hl := B_len s
 have hb := nb_lt (B s) 0
 have e0 : bt s 0 = ((nb (B s) 0 : Nat) : Int) := bt_U s 0 h0
 simp only [spec_l4Rune.f]
 refine ev_if_pos (by omega) ?_
 rw [e0]
 have wr : ∀ q : Nat, q ≤ nb (B s) 0 → wrap64 (wrap64 ((nb (B s) 0 : Nat) : Int) - (q : Int)) = ((nb (B s) 0 - q : Nat) : Int) := fun q hq => by
  rw [wrap_id (x := ((nb (B s) 0 : Nat) : Int)) (by omega) (by omega), wrap_id (by omega) (by omega)]; omega
 have none_ (h : ¬ nb (B s) 0 < 128) (h2 : ¬ (194 ≤ nb (B s) 0 ∧ nb (B s) 0 ≤ 244)) : Ev (fun k => spec_l4Rune.j2 k s 0 0) (runeP (B s)) := by
  rw [show runeP (B s) = _ from fixR_bad (show decP (B s) = _ from dec_0 h h2 hb)]
  exact Ev.step (fun k => spec_l4Rune.j2.eq_2 ..) (ev_if_pos rfl (Ev.step (fun k => spec_l4Rune.j3.eq_2 ..) (ev_if_pos rfl (Ev.now _))))
 by_cases c1 : nb (B s) 0 < 128
 ·refine ev_if_pos (by omega) ?_
  rw [show runeP (B s) = _ from fixR_ok (show decP (B s) = _ from dec_1 c1) (by omega), wrap_id (by omega) (by omega)]
  exact Ev.now _
 refine ev_if_neg (by omega) ?_
 have rest (h : ¬ (194 ≤ nb (B s) 0 ∧ nb (B s) 0 ≤ 223)) : Ev (fun k => spec_l4Rune.j0 k s ((nb (B s) 0 : Nat) : Int) 0 0 false) (runeP (B s)) := by
  refine Ev.step (fun k => spec_l4Rune.j0.eq_2 ..) (ev_if_neg (by decide) ?_)
  have rest2 (h : ¬ (224 ≤ nb (B s) 0 ∧ nb (B s) 0 ≤ 239)) : Ev (fun k => spec_l4Rune.j1 k s ((nb (B s) 0 : Nat) : Int) 0 0 false) (runeP (B s)) := by
   refine Ev.step (fun k => spec_l4Rune.j1.eq_2 ..) (ev_if_neg (by decide) ?_)
   by_cases d1 : 240 ≤ nb (B s) 0
   ·refine ev_if_pos (by omega) ?_
    by_cases d2 : nb (B s) 0 ≤ 244
    ·refine ev_if_pos (by omega) ?_
     rw [show wrap64 (wrap64 ((nb (B s) 0 : Nat) : Int) - 240) = _ from wr 240 d1]
     exact rune_4 s hs ⟨d1, d2⟩
    ·exact ev_if_neg (by omega) (none_ c1 (by omega))
   ·exact ev_if_neg (by omega) (none_ c1 (by omega))
  by_cases d1 : 224 ≤ nb (B s) 0
  ·refine ev_if_pos (by omega) ?_
   by_cases d2 : nb (B s) 0 ≤ 239
   ·rw [decide_eq_true (show ((nb (B s) 0 : Nat) : Int) ≤ 239 by omega)]
    refine Ev.step (fun k => spec_l4Rune.j1.eq_2 ..) (ev_if_pos rfl ?_)
    rw [show wrap64 (wrap64 ((nb (B s) 0 : Nat) : Int) - 224) = _ from wr 224 d1]
    exact rune_3 s hs ⟨d1, d2⟩
   ·rw [decide_eq_false (show ¬ ((nb (B s) 0 : Nat) : Int) ≤ 239 by omega)]
    exact rest2 (by omega)
  ·exact ev_if_neg (by omega) (rest2 (by omega))
 by_cases d1 : 194 ≤ nb (B s) 0
 ·refine ev_if_pos (by omega) ?_
  by_cases d2 : nb (B s) 0 ≤ 223
  ·rw [decide_eq_true (show ((nb (B s) 0 : Nat) : Int) ≤ 223 by omega)]
   refine Ev.step (fun k => spec_l4Rune.j0.eq_2 ..) (ev_if_pos rfl ?_)
   rw [show wrap64 (wrap64 ((nb (B s) 0 : Nat) : Int) - 192) = _ from wr 192 (by omega)]
   exact rune_2 s hs ⟨d1, d2⟩
  ·rw [decide_eq_false (show ¬ ((nb (B s) 0 : Nat) : Int) ≤ 223 by omega)]
   exact rest (by omega)
 ·exact ev_if_neg (by omega) (rest (by omega))
theorem spec_l4May_eq (r : Int) : spec_l4May.f r = some (mayR r) := by
 unfold spec_l4May.f mayR
 repeat' split
 all_goals (simp only [Option.some.injEq]; rw [Bool.eq_iff_iff]; simp; try omega)
theorem spec_l4Bad_l0 (s : ByteArray) (hs : s.size ≤ 1048576) : ∀ (n p : Nat), (B s).length - p < n → p ≤ (B s).length → Ev (fun k => spec_l4Bad.l0 k s (p : Int)) (badFrom (B s) n p) := by
 have hl := B_len s
 intro n
 induction n with
 | zero => intro p h; omega
 | succ n ih =>
  intro p hn hp
  rw [badFrom]
  by_cases h : p < (B s).length
  ·rw [if_pos h]
   have hB : B (s.extract p s.size) = (B s).drop p := by rw [B_extract, List.take_of_length_le (by rw [List.length_drop]; omega)]
   have hlen : ((B s).drop p).length = (B s).length - p := List.length_drop
   have hr := spec_l4Rune_ev (s.extract p s.size) (by rw [← B_len, hB]; omega) (by rw [hB]; omega)
   rw [hB] at hr
   have hw := runeP_width ((B s).drop p) (by omega)
   refine Ev.step (fun k => spec_l4Bad.l0.eq_2 ..) (ev_if_pos (by omega) (ev_if_pos (by omega) (ev_if_pos (by omega) (ev_bind hr (ev_bind0 (spec_l4May_eq _) ?_)))))
   generalize runeP ((B s).drop p) = d at *
   by_cases hm : mayR d.1 = true
   ·rw [if_pos hm]
    refine ev_if_pos hm ?_
    rw [wrap_id (x := (p : Int) + d.2) (by omega) (by omega), show (p : Int) + d.2 = ((p + d.2.toNat : Nat) : Int) by omega]
    exact ih _ (by omega) (by omega)
   ·rw [if_neg hm]
    exact ev_if_neg hm (Ev.now _)
  ·rw [if_neg h]
   exact Ev.step (fun k => spec_l4Bad.l0.eq_2 ..) (ev_if_neg (by omega) (Ev.now _))
theorem spec_l4Bad_ev (s : ByteArray) (hs : s.size ≤ 1048576) : Ev (fun k => spec_l4Bad.f k s) (badP (B s)) := spec_l4Bad_l0 s hs _ 0 (by omega) (by omega)
theorem l5Bare_l1 (s out : ByteArray) (hs : s.size ≤ 1048576) (r : ByteArray) (ho : out.size + 1 ≤ 9223372036854775807) : ∀ (n j : Nat), j + n = s.size → (∀ i : Nat, j ≤ i → i ≤ s.size + 2 → (B s).drop i = (Go.Lib.cut ((B s).drop j) [42, 47]).2.1 → Ev (fun k => spec_l5Bare.l0 k s (out ++ (⟨#[32]⟩ : ByteArray)) (i : Int)) r) → Ev (fun k => spec_l5Bare.l1 k s out (j : Int)) r := by
 have hB := B_len s
 intro n
 induction n with
 | zero =>
  intro j hj H
  refine Ev.step (fun k => by rw [spec_l5Bare.l1]) ?_
  refine ev_if_neg (by omega) (ev_if_pos ho ?_)
  rw [wrap_up (show j < 1048577 by omega) (by omega)]
  have h1 : (B s).drop j = [] := List.drop_eq_nil_of_le (by omega)
  have h := H (j + 1 + 1) (by omega) (by omega) (by rw [h1, cut_nil _ rfl, List.drop_eq_nil_of_le (by omega)])
  rw [wrap_up (show j + 1 < 1048578 by omega) (by omega)]
  exact h
 | succ n ih =>
  intro j hj H
  have hi : j < (B s).length := by omega
  have hdrop := drop_cons (B s) 0 j hi
  have w1 : wrap64 ((j : Int) + 1) = ((j + 1 : Nat) : Int) := wrap_up (show j < 1048577 by omega) (by omega)
  have w2 : wrap64 (((j + 1 : Nat) : Int) + 1) = ((j + 1 + 1 : Nat) : Int) := wrap_up (show j + 1 < 1048577 by omega) (by omega)
  have next : ¬ ([42, 47] : List UInt8).isPrefixOf ((B s).getD j 0 :: (B s).drop (j + 1)) = true → Ev (fun k => spec_l5Bare.l1 k s out ((j + 1 : Nat) : Int)) r := by
   intro hp
   refine ih (j + 1) (by omega) (fun i h1 h2 h3 => H i (by omega) h2 ?_)
   rw [hdrop, cut_step _ _ _ hp]; exact h3
  refine Ev.step (fun k => by rw [spec_l5Bare.l1]) ?_
  refine ev_if_pos (by omega) (ev_if_pos (by omega) ?_)
  rw [bt_U s j hi, w1, w2]
  by_cases h42 : (B s).getD j 0 = 42
  ·refine ev_if_pos (by rw [h42]; rfl) ?_
   by_cases h2 : j + 1 < s.size
   ·refine ev_if_pos (by omega) (ev_if_pos (by omega) ?_)
    have hi2 : j + 1 < (B s).length := by omega
    rw [bt_U s (j + 1) hi2]
    have hd2 := drop_cons (B s) 0 (j + 1) hi2
    by_cases h47 : (B s).getD (j + 1) 0 = 47
    ·refine ev_if_pos (by rw [h47]; rfl) (ev_if_pos ho ?_)
     refine H (j + 1 + 1) (by omega) (by omega) ?_
     rw [hdrop, hd2, h42, h47, cut_hit 42 _ [42, 47] (by simp [List.isPrefixOf])]
     rfl
    ·refine ev_if_neg (fun e => h47 ?_) (next ?_)
     ·exact (u8_nat (n := 47) (by omega)).1 e
     ·rw [hd2]; exact pre_b _ _ _ _ _ h47
   ·refine ev_if_neg (by omega) (next ?_)
    rw [List.drop_eq_nil_of_le (show (B s).length ≤ j + 1 by omega)]
    exact pre_e _ _ _
  ·refine ev_if_neg (fun e => h42 ?_) (next ?_)
   ·exact (u8_nat (n := 42) (by omega)).1 e
   ·exact pre_a _ _ _ _ h42
theorem l5Bare_l0 (s : ByteArray) (hs : s.size ≤ 1048576) : ∀ (n i : Nat) (out : ByteArray), s.size ≤ i + n → i ≤ s.size + 2 → out.size ≤ i → Ev (fun k => spec_l5Bare.l0 k s out (i : Int)) (ofL (B out ++ bare ((B s).drop i))) := by
 have hB := B_len s
 intro n
 induction n using Nat.strongRecOn with
 | ind n ih =>
  intro i out hn hi1 ho
  by_cases hlt : i < s.size
  ·have hi : i < (B s).length := by omega
   have hdrop := drop_cons (B s) 0 i hi
   have w1 : wrap64 ((i : Int) + 1) = ((i + 1 : Nat) : Int) := wrap_up (show i < 1048577 by omega) (by omega)
   have w2 : wrap64 ((i : Int) + 2) = ((i + 2 : Nat) : Int) := by rw [wrap_id (by omega) (by omega)]; omega
   have single : ¬ ([47, 42] : List UInt8).isPrefixOf ((B s).getD i 0 :: (B s).drop (i + 1)) = true → Ev (fun k => spec_l5Bare.j1 k s out (i : Int) true) (ofL (B out ++ bare ((B s).drop i))) := by
    intro hp
    have e1 : s.extract (i : Int).toNat ((i + 1 : Nat) : Int).toNat = ofL [(B s).getD i 0] := by
     rw [Int.toNat_natCast, Int.toNat_natCast]
     refine B_ext ?_
     rw [B_extract, B_ofL, hdrop, show i + 1 - i = 1 by omega]; rfl
    have e2 : (ofL [(B s).getD i 0]).size = 1 := rfl
    refine Ev.step (fun k => by rw [spec_l5Bare.j1]) ?_
    rw [w1]
    refine ev_if_pos rfl (ev_if_pos (by omega) (ev_if_pos (by omega) (ev_if_pos (by omega) ?_)))
    rw [e1, e2]
    refine ev_if_pos (by omega) ?_
    have h := ih (s.size - (i + 1)) (by omega) (i + 1) (out ++ ofL [(B s).getD i 0]) (by omega) (by omega) (by rw [ByteArray.size_append, e2]; omega)
    rw [B_append, B_ofL] at h
    rw [hdrop, bare_char _ _ hp]
    simpa using h
   refine Ev.step (fun k => by rw [spec_l5Bare.l0]) ?_
   refine ev_if_pos (by omega) (ev_if_pos (by omega) ?_)
   rw [bt_U s i hi, w1]
   by_cases h47 : (B s).getD i 0 = 47
   ·refine ev_if_pos (by rw [h47]; rfl) ?_
    by_cases h2 : i + 1 < s.size
    ·have hi2 : i + 1 < (B s).length := by omega
     have hd2 := drop_cons (B s) 0 (i + 1) hi2
     refine ev_if_neg (by omega) (ev_if_pos (by omega) (ev_if_pos (by omega) ?_))
     rw [bt_U s (i + 1) hi2]
     by_cases h42 : (B s).getD (i + 1) 0 = 42
     ·have e0 : (((((B s).getD (i + 1) 0).toNat : Int)) != 42) = false := by rw [h42]; rfl
      rw [e0]
      refine Ev.step (fun k => by rw [spec_l5Bare.j1]) ?_
      refine ev_if_neg (by simp) ?_
      rw [w2]
      refine l5Bare_l1 s out hs _ (by omega) (s.size - (i + 2)) (i + 2) (by omega) (fun p h1 h3 h4 => ?_)
      have e3 : (⟨#[32]⟩ : ByteArray).size = 1 := rfl
      have h := ih (s.size - p) (by omega) p (out ++ (⟨#[32]⟩ : ByteArray)) (by omega) h3 (by rw [ByteArray.size_append, e3]; omega)
      rw [hdrop, hd2, h47, h42, bare_open, ← h4]
      have e4 : B (⟨#[32]⟩ : ByteArray) = [32] := rfl
      rw [B_append, e4] at h
      simpa using h
     ·have e0 : (((((B s).getD (i + 1) 0).toNat : Int)) != 42) = true := bne_iff_ne.2 fun e => h42 ((u8_nat (n := 42) (by omega)).1 e)
      rw [e0]
      exact single (by rw [hd2]; exact pre_b _ _ _ _ _ h42)
    ·refine ev_if_pos (by omega) (single ?_)
     rw [List.drop_eq_nil_of_le (show (B s).length ≤ i + 1 by omega)]
     exact pre_e _ _ _
   ·refine ev_if_neg (fun e => h47 ((u8_nat (n := 47) (by omega)).1 e)) (single ?_)
    exact pre_a _ _ _ _ h47
  ·refine Ev.step (fun k => by rw [spec_l5Bare.l0]) ?_
   refine ev_if_neg (by omega) (ev_now fun k => ?_)
   rw [List.drop_eq_nil_of_le (show (B s).length ≤ i by omega), bare_nil, List.append_nil, ofL_B]
theorem spec_l5Bare_ev (s : ByteArray) (hs : s.size ≤ 1048576) : Ev (fun k => spec_l5Bare.f k s) (ofL (bare (B s))) := by
 have h := l5Bare_l0 s hs s.size 0 (⟨#[]⟩ : ByteArray) (by omega) (by omega) (Nat.le_refl _)
 exact Ev.congr (fun k => rfl) h
theorem l1Split_l0 (s : ByteArray) (hs : s.size ≤ 1048576) (c : UInt8) : ∀ (n i a : Nat) (acc : List ByteArray), i + n = s.size → a ≤ i → acc.length ≤ i → Ev (fun k => spec_l1Split.l0 k s (c.toNat : Int) acc a i) (acc ++ (ofL (((B s).drop a).take (i - a) ++ (splitL c ((B s).drop i)).headD []) :: ((splitL c ((B s).drop i)).tail.map ofL))) := by
 have hB := B_len s
 have hex : ∀ a i : Nat, s.extract (a : Int).toNat (i : Int).toNat = ofL (((B s).drop a).take (i - a)) := by
  intro a i
  rw [Int.toNat_natCast, Int.toNat_natCast]
  exact B_ext (by rw [B_extract, B_ofL])
 intro n
 induction n with
 | zero =>
  intro i a acc h1 h2 h3
  have hd : (B s).drop i = [] := List.drop_eq_nil_of_le (by omega)
  rw [hd]
  refine Ev.step (fun k => by rw [spec_l1Split.l0]) ?_
  refine ev_if_pos (by omega) (ev_if_pos (by omega) (ev_if_pos (by omega) (ev_if_pos (by omega) (ev_if_pos (by omega) ?_))))
  rw [wrap_id (by omega) (by omega), hex]
  refine ev_done fun k => ?_
  rw [spec_l1Split.l0, if_neg (by omega)]
  simp [splitL]
 | succ n ih =>
  intro i a acc h1 h2 h3
  have hi : i < (B s).length := by omega
  have hdrop := drop_cons (B s) 0 i hi
  refine Ev.step (fun k => by rw [spec_l1Split.l0]) ?_
  refine ev_if_pos (by omega) (ev_if_neg (by omega) (ev_if_pos (by omega) (ev_if_pos (by omega) ?_)))
  rw [bt_U s i hi, wrap_up (show i < 1048577 by omega) (by omega), hdrop]
  by_cases hc : (B s).getD i 0 = c
  ·refine ev_if_pos (by rw [hc]) (ev_if_pos (by omega) (ev_if_pos (by omega) (ev_if_pos (by omega) ?_)))
   rw [hex]
   have h := ih (i + 1) (i + 1) (acc ++ [ofL (((B s).drop a).take (i - a))]) (by omega) (Nat.le_refl _) (by simp; omega)
   rw [splitL, if_pos hc]
   rw [Nat.sub_self, List.take_zero, List.nil_append] at h
   have hne := splitL_ne c ((B s).drop (i + 1))
   cases hsp : splitL c ((B s).drop (i + 1)) with
   | nil => exact absurd hsp hne
   | cons x xs => rw [hsp] at h; simpa using h
  ·refine ev_if_neg (fun e => hc ?_) ?_
   ·have := (u8_nat (a := (B s).getD i 0) (n := c.toNat) c.toNat_lt).1 e
    rw [this]; simp
   ·have h := ih (i + 1) a acc (by omega) (by omega) (by omega)
    rw [splitL, if_neg hc]
    have ht : ((B s).drop a).take (i + 1 - a) = ((B s).drop a).take (i - a) ++ [(B s).getD i 0] := by
     rw [show i + 1 - a = (i - a) + 1 by omega, List.take_add_one, List.getElem?_drop, show a + (i - a) = i by omega, List.getElem?_eq_getElem hi]
     simp [List.getD_eq_getElem?_getD, List.getElem?_eq_getElem hi]
    rw [ht] at h
    simpa using h
theorem spec_l1Split_ev (s : ByteArray) (hs : s.size ≤ 1048576) (c : UInt8) : Ev (fun k => spec_l1Split.f k s (c.toNat : Int)) ((splitL c (B s)).map ofL) := by
 have h := l1Split_l0 s hs c s.size 0 0 [] (by omega) (Nat.le_refl _) (by simp)
 refine Ev.congr (f := fun k => spec_l1Split.l0 k s (c.toNat : Int) [] 0 0) (fun k => rfl) ?_
 have hne := splitL_ne c (B s)
 cases hsp : splitL c (B s) with
 | nil => exact absurd hsp hne
 | cons x xs => rw [List.drop_zero, hsp] at h; simpa using h
theorem spec_l4Blank_eq (c : UInt8) : spec_l4Blank.f (c.toNat : Int) = some (blankU c) := by
 unfold spec_l4Blank.f blankU
 have e : ∀ n : Nat, n < 256 → (((c.toNat : Int) = (n : Int)) ↔ c = UInt8.ofNat n) := fun n hn => u8_nat hn
 by_cases h9 : c = 9
 ·subst h9; rfl
 ·rw [if_neg (by rw [show (9 : Int) = ((9 : Nat) : Int) from rfl, e 9 (by omega)]; exact h9)]
  by_cases h10 : c = 10
  ·subst h10; rfl
  ·rw [if_neg (by rw [show (10 : Int) = ((10 : Nat) : Int) from rfl, e 10 (by omega)]; exact h10)]
   by_cases h13 : c = 13
   ·subst h13; rfl
   ·rw [if_neg (by rw [show (13 : Int) = ((13 : Nat) : Int) from rfl, e 13 (by omega)]; exact h13)]
    by_cases h32 : c = 32
    ·subst h32; rfl
    ·have h1 : ((c.toNat : Int) == 32) = false := beq_eq_false_iff_ne.mpr (by rw [show (32 : Int) = ((32 : Nat) : Int) from rfl]; exact fun h => h32 ((e 32 (by omega)).1 h))
     rw [h1]
     simp [h9, h10, h13, h32]
theorem l5Trim_right : ∀ (n : Nat) (s : ByteArray), s.size = n → n ≤ 1048576 → Ev (fun k => spec_l5Trim.l1 k s) (ofL (dropR (B s))) := by
 intro n
 induction n with
 | zero =>
  intro s hs _
  have e : B s = [] := List.length_eq_zero_iff.mp (by rw [B_len]; exact hs)
  refine Ev.step (fun k => spec_l5Trim.l1.eq_2 ..) (ev_if_neg (by omega) ?_)
  have e2 : ofL (dropR (B s)) = s := by rw [e, dropR_nil, ← e, ofL_B]
  rw [e2]; exact Ev.now _
 | succ n ih =>
  intro s hs hn
  have hl := B_len s
  refine Ev.step (fun k => spec_l5Trim.l1.eq_2 ..) (ev_if_pos (by omega) ?_)
  rw [wrap_id (x := (s.size : Int) - 1) (by omega) (by omega), show (s.size : Int) - 1 = (n : Int) by omega]
  refine ev_if_pos (by omega) (ev_if_pos (by omega) ?_)
  rw [bt_U s n (by omega)]
  refine ev_bind0 (spec_l4Blank_eq _) ?_
  have hsplit : B s = (B s).take n ++ [(B s).getD n 0] := by
   have h1 := List.take_append_drop n (B s)
   rw [drop_cons (B s) 0 n (by omega), List.drop_eq_nil_of_le (by omega)] at h1
   exact h1.symm
  have hR : dropR (B s) = if blankU ((B s).getD n 0) = true then dropR ((B s).take n) else B s := by
   have h1 := dropR_snoc ((B s).take n) ((B s).getD n 0)
   rw [← hsplit] at h1
   exact h1
  rw [hR]
  by_cases hb : blankU ((B s).getD n 0) = true
  ·rw [if_pos hb]
   refine ev_if_pos hb (ev_if_pos (by omega) ?_)
   rw [Int.toNat_natCast]
   have hB : B (s.extract 0 n) = (B s).take n := by rw [B_extract]; simp
   have h2 := ih (s.extract 0 n) (by rw [← B_len, hB, List.length_take]; omega) (by omega)
   rw [hB] at h2
   exact h2
  ·rw [if_neg hb, ofL_B]
   exact ev_if_neg hb (Ev.now _)
theorem l5Trim_left : ∀ (n : Nat) (s : ByteArray), s.size = n → n ≤ 1048576 → Ev (fun k => spec_l5Trim.l0 k s) (ofL (dropR (dropL (B s)))) := by
 intro n
 induction n with
 | zero =>
  intro s hs hn
  have e : B s = [] := List.length_eq_zero_iff.mp (by rw [B_len]; exact hs)
  have h := l5Trim_right 0 s hs hn
  have e2 : dropL (B s) = B s := by rw [e]; rfl
  rw [e2]
  exact Ev.step (fun k => spec_l5Trim.l0.eq_2 ..) (ev_if_neg (by omega) (Ev.step (fun k => spec_l5Trim.j1.eq_2 ..) h))
 | succ n ih =>
  intro s hs hn
  have hl := B_len s
  refine Ev.step (fun k => spec_l5Trim.l0.eq_2 ..) (ev_if_pos (by omega) (ev_if_pos (by omega) ?_))
  rw [show bt s 0 = _ from bt_U s 0 (by omega)]
  refine ev_bind0 (spec_l4Blank_eq _) ?_
  have hsplit : B s = (B s).getD 0 0 :: (B s).drop 1 := by
   have h1 := drop_cons (B s) 0 0 (by omega)
   rw [List.drop_zero] at h1
   exact h1
  by_cases hb : blankU ((B s).getD 0 0) = true
  ·refine ev_if_pos hb (ev_if_pos (by omega) ?_)
   have hB : B (s.extract 1 s.size) = (B s).drop 1 := by
    rw [B_extract, List.take_of_length_le (by rw [List.length_drop]; omega)]
   have h2 := ih (s.extract 1 s.size) (by rw [← B_len, hB, List.length_drop]; omega) (by omega)
   rw [hB] at h2
   have e : dropL (B s) = dropL ((B s).drop 1) := by
    rw [hsplit]; unfold dropL; rw [List.dropWhile_cons, if_pos (by simpa using hb)]; simp
   rw [e]
   exact h2
  ·have e : dropL (B s) = B s := by
    rw [hsplit]; unfold dropL; rw [List.dropWhile_cons, if_neg (by simpa using hb)]
   rw [e]
   exact ev_if_neg hb (Ev.step (fun k => spec_l5Trim.j1.eq_2 ..) (l5Trim_right (n + 1) s hs hn))
def trimP (s : ByteArray) : ByteArray := ofL (dropR (dropL (B s)))
theorem trimP_size (s : ByteArray) : (trimP s).size ≤ s.size := by
 rw [← B_len, ← B_len]
 unfold trimP
 rw [B_ofL]
 exact Nat.le_trans (dropR_len _) (dropL_len _)
theorem spec_l5Trim_ev (s : ByteArray) (hs : s.size ≤ 1048576) : Ev (fun k => spec_l5Trim.f k s) (trimP s) := l5Trim_left s.size s rfl hs
theorem spec_l5Start_eq (c : Int) : spec_l5Start.f c = some (ltrI c || decide (c = 95) || decide (c = 45)) := by
 have hb : (c == 45) = decide (c = 45) := by rw [Bool.eq_iff_iff]; simp
 unfold spec_l5Start.f
 rw [spec_l4Letter_eq, Option.bind_some, hb]
 split
 ·rename_i h; rw [h, Bool.true_or]
 ·rename_i h; rw [Bool.not_eq_true] at h; rw [h, Bool.false_or]
theorem spec_l5Inner_eq (c : Int) : spec_l5Inner.f c = some (wordI c) := by
 unfold spec_l5Inner.f
 rw [spec_l5Start_eq, Option.bind_some, spec_l1Digit_eq, Option.bind_some]
 unfold wordI
 generalize ltrI c = a; generalize digI c = b; generalize decide (c = 95) = d; generalize decide (c = 45) = e
 cases a <;> cases b <;> cases d <;> cases e <;> rfl
def runL (l : List UInt8) : Nat := if runEnd wordU l 0 = 0 then 0 else if digU (l.getD 0 0) = true then 0 else if runEnd wordU l 0 > 30 then 0 else runEnd wordU l 0
theorem spec_l5Run_ev (s : ByteArray) (hs : s.size ≤ 9223372036854775806) : Ev (fun k => spec_l5Run.f k s) ((runL (B s) : Nat) : Int) := by
 refine Ev.congr (f := fun k => spec_l5Run.l0 k s 0) (fun k => rfl) ?_
 have hl := B_len s
 have fin : ∀ e : Nat, e ≤ (B s).length → ∀ k : Nat, (if (e : Int) = 0 then (some (0 : Int)) else (if 0 < (s.size : Int) then ((spec_l1Digit.f (bt s 0)).bind fun t => (if t = true then (some 0) else (if (e : Int) > 30 then (some 0) else (some (e : Int))))) else (none))) =
   some (((if e = 0 then 0 else if digU ((B s).getD 0 0) = true then 0 else if e > 30 then 0 else e : Nat) : Nat) : Int) := by
  intro e he k
  by_cases h0 : e = 0
  ·rw [if_pos (by omega), if_pos h0]; rfl
  ·have hb := bt_U s 0 (by omega)
   have hd : digI (bt s 0) = digU ((B s).getD 0 0) := by
    have : bt s ((0 : Nat) : Int) = bt s 0 := rfl
    rw [← this, hb]; rfl
   rw [if_neg (by omega), if_neg h0, if_pos (by omega), spec_l1Digit_eq, Option.bind_some, hd]
   split
   ·rfl
   ·by_cases h30 : e > 30
    ·rw [if_pos (by omega), if_pos h30]; rfl
    ·rw [if_neg (by omega), if_neg h30]
 have key := ev_from (B s).length (fun i k => spec_l5Run.l0 k s i) (fun i => (((if runEnd wordU (B s) i = 0 then 0 else if digU ((B s).getD 0 0) = true then 0 else if runEnd wordU (B s) i > 30 then 0 else runEnd wordU (B s) i : Nat) : Nat) : Int)) ?_ ?_ 0 (by omega)
 ·exact key
 ·refine ev_done fun k => ?_
  rw [spec_l5Run.l0, if_neg (by omega), fin _ (Nat.le_refl _) k, runEnd_end _ _ _ (Nat.le_refl _)]
 ·intro i hi h
  by_cases hp : wordU ((B s).getD i 0) = true
  ·rw [runEnd_yes _ _ _ hi hp]
   refine Ev.step (fun k => ?_) h
   rw [spec_l5Run.l0, if_pos (by omega), if_pos (by omega), spec_l5Inner_eq, Option.bind_some, bt_U s i hi, if_pos (show wordI _ = true from hp), wrap_up hi (by omega)]
  ·refine ev_done fun k => ?_
   rw [spec_l5Run.l0, if_pos (by omega), if_pos (by omega), spec_l5Inner_eq, Option.bind_some, bt_U s i hi, if_neg (show ¬ wordI _ = true from hp), runEnd_no _ _ _ hi hp, fin i (by omega) k]
def impMark : List UInt8 := [33, 105, 109, 112, 111, 114, 116, 97, 110, 116]
def impB (t : ByteArray) : Bool := decide (10 ≤ t.size) && ((t.extract (t.size - 10) t.size).toList == impMark)
theorem strings_CutSuffix_imp (t : ByteArray) (hs : t.size ≤ 1048576) : strings_CutSuffix.f t (⟨#[33, 105, 109, 112, 111, 114, 116, 97, 110, 116]⟩ : ByteArray) = some (if impB t = true then (t.extract 0 (t.size - 10), true) else (t, false)) := by
 have hz : (⟨#[33, 105, 109, 112, 111, 114, 116, 97, 110, 116]⟩ : ByteArray).size = 10 := rfl
 have hl : (⟨#[33, 105, 109, 112, 111, 114, 116, 97, 110, 116]⟩ : ByteArray).toList = impMark := by rw [toList_B]; rfl
 unfold strings_CutSuffix.f stringslite_CutSuffix.f stringslite_HasSuffix.f
 rw [hz, hl]
 by_cases h : 10 ≤ t.size
 ·have e : wrap64 ((t.size : Int) - ((10 : Nat) : Int)) = ((t.size - 10 : Nat) : Int) := by rw [wrap_id (by omega) (by omega)]; omega
  rw [e, if_pos (by omega), if_pos (by omega), if_pos (by omega), Int.toNat_natCast, Option.bind_some]
  unfold impB
  rw [decide_eq_true h, Bool.true_and]
  split
  ·rw [if_pos (by omega), if_pos (by omega)]; rfl
  ·rfl
 ·unfold impB
  rw [if_neg (by omega), Option.bind_some, if_neg (by simp), decide_eq_false h, Bool.false_and, if_neg (by simp)]
  rfl
theorem strings_Cut_eq (s sep : ByteArray) (hs : s.size < 4294967281) : strings_Cut.f s sep = some (ofL (Go.Lib.cut (B s) (B sep)).1, ofL (Go.Lib.cut (B s) (B sep)).2.1, (Go.Lib.cut (B s) (B sep)).2.2) := by
 unfold strings_Cut.f
 rw [if_pos hs]
 rfl
theorem lowC_range (x : Int) (h0 : 0 ≤ x) (h1 : x < 256) : 0 ≤ lowC x ∧ lowC x < 256 := by unfold lowC; split <;> omega
def lowU (c : UInt8) : UInt8 := UInt8.ofNat (lowC (c.toNat : Int)).toNat
theorem lowU_nat (c : UInt8) : ((lowU c).toNat : Int) = lowC (c.toNat : Int) := by
 have h := c.toNat_lt
 have hr := lowC_range (c.toNat : Int) (by omega) (by omega)
 unfold lowU
 rw [UInt8.toNat_ofNat', Nat.mod_eq_of_lt (by omega)]
 omega
theorem B_lowB (s : ByteArray) : B (lowB s) = (B s).map lowU := by
 unfold lowB B
 rw [Go.strOfNums_data]
 unfold bytesOf
 rw [List.map_map, List.map_map]
 rfl
theorem lowB_size (s : ByteArray) : (lowB s).size = s.size := by rw [← B_len, B_lowB, List.length_map, B_len]
theorem digU_low (c : UInt8) : digU (lowU c) = digU c := by
 unfold digU
 rw [lowU_nat]
 generalize (c.toNat : Int) = x
 unfold digI lowC
 split
 ·rw [decide_eq_decide]; omega
 ·rfl
theorem wordU_low (c : UInt8) : wordU (lowU c) = wordU c := by
 have h := c.toNat_lt
 unfold wordU
 rw [lowU_nat]
 unfold wordI ltrI digI lowC
 split
 ·rename_i hh
  have e : ((c.toNat : Int) + 32) % 256 = (c.toNat : Int) + 32 := by omega
  rw [e, decide_eq_true (show (97 ≤ (c.toNat : Int) + 32 ∧ (c.toNat : Int) + 32 ≤ 122) ∨ (65 ≤ (c.toNat : Int) + 32 ∧ (c.toNat : Int) + 32 ≤ 90) by omega), decide_eq_true (show (97 ≤ (c.toNat : Int) ∧ (c.toNat : Int) ≤ 122) ∨ (65 ≤ (c.toNat : Int) ∧ (c.toNat : Int) ≤ 90) by omega)]
  rfl
 ·rfl
theorem isWordL_low (s : ByteArray) : isWordL (B (lowB s)) = isWordL (B s) := by
 rw [B_lowB]
 unfold isWordL
 have h1 : ((B s).map lowU).all wordU = (B s).all wordU := by
  rw [List.all_map]
  congr 1
  funext c
  exact wordU_low c
 have h2 : digU (((B s).map lowU).getD 0 0) = digU ((B s).getD 0 0) := by
  cases B s with
  | nil => rfl
  | cons c l => exact digU_low c
 rw [h1, h2, List.length_map]
theorem impl_isDigit_eq (c : Int) : impl_isDigit.f c = some (digI c) := by
 unfold impl_isDigit.f digI
 split
 ·rename_i h; congr 1; rw [decide_eq_decide]; omega
 ·rename_i h; congr 1; rw [eq_comm, decide_eq_false_iff_not]; omega
theorem impl_isLetter_eq (c : Int) : impl_isLetter.f c = some (ltrI c) := by
 unfold impl_isLetter.f ltrI
 split
 ·split
  ·congr 1; rw [eq_comm, decide_eq_true_iff]; omega
  ·split
   ·congr 1; rw [decide_eq_decide]; omega
   ·congr 1; rw [eq_comm, decide_eq_false_iff_not]; omega
 ·split
  ·congr 1; rw [decide_eq_decide]; omega
  ·congr 1; rw [eq_comm, decide_eq_false_iff_not]; omega
theorem impl_wordEnd_l0_ev (s : ByteArray) (hs : s.size ≤ 9223372036854775806) (i : Nat) : Ev (fun k => impl_wordEnd.l0 k s i) ((runEnd wordU (B s) i : Nat) : Int) := by
 have hl := B_len s
 by_cases hi0 : i ≤ (B s).length
 ·refine ev_from (B s).length (fun i k => impl_wordEnd.l0 k s i) (fun i => ((runEnd wordU (B s) i : Nat) : Int)) ?_ ?_ i hi0
  ·refine ev_done fun k => ?_
   rw [impl_wordEnd.l0, if_neg (by omega), runEnd_end _ _ _ (Nat.le_refl _)]
  ·intro i hi h
   have hb := bt_U s i hi
   by_cases hp : wordU ((B s).getD i 0) = true
   ·rw [runEnd_yes _ _ _ hi hp]
    refine Ev.step (fun k => ?_) h
    rw [impl_wordEnd.l0, if_pos (by omega), if_pos (by omega), impl_isLetter_eq, Option.bind_some, impl_isDigit_eq, Option.bind_some, hb, wrap_up hi (by omega)]
    unfold wordU wordI at hp
    by_cases c1 : ltrI (((B s).getD i 0).toNat : Int) = true
    ·rw [if_pos c1]
    ·rw [if_neg c1]
     by_cases c2 : digI (((B s).getD i 0).toNat : Int) = true
     ·rw [if_pos c2]
     ·rw [if_neg c2]
      by_cases c3 : (((B s).getD i 0).toNat : Int) = 95
      ·rw [if_pos c3]
      ·rw [if_neg c3, if_pos]
       simp only [Bool.not_eq_true] at c1 c2
       rw [c1, c2, decide_eq_false c3] at hp
       simpa using hp
   ·refine ev_done fun k => ?_
    rw [impl_wordEnd.l0, if_pos (by omega), if_pos (by omega), impl_isLetter_eq, Option.bind_some, impl_isDigit_eq, Option.bind_some, hb, runEnd_no _ _ _ hi hp]
    unfold wordU wordI at hp
    simp only [Bool.or_eq_true, not_or, decide_eq_true_iff] at hp
    rw [if_neg hp.1.1.1, if_neg hp.1.1.2, if_neg hp.1.2, if_neg hp.2]
 ·refine ev_done fun k => ?_
  rw [impl_wordEnd.l0, if_neg (by omega), runEnd_end _ _ _ (by omega)]
def wordEndL (l : List UInt8) (i : Nat) : Nat := if i < l.length ∧ digU (l.getD i 0) = true then i else runEnd wordU l i
theorem impl_wordEnd_ev (s : ByteArray) (hs : s.size ≤ 9223372036854775806) (i : Nat) : Ev (fun k => impl_wordEnd.f k s i) ((wordEndL (B s) i : Nat) : Int) := by
 have hl := B_len s
 simp only [impl_wordEnd.f]
 unfold wordEndL
 by_cases hi : i < (B s).length
 ·refine ev_if_pos (by omega) (ev_if_pos (by omega) ?_)
  rw [impl_isDigit_eq, bt_U s i hi]
  simp only [Option.bind_some]
  by_cases hd : digU ((B s).getD i 0) = true
  ·rw [if_pos ⟨hi, hd⟩]
   refine Ev.step (fun k => impl_wordEnd.j0.eq_2 ..) (ev_if_pos hd (Ev.now _))
  ·rw [if_neg (fun h => hd h.2)]
   refine Ev.step (fun k => impl_wordEnd.j0.eq_2 ..) (ev_if_neg hd (impl_wordEnd_l0_ev s hs i))
 ·rw [if_neg (fun h => hi h.1)]
  refine ev_if_neg (by omega) (Ev.step (fun k => impl_wordEnd.j0.eq_2 ..) (ev_if_neg (by decide) (impl_wordEnd_l0_ev s hs i)))
theorem impl_within_eq (a b c : Int) : impl_within.f a b c = some (decide (b ≤ a ∧ a ≤ c)) := by
 unfold impl_within.f
 split
 ·rename_i h; simp [h]
 ·rename_i h; simp [h]
theorem wordEnd_word (l : List UInt8) : (decide (1 ≤ l.length ∧ l.length ≤ 30) && decide (wordEndL l 0 = l.length)) = isWordL l := by
 unfold isWordL wordEndL
 have ha := runEnd_all wordU l
 by_cases h0 : 1 ≤ l.length ∧ l.length ≤ 30
 ·rw [decide_eq_true h0, Bool.true_and, Bool.true_and]
  cases hd : digU (l.getD 0 0) with
  | true =>
   rw [if_pos ⟨by omega, rfl⟩]
   simp only [Bool.not_true, Bool.false_and]
   rw [decide_eq_false_iff_not]; omega
  | false =>
   rw [if_neg (fun h => by simp at h)]
   simp only [Bool.not_false, Bool.true_and]
   rw [Bool.eq_iff_iff, decide_eq_true_iff]; exact ha
 ·rw [decide_eq_false h0]; simp
theorem impl_isWord_ev (s : ByteArray) (hs : s.size ≤ 9223372036854775806) : Ev (fun k => impl_isWord.f k s) (isWordL (B s)) := by
 have hl := B_len s
 simp only [impl_isWord.f]
 rw [← wordEnd_word, impl_within_eq]
 simp only [Option.bind_some]
 by_cases h : 1 ≤ (B s).length ∧ (B s).length ≤ 30
 ·refine ev_if_pos (by rw [decide_eq_true_iff]; omega) (ev_bind (impl_wordEnd_ev s hs 0) ?_)
  have e : (decide (1 ≤ (B s).length ∧ (B s).length ≤ 30) && decide (wordEndL (B s) 0 = (B s).length)) = (((wordEndL (B s) 0 : Nat) : Int) == (s.size : Int)) := by
   rw [decide_eq_true h, Bool.true_and, Bool.eq_iff_iff, decide_eq_true_iff, beq_iff_eq]; omega
  rw [e]; exact Ev.now _
 ·refine ev_if_neg (by rw [decide_eq_true_iff]; omega) ?_
  rw [decide_eq_false h, Bool.false_and]; exact Ev.now _
theorem impl_trimmed_eq (s : ByteArray) (hs : s.size ≤ 1048576) : impl_trimmed.f s = some (trimP s) := by
 unfold impl_trimmed.f
 rw [if_pos (by omega)]
 have e : trimB s = trimP s := by
  unfold trimB trimP
  show ofL (dropL (dropR (B s))) = _
  rw [dropL_dropR]
 rw [e]
def valB (t : ByteArray) : ByteArray := if impB t = true then trimP (t.extract 0 (t.size - 10)) else t
theorem valB_size (t : ByteArray) : (valB t).size ≤ t.size := by
 unfold valB
 split
 ·have := trimP_size (t.extract 0 (t.size - 10))
  rw [ByteArray.size_extract] at this
  omega
 ·exact Nat.le_refl _
def okB (v : ByteArray) : Bool := decide ((1 : Int) ≤ (v.size : Int) ∧ (v.size : Int) ≤ 60)
theorem impl_readDecl_ev (s : ByteArray) (hs : s.size ≤ 1048576) : Ev (fun k => impl_readDecl.f k s)
  (if (Go.Lib.cut (B s) [58]).2.2 = true ∧ isWordL (tr (Go.Lib.cut (B s) [58]).1) = true ∧ okB (valB (trimP (ofL (Go.Lib.cut (B s) [58]).2.1))) = true then
   (lowB (trimP (ofL (Go.Lib.cut (B s) [58]).1)), valB (trimP (ofL (Go.Lib.cut (B s) [58]).2.1)), impB (trimP (ofL (Go.Lib.cut (B s) [58]).2.1)), true)
  else ((⟨#[]⟩ : ByteArray), (⟨#[]⟩ : ByteArray), false, false)) := by
 have hB := B_len s
 have hp := cut_parts (B s) [58]
 have hp2 := (cut_len (B s) [58]).1
 have hz : ∀ l : List UInt8, (ofL l).size = l.length := fun l => by rw [← B_len, B_ofL]
 have e1 : B (⟨#[58]⟩ : ByteArray) = [58] := rfl
 unfold impl_readDecl.f
 refine ev_bind0 (strings_Cut_eq s _ (by omega)) ?_
 rw [e1]
 dsimp only
 generalize hn : (Go.Lib.cut (B s) [58]).1 = nm at hp ⊢
 generalize hv : (Go.Lib.cut (B s) [58]).2.1 = vl at hp hp2 ⊢
 generalize hf : (Go.Lib.cut (B s) [58]).2.2 = fd at hp ⊢
 have zn := trimP_size (ofL nm)
 have zv := trimP_size (ofL vl)
 rw [hz] at zn zv
 refine ev_bind0 (impl_trimmed_eq _ (by rw [hz]; omega)) ?_
 refine ev_bind0 (show impl_lower.f (trimP (ofL nm)) = some (lowB (trimP (ofL nm))) by unfold impl_lower.f; rw [if_pos (by omega)]) ?_
 refine ev_bind0 (impl_trimmed_eq _ (by rw [hz]; omega)) ?_
 refine ev_bind0 (strings_CutSuffix_imp _ (by omega)) ?_
 generalize ht : trimP (ofL vl) = t at zv ⊢
 have hvz := valB_size t
 have key : Ev (fun k => impl_readDecl.j0 k fd (lowB (trimP (ofL nm))) (valB t) (impB t)) (if fd = true ∧ isWordL (tr nm) = true ∧ okB (valB t) = true then (lowB (trimP (ofL nm)), valB t, impB t, true) else ((⟨#[]⟩ : ByteArray), (⟨#[]⟩ : ByteArray), false, false)) := by
  refine Ev.step (fun k => by rw [impl_readDecl.j0]) ?_
  by_cases hfd : fd = true
  ·refine ev_if_pos hfd ?_
   refine ev_bind (impl_isWord_ev _ (by rw [lowB_size]; omega)) ?_
   have e2 : B (trimP (ofL nm)) = tr nm := by unfold trimP tr; rw [B_ofL, B_ofL]
   rw [isWordL_low, e2]
   by_cases hw : isWordL (tr nm) = true
   ·refine ev_if_pos hw ?_
    refine ev_bind0 (impl_within_eq _ _ _) ?_
    by_cases ho : okB (valB t) = true
    ·have hT : fd = true ∧ isWordL (tr nm) = true ∧ okB (valB t) = true := ⟨hfd, hw, ho⟩
     rw [if_pos hT]
     exact ev_if_pos ho (ev_now fun k => rfl)
    ·rw [if_neg (show ¬ (fd = true ∧ isWordL (tr nm) = true ∧ okB (valB t) = true) from fun h => ho h.2.2)]
     exact ev_if_neg ho (ev_now fun k => rfl)
   ·rw [if_neg (show ¬ (fd = true ∧ isWordL (tr nm) = true ∧ okB (valB t) = true) from fun h => hw h.2.1)]
    exact ev_if_neg hw (ev_now fun k => rfl)
  ·rw [if_neg (show ¬ (fd = true ∧ isWordL (tr nm) = true ∧ okB (valB t) = true) from fun h => hfd h.1)]
   exact ev_if_neg hfd (ev_now fun k => rfl)
 by_cases hi : impB t = true
 ·rw [if_pos hi]
  refine ev_if_pos rfl (ev_bind0 (impl_trimmed_eq _ (by simp only [ByteArray.size_extract]; omega)) ?_)
  unfold valB at key ⊢
  rw [hi, if_pos rfl] at key ⊢
  exact key
 ·rw [if_neg hi]
  refine ev_if_neg (by simp) ?_
  unfold valB at key ⊢
  rw [if_neg hi] at key ⊢
  rw [Bool.eq_false_iff.2 hi] at key ⊢
  exact key
def specDecl (s : ByteArray) : ByteArray × ByteArray × Bool × Bool :=
 if runL (tr (B s)) = 0 then ((⟨#[]⟩ : ByteArray), (⟨#[]⟩ : ByteArray), false, false)
 else if (tr ((tr (B s)).drop (runL (tr (B s))))).head? = some 58 then
  (lowB (ofL ((tr (B s)).take (runL (tr (B s))))), valB (ofL (tr (tr ((tr (B s)).drop (runL (tr (B s))))).tail)), impB (ofL (tr (tr ((tr (B s)).drop (runL (tr (B s))))).tail)), okB (valB (ofL (tr (tr ((tr (B s)).drop (runL (tr (B s))))).tail))))
 else ((⟨#[]⟩ : ByteArray), (⟨#[]⟩ : ByteArray), false, false)
theorem runL_leD (l : List UInt8) : runL l ≤ l.length := by
 have h := runEnd_le wordU l 0 (by omega)
 unfold runL
 split
 ·omega
 ·split
  ·omega
  ·split <;> omega
theorem tr_len (l : List UInt8) : (tr l).length ≤ l.length := by
 have h1 := dropL_len l
 have h2 := dropR_len (dropL l)
 unfold tr; omega
theorem trimP_ofL (s : ByteArray) : trimP s = ofL (tr (B s)) := rfl
theorem spec_l5Decl_ev (s : ByteArray) (hs : s.size ≤ 1048576) : Ev (fun k => spec_l5Decl.f k s) (specDecl s) := by
 have hB := B_len s
 have hz : ∀ l : List UInt8, (ofL l).size = l.length := fun l => by rw [← B_len, B_ofL]
 unfold spec_l5Decl.f specDecl
 refine ev_bind (spec_l5Trim_ev s hs) ?_
 rw [trimP_ofL]
 have hl1 := tr_len (B s)
 generalize tr (B s) = t at hl1 ⊢
 refine ev_bind (spec_l5Run_ev _ (by rw [hz]; omega)) ?_
 rw [B_ofL]
 have hr := runL_leD t
 generalize runL t = n at hr ⊢
 by_cases hn : n = 0
 ·rw [if_pos hn]
  exact ev_if_pos (by omega) (ev_now fun k => rfl)
 ·rw [if_neg hn]
  have ex1 : (ofL t).extract 0 ((n : Int)).toNat = ofL (t.take n) := by
   refine B_ext ?_
   rw [B_extract, B_ofL, B_ofL, Int.toNat_natCast, List.drop_zero, Nat.sub_zero]
  have ex2 : (ofL t).extract ((n : Int)).toNat (ofL t).size = ofL (t.drop n) := by
   refine B_ext ?_
   rw [B_extract, B_ofL, B_ofL, Int.toNat_natCast, hz, List.take_of_length_le (by simp)]
  refine ev_if_neg (by omega) (ev_if_pos (by omega) (ev_if_pos (by rw [hz]; omega) ?_))
  rw [ex1, ex2]
  refine ev_bind0 (show spec_l5Low.f (ofL (t.take n)) = some (lowB (ofL (t.take n))) by unfold spec_l5Low.f; rw [if_pos (by rw [hz, List.length_take]; omega)]) ?_
  refine ev_bind (spec_l5Trim_ev _ (by rw [hz, List.length_drop]; omega)) ?_
  rw [trimP_ofL, B_ofL]
  have hl2 := tr_len (t.drop n)
  rw [List.length_drop] at hl2
  generalize lowB (ofL (t.take n)) = nm
  generalize tr (t.drop n) = u at hl2 ⊢
  cases u with
  | nil =>
   refine ev_if_pos rfl ?_
   rw [if_neg (by simp)]
   refine Ev.step (fun k => by rw [spec_l5Decl.j0]) ?_
   exact ev_if_pos rfl (ev_now fun k => rfl)
  | cons c u =>
   rw [List.length_cons] at hl2
   refine ev_if_neg (by rw [hz, List.length_cons]; omega) (ev_if_pos (by rw [hz, List.length_cons]; omega) ?_)
   have hbt : bt (ofL (c :: u)) 0 = (c.toNat : Int) := by
    have := bt_U (ofL (c :: u)) 0 (by rw [B_ofL]; simp)
    rw [B_ofL] at this
    simpa using this
   rw [hbt]
   by_cases h58 : c = 58
   ·subst h58
    rw [if_pos (by simp), show ((((58 : UInt8).toNat : Int)) != 58) = false from rfl, List.tail_cons]
    refine Ev.step (fun k => by rw [spec_l5Decl.j0]) ?_
    have ex3 : (ofL (58 :: u)).extract 1 (ofL (58 :: u)).size = ofL u := by
     refine B_ext ?_
     rw [B_extract, B_ofL, B_ofL, hz, List.drop_one, List.tail_cons, List.take_of_length_le (by simp)]
    refine ev_if_neg (by simp) (ev_if_pos (by rw [hz, List.length_cons]; omega) ?_)
    rw [ex3]
    refine ev_bind (spec_l5Trim_ev _ (by rw [hz]; omega)) ?_
    rw [trimP_ofL, B_ofL]
    have hl3 := tr_len u
    have hzt := hz (tr u)
    generalize ofL (tr u) = v at hzt ⊢
    have hvz := valB_size v
    have j1T : impB v = true → 10 ≤ v.size → Ev (fun k => spec_l5Decl.j1 k v true nm (⟨#[]⟩ : ByteArray) false) (nm, valB v, impB v, okB (valB v)) := by
     intro hi h10
     have e : wrap64 ((v.size : Int) - 10) = ((v.size - 10 : Nat) : Int) := by rw [wrap_id (by omega) (by omega)]; omega
     refine Ev.step (fun k => by rw [spec_l5Decl.j1]) ?_
     rw [e, Int.toNat_natCast]
     refine ev_if_pos rfl (ev_if_pos (by omega) (ev_if_pos (by omega) ?_))
     refine ev_bind (spec_l5Trim_ev _ (by simp only [ByteArray.size_extract]; omega)) ?_
     refine ev_bind0 (spec_l1In_eq _ _ _) (ev_now fun k => ?_)
     unfold valB
     rw [hi, if_pos rfl]; rfl
    have j1F : impB v = false → Ev (fun k => spec_l5Decl.j1 k v false nm (⟨#[]⟩ : ByteArray) false) (nm, valB v, impB v, okB (valB v)) := by
     intro hi
     refine Ev.step (fun k => by rw [spec_l5Decl.j1]) ?_
     refine ev_if_neg (by simp) (ev_bind0 (spec_l1In_eq _ _ _) (ev_now fun k => ?_))
     unfold valB
     rw [hi, if_neg (by simp)]; rfl
    by_cases h10 : 10 ≤ v.size
    ·have e : wrap64 ((v.size : Int) - 10) = ((v.size - 10 : Nat) : Int) := by rw [wrap_id (by omega) (by omega)]; omega
     refine ev_if_pos (by omega) ?_
     rw [e, Int.toNat_natCast]
     refine ev_if_pos (by omega) (ev_if_pos (by omega) ?_)
     have hb : ((v.extract (v.size - 10) v.size).toList == ([33, 105, 109, 112, 111, 114, 116, 97, 110, 116] : List UInt8)) = impB v := by
      unfold impB impMark
      rw [decide_eq_true h10, Bool.true_and]
     rw [hb]
     cases hi : impB v with
     | true => have := j1T hi h10; rw [hi] at this; exact this
     | false => have := j1F hi; rw [hi] at this; exact this
    ·refine ev_if_neg (by omega) ?_
     exact j1F (by unfold impB; rw [decide_eq_false h10]; rfl)
   ·rw [if_neg (by simpa using h58)]
    have e0 : ((c.toNat : Int) != 58) = true := bne_iff_ne.2 fun e => h58 ((u8_nat (n := 58) (by omega)).1 e)
    rw [e0]
    refine Ev.step (fun k => by rw [spec_l5Decl.j0]) ?_
    exact ev_if_pos rfl (ev_now fun k => rfl)
theorem runL_runL' (l : List UInt8) : runL l = runL' l := rfl
theorem decl_both (s : ByteArray) (hs : s.size ≤ 1048576) : ∃ r1 r2 : ByteArray × ByteArray × Bool × Bool, Ev (fun k => spec_l5Decl.f k s) r1 ∧ Ev (fun k => impl_readDecl.f k s) r2 ∧ r1.2.2.2 = r2.2.2.2 ∧ (r1.2.2.2 = true → r1 = r2) := by
 refine ⟨_, _, spec_l5Decl_ev s hs, impl_readDecl_ev s hs, ?_⟩
 generalize hl : B s = l at *
 unfold specDecl
 rw [hl, runL_runL']
 by_cases hA : (Go.Lib.cut l [58]).2.2 = true ∧ isWordL (tr (Go.Lib.cut l [58]).1) = true
 ·have hm : (58 : UInt8) ∈ l := by
   refine Classical.byContradiction fun h => ?_
   rw [cut_miss l h] at hA
   exact absurd hA.1 (by simp)
  obtain ⟨p, q, h1, h2⟩ := first_of 58 l hm
  have hc : Go.Lib.cut l [58] = (p, q, true) := by rw [h1]; exact cut_at p q h2
  rw [hc] at hA ⊢
  obtain ⟨f1, f2, f3⟩ := decl_fwd l p q h1 h2 hA.2
  have w := word_all hA.2
  rw [f1, f2, f3, if_neg (by have := w.2.2.1; simp only at this; omega), if_pos (show (58 :: dropR q).head? = some (58 : UInt8) from rfl), List.tail_cons, tr_dropR]
  dsimp only
  have e1 : trimP (ofL p) = ofL (tr p) := by rw [trimP_ofL, B_ofL]
  have e2 : trimP (ofL q) = ofL (tr q) := by rw [trimP_ofL, B_ofL]
  rw [e1, e2]
  by_cases ho : okB (valB (ofL (tr q))) = true
  ·rw [if_pos ⟨rfl, hA.2, ho⟩, ho]
   exact ⟨rfl, fun _ => rfl⟩
  ·rw [if_neg (fun h => ho h.2.2)]
   exact ⟨Bool.eq_false_iff.2 ho, fun h => absurd h ho⟩
 ·rw [if_neg (show ¬ ((Go.Lib.cut l [58]).2.2 = true ∧ isWordL (tr (Go.Lib.cut l [58]).1) = true ∧ okB (valB (trimP (ofL (Go.Lib.cut l [58]).2.1))) = true) from fun h => hA ⟨h.1, h.2.1⟩)]
  by_cases hn : runL' (tr l) = 0
  ·rw [if_pos hn]; exact ⟨rfl, fun h => absurd h (by simp)⟩
  ·rw [if_neg hn]
   by_cases hh : (tr ((tr l).drop (runL' (tr l)))).head? = some 58
   ·exfalso
    cases hu : tr ((tr l).drop (runL' (tr l))) with
    | nil => rw [hu] at hh; simp at hh
    | cons c u =>
     rw [hu] at hh
     simp only [List.head?_cons, Option.some.injEq] at hh
     subst hh
     obtain ⟨p, q, g1, g2, g3⟩ := decl_bwd l u hn hu
     have hc : Go.Lib.cut l [58] = (p, q, true) := by rw [g1]; exact cut_at p q g2
     rw [hc] at hA
     exact hA ⟨rfl, g3⟩
   ·rw [if_neg hh]; exact ⟨rfl, fun h => absurd h (by simp)⟩
def toAttr (x : S82) : S76 := ⟨x.f0, x.f1⟩
theorem laws_toAttrS_ev (l : List S82) (hn : l.length ≤ 1048576) : Ev (fun k => laws_toAttrS.f k l) (l.map toAttr) := by
 refine Ev.congr (f := fun k => laws_toAttrS.l0 k l (List.replicate l.length z76) 0) (fun k => ?_) ?_
 ·unfold laws_toAttrS.f; rw [if_pos (by omega), if_pos (by omega)]; rfl
 ·refine ev_up l.length (fun i k => laws_toAttrS.l0 k l ((l.map toAttr).take i ++ List.replicate (l.length - i) z76) i) (l.map toAttr) ?_ ?_
  ·refine ev_done fun k => ?_
   rw [laws_toAttrS.l0, if_neg (by omega), List.take_of_length_le (by simp)]; simp
  ·intro i hi h
   refine Ev.step (fun k => ?_) h
   have e : (⟨(rd_T82 l (i : Int)).f0, (rd_T82 l (i : Int)).f1⟩ : S76) = (l.map toAttr).getD i z76 := by simp [rd_T82, hi, toAttr]
   rw [laws_toAttrS.l0, if_pos (by omega), if_pos (by omega)]
   simp only [laws_toAttr.f, Option.bind_some]
   rw [if_pos (by simp; omega), e, Int.toNat_natCast, take_set _ _ _ (by simpa using hi) _ (by simp; omega), List.tail_replicate, wrap_up hi (by omega)]
   congr 3
theorem laws_toNode_ev (a0 : ByteArray) (a1 : Int) (l : List S82) (a3 : ByteArray) (hn : l.length ≤ 1048576) : Ev (fun k => laws_toNode.f k a0 a1 l a3) (a0, a1, l.map toAttr, a3) := by
 simp only [laws_toNode.f]
 exact ev_bind (laws_toAttrS_ev l hn) (Ev.now _)
def toNode (x : S36) : S40 := ⟨x.f0, x.f1, x.f2.map toAttr, x.f3⟩
theorem laws_toNodeX_ev (x : S36) (hn : x.f2.length ≤ 1048576) : Ev (fun k => laws_toNode.f k x.f0 x.f1 x.f2 x.f3) (x.f0, x.f1, x.f2.map toAttr, x.f3) := laws_toNode_ev x.f0 x.f1 x.f2 x.f3 hn
theorem laws_toNodeS_ev (l : List S36) (hn : l.length ≤ 1048576) (hg : ∀ x ∈ l, x.f2.length ≤ 1048576) : Ev (fun k => laws_toNodeS.f k l) (l.map toNode) := by
 refine Ev.congr (f := fun k => laws_toNodeS.l0 k l (List.replicate l.length z40) 0) (fun k => ?_) ?_
 ·unfold laws_toNodeS.f; rw [if_pos (by omega), if_pos (by omega)]; rfl
 ·refine ev_up l.length (fun i k => laws_toNodeS.l0 k l ((l.map toNode).take i ++ List.replicate (l.length - i) z40) i) (l.map toNode) ?_ ?_
  ·refine ev_done fun k => ?_
   rw [laws_toNodeS.l0, if_neg (by omega), List.take_of_length_le (by simp)]; simp
  ·intro i hi h
   have hrd : rd_T36 l (i : Int) = l.getD i z36 := by simp [rd_T36]
   have hmem : l.getD i z36 ∈ l := by rw [List.getD_eq_getElem?_getD, List.getElem?_eq_getElem hi]; exact List.getElem_mem hi
   have e : toNode (l.getD i z36) = (l.map toNode).getD i z40 := by simp [hi]
   refine Ev.step (fun k => by rw [laws_toNodeS.l0, if_pos (by omega), if_pos (by omega), hrd]) ?_
   refine ev_bind (laws_toNodeX_ev (l.getD i z36) (hg _ hmem)) (ev_if_pos (by simp; omega) ?_)
   have e2 := take_set (l.map toNode) z40 i (by simpa using hi) (List.replicate (l.length - i) z40) (by simp; omega)
   rw [← e, List.tail_replicate] at e2
   rw [Int.toNat_natCast, wrap_up hi (by omega)]
   refine Ev.congr (fun k => ?_) h
   rw [show l.length - (i + 1) = l.length - i - 1 by omega, ← e2]
   rfl
theorem impl_mayRune_eq (r : Int) (h1 : r ≤ 1114111) (h2 : r < 55296 ∨ 57343 < r) : impl_mayRune.f r = some (mayR r) := by
 unfold impl_mayRune.f mayR
 rw [impl_within_eq, impl_within_eq]
 simp only [Option.bind_some]
 rw [decide_eq_false (show ¬ (55296 ≤ r ∧ r ≤ 57343) by omega)]
 repeat' split
 all_goals (simp only [Option.some.injEq]; rw [Bool.eq_iff_iff]; simp at *; try omega)
theorem impl_badByte_l0 (s : ByteArray) (hs : s.size ≤ 1048576) : ∀ (n p : Nat), (B s).length - p < n → p ≤ (B s).length → Ev (fun k => impl_badByte.l0 k s (p : Int)) (badFrom (B s) n p) := by
 have hl := B_len s
 intro n
 induction n with
 | zero => intro p h; omega
 | succ n ih =>
  intro p hn hp
  rw [badFrom]
  by_cases h : p < (B s).length
  ·rw [if_pos h]
   have hB : B (s.extract p s.size) = (B s).drop p := by rw [B_extract, List.take_of_length_le (by rw [List.length_drop]; omega)]
   have hlen : ((B s).drop p).length = (B s).length - p := List.length_drop
   have hgo := decodeGo_B (s.extract p s.size) (by rw [hB]; omega)
   rw [hB] at hgo
   have hf : utf8_DecodeRuneInString.f (s.extract p s.size) = some (((decP ((B s).drop p)).1 : Int), ((decP ((B s).drop p)).2 : Int)) := by
    unfold utf8_DecodeRuneInString.f; rw [hgo]
   have hw := decP_width ((B s).drop p) (by omega)
   have hm := decP_may ((B s).drop p)
   have hR : runeP ((B s).drop p) = fixR (decP ((B s).drop p)) := rfl
   rw [hR]
   refine Ev.step (fun k => impl_badByte.l0.eq_2 ..) (ev_if_pos (by omega) (ev_if_pos (by omega) (ev_if_pos (by omega) (ev_bind0 hf ?_))))
   clear hf hgo hR
   generalize decP ((B s).drop p) = d at *
   obtain ⟨x, w⟩ := d
   simp only at hw hm ⊢
   have go (hne : ¬ (x = 65533 ∧ w = 1)) : Ev (fun k => (impl_mayRune.f (wrap64 (x : Int))).bind fun t174 => (if t174 = true then (impl_badByte.l0 k s (wrap64 ((p : Int) + (w : Int)))) else (some (p : Int)))) (if mayR (fixR (x, w)).1 = true then badFrom (B s) n (p + (fixR (x, w)).2.toNat) else (p : Int)) := by
    rw [fixR_ok (d := (x, w)) rfl hne, wrap_id (x := (x : Int)) (by omega) (by omega)]
    refine ev_bind0 (impl_mayRune_eq _ (by omega) (by omega)) ?_
    simp only
    by_cases hc : mayR (x : Int) = true
    ·rw [if_pos hc]
     refine ev_if_pos hc ?_
     rw [wrap_id (x := (p : Int) + (w : Int)) (by omega) (by omega), show (p : Int) + (w : Int) = ((p + (w : Int).toNat : Nat) : Int) by omega]
     exact ih _ (by omega) (by omega)
    ·rw [if_neg hc]; exact ev_if_neg hc (Ev.now _)
   by_cases h1 : x = 65533
   ·refine ev_if_pos (by omega) ?_
    by_cases h2 : w = 1
    ·refine ev_if_pos (by omega) ?_
     rw [fixR_bad (d := (x, w)) (by rw [h1, h2])]
     exact Ev.now _
    ·exact ev_if_neg (by omega) (go (fun hh => h2 hh.2))
   ·exact ev_if_neg (by omega) (go (fun hh => h1 hh.1))
  ·rw [if_neg h]
   exact Ev.step (fun k => impl_badByte.l0.eq_2 ..) (ev_if_neg (by omega) (Ev.now _))
theorem impl_badByte_ev (s : ByteArray) (hs : s.size ≤ 1048576) : Ev (fun k => impl_badByte.f k s) (badP (B s)) := impl_badByte_l0 s hs _ 0 (by omega) (by omega)
theorem impl_mayBegin_eq (c : Int) : impl_mayBegin.f c = some (nmBI c) := by
 unfold impl_mayBegin.f nmBI
 rw [impl_isLetter_eq, Option.bind_some]
 cases ltrI c with
 | true => rfl
 | false => rw [if_neg (by decide)]; simp only [Option.some.injEq]; rw [Bool.eq_iff_iff]; simp
theorem nameEnd_l0 (s : ByteArray) (hs : s.size ≤ 1048576) : Ev (fun k => impl_nameEnd.l0 k s 0) ((runEnd nmU (B s) 0 : Nat) : Int) := by
 have hl := B_len s
 have key := ev_from (B s).length (fun i k => impl_nameEnd.l0 k s (i : Int)) (fun i => ((runEnd nmU (B s) i : Nat) : Int)) ?_ ?_ 0 (by omega)
 ·exact key
 ·rw [runEnd_end nmU (B s) _ (by omega)]
  exact Ev.step (fun k => impl_nameEnd.l0.eq_2 ..) (ev_if_neg (by omega) (Ev.now _))
 ·intro i hi h
  refine Ev.step (fun k => impl_nameEnd.l0.eq_2 ..) (ev_if_pos (by omega) (ev_if_pos (by omega) ?_))
  rw [bt_U s i hi, wrap_id (x := (i : Int) + 1) (by omega) (by omega), cast_succ]
  have yes (hc : nmU ((B s).getD i 0) = true) : Ev (fun k => impl_nameEnd.l0 k s ((i + 1 : Nat) : Int)) ((runEnd nmU (B s) i : Nat) : Int) := by
   rw [runEnd_yes nmU (B s) i hi hc]; exact h
  have hU : nmU ((B s).getD i 0) = (nmBI (((B s).getD i 0).toNat : Int) || digI (((B s).getD i 0).toNat : Int) || decide ((((B s).getD i 0).toNat : Int) = 45) || decide ((((B s).getD i 0).toNat : Int) = 58) || decide ((((B s).getD i 0).toNat : Int) = 46)) := rfl
  refine ev_bind0 (impl_mayBegin_eq _) ?_
  by_cases h1 : nmBI (((B s).getD i 0).toNat : Int) = true
  ·exact ev_if_pos h1 (yes (by rw [hU, h1]; rfl))
  refine ev_if_neg h1 (ev_bind0 (impl_isDigit_eq _) ?_)
  by_cases h2 : digI (((B s).getD i 0).toNat : Int) = true
  ·exact ev_if_pos h2 (yes (by rw [hU, h2]; simp))
  refine ev_if_neg h2 ?_
  by_cases h3 : (((B s).getD i 0).toNat : Int) = 45
  ·exact ev_if_pos h3 (yes (by rw [hU, decide_eq_true h3]; simp))
  refine ev_if_neg h3 ?_
  by_cases h4 : (((B s).getD i 0).toNat : Int) = 58
  ·exact ev_if_pos h4 (yes (by rw [hU, decide_eq_true h4]; simp))
  refine ev_if_neg h4 ?_
  by_cases h5 : (((B s).getD i 0).toNat : Int) = 46
  ·exact ev_if_pos h5 (yes (by rw [hU, decide_eq_true h5]; simp))
  refine ev_if_neg h5 ?_
  rw [runEnd_no nmU (B s) i hi (by rw [hU, Bool.eq_false_iff.mpr h1, Bool.eq_false_iff.mpr h2, decide_eq_false h3, decide_eq_false h4, decide_eq_false h5]; decide)]
  exact Ev.now _
theorem impl_isName_ev (s : ByteArray) (hs : s.size ≤ 1048576) : Ev (fun k => impl_isName.f k s) (isNameL (B s)) := by
 have hl := B_len s
 simp only [impl_isName.f]
 refine ev_bind0 (impl_within_eq _ _ _) ?_
 unfold isNameL
 by_cases h : 1 ≤ (B s).length ∧ (B s).length ≤ 30
 ·rw [decide_eq_true h, Bool.true_and]
  refine ev_if_pos (decide_eq_true (by omega)) ?_
  have hend : Ev (fun k => impl_nameEnd.f k s 0) (if nmB ((B s).getD 0 0) = true then ((runEnd nmU (B s) 0 : Nat) : Int) else 0) := by
   simp only [impl_nameEnd.f]
   refine ev_if_neg (by omega) (ev_if_pos (by omega) (ev_if_pos (by omega) ?_))
   rw [show bt s 0 = _ from bt_U s 0 (by omega)]
   refine ev_bind0 (impl_mayBegin_eq _) (Ev.step (fun k => impl_nameEnd.j0.eq_2 ..) ?_)
   by_cases hc : nmB ((B s).getD 0 0) = true
   ·rw [if_pos hc]
    exact ev_if_neg (by show ¬ (!nmB ((B s).getD 0 0)) = true; rw [hc]; decide) (nameEnd_l0 s hs)
   ·rw [if_neg hc]
    exact ev_if_pos (by show (!nmB ((B s).getD 0 0)) = true; rw [Bool.eq_false_iff.mpr hc]; rfl) (Ev.now _)
  refine ev_bind hend ?_
  by_cases hc : nmB ((B s).getD 0 0) = true
  ·rw [if_pos hc, hc, Bool.true_and]
   have e : ((((runEnd nmU (B s) 0 : Nat) : Int) == (s.size : Int)) : Bool) = (B s).all nmU := by
    have := runEnd_all nmU (B s)
    rw [Bool.eq_iff_iff, ← this, beq_iff_eq]; omega
   rw [e]; exact Ev.now _
  ·rw [if_neg hc, Bool.eq_false_iff.mpr hc, Bool.false_and]
   have e : (((0 : Int) == (s.size : Int)) : Bool) = false := beq_eq_false_iff_ne.mpr (by omega)
   rw [e]; exact Ev.now _
 ·rw [decide_eq_false h, Bool.false_and, Bool.false_and]
  exact ev_if_neg (by rw [decide_eq_false (by omega)]; decide) (Ev.now _)
theorem withoutComments_l0 : ∀ (n : Nat) (s out : ByteArray), s.size ≤ n → s.size + out.size ≤ 1048576 → Ev (fun k => impl_withoutComments.l0 k s out) (ofL (B out ++ bare (B s))) := by
 intro n
 induction n using Nat.strongRecOn with
 | ind n ih =>
  intro s out hn hs
  have hB := B_len s
  have hp := cut_parts (B s) [47, 42]
  refine Ev.step (fun k => by rw [impl_withoutComments.l0]) ?_
  refine ev_bind0 (strings_Cut_eq s _ (by omega)) ?_
  have e1 : B (⟨#[47, 42]⟩ : ByteArray) = [47, 42] := rfl
  have e2 : B (⟨#[42, 47]⟩ : ByteArray) = [42, 47] := rfl
  have hz : ∀ l : List UInt8, (ofL l).size = l.length := fun l => by rw [← B_len, B_ofL]
  rw [e1]
  refine ev_if_pos (by rw [hz]; omega) ?_
  rw [bare_eq]
  by_cases hc : (Go.Lib.cut (B s) [47, 42]).2.2 = true
  ·have hp2 := hp.2 hc
   simp only [List.length_cons, List.length_nil] at hp2
   have hp3 := (cut_len (Go.Lib.cut (B s) [47, 42]).2.1 [42, 47]).1
   refine ev_if_pos hc (ev_if_pos (by rw [ByteArray.size_append, hz]; omega) ?_)
   refine ev_bind0 (strings_Cut_eq _ _ (by rw [hz]; omega)) ?_
   rw [e2, B_ofL, if_pos hc]
   have h := ih (Go.Lib.cut (Go.Lib.cut (B s) [47, 42]).2.1 [42, 47]).2.1.length (by omega) (ofL (Go.Lib.cut (Go.Lib.cut (B s) [47, 42]).2.1 [42, 47]).2.1) ((out ++ ofL (Go.Lib.cut (B s) [47, 42]).1) ++ (⟨#[32]⟩ : ByteArray)) (by rw [hz]; omega) (by rw [ByteArray.size_append, ByteArray.size_append, hz, hz]; show _ + (_ + 1) ≤ _; omega)
   rw [B_append, B_append, B_ofL, B_ofL] at h
   have e3 : B (⟨#[32]⟩ : ByteArray) = [32] := rfl
   rw [e3] at h
   simpa using h
  ·refine ev_if_neg hc (ev_now fun k => ?_)
   rw [if_neg hc]
   have e4 : (Go.Lib.cut (B s) [47, 42]).1 = B s := by rw [cut_none _ _ hc]
   rw [e4]
   rw [show out ++ ofL (B s) = ofL (B out ++ B s) from B_ext (by rw [B_append, B_ofL, B_ofL])]
theorem impl_withoutComments_ev (s : ByteArray) (hs : s.size ≤ 1048576) : Ev (fun k => impl_withoutComments.f k s) (ofL (bare (B s))) := by
 have h := withoutComments_l0 s.size s (⟨#[]⟩ : ByteArray) (Nat.le_refl _) (by show s.size + 0 ≤ _; omega)
 exact Ev.congr (fun k => rfl) h
theorem bare_len : ∀ (n : Nat) (l : List UInt8), l.length ≤ n → (bare l).length ≤ l.length := by
 intro n
 induction n using Nat.strongRecOn with
 | ind n ih =>
  intro l hl
  rw [bare_eq]
  by_cases hc : (Go.Lib.cut l [47, 42]).2.2 = true
  ·have hp := (cut_parts l [47, 42]).2 hc
   have hp3 := (cut_len (Go.Lib.cut l [47, 42]).2.1 [42, 47]).1
   simp only [List.length_cons, List.length_nil] at hp
   have h := ih (Go.Lib.cut (Go.Lib.cut l [47, 42]).2.1 [42, 47]).2.1.length (by omega) _ (Nat.le_refl _)
   rw [if_pos hc, List.length_append, List.length_cons]
   omega
  ·rw [if_neg hc]; exact Nat.le_refl _
theorem strings_Split_one (s : ByteArray) (hs : s.size < 4294967281) (c : UInt8) : strings_Split.f s (⟨#[c]⟩ : ByteArray) = some ((splitL c (B s)).map ofL) := by
 unfold strings_Split.f
 rw [if_pos ⟨hs, by show 1 ≤ 1; omega⟩]
 congr 1
 have h1 := Go.Lib.splitB_data (⟨#[c]⟩ : ByteArray) 0 (Go.Lib.countB s (⟨#[c]⟩ : ByteArray)) s
 have h2 : Go.Lib.countB s (⟨#[c]⟩ : ByteArray) = (B s).count c := Go.Lib.count_one c (B s)
 have h3 : Go.Lib.splitK [c] 0 (Go.Lib.countB s (⟨#[c]⟩ : ByteArray)) (B s) = splitL c (B s) := splitK_splitL c _ (B s) (by rw [h2]; omega)
 have h4 := h1.trans h3
 have h5 := congrArg (List.map ofL) h4
 rw [List.map_map] at h5
 rw [← h5]
 conv => lhs; rw [← List.map_id (Go.Lib.splitB (⟨#[c]⟩ : ByteArray) 0 (Go.Lib.countB s (⟨#[c]⟩ : ByteArray)) s)]
 exact List.map_congr_left fun x _ => (ofL_B x).symm
theorem impl_fields_eq (s : ByteArray) (hs : s.size ≤ 1048576) : impl_fields.f s = some ((wordsL blankU [] (B s)).map ofL) := by
 unfold impl_fields.f
 rw [if_pos (by omega), fields_words blankR blankU ?_ ?_ blankU_far]
 ·intro x hx
  unfold blankR
  rw [beq_eq_false_iff_ne.mpr (by omega : x ≠ 9), beq_eq_false_iff_ne.mpr (by omega : x ≠ 10), beq_eq_false_iff_ne.mpr (by omega : x ≠ 13), beq_eq_false_iff_ne.mpr (by omega : x ≠ 32)]
  rfl
 ·intro c _
  rw [blankU_rune]; rfl
theorem stringslite_HasPrefix_eq (s p : ByteArray) : stringslite_HasPrefix.f s p = some (decide (B p <+: B s)) := by
 unfold stringslite_HasPrefix.f
 by_cases h : (s.size : Int) ≥ (p.size : Int)
 ·rw [if_pos h, if_pos (by omega), if_pos h]
  congr 1
  rw [toList_B, toList_B, B_extract, Int.toNat_natCast, Nat.sub_zero, List.drop_zero, Bool.eq_iff_iff, beq_iff_eq, decide_eq_true_iff, List.prefix_iff_eq_take, B_len]
  exact eq_comm
 ·rw [if_neg h]
  congr 1
  rw [eq_comm, decide_eq_false_iff_not]
  intro hp
  have := hp.length_le
  rw [B_len, B_len] at this
  omega
theorem strings_HasPrefix_eq (s p : ByteArray) : strings_HasPrefix.f s p = some (decide (B p <+: B s)) := by
 unfold strings_HasPrefix.f
 rw [stringslite_HasPrefix_eq]; rfl
def sizesPart (x : S102) : Prop := x.f0.size ≤ 1048576 ∧ x.f1.size ≤ 1048576 ∧ x.f2.length ≤ 1048576 ∧ ∀ y ∈ x.f2, y.size ≤ 1048576
def typeOkL (l : List UInt8) : Bool := decide (l = []) || decide (l = [42]) || isWordL l
def idOkL (l : List UInt8) : Bool := decide (l = []) || isWordL l
def partOk (x : S102) : Bool := typeOkL (B x.f0) && idOkL (B x.f1) && decide (x.f2.length ≤ 4) && x.f2.all (fun y => isWordL (B y)) && (!decide (B x.f0 = []) || !decide (B x.f1 = []) || decide (0 < x.f2.length))
theorem impl_isPart_j1_ev (t : Bool) (a b : ByteArray) (c : List ByteArray) (ha : a.size ≤ 1048576) (hb : b.size ≤ 1048576) : Ev (fun k => impl_isPart.j1 k t a b c) (!t && (typeOkL (B a) && idOkL (B b))) := by
 have rest : Ev (fun k => if b.toList = ([] : List UInt8) then (some true) else ((impl_isWord.f k b).bind fun t => (some t))) (idOkL (B b)) := by
  by_cases h : B b = []
  ·have hi : idOkL (B b) = true := by unfold idOkL; rw [h]; rfl
   rw [hi]; exact ev_if_pos (by rw [toList_B]; exact h) (Ev.now _)
  ·have hi : idOkL (B b) = isWordL (B b) := by unfold idOkL; rw [decide_eq_false h, Bool.false_or]
   rw [hi]; exact ev_if_neg (by rw [toList_B]; exact h) (ev_bind (impl_isWord_ev b (by omega)) (Ev.now _))
 refine Ev.step (fun k => impl_isPart.j1.eq_2 ..) ?_
 cases t with
 | true => exact ev_if_pos rfl (Ev.now _)
 | false =>
  refine ev_if_neg (by decide) ?_
  rw [Bool.not_false, Bool.true_and]
  by_cases h0 : B a = []
  ·have ht : typeOkL (B a) = true := by unfold typeOkL; rw [h0]; rfl
   rw [ht, Bool.true_and]; exact ev_if_pos (by rw [toList_B]; exact h0) rest
  ·refine ev_if_neg (by rw [toList_B]; exact h0) ?_
   by_cases hs : B a = [42]
   ·have ht : typeOkL (B a) = true := by unfold typeOkL; rw [hs]; rfl
    rw [ht, Bool.true_and]; exact ev_if_pos (by rw [toList_B]; exact hs) rest
   ·have ht : typeOkL (B a) = isWordL (B a) := by unfold typeOkL; rw [decide_eq_false h0, decide_eq_false hs]; simp
    refine ev_if_neg (by rw [toList_B]; exact hs) (ev_bind (impl_isWord_ev a (by omega)) ?_)
    rw [ht]
    cases isWordL (B a) with
    | true => rw [Bool.true_and]; exact ev_if_pos rfl rest
    | false => exact ev_if_neg (by decide) (Ev.now _)
theorem impl_isPart_ev (x : S102) (hx : sizesPart x) : Ev (fun k => impl_isPart.f k x.f0 x.f1 x.f2) (partOk x) := by
 obtain ⟨a, b, c⟩ := x
 obtain ⟨h0, h1, h2, h3⟩ := hx
 simp only at h0 h1 h2 h3
 have hle : (!(decide ((c.length : Int) > 4))) = decide (c.length ≤ 4) := by rw [Bool.eq_iff_iff]; simp; omega
 have e : partOk ⟨a, b, c⟩ = (c.all (fun y => isWordL (B y)) && ((!decide (B a = []) || !decide (B b = []) || decide (0 < c.length)) && decide (c.length ≤ 4) && (typeOkL (B a) && idOkL (B b)))) := by
  unfold partOk
  simp only
  generalize typeOkL (B a) = p; generalize idOkL (B b) = q; generalize decide (c.length ≤ 4) = r; generalize c.all (fun y => isWordL (B y)) = s; generalize decide (B a = []) = t; generalize decide (B b = []) = u; generalize decide (0 < c.length) = v
  cases p <;> cases q <;> cases r <;> cases s <;> cases t <;> cases u <;> cases v <;> rfl
 rw [e]
 refine ev_from c.length (fun i k => impl_isPart.l0 k c c.length i a b c) (fun i => (c.drop i).all (fun y => isWordL (B y)) && ((!decide (B a = []) || !decide (B b = []) || decide (0 < c.length)) && decide (c.length ≤ 4) && (typeOkL (B a) && idOkL (B b)))) ?_ ?_ 0 (by omega)
 ·refine Ev.step (fun k => by rw [impl_isPart.l0, if_neg (by omega), toList_B, toList_B]) ?_
  simp only [List.drop_length, List.all_nil, Bool.true_and]
  have j := fun t => impl_isPart_j1_ev t a b c h0 h1
  by_cases ha : B a = []
  ·refine ev_if_pos ha ?_
   by_cases hb : B b = []
   ·refine ev_if_pos hb ?_
    by_cases hc : (c.length : Int) = 0
    ·refine ev_if_pos hc ?_
     rw [decide_eq_true ha, decide_eq_true hb, decide_eq_false (p := 0 < c.length) (by omega)]
     exact j true
    ·refine ev_if_neg hc ?_
     rw [decide_eq_true ha, decide_eq_true hb, decide_eq_true (p := 0 < c.length) (by omega), ← hle]
     exact j _
   ·refine ev_if_neg hb ?_
    rw [decide_eq_true ha, decide_eq_false hb, ← hle]
    exact j _
  ·refine ev_if_neg ha ?_
   rw [decide_eq_false ha, ← hle]
   exact j _
 ·intro i hi h
  have hmem : c.getD i ByteArray.empty ∈ c := by rw [List.getD_eq_getElem?_getD, List.getElem?_eq_getElem hi]; exact List.getElem_mem hi
  have hz := h3 _ hmem
  rw [drop_cons c ByteArray.empty i hi, List.all_cons]
  refine Ev.step (fun k => by rw [impl_isPart.l0, if_pos (by omega), if_pos (by omega), if_pos (by omega), rdOf_nat]) ?_
  refine ev_bind (impl_isWord_ev _ (by omega)) ?_
  cases isWordL (B (c.getD i ByteArray.empty)) with
  | true => refine ev_if_pos rfl ?_; rw [wrap_up hi (by omega), Bool.true_and]; exact h
  | false => refine ev_if_neg (by decide) ?_; rw [Bool.false_and, Bool.false_and]; exact Ev.now _
def selOk (l : List S102) : Bool := decide (1 ≤ l.length ∧ l.length ≤ 5) && l.all partOk
theorem impl_isSelector_wide (l : List S102) (hl : l.length ≤ 1099511627776) (hg : ∀ x ∈ l, sizesPart x) : Ev (fun k => impl_isSelector.f k l) (selOk l) := by
 have e : selOk l = (l.all partOk && decide (1 ≤ (l.length : Int) ∧ (l.length : Int) ≤ 5)) := by
  unfold selOk; rw [Bool.and_comm]; congr 1; rw [decide_eq_decide]; omega
 rw [e]
 refine ev_from l.length (fun i k => impl_isSelector.l0 k l l l.length i) (fun i => (l.drop i).all partOk && decide (1 ≤ (l.length : Int) ∧ (l.length : Int) ≤ 5)) ?_ ?_ 0 (by omega)
 ·refine ev_done fun k => ?_
  rw [impl_isSelector.l0, if_neg (by omega), impl_within_eq, Option.bind_some]; simp
 ·intro i hi hh
  have hrd : rd_T102 l (i : Int) = l.getD i z102 := by simp [rd_T102]
  have hmem : l.getD i z102 ∈ l := by rw [List.getD_eq_getElem?_getD, List.getElem?_eq_getElem hi]; exact List.getElem_mem hi
  rw [drop_cons l z102 i hi, List.all_cons]
  refine Ev.step (fun k => by rw [impl_isSelector.l0, if_pos (by omega), if_pos (by omega), if_pos (by omega), hrd]) ?_
  refine ev_bind (impl_isPart_ev _ (hg _ hmem)) ?_
  cases partOk (l.getD i z102) with
  | true => refine ev_if_pos rfl ?_; rw [wrap_up hi (by omega), Bool.true_and]; exact hh
  | false => refine ev_if_neg (by decide) ?_; rw [Bool.false_and, Bool.false_and]; exact Ev.now _
theorem impl_isSelector_ev (l : List S102) (hl : l.length ≤ 1048576) (hg : ∀ x ∈ l, sizesPart x) : Ev (fun k => impl_isSelector.f k l) (selOk l) := impl_isSelector_wide l (by omega) hg
theorem decls_loop (ps : List ByteArray) (hp : ps.length ≤ 1048577) (hs : ∀ x ∈ ps, x.size ≤ 1048576) : ∀ (n i : Nat) (acc : List S80), i + n = ps.length → acc.length ≤ 12 → ∃ r : List S80, Ev (fun k => spec_l5Decls.l0 k acc ps (ps.length : Int) (i : Int)) r ∧ Ev (fun k => impl_readDecls.l0 k acc ps (ps.length : Int) (i : Int)) r ∧ r.length ≤ 12 := by
 intro n
 induction n with
 | zero =>
  intro i acc h1 h2
  refine ⟨acc, ?_, ?_, h2⟩
  ·refine Ev.step (fun k => by rw [spec_l5Decls.l0]) ?_
   exact ev_if_neg (by omega) (ev_now fun k => rfl)
  ·refine Ev.step (fun k => by rw [impl_readDecls.l0]) ?_
   exact ev_if_neg (by omega) (ev_now fun k => rfl)
 | succ n ih =>
  intro i acc h1 h2
  have hi : i < ps.length := by omega
  have hmem : ps.getD i ByteArray.empty ∈ ps := by rw [List.getD_eq_getElem?_getD, List.getElem?_eq_getElem hi]; exact List.getElem_mem hi
  have w1 : wrap64 ((i : Int) + 1) = ((i + 1 : Nat) : Int) := wrap_up hi (by omega)
  obtain ⟨⟨n1, v1, i1, o1⟩, ⟨n2, v2, i2, o2⟩, d1, d2, d3, d4⟩ := decl_both _ (hs _ hmem)
  dsimp only at d3 d4
  by_cases hok : o1 = true
  ·have he := d4 hok
   simp only [Prod.mk.injEq] at he
   obtain ⟨rfl, rfl, rfl, rfl⟩ := he
   by_cases hl : acc.length < 12
   ·obtain ⟨r, g1, g2, g3⟩ := ih (i + 1) (acc ++ [(⟨n1, v1, i1⟩ : S80)]) (by omega) (by simp; omega)
    refine ⟨r, ?_, ?_, g3⟩
    ·refine Ev.step (fun k => by rw [spec_l5Decls.l0]) ?_
     rw [rdOf_nat, w1]
     refine ev_if_pos (by omega) (ev_if_pos (by omega) (ev_if_pos (by omega) (ev_bind d1 ?_)))
     exact ev_if_pos hok (ev_if_pos (by omega) (ev_if_pos (by omega) g1))
    ·refine Ev.step (fun k => by rw [impl_readDecls.l0]) ?_
     rw [rdOf_nat, w1]
     refine ev_if_pos (by omega) (ev_if_pos (by omega) (ev_if_pos (by omega) (ev_bind d2 ?_)))
     exact ev_if_pos hok (ev_if_pos (by omega) (ev_if_pos (by omega) g2))
   ·obtain ⟨r, g1, g2, g3⟩ := ih (i + 1) acc (by omega) h2
    refine ⟨r, ?_, ?_, g3⟩
    ·refine Ev.step (fun k => by rw [spec_l5Decls.l0]) ?_
     rw [rdOf_nat, w1]
     refine ev_if_pos (by omega) (ev_if_pos (by omega) (ev_if_pos (by omega) (ev_bind d1 ?_)))
     exact ev_if_pos hok (ev_if_neg (by omega) g1)
    ·refine Ev.step (fun k => by rw [impl_readDecls.l0]) ?_
     rw [rdOf_nat, w1]
     refine ev_if_pos (by omega) (ev_if_pos (by omega) (ev_if_pos (by omega) (ev_bind d2 ?_)))
     exact ev_if_pos hok (ev_if_neg (by omega) g2)
  ·obtain ⟨r, g1, g2, g3⟩ := ih (i + 1) acc (by omega) h2
   refine ⟨r, ?_, ?_, g3⟩
   ·refine Ev.step (fun k => by rw [spec_l5Decls.l0]) ?_
    rw [rdOf_nat, w1]
    refine ev_if_pos (by omega) (ev_if_pos (by omega) (ev_if_pos (by omega) (ev_bind d1 ?_)))
    exact ev_if_neg hok g1
   ·refine Ev.step (fun k => by rw [impl_readDecls.l0]) ?_
    rw [rdOf_nat, w1]
    refine ev_if_pos (by omega) (ev_if_pos (by omega) (ev_if_pos (by omega) (ev_bind d2 ?_)))
    exact ev_if_neg (by rw [← d3]; exact hok) g2
theorem decls_both (s : ByteArray) (hs : s.size ≤ 1048576) : ∃ r : List S80, Ev (fun k => spec_l5Decls.f k s) r ∧ Ev (fun k => impl_readDecls.f k s) r ∧ r.length ≤ 12 := by
 have hl := splitL_len 59 (B s)
 rw [B_len] at hl
 have h1 : ((splitL 59 (B s)).map ofL).length ≤ 1048577 := by rw [List.length_map]; omega
 obtain ⟨r, g1, g2, g3⟩ := decls_loop ((splitL 59 (B s)).map ofL) h1 (fun x hx => by
  obtain ⟨y, hy, rfl⟩ := List.mem_map.1 hx
  have := hl.2 y hy
  rw [← B_len, B_ofL]; omega) _ 0 [] (Nat.zero_add _) (by simp)
 refine ⟨r, ?_, ?_, g3⟩
 ·simp only [spec_l5Decls.f]
  exact ev_bind (spec_l1Split_ev s hs 59) g1
 ·simp only [impl_readDecls.f]
  exact ev_bind0 (strings_Split_one s (by omega) 59) g2
theorem laws_eqStringS_same (l : List ByteArray) (hn : l.length ≤ 9223372036854775807) : Ev (fun k => laws_eqStringS.f k l l) true := by
 refine Ev.congr (f := fun k => laws_eqStringS.l0 k l l 0) (fun k => ?_) ?_
 ·unfold laws_eqStringS.f; rw [if_pos rfl]
 ·refine ev_up l.length (fun i k => laws_eqStringS.l0 k l l i) true ?_ ?_
  ·refine ev_done fun k => ?_
   rw [laws_eqStringS.l0, if_neg (by omega)]
  ·intro i hi h
   refine Ev.step (fun k => ?_) h
   rw [laws_eqStringS.l0, if_pos (by omega), if_pos (by omega), if_pos (by omega), if_pos rfl, wrap_up hi (by omega)]
theorem laws_eqPart_same (a b : ByteArray) (l : List ByteArray) (hn : l.length ≤ 9223372036854775807) : Ev (fun k => laws_eqPart.f k a b l a b l) true := by
 simp only [laws_eqPart.f]
 exact ev_if_pos trivial (ev_if_pos trivial (ev_bind (laws_eqStringS_same l hn) (ev_if_pos rfl (Ev.now _))))
theorem laws_eqPartS_same (l : List S102) (hn : l.length ≤ 9223372036854775807) (hg : ∀ x ∈ l, x.f2.length ≤ 9223372036854775807) : Ev (fun k => laws_eqPartS.f k l l) true := by
 refine Ev.congr (f := fun k => laws_eqPartS.l0 k l l 0) (fun k => ?_) ?_
 ·unfold laws_eqPartS.f; rw [if_pos rfl]
 ·refine ev_up l.length (fun i k => laws_eqPartS.l0 k l l i) true ?_ ?_
  ·refine ev_done fun k => ?_
   rw [laws_eqPartS.l0, if_neg (by omega)]
  ·intro i hi h
   have hrd : rd_T102 l (i : Int) = l.getD i z102 := by simp [rd_T102]
   have hmem : l.getD i z102 ∈ l := by rw [List.getD_eq_getElem?_getD, List.getElem?_eq_getElem hi]; exact List.getElem_mem hi
   refine Ev.step (fun k => by rw [laws_eqPartS.l0, if_pos (by omega), if_pos (by omega), if_pos (by omega), hrd]) ?_
   refine ev_bind (laws_eqPart_same _ _ _ (hg _ hmem)) (ev_if_pos rfl ?_)
   rw [wrap_up hi (by omega)]; exact h
theorem laws_eqDecl_same (a b : ByteArray) (c : Bool) : laws_eqDecl.f a b c a b c = some true := by
 unfold laws_eqDecl.f
 rw [if_pos rfl, if_pos rfl, if_neg (by simp)]
theorem laws_eqDeclS_same (l : List S80) (hn : l.length ≤ 9223372036854775807) : Ev (fun k => laws_eqDeclS.f k l l) true := by
 refine Ev.congr (f := fun k => laws_eqDeclS.l0 k l l 0) (fun k => ?_) ?_
 ·unfold laws_eqDeclS.f; rw [if_pos rfl]
 ·refine ev_up l.length (fun i k => laws_eqDeclS.l0 k l l i) true ?_ ?_
  ·refine ev_done fun k => ?_
   rw [laws_eqDeclS.l0, if_neg (by omega)]
  ·intro i hi h
   refine Ev.step (fun k => by rw [laws_eqDeclS.l0, if_pos (by omega), if_pos (by omega), if_pos (by omega)]) ?_
   refine ev_bind0 (laws_eqDecl_same _ _ _) (ev_if_pos rfl ?_)
   rw [wrap_up hi (by omega)]; exact h
theorem laws_eqAttrS_same (l : List S76) (hn : l.length ≤ 9223372036854775807) : Ev (fun k => laws_eqAttrS.f k l l) true := by
 refine Ev.congr (f := fun k => laws_eqAttrS.l0 k l l 0) (fun k => ?_) ?_
 ·unfold laws_eqAttrS.f; rw [if_pos rfl]
 ·refine ev_up l.length (fun i k => laws_eqAttrS.l0 k l l i) true ?_ ?_
  ·refine ev_done fun k => ?_
   rw [laws_eqAttrS.l0, if_neg (by omega)]
  ·intro i hi h
   refine Ev.step (fun k => ?_) h
   rw [laws_eqAttrS.l0, if_pos (by omega), if_pos (by omega), if_pos (by omega)]
   unfold laws_eqAttr.f
   rw [if_pos rfl, if_pos rfl, Option.bind_some, if_pos rfl, wrap_up hi (by omega)]
theorem laws_eqNode_same (a0 : ByteArray) (a1 : Int) (l : List S76) (a3 : ByteArray) (hn : l.length ≤ 9223372036854775807) : Ev (fun k => laws_eqNode.f k a0 a1 l a3 a0 a1 l a3) true := by
 simp only [laws_eqNode.f]
 exact ev_if_pos trivial (ev_if_pos trivial (ev_bind (laws_eqAttrS_same l hn) (ev_if_pos rfl (ev_if_pos trivial (Ev.now _)))))
theorem laws_eqNodeS_same (l : List S40) (hn : l.length ≤ 9223372036854775807) (hg : ∀ x ∈ l, x.f2.length ≤ 9223372036854775807) : Ev (fun k => laws_eqNodeS.f k l l) true := by
 refine Ev.congr (f := fun k => laws_eqNodeS.l0 k l l 0) (fun k => ?_) ?_
 ·unfold laws_eqNodeS.f; rw [if_pos rfl]
 ·refine ev_up l.length (fun i k => laws_eqNodeS.l0 k l l i) true ?_ ?_
  ·refine ev_done fun k => ?_
   rw [laws_eqNodeS.l0, if_neg (by omega)]
  ·intro i hi h
   have hrd : rd_T40 l (i : Int) = l.getD i z40 := by simp [rd_T40]
   have hmem : l.getD i z40 ∈ l := by rw [List.getD_eq_getElem?_getD, List.getElem?_eq_getElem hi]; exact List.getElem_mem hi
   refine Ev.step (fun k => by rw [laws_eqNodeS.l0, if_pos (by omega), if_pos (by omega), if_pos (by omega), hrd]) ?_
   refine ev_bind (laws_eqNode_same _ _ _ _ (hg _ hmem)) (ev_if_pos rfl ?_)
   rw [wrap_up hi (by omega)]; exact h
theorem markText_l0_ends : ∀ (n : Nat) (x : Int) (s : ByteArray), 0 ≤ x → x.toNat ≤ n → (s.size : Int) + x ≤ 4611686018427387904 → ∃ t, Ev (fun k => laws_markText.l0 k x s) t := by
 intro n
 induction n with
 | zero =>
  intro x s h0 h1 h2
  exact ⟨_, ev_done fun k => by rw [laws_markText.l0, if_neg (by omega), if_pos (by omega)]⟩
 | succ n ih =>
  intro x s h0 h1 h2
  by_cases hx : x > 0
  ·have hd : wrap64 (Int.tdiv x 10) = x / 10 := by rw [Int.tdiv_eq_ediv_of_nonneg h0, wrap_id (by omega) (by omega)]
   have hz : ∀ y : Int, (strOfNums ([y] : List Int)).size = 1 := fun y => rfl
   obtain ⟨t, ht⟩ := ih (x / 10) ((strOfNums ([(wrap64 (48 + (Int.tmod x 10))) % 256] : List Int)) ++ s) (by omega) (by omega) (by rw [ByteArray.size_append, hz]; omega)
   refine ⟨t, Ev.step (fun k => ?_) ht⟩
   rw [laws_markText.l0, if_pos hx, Option.bind_some, if_pos (by rw [hz]; omega), hd]
  ·exact ⟨_, ev_done fun k => by rw [laws_markText.l0, if_neg hx, if_pos (by omega)]⟩
theorem markText_ends (x : Int) : ∃ t, 0 ≤ x → x ≤ 4611686018427387904 → Ev (fun k => laws_markText.f k x) t := by
 by_cases h : 0 ≤ x ∧ x ≤ 4611686018427387904
 ·by_cases h0 : x ≤ 0
  ·exact ⟨_, fun _ _ => ev_now fun k => by unfold laws_markText.f; rw [if_pos h0]⟩
  ·obtain ⟨t, ht⟩ := markText_l0_ends x.toNat x (⟨#[]⟩ : ByteArray) h.1 (by omega) (by show (0 : Int) + x ≤ _; omega)
   exact ⟨t, fun _ _ => Ev.congr (fun k => by unfold laws_markText.f; rw [if_neg h0]) ht⟩
 ·exact ⟨(⟨#[]⟩ : ByteArray), fun h1 h2 => absurd ⟨h1, h2⟩ h⟩
noncomputable def mtext (x : Int) : ByteArray := Classical.choose (markText_ends x)
theorem mtext_ev (x : Int) (h0 : 0 ≤ x) (h1 : x ≤ 4611686018427387904) : Ev (fun k => laws_markText.f k x) (mtext x) := Classical.choose_spec (markText_ends x) h0 h1
theorem markAttrs_l0 : ∀ (d i : Nat) (X : List S76) (x : Int), i + d = X.length → 0 ≤ x → x + 2 * d ≤ 4611686018427387904 → X.length ≤ 9223372036854775806 → ∃ Y, Ev (fun k => laws_markAttrS.l0 k X x (i : Int)) (x + 2 * d, Y) := by
 intro d
 induction d with
 | zero =>
  intro i X x hi h0 h1 hn
  refine ⟨X, ev_done fun k => ?_⟩
  rw [laws_markAttrS.l0, if_neg (by omega)]
  simp
 | succ d ih =>
  intro i X x hi h0 h1 hn
  obtain ⟨Y, h⟩ := ih (i + 1) ((X.set i ⟨mtext x, (rd_T76 X (i : Int)).f1⟩).set i ⟨(rd_T76 (X.set i ⟨mtext x, (rd_T76 X (i : Int)).f1⟩) (i : Int)).f0, mtext (x + 1)⟩) (x + 2) (by rw [List.length_set, List.length_set]; omega) (by omega) (by omega) (by rw [List.length_set, List.length_set]; omega)
  refine ⟨Y, Ev.step (fun k => laws_markAttrS.l0.eq_2 ..) (ev_if_pos (by omega) ?_)⟩
  refine ev_bind (mtext_ev x (by omega) (by omega)) (ev_if_pos (by omega) (ev_bind0 rfl ?_))
  rw [Int.toNat_natCast, wrap_id (x := x + 1) (by omega) (by omega)]
  refine ev_bind (mtext_ev (x + 1) (by omega) (by omega)) ?_
  rw [wrap_id (x := x + 1 + 1) (by omega) (by omega), wrap_id (x := (i : Int) + 1) (by omega) (by omega), cast_succ, show x + 1 + 1 = x + 2 by omega, show x + 2 * ((d + 1 : Nat) : Int) = x + 2 + 2 * (d : Int) by omega]
  exact h
theorem laws_markAttrS_ev (X : List S76) (x : Int) (h0 : 0 ≤ x) (h1 : x + 2 * X.length ≤ 4611686018427387904) (hn : X.length ≤ 9223372036854775806) : ∃ Y, Ev (fun k => laws_markAttrS.f k X x) (x + 2 * X.length, Y) :=
 markAttrs_l0 X.length 0 X x (by omega) h0 h1 hn
theorem markNodes_l0 : ∀ (d i : Nat) (X : List S40) (x : Int), i + d = X.length → 0 ≤ x → x + 2097155 * d ≤ 4611686018427387904 → X.length ≤ 9223372036854775806 → (∀ j, i ≤ j → (rd_T40 X (j : Int)).f2.length ≤ 1048576) →
  ∃ e Y, 0 ≤ e ∧ Ev (fun k => laws_markNodeS.l0 k X x (i : Int)) (e, Y) := by
 intro d
 induction d with
 | zero =>
  intro i X x hi h0 h1 hn hg
  refine ⟨x, X, h0, ev_done fun k => ?_⟩
  rw [laws_markNodeS.l0, if_neg (by omega)]
 | succ d ih =>
  intro i X x hi h0 h1 hn hg
  have ha := hg i (Nat.le_refl _)
  obtain ⟨y, hy⟩ : ∃ y, y = rd_T40 X (i : Int) := ⟨_, rfl⟩
  rw [← hy] at ha
  obtain ⟨b, hb⟩ := laws_markAttrS_ev y.f2 (x + 2) (by omega) (by omega) (by omega)
  obtain ⟨q, hq⟩ : ∃ q : Int, q = x + 2 + 2 * y.f2.length := ⟨_, rfl⟩
  rw [← hq] at hb
  obtain ⟨e, Y, he, h⟩ := ih (i + 1) (X.set i ⟨mtext x, x + 1, b, mtext q⟩) (q + 1) (by rw [List.length_set]; omega) (by omega) (by omega) (by rw [List.length_set]; omega) (fun j hj => by
   have e1 : rd_T40 (X.set i ⟨mtext x, x + 1, b, mtext q⟩) (j : Int) = rd_T40 X (j : Int) := by
    unfold rd_T40
    rw [Int.toNat_natCast, List.getD_eq_getElem?_getD, List.getElem?_set_ne (by omega), ← List.getD_eq_getElem?_getD]
   rw [e1]; exact hg j (by omega))
  refine ⟨e, Y, he, Ev.step (fun k => laws_markNodeS.l0.eq_2 ..) (ev_if_pos (by omega) (ev_if_pos (by omega) ?_))⟩
  rw [← hy, wrap_id (x := x + 1) (by omega) (by omega), wrap_id (x := x + 1 + 1) (by omega) (by omega), show x + 1 + 1 = x + 2 by omega]
  refine ev_bind (mtext_ev x (by omega) (by omega)) (ev_bind hb (ev_bind (mtext_ev q (by omega) (by omega)) ?_))
  rw [Int.toNat_natCast, wrap_id (x := q + 1) (by omega) (by omega), wrap_id (x := (i : Int) + 1) (by omega) (by omega), cast_succ]
  exact h
theorem laws_markNodeS_ev (X : List S40) (hn : X.length ≤ 1048576) (hg : ∀ x ∈ X, x.f2.length ≤ 1048576) : ∃ e Y, 0 ≤ e ∧ Ev (fun k => laws_markNodeS.f k X 1) (e, Y) := by
 refine markNodes_l0 X.length 0 X 1 (by omega) (by omega) (by omega) (by omega) (fun j _ => ?_)
 unfold rd_T40
 rw [Int.toNat_natCast, List.getD_eq_getElem?_getD]
 by_cases h : j < X.length
 ·rw [List.getElem?_eq_getElem h]; exact hg _ (List.getElem_mem h)
 ·rw [List.getElem?_eq_none (by omega)]; exact Nat.zero_le _
noncomputable def markedString (n : Nat) (x : Int) : List ByteArray := (List.range n).map fun (j : Nat) => mtext (x + (j : Int))
theorem markedString_length (n : Nat) (x : Int) : (markedString n x).length = n := by simp [markedString]
theorem markedString_get (n : Nat) (x : Int) (i : Nat) (h : i < n) : (markedString n x).getD i ByteArray.empty = mtext (x + (i : Int)) := by
 simp [markedString, h]
theorem markedString_take (n : Nat) (x : Int) (l : List ByteArray) (hl : l.length = n) (i : Nat) (h : i < n) : ((markedString n x).take i ++ l.drop i).set i (mtext (x + (i : Int))) = (markedString n x).take (i + 1) ++ l.drop (i + 1) := by
 rw [← markedString_get n x i h, take_set _ _ _ (by rw [markedString_length]; exact h) _ (by simp; omega), List.tail_drop]
theorem laws_markStringS_ev (l : List ByteArray) (x : Int) (h0 : 0 ≤ x) (h1 : x + l.length ≤ 4611686018427387904) : Ev (fun k => laws_markStringS.f k l x) (x + l.length, markedString l.length x) := by
 refine Ev.congr (f := fun k => laws_markStringS.l0 k l x 0) (fun k => rfl) ?_
 have key := ev_up l.length (fun i k => laws_markStringS.l0 k ((markedString l.length x).take i ++ l.drop i) (x + i) i) (x + l.length, markedString l.length x) ?_ ?_
 ·simpa using key
 ·refine ev_done fun k => ?_
  rw [laws_markStringS.l0, if_neg (by simp [markedString_length])]
  rw [List.take_of_length_le (by simp [markedString_length])]; simp
 ·intro i hi h
  refine Ev.step (fun k => by rw [laws_markStringS.l0]) ?_
  refine ev_if_pos (by simp [markedString_length]; omega) ?_
  refine ev_bind (mtext_ev (x + i) (by omega) (by omega)) (ev_if_pos (by omega) ?_)
  rw [wrap_up hi (by omega), Int.toNat_natCast, markedString_take _ _ _ rfl i hi, wrap_id (by omega) (by omega)]
  have e : x + (i : Int) + 1 = x + ((i + 1 : Nat) : Int) := by omega
  rw [e]; exact h
noncomputable def mkParts : List S102 → Int → List S102
 | [], _ => []
 | p :: t, x => ⟨mtext x, mtext (x + 1), markedString p.f2.length (x + 2)⟩ :: mkParts t (x + 2 + p.f2.length)
def mkPartsEnd : List S102 → Int → Int
 | [], x => x
 | p :: t, x => mkPartsEnd t (x + 2 + p.f2.length)
theorem mkPartsEnd_ge : ∀ (l : List S102) (x : Int), x + 2 * l.length ≤ mkPartsEnd l x
 | [], x => by show x + 2 * ((0 : Nat) : Int) ≤ x; omega
 | p :: t, x => by
  have := mkPartsEnd_ge t (x + 2 + p.f2.length)
  rw [mkPartsEnd, List.length_cons]; omega
theorem mkParts_length : ∀ (l : List S102) (x : Int), (mkParts l x).length = l.length
 | [], _ => rfl
 | p :: t, x => by rw [mkParts, List.length_cons, mkParts_length t, List.length_cons]
theorem rd_mid_part (d : List S102) (p : S102) (t : List S102) : rd_T102 (d ++ p :: t) (d.length : Int) = p := by simp [rd_T102]
theorem markParts_l0 : ∀ (rest done : List S102) (x : Int), 0 ≤ x → mkPartsEnd rest x ≤ 4611686018427387904 → (done ++ rest).length ≤ 9223372036854775807 → Ev (fun k => laws_markPartS.l0 k (done ++ rest) x (done.length : Int)) (mkPartsEnd rest x, done ++ mkParts rest x)
 | [], done, x, h0, h1, hn => by
  rw [List.append_nil] at hn ⊢
  refine ev_done fun k => ?_
  rw [laws_markPartS.l0, if_neg (by omega), mkParts, mkPartsEnd, List.append_nil]
 | p :: t, done, x, h0, h1, hn => by
  have hl : (done ++ p :: t).length = done.length + (t.length + 1) := by rw [List.length_append, List.length_cons]
  have hge := mkPartsEnd_ge t (x + 2 + p.f2.length)
  rw [mkPartsEnd] at h1 ⊢
  refine Ev.step (fun k => laws_markPartS.l0.eq_2 ..) (ev_if_pos (by omega) (ev_if_pos (by omega) ?_))
  rw [rd_mid_part]
  have w1 : wrap64 (x + 1) = x + 1 := wrap_id (by omega) (by omega)
  have w2 : wrap64 (x + 1 + 1) = x + 2 := by rw [wrap_id (by omega) (by omega)]; omega
  rw [w1, w2]
  refine ev_bind (mtext_ev x (by omega) (by omega)) (ev_bind (mtext_ev (x + 1) (by omega) (by omega)) (ev_bind (laws_markStringS_ev p.f2 (x + 2) (by omega) (by omega)) ?_))
  have h := markParts_l0 t (done ++ [⟨mtext x, mtext (x + 1), markedString p.f2.length (x + 2)⟩]) (x + 2 + p.f2.length) (by omega) h1 (by rw [List.length_append, List.length_append, List.length_cons, List.length_nil]; omega)
  rw [List.length_append, List.length_cons, List.length_nil, List.append_assoc, List.append_assoc] at h
  rw [Int.toNat_natCast, List.set_append_right _ _ (Nat.le_refl _), Nat.sub_self, List.set_cons_zero, wrap_id (x := (done.length : Int) + 1) (by omega) (by omega), cast_succ]
  exact h
theorem laws_markPartS_ev (l : List S102) (x : Int) (h0 : 0 ≤ x) (h1 : mkPartsEnd l x ≤ 4611686018427387904) (hn : l.length ≤ 9223372036854775807) : Ev (fun k => laws_markPartS.f k l x) (mkPartsEnd l x, mkParts l x) := markParts_l0 l [] x h0 h1 hn
noncomputable def declMark (x : Int) : S80 := ⟨mtext x, mtext (x + 1), (Int.tmod (x + 2) 3) == 0⟩
noncomputable def markedDecl (n : Nat) (x : Int) : List S80 := (List.range n).map fun (j : Nat) => declMark (x + 3 * (j : Int))
theorem markedDecl_length (n : Nat) (x : Int) : (markedDecl n x).length = n := by simp [markedDecl]
theorem markedDecl_get (n : Nat) (x : Int) (i : Nat) (h : i < n) : (markedDecl n x).getD i z80 = declMark (x + 3 * (i : Int)) := by
 simp [markedDecl, h]
theorem markedDecl_take (n : Nat) (x : Int) (l : List S80) (hl : l.length = n) (i : Nat) (h : i < n) : ((markedDecl n x).take i ++ l.drop i).set i (declMark (x + 3 * (i : Int))) = (markedDecl n x).take (i + 1) ++ l.drop (i + 1) := by
 rw [← markedDecl_get n x i h, take_set _ _ _ (by rw [markedDecl_length]; exact h) _ (by simp; omega), List.tail_drop]
theorem rdDecl_set (X : List S80) (i : Nat) (h : i < X.length) (v : S80) : rd_T80 (X.set i v) (i : Int) = v := by
 simp [rd_T80, h]
theorem setDecl (X : List S80) (i : Nat) (h : i < X.length) (a b : ByteArray) (c : Bool) (p : ByteArray) (u v : Bool) : ((X.set i ⟨a, p, u⟩).set i ⟨a, b, v⟩).set i ⟨a, b, c⟩ = X.set i (⟨a, b, c⟩ : S80) := by
 rw [List.set_set, List.set_set]
theorem laws_markDeclS_ev (l : List S80) (x : Int) (h0 : 0 ≤ x) (h1 : x + 3 * l.length ≤ 4611686018427387904) : Ev (fun k => laws_markDeclS.f k l x) (x + 3 * l.length, markedDecl l.length x) := by
 refine Ev.congr (f := fun k => laws_markDeclS.l0 k l x 0) (fun k => rfl) ?_
 have key := ev_up l.length (fun i k => laws_markDeclS.l0 k ((markedDecl l.length x).take i ++ l.drop i) (x + 3 * i) i) (x + 3 * l.length, markedDecl l.length x) ?_ ?_
 ·simpa using key
 ·refine ev_done fun k => ?_
  rw [laws_markDeclS.l0, if_neg (by simp [markedDecl_length])]
  rw [List.take_of_length_le (by simp [markedDecl_length])]; simp
 ·intro i hi h
  have hlen : i < ((markedDecl l.length x).take i ++ l.drop i).length := by simp [markedDecl_length]; omega
  have hlen2 : (((markedDecl l.length x).take i ++ l.drop i).length : Int) = l.length := by simp [markedDecl_length]; omega
  have htk := markedDecl_take l.length x l rfl i hi
  generalize (markedDecl l.length x).take i ++ l.drop i = X at hlen hlen2 htk ⊢
  refine Ev.step (fun k => by rw [laws_markDeclS.l0]) ?_
  refine ev_if_pos (by omega) ?_
  refine ev_bind (mtext_ev (x + 3 * i) (by omega) (by omega)) (ev_if_pos (by omega) ?_)
  refine ev_bind0 rfl ?_
  rw [Int.toNat_natCast, wrap_id (x := x + 3 * (i : Int) + 1) (by omega) (by omega)]
  refine ev_bind (mtext_ev (x + 3 * i + 1) (by omega) (by omega)) ?_
  refine ev_bind0 rfl ?_
  rw [rdDecl_set X i hlen]
  rw [rdDecl_set _ i (by rw [List.length_set]; exact hlen)]
  rw [setDecl X i hlen, wrap_up hi (by omega), wrap_id (x := x + 3 * (i : Int) + 1 + 1) (by omega) (by omega), wrap_id (x := x + 3 * (i : Int) + 1 + 1 + 1) (by omega) (by omega)]
  have e : x + 3 * (i : Int) + 1 + 1 + 1 = x + 3 * ((i + 1 : Nat) : Int) := by omega
  have e2 : x + 3 * (i : Int) + 1 + 1 = x + 3 * (i : Int) + 2 := by omega
  rw [e, e2, show X.set i (⟨mtext (x + 3 * (i : Int)), mtext (x + 3 * (i : Int) + 1), (x + 3 * (i : Int) + 2).tmod 3 == 0⟩ : S80) = X.set i (declMark (x + 3 * (i : Int))) from rfl, htk]; exact h
theorem laws_heldStringS_ev (n : Nat) (x : Int) (h0 : 0 ≤ x) (h1 : x + n ≤ 4611686018427387904) : Ev (fun k => laws_heldStringS.f k (markedString n x) x) (x + n) := by
 refine Ev.congr (f := fun k => laws_heldStringS.l0 k (markedString n x) x 0) (fun k => rfl) ?_
 have key := ev_up n (fun i k => laws_heldStringS.l0 k (markedString n x) (x + i) i) (x + n) ?_ ?_
 ·simpa using key
 ·refine ev_done fun k => ?_
  rw [laws_heldStringS.l0, if_neg (by simp [markedString_length])]
 ·intro i hi h
  refine Ev.step (fun k => by rw [laws_heldStringS.l0]) ?_
  refine ev_if_pos (by simp [markedString_length]; omega) (ev_if_pos (by omega) ?_)
  refine ev_bind (mtext_ev (x + i) (by omega) (by omega)) ?_
  refine ev_if_pos (by rw [rdOf_nat, markedString_get n x i hi]) ?_
  rw [wrap_up hi (by omega), wrap_id (by omega) (by omega)]
  have e : x + (i : Int) + 1 = x + ((i + 1 : Nat) : Int) := by omega
  rw [e]; exact h
theorem heldParts_l0 : ∀ (rest done : List S102) (x : Int), 0 ≤ x → mkPartsEnd rest x ≤ 4611686018427387904 → (done ++ rest).length ≤ 9223372036854775807 → Ev (fun k => laws_heldPartS.l0 k (done ++ mkParts rest x) x (done.length : Int)) (mkPartsEnd rest x)
 | [], done, x, h0, h1, hn => by
  rw [mkParts, List.append_nil]
  refine ev_done fun k => ?_
  rw [laws_heldPartS.l0, if_neg (by omega), mkPartsEnd]
 | p :: t, done, x, h0, h1, hn => by
  have hl : (done ++ p :: t).length = done.length + (t.length + 1) := by rw [List.length_append, List.length_cons]
  have hge := mkPartsEnd_ge t (x + 2 + p.f2.length)
  rw [mkPartsEnd] at h1 ⊢
  rw [mkParts]
  have hl2 : (done ++ ⟨mtext x, mtext (x + 1), markedString p.f2.length (x + 2)⟩ :: mkParts t (x + 2 + p.f2.length)).length = done.length + (t.length + 1) := by rw [List.length_append, List.length_cons, mkParts_length]
  refine Ev.step (fun k => laws_heldPartS.l0.eq_2 ..) (ev_if_pos (by omega) (ev_if_pos (by omega) ?_))
  rw [rd_mid_part]
  have w1 : wrap64 (x + 1) = x + 1 := wrap_id (by omega) (by omega)
  have w2 : wrap64 (x + 1 + 1) = x + 2 := by rw [wrap_id (by omega) (by omega)]; omega
  rw [w1, w2]
  refine ev_bind (mtext_ev x (by omega) (by omega)) (ev_if_pos rfl (ev_bind (mtext_ev (x + 1) (by omega) (by omega)) (ev_if_pos rfl (ev_bind (laws_heldStringS_ev p.f2.length (x + 2) (by omega) (by omega)) (ev_if_neg (by omega) ?_)))))
  have h := heldParts_l0 t (done ++ [⟨mtext x, mtext (x + 1), markedString p.f2.length (x + 2)⟩]) (x + 2 + p.f2.length) (by omega) h1 (by rw [List.length_append, List.length_append, List.length_cons, List.length_nil]; omega)
  rw [List.length_append, List.length_cons, List.length_nil, List.append_assoc] at h
  rw [wrap_id (x := (done.length : Int) + 1) (by omega) (by omega), cast_succ]
  exact h
theorem laws_heldPartS_ev (l : List S102) (x : Int) (h0 : 0 ≤ x) (h1 : mkPartsEnd l x ≤ 4611686018427387904) (hn : l.length ≤ 9223372036854775807) : Ev (fun k => laws_heldPartS.f k (mkParts l x) x) (mkPartsEnd l x) := heldParts_l0 l [] x h0 h1 hn
theorem laws_heldDeclS_ev (n : Nat) (x : Int) (h0 : 0 ≤ x) (h1 : x + 3 * n ≤ 4611686018427387904) : Ev (fun k => laws_heldDeclS.f k (markedDecl n x) x) (x + 3 * n) := by
 refine Ev.congr (f := fun k => laws_heldDeclS.l0 k (markedDecl n x) x 0) (fun k => rfl) ?_
 have key := ev_up n (fun i k => laws_heldDeclS.l0 k (markedDecl n x) (x + 3 * i) i) (x + 3 * n) ?_ ?_
 ·simpa using key
 ·refine ev_done fun k => ?_
  rw [laws_heldDeclS.l0, if_neg (by simp [markedDecl_length])]
 ·intro i hi h
  have hrd : rd_T80 (markedDecl n x) (i : Int) = declMark (x + 3 * (i : Int)) := by unfold rd_T80; rw [Int.toNat_natCast, markedDecl_get n x i hi]
  have e2 : x + 3 * (i : Int) + 1 + 1 = x + 3 * (i : Int) + 2 := by omega
  have e : x + 3 * (i : Int) + 2 + 1 = x + 3 * ((i + 1 : Nat) : Int) := by omega
  refine Ev.step (fun k => by rw [laws_heldDeclS.l0]) ?_
  refine ev_if_pos (by simp [markedDecl_length]; omega) (ev_if_pos (by omega) ?_)
  refine ev_bind (mtext_ev (x + 3 * i) (by omega) (by omega)) ?_
  rw [hrd, wrap_id (x := x + 3 * (i : Int) + 1) (by omega) (by omega), wrap_id (x := x + 3 * (i : Int) + 1 + 1) (by omega) (by omega), e2]
  refine ev_if_pos rfl ?_
  refine ev_bind (mtext_ev (x + 3 * i + 1) (by omega) (by omega)) ?_
  refine ev_if_pos rfl (ev_if_neg (by simp [declMark]) ?_)
  rw [wrap_up hi (by omega), wrap_id (x := x + 3 * (i : Int) + 2 + 1) (by omega) (by omega), e]
  exact h
theorem totAttr_mem (l : List S82) : ∀ x ∈ l, totAttr x ≤ (l.map totAttr).sum := by
 induction l with
 | nil => intro x hx; simp at hx
 | cons y l ih =>
  intro x hx
  rw [List.map_cons, List.sum_cons]
  have := totAttrS_parts l
  have := totAttr_nonneg y
  rcases List.mem_cons.1 hx with rfl | hx
  ·omega
  ·have := ih x hx; omega
theorem totNode_mem (l : List S36) : ∀ x ∈ l, totNode x ≤ (l.map totNode).sum := by
 induction l with
 | nil => intro x hx; simp at hx
 | cons y l ih =>
  intro x hx
  rw [List.map_cons, List.sum_cons]
  have := totNodeS_parts l
  have := totNode_nonneg y
  rcases List.mem_cons.1 hx with rfl | hx
  ·omega
  ·have := ih x hx; omega
def sizesNode (x : S40) : Prop := x.f0.size ≤ 1048576 ∧ (-9223372036854775808 ≤ x.f1 ∧ x.f1 ≤ 9223372036854775807) ∧ x.f2.length ≤ 1048576 ∧ (∀ y ∈ x.f2, y.f0.size ≤ 1048576 ∧ y.f1.size ≤ 1048576) ∧ x.f3.size ≤ 1048576
theorem nodes_of (l : List S36) (h : totNodeS l ≤ 1048576) (hg : ∀ x ∈ l, goodNodeIn x) : l.length ≤ 1048576 ∧ (∀ x ∈ l, x.f2.length ≤ 1048576) ∧ ∀ x ∈ l.map toNode, sizesNode x := by
 unfold totNodeS at h
 have h0 := totNodeS_parts l
 have key : ∀ x ∈ l, x.f0.size ≤ 1048576 ∧ x.f2.length ≤ 1048576 ∧ (∀ y ∈ x.f2, y.f0.size ≤ 1048576 ∧ y.f1.size ≤ 1048576) ∧ x.f3.size ≤ 1048576 := by
  intro x hx
  have h1 := totNode_mem l x hx
  have hd : totNode x = (x.f0.size : Int) + ((x.f2.length : Int) + (x.f2.map totAttr).sum) + (x.f3.size : Int) := rfl
  have h2 := totAttrS_parts x.f2
  refine ⟨by omega, by omega, fun y hy => ?_, by omega⟩
  have h3 := totAttr_mem x.f2 y hy
  have h4 : totAttr y = (y.f0.size : Int) + (y.f1.size : Int) := rfl
  omega
 refine ⟨by omega, fun x hx => (key x hx).2.1, fun x hx => ?_⟩
 obtain ⟨y, hy, rfl⟩ := List.mem_map.1 hx
 obtain ⟨k0, k1, k2, k3⟩ := key y hy
 have hw := wf_i64 (hg y hy).2.1
 refine ⟨k0, ⟨hw.1, hw.2⟩, by simpa [toNode] using k1, fun z hz => ?_, k3⟩
 obtain ⟨u, hu, rfl⟩ := List.mem_map.1 hz
 exact k2 u hu
def allFrom (p : Nat → Bool) : Nat → Nat → Bool
 | 0, _ => true
 | c + 1, i => p i && allFrom p c (i + 1)
def attrOkAt (l : List S76) (i : Nat) : Bool := isNameL (B (l.getD i z76).f0) && textOk (B (l.getD i z76).f1) && !((l.take i).any fun z => decide (B z.f0 = B (l.getD i z76).f0))
def attrsOk (l : List S76) : Bool := decide (l.length ≤ 12) && allFrom (attrOkAt l) l.length 0
def sizesAttrs (l : List S76) : Prop := l.length ≤ 1048576 ∧ ∀ y ∈ l, y.f0.size ≤ 1048576 ∧ y.f1.size ≤ 1048576
theorem bad_dec (l : List UInt8) : decide (badP l ≥ 0) = !textOk l := by unfold textOk; rw [Bool.eq_iff_iff]; simp
theorem spec_l4Attrs_l1 (l : List S76) (i : Nat) (y : List S76) (hy : y.length ≤ 1048576) (nm vl : ByteArray) (r : Bool) (h : Ev (fun k => spec_l4Attrs.l0 k l l (l.length : Int) (wrap64 ((i : Int) + 1))) r) :
  Ev (fun k => spec_l4Attrs.l1 k l l (l.length : Int) (i : Int) y (y.length : Int) 0 nm vl) (!(y.any fun z => decide (B z.f0 = B nm)) && r) := by
 have key := ev_from y.length (fun j k => spec_l4Attrs.l1 k l l (l.length : Int) (i : Int) y (y.length : Int) (j : Int) nm vl) (fun j => !((y.drop j).any fun z => decide (B z.f0 = B nm)) && r) ?_ ?_ 0 (by omega)
 ·exact key
 ·simp only [List.drop_length, List.any_nil, Bool.not_false, Bool.true_and]
  exact Ev.step (fun k => spec_l4Attrs.l1.eq_2 ..) (ev_if_neg (by omega) h)
 ·intro j hj h2
  have hrd : rd_T76 y (j : Int) = y.getD j z76 := by simp [rd_T76]
  rw [drop_cons y z76 j hj, List.any_cons]
  refine Ev.step (fun k => spec_l4Attrs.l1.eq_2 ..) (ev_if_pos (by omega) (ev_if_pos (by omega) (ev_if_pos (by omega) ?_)))
  rw [hrd]
  by_cases hc : B (y.getD j z76).f0 = B nm
  ·rw [decide_eq_true hc]
   exact ev_if_pos (by rw [toList_B, toList_B]; exact hc) (Ev.now _)
  ·rw [decide_eq_false hc, Bool.false_or]
   refine ev_if_neg (by rw [toList_B, toList_B]; exact hc) ?_
   rw [wrap_id (x := (j : Int) + 1) (by omega) (by omega), cast_succ]
   exact h2
theorem impl_areAttrs_l1 (l : List S76) (i : Nat) (y : List S76) (hy : y.length ≤ 1048576) (nm vl : ByteArray) (r : Bool) (h : Ev (fun k => impl_areAttrs.l0 k l l (l.length : Int) (wrap64 ((i : Int) + 1))) r) :
  Ev (fun k => impl_areAttrs.l1 k l l (l.length : Int) (i : Int) y (y.length : Int) 0 nm vl) (!(y.any fun z => decide (B z.f0 = B nm)) && r) := by
 have key := ev_from y.length (fun j k => impl_areAttrs.l1 k l l (l.length : Int) (i : Int) y (y.length : Int) (j : Int) nm vl) (fun j => !((y.drop j).any fun z => decide (B z.f0 = B nm)) && r) ?_ ?_ 0 (by omega)
 ·exact key
 ·simp only [List.drop_length, List.any_nil, Bool.not_false, Bool.true_and]
  exact Ev.step (fun k => impl_areAttrs.l1.eq_2 ..) (ev_if_neg (by omega) h)
 ·intro j hj h2
  have hrd : rd_T76 y (j : Int) = y.getD j z76 := by simp [rd_T76]
  rw [drop_cons y z76 j hj, List.any_cons]
  refine Ev.step (fun k => impl_areAttrs.l1.eq_2 ..) (ev_if_pos (by omega) (ev_if_pos (by omega) (ev_if_pos (by omega) ?_)))
  rw [hrd]
  by_cases hc : B (y.getD j z76).f0 = B nm
  ·rw [decide_eq_true hc]
   exact ev_if_pos (by rw [toList_B, toList_B]; exact hc.symm) (Ev.now _)
  ·rw [decide_eq_false hc, Bool.false_or]
   refine ev_if_neg (by rw [toList_B, toList_B]; exact fun h => hc h.symm) ?_
   rw [wrap_id (x := (j : Int) + 1) (by omega) (by omega), cast_succ]
   exact h2
theorem spec_l4Attrs_ev (l : List S76) (hs : sizesAttrs l) : Ev (fun k => spec_l4Attrs.f k l) (attrsOk l) := by
 obtain ⟨hl, hg⟩ := hs
 simp only [spec_l4Attrs.f]
 unfold attrsOk
 by_cases h12 : l.length ≤ 12
 ·rw [decide_eq_true h12, Bool.true_and]
  refine ev_if_neg (by omega) ?_
  have key := ev_from l.length (fun i k => spec_l4Attrs.l0 k l l (l.length : Int) (i : Int)) (fun i => allFrom (attrOkAt l) (l.length - i) i) ?_ ?_ 0 (by omega)
  ·exact key
  ·rw [Nat.sub_self]
   exact Ev.step (fun k => spec_l4Attrs.l0.eq_2 ..) (ev_if_neg (by omega) (Ev.now _))
  ·intro i hi h
   have hmem : l.getD i z76 ∈ l := by rw [List.getD_eq_getElem?_getD, List.getElem?_eq_getElem hi]; exact List.getElem_mem hi
   have hz := hg _ hmem
   have hrd : rd_T76 l (i : Int) = l.getD i z76 := by simp [rd_T76]
   have e : l.length - i = (l.length - (i + 1)) + 1 := by omega
   rw [e, allFrom]
   unfold attrOkAt
   refine Ev.step (fun k => spec_l4Attrs.l0.eq_2 ..) (ev_if_pos (by omega) (ev_if_pos (by omega) (ev_if_pos (by omega) ?_)))
   rw [hrd]
   generalize l.getD i z76 = x at *
   refine ev_bind (spec_l4Name_ev x.f0 hz.1) ?_
   by_cases hn : isNameL (B x.f0) = true
   ·rw [hn, Bool.true_and]
    refine ev_if_pos rfl (ev_bind (spec_l4Bad_ev x.f1 hz.2) ?_)
    rw [bad_dec]
    by_cases ht : textOk (B x.f1) = true
    ·rw [ht, Bool.true_and]
     refine Ev.step (fun k => spec_l4Attrs.j1.eq_2 ..) (ev_if_neg (by decide) (ev_if_pos (by omega) (ev_if_pos (by omega) (ev_bind0 rfl ?_))))
     refine spec_l4Attrs_l1 l i _ (by rw [List.length_take]; omega) x.f0 x.f1 _ ?_
     rw [wrap_id (x := (i : Int) + 1) (by omega) (by omega), cast_succ]
     exact h
    ·rw [Bool.eq_false_iff.mpr ht]
     exact Ev.step (fun k => spec_l4Attrs.j1.eq_2 ..) (ev_if_pos rfl (Ev.now _))
   ·rw [Bool.eq_false_iff.mpr hn]
    exact ev_if_neg (by decide) (Ev.step (fun k => spec_l4Attrs.j1.eq_2 ..) (ev_if_pos rfl (Ev.now _)))
 ·rw [decide_eq_false h12, Bool.false_and]
  exact ev_if_pos (by omega) (Ev.now _)
theorem impl_areAttrs_ev (l : List S76) (hs : sizesAttrs l) : Ev (fun k => impl_areAttrs.f k l) (attrsOk l) := by
 obtain ⟨hl, hg⟩ := hs
 simp only [impl_areAttrs.f]
 unfold attrsOk
 rw [Bool.and_comm]
 have key := ev_from l.length (fun i k => impl_areAttrs.l0 k l l (l.length : Int) (i : Int)) (fun i => allFrom (attrOkAt l) (l.length - i) i && decide (l.length ≤ 12)) ?_ ?_ 0 (by omega)
 ·exact key
 ·rw [Nat.sub_self]
  refine Ev.step (fun k => impl_areAttrs.l0.eq_2 ..) (ev_if_neg (by omega) ?_)
  have e : (allFrom (attrOkAt l) 0 l.length && decide (l.length ≤ 12)) = decide ((l.length : Int) ≤ 12) := by rw [allFrom, Bool.true_and, Bool.eq_iff_iff]; simp; omega
  rw [e]; exact Ev.now _
 ·intro i hi h
  have hmem : l.getD i z76 ∈ l := by rw [List.getD_eq_getElem?_getD, List.getElem?_eq_getElem hi]; exact List.getElem_mem hi
  have hz := hg _ hmem
  have hrd : rd_T76 l (i : Int) = l.getD i z76 := by simp [rd_T76]
  have e : l.length - i = (l.length - (i + 1)) + 1 := by omega
  rw [e, allFrom]
  unfold attrOkAt
  refine Ev.step (fun k => impl_areAttrs.l0.eq_2 ..) (ev_if_pos (by omega) (ev_if_pos (by omega) (ev_if_pos (by omega) ?_)))
  rw [hrd]
  generalize l.getD i z76 = x at *
  refine ev_bind (impl_isName_ev x.f0 hz.1) ?_
  by_cases hn : isNameL (B x.f0) = true
  ·rw [hn, Bool.true_and]
   refine ev_if_pos rfl (ev_bind (impl_badByte_ev x.f1 hz.2) ?_)
   rw [bad_dec]
   by_cases ht : textOk (B x.f1) = true
   ·rw [ht, Bool.true_and, Bool.and_assoc]
    refine Ev.step (fun k => impl_areAttrs.j1.eq_2 ..) (ev_if_neg (by decide) (ev_if_pos (by omega) (ev_if_pos (by omega) (ev_bind0 rfl ?_))))
    refine impl_areAttrs_l1 l i _ (by rw [List.length_take]; omega) x.f0 x.f1 _ ?_
    rw [wrap_id (x := (i : Int) + 1) (by omega) (by omega), cast_succ]
    exact h
   ·rw [Bool.eq_false_iff.mpr ht]
    exact Ev.step (fun k => impl_areAttrs.j1.eq_2 ..) (ev_if_pos rfl (Ev.now _))
  ·rw [Bool.eq_false_iff.mpr hn]
   exact ev_if_neg (by decide) (Ev.step (fun k => impl_areAttrs.j1.eq_2 ..) (ev_if_pos rfl (Ev.now _)))
def nodeAt (l : List S40) (i : Nat) : S40 := l.getD i z40
def upOf (l : List S40) (i : Nat) : Int := (nodeAt l i).f1
def UpOk (l : List S40) (j : Nat) : Prop := (j = 0 ∧ upOf l j = -1) ∨ (0 < j ∧ 0 ≤ upOf l j ∧ upOf l j < (j : Int))
theorem UpOk.lt {l : List S40} {j : Nat} (h : UpOk l j) : -1 ≤ upOf l j ∧ upOf l j < (j : Int) := by rcases h with ⟨h1, h2⟩ | ⟨h1, h2, h3⟩ <;> omega
def around (l : List S40) (u : Int) : Nat → Int → Bool
 | 0, _ => false
 | n + 1, a => if a < 0 then false else if a = u then true else around l u n (upOf l a.toNat)
def depth (l : List S40) : Nat → Int → Nat
 | 0, _ => 0
 | n + 1, a => if a < 0 then 0 else depth l n (upOf l a.toNat) + 1
theorem depth_fuel (l : List S40) (m : Nat) (prev : ∀ j, j < m → UpOk l j) : ∀ (n n' : Nat) (a : Int), a < (m : Int) → a < (n : Int) → a < (n' : Int) → depth l n a = depth l n' a := by
 intro n
 induction n with
 | zero =>
  intro n' a h0 h1 h2
  cases n' with
  | zero => rfl
  | succ n' => rw [depth, depth, if_pos (by omega)]
 | succ n ih =>
  intro n' a h0 h1 h2
  cases n' with
  | zero => rw [depth, depth, if_pos (by omega)]
  | succ n' =>
   rw [depth, depth]
   by_cases ha : a < 0
   ·rw [if_pos ha, if_pos ha]
   ·have hu := (prev a.toNat (by omega)).lt
    rw [if_neg ha, if_neg ha, ih n' (upOf l a.toNat) (by omega) (by omega) (by omega)]
theorem depth_le (l : List S40) : ∀ (n : Nat) (a : Int), depth l n a ≤ n := by
 intro n
 induction n with
 | zero => intro a; simp [depth]
 | succ n ih =>
  intro a
  rw [depth]
  split
  ·omega
  ·have := ih (upOf l a.toNat); omega
theorem rd_node (l : List S40) (i : Nat) : rd_T40 l (i : Int) = nodeAt l i := by simp [rd_T40, nodeAt]
theorem rd_nodeI (l : List S40) (a : Int) : rd_T40 l a = nodeAt l a.toNat := rfl
theorem impl_isAround_l0 (l : List S40) (m : Nat) (hm : m ≤ l.length) (prev : ∀ j, j < m → UpOk l j) (u : Int) : ∀ (n : Nat) (a : Int), a < (n : Int) → a < (m : Int) → Ev (fun k => impl_isAround.l0 k l u a) (around l u n a) := by
 intro n
 induction n with
 | zero =>
  intro a h1 h2
  exact Ev.step (fun k => impl_isAround.l0.eq_2 ..) (ev_if_neg (by omega) (Ev.now _))
 | succ n ih =>
  intro a h1 h2
  rw [around]
  by_cases ha : a < 0
  ·rw [if_pos ha]
   exact Ev.step (fun k => impl_isAround.l0.eq_2 ..) (ev_if_neg (by omega) (Ev.now _))
  ·rw [if_neg ha]
   refine Ev.step (fun k => impl_isAround.l0.eq_2 ..) (ev_if_pos (by omega) ?_)
   by_cases hu : a = u
   ·rw [if_pos hu]; exact ev_if_pos hu (Ev.now _)
   ·rw [if_neg hu]
    have hlt := (prev a.toNat (by omega)).lt
    exact ev_if_neg hu (ev_if_pos (by omega) (ev_if_pos (by omega) (ih (upOf l a.toNat) (by omega) (by omega))))
theorem spec_l4Deep_l0 (l : List S40) (m : Nat) (hm : m ≤ l.length) (hl : l.length ≤ 60) (prev : ∀ j, j < m → UpOk l j) : ∀ (n : Nat) (a : Int) (c : Nat), a < (n : Int) → a < (m : Int) → c + n ≤ 1000 → Ev (fun k => spec_l4Deep.l0 k l a (c : Int)) ((c + depth l n a : Nat) : Int) := by
 intro n
 induction n with
 | zero =>
  intro a c h1 h2 h3
  exact Ev.step (fun k => spec_l4Deep.l0.eq_2 ..) (ev_if_neg (by omega) (Ev.now _))
 | succ n ih =>
  intro a c h1 h2 h3
  rw [depth]
  by_cases ha : a < 0
  ·rw [if_pos ha]
   exact Ev.step (fun k => spec_l4Deep.l0.eq_2 ..) (ev_if_neg (by omega) (Ev.now _))
  ·rw [if_neg ha]
   have hlt := (prev a.toNat (by omega)).lt
   refine Ev.step (fun k => spec_l4Deep.l0.eq_2 ..) (ev_if_pos (by omega) (ev_if_pos (by omega) (ev_if_pos (by omega) ?_)))
   rw [wrap_id (x := (c : Int) + 1) (by omega) (by omega), cast_succ, show c + (depth l n (upOf l a.toNat) + 1) = (c + 1) + depth l n (upOf l a.toNat) by omega]
   exact ih (upOf l a.toNat) (c + 1) (by omega) (by omega) (by omega)
def NodeOk (l : List S40) (k : Nat) : Prop :=
 UpOk l k ∧ attrsOk (nodeAt l k).f2 = true ∧ (0 < k → around l (upOf l k) k ((k : Int) - 1) = true ∧ ¬ B (nodeAt l (upOf l k).toNat).f0 = []) ∧
 (B (nodeAt l k).f0 = [] → 0 < k ∧ (nodeAt l k).f2.length = 0 ∧ ¬ B (nodeAt l k).f3 = [] ∧ textOk (B (nodeAt l k).f3) = true ∧ ¬ (B (nodeAt l (k - 1)).f0 = [] ∧ upOf l (k - 1) = upOf l k)) ∧
 (¬ B (nodeAt l k).f0 = [] → isNameL (B (nodeAt l k).f0) = true ∧ B (nodeAt l k).f3 = [] ∧ depth l (k + 1) (k : Int) ≤ 10)
theorem node_mem (l : List S40) (i : Nat) (hi : i < l.length) : nodeAt l i ∈ l := by unfold nodeAt; rw [List.getD_eq_getElem?_getD, List.getElem?_eq_getElem hi]; exact List.getElem_mem hi
theorem nodes_l1 (l : List S40) (hl : l.length ≤ 60) (i : Nat) (hi : i < l.length) (prev : ∀ j, j < i → UpOk l j) (n0 : ByteArray) (u : Int) (hu : 0 ≤ u) (ats : List S76) (tx : ByteArray) (r : Bool) :
  ∀ (n : Nat) (a : Int), a < (n : Int) → a < (i : Int) →
  (around l u n a = true → ¬ B (nodeAt l u.toNat).f0 = [] → Ev (fun k => spec_GoodNodes.j3 k l (i : Int) l (l.length : Int) (i : Int) n0 u ats tx) r) →
  (around l u n a = true → B (nodeAt l u.toNat).f0 = [] → r = false) → (around l u n a = false → r = false) →
  Ev (fun k => spec_GoodNodes.l1 k l (i : Int) a l (l.length : Int) (i : Int) n0 u ats tx) r := by
 intro n
 induction n with
 | zero =>
  intro a h1 h2 g1 g2 g3
  rw [g3 rfl]
  exact Ev.step (fun k => spec_GoodNodes.l1.eq_2 ..) (ev_if_neg (by omega) (ev_if_pos (by omega) (Ev.now _)))
 | succ n ih =>
  intro a h1 h2 g1 g2 g3
  rw [around] at g1 g2 g3
  by_cases ha : a < 0
  ·rw [if_pos ha] at g3
   rw [g3 rfl]
   exact Ev.step (fun k => spec_GoodNodes.l1.eq_2 ..) (ev_if_neg (by omega) (ev_if_pos (by omega) (Ev.now _)))
  ·rw [if_neg ha] at g1 g2 g3
   refine Ev.step (fun k => spec_GoodNodes.l1.eq_2 ..) (ev_if_pos (by omega) ?_)
   by_cases hau : a = u
   ·rw [if_pos hau] at g1 g2 g3
    refine ev_if_pos hau (ev_if_neg (by omega) (ev_if_pos (by omega) (ev_if_pos (by omega) ?_)))
    rw [rd_nodeI, hau]
    by_cases hb : B (nodeAt l u.toNat).f0 = []
    ·rw [g2 rfl hb]
     exact ev_if_pos (by rw [toList_B]; exact hb) (Ev.now _)
    ·exact ev_if_neg (by rw [toList_B]; exact hb) (g1 rfl hb)
   ·rw [if_neg hau] at g1 g2 g3
    have hlt := (prev a.toNat (by omega)).lt
    exact ev_if_neg hau (ev_if_pos (by omega) (ev_if_pos (by omega) (ih (upOf l a.toNat) (by omega) (by omega) g1 g2 g3)))
theorem spec_node (l : List S40) (hl : l.length ≤ 60) (hsz : ∀ x ∈ l, sizesNode x) (i : Nat) (hi : i < l.length) (prev : ∀ j, j < i → UpOk l j) (r : Bool)
  (hyes : NodeOk l i → Ev (fun k => spec_GoodNodes.l0 k l l (l.length : Int) ((i + 1 : Nat) : Int)) r) (hno : ¬ NodeOk l i → r = false) :
  Ev (fun k => spec_GoodNodes.l0 k l l (l.length : Int) (i : Int)) r := by
 have hx := hsz _ (node_mem l i hi)
 obtain ⟨x, hxe⟩ : ∃ x, nodeAt l i = x := ⟨_, rfl⟩
 obtain ⟨n0, u, ats, tx⟩ := x
 rw [hxe] at hx
 obtain ⟨z0, z1, z2, z2', z3⟩ := hx
 simp only at z0 z1 z2 z2' z3
 have hu : upOf l i = u := by unfold upOf; rw [hxe]
 have hno1 (h : NodeOk l i → False) : r = false := hno h
 have un : NodeOk l i → UpOk l i ∧ attrsOk ats = true ∧ (0 < i → around l u i ((i : Int) - 1) = true ∧ ¬ B (nodeAt l u.toNat).f0 = []) ∧ (B n0 = [] → 0 < i ∧ ats.length = 0 ∧ ¬ B tx = [] ∧ textOk (B tx) = true ∧ ¬ (B (nodeAt l (i - 1)).f0 = [] ∧ upOf l (i - 1) = u)) ∧ (¬ B n0 = [] → isNameL (B n0) = true ∧ B tx = [] ∧ depth l (i + 1) (i : Int) ≤ 10) := by
  unfold NodeOk; rw [hxe, hu]; exact id
 have nu : UpOk l i ∧ attrsOk ats = true ∧ (0 < i → around l u i ((i : Int) - 1) = true ∧ ¬ B (nodeAt l u.toNat).f0 = []) ∧ (B n0 = [] → 0 < i ∧ ats.length = 0 ∧ ¬ B tx = [] ∧ textOk (B tx) = true ∧ ¬ (B (nodeAt l (i - 1)).f0 = [] ∧ upOf l (i - 1) = u)) ∧ (¬ B n0 = [] → isNameL (B n0) = true ∧ B tx = [] ∧ depth l (i + 1) (i : Int) ≤ 10) → NodeOk l i := by
  unfold NodeOk; rw [hxe, hu]; exact id
 have bad1 (h : r = false) : Ev (fun k => spec_GoodNodes.j1 k l (i : Int) l (l.length : Int) (i : Int) true n0 u ats tx) r := by
  rw [h]; exact Ev.step (fun k => spec_GoodNodes.j1.eq_2 ..) (ev_if_pos rfl (Ev.now _))
 have next (h : NodeOk l i) : Ev (fun k => spec_GoodNodes.l0 k l l (l.length : Int) (wrap64 ((i : Int) + 1))) r := by
  rw [wrap_id (x := (i : Int) + 1) (by omega) (by omega), cast_succ]; exact hyes h
 refine Ev.step (fun k => spec_GoodNodes.l0.eq_2 ..) (ev_if_pos (by omega) (ev_if_pos (by omega) (ev_if_pos (by omega) ?_)))
 rw [rd_node, hxe]
 dsimp only
 refine ev_bind0 (spec_l1In_eq _ _ _) ?_
 rw [wrap_id (x := (i : Int) - 1) (by omega) (by omega)]
 by_cases c1 : -1 ≤ u ∧ u ≤ (i : Int) - 1
 rotate_left
 ·exact ev_if_neg (by rw [decide_eq_false c1]; decide) (bad1 (hno1 fun h => c1 (by have := (un h).1.lt; rw [hu] at this; omega)))
 refine ev_if_pos (decide_eq_true c1) ?_
 by_cases c2 : UpOk l i
 rotate_left
 ·refine ev_if_pos ?_ (bad1 (hno1 fun h => c2 (un h).1))
  unfold UpOk at c2
  rw [hu] at c2
  by_cases hz : i = 0
  ·have h1 : ¬ u = -1 := fun h => c2 (.inl ⟨hz, h⟩)
   rw [beq_eq_false_iff_ne.mpr h1, beq_iff_eq.mpr (show (i : Int) = 0 by omega)]; rfl
  ·have h1 : u = -1 := by
    by_cases h : u = -1
    ·exact h
    ·exact absurd (.inr ⟨by omega, by omega, by omega⟩) c2
   rw [beq_iff_eq.mpr h1, beq_eq_false_iff_ne.mpr (show ¬ (i : Int) = 0 by omega)]; rfl
 refine ev_if_neg ?_ ?_
 ·unfold UpOk at c2
  rw [hu] at c2
  rcases c2 with ⟨h1, h2⟩ | ⟨h1, h2, h3⟩
  ·rw [beq_iff_eq.mpr h2, beq_iff_eq.mpr (show (i : Int) = 0 by omega)]; decide
  ·rw [beq_eq_false_iff_ne.mpr (show ¬ u = -1 by omega), beq_eq_false_iff_ne.mpr (show ¬ (i : Int) = 0 by omega)]; decide
 refine ev_bind (spec_l4Attrs_ev ats ⟨z2, z2'⟩) ?_
 by_cases c3 : attrsOk ats = true
 rotate_left
 ·rw [Bool.eq_false_iff.mpr c3]; exact bad1 (hno1 fun h => c3 (un h).2.1)
 rw [c3]
 have prev' : ∀ j, j < i + 1 → UpOk l j := fun j hj => by
  by_cases h : j = i
  ·rw [h]; exact c2
  ·exact prev j (by omega)
 have tail (c4 : 0 < i → around l u i ((i : Int) - 1) = true ∧ ¬ B (nodeAt l u.toNat).f0 = []) : Ev (fun k => spec_GoodNodes.j3 k l (i : Int) l (l.length : Int) (i : Int) n0 u ats tx) r := by
  refine Ev.step (fun k => spec_GoodNodes.j3.eq_2 ..) ?_
  have badj4 (h : r = false) : Ev (fun k => spec_GoodNodes.j4 k l (i : Int) l (l.length : Int) (i : Int) true n0 u ats tx) r := by
   rw [h]; exact Ev.step (fun k => spec_GoodNodes.j4.eq_2 ..) (ev_if_pos rfl (Ev.now _))
  by_cases cn : B n0 = []
  ·refine ev_if_pos (by rw [toList_B]; exact cn) ?_
   by_cases e1 : i = 0
   ·exact ev_if_pos (by omega) (badj4 (hno1 fun h => by have := ((un h).2.2.2.1 cn).1; omega))
   refine ev_if_neg (by omega) ?_
   by_cases e2 : ats.length = 0
   rotate_left
   ·exact ev_if_pos (by omega) (badj4 (hno1 fun h => e2 ((un h).2.2.2.1 cn).2.1))
   refine ev_if_neg (by omega) ?_
   by_cases e3 : B tx = []
   ·exact ev_if_pos (by rw [toList_B]; exact e3) (badj4 (hno1 fun h => ((un h).2.2.2.1 cn).2.2.1 e3))
   refine ev_if_neg (by rw [toList_B]; exact e3) (ev_bind (spec_l4Bad_ev tx z3) ?_)
   rw [bad_dec]
   by_cases e4 : textOk (B tx) = true
   rotate_left
   ·rw [Bool.eq_false_iff.mpr e4]; exact badj4 (hno1 fun h => e4 ((un h).2.2.2.1 cn).2.2.2.1)
   rw [e4]
   refine Ev.step (fun k => spec_GoodNodes.j4.eq_2 ..) (ev_if_neg (by decide) ?_)
   rw [wrap_id (x := (i : Int) - 1) (by omega) (by omega)]
   refine ev_if_pos (by omega) (ev_if_pos (by omega) ?_)
   rw [show (i : Int) - 1 = ((i - 1 : Nat) : Int) by omega, rd_node]
   by_cases e5 : B (nodeAt l (i - 1)).f0 = []
   ·refine ev_if_pos (by rw [toList_B]; exact e5) ?_
    by_cases e6 : upOf l (i - 1) = u
    ·rw [hno1 fun h => ((un h).2.2.2.1 cn).2.2.2.2 ⟨e5, e6⟩]
     exact ev_if_pos e6 (Ev.now _)
    ·exact ev_if_neg e6 (next (nu ⟨c2, c3, c4, fun _ => ⟨by omega, e2, e3, e4, fun h => e6 h.2⟩, fun h => absurd cn h⟩))
   ·exact ev_if_neg (by rw [toList_B]; exact e5) (next (nu ⟨c2, c3, c4, fun _ => ⟨by omega, e2, e3, e4, fun h => e5 h.1⟩, fun h => absurd cn h⟩))
  ·refine ev_if_neg (by rw [toList_B]; exact cn) (ev_bind (spec_l4Name_ev n0 z0) ?_)
   by_cases e1 : isNameL (B n0) = true
   rotate_left
   ·rw [hno1 fun h => e1 ((un h).2.2.2.2 cn).1]
    exact ev_if_neg e1 (Ev.now _)
   refine ev_if_pos e1 ?_
   by_cases e2 : B tx = []
   rotate_left
   ·rw [hno1 fun h => e2 ((un h).2.2.2.2 cn).2.1]
    exact ev_if_neg (by rw [toList_B]; exact e2) (Ev.now _)
   have hd := spec_l4Deep_l0 l (i + 1) (by omega) hl prev' (i + 1) (i : Int) 0 (by omega) (by omega) (by omega)
   refine ev_if_pos (by rw [toList_B]; exact e2) (ev_bind (show Ev (fun k => spec_l4Deep.f k l (i : Int)) _ from hd) ?_)
   by_cases e3 : depth l (i + 1) (i : Int) ≤ 10
   ·exact ev_if_neg (by omega) (next (nu ⟨c2, c3, c4, fun h => absurd h cn, fun _ => ⟨e1, e2, e3⟩⟩))
   ·rw [hno1 fun h => e3 ((un h).2.2.2.2 cn).2.2]
    exact ev_if_pos (by omega) (Ev.now _)
 refine Ev.step (fun k => spec_GoodNodes.j1.eq_2 ..) (ev_if_neg (by decide) ?_)
 by_cases hz : i = 0
 ·exact ev_if_neg (by omega) (tail (fun h => by omega))
 ·refine ev_if_pos (by omega) ?_
  rw [wrap_id (x := (i : Int) - 1) (by omega) (by omega)]
  have hu0 : 0 ≤ u := by have c2' := c2; unfold UpOk at c2'; rw [hu] at c2'; rcases c2' with h | h <;> omega
  exact nodes_l1 l hl i hi prev n0 u hu0 ats tx r i ((i : Int) - 1) (by omega) (by omega) (fun g1 g2 => tail (fun _ => ⟨g1, g2⟩)) (fun g1 g2 => hno1 fun h => ((un h).2.2.1 (by omega)).2 g2) (fun g1 => hno1 fun h => by have := ((un h).2.2.1 (by omega)).1; rw [g1] at this; cases this)
theorem impl_node (l : List S40) (hl : l.length ≤ 60) (hsz : ∀ x ∈ l, sizesNode x) (i : Nat) (hi : i < l.length) (prev : ∀ j, j < i → UpOk l j) (xs : List Int) (hxl : xs.length = l.length) (hxs : ∀ j, j < i → xs.getD j 0 = ((depth l (j + 1) (j : Int) : Nat) : Int)) (r : Bool)
  (hyes : NodeOk l i → ∀ ys : List Int, ys.length = l.length → (∀ j, j < i + 1 → ys.getD j 0 = ((depth l (j + 1) (j : Int) : Nat) : Int)) → Ev (fun k => impl_GoodNodes.l0 k l ys l (l.length : Int) ((i + 1 : Nat) : Int)) r) (hno : ¬ NodeOk l i → r = false) :
  Ev (fun k => impl_GoodNodes.l0 k l xs l (l.length : Int) (i : Int)) r := by
 have hx := hsz _ (node_mem l i hi)
 obtain ⟨x, hxe⟩ : ∃ x, nodeAt l i = x := ⟨_, rfl⟩
 obtain ⟨n0, u, ats, tx⟩ := x
 rw [hxe] at hx
 obtain ⟨z0, z1, z2, z2', z3⟩ := hx
 simp only at z0 z1 z2 z2' z3
 have hu : upOf l i = u := by unfold upOf; rw [hxe]
 have hno1 (h : NodeOk l i → False) : r = false := hno h
 have un : NodeOk l i → UpOk l i ∧ attrsOk ats = true ∧ (0 < i → around l u i ((i : Int) - 1) = true ∧ ¬ B (nodeAt l u.toNat).f0 = []) ∧ (B n0 = [] → 0 < i ∧ ats.length = 0 ∧ ¬ B tx = [] ∧ textOk (B tx) = true ∧ ¬ (B (nodeAt l (i - 1)).f0 = [] ∧ upOf l (i - 1) = u)) ∧ (¬ B n0 = [] → isNameL (B n0) = true ∧ B tx = [] ∧ depth l (i + 1) (i : Int) ≤ 10) := by
  unfold NodeOk; rw [hxe, hu]; exact id
 have nu : UpOk l i ∧ attrsOk ats = true ∧ (0 < i → around l u i ((i : Int) - 1) = true ∧ ¬ B (nodeAt l u.toNat).f0 = []) ∧ (B n0 = [] → 0 < i ∧ ats.length = 0 ∧ ¬ B tx = [] ∧ textOk (B tx) = true ∧ ¬ (B (nodeAt l (i - 1)).f0 = [] ∧ upOf l (i - 1) = u)) ∧ (¬ B n0 = [] → isNameL (B n0) = true ∧ B tx = [] ∧ depth l (i + 1) (i : Int) ≤ 10) → NodeOk l i := by
  unfold NodeOk; rw [hxe, hu]; exact id
 have bad1 (h : r = false) : Ev (fun k => impl_GoodNodes.j1 k l xs (i : Int) l (l.length : Int) (i : Int) true n0 u ats tx) r := by
  rw [h]; exact Ev.step (fun k => impl_GoodNodes.j1.eq_2 ..) (ev_if_pos rfl (Ev.now _))
 have bad3 (h : r = false) : Ev (fun k => impl_GoodNodes.j3 k l xs (i : Int) l (l.length : Int) (i : Int) true n0 u ats tx) r := by
  rw [h]; exact Ev.step (fun k => impl_GoodNodes.j3.eq_2 ..) (ev_if_pos rfl (Ev.now _))
 have hup : upOf l i = u := hu
 have tail (c3 : attrsOk ats = true) (cE : B n0 = [] → ats.length = 0 ∧ ¬ B tx = [] ∧ textOk (B tx) = true) (cN : ¬ B n0 = [] → isNameL (B n0) = true ∧ B tx = []) :
   Ev (fun k => impl_GoodNodes.j2 k l xs (i : Int) l (l.length : Int) (i : Int) n0 u ats tx) r := by
  refine Ev.step (fun k => impl_GoodNodes.j2.eq_2 ..) ?_
  by_cases hz : i = 0
  ·refine ev_if_pos (by omega) ?_
   by_cases cn : B n0 = []
   ·rw [hno1 fun h => by have := ((un h).2.2.2.1 cn).1; omega]
    exact ev_if_pos (by rw [toList_B]; exact cn) (Ev.now _)
   ·refine ev_if_neg (by rw [toList_B]; exact cn) ?_
    by_cases cu : u = -1
    ·refine ev_if_pos cu (ev_if_pos (by omega) ?_)
     rw [wrap_id (x := (i : Int) + 1) (by omega) (by omega), cast_succ]
     have hd : depth l (0 + 1) ((0 : Nat) : Int) = 1 := by
      have hu2 : upOf l ((0 : Nat) : Int).toNat = -1 := by show upOf l 0 = -1; rw [← hz, hu]; exact cu
      rw [depth, if_neg (by omega), hu2, depth]
     refine hyes (nu ⟨.inl ⟨hz, by rw [hu]; exact cu⟩, c3, fun h => by omega, fun h => absurd h cn, fun h => ⟨(cN h).1, (cN h).2, ?_⟩⟩) _ (by rw [List.length_set]; exact hxl) (fun j hj => ?_)
     ·rw [hz, hd]; omega
     ·obtain rfl : j = 0 := by omega
      rw [hd]
      show (xs.set 0 1).getD 0 0 = 1
      rw [List.getD_eq_getElem?_getD, List.getElem?_set_self (by omega)]; rfl
    ·rw [hno1 fun h => cu (by rcases (un h).1 with ⟨_, h2⟩ | ⟨h2, _⟩; rw [hu] at h2; exact h2; omega)]
     exact ev_if_neg cu (Ev.now _)
  ·refine ev_if_neg (by omega) (ev_bind0 (impl_within_eq _ _ _) ?_)
   rw [wrap_id (x := (i : Int) - 1) (by omega) (by omega)]
   by_cases c1 : 0 ≤ u ∧ u ≤ (i : Int) - 1
   rotate_left
   ·exact ev_if_neg (by rw [decide_eq_false c1]; decide) (bad3 (hno1 fun h => c1 (by rcases (un h).1 with ⟨h1, _⟩ | ⟨h1, h2, h3⟩; omega; rw [hu] at h2 h3; omega)))
   have c2 : UpOk l i := .inr ⟨by omega, by rw [hu]; exact c1.1, by rw [hu]; omega⟩
   have prev' : ∀ j, j < i + 1 → UpOk l j := fun j hj => by
    by_cases h : j = i
    ·rw [h]; exact c2
    ·exact prev j (by omega)
   refine ev_if_pos (decide_eq_true c1) (ev_if_pos c1.1 (ev_if_pos (by omega) ?_))
   rw [rd_nodeI]
   by_cases c4 : B (nodeAt l u.toNat).f0 = []
   ·exact ev_if_pos (by rw [toList_B]; exact c4) (bad3 (hno1 fun h => ((un h).2.2.1 (by omega)).2 c4))
   refine ev_if_neg (by rw [toList_B]; exact c4) (ev_bind (show Ev (fun k => impl_isAround.f k l u ((i : Int) - 1)) _ from impl_isAround_l0 l i (by omega) prev u i ((i : Int) - 1) (by omega) (by omega)) ?_)
   by_cases c5 : around l u i ((i : Int) - 1) = true
   rotate_left
   ·rw [Bool.eq_false_iff.mpr c5]; exact bad3 (hno1 fun h => c5 ((un h).2.2.1 (by omega)).1)
   rw [c5]
   refine Ev.step (fun k => impl_GoodNodes.j3.eq_2 ..) (ev_if_neg (by decide) ?_)
   have hdu : depth l (i + 1) (i : Int) = depth l (u.toNat + 1) u + 1 := by
    have hu2 : upOf l ((i : Nat) : Int).toNat = u := by show upOf l i = u; exact hu
    rw [depth, if_neg (by omega), hu2, depth_fuel l (i + 1) prev' i (u.toNat + 1) u (by omega) (by omega) (by omega)]
   have hxu : rd xs u = ((depth l (u.toNat + 1) u : Nat) : Int) := by
    have := hxs u.toNat (by omega)
    rw [show ((u.toNat : Nat) : Int) = u by omega] at this
    exact this
   have hdl := depth_le l (u.toNat + 1) u
   have fin (cX : B n0 = [] → ¬ (B (nodeAt l (i - 1)).f0 = [] ∧ upOf l (i - 1) = u)) : Ev (fun k => impl_GoodNodes.j4 k l xs (i : Int) l (l.length : Int) (i : Int) false n0 u ats tx) r := by
    refine Ev.step (fun k => impl_GoodNodes.j4.eq_2 ..) (ev_if_neg (by decide) (ev_if_pos c1.1 (ev_if_pos (by omega) (ev_if_pos (by omega) (ev_if_pos (by omega) (ev_bind0 rfl ?_))))))
    rw [hxu, Int.toNat_natCast, wrap_id (x := ((depth l (u.toNat + 1) u : Nat) : Int) + 1) (by omega) (by omega), cast_succ, ← hdu, wrap_id (x := (i : Int) + 1) (by omega) (by omega), cast_succ]
    have hys : ∀ j, j < i + 1 → (xs.set i ((depth l (i + 1) (i : Int) : Nat) : Int)).getD j 0 = ((depth l (j + 1) (j : Int) : Nat) : Int) := by
     intro j hj
     by_cases h : j = i
     ·subst h; rw [List.getD_eq_getElem?_getD, List.getElem?_set_self (by omega)]; rfl
     ·rw [List.getD_eq_getElem?_getD, List.getElem?_set_ne (by omega), ← List.getD_eq_getElem?_getD]; exact hxs j (by omega)
    by_cases cn : B n0 = []
    ·refine ev_if_pos (by rw [toList_B]; exact cn) ?_
     exact hyes (nu ⟨c2, c3, fun _ => ⟨c5, c4⟩, fun h => ⟨by omega, (cE h).1, (cE h).2.1, (cE h).2.2, cX h⟩, fun h => absurd cn h⟩) _ (by rw [List.length_set]; exact hxl) hys
    ·refine ev_if_neg (by rw [toList_B]; exact cn) ?_
     have hrd : rd (xs.set i ((depth l (i + 1) (i : Int) : Nat) : Int)) (i : Int) = ((depth l (i + 1) (i : Int) : Nat) : Int) := by rw [rd_nat]; exact hys i (by omega)
     rw [hrd]
     by_cases e3 : depth l (i + 1) (i : Int) ≤ 10
     ·exact ev_if_neg (by omega) (hyes (nu ⟨c2, c3, fun _ => ⟨c5, c4⟩, fun h => absurd h cn, fun h => ⟨(cN h).1, (cN h).2, e3⟩⟩) _ (by rw [List.length_set]; exact hxl) hys)
     ·rw [hno1 fun h => e3 ((un h).2.2.2.2 cn).2.2]
      exact ev_if_pos (by omega) (Ev.now _)
   by_cases cn : B n0 = []
   ·refine ev_if_pos (by rw [toList_B]; exact cn) ?_
    rw [wrap_id (x := (i : Int) - 1) (by omega) (by omega)]
    refine ev_if_pos (by omega) (ev_if_pos (by omega) ?_)
    rw [show (i : Int) - 1 = ((i - 1 : Nat) : Int) by omega, rd_node]
    by_cases e5 : B (nodeAt l (i - 1)).f0 = []
    ·refine ev_if_pos (by rw [toList_B]; exact e5) ?_
     by_cases e6 : upOf l (i - 1) = u
     ·rw [show ((nodeAt l (i - 1)).f1 == u) = true from beq_iff_eq.mpr e6, hno1 fun h => ((un h).2.2.2.1 cn).2.2.2.2 ⟨e5, e6⟩]
      exact Ev.step (fun k => impl_GoodNodes.j4.eq_2 ..) (ev_if_pos rfl (Ev.now _))
     ·rw [show ((nodeAt l (i - 1)).f1 == u) = false from beq_eq_false_iff_ne.mpr e6]
      exact fin (fun _ h => e6 h.2)
    ·exact ev_if_neg (by rw [toList_B]; exact e5) (fin (fun _ h => e5 h.1))
   ·exact ev_if_neg (by rw [toList_B]; exact cn) (fin (fun h => absurd h cn))
 refine Ev.step (fun k => impl_GoodNodes.l0.eq_2 ..) (ev_if_pos (by omega) (ev_if_pos (by omega) (ev_if_pos (by omega) ?_)))
 rw [rd_node, hxe]
 dsimp only
 by_cases cn : B n0 = []
 ·refine ev_if_pos (by rw [toList_B]; exact cn) ?_
  by_cases e3 : B tx = []
  ·exact ev_if_pos (by rw [toList_B]; exact e3) (bad1 (hno1 fun h => ((un h).2.2.2.1 cn).2.2.1 e3))
  refine ev_if_neg (by rw [toList_B]; exact e3) ?_
  by_cases e2 : ats.length = 0
  rotate_left
  ·exact ev_if_pos (by omega) (bad1 (hno1 fun h => e2 ((un h).2.2.2.1 cn).2.1))
  refine ev_if_neg (by omega) (ev_bind (impl_badByte_ev tx z3) ?_)
  rw [bad_dec]
  by_cases e4 : textOk (B tx) = true
  rotate_left
  ·rw [Bool.eq_false_iff.mpr e4]; exact bad1 (hno1 fun h => e4 ((un h).2.2.2.1 cn).2.2.2.1)
  rw [e4]
  refine Ev.step (fun k => impl_GoodNodes.j1.eq_2 ..) (ev_if_neg (by decide) (ev_if_pos (by rw [toList_B]; exact cn) (tail ?_ (fun _ => ⟨e2, e3, e4⟩) (fun h => absurd cn h))))
  obtain rfl := List.length_eq_zero_iff.mp e2
  rfl
 ·refine ev_if_neg (by rw [toList_B]; exact cn) (Ev.step (fun k => impl_GoodNodes.j1.eq_2 ..) (ev_if_neg (by decide) (ev_if_neg (by rw [toList_B]; exact cn) (ev_bind (impl_isName_ev n0 z0) ?_))))
  by_cases e1 : isNameL (B n0) = true
  rotate_left
  ·rw [hno1 fun h => e1 ((un h).2.2.2.2 cn).1]
   exact ev_if_neg e1 (Ev.now _)
  refine ev_if_pos e1 ?_
  by_cases e2 : B tx = []
  rotate_left
  ·rw [hno1 fun h => e2 ((un h).2.2.2.2 cn).2.1]
   exact ev_if_neg (by rw [toList_B]; exact e2) (Ev.now _)
  refine ev_if_pos (by rw [toList_B]; exact e2) (ev_bind (impl_areAttrs_ev ats ⟨z2, z2'⟩) ?_)
  by_cases c3 : attrsOk ats = true
  rotate_left
  ·rw [hno1 fun h => c3 (un h).2.1]
   exact ev_if_neg c3 (Ev.now _)
  exact ev_if_pos c3 (tail c3 (fun h => absurd h cn) (fun _ => ⟨e1, e2⟩))
theorem nodes_both (l : List S40) (hl : l.length ≤ 60) (hsz : ∀ x ∈ l, sizesNode x) : ∀ (c i : Nat) (xs : List Int), i + c = l.length → (∀ j, j < i → NodeOk l j) → xs.length = l.length → (∀ j, j < i → xs.getD j 0 = ((depth l (j + 1) (j : Int) : Nat) : Int)) →
  ∃ r, Ev (fun k => spec_GoodNodes.l0 k l l (l.length : Int) (i : Int)) r ∧ Ev (fun k => impl_GoodNodes.l0 k l xs l (l.length : Int) (i : Int)) r ∧ (r = true → ∀ j, j < l.length → NodeOk l j) := by
 intro c
 induction c with
 | zero =>
  intro i xs hc hp hx1 hx2
  exact ⟨true, Ev.step (fun k => spec_GoodNodes.l0.eq_2 ..) (ev_if_neg (by omega) (Ev.now _)), Ev.step (fun k => impl_GoodNodes.l0.eq_2 ..) (ev_if_neg (by omega) (Ev.now _)), fun _ j hj => hp j (by omega)⟩
 | succ c ih =>
  intro i xs hc hp hx1 hx2
  have prev : ∀ j, j < i → UpOk l j := fun j hj => (hp j hj).1
  by_cases h : NodeOk l i
  ·have hp' : ∀ j, j < i + 1 → NodeOk l j := fun j hj => by
    by_cases he : j = i
    ·rw [he]; exact h
    ·exact hp j (by omega)
   obtain ⟨r, g1, _, g3⟩ := ih (i + 1) ((List.range l.length).map fun j => ((depth l (j + 1) (j : Int) : Nat) : Int)) (by omega) hp' (by simp) (fun j hj => by simp [show j < l.length by omega])
   refine ⟨r, spec_node l hl hsz i (by omega) prev r (fun _ => g1) (fun hn => absurd h hn), impl_node l hl hsz i (by omega) prev xs hx1 hx2 r (fun _ ys hy1 hy2 => ?_) (fun hn => absurd h hn), g3⟩
   obtain ⟨r', f1, f2, _⟩ := ih (i + 1) ys (by omega) hp' hy1 hy2
   rw [ev_unique g1 f1]; exact f2
  ·exact ⟨false, spec_node l hl hsz i (by omega) prev false (fun hy => absurd hy h) (fun _ => rfl), impl_node l hl hsz i (by omega) prev xs hx1 hx2 false (fun hy => absurd hy h) (fun _ => rfl), fun hf => by cases hf⟩
theorem GoodNodes_both (l : List S40) (hn : l.length ≤ 1048576) (hsz : ∀ x ∈ l, sizesNode x) : ∃ r, Ev (fun k => spec_GoodNodes.f k l) r ∧ Ev (fun k => impl_GoodNodes.f k l) r ∧ (r = true → (1 ≤ l.length ∧ l.length ≤ 60) ∧ ∀ j, j < l.length → NodeOk l j) := by
 simp only [spec_GoodNodes.f, impl_GoodNodes.f]
 by_cases h : 1 ≤ l.length ∧ l.length ≤ 60
 ·obtain ⟨r, g1, g2, g3⟩ := nodes_both l h.2 hsz l.length 0 (List.replicate l.length 0) (by omega) (fun j hj => by omega) (by simp) (fun j hj => by omega)
  exact ⟨r, ev_bind0 (spec_l1In_eq _ _ _) (ev_if_pos (decide_eq_true (by omega)) g1), ev_bind0 (impl_within_eq _ _ _) (ev_if_pos (decide_eq_true (by omega)) (ev_if_pos (by omega) (ev_if_pos (by omega) g2))), fun hr => ⟨h, g3 hr⟩⟩
 ·exact ⟨false, ev_bind0 (spec_l1In_eq _ _ _) (ev_if_neg (by rw [decide_eq_false (by omega)]; decide) (Ev.now _)), ev_bind0 (impl_within_eq _ _ _) (ev_if_neg (by rw [decide_eq_false (by omega)]; decide) (Ev.now _)), fun hf => by cases hf⟩
theorem around_low (l : List S40) (prev : ∀ j, j < l.length → UpOk l j) (u : Int) : ∀ (n : Nat) (a : Int), a < u → a < (l.length : Int) → around l u n a = false := by
 intro n
 induction n with
 | zero => intro a h1 h2; rfl
 | succ n ih =>
  intro a h1 h2
  rw [around]
  by_cases ha : a < 0
  ·rw [if_pos ha]
  ·have hlt := (prev a.toNat (by omega)).lt
   rw [if_neg ha, if_neg (by omega)]
   exact ih _ (by omega) (by omega)
theorem under_l1 (l : List S40) (hl : l.length ≤ 60) (prev : ∀ j, j < l.length → UpOk l j) (u : Int) (hu : 0 ≤ u) (out : ByteArray) (ho : out.size ≤ 100000000) (i : Nat) (hi : i < l.length) (ht : (nodeAt l i).f3.size ≤ 1048576) (r : ByteArray) : ∀ (n : Nat) (a : Int), a < (n : Int) → a < (l.length : Int) →
  (around l u n a = true → Ev (fun k => spec_l4Under.l0 k l u (out ++ (nodeAt l i).f3) ((i + 1 : Nat) : Int)) r) → (around l u n a = false → Ev (fun k => spec_l4Under.l0 k l u out ((i + 1 : Nat) : Int)) r) →
  Ev (fun k => spec_l4Under.l1 k l u out (i : Int) a) r := by
 have nx : ∀ o : ByteArray, Ev (fun k => spec_l4Under.l0 k l u o ((i + 1 : Nat) : Int)) r → Ev (fun k => spec_l4Under.l0 k l u o (wrap64 ((i : Int) + 1))) r := fun o h => by
  rw [wrap_id (x := (i : Int) + 1) (by omega) (by omega), cast_succ]; exact h
 intro n
 induction n with
 | zero =>
  intro a h1 h2 g1 g2
  exact Ev.step (fun k => spec_l4Under.l1.eq_2 ..) (ev_if_neg (by omega) (ev_if_neg (by omega) (nx _ (g2 rfl))))
 | succ n ih =>
  intro a h1 h2 g1 g2
  by_cases hau : a > u
  ·have hlt := (prev a.toNat (by omega)).lt
   rw [around, if_neg (by omega), if_neg (by omega)] at g1 g2
   exact Ev.step (fun k => spec_l4Under.l1.eq_2 ..) (ev_if_pos hau (ev_if_pos (by omega) (ev_if_pos (by omega) (ih (upOf l a.toNat) (by omega) (by omega) g1 g2))))
  ·by_cases he : a = u
   ·rw [around, if_neg (by omega), if_pos he] at g1
    refine Ev.step (fun k => spec_l4Under.l1.eq_2 ..) (ev_if_neg hau (ev_if_pos he (ev_if_pos (by omega) (ev_if_pos (by omega) ?_))))
    rw [rd_node]
    exact ev_if_pos (by omega) (nx _ (g1 rfl))
   ·exact Ev.step (fun k => spec_l4Under.l1.eq_2 ..) (ev_if_neg hau (ev_if_neg he (nx _ (g2 (around_low l prev u (n + 1) a (by omega) h2)))))
theorem size_app (a b : ByteArray) : (a ++ b).size = a.size + b.size := by rw [← B_len, ← B_len, ← B_len, B_append, List.length_append]
theorem impl_under_step (l : List S40) (hl : l.length ≤ 60) (prev : ∀ j, j < l.length → UpOk l j) (u : Int) (out : ByteArray) (ho : out.size ≤ 100000000) (i : Nat) (hi : i < l.length) (ht : (nodeAt l i).f3.size ≤ 1048576) (r : ByteArray × Bool)
  (g1 : around l u (l.length + 1) (i : Int) = true → Ev (fun k => impl_TextUnder.l0 k l u (out ++ (nodeAt l i).f3) l (l.length : Int) ((i + 1 : Nat) : Int)) r) (g2 : around l u (l.length + 1) (i : Int) = false → Ev (fun k => impl_TextUnder.l0 k l u out l (l.length : Int) ((i + 1 : Nat) : Int)) r) :
  Ev (fun k => impl_TextUnder.l0 k l u out l (l.length : Int) (i : Int)) r := by
 refine Ev.step (fun k => impl_TextUnder.l0.eq_2 ..) (ev_if_pos (by omega) (ev_if_pos (by omega) (ev_if_pos (by omega) ?_)))
 refine ev_bind (show Ev (fun k => impl_isAround.f k l u (i : Int)) _ from impl_isAround_l0 l l.length (by omega) prev u (l.length + 1) (i : Int) (by omega) (by omega)) ?_
 rw [rd_node, wrap_id (x := (i : Int) + 1) (by omega) (by omega), cast_succ]
 cases ha : around l u (l.length + 1) (i : Int) with
 | true => exact ev_if_pos rfl (ev_if_pos (by omega) (g1 ha))
 | false => exact ev_if_neg (by decide) (g2 ha)
def txtFrom (l : List S40) (i : Nat) : Nat := ((l.drop i).map fun x => x.f3.size).sum
theorem txtFrom_step (l : List S40) (i : Nat) (hi : i < l.length) : txtFrom l i = (nodeAt l i).f3.size + txtFrom l (i + 1) := by
 unfold txtFrom nodeAt
 rw [drop_cons l z40 i hi, List.map_cons, List.sum_cons]
theorem txtFrom_le (l : List S40) : ∀ (i : Nat), i ≤ l.length → txtFrom l i ≤ txtFrom l 0 := by
 intro i
 induction i with
 | zero => intro _; exact Nat.le_refl _
 | succ i ih =>
  intro h
  have := ih (by omega)
  have := txtFrom_step l i (by omega)
  omega
theorem under_both (l : List S40) (hl : l.length ≤ 60) (hsz : ∀ x ∈ l, sizesNode x) (prev : ∀ j, j < l.length → UpOk l j) (u : Int) (hu : 0 ≤ u) : ∀ (c i : Nat) (out : ByteArray), i + c = l.length → out.size ≤ i * 1048576 →
  ∃ r, Ev (fun k => spec_l4Under.l0 k l u out (i : Int)) r ∧ Ev (fun k => impl_TextUnder.l0 k l u out l (l.length : Int) (i : Int)) (r, true) ∧ r.size ≤ out.size + txtFrom l i := by
 intro c
 induction c with
 | zero =>
  intro i out hi ho
  exact ⟨out, Ev.step (fun k => spec_l4Under.l0.eq_2 ..) (ev_if_neg (by omega) (Ev.now _)), Ev.step (fun k => impl_TextUnder.l0.eq_2 ..) (ev_if_neg (by omega) (Ev.now _)), Nat.le_add_right _ _⟩
 | succ c ih =>
  intro i out hi ho
  have ht : (nodeAt l i).f3.size ≤ 1048576 := (hsz _ (node_mem l i (by omega))).2.2.2.2
  have hx := txtFrom_step l i (by omega)
  obtain ⟨out', h'⟩ : ∃ o, o = (if around l u (l.length + 1) (i : Int) = true then out ++ (nodeAt l i).f3 else out) := ⟨_, rfl⟩
  have hs := size_app out (nodeAt l i).f3
  have ho' : out'.size ≤ (i + 1) * 1048576 ∧ out'.size ≤ out.size + (nodeAt l i).f3.size := by
   rw [h']
   by_cases hc : around l u (l.length + 1) (i : Int) = true
   ·rw [if_pos hc]
    exact ⟨Nat.le_trans (Nat.le_of_eq hs) (by rw [Nat.succ_mul]; exact Nat.add_le_add ho ht), Nat.le_of_eq hs⟩
   ·rw [if_neg hc]; exact ⟨Nat.le_trans ho (Nat.mul_le_mul_right _ (Nat.le_succ i)), Nat.le_add_right _ _⟩
  have hob : out.size ≤ 100000000 := Nat.le_trans ho (Nat.le_trans (Nat.mul_le_mul_right 1048576 (show i ≤ 60 by omega)) (by decide))
  obtain ⟨r, g1, g2, g3⟩ := ih (i + 1) out' (by omega) ho'.1
  have g4 := ho'.2
  refine ⟨r, Ev.step (fun k => spec_l4Under.l0.eq_2 ..) (ev_if_pos (by omega) (under_l1 l hl prev u hu out hob i (by omega) ht r (l.length + 1) (i : Int) (by omega) (by omega) (fun h => ?_) (fun h => ?_))), impl_under_step l hl prev u out hob i (by omega) ht _ (fun h => ?_) (fun h => ?_), by omega⟩
  ·rw [if_pos h] at h'; rw [← h']; exact g1
  ·rw [if_neg (by rw [h]; decide)] at h'; rw [← h']; exact g1
  ·rw [if_pos h] at h'; rw [← h']; exact g2
  ·rw [if_neg (by rw [h]; decide)] at h'; rw [← h']; exact g2
theorem under_at (l : List S40) (hsz : ∀ x ∈ l, sizesNode x) (hl1 : 1 ≤ l.length) (hl : l.length ≤ 60) (hok : ∀ j, j < l.length → NodeOk l j) (h2 : Ev (fun k => impl_GoodNodes.f k l) true) (m : Nat) (hm : m < l.length) :
  ∃ r, Ev (fun k => spec_l4Under.f k l (m : Int)) r ∧ Ev (fun k => impl_TextUnder.f k l (m : Int)) (r, true) ∧ r.size ≤ txtFrom l 0 := by
 have prev : ∀ j, j < l.length → UpOk l j := fun j hj => (hok j hj).1
 have ht : (nodeAt l m).f3.size ≤ 1048576 := (hsz _ (node_mem l m hm)).2.2.2.2
 have hx := txtFrom_step l m hm
 have hx2 := txtFrom_le l m (by omega)
 obtain ⟨r, g1, g2, g3⟩ := under_both l hl hsz prev (m : Int) (by omega) (l.length - (m + 1)) (m + 1) (nodeAt l m).f3 (by omega) (by omega)
 refine ⟨r, ?_, ?_, by omega⟩
 ·simp only [spec_l4Under.f]
  refine ev_if_pos (by omega) (ev_if_pos (by omega) ?_)
  rw [rd_node, wrap_id (x := (m : Int) + 1) (by omega) (by omega), cast_succ]
  exact g1
 ·simp only [impl_TextUnder.f]
  refine ev_bind h2 (ev_if_pos rfl ?_)
  rw [wrap_id (x := (l.length : Int) - 1) (by omega) (by omega)]
  refine ev_bind0 (impl_within_eq _ _ _) ?_
  rw [decide_eq_true (show 0 ≤ (m : Int) ∧ (m : Int) ≤ (l.length : Int) - 1 by omega)]
  refine Ev.step (fun k => impl_TextUnder.j0.eq_2 ..) (ev_if_neg (by decide) ?_)
  have low : ∀ d i : Nat, i + d = m → Ev (fun k => impl_TextUnder.l0 k l (m : Int) (⟨#[]⟩ : ByteArray) l (l.length : Int) (i : Int)) (r, true) := by
   intro d
   induction d with
   | zero =>
    intro i hi
    obtain rfl : i = m := by omega
    refine impl_under_step l hl prev _ _ (by simp [ByteArray.size]) i (by omega) ht _ (fun _ => ?_) (fun h => ?_)
    ·have e : (⟨#[]⟩ : ByteArray) ++ (nodeAt l i).f3 = (nodeAt l i).f3 := B_ext (by rw [B_append]; rfl)
     rw [e]; exact g2
    ·rw [around, if_neg (by omega), if_pos rfl] at h; cases h
   | succ d ih =>
    intro i hi
    refine impl_under_step l hl prev _ _ (by simp [ByteArray.size]) i (by omega) (hsz _ (node_mem l i (by omega))).2.2.2.2 _ (fun h => ?_) (fun _ => ih (i + 1) (by omega))
    rw [around_low l prev (m : Int) _ (i : Int) (by omega) (by omega)] at h; cases h
  exact low m 0 (by omega)
theorem getD_drop0 (L : List UInt8) (i : Nat) : (L.drop i).getD 0 0 = L.getD i 0 := by
 rw [List.getD_eq_getElem?_getD, List.getD_eq_getElem?_getD, List.getElem?_drop, Nat.add_zero]
theorem runEnd_drop (p : UInt8 → Bool) (L : List UInt8) (i : Nat) : runEnd p L i = i + runEnd p (L.drop i) 0 := by
 unfold runEnd
 rw [List.drop_zero]; omega
theorem runL_le (L : List UInt8) : runL L ≤ L.length ∧ runL L ≤ 30 := by
 unfold runL
 have := runEnd_le wordU L 0 (by omega)
 split
 ·omega
 ·split
  ·omega
  ·split
   ·omega
   ·omega
theorem word_run (L : List UInt8) (i : Nat) : isWordL ((L.drop i).take (wordEndL L i - i)) = decide (0 < runL (L.drop i)) ∧ (0 < runL (L.drop i) → wordEndL L i = i + runL (L.drop i)) := by
 have hM := getD_drop0 L i
 have he := runEnd_drop wordU L i
 have hlen : (L.drop i).length = L.length - i := List.length_drop
 unfold wordEndL
 generalize hM2 : L.drop i = M at hM he hlen ⊢
 have ht : runEnd wordU M 0 = (M.takeWhile wordU).length := by unfold runEnd; rw [List.drop_zero]; omega
 by_cases hd : i < L.length ∧ digU (L.getD i 0) = true
 ·rw [if_pos hd, Nat.sub_self, List.take_zero]
  have hr : runL M = 0 := by
   unfold runL
   split
   ·rfl
   ·rw [if_pos (by rw [hM]; exact hd.2)]
  rw [hr]
  exact ⟨rfl, fun h => by omega⟩
 ·rw [if_neg hd, he]
  have hsub : i + runEnd wordU M 0 - i = runEnd wordU M 0 := by omega
  rw [hsub, ht]
  have htk : M.take (M.takeWhile wordU).length = M.takeWhile wordU := by
   have h := List.takeWhile_prefix wordU (l := M)
   exact (List.prefix_iff_eq_take.1 h).symm
  rw [htk]
  have hall : (M.takeWhile wordU).all wordU = true := List.all_takeWhile
  by_cases h0 : (M.takeWhile wordU).length = 0
  ·have hr : runL M = 0 := by unfold runL; rw [if_pos (by rw [ht]; exact h0)]
   rw [hr]
   refine ⟨?_, fun h => by omega⟩
   rw [List.length_eq_zero_iff.mp h0]; rfl
  ·have hg : (M.takeWhile wordU).getD 0 0 = M.getD 0 0 := by
    cases M with
    | nil => rfl
    | cons a M =>
     rw [List.takeWhile_cons] at h0 ⊢
     split at h0
     ·rename_i ha; rw [if_pos ha]; rfl
     ·simp at h0
   have hnd : digU (M.getD 0 0) = false := by
    cases hq : digU (M.getD 0 0) with
    | false => rfl
    | true =>
     exfalso
     refine hd ⟨?_, by rw [← hM]; exact hq⟩
     have := (List.takeWhile_sublist wordU (l := M)).length_le
     omega
   have hr : runL M = if (M.takeWhile wordU).length > 30 then 0 else (M.takeWhile wordU).length := by
    unfold runL
    rw [if_neg (by rw [ht]; exact h0), if_neg (by rw [hnd]; decide), ht]
   unfold isWordL
   rw [hg, hnd, hall, hr]
   by_cases h30 : (M.takeWhile wordU).length > 30
   ·rw [if_pos h30]
    exact ⟨by rw [decide_eq_false (by omega)]; rfl, fun h => by omega⟩
   ·rw [if_neg h30]
    exact ⟨by rw [decide_eq_true (by omega), decide_eq_true (by omega)]; rfl, fun _ => rfl⟩
theorem word_take (L : List UInt8) (i : Nat) (h : 0 < runL (L.drop i)) : isWordL ((L.drop i).take (runL (L.drop i))) = true := by
 have h1 := (word_run L i).1
 rw [(word_run L i).2 h, Nat.add_sub_cancel_left] at h1
 rw [h1, decide_eq_true h]
def cls (L : List UInt8) : Nat → Nat → List ByteArray → Option (List ByteArray)
 | 0, _, _ => none
 | m + 1, a, cs => if a < L.length then (if L.getD a 0 = 46 then (if runL (L.drop (a + 1)) = 0 then none else cls L m (a + 1 + runL (L.drop (a + 1))) (cs ++ [ofL ((L.drop (a + 1)).take (runL (L.drop (a + 1))))])) else none) else some cs
theorem cls_words (L : List UInt8) : ∀ (m a : Nat) (cs cs' : List ByteArray), cs.all (fun y => isWordL (B y)) = true → cls L m a cs = some cs' → cs'.all (fun y => isWordL (B y)) = true ∧ cs.length ≤ cs'.length := by
 intro m
 induction m with
 | zero => intro a cs cs' _ h; cases h
 | succ m ih =>
  intro a cs cs' hw h
  rw [cls] at h
  split at h
  ·split at h
   ·split at h
    ·cases h
    ·rename_i hr
     have := ih _ _ _ (by
      rw [List.all_append, hw, Bool.true_and]
      simp only [List.all_cons, List.all_nil, Bool.and_true, B_ofL]
      exact word_take L (a + 1) (by omega)) h
     rw [List.length_append, List.length_cons, List.length_nil] at this
     exact ⟨this.1, by omega⟩
   ·cases h
  ·injection h with h; subst h; exact ⟨hw, Nat.le_refl _⟩
def idP (L : List UInt8) (a : Nat) : Option (ByteArray × Nat) :=
 if a < L.length ∧ L.getD a 0 = 35 then (if runL (L.drop (a + 1)) = 0 then none else some (ofL ((L.drop (a + 1)).take (runL (L.drop (a + 1)))), a + 1 + runL (L.drop (a + 1)))) else some (⟨#[]⟩, a)
def headP (L : List UInt8) : ByteArray × Nat := if L.getD 0 0 = 42 then (⟨#[42]⟩, 1) else if 0 < runL L then (ofL (L.take (runL L)), runL L) else (⟨#[]⟩, 0)
def restP (L : List UInt8) (ty : ByteArray) (a : Nat) : Option S102 :=
 match idP L a with
 | none => none
 | some (id, b) => match cls L (L.length + 1) b [] with
  | none => none
  | some cs => if cs.length ≤ 4 then some ⟨ty, id, cs⟩ else none
def partP (L : List UInt8) : Option S102 := if L = [] then none else restP L (headP L).1 (headP L).2
def PartAns (p : Option S102) (v : ByteArray × ByteArray × List ByteArray × Bool) : Prop := (v.2.2.2 = true ∧ p = some ⟨v.1, v.2.1, v.2.2.1⟩) ∨ (v.2.2.2 = false ∧ p = none)
theorem byte_eq {c : UInt8} {n : Nat} (hn : n < 256) : ((c.toNat : Int) = (n : Int)) ↔ c = UInt8.ofNat n := u8_nat hn
theorem cls_len (L : List UInt8) : ∀ (m a : Nat) (cs cs' : List ByteArray), cls L m a cs = some cs' → cs.length ≤ cs'.length := by
 intro m
 induction m with
 | zero => intro a cs cs' h; cases h
 | succ m ih =>
  intro a cs cs' h
  rw [cls] at h
  split at h
  ·split at h
   ·split at h
    ·cases h
    ·have := ih _ _ _ h
     rw [List.length_append, List.length_cons, List.length_nil] at this
     omega
   ·cases h
  ·injection h with h; subst h; exact Nat.le_refl _
theorem ext_take (s : ByteArray) (a r : Nat) : s.extract a (a + r) = ofL (((B s).drop a).take r) := B_ext (by rw [B_extract, B_ofL, Nat.add_sub_cancel_left])
theorem ext_end (s : ByteArray) (a : Nat) : B (s.extract a s.size) = (B s).drop a := by
 rw [B_extract, List.take_of_length_le (by rw [List.length_drop, B_len]; omega)]
theorem spec_cls (s : ByteArray) (hs : s.size ≤ 1048576) (ty id : ByteArray) : ∀ (m a : Nat) (cs : List ByteArray), (B s).length < a + m → a ≤ (B s).length → cs.length ≤ 4 →
  ∃ v, Ev (fun k => spec_l5Part.l0 k s (a : Int) ty id cs) v ∧ ((v.2.2.2 = true ∧ v.1 = ty ∧ v.2.1 = id ∧ cls (B s) m a cs = some v.2.2.1 ∧ v.2.2.1.length ≤ 4) ∨ (v.2.2.2 = false ∧ ∀ cs', cls (B s) m a cs = some cs' → 4 < cs'.length)) := by
 have hB := B_len s
 have stop : ∀ (a : Nat) (cs : List ByteArray), Ev (fun k => spec_l5Part.j4 k s (a : Int) false ty id cs) (ty, id, cs, ((a : Int) == (s.size : Int))) := fun a cs => Ev.step (fun k => spec_l5Part.j4.eq_2 ..) (ev_if_neg (by decide) (Ev.now _))
 intro m
 induction m with
 | zero => intro a cs h1 h2; omega
 | succ m ih =>
  intro a cs h1 h2 h4
  rw [cls]
  by_cases ha : a < (B s).length
  ·rw [if_pos ha]
   by_cases hc : (B s).getD a 0 = 46
   ·rw [if_pos hc]
    have hrun := spec_l5Run_ev (s.extract (a + 1) s.size) (by have := B_len (s.extract (a + 1) s.size); rw [ext_end, List.length_drop] at this; omega)
    rw [ext_end] at hrun
    have hle := runL_le ((B s).drop (a + 1))
    rw [List.length_drop] at hle
    generalize hr : runL ((B s).drop (a + 1)) = r at hrun hle ⊢
    have w1 := Aside0.mk (show wrap64 ((a : Int) + 1) = ((a + 1 : Nat) : Int) from wrap_up ha (by omega))
    have w2 := Aside0.mk (show wrap64 (((a + 1 : Nat) : Int) + (r : Int)) = ((a + 1 + r : Nat) : Int) from by rw [wrap_id (by omega) (by omega)]; omega)
    have w3 := Aside0.mk (show wrap64 ((a : Int) + wrap64 (1 + (r : Int))) = ((a + 1 + r : Nat) : Int) from by rw [wrap_id (x := 1 + (r : Int)) (by omega) (by omega), wrap_id (by omega) (by omega)]; omega)
    have st : ∀ v, Ev (fun k => (spec_l5Run.f k (s.extract (a + 1) s.size)).bind fun t119 => (if t119 = 0 then (some (ty, id, cs, false)) else (if (cs.length : Int) = 4 then (some (ty, id, cs, false)) else (if ((a + 1 : Nat) : Int) ≤ (wrap64 (((a + 1 : Nat) : Int) + t119)) then (if (wrap64 (((a + 1 : Nat) : Int) + t119)) ≤ (s.size : Int) then (if cs.length < 8796093022208 then (spec_l5Part.l0 k s (wrap64 ((a : Int) + (wrap64 (1 + t119)))) ty id (cs ++ [s.extract (((a + 1 : Nat) : Int) : Int).toNat ((wrap64 (((a + 1 : Nat) : Int) + t119)) : Int).toNat])) else (none)) else (none)) else (none))))) v → Ev (fun k => spec_l5Part.l0 k s (a : Int) ty id cs) v := by
     intro v hv
     refine Ev.step (fun k => spec_l5Part.l0.eq_2 ..) (ev_if_pos (by omega) (ev_if_pos (by omega) ?_))
     rw [bt_U s a ha, hc]
     refine Ev.step (fun k => spec_l5Part.j4.eq_2 ..) (ev_if_pos (by decide) ?_)
     rw [w1.out]
     exact ev_if_pos (by omega) (ev_if_pos (by omega) hv)
    by_cases hr0 : r = 0
    ·refine ⟨(ty, id, cs, false), st _ (ev_bind hrun (ev_if_pos (by omega) (Ev.now _))), .inr ⟨rfl, fun cs' h => ?_⟩⟩
     rw [if_pos hr0] at h; cases h
    ·rw [if_neg hr0]
     by_cases hc4 : cs.length = 4
     ·refine ⟨(ty, id, cs, false), st _ (ev_bind hrun (ev_if_neg (by omega) (ev_if_pos (by omega) (Ev.now _)))), .inr ⟨rfl, fun cs' h => ?_⟩⟩
      have := cls_len _ _ _ _ _ h
      rw [List.length_append, List.length_cons, List.length_nil] at this
      omega
     ·obtain ⟨v, e, h⟩ := ih (a + 1 + r) (cs ++ [ofL (((B s).drop (a + 1)).take r)]) (by omega) (by omega) (by rw [List.length_append, List.length_cons, List.length_nil]; omega)
      refine ⟨v, st v (ev_bind hrun (ev_if_neg (by omega) (ev_if_neg (by omega) ?_))), h⟩
      rw [w2.out, w3.out, Int.toNat_natCast, Int.toNat_natCast, ext_take]
      exact ev_if_pos (by omega) (ev_if_pos (by omega) (ev_if_pos (by omega) e))
   ·rw [if_neg hc]
    refine ⟨(ty, id, cs, ((a : Int) == (s.size : Int))), ?_, .inr ⟨beq_eq_false_iff_ne.mpr (by omega), fun cs' h => by cases h⟩⟩
    refine Ev.step (fun k => spec_l5Part.l0.eq_2 ..) (ev_if_pos (by omega) (ev_if_pos (by omega) ?_))
    rw [bt_U s a ha, show ((((B s).getD a 0).toNat : Int) == 46) = false from beq_eq_false_iff_ne.mpr (fun h => hc ((byte_eq (n := 46) (by omega)).1 h))]
    exact stop a cs
  ·rw [if_neg ha]
   refine ⟨(ty, id, cs, ((a : Int) == (s.size : Int))), Ev.step (fun k => spec_l5Part.l0.eq_2 ..) (ev_if_neg (by omega) (stop a cs)), .inl ⟨beq_iff_eq.mpr (by omega), rfl, rfl, rfl, h4⟩⟩
theorem spec_rest (s : ByteArray) (hs : s.size ≤ 1048576) (ty : ByteArray) (a : Nat) (ha : a ≤ (B s).length) : ∃ v, Ev (fun k => spec_l5Part.j0 k s (a : Int) ty (⟨#[]⟩ : ByteArray)) v ∧ PartAns (restP (B s) ty a) v := by
 have hB := B_len s
 have fin : ∀ (id : ByteArray) (b : Nat), b ≤ (B s).length → ∃ v, Ev (fun k => spec_l5Part.j2 k s (b : Int) ty id) v ∧ PartAns (match cls (B s) ((B s).length + 1) b [] with | none => none | some cs => if cs.length ≤ 4 then some ⟨ty, id, cs⟩ else none) v := by
  intro id b hb
  obtain ⟨v, e, h⟩ := spec_cls s hs ty id ((B s).length + 1) b [] (by omega) hb (by simp)
  refine ⟨v, Ev.step (fun k => spec_l5Part.j2.eq_2 ..) e, ?_⟩
  rcases h with ⟨h1, h2, h3, h4, h5⟩ | ⟨h1, h2⟩
  ·refine .inl ⟨h1, ?_⟩
   rw [h4]
   simp only [if_pos h5, h2, h3]
  ·refine .inr ⟨h1, ?_⟩
   cases hc : cls (B s) ((B s).length + 1) b [] with
   | none => rfl
   | some cs => exact if_neg (by have := h2 cs hc; omega)
 unfold restP idP
 by_cases hc : a < (B s).length ∧ (B s).getD a 0 = 35
 ·rw [if_pos hc]
  obtain ⟨hal, hc⟩ := hc
  have hrun := spec_l5Run_ev (s.extract (a + 1) s.size) (by have := B_len (s.extract (a + 1) s.size); rw [ext_end, List.length_drop] at this; omega)
  rw [ext_end] at hrun
  have hle := runL_le ((B s).drop (a + 1))
  rw [List.length_drop] at hle
  generalize hr : runL ((B s).drop (a + 1)) = r at hrun hle ⊢
  have w1 := Aside0.mk (show wrap64 ((a : Int) + 1) = ((a + 1 : Nat) : Int) from wrap_up hal (by omega))
  have w2 := Aside0.mk (show wrap64 (((a + 1 : Nat) : Int) + (r : Int)) = ((a + 1 + r : Nat) : Int) from by rw [wrap_id (by omega) (by omega)]; omega)
  have w3 := Aside0.mk (show wrap64 ((a : Int) + wrap64 (1 + (r : Int))) = ((a + 1 + r : Nat) : Int) from by rw [wrap_id (x := 1 + (r : Int)) (by omega) (by omega), wrap_id (by omega) (by omega)]; omega)
  have st : ∀ v, Ev (fun k => (spec_l5Run.f k (s.extract (a + 1) s.size)).bind fun t118 => (if t118 = 0 then (some (ty, (⟨#[]⟩ : ByteArray), ([] : List ByteArray), false)) else (if ((a + 1 : Nat) : Int) ≤ (wrap64 (((a + 1 : Nat) : Int) + t118)) then (if (wrap64 (((a + 1 : Nat) : Int) + t118)) ≤ (s.size : Int) then (spec_l5Part.j2 k s (wrap64 ((a : Int) + (wrap64 (1 + t118)))) ty (s.extract (((a + 1 : Nat) : Int) : Int).toNat ((wrap64 (((a + 1 : Nat) : Int) + t118)) : Int).toNat)) else (none)) else (none)))) v → Ev (fun k => spec_l5Part.j0 k s (a : Int) ty (⟨#[]⟩ : ByteArray)) v := by
   intro v hv
   refine Ev.step (fun k => spec_l5Part.j0.eq_2 ..) (ev_if_pos (by omega) (ev_if_pos (by omega) ?_))
   rw [bt_U s a hal, hc]
   refine Ev.step (fun k => spec_l5Part.j1.eq_2 ..) (ev_if_pos (by decide) ?_)
   rw [w1.out]
   exact ev_if_pos (by omega) (ev_if_pos (by omega) hv)
  by_cases hr0 : r = 0
  ·rw [if_pos hr0]
   exact ⟨_, st _ (ev_bind hrun (ev_if_pos (by omega) (Ev.now _))), .inr ⟨rfl, rfl⟩⟩
  ·rw [if_neg hr0]
   obtain ⟨v, e, h⟩ := fin (ofL (((B s).drop (a + 1)).take r)) (a + 1 + r) (by omega)
   refine ⟨v, st v (ev_bind hrun (ev_if_neg (by omega) ?_)), h⟩
   rw [w2.out, w3.out, Int.toNat_natCast, Int.toNat_natCast, ext_take]
   exact ev_if_pos (by omega) (ev_if_pos (by omega) e)
 ·rw [if_neg hc]
  obtain ⟨v, e, h⟩ := fin (⟨#[]⟩ : ByteArray) a ha
  refine ⟨v, ?_, h⟩
  have j1 : Ev (fun k => spec_l5Part.j1 k s (a : Int) false ty (⟨#[]⟩ : ByteArray)) v := Ev.step (fun k => spec_l5Part.j1.eq_2 ..) (ev_if_neg (by decide) e)
  by_cases hal : a < (B s).length
  ·refine Ev.step (fun k => spec_l5Part.j0.eq_2 ..) (ev_if_pos (by omega) (ev_if_pos (by omega) ?_))
   rw [bt_U s a hal, show ((((B s).getD a 0).toNat : Int) == 35) = false from beq_eq_false_iff_ne.mpr (fun h => hc ⟨hal, (byte_eq (n := 35) (by omega)).1 h⟩)]
   exact j1
  ·exact Ev.step (fun k => spec_l5Part.j0.eq_2 ..) (ev_if_neg (by omega) j1)
theorem spec_l5Part_ev (s : ByteArray) (hs : s.size ≤ 1048576) : ∃ v, Ev (fun k => spec_l5Part.f k s) v ∧ PartAns (partP (B s)) v := by
 have hB := B_len s
 simp only [spec_l5Part.f]
 unfold partP
 by_cases h0 : B s = []
 ·rw [if_pos h0]
  exact ⟨_, ev_if_pos (by rw [toList_B]; exact h0) (Ev.now _), .inr ⟨rfl, rfl⟩⟩
 ·rw [if_neg h0]
  have hpos : 0 < (B s).length := List.length_pos_iff.2 h0
  have hb : bt s 0 = (((B s).getD 0 0).toNat : Int) := bt_U s 0 hpos
  unfold headP
  by_cases hc : (B s).getD 0 0 = 42
  ·rw [if_pos hc]
   obtain ⟨v, e, h⟩ := spec_rest s hs (⟨#[42]⟩ : ByteArray) 1 hpos
   refine ⟨v, ev_if_neg (by rw [toList_B]; exact h0) (ev_if_pos (by omega) ?_), h⟩
   rw [hb, hc]
   exact ev_if_pos rfl e
  ·rw [if_neg hc]
   have hrun := spec_l5Run_ev s (by omega)
   have hle := runL_le (B s)
   have st : ∀ v, Ev (fun k => ((spec_l5Run.f k s).bind fun t117 => (if t117 > 0 then (if 0 ≤ t117 then (if t117 ≤ (s.size : Int) then (spec_l5Part.j0 k s t117 (s.extract 0 (t117 : Int).toNat) (⟨#[]⟩ : ByteArray)) else (none)) else (none)) else (spec_l5Part.j0 k s 0 (⟨#[]⟩ : ByteArray) (⟨#[]⟩ : ByteArray))))) v → Ev (fun k => if s.toList = ([] : List UInt8) then (some ((⟨#[]⟩ : ByteArray), (⟨#[]⟩ : ByteArray), ([] : List ByteArray), false)) else (if 0 < (s.size : Int) then (if (bt s 0) = 42 then (spec_l5Part.j0 k s 1 (⟨#[42]⟩ : ByteArray) (⟨#[]⟩ : ByteArray)) else ((spec_l5Run.f k s).bind fun t117 => (if t117 > 0 then (if 0 ≤ t117 then (if t117 ≤ (s.size : Int) then (spec_l5Part.j0 k s t117 (s.extract 0 (t117 : Int).toNat) (⟨#[]⟩ : ByteArray)) else (none)) else (none)) else (spec_l5Part.j0 k s 0 (⟨#[]⟩ : ByteArray) (⟨#[]⟩ : ByteArray))))) else (none))) v := by
    intro v hv
    refine ev_if_neg (by rw [toList_B]; exact h0) (ev_if_pos (by omega) (ev_if_neg ?_ hv))
    rw [hb]
    exact fun h => hc ((byte_eq (n := 42) (by omega)).1 h)
   by_cases hr : 0 < runL (B s)
   ·rw [if_pos hr]
    obtain ⟨v, e, h⟩ := spec_rest s hs (ofL ((B s).take (runL (B s)))) (runL (B s)) hle.1
    refine ⟨v, st v (ev_bind hrun (ev_if_pos (by omega) (ev_if_pos (by omega) (ev_if_pos (by omega) ?_)))), h⟩
    have hx := ext_take s 0 (runL (B s))
    rw [Nat.zero_add, List.drop_zero] at hx
    rw [Int.toNat_natCast, hx]
    exact e
   ·rw [if_neg hr]
    obtain ⟨v, e, h⟩ := spec_rest s hs (⟨#[]⟩ : ByteArray) 0 (by omega)
    exact ⟨v, st v (ev_bind hrun (ev_if_neg (by omega) e)), h⟩
def noPart : ByteArray × ByteArray × List ByteArray × Bool := ((⟨#[]⟩ : ByteArray), (⟨#[]⟩ : ByteArray), ([] : List ByteArray), false)
theorem wordEndL_range (L : List UInt8) (i : Nat) (h : i ≤ L.length) : i ≤ wordEndL L i ∧ wordEndL L i ≤ L.length := by
 unfold wordEndL
 split
 ·omega
 ·exact ⟨runEnd_ge _ _ _, runEnd_le _ _ _ h⟩
theorem impl_part_step (s : ByteArray) (hs : s.size ≤ 1048576) (ty id : ByteArray) (a : Nat) (cs : List ByteArray) (ha : a < (B s).length) (hcs : cs.length ≤ 1048576) :
  (runL ((B s).drop (a + 1)) = 0 → Ev (fun k => impl_readPart.l0 k s (a : Int) ty id cs) noPart) ∧
  (0 < runL ((B s).drop (a + 1)) → (B s).getD a 0 = 35 → B id = [] → cs = [] → ∀ v, Ev (fun k => impl_readPart.l0 k s ((a + 1 + runL ((B s).drop (a + 1)) : Nat) : Int) ty (ofL (((B s).drop (a + 1)).take (runL ((B s).drop (a + 1))))) cs) v → Ev (fun k => impl_readPart.l0 k s (a : Int) ty id cs) v) ∧
  (0 < runL ((B s).drop (a + 1)) → (B s).getD a 0 = 46 → ∀ v, Ev (fun k => impl_readPart.l0 k s ((a + 1 + runL ((B s).drop (a + 1)) : Nat) : Int) ty id (cs ++ [ofL (((B s).drop (a + 1)).take (runL ((B s).drop (a + 1))))])) v → Ev (fun k => impl_readPart.l0 k s (a : Int) ty id cs) v) ∧
  (¬ (B s).getD a 0 = 46 → ¬ ((B s).getD a 0 = 35 ∧ B id = [] ∧ cs = []) → Ev (fun k => impl_readPart.l0 k s (a : Int) ty id cs) noPart) := by
 have hB := B_len s
 have hend := impl_wordEnd_ev s (by omega) (a + 1)
 obtain ⟨hw1, hw2⟩ := word_run (B s) (a + 1)
 have hrg := wordEndL_range (B s) (a + 1) (by omega)
 generalize wordEndL (B s) (a + 1) = e at hend hw1 hw2 hrg
 have w1 := Aside0.mk (show wrap64 ((a : Int) + 1) = ((a + 1 : Nat) : Int) from wrap_up ha (by omega))
 have hx : B (s.extract (a + 1) e) = ((B s).drop (a + 1)).take (e - (a + 1)) := B_extract _ _ _
 have hisw := impl_isWord_ev (s.extract (a + 1) e) (by have := B_len (s.extract (a + 1) e); rw [hx, List.length_take, List.length_drop] at this; omega)
 rw [hx, hw1] at hisw
 have hbt := bt_U s a ha
 generalize (B s).getD a 0 = c at hbt ⊢
 have st : ∀ v, Ev (fun k => (impl_isWord.f k (s.extract (a + 1) e)).bind fun t161 => (if t161 = true then (if 0 ≤ (a : Int) then (if (bt s (a : Int)) = 35 then (if id.toList = ([] : List UInt8) then (impl_readPart.j2 k s (a : Int) (e : Int) (s.extract (a + 1) e) ((cs.length : Int) == 0) ty id cs) else (impl_readPart.j2 k s (a : Int) (e : Int) (s.extract (a + 1) e) false ty id cs)) else (impl_readPart.j2 k s (a : Int) (e : Int) (s.extract (a + 1) e) false ty id cs)) else (none)) else (some ((⟨#[]⟩ : ByteArray), (⟨#[]⟩ : ByteArray), ([] : List ByteArray), false)))) v → Ev (fun k => impl_readPart.l0 k s (a : Int) ty id cs) v := by
  intro v hv
  refine Ev.step (fun k => impl_readPart.l0.eq_2 ..) (ev_if_pos (by omega) ?_)
  rw [w1.out]
  refine ev_bind hend ?_
  refine ev_if_pos (by omega) (ev_if_pos (by omega) (ev_if_pos (by omega) ?_))
  rw [Int.toNat_natCast, Int.toNat_natCast]
  exact hv
 have word : 0 < runL ((B s).drop (a + 1)) → e = a + 1 + runL ((B s).drop (a + 1)) ∧ s.extract (a + 1) e = ofL (((B s).drop (a + 1)).take (runL ((B s).drop (a + 1)))) := by
  intro h
  have he := hw2 h
  exact ⟨he, by rw [he]; exact ext_take _ _ _⟩
 have nojoin : ¬ c = 46 → Ev (fun k => impl_readPart.j2 k s (a : Int) (e : Int) (s.extract (a + 1) e) false ty id cs) noPart := by
  intro h
  refine Ev.step (fun k => impl_readPart.j2.eq_2 ..) (ev_if_neg (by decide) (ev_if_pos (by omega) (ev_if_pos (by omega) ?_)))
  rw [hbt]
  exact ev_if_neg (fun hh => h ((byte_eq (n := 46) (by omega)).1 hh)) (Ev.now _)
 refine ⟨fun h0 => ?_, fun hr hc hid hcs0 v hv => ?_, fun hr hc v hv => ?_, fun hc hno => ?_⟩
 ·refine st _ (ev_bind hisw ?_)
  rw [h0]
  exact ev_if_neg (by decide) (Ev.now _)
 ·refine st _ (ev_bind hisw (ev_if_pos (decide_eq_true hr) (ev_if_pos (by omega) ?_)))
  rw [hbt]
  refine ev_if_pos ((byte_eq (n := 35) (by omega)).2 hc) (ev_if_pos (by rw [toList_B]; exact hid) ?_)
  rw [hcs0] at hv ⊢
  refine Ev.step (fun k => impl_readPart.j2.eq_2 ..) (ev_if_pos rfl ?_)
  rw [(word hr).2, (word hr).1]
  exact hv
 ·refine st _ (ev_bind hisw (ev_if_pos (decide_eq_true hr) (ev_if_pos (by omega) ?_)))
  rw [hbt]
  refine ev_if_neg (fun hh => by have := (byte_eq (n := 35) (by omega)).1 hh; rw [hc] at this; exact absurd this (by decide)) ?_
  refine Ev.step (fun k => impl_readPart.j2.eq_2 ..) (ev_if_neg (by decide) (ev_if_pos (by omega) (ev_if_pos (by omega) ?_)))
  rw [hbt]
  refine ev_if_pos ((byte_eq (n := 46) (by omega)).2 hc) (ev_if_pos (by omega) ?_)
  rw [(word hr).2, (word hr).1]
  exact hv
 ·by_cases hr : 0 < runL ((B s).drop (a + 1))
  ·refine st _ (ev_bind hisw (ev_if_pos (decide_eq_true hr) (ev_if_pos (by omega) ?_)))
   rw [hbt]
   by_cases h35 : c = 35
   ·refine ev_if_pos ((byte_eq (n := 35) (by omega)).2 h35) ?_
    by_cases hid : B id = []
    ·refine ev_if_pos (by rw [toList_B]; exact hid) ?_
     have hne : ¬ cs = [] := fun h => hno ⟨h35, hid, h⟩
     rw [show ((cs.length : Int) == 0) = false from beq_eq_false_iff_ne.mpr (fun h => hne (List.length_eq_zero_iff.1 (by omega)))]
     exact nojoin hc
    ·exact ev_if_neg (by rw [toList_B]; exact hid) (nojoin hc)
   ·exact ev_if_neg (fun hh => h35 ((byte_eq (n := 35) (by omega)).1 hh)) (nojoin hc)
  ·refine st _ (ev_bind hisw ?_)
   rw [decide_eq_false hr]
   exact ev_if_neg (by decide) (Ev.now _)
theorem take_size (L : List UInt8) (a : Nat) (n : Nat) (h : L.length ≤ n) : (ofL ((L.drop a).take (runL (L.drop a)))).size ≤ n := by
 rw [← B_len, B_ofL, List.length_take, List.length_drop]; omega
theorem impl_cls (s : ByteArray) (hs : s.size ≤ 1048576) (ty id : ByteArray) (hty : ty.size ≤ 1048576) (hid : id.size ≤ 1048576) : ∀ (m a : Nat) (cs : List ByteArray), (B s).length < a + m → a ≤ (B s).length → cs.length ≤ a → (∀ y ∈ cs, y.size ≤ 1048576) → ¬ (a < (B s).length ∧ (B s).getD a 0 = 35 ∧ B id = [] ∧ cs = []) →
  ∃ v, Ev (fun k => impl_readPart.l0 k s (a : Int) ty id cs) v ∧ ((v.2.2.2 = true ∧ v.1 = ty ∧ v.2.1 = id ∧ cls (B s) m a cs = some v.2.2.1 ∧ partOk ⟨ty, id, v.2.2.1⟩ = true) ∨ (v.2.2.2 = false ∧ ∀ cs', cls (B s) m a cs = some cs' → partOk ⟨ty, id, cs'⟩ = false)) := by
 have hB := B_len s
 intro m
 induction m with
 | zero => intro a cs h1 h2; omega
 | succ m ih =>
  intro a cs h1 h2 h3 h4 hno
  rw [cls]
  by_cases ha : a < (B s).length
  ·rw [if_pos ha]
   obtain ⟨p0, _, p2, p3⟩ := impl_part_step s hs ty id a cs ha (by omega)
   by_cases hc : (B s).getD a 0 = 46
   ·rw [if_pos hc]
    by_cases hr : runL ((B s).drop (a + 1)) = 0
    ·rw [if_pos hr]
     exact ⟨noPart, p0 hr, .inr ⟨rfl, fun cs' h => by cases h⟩⟩
    ·rw [if_neg hr]
     have hle := runL_le ((B s).drop (a + 1))
     rw [List.length_drop] at hle
     obtain ⟨v, e, h⟩ := ih (a + 1 + runL ((B s).drop (a + 1))) (cs ++ [ofL (((B s).drop (a + 1)).take (runL ((B s).drop (a + 1))))]) (by omega) (by omega) (by rw [List.length_append, List.length_cons, List.length_nil]; omega) (fun y hy => by
      rcases List.mem_append.1 hy with hy | hy
      ·exact h4 y hy
      ·rw [List.mem_singleton.1 hy]; exact take_size (B s) (a + 1) _ (by omega)) (fun h => by have := h.2.2.2; simp at this)
     exact ⟨v, p2 (by omega) hc v e, h⟩
   ·rw [if_neg hc]
    exact ⟨noPart, p3 hc (fun h => hno ⟨ha, h⟩), .inr ⟨rfl, fun cs' h => by cases h⟩⟩
  ·rw [if_neg ha]
   have hp := impl_isPart_ev ⟨ty, id, cs⟩ ⟨hty, hid, by show cs.length ≤ _; omega, h4⟩
   refine ⟨(ty, id, cs, partOk ⟨ty, id, cs⟩), Ev.step (fun k => impl_readPart.l0.eq_2 ..) (ev_if_neg (by omega) (ev_bind hp (Ev.now _))), ?_⟩
   cases ho : partOk ⟨ty, id, cs⟩ with
   | true => exact .inl ⟨rfl, rfl, rfl, rfl, rfl⟩
   | false => exact .inr ⟨rfl, fun cs' h => by injection h with h; subst h; exact ho⟩
theorem impl_bad (s : ByteArray) (hs : s.size ≤ 1048576) (ty : ByteArray) (hty : ty.size ≤ 1048576) (hbad : typeOkL (B ty) = false) : ∀ (m a : Nat) (id : ByteArray) (cs : List ByteArray), (B s).length < a + m → a ≤ (B s).length → cs.length ≤ a → id.size ≤ 1048576 → (∀ y ∈ cs, y.size ≤ 1048576) →
  ∃ v, Ev (fun k => impl_readPart.l0 k s (a : Int) ty id cs) v ∧ v.2.2.2 = false := by
 have hB := B_len s
 intro m
 induction m with
 | zero => intro a id cs h1 h2; omega
 | succ m ih =>
  intro a id cs h1 h2 h3 h5 h4
  by_cases ha : a < (B s).length
  ·obtain ⟨p0, p1, p2, p3⟩ := impl_part_step s hs ty id a cs ha (by omega)
   have hle := runL_le ((B s).drop (a + 1))
   rw [List.length_drop] at hle
   by_cases hr : runL ((B s).drop (a + 1)) = 0
   ·exact ⟨noPart, p0 hr, rfl⟩
   ·by_cases hc : (B s).getD a 0 = 46
    ·obtain ⟨v, e, h⟩ := ih (a + 1 + runL ((B s).drop (a + 1))) id (cs ++ [ofL (((B s).drop (a + 1)).take (runL ((B s).drop (a + 1))))]) (by omega) (by omega) (by rw [List.length_append, List.length_cons, List.length_nil]; omega) h5 (fun y hy => by
      rcases List.mem_append.1 hy with hy | hy
      ·exact h4 y hy
      ·rw [List.mem_singleton.1 hy]; exact take_size (B s) (a + 1) _ (by omega))
     exact ⟨v, p2 (by omega) hc v e, h⟩
    ·by_cases hid : (B s).getD a 0 = 35 ∧ B id = [] ∧ cs = []
     ·obtain ⟨v, e, h⟩ := ih (a + 1 + runL ((B s).drop (a + 1))) (ofL (((B s).drop (a + 1)).take (runL ((B s).drop (a + 1))))) cs (by omega) (by omega) (by omega) (take_size (B s) (a + 1) _ (by omega)) h4
      exact ⟨v, p1 (by omega) hid.1 hid.2.1 hid.2.2 v e, h⟩
     ·exact ⟨noPart, p3 hc hid, rfl⟩
  ·have hp := impl_isPart_ev ⟨ty, id, cs⟩ ⟨hty, h5, by show cs.length ≤ _; omega, h4⟩
   refine ⟨(ty, id, cs, partOk ⟨ty, id, cs⟩), Ev.step (fun k => impl_readPart.l0.eq_2 ..) (ev_if_neg (by omega) (ev_bind hp (Ev.now _))), ?_⟩
   show partOk ⟨ty, id, cs⟩ = false
   unfold partOk
   rw [hbad]; rfl
theorem cls_pos (L : List UInt8) (m a : Nat) (cs cs' : List ByteArray) (ha : a < L.length) (h : cls L m a cs = some cs') : cs.length < cs'.length := by
 cases m with
 | zero => cases h
 | succ m =>
  rw [cls, if_pos ha] at h
  split at h
  ·split at h
   ·cases h
   ·have := cls_len _ _ _ _ _ h
    rw [List.length_append, List.length_cons, List.length_nil] at this
    omega
  ·cases h
theorem impl_rest (s : ByteArray) (hs : s.size ≤ 1048576) (ty : ByteArray) (hty : ty.size ≤ 1048576) (hok : typeOkL (B ty) = true) (a : Nat) (ha : a ≤ (B s).length) (hne : ¬ B ty = [] ∨ a < (B s).length) : ∃ v, Ev (fun k => impl_readPart.j0 k s (a : Int) ty (⟨#[]⟩ : ByteArray)) v ∧ PartAns (restP (B s) ty a) v := by
 have hB := B_len s
 have done : ∀ (id : ByteArray) (b : Nat) (v : ByteArray × ByteArray × List ByteArray × Bool), idOkL (B id) = true → (∀ cs, cls (B s) ((B s).length + 1) b [] = some cs → ¬ B ty = [] ∨ ¬ B id = [] ∨ 0 < cs.length) →
   ((v.2.2.2 = true ∧ v.1 = ty ∧ v.2.1 = id ∧ cls (B s) ((B s).length + 1) b [] = some v.2.2.1 ∧ partOk ⟨ty, id, v.2.2.1⟩ = true) ∨ (v.2.2.2 = false ∧ ∀ cs', cls (B s) ((B s).length + 1) b [] = some cs' → partOk ⟨ty, id, cs'⟩ = false)) →
   PartAns (match cls (B s) ((B s).length + 1) b [] with | none => none | some cs => if cs.length ≤ 4 then some ⟨ty, id, cs⟩ else none) v := by
  intro id b v hid hnz h
  have key : ∀ cs, cls (B s) ((B s).length + 1) b [] = some cs → partOk ⟨ty, id, cs⟩ = decide (cs.length ≤ 4) := by
   intro cs hcs
   have hw := (cls_words _ _ _ _ _ rfl hcs).1
   have hn := hnz cs hcs
   unfold partOk
   simp only
   rw [hok, hid, hw, Bool.true_and, Bool.true_and, Bool.and_true]
   have : (!decide (B ty = []) || !decide (B id = []) || decide (0 < cs.length)) = true := by
    rcases hn with hn | hn | hn
    ·rw [decide_eq_false hn]; rfl
    ·rw [decide_eq_false hn]; simp
    ·rw [decide_eq_true hn]; simp
   rw [this, Bool.and_true]
  rcases h with ⟨h1, h2, h3, h4, h5⟩ | ⟨h1, h2⟩
  ·refine .inl ⟨h1, ?_⟩
   have h6 := key _ h4
   rw [h5] at h6
   rw [h4]
   simp only [if_pos (of_decide_eq_true h6.symm), h2, h3]
  ·refine .inr ⟨h1, ?_⟩
   cases hc : cls (B s) ((B s).length + 1) b [] with
   | none => rfl
   | some cs =>
    have h6 := key cs hc
    rw [h2 cs hc] at h6
    exact if_neg (of_decide_eq_false h6.symm)
 unfold restP idP
 by_cases hc : a < (B s).length ∧ (B s).getD a 0 = 35
 ·rw [if_pos hc]
  obtain ⟨p0, p1, _, _⟩ := impl_part_step s hs ty (⟨#[]⟩ : ByteArray) a [] hc.1 (by simp)
  have hle := runL_le ((B s).drop (a + 1))
  rw [List.length_drop] at hle
  by_cases hr : runL ((B s).drop (a + 1)) = 0
  ·rw [if_pos hr]
   exact ⟨noPart, Ev.step (fun k => impl_readPart.j0.eq_2 ..) (p0 hr), .inr ⟨rfl, rfl⟩⟩
  ·rw [if_neg hr]
   have hw := word_take (B s) (a + 1) (by omega)
   have hwne : ¬ B (ofL (((B s).drop (a + 1)).take (runL ((B s).drop (a + 1))))) = [] := by
    rw [B_ofL]
    intro h0
    rw [h0] at hw
    exact absurd hw (by decide)
   obtain ⟨v, e, h⟩ := impl_cls s hs ty (ofL (((B s).drop (a + 1)).take (runL ((B s).drop (a + 1))))) hty (take_size (B s) (a + 1) _ (by omega)) ((B s).length + 1) (a + 1 + runL ((B s).drop (a + 1))) [] (by omega) (by omega) (by simp) (fun y hy => by cases hy) (fun h => hwne h.2.2.1)
   refine ⟨v, Ev.step (fun k => impl_readPart.j0.eq_2 ..) (p1 (by omega) hc.2 rfl rfl v e), ?_⟩
   exact done _ _ v (by unfold idOkL; rw [B_ofL, hw]; simp) (fun cs _ => .inr (.inl hwne)) h
 ·rw [if_neg hc]
  obtain ⟨v, e, h⟩ := impl_cls s hs ty (⟨#[]⟩ : ByteArray) hty (by show 0 ≤ _; omega) ((B s).length + 1) a [] (by omega) ha (by simp) (fun y hy => by cases hy) (fun h => hc ⟨h.1, h.2.1⟩)
  refine ⟨v, Ev.step (fun k => impl_readPart.j0.eq_2 ..) e, ?_⟩
  refine done (⟨#[]⟩ : ByteArray) a v rfl (fun cs hcs => ?_) h
  rcases hne with hne | hne
  ·exact .inl hne
  ·exact .inr (.inr (by have := cls_pos _ _ _ _ _ hne hcs; simpa using this))
theorem prefix_star (L : List UInt8) (h : ¬ L = []) : decide (B (⟨#[42]⟩ : ByteArray) <+: L) = decide (L.getD 0 0 = 42) := by
 cases L with
 | nil => exact absurd rfl h
 | cons c L =>
  rw [decide_eq_decide]
  show [42] <+: c :: L ↔ c = 42
  constructor
  ·intro hp
   obtain ⟨t, ht⟩ := hp
   injection ht with h1 h2
   exact h1.symm
  ·intro hc; subst hc; exact ⟨L, rfl⟩
theorem impl_readPart_ev (s : ByteArray) (hs : s.size ≤ 1048576) (h0 : ¬ B s = []) : ∃ v, Ev (fun k => impl_readPart.f k s) v ∧ PartAns (partP (B s)) v := by
 have hB := B_len s
 have hpos : 0 < (B s).length := List.length_pos_iff.2 h0
 simp only [impl_readPart.f]
 unfold partP headP
 rw [if_neg h0]
 have hpre := strings_HasPrefix_eq s (⟨#[42]⟩ : ByteArray)
 rw [prefix_star _ h0] at hpre
 by_cases hc : (B s).getD 0 0 = 42
 ·rw [if_pos hc]
  obtain ⟨v, e, h⟩ := impl_rest s hs (⟨#[42]⟩ : ByteArray) (by show 1 ≤ _; omega) rfl 1 hpos (.inl (by decide))
  exact ⟨v, ev_bind0 hpre (ev_if_pos (decide_eq_true hc) e), h⟩
 ·rw [if_neg hc]
  have hend := impl_wordEnd_ev s (by omega) 0
  obtain ⟨hw1, hw2⟩ := word_run (B s) 0
  have hrg := wordEndL_range (B s) 0 (by omega)
  rw [List.drop_zero, Nat.sub_zero] at hw1
  rw [List.drop_zero] at hw2
  have st : ∀ v, Ev (fun k => impl_readPart.j0 k s ((wordEndL (B s) 0 : Nat) : Int) (s.extract 0 (wordEndL (B s) 0)) (⟨#[]⟩ : ByteArray)) v → Ev (fun k => (strings_HasPrefix.f s (⟨#[42]⟩ : ByteArray)).bind fun t157 => (if t157 = true then (impl_readPart.j0 k s 1 (⟨#[42]⟩ : ByteArray) (⟨#[]⟩ : ByteArray)) else ((impl_wordEnd.f k s 0).bind fun t158 => (if 0 ≤ t158 then (if t158 ≤ (s.size : Int) then (impl_readPart.j0 k s t158 (s.extract 0 (t158 : Int).toNat) (⟨#[]⟩ : ByteArray)) else (none)) else (none))))) v := by
   intro v hv
   refine ev_bind0 hpre (ev_if_neg (by rw [decide_eq_false hc]; decide) (ev_bind hend (ev_if_pos (by omega) (ev_if_pos (by omega) ?_))))
   rw [Int.toNat_natCast]
   exact hv
  have hx : s.extract 0 (wordEndL (B s) 0) = ofL ((B s).take (wordEndL (B s) 0)) := by
   have := ext_take s 0 (wordEndL (B s) 0)
   rw [Nat.zero_add, List.drop_zero] at this
   exact this
  rw [hx] at st
  have hsz : (ofL ((B s).take (wordEndL (B s) 0))).size ≤ 1048576 := by rw [← B_len, B_ofL, List.length_take]; omega
  by_cases hr : 0 < runL (B s)
  ·rw [if_pos hr]
   have he := hw2 hr
   rw [Nat.zero_add] at he
   rw [he] at st hw1 hsz
   have hw : isWordL ((B s).take (runL (B s))) = true := by rw [hw1]; exact decide_eq_true hr
   obtain ⟨v, e, h⟩ := impl_rest s hs (ofL ((B s).take (runL (B s)))) hsz (by unfold typeOkL; rw [B_ofL, hw]; simp) (runL (B s)) (runL_le _).1 (.inl (by
    rw [B_ofL]; intro h9; rw [h9] at hw; exact absurd hw (by decide)))
   exact ⟨v, st v e, h⟩
  ·rw [if_neg hr]
   rw [decide_eq_false hr] at hw1
   by_cases he : wordEndL (B s) 0 = 0
   ·rw [he] at st
    obtain ⟨v, e, h⟩ := impl_rest s hs (⟨#[]⟩ : ByteArray) (by show 0 ≤ _; omega) rfl 0 (by omega) (.inr hpos)
    exact ⟨v, st v e, h⟩
   ·have hne : ¬ (B s).take (wordEndL (B s) 0) = [] := by
     intro h9
     have := congrArg List.length h9
     rw [List.length_take, List.length_nil] at this
     omega
    have hfirst : wordU ((B s).getD 0 0) = true := by
     unfold wordEndL at he
     split at he
     ·omega
     ·refine Classical.byContradiction fun hn => he ?_
      exact runEnd_no _ _ _ hpos hn
    have hbad : typeOkL (B (ofL ((B s).take (wordEndL (B s) 0)))) = false := by
     unfold typeOkL
     rw [B_ofL, hw1, decide_eq_false hne, decide_eq_false]
     ·rfl
     ·intro h9
      have : (B s).getD 0 0 = 42 := by
       cases hb : B s with
       | nil => exact absurd hb h0
       | cons x l =>
        rw [hb] at h9
        cases hq : wordEndL (x :: l) 0 with
        | zero => rw [hq] at h9; cases h9
        | succ q =>
         rw [hq, List.take_succ_cons] at h9
         injection h9
      exact hc this
    obtain ⟨v, e, h⟩ := impl_bad s hs _ hsz hbad ((B s).length + 1) (wordEndL (B s) 0) (⟨#[]⟩ : ByteArray) [] (by omega) hrg.2 (by simp) (by show 0 ≤ _; omega) (fun y hy => by cases hy)
    refine ⟨v, st v (Ev.step (fun k => impl_readPart.j0.eq_2 ..) e), .inr ⟨h, ?_⟩⟩
    have n35 : ¬ (B s).getD 0 0 = 35 := fun h9 => by rw [h9] at hfirst; exact absurd hfirst (by decide)
    have n46 : ¬ (B s).getD 0 0 = 46 := fun h9 => by rw [h9] at hfirst; exact absurd hfirst (by decide)
    unfold restP idP
    rw [if_neg (fun h9 => n35 h9.2)]
    simp only
    rw [cls, if_pos hpos, if_neg n46]
theorem partP_ok (L : List UInt8) (p : S102) (h : partP L = some p) : partOk p = true ∧ sizesPart p := by
 have word30 : ∀ l : List UInt8, isWordL l = true → l.length ≤ 30 := by
  intro l hl
  unfold isWordL at hl
  rw [Bool.and_eq_true, Bool.and_eq_true] at hl
  exact (of_decide_eq_true hl.1.1).2
 unfold partP at h
 split at h
 ·cases h
 ·rename_i h0
  have hpos : 0 < L.length := List.length_pos_iff.2 h0
  have hhead : typeOkL (B (headP L).1) = true ∧ (¬ B (headP L).1 = [] ∨ (headP L).2 < L.length) ∧ (B (headP L).1).length ≤ 30 := by
   unfold headP
   split
   ·exact ⟨rfl, .inl (by decide), by decide⟩
   ·split
    ·rename_i hr
     have hw := word_take L 0 (by rw [List.drop_zero]; exact hr)
     rw [List.drop_zero] at hw
     refine ⟨by unfold typeOkL; rw [B_ofL, hw]; simp, .inl ?_, by rw [B_ofL]; exact word30 _ hw⟩
     rw [B_ofL]; intro h9; rw [h9] at hw; exact absurd hw (by decide)
    ·exact ⟨rfl, .inr hpos, by decide⟩
  generalize (headP L).1 = ty at h hhead
  generalize (headP L).2 = a at h hhead
  obtain ⟨hty, hne, h30⟩ := hhead
  unfold restP idP at h
  have fin : ∀ (id : ByteArray) (b : Nat), idOkL (B id) = true → (B id).length ≤ 30 → (∀ cs, cls L (L.length + 1) b [] = some cs → ¬ B ty = [] ∨ ¬ B id = [] ∨ 0 < cs.length) → (match cls L (L.length + 1) b [] with | none => none | some cs => if cs.length ≤ 4 then some (⟨ty, id, cs⟩ : S102) else none) = some p → partOk p = true ∧ sizesPart p := by
   intro id b hid hid30 hnz h
   cases hc : cls L (L.length + 1) b [] with
   | none => rw [hc] at h; cases h
   | some cs =>
    rw [hc] at h
    simp only at h
    split at h
    ·rename_i h4
     injection h with h
     subst h
     have hw := (cls_words _ _ _ _ _ rfl hc).1
     have hn := hnz cs hc
     have hz1 := B_len ty
     have hz2 := B_len id
     refine ⟨?_, by show ty.size ≤ _; omega, by show id.size ≤ _; omega, by show cs.length ≤ _; omega, fun y hy => ?_⟩
     ·unfold partOk
      simp only
      rw [hty, hid, hw, decide_eq_true h4, Bool.true_and, Bool.true_and, Bool.true_and]
      rcases hn with hn | hn | hn
      ·rw [decide_eq_false hn]; rfl
      ·rw [decide_eq_false hn]; simp
      ·rw [decide_eq_true hn]; simp
     ·have h9 := word30 _ (List.all_eq_true.1 hw y hy)
      have hz3 := B_len y
      omega
    ·cases h
  by_cases hc : a < L.length ∧ L.getD a 0 = 35
  ·rw [if_pos hc] at h
   by_cases hr : runL (L.drop (a + 1)) = 0
   ·rw [if_pos hr] at h; cases h
   ·rw [if_neg hr] at h
    have hw := word_take L (a + 1) (by omega)
    refine fin _ _ (by unfold idOkL; rw [B_ofL, hw]; simp) (by rw [B_ofL]; exact word30 _ hw) (fun cs _ => .inr (.inl ?_)) h
    rw [B_ofL]; intro h9; rw [h9] at hw; exact absurd hw (by decide)
  ·rw [if_neg hc] at h
   refine fin _ _ rfl (by decide) (fun cs hcs => ?_) h
   rcases hne with hne | hne
   ·exact .inl hne
   ·exact .inr (.inr (by have := cls_pos _ _ _ _ _ hne hcs; simpa using this))
def selP (acc : List S102) : List ByteArray → Option (List S102)
 | [] => some acc
 | w :: ws => match partP (B w) with | none => none | some p => if acc.length = 5 then none else selP (acc ++ [p]) ws
def selQ (acc : List S102) : List ByteArray → Option (List S102)
 | [] => some acc
 | w :: ws => match partP (B w) with | none => none | some p => selQ (acc ++ [p]) ws
def noSel : List S102 × Bool := (([] : List S102), false)
def selV (acc : List S102) (ws : List ByteArray) : List S102 × Bool := match selP acc ws with | none => noSel | some l => (l, decide ((l.length : Int) > 0))
def selW (acc : List S102) (ws : List ByteArray) : List S102 × Bool := match selQ acc ws with | none => noSel | some l => if selOk l = true then (l, true) else noSel
theorem selQ_len : ∀ (ws : List ByteArray) (acc l : List S102), selQ acc ws = some l → acc.length ≤ l.length
 | [], acc, l, h => by injection h with h; subst h; exact Nat.le_refl _
 | w :: ws, acc, l, h => by
  rw [selQ] at h
  cases hp : partP (B w) with
  | none => rw [hp] at h; cases h
  | some p =>
   rw [hp] at h
   have := selQ_len ws _ l h
   rw [List.length_append, List.length_cons, List.length_nil] at this
   omega
theorem selV_selW : ∀ (ws : List ByteArray) (acc : List S102), acc.all partOk = true → acc.length ≤ 5 → selV acc ws = selW acc ws
 | [], acc, ha, h5 => by
  show (acc, decide ((acc.length : Int) > 0)) = if selOk acc = true then (acc, true) else noSel
  unfold selOk
  rw [ha, Bool.and_true]
  by_cases h0 : acc.length = 0
  ·rw [decide_eq_false (by omega), decide_eq_false (by omega), List.length_eq_zero_iff.1 h0]; rfl
  ·rw [decide_eq_true (by omega), decide_eq_true (by omega), if_pos rfl]
 | w :: ws, acc, ha, h5 => by
  unfold selV selW
  rw [selP, selQ]
  cases hp : partP (B w) with
  | none => rfl
  | some p =>
   simp only
   by_cases h : acc.length = 5
   ·rw [if_pos h]
    cases hq : selQ (acc ++ [p]) ws with
    | none => rfl
    | some l =>
     have hl := selQ_len ws _ l hq
     rw [List.length_append, List.length_cons, List.length_nil] at hl
     simp only
     rw [if_neg]
     unfold selOk
     rw [decide_eq_false (by omega)]; simp
   ·rw [if_neg h]
    exact selV_selW ws (acc ++ [p]) (by rw [List.all_append, ha, List.all_cons, (partP_ok _ _ hp).1]; rfl) (by rw [List.length_append, List.length_cons, List.length_nil]; omega)
theorem selV_cons (acc : List S102) (w : ByteArray) (ws : List ByteArray) : selV acc (w :: ws) = match partP (B w) with | none => noSel | some p => if acc.length = 5 then noSel else selV (acc ++ [p]) ws := by
 unfold selV
 rw [selP]
 cases partP (B w) with
 | none => rfl
 | some p =>
  simp only
  by_cases h : acc.length = 5
  ·rw [if_pos h, if_pos h]
  ·rw [if_neg h, if_neg h]
theorem spec_sel_l0 (s : ByteArray) (hs : s.size ≤ 1048576) : ∀ (m i : Nat) (acc : List S102) (w : ByteArray), i + m = s.size → acc.length ≤ 5 → w.size ≤ i → Ev (fun k => spec_l5Selector.l0 k s acc w (i : Int)) (selV acc ((wordsL blankU (B w) ((B s).drop i)).map ofL)) := by
 have hB := B_len s
 have stop : ∀ acc w, Ev (fun k => spec_l5Selector.l0 k s acc w (((s.size + 1 : Nat)) : Int)) (acc, decide ((acc.length : Int) > 0)) := fun acc w => ev_done fun k => by rw [spec_l5Selector.l0, if_neg (by omega)]
 have cut : ∀ (i : Nat) (acc : List S102) (w : ByteArray) (ws : List ByteArray), i ≤ s.size → acc.length ≤ 5 → w.size ≤ 1048576 →
   (∀ acc' w', acc'.length ≤ 5 → B w' = [] → Ev (fun k => spec_l5Selector.l0 k s acc' w' (((i + 1 : Nat)) : Int)) (selV acc' ws)) → Ev (fun k => spec_l5Selector.j1 k s acc w (i : Int) false) (selV acc (if B w = [] then ws else w :: ws)) := by
  intro i acc w ws hi h5 hw h
  refine Ev.step (fun k => spec_l5Selector.j1.eq_2 ..) (ev_if_neg (by decide) ?_)
  rw [wrap_id (x := (i : Int) + 1) (by omega) (by omega), cast_succ]
  by_cases h0 : B w = []
  ·rw [if_pos h0]
   exact ev_if_pos (by rw [toList_B]; exact h0) (h acc w h5 h0)
  ·rw [if_neg h0, selV_cons]
   refine ev_if_neg (by rw [toList_B]; exact h0) ?_
   obtain ⟨v, e, ans⟩ := spec_l5Part_ev w hw
   refine ev_bind e ?_
   rcases ans with ⟨a1, a2⟩ | ⟨a1, a2⟩
   ·rw [a2]
    refine ev_if_pos a1 ?_
    simp only
    by_cases h6 : acc.length = 5
    ·rw [if_pos h6]
     exact ev_if_pos (by omega) (Ev.now _)
    ·rw [if_neg h6]
     exact ev_if_neg (by omega) (ev_if_pos (by omega) (h _ _ (by rw [List.length_append, List.length_cons, List.length_nil]; omega) rfl))
   ·rw [a2]
    exact ev_if_neg (by rw [a1]; decide) (Ev.now _)
 intro m
 induction m with
 | zero =>
  intro i acc w hi h5 hw
  obtain rfl : i = s.size := by omega
  have hd : (B s).drop s.size = [] := List.drop_eq_nil_of_le (by omega)
  rw [hd, wordsL]
  refine Ev.step (fun k => spec_l5Selector.l0.eq_2 ..) (ev_if_pos (by omega) (ev_if_neg (by omega) ?_))
  have h := cut s.size acc w [] (by omega) h5 (by omega) (fun acc' w' h5' _ => stop acc' w')
  by_cases h0 : B w = []
  ·rw [if_pos h0] at h ⊢; exact h
  ·rw [if_neg h0] at h ⊢; rw [List.map_cons, List.map_nil, ofL_B]; exact h
 | succ m ih =>
  intro i acc w hi h5 hw
  have hd := drop_cons (B s) 0 i (by omega)
  refine Ev.step (fun k => spec_l5Selector.l0.eq_2 ..) (ev_if_pos (by omega) (ev_if_pos (by omega) (ev_if_pos (by omega) ?_)))
  rw [bt_U s i (by omega)]
  obtain ⟨c, hc⟩ : ∃ c, (B s).getD i 0 = c := ⟨_, rfl⟩
  rw [hc]
  refine ev_bind0 (spec_l4Blank_eq c) ?_
  rw [hd, hc, wordsL]
  by_cases hb : blankU c = true
  ·rw [hb]
   have h := cut i acc w ((wordsL blankU [] ((B s).drop (i + 1))).map ofL) (by omega) h5 (by omega) (fun acc' w' h5' hw' => by
    have := ih (i + 1) acc' w' (by omega) h5' (by have := B_len w'; rw [hw', List.length_nil] at this; omega)
    rw [hw'] at this
    exact this)
   rw [if_pos rfl]
   by_cases h0 : B w = []
   ·rw [if_pos h0] at h ⊢; exact h
   ·rw [if_neg h0] at h ⊢; rw [List.map_cons, ofL_B]; exact h
  ·rw [Bool.eq_false_iff.2 hb]
   have ex : B (s.extract i (i + 1)) = [c] := by
    rw [B_extract, hd, hc, Nat.add_sub_cancel_left]; rfl
   have sz : (s.extract i (i + 1)).size = 1 := by rw [← B_len, ex]; rfl
   refine Ev.step (fun k => spec_l5Selector.j1.eq_2 ..) (ev_if_pos (by decide) ?_)
   rw [wrap_id (x := (i : Int) + 1) (by omega) (by omega), cast_succ, Int.toNat_natCast, Int.toNat_natCast]
   refine ev_if_pos (by omega) (ev_if_pos (by omega) (ev_if_pos (by omega) (ev_if_pos (by rw [sz]; omega) ?_)))
   have hsz : (w ++ s.extract i (i + 1)).size = w.size + 1 := by rw [← B_len, B_append, ex, List.length_append, B_len]; rfl
   have h9 := ih (i + 1) acc (w ++ s.extract i (i + 1)) (by omega) h5 (by omega)
   rw [B_append, ex] at h9
   rw [if_neg (by decide)]
   exact h9
theorem spec_l5Selector_ev (s : ByteArray) (hs : s.size ≤ 1048576) : Ev (fun k => spec_l5Selector.f k s) (selV [] ((wordsL blankU [] (B s)).map ofL)) := by
 have h := spec_sel_l0 s hs s.size 0 [] (⟨#[]⟩ : ByteArray) (by omega) (by simp) (by show 0 ≤ _; omega)
 exact h
theorem impl_sel_l0 (ws : List ByteArray) (hn : ws.length ≤ 1048577) (hw : ∀ x ∈ ws, x.size ≤ 1048576 ∧ ¬ B x = []) : ∀ (m i : Nat) (acc : List S102), i + m = ws.length → acc.length ≤ i → acc.all partOk = true → (∀ x ∈ acc, sizesPart x) → Ev (fun k => impl_ReadSelector.l0 k acc ws (ws.length : Int) (i : Int)) (selW acc (ws.drop i)) := by
 intro m
 induction m with
 | zero =>
  intro i acc hi ha hp hs
  rw [List.drop_eq_nil_of_le (by omega)]
  show Ev _ (if selOk acc = true then (acc, true) else noSel)
  refine Ev.step (fun k => impl_ReadSelector.l0.eq_2 ..) (ev_if_neg (by omega) (ev_bind (impl_isSelector_wide acc (by omega) hs) ?_))
  by_cases h : selOk acc = true
  ·have e : (if selOk acc = true then (acc, true) else noSel) = (acc, true) := if_pos h
   rw [e]; exact ev_if_pos h (Ev.now _)
  ·have e : (if selOk acc = true then (acc, true) else noSel) = noSel := if_neg h
   rw [e]; exact ev_if_neg h (Ev.now _)
 | succ m ih =>
  intro i acc hi ha hp hs
  have hil : i < ws.length := by omega
  rw [drop_cons ws ByteArray.empty i hil]
  have hm : ws.getD i ByteArray.empty ∈ ws := by rw [List.getD_eq_getElem?_getD, List.getElem?_eq_getElem hil]; exact List.getElem_mem hil
  have hx := hw _ hm
  refine Ev.step (fun k => impl_ReadSelector.l0.eq_2 ..) (ev_if_pos (by omega) (ev_if_pos (by omega) (ev_if_pos (by omega) ?_)))
  rw [rdOf_nat]
  generalize ws.getD i ByteArray.empty = w at hx ⊢
  obtain ⟨v, e, ans⟩ := impl_readPart_ev w hx.1 hx.2
  refine ev_bind e ?_
  unfold selW
  rw [selQ]
  rcases ans with ⟨a1, a2⟩ | ⟨a1, a2⟩
  ·rw [a2]
   have ok := partP_ok _ _ a2
   refine ev_if_pos a1 (ev_if_pos (by omega) ?_)
   rw [wrap_up hil (by omega)]
   exact ih (i + 1) _ (by omega) (by rw [List.length_append, List.length_cons, List.length_nil]; omega) (by rw [List.all_append, hp, List.all_cons, ok.1]; rfl) (fun x hx => by
    rcases List.mem_append.1 hx with hx | hx
    ·exact hs x hx
    ·rw [List.mem_singleton.1 hx]; exact ok.2)
  ·rw [a2]
   exact ev_if_neg (by rw [a1]; decide) (Ev.now _)
theorem words_in (s : ByteArray) (hs : s.size ≤ 1048576) : ((wordsL blankU [] (B s)).map ofL).length ≤ 1048577 ∧ ∀ x ∈ (wordsL blankU [] (B s)).map ofL, x.size ≤ 1048576 ∧ ¬ B x = [] := by
 have h := wordsL_len blankU (B s) []
 have hB := B_len s
 refine ⟨by rw [List.length_map]; omega, fun x hx => ?_⟩
 obtain ⟨y, hy, rfl⟩ := List.mem_map.1 hx
 have h2 := h.2 y hy
 have h3 := B_len (ofL y)
 rw [B_ofL] at h3
 simp only [List.length_nil] at h2
 exact ⟨by omega, by rw [B_ofL]; exact wordsL_ne blankU _ _ y hy⟩
theorem impl_ReadSelector_ev (s : ByteArray) (hs : s.size ≤ 1048576) : Ev (fun k => impl_ReadSelector.f k s) (selW [] ((wordsL blankU [] (B s)).map ofL)) := by
 simp only [impl_ReadSelector.f]
 refine ev_bind0 (impl_fields_eq s hs) ?_
 have hw := words_in s hs
 exact impl_sel_l0 _ hw.1 hw.2 ((wordsL blankU [] (B s)).map ofL).length 0 [] (by omega) (by simp) rfl (fun x hx => by cases hx)
theorem selV_good (s : ByteArray) : ((selV [] ((wordsL blankU [] (B s)).map ofL)).2 = true → selOk (selV [] ((wordsL blankU [] (B s)).map ofL)).1 = true) ∧ (selV [] ((wordsL blankU [] (B s)).map ofL)).1.length ≤ 5 ∧ ∀ x ∈ (selV [] ((wordsL blankU [] (B s)).map ofL)).1, x.f2.length ≤ 4 := by
 rw [selV_selW _ [] rfl (by simp)]
 unfold selW
 have none_ : ((noSel : List S102 × Bool).2 = true → selOk (noSel : List S102 × Bool).1 = true) ∧ (noSel : List S102 × Bool).1.length ≤ 5 ∧ ∀ x ∈ (noSel : List S102 × Bool).1, x.f2.length ≤ 4 := ⟨(fun h => by cases h), (by show 0 ≤ 5; omega), (fun x hx => by cases hx)⟩
 cases selQ [] ((wordsL blankU [] (B s)).map ofL) with
 | none => exact none_
 | some l =>
  simp only
  split
  ·rename_i h
   refine ⟨fun _ => h, ?_⟩
   unfold selOk at h
   rw [Bool.and_eq_true] at h
   refine ⟨(of_decide_eq_true h.1).2, fun x hx => ?_⟩
   have := List.all_eq_true.1 h.2 x hx
   unfold partOk at this
   rw [Bool.and_eq_true, Bool.and_eq_true, Bool.and_eq_true, Bool.and_eq_true] at this
   exact of_decide_eq_true this.1.1.2
  ·exact none_
def RuleOk (x : S50) : Prop := x.f0.length ≤ 1048576 ∧ (∀ y ∈ x.f0, y.length ≤ 5 ∧ ∀ z ∈ y, z.f2.length ≤ 4) ∧ x.f1.length ≤ 12
theorem mkPartsEnd_le5 : ∀ (l : List S102) (x : Int) (n : Nat), l.length ≤ n → (∀ p ∈ l, p.f2.length ≤ 4) → mkPartsEnd l x ≤ x + 6 * n
 | [], x, n, _, _ => by rw [mkPartsEnd]; omega
 | p :: t, x, n, hn, h => by
  rw [List.length_cons] at hn
  have h1 := mkPartsEnd_le5 t (x + 2 + p.f2.length) (n - 1) (by omega) (fun q hq => h q (List.mem_cons_of_mem _ hq))
  have h2 := h p List.mem_cons_self
  rw [mkPartsEnd]; omega
noncomputable def mkSels : List (List S102) → Int → List (List S102)
 | [], _ => []
 | p :: t, x => mkParts p x :: mkSels t (mkPartsEnd p x)
def mkSelsEnd : List (List S102) → Int → Int
 | [], x => x
 | p :: t, x => mkSelsEnd t (mkPartsEnd p x)
theorem mkSelsEnd_ge : ∀ (l : List (List S102)) (x : Int), x ≤ mkSelsEnd l x
 | [], x => Int.le_refl x
 | p :: t, x => by
  have h1 := mkPartsEnd_ge p x
  have h2 := mkSelsEnd_ge t (mkPartsEnd p x)
  rw [mkSelsEnd]; omega
theorem mkSelsEnd_le : ∀ (l : List (List S102)) (x : Int), (∀ y ∈ l, y.length ≤ 5 ∧ ∀ z ∈ y, z.f2.length ≤ 4) → mkSelsEnd l x ≤ x + 30 * l.length
 | [], x, _ => by rw [mkSelsEnd]; show x ≤ x + 30 * ((0 : Nat) : Int); omega
 | p :: t, x, h => by
  have h0 := h p List.mem_cons_self
  have h1 := mkPartsEnd_le5 p x 5 h0.1 h0.2
  have h2 := mkSelsEnd_le t (mkPartsEnd p x) (fun y hy => h y (List.mem_cons_of_mem _ hy))
  rw [mkSelsEnd, List.length_cons]; omega
theorem mkSels_length : ∀ (l : List (List S102)) (x : Int), (mkSels l x).length = l.length
 | [], _ => rfl
 | p :: t, x => by rw [mkSels, List.length_cons, mkSels_length t, List.length_cons]
theorem rd_mid_sel (d : List (List S102)) (p : List S102) (t : List (List S102)) : rdL_ (d ++ p :: t) (d.length : Int) = p := by simp [rdL_]
theorem rd_mid_sel' (d : List (List S102)) (p : List S102) (t : List (List S102)) : rd_L12 (d ++ p :: t) (d.length : Int) = p := by simp [rd_L12]
theorem markSels_l0 : ∀ (rest done : List (List S102)) (x : Int), 0 ≤ x → mkSelsEnd rest x ≤ 4611686018427387904 → (done ++ rest).length ≤ 9223372036854775806 → (∀ y ∈ rest, y.length ≤ 5) → Ev (fun k => laws_markPartSS.l0 k (done ++ rest) x (done.length : Int)) (mkSelsEnd rest x, done ++ mkSels rest x)
 | [], done, x, h0, h1, hn, _ => by
  rw [List.append_nil] at hn ⊢
  refine ev_done fun k => ?_
  rw [laws_markPartSS.l0, if_neg (by omega), mkSels, mkSelsEnd, List.append_nil]
 | p :: t, done, x, h0, h1, hn, h5 => by
  have hl : (done ++ p :: t).length = done.length + (t.length + 1) := by rw [List.length_append, List.length_cons]
  have hge := mkSelsEnd_ge t (mkPartsEnd p x)
  have hge2 := mkPartsEnd_ge p x
  have h50 := h5 p List.mem_cons_self
  rw [mkSelsEnd] at h1 ⊢
  refine Ev.step (fun k => laws_markPartSS.l0.eq_2 ..) (ev_if_pos (by omega) (ev_if_pos (by omega) ?_))
  rw [rd_mid_sel]
  refine ev_bind (laws_markPartS_ev p x h0 (by omega) (by omega)) ?_
  have h := markSels_l0 t (done ++ [mkParts p x]) (mkPartsEnd p x) (by omega) h1 (by rw [List.length_append, List.length_append, List.length_cons, List.length_nil]; omega) (fun y hy => h5 y (List.mem_cons_of_mem _ hy))
  rw [List.length_append, List.length_cons, List.length_nil, List.append_assoc, List.append_assoc] at h
  rw [Int.toNat_natCast, List.set_append_right _ _ (Nat.le_refl _), Nat.sub_self, List.set_cons_zero, wrap_id (x := (done.length : Int) + 1) (by omega) (by omega), cast_succ]
  exact h
theorem heldSels_l0 : ∀ (rest done : List (List S102)) (x : Int), 0 ≤ x → mkSelsEnd rest x ≤ 4611686018427387904 → (done ++ rest).length ≤ 9223372036854775806 → (∀ y ∈ rest, y.length ≤ 5) → Ev (fun k => laws_heldPartSS.l0 k (done ++ mkSels rest x) x (done.length : Int)) (mkSelsEnd rest x)
 | [], done, x, h0, h1, hn, _ => by
  rw [mkSels, List.append_nil]
  refine ev_done fun k => ?_
  rw [laws_heldPartSS.l0, if_neg (by omega), mkSelsEnd]
 | p :: t, done, x, h0, h1, hn, h5 => by
  have hl : (done ++ p :: t).length = done.length + (t.length + 1) := by rw [List.length_append, List.length_cons]
  have hge := mkSelsEnd_ge t (mkPartsEnd p x)
  have hge2 := mkPartsEnd_ge p x
  have h50 := h5 p List.mem_cons_self
  rw [mkSelsEnd] at h1 ⊢
  rw [mkSels]
  have hl2 : (done ++ mkParts p x :: mkSels t (mkPartsEnd p x)).length = done.length + (t.length + 1) := by rw [List.length_append, List.length_cons, mkSels_length]
  refine Ev.step (fun k => laws_heldPartSS.l0.eq_2 ..) (ev_if_pos (by omega) (ev_if_pos (by omega) ?_))
  rw [rd_mid_sel']
  refine ev_bind (laws_heldPartS_ev p x h0 (by omega) (by omega)) (ev_if_neg (by omega) ?_)
  have h := heldSels_l0 t (done ++ [mkParts p x]) (mkPartsEnd p x) (by omega) h1 (by rw [List.length_append, List.length_append, List.length_cons, List.length_nil]; omega) (fun y hy => h5 y (List.mem_cons_of_mem _ hy))
  rw [List.length_append, List.length_cons, List.length_nil, List.append_assoc] at h
  rw [wrap_id (x := (done.length : Int) + 1) (by omega) (by omega), cast_succ]
  exact h
noncomputable def mkRules : List S50 → Int → List S50
 | [], _ => []
 | p :: t, x => ⟨mkSels p.f0 x, markedDecl p.f1.length (mkSelsEnd p.f0 x)⟩ :: mkRules t (mkSelsEnd p.f0 x + 3 * p.f1.length)
def mkRulesEnd : List S50 → Int → Int
 | [], x => x
 | p :: t, x => mkRulesEnd t (mkSelsEnd p.f0 x + 3 * p.f1.length)
theorem mkRulesEnd_ge : ∀ (l : List S50) (x : Int), x ≤ mkRulesEnd l x
 | [], x => Int.le_refl x
 | p :: t, x => by
  have h1 := mkSelsEnd_ge p.f0 x
  have h2 := mkRulesEnd_ge t (mkSelsEnd p.f0 x + 3 * p.f1.length)
  rw [mkRulesEnd]; omega
theorem mkRulesEnd_le : ∀ (l : List S50) (x : Int), (∀ y ∈ l, RuleOk y) → mkRulesEnd l x ≤ x + 31457316 * l.length
 | [], x, _ => by rw [mkRulesEnd]; show x ≤ x + 31457316 * ((0 : Nat) : Int); omega
 | p :: t, x, h => by
  obtain ⟨a0, a1, a2⟩ := h p List.mem_cons_self
  have h1 := mkSelsEnd_le p.f0 x a1
  have h2 := mkRulesEnd_le t (mkSelsEnd p.f0 x + 3 * p.f1.length) (fun y hy => h y (List.mem_cons_of_mem _ hy))
  rw [mkRulesEnd, List.length_cons]; omega
theorem mkRules_length : ∀ (l : List S50) (x : Int), (mkRules l x).length = l.length
 | [], _ => rfl
 | p :: t, x => by rw [mkRules, List.length_cons, mkRules_length t, List.length_cons]
theorem rd_mid_rule (d : List S50) (p : S50) (t : List S50) : rd_T50 (d ++ p :: t) (d.length : Int) = p := by simp [rd_T50]
theorem markRules_l0 : ∀ (rest done : List S50) (x : Int), 0 ≤ x → mkRulesEnd rest x ≤ 4611686018427387904 → (done ++ rest).length ≤ 9223372036854775806 → (∀ y ∈ rest, RuleOk y) → Ev (fun k => laws_markRuleS.l0 k (done ++ rest) x (done.length : Int)) (mkRulesEnd rest x, done ++ mkRules rest x)
 | [], done, x, h0, h1, hn, _ => by
  rw [List.append_nil] at hn ⊢
  refine ev_done fun k => ?_
  rw [laws_markRuleS.l0, if_neg (by omega), mkRules, mkRulesEnd, List.append_nil]
 | p :: t, done, x, h0, h1, hn, h5 => by
  have hl : (done ++ p :: t).length = done.length + (t.length + 1) := by rw [List.length_append, List.length_cons]
  have hge := mkRulesEnd_ge t (mkSelsEnd p.f0 x + 3 * p.f1.length)
  have hge2 := mkSelsEnd_ge p.f0 x
  obtain ⟨a0, a1, a2⟩ := h5 p List.mem_cons_self
  rw [mkRulesEnd] at h1 ⊢
  refine Ev.step (fun k => laws_markRuleS.l0.eq_2 ..) (ev_if_pos (by omega) (ev_if_pos (by omega) ?_))
  rw [rd_mid_rule]
  refine ev_bind (markSels_l0 p.f0 [] x h0 (by omega) (by rw [List.nil_append]; omega) (fun y hy => (a1 y hy).1)) (ev_bind (laws_markDeclS_ev p.f1 (mkSelsEnd p.f0 x) (by omega) (by omega)) ?_)
  have h := markRules_l0 t (done ++ [⟨mkSels p.f0 x, markedDecl p.f1.length (mkSelsEnd p.f0 x)⟩]) (mkSelsEnd p.f0 x + 3 * p.f1.length) (by omega) h1 (by rw [List.length_append, List.length_append, List.length_cons, List.length_nil]; omega) (fun y hy => h5 y (List.mem_cons_of_mem _ hy))
  rw [List.length_append, List.length_cons, List.length_nil, List.append_assoc, List.append_assoc] at h
  rw [Int.toNat_natCast, List.set_append_right _ _ (Nat.le_refl _), Nat.sub_self, List.set_cons_zero, wrap_id (x := (done.length : Int) + 1) (by omega) (by omega), cast_succ]
  exact h
theorem heldRules_l0 : ∀ (rest done : List S50) (x : Int), 0 ≤ x → mkRulesEnd rest x ≤ 4611686018427387904 → (done ++ rest).length ≤ 9223372036854775806 → (∀ y ∈ rest, RuleOk y) → Ev (fun k => laws_heldRuleS.l0 k (done ++ mkRules rest x) x (done.length : Int)) (mkRulesEnd rest x)
 | [], done, x, h0, h1, hn, _ => by
  rw [mkRules, List.append_nil]
  refine ev_done fun k => ?_
  rw [laws_heldRuleS.l0, if_neg (by omega), mkRulesEnd]
 | p :: t, done, x, h0, h1, hn, h5 => by
  have hl : (done ++ p :: t).length = done.length + (t.length + 1) := by rw [List.length_append, List.length_cons]
  have hge := mkRulesEnd_ge t (mkSelsEnd p.f0 x + 3 * p.f1.length)
  have hge2 := mkSelsEnd_ge p.f0 x
  obtain ⟨a0, a1, a2⟩ := h5 p List.mem_cons_self
  rw [mkRulesEnd] at h1 ⊢
  rw [mkRules]
  have hl2 : (done ++ (⟨mkSels p.f0 x, markedDecl p.f1.length (mkSelsEnd p.f0 x)⟩ : S50) :: mkRules t (mkSelsEnd p.f0 x + 3 * p.f1.length)).length = done.length + (t.length + 1) := by rw [List.length_append, List.length_cons, mkRules_length]
  refine Ev.step (fun k => laws_heldRuleS.l0.eq_2 ..) (ev_if_pos (by omega) (ev_if_pos (by omega) ?_))
  rw [rd_mid_rule]
  refine ev_bind (heldSels_l0 p.f0 [] x h0 (by omega) (by rw [List.nil_append]; omega) (fun y hy => (a1 y hy).1)) (ev_if_neg (by omega) (ev_bind (laws_heldDeclS_ev p.f1.length (mkSelsEnd p.f0 x) (by omega) (by omega)) (ev_if_neg (by omega) ?_)))
  have h := heldRules_l0 t (done ++ [⟨mkSels p.f0 x, markedDecl p.f1.length (mkSelsEnd p.f0 x)⟩]) (mkSelsEnd p.f0 x + 3 * p.f1.length) (by omega) h1 (by rw [List.length_append, List.length_append, List.length_cons, List.length_nil]; omega) (fun y hy => h5 y (List.mem_cons_of_mem _ hy))
  rw [List.length_append, List.length_cons, List.length_nil, List.append_assoc] at h
  rw [wrap_id (x := (done.length : Int) + 1) (by omega) (by omega), cast_succ]
  exact h
theorem eqSels_same (l : List (List S102)) (hn : l.length ≤ 1048576) (hg : ∀ x ∈ l, x.length ≤ 5 ∧ ∀ z ∈ x, z.f2.length ≤ 4) : Ev (fun k => laws_eqPartSS.f k l l) true := by
 refine Ev.congr (f := fun k => laws_eqPartSS.l0 k l l 0) (fun k => ?_) ?_
 ·unfold laws_eqPartSS.f; rw [if_pos rfl]
 ·refine ev_up l.length (fun i k => laws_eqPartSS.l0 k l l i) true ?_ ?_
  ·refine ev_done fun k => ?_
   rw [laws_eqPartSS.l0, if_neg (by omega)]
  ·intro i hi h
   have hrd : rd_L12 l (i : Int) = l.getD i [] := by simp [rd_L12]
   have hm : l.getD i [] ∈ l := by rw [List.getD_eq_getElem?_getD, List.getElem?_eq_getElem hi]; exact List.getElem_mem hi
   have hgm := hg _ hm
   refine Ev.step (fun k => by rw [laws_eqPartSS.l0, if_pos (by omega), if_pos (by omega), if_pos (by omega), hrd]) ?_
   refine ev_bind (laws_eqPartS_same _ (by have := hgm.1; omega) (fun y hy => by have := hgm.2 y hy; omega)) (ev_if_pos rfl ?_)
   rw [wrap_up hi (by omega)]; exact h
theorem eqRules_same (l : List S50) (hn : l.length ≤ 1048576) (hg : ∀ x ∈ l, RuleOk x) : Ev (fun k => laws_eqRuleS.f k l l) true := by
 refine Ev.congr (f := fun k => laws_eqRuleS.l0 k l l 0) (fun k => ?_) ?_
 ·unfold laws_eqRuleS.f; rw [if_pos rfl]
 ·refine ev_up l.length (fun i k => laws_eqRuleS.l0 k l l i) true ?_ ?_
  ·refine ev_done fun k => ?_
   rw [laws_eqRuleS.l0, if_neg (by omega)]
  ·intro i hi h
   have hrd : rd_T50 l (i : Int) = l.getD i z50 := by simp [rd_T50]
   have hm : l.getD i z50 ∈ l := by rw [List.getD_eq_getElem?_getD, List.getElem?_eq_getElem hi]; exact List.getElem_mem hi
   obtain ⟨a0, a1, a2⟩ := hg _ hm
   refine Ev.step (fun k => by rw [laws_eqRuleS.l0, if_pos (by omega), if_pos (by omega), if_pos (by omega), hrd]) ?_
   have one : Ev (fun k => laws_eqRule.f k (l.getD i z50).f0 (l.getD i z50).f1 (l.getD i z50).f0 (l.getD i z50).f1) true := by
    simp only [laws_eqRule.f]
    exact ev_bind (eqSels_same _ a0 a1) (ev_if_pos rfl (ev_bind (laws_eqDeclS_same _ (by omega)) (ev_if_pos rfl (Ev.now _))))
   refine ev_bind one (ev_if_pos rfl ?_)
   rw [wrap_up hi (by omega)]; exact h
def jL (c : UInt8) (u : List UInt8) : Nat := (u.takeWhile (fun x => !(x == c))).length
theorem jL_cons (c b : UInt8) (u : List UInt8) : jL c (b :: u) = if b = c then 0 else jL c u + 1 := by
 unfold jL
 rw [List.takeWhile_cons]
 by_cases h : b = c
 ·rw [if_pos h, if_neg (by simp [h])]; rfl
 ·rw [if_neg h, if_pos (by simp [h])]; rfl
theorem jL_le (c : UInt8) : ∀ u : List UInt8, jL c u ≤ u.length
 | [] => by unfold jL; simp
 | b :: u => by
  have := jL_le c u
  rw [jL_cons, List.length_cons]; split <;> omega
theorem jL_at (c : UInt8) : ∀ u : List UInt8, jL c u < u.length → u.drop (jL c u) = c :: u.drop (jL c u + 1)
 | [], h => by simp at h
 | b :: u, h => by
  rw [jL_cons] at h ⊢
  by_cases hb : b = c
  ·rw [if_pos hb, List.drop_zero, hb]; rfl
  ·rw [if_neg hb] at h ⊢
   rw [List.drop_succ_cons, List.drop_succ_cons]
   exact jL_at c u (by rw [List.length_cons] at h; omega)
theorem cut_one (c : UInt8) : ∀ u : List UInt8, Go.Lib.cut u [c] = (u.take (jL c u), u.drop (jL c u + 1), decide (jL c u < u.length))
 | [] => by rw [cut_nil [c] rfl]; rfl
 | b :: u => by
  rw [jL_cons]
  by_cases hb : b = c
  ·rw [if_pos hb, cut_hit b u [c] (by simp [List.isPrefixOf, hb])]
   simp
  ·rw [if_neg hb, cut_step b u [c] (by simp [List.isPrefixOf]; exact fun e => hb e.symm), cut_one c u]
   simp
theorem find_ev (s : ByteArray) (hs : s.size ≤ 1048576) (c : UInt8) : ∀ (n i : Nat), i + n = s.size → Ev (fun k => spec_l5Find.f k s (i : Int) (c.toNat : Int)) (((i + jL c ((B s).drop i) : Nat) : Int)) := by
 have hB := B_len s
 intro n
 induction n with
 | zero =>
  intro i hi
  have hd : (B s).drop i = [] := List.drop_eq_nil_of_le (by omega)
  rw [hd]
  refine Ev.congr (f := fun k => spec_l5Find.l0 k s (i : Int) (c.toNat : Int)) (fun k => rfl) ?_
  refine ev_done fun k => ?_
  rw [spec_l5Find.l0, if_neg (by omega)]
  rfl
 | succ n ih =>
  intro i hi
  have hil : i < (B s).length := by omega
  have hdrop := drop_cons (B s) 0 i hil
  refine Ev.congr (f := fun k => spec_l5Find.l0 k s (i : Int) (c.toNat : Int)) (fun k => rfl) ?_
  refine Ev.step (fun k => spec_l5Find.l0.eq_2 ..) (ev_if_pos (by omega) (ev_if_pos (by omega) ?_))
  rw [bt_U s i hil, hdrop, jL_cons]
  by_cases hc : (B s).getD i 0 = c
  ·rw [if_pos hc]
   exact ev_if_pos (by rw [hc]) (Ev.now _)
  ·rw [if_neg hc]
   refine ev_if_neg (fun e => hc ?_) ?_
   ·have := (u8_nat (a := (B s).getD i 0) (n := c.toNat) c.toNat_lt).1 e
    rw [this]; simp
   ·rw [wrap_up (show i < 1048577 by omega) (by omega)]
    have h := ih (i + 1) (by omega)
    rw [show i + (jL c ((B s).drop (i + 1)) + 1) = i + 1 + jL c ((B s).drop (i + 1)) by omega]
    exact h
def selB (b : ByteArray) : List S102 × Bool := selV [] ((wordsL blankU [] (B b)).map ofL)
theorem selB_good (b : ByteArray) : (selB b).1.length ≤ 5 ∧ ∀ x ∈ (selB b).1, x.f2.length ≤ 4 := (selV_good b).2
theorem selB_spec (b : ByteArray) (hb : b.size ≤ 1048576) : Ev (fun k => spec_l5Selector.f k b) (selB b) := spec_l5Selector_ev b hb
theorem selB_impl (b : ByteArray) (hb : b.size ≤ 1048576) : Ev (fun k => impl_ReadSelector.f k b) (selB b) := by
 have e2 := impl_ReadSelector_ev b hb
 rw [← selV_selW _ [] rfl (by simp)] at e2
 exact e2
theorem selectors_l0 (ps : List ByteArray) (hn : ps.length ≤ 1048577) (hs : ∀ x ∈ ps, x.size ≤ 1048576) : ∀ (m i : Nat) (acc : List (List S102)), i + m = ps.length → acc.length ≤ i →
  Ev (fun k => impl_readSelectors.l0 k acc ps (ps.length : Int) (i : Int)) (if (ps.drop i).all (fun b => (selB b).2) = true then (acc ++ (ps.drop i).map (fun b => (selB b).1), true) else ([], false)) := by
 intro m
 induction m with
 | zero =>
  intro i acc hi ha
  rw [List.drop_eq_nil_of_le (by omega)]
  refine ev_done fun k => ?_
  rw [impl_readSelectors.l0, if_neg (by omega)]
  simp
 | succ m ih =>
  intro i acc hi ha
  have hil : i < ps.length := by omega
  have hmem : ps.getD i ByteArray.empty ∈ ps := by rw [List.getD_eq_getElem?_getD, List.getElem?_eq_getElem hil]; exact List.getElem_mem hil
  rw [drop_cons ps ByteArray.empty i hil, List.all_cons, List.map_cons]
  refine Ev.step (fun k => impl_readSelectors.l0.eq_2 ..) (ev_if_pos (by omega) (ev_if_pos (by omega) (ev_if_pos (by omega) ?_)))
  rw [rdOf_nat]
  refine ev_bind (selB_impl _ (hs _ hmem)) ?_
  by_cases hok : (selB (ps.getD i ByteArray.empty)).2 = true
  ·refine ev_if_pos hok (ev_if_pos (by omega) ?_)
   have h := ih (i + 1) (acc ++ [(selB (ps.getD i ByteArray.empty)).1]) (by omega) (by simp; omega)
   rw [wrap_up hil (by omega), hok, Bool.true_and]
   rw [List.append_assoc] at h
   exact h
  ·refine ev_if_neg hok ?_
   rw [Bool.eq_false_iff.mpr hok, Bool.false_and, if_neg (by decide)]
   exact Ev.now _
theorem sheet_l1 (s : ByteArray) (out : List S50) (e : Int) (ds : List S80) (r : List S50) (ps : List ByteArray) (hn : ps.length ≤ 1048577) (hs : ∀ x ∈ ps, x.size ≤ 1048576) : ∀ (m i : Nat) (acc : List (List S102)) (good : Bool), i + m = ps.length → acc.length ≤ i →
  Ev (fun k => if (good && (ps.drop i).all (fun b => (selB b).2)) = true then (if (out.length : Int) < 30 then (if out.length < 2932031007402 then (spec_l5Sheet.l0 k s (out ++ [(⟨acc ++ (ps.drop i).map (fun b => (selB b).1), ds⟩ : S50)]) (wrap64 (e + 1))) else (none)) else (spec_l5Sheet.l0 k s out (wrap64 (e + 1)))) else (spec_l5Sheet.l0 k s out (wrap64 (e + 1)))) r →
  Ev (fun k => spec_l5Sheet.l1 k s out e good ps (ps.length : Int) (i : Int) acc ds) r := by
 intro m
 induction m with
 | zero =>
  intro i acc good hi ha h
  rw [List.drop_eq_nil_of_le (by omega), List.all_nil, Bool.and_true, List.map_nil, List.append_nil] at h
  refine Ev.step (fun k => spec_l5Sheet.l1.eq_2 ..) (ev_if_neg (by omega) ?_)
  exact h
 | succ m ih =>
  intro i acc good hi ha h
  have hil : i < ps.length := by omega
  have hmem : ps.getD i ByteArray.empty ∈ ps := by rw [List.getD_eq_getElem?_getD, List.getElem?_eq_getElem hil]; exact List.getElem_mem hil
  rw [drop_cons ps ByteArray.empty i hil, List.all_cons, List.map_cons] at h
  refine Ev.step (fun k => spec_l5Sheet.l1.eq_2 ..) (ev_if_pos (by omega) (ev_if_pos (by omega) (ev_if_pos (by omega) ?_)))
  rw [rdOf_nat]
  refine ev_bind (selB_spec _ (hs _ hmem)) ?_
  rw [wrap_up hil (by omega)]
  cases good with
  | true =>
   refine ev_if_pos rfl (ev_if_pos (by omega) (ih (i + 1) _ _ (by omega) (by simp; omega) ?_))
   rw [Bool.true_and] at h
   rw [List.append_assoc]
   exact h
  | false =>
   refine ev_if_neg (by decide) (ev_if_pos (by omega) (ih (i + 1) _ _ (by omega) (by simp; omega) ?_))
   rw [Bool.false_and] at h ⊢
   rw [List.append_assoc]
   exact h
set_option maxHeartbeats 4000000 in
theorem sheet_loop (s : ByteArray) (hs : s.size ≤ 1048576) : ∀ (n i : Nat) (out : List S50), s.size + 1 ≤ i + n → i ≤ s.size + 1 → out.length ≤ 30 → (∀ x ∈ out, RuleOk x) →
  ∃ r : List S50, Ev (fun k => spec_l5Sheet.l0 k s out (i : Int)) r ∧ Ev (fun k => impl_ReadSheet.l0 k (ofL ((B s).drop i)) out) (r, true) ∧ r.length ≤ 30 ∧ ∀ x ∈ r, RuleOk x := by
 have hB := B_len s
 have hex : ∀ a i : Nat, s.extract (a : Int).toNat (i : Int).toNat = ofL (((B s).drop a).take (i - a)) := by
  intro a i
  rw [Int.toNat_natCast, Int.toNat_natCast]
  exact B_ext (by rw [B_extract, B_ofL])
 have stop : ∀ (i : Nat) (out : List S50), jL 123 ((B s).drop i) = (B s).length - i → Ev (fun k => impl_ReadSheet.l0 k (ofL ((B s).drop i)) out) (out, true) := by
  intro i out hj
  refine Ev.step (fun k => impl_ReadSheet.l0.eq_2 ..) ?_
  refine ev_bind0 (strings_Cut_eq _ _ (by rw [← B_len, B_ofL, List.length_drop]; omega)) ?_
  rw [B_ofL, show B (⟨#[123]⟩ : ByteArray) = [123] from rfl, cut_one]
  exact ev_if_neg (by rw [decide_eq_true_iff, hj, List.length_drop]; exact Nat.lt_irrefl _) (Ev.now _)
 intro n
 induction n with
 | zero =>
  intro i out h1 h2 h3 h4
  refine ⟨out, ?_, stop i out (by rw [List.drop_eq_nil_of_le (by omega)]; show 0 = _; omega), h3, h4⟩
  exact Ev.step (fun k => spec_l5Sheet.l0.eq_2 ..) (ev_if_neg (by omega) (Ev.now _))
 | succ n ih =>
  intro i out h1 h2 h3 h4
  by_cases hi : i < s.size
  ·have hu : ((B s).drop i).length = s.size - i := by rw [List.length_drop, hB]
   have hj := jL_le 123 ((B s).drop i)
   rw [hu] at hj
   have hf := find_ev s hs 123 (s.size - i) i (by omega)
   by_cases hjl : jL 123 ((B s).drop i) = s.size - i
   ·refine ⟨out, ?_, stop i out (by rw [hB]; exact hjl), h3, h4⟩
    refine Ev.step (fun k => spec_l5Sheet.l0.eq_2 ..) (ev_if_pos (by omega) (ev_bind hf (ev_if_pos (by omega) (Ev.now _))))
   ·have hat := jL_at 123 ((B s).drop i) (by rw [hu]; omega)
    rw [List.drop_drop, List.drop_drop] at hat
    have hcut := cut_one 123 ((B s).drop i)
    rw [hu] at hcut
    clear hu
    generalize jL 123 ((B s).drop i) = j at hj hf hjl hat hcut
    have hf2 := find_ev s hs 125 (s.size - (i + j)) (i + j) (by omega)
    rw [hat, jL_cons, if_neg (by decide)] at hf2
    have hj2 := jL_le 125 ((B s).drop (i + (j + 1)))
    have hu2 : ((B s).drop (i + (j + 1))).length = s.size - (i + (j + 1)) := by rw [List.length_drop, hB]
    have hcut2 := cut_one 125 ((B s).drop (i + (j + 1)))
    rw [hu2] at hj2 hcut2
    clear hu2
    generalize jL 125 ((B s).drop (i + (j + 1))) = j2 at hj2 hf2 hcut2
    have n1 : j + 1 ≤ 1048576 := by omega
    have n2 : j2 ≤ 1048576 := by omega
    have q1 : ((i + j : Nat) : Int) + 1 = ((i + (j + 1) : Nat) : Int) := by omega
    have q2 : ((i + j + (j2 + 1) : Nat) : Int) + 1 = ((i + (j + 1) + (j2 + 1) : Nat) : Int) := by omega
    have w1 : Aside0 (wrap64 (((i + j : Nat) : Int) + 1) = ((i + (j + 1) : Nat) : Int)) := ⟨(congrArg wrap64 q1).trans (wrap_id (by omega) (by omega))⟩
    have w2 : Aside0 (wrap64 (((i + j + (j2 + 1) : Nat) : Int) + 1) = ((i + (j + 1) + (j2 + 1) : Nat) : Int)) := ⟨(congrArg wrap64 q2).trans (wrap_id (by omega) (by omega))⟩
    clear q1 q2
    have hz1 : (ofL (((B s).drop i).take j)).size ≤ 1048576 := by rw [← B_len, B_ofL]; exact Nat.le_trans (List.length_take_le _ _) (Nat.le_of_succ_le n1)
    have hz2 : (ofL (((B s).drop (i + (j + 1))).take j2)).size ≤ 1048576 := by rw [← B_len, B_ofL]; exact Nat.le_trans (List.length_take_le _ _) n2
    obtain ⟨ds, d1, d2, d3⟩ := decls_both (ofL (((B s).drop (i + (j + 1))).take j2)) hz2
    have hsp := splitL_len 44 (((B s).drop i).take j)
    have htl : (((B s).drop i).take j).length ≤ j := List.length_take_le _ _
    have hps3 : ((splitL 44 (((B s).drop i).take j)).map ofL).length ≤ 1048576 := by rw [List.length_map]; exact Nat.le_trans hsp.1 (Nat.le_trans (Nat.succ_le_succ htl) n1)
    have hps1 : ((splitL 44 (((B s).drop i).take j)).map ofL).length ≤ 1048577 := Nat.le_succ_of_le hps3
    have hps2 : ∀ x ∈ (splitL 44 (((B s).drop i).take j)).map ofL, x.size ≤ 1048576 := fun x hx => by
     obtain ⟨y, hy, rfl⟩ := List.mem_map.1 hx
     rw [← B_len, B_ofL]
     exact Nat.le_trans (hsp.2 y hy) (Nat.le_trans htl (Nat.le_of_succ_le n1))
    have sp1 := spec_l1Split_ev (ofL (((B s).drop i).take j)) hz1 44
    have sp2 := strings_Split_one (ofL (((B s).drop i).take j)) (Nat.lt_of_le_of_lt hz1 (by decide)) 44
    clear hsp htl
    rw [B_ofL] at sp1 sp2
    generalize (splitL 44 (((B s).drop i).take j)).map ofL = ps at hps1 hps2 hps3 sp1 sp2
    have key : ∀ r : List S50, Ev (fun k => if ((true : Bool) && (ps.drop 0).all (fun b => (selB b).2)) = true then (if (out.length : Int) < 30 then (if out.length < 2932031007402 then (spec_l5Sheet.l0 k s (out ++ [(⟨[] ++ (ps.drop 0).map (fun b => (selB b).1), ds⟩ : S50)]) (wrap64 (((i + j + (j2 + 1) : Nat) : Int) + 1))) else (none)) else (spec_l5Sheet.l0 k s out (wrap64 (((i + j + (j2 + 1) : Nat) : Int) + 1)))) else (spec_l5Sheet.l0 k s out (wrap64 (((i + j + (j2 + 1) : Nat) : Int) + 1)))) r → Ev (fun k => spec_l5Sheet.l0 k s out (i : Int)) r := by
     intro r hr
     refine Ev.step (fun k => spec_l5Sheet.l0.eq_2 ..) (ev_if_pos (by omega) (ev_bind hf (ev_if_neg (by omega) (ev_bind hf2 ?_))))
     rw [w1.out, hex, hex, show i + j + (j2 + 1) - (i + (j + 1)) = j2 by omega, show i + j - i = j by omega]
     refine ev_if_pos (by omega) (ev_if_pos (by omega) (ev_if_pos (by omega) (ev_bind d1 (ev_if_pos (by omega) (ev_if_pos (by omega) (ev_if_pos (by omega) (ev_bind sp1 ?_)))))))
     exact sheet_l1 s out _ ds r ps hps1 hps2 ps.length 0 [] true (by omega) (by simp) hr
    have key2 : ∀ r : List S50, Ev (fun k => if ((if (ps.drop 0).all (fun b => (selB b).2) = true then ([] ++ (ps.drop 0).map (fun b => (selB b).1), true) else ([], false)) : List (List S102) × Bool).2 = true then (if (out.length : Int) < 30 then ((impl_readDecls.f k (ofL (((B s).drop (i + (j + 1))).take j2))).bind fun t => (if out.length < 2932031007402 then (impl_ReadSheet.l0 k (ofL ((B s).drop (i + (j + 1) + (j2 + 1)))) (out ++ [(⟨((if (ps.drop 0).all (fun b => (selB b).2) = true then ([] ++ (ps.drop 0).map (fun b => (selB b).1), true) else ([], false)) : List (List S102) × Bool).1, t⟩ : S50)])) else (none))) else (impl_ReadSheet.l0 k (ofL ((B s).drop (i + (j + 1) + (j2 + 1)))) out)) else (impl_ReadSheet.l0 k (ofL ((B s).drop (i + (j + 1) + (j2 + 1)))) out)) (r, true) → Ev (fun k => impl_ReadSheet.l0 k (ofL ((B s).drop i)) out) (r, true) := by
     intro r hr
     refine Ev.step (fun k => impl_ReadSheet.l0.eq_2 ..) ?_
     refine ev_bind0 (strings_Cut_eq _ _ (by rw [← B_len, B_ofL, List.length_drop, hB]; omega)) ?_
     rw [B_ofL, show B (⟨#[123]⟩ : ByteArray) = [123] from rfl, hcut]
     refine ev_if_pos (decide_eq_true (by omega)) ?_
     refine ev_bind0 (strings_Cut_eq _ _ (by rw [← B_len, B_ofL, List.length_drop, List.length_drop, hB]; omega)) ?_
     rw [B_ofL, show B (⟨#[125]⟩ : ByteArray) = [125] from rfl, List.drop_drop, hcut2]
     have hsel : Ev (fun k => impl_readSelectors.f k (ofL (((B s).drop i).take j))) (if (ps.drop 0).all (fun b => (selB b).2) = true then ([] ++ (ps.drop 0).map (fun b => (selB b).1), true) else ([], false)) := by
      simp only [impl_readSelectors.f]
      exact ev_bind0 sp2 (selectors_l0 ps hps1 hps2 ps.length 0 [] (by omega) (by simp))
     refine ev_bind hsel ?_
     rw [List.drop_drop]
     exact hr
    rw [w2.out] at key
    have hnext : s.size + 1 ≤ (i + (j + 1) + (j2 + 1)) + n := by omega
    have hnext2 : i + (j + 1) + (j2 + 1) ≤ s.size + 1 := by omega
    by_cases hall : (ps.drop 0).all (fun b => (selB b).2) = true
    ·by_cases hl : (out.length : Int) < 30
     ·have hok : RuleOk (⟨[] ++ (ps.drop 0).map (fun b => (selB b).1), ds⟩ : S50) := by
       refine ⟨?_, ?_, d3⟩
       ·simp; omega
       ·intro y hy
        rw [List.nil_append] at hy
        obtain ⟨b, _, rfl⟩ := List.mem_map.1 hy
        exact selB_good b
      obtain ⟨r, r1, r2, r3, r4⟩ := ih (i + (j + 1) + (j2 + 1)) (out ++ [(⟨[] ++ (ps.drop 0).map (fun b => (selB b).1), ds⟩ : S50)]) hnext hnext2 (by simp; omega) (fun x hx => by
       rcases List.mem_append.1 hx with hx | hx
       ·exact h4 x hx
       ·rw [List.mem_singleton.1 hx]; exact hok)
      refine ⟨r, key r (ev_if_pos (by rw [hall]; rfl) (ev_if_pos hl (ev_if_pos (by omega) r1))), key2 r ?_, r3, r4⟩
      rw [if_pos hall]
      exact ev_if_pos rfl (ev_if_pos hl (ev_bind d2 (ev_if_pos (by omega) r2)))
     ·obtain ⟨r, r1, r2, r3, r4⟩ := ih (i + (j + 1) + (j2 + 1)) out hnext hnext2 h3 h4
      refine ⟨r, key r (ev_if_pos (by rw [hall]; rfl) (ev_if_neg hl r1)), key2 r ?_, r3, r4⟩
      rw [if_pos hall]
      exact ev_if_pos rfl (ev_if_neg hl r2)
    ·obtain ⟨r, r1, r2, r3, r4⟩ := ih (i + (j + 1) + (j2 + 1)) out hnext hnext2 h3 h4
     refine ⟨r, key r (ev_if_neg (by rw [Bool.true_and]; exact hall) r1), key2 r ?_, r3, r4⟩
     rw [if_neg hall]
     exact ev_if_neg (by decide) r2
  ·refine ⟨out, ?_, stop i out (by rw [List.drop_eq_nil_of_le (by omega)]; show 0 = _; omega), h3, h4⟩
   exact Ev.step (fun k => spec_l5Sheet.l0.eq_2 ..) (ev_if_neg (by omega) (Ev.now _))
theorem sheet_both (s : ByteArray) (hs : s.size ≤ 1048576) : ∃ r : List S50 × Bool, Ev (fun k => spec_ReadSheet.f k s) r ∧ Ev (fun k => impl_ReadSheet.f k s) r ∧ r.1.length ≤ 30 ∧ ∀ x ∈ r.1, RuleOk x := by
 by_cases h6 : (s.size : Int) > 1500
 ·refine ⟨([], false), ?_, ?_, by simp, by simp⟩
  ·simp only [spec_ReadSheet.f]; exact ev_if_pos h6 (Ev.now _)
  ·simp only [impl_ReadSheet.f]; exact ev_if_pos h6 (Ev.now _)
 ·have hb := bare_len _ (B s) (Nat.le_refl _)
  rw [B_len] at hb
  have hz : (ofL (bare (B s))).size ≤ 1048576 := by rw [← B_len, B_ofL]; omega
  obtain ⟨r, h1, h2, h3, h4⟩ := sheet_loop (ofL (bare (B s))) hz ((ofL (bare (B s))).size + 1) 0 [] (by omega) (by omega) (by simp) (by simp)
  refine ⟨(r, true), ?_, ?_, h3, h4⟩
  ·simp only [spec_ReadSheet.f, spec_l5Sheet.f]
   exact ev_if_neg h6 (ev_bind (ev_bind (spec_l5Bare_ev s (by omega)) h1) (Ev.now _))
  ·simp only [impl_ReadSheet.f]
   rw [List.drop_zero, B_ofL] at h2
   exact ev_if_neg h6 (ev_bind (impl_withoutComments_ev s (by omega)) h2)
end Go.Proofs.YtooilehdljeepaaGreatDoor.Pure
