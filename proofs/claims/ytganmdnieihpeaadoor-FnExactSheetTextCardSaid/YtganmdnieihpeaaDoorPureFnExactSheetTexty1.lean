/- Lemmas for the pure statement of FnExactSheetText, part 1. -/
import Derived.Test.YtganmdnieihpeaaDoorPFnExactSheetTextx16
import Derived.Test.YtganmdnieihpeaaDoorPlain
import Derived.Test.YtganmdnieihpeaaDoorEvs
import Derived.Test.YtganmdnieihpeaaDoorStr
import Derived.Test.YtganmdnieihpeaaDoorWord
import Derived.Test.YtganmdnieihpeaaDoorTrim
import Derived.Test.YtganmdnieihpeaaDoorCuts
import Derived.Test.YtganmdnieihpeaaDoorDecl
import Derived.Test.YtganmdnieihpeaaDoorGen
set_option linter.unusedVariables false
set_option linter.unusedSimpArgs false
namespace Go.Proofs.YtganmdnieihpeaaDoor.Pure
open Go.RowKit Go.Proofs.YtganmdnieihpeaaDoor.PFnExactSheetText Go.Proofs.YtganmdnieihpeaaDoorW.PrintWords Go.Proofs.YtganmdnieihpeaaDoorW.PrintLast Go.Proofs.YtganmdnieihpeaaDoorW.PrintMore Go.Proofs.YtganmdnieihpeaaDoor.Plain

/-! laws_szStringS -/
-- plain: Evs
def totStr (x : ByteArray) : Int := (x.size : Int)
def totStringS (l : List ByteArray) : Int := (l.length : Int) + (l.map totStr).sum
theorem totStringS_parts (l : List ByteArray) : 0 ≤ (l.map totStr).sum := by
  induction l with
  | nil => simp
  | cons x l ih => rw [List.map_cons, List.sum_cons]; unfold totStr; unfold totStr at ih; omega
theorem laws_szStringS_l0_ev (l : List ByteArray) (hl : l.length ≤ maxLen) (hg : ∀ x ∈ l, x.size ≤ maxLen) : ∀ (d i : Nat) (a : Int), i + d = l.length → 0 ≤ a → a ≤ 1048576 →
    ∃ r, Ev (fun k => laws_szStringS.l0 k l a i) r ∧ (r < 0 ∨ (r = a - ((l.drop i).map totStr).sum ∧ 0 ≤ r)) := by
  unfold maxLen at hl hg
  intro d
  induction d with
  | zero =>
    intro i a hi h0 h1
    refine ⟨a, ev_done fun k => ?_, .inr ⟨by rw [List.drop_eq_nil_of_le (by omega)]; simp, h0⟩⟩
    rw [laws_szStringS.l0, if_neg (by omega)]
  | succ d ih =>
    intro i a hi h0 h1
    have hil : i < l.length := by omega
    have hx : (l.getD i ByteArray.empty).size ≤ 9223372036854775807 := by rw [List.getD_eq_getElem?_getD, List.getElem?_eq_getElem hil]; exact hg _ (List.getElem_mem hil)
    rw [drop_cons l ByteArray.empty i hil, List.map_cons, List.sum_cons]
    have hz : totStr (l.getD i ByteArray.empty) = ((l.getD i ByteArray.empty).size : Int) := rfl
    by_cases c : a - ((l.getD i ByteArray.empty).size : Int) < 0
    · refine ⟨-1, ev_done fun k => ?_, .inl (by omega)⟩
      rw [laws_szStringS.l0, if_pos (by omega), if_pos (by omega), rdOf_nat, wrap_id (x := a - _) (by omega) (by omega), if_pos c]
    · obtain ⟨r, hr, hc⟩ := ih (i + 1) (a - ((l.getD i ByteArray.empty).size : Int)) (by omega) (by omega) (by omega)
      refine ⟨r, Ev.step (fun k => ?_) hr, ?_⟩
      · rw [laws_szStringS.l0, if_pos (by omega), if_pos (by omega), rdOf_nat, wrap_id (x := a - _) (by omega) (by omega), if_neg c, wrap_up hil hl]
      · rcases hc with hc | ⟨hc, hc2⟩
        · exact .inl hc
        · exact .inr ⟨by rw [hc, hz]; omega, hc2⟩
theorem laws_szStringS_ev (l : List ByteArray) (a : Int) (h0 : 0 ≤ a) (h1 : a ≤ 1048576) (hl : l.length ≤ maxLen) (hg : ∀ x ∈ l, x.size ≤ maxLen) :
    ∃ r, Ev (fun k => laws_szStringS.f k l a) r ∧ (r < 0 ∨ (r = a - totStringS l ∧ 0 ≤ r)) := by
  have hl' := hl
  unfold maxLen at hl'
  simp only [laws_szStringS.f]
  rw [wrap_id (x := a - _) (by omega) (by omega)]
  by_cases c : a - (l.length : Int) < 0
  · exact ⟨-1, ev_if_pos c (Ev.now _), .inl (by omega)⟩
  · obtain ⟨r, hr, hc⟩ := laws_szStringS_l0_ev l hl hg l.length 0 (a - (l.length : Int)) (by omega) (by omega) (by omega)
    refine ⟨r, ev_if_neg c hr, ?_⟩
    rcases hc with hc | ⟨hc, hc2⟩
    · exact .inl hc
    · exact .inr ⟨by rw [hc]; unfold totStringS; rw [List.drop_zero]; omega, hc2⟩

/-! laws_szPart -/
-- plain: Evs
def totPart (x : S102) : Int := (x.f0.size : Int) + (x.f1.size : Int) + totStringS x.f2
theorem totPart_nonneg (x : S102) : 0 ≤ totPart x := by unfold totPart totStringS; have := totStringS_parts x.f2; omega
def goodPartIn (x : S102) : Prop := x.f0.size ≤ maxLen ∧ x.f1.size ≤ maxLen ∧ (x.f2.length ≤ maxLen ∧ ∀ y ∈ x.f2, y.size ≤ maxLen)
theorem szPart_ev (x : S102) (a : Int) (h0 : 0 ≤ a) (h1 : a ≤ 1048576) (hg : goodPartIn x) : ∃ r, Ev (fun k => laws_szPart.f k x.f0 x.f1 x.f2 a) r ∧ (r < 0 ∨ (r = a - totPart x ∧ 0 ≤ r)) := by
  obtain ⟨hx, hy, hz, hw⟩ := hg
  have ht : 0 ≤ totStringS x.f2 := by unfold totStringS; have := totStringS_parts x.f2; omega
  unfold maxLen at hx hy
  simp only [laws_szPart.f]
  unfold totPart
  rw [wrap_id (x := a - _) (by omega) (by omega)]
  by_cases c : a - (x.f0.size : Int) < 0
  · exact ⟨_, ev_if_pos c (Ev.now _), .inl (by omega)⟩
  · rw [wrap_id (x := _ - (x.f1.size : Int)) (by omega) (by omega)]
    by_cases c2 : a - (x.f0.size : Int) - (x.f1.size : Int) < 0
    · exact ⟨_, ev_if_neg c (ev_if_pos c2 (Ev.now _)), .inl (by omega)⟩
    · obtain ⟨r, hr, hc⟩ := laws_szStringS_ev x.f2 (a - (x.f0.size : Int) - (x.f1.size : Int)) (by omega) (by omega) hz hw
      rcases hc with hc | ⟨hc, hc2⟩
      · exact ⟨_, ev_if_neg c (ev_if_neg c2 (ev_bind hr (ev_if_pos hc (Ev.now _)))), .inl (by omega)⟩
      · exact ⟨r, ev_if_neg c (ev_if_neg c2 (ev_bind hr (ev_if_neg (by omega) (Ev.now _)))), .inr ⟨by omega, hc2⟩⟩

/-! laws_szPartS -/
-- plain: Evs
def totPartS (l : List S102) : Int := (l.length : Int) + (l.map totPart).sum
theorem totPartS_parts (l : List S102) : 0 ≤ (l.map totPart).sum := by
  induction l with
  | nil => simp
  | cons x l ih => rw [List.map_cons, List.sum_cons]; have := totPart_nonneg x; omega
theorem laws_szPartS_l0_ev (l : List S102) (hl : l.length ≤ maxLen) (hg : ∀ x ∈ l, goodPartIn x) : ∀ (d i : Nat) (a : Int), i + d = l.length → 0 ≤ a → a ≤ 1048576 →
    ∃ r, Ev (fun k => laws_szPartS.l0 k l a i) r ∧ (r < 0 ∨ (r = a - ((l.drop i).map totPart).sum ∧ 0 ≤ r)) := by
  unfold maxLen at hl
  intro d
  induction d with
  | zero =>
    intro i a hi h0 h1
    refine ⟨a, ev_done fun k => ?_, .inr ⟨by rw [List.drop_eq_nil_of_le (by omega)]; simp, h0⟩⟩
    rw [laws_szPartS.l0, if_neg (by omega)]
  | succ d ih =>
    intro i a hi h0 h1
    have hil : i < l.length := by omega
    have hx : goodPartIn (l.getD i z102) := by rw [List.getD_eq_getElem?_getD, List.getElem?_eq_getElem hil]; exact hg _ (List.getElem_mem hil)
    have hrd : rd_T102 l (i : Int) = l.getD i z102 := by simp [rd_T102]
    rw [drop_cons l z102 i hil, List.map_cons, List.sum_cons]
    obtain ⟨r1, e1, c1⟩ := szPart_ev (l.getD i z102) a h0 h1 hx
    have ht := totPart_nonneg (l.getD i z102)
    rcases c1 with c1 | ⟨c1, c2⟩
    · refine ⟨-1, (by refine Ev.step (fun k => by rw [laws_szPartS.l0, if_pos (by omega), if_pos (by omega), hrd]) ?_; exact ev_bind e1 (ev_if_pos c1 (Ev.now _))), .inl (by omega)⟩
    · obtain ⟨r, hr, hc⟩ := ih (i + 1) r1 (by omega) c2 (by omega)
      refine ⟨r, (by refine Ev.step (fun k => by rw [laws_szPartS.l0, if_pos (by omega), if_pos (by omega), hrd]) ?_; refine ev_bind e1 (ev_if_neg (by omega) ?_); rw [wrap_up hil hl]; exact hr), ?_⟩
      rcases hc with hc | ⟨hc, hc2⟩
      · exact .inl hc
      · exact .inr ⟨by rw [hc, c1]; omega, hc2⟩
theorem laws_szPartS_ev (l : List S102) (a : Int) (h0 : 0 ≤ a) (h1 : a ≤ 1048576) (hl : l.length ≤ maxLen) (hg : ∀ x ∈ l, goodPartIn x) :
    ∃ r, Ev (fun k => laws_szPartS.f k l a) r ∧ (r < 0 ∨ (r = a - totPartS l ∧ 0 ≤ r)) := by
  have hl' := hl
  unfold maxLen at hl'
  simp only [laws_szPartS.f]
  rw [wrap_id (x := a - _) (by omega) (by omega)]
  by_cases c : a - (l.length : Int) < 0
  · exact ⟨-1, ev_if_pos c (Ev.now _), .inl (by omega)⟩
  · obtain ⟨r, hr, hc⟩ := laws_szPartS_l0_ev l hl hg l.length 0 (a - (l.length : Int)) (by omega) (by omega) (by omega)
    refine ⟨r, ev_if_neg c hr, ?_⟩
    rcases hc with hc | ⟨hc, hc2⟩
    · exact .inl hc
    · exact .inr ⟨by rw [hc]; unfold totPartS; rw [List.drop_zero]; omega, hc2⟩

/-! spec_l1In -/
theorem spec_l1In_eq (a b c : Int) : spec_l1In.f a b c = some (decide (b ≤ a ∧ a ≤ c)) := by
  unfold spec_l1In.f
  split
  · rename_i h; simp [show b ≤ a from h]
  · rename_i h; simp [show ¬ b ≤ a from h]

/-! spec_l1Digit -/
-- plain: Word
theorem spec_l1Digit_eq (c : Int) : spec_l1Digit.f c = some (digI c) := by
  unfold spec_l1Digit.f digI
  split
  · rename_i h; congr 1; rw [decide_eq_decide]; omega
  · rename_i h; congr 1; rw [eq_comm, decide_eq_false_iff_not]; omega

/-! spec_l4Letter -/
-- plain: Word
theorem spec_l4Letter_eq (c : Int) : spec_l4Letter.f c = some (ltrI c || decide (c = 95)) := by
  have hb : (c == 95) = decide (c = 95) := by rw [Bool.eq_iff_iff]; simp
  unfold spec_l4Letter.f
  rw [hb]
  unfold ltrI
  by_cases h1 : (97 ≤ c ∧ c ≤ 122)
  · rw [if_pos h1.1, if_pos h1.2, decide_eq_true (p := (97 ≤ c ∧ c ≤ 122) ∨ (65 ≤ c ∧ c ≤ 90)) (.inl h1)]; rfl
  · by_cases h2 : (65 ≤ c ∧ c ≤ 90)
    · rw [decide_eq_true (p := (97 ≤ c ∧ c ≤ 122) ∨ (65 ≤ c ∧ c ≤ 90)) (.inr h2), Bool.true_or]
      by_cases h3 : c ≥ 97
      · omega
      · rw [if_neg h3, if_pos h2.1, if_pos h2.2]
    · rw [decide_eq_false (p := (97 ≤ c ∧ c ≤ 122) ∨ (65 ≤ c ∧ c ≤ 90)) (by omega), Bool.false_or]
      by_cases h3 : c ≥ 97
      · rw [if_pos h3, if_neg (by omega), if_pos (by omega), if_neg (by omega)]
      · rw [if_neg h3]
        by_cases h4 : c ≥ 65
        · rw [if_pos h4, if_neg (by omega)]
        · rw [if_neg h4]

/-! spec_l5Start -/
-- plain: Word
theorem spec_l5Start_eq (c : Int) : spec_l5Start.f c = some (ltrI c || decide (c = 95) || decide (c = 45)) := by
  have hb : (c == 45) = decide (c = 45) := by rw [Bool.eq_iff_iff]; simp
  unfold spec_l5Start.f
  rw [spec_l4Letter_eq, Option.bind_some, hb]
  split
  · rename_i h; rw [h, Bool.true_or]
  · rename_i h; rw [Bool.not_eq_true] at h; rw [h, Bool.false_or]

/-! spec_l5Inner -/
-- plain: Word
theorem spec_l5Inner_eq (c : Int) : spec_l5Inner.f c = some (wordI c) := by
  unfold spec_l5Inner.f
  rw [spec_l5Start_eq, Option.bind_some, spec_l1Digit_eq, Option.bind_some]
  unfold wordI
  generalize ltrI c = a; generalize digI c = b; generalize decide (c = 95) = d; generalize decide (c = 45) = e
  cases a <;> cases b <;> cases d <;> cases e <;> rfl

/-! spec_l5Run -/
-- plain: Word
def runL (l : List UInt8) : Nat := if runEnd wordU l 0 = 0 then 0 else if digU (l.getD 0 0) = true then 0 else if runEnd wordU l 0 > 30 then 0 else runEnd wordU l 0
theorem spec_l5Run_ev (s : ByteArray) (hs : s.size ≤ 9223372036854775806) : Ev (fun k => spec_l5Run.f k s) ((runL (B s) : Nat) : Int) := by
  refine Ev.congr (f := fun k => spec_l5Run.l0 k s 0) (fun k => rfl) ?_
  have hl := B_len s
  have fin : ∀ e : Nat, e ≤ (B s).length → ∀ k : Nat, (if (e : Int) = 0 then (some (0 : Int)) else (if 0 < (s.size : Int) then ((spec_l1Digit.f (bt s 0)).bind fun t => (if t = true then (some 0) else (if (e : Int) > 30 then (some 0) else (some (e : Int))))) else (none))) =
      some (((if e = 0 then 0 else if digU ((B s).getD 0 0) = true then 0 else if e > 30 then 0 else e : Nat) : Nat) : Int) := by
    intro e he k
    by_cases h0 : e = 0
    · rw [if_pos (by omega), if_pos h0]; rfl
    · have hb := bt_U s 0 (by omega)
      have hd : digI (bt s 0) = digU ((B s).getD 0 0) := by
        have : bt s ((0 : Nat) : Int) = bt s 0 := rfl
        rw [← this, hb]; rfl
      rw [if_neg (by omega), if_neg h0, if_pos (by omega), spec_l1Digit_eq, Option.bind_some, hd]
      split
      · rfl
      · by_cases h30 : e > 30
        · rw [if_pos (by omega), if_pos h30]; rfl
        · rw [if_neg (by omega), if_neg h30]
  have key := ev_from (B s).length (fun i k => spec_l5Run.l0 k s i) (fun i => (((if runEnd wordU (B s) i = 0 then 0 else if digU ((B s).getD 0 0) = true then 0 else if runEnd wordU (B s) i > 30 then 0 else runEnd wordU (B s) i : Nat) : Nat) : Int)) ?_ ?_ 0 (by omega)
  · exact key
  · refine ev_done fun k => ?_
    rw [spec_l5Run.l0, if_neg (by omega), fin _ (Nat.le_refl _) k, runEnd_end _ _ _ (Nat.le_refl _)]
  · intro i hi h
    by_cases hp : wordU ((B s).getD i 0) = true
    · rw [runEnd_yes _ _ _ hi hp]
      refine Ev.step (fun k => ?_) h
      rw [spec_l5Run.l0, if_pos (by omega), if_pos (by omega), spec_l5Inner_eq, Option.bind_some, bt_U s i hi, if_pos (show wordI _ = true from hp), wrap_up hi (by omega)]
    · refine ev_done fun k => ?_
      rw [spec_l5Run.l0, if_pos (by omega), if_pos (by omega), spec_l5Inner_eq, Option.bind_some, bt_U s i hi, if_neg (show ¬ wordI _ = true from hp), runEnd_no _ _ _ hi hp, fin i (by omega) k]

/-! spec_l5Word -/
-- plain: Word
theorem runL_word (l : List UInt8) : (decide (0 < l.length) && decide (runL l = l.length)) = isWordL l := by
  unfold isWordL runL
  have hr := runEnd_le wordU l 0 (by omega)
  have ha := runEnd_all wordU l
  by_cases h0 : 0 < l.length
  · rw [decide_eq_true h0, Bool.true_and]
    cases hd : digU (l.getD 0 0) with
    | true =>
      simp only [if_true, Bool.not_true, Bool.and_false, Bool.false_and]
      rw [decide_eq_false_iff_not]; split <;> omega
    | false =>
      simp only [Bool.false_eq_true, if_false, Bool.not_false, Bool.and_true]
      by_cases hw : l.all wordU = true
      · rw [hw, Bool.and_true, decide_eq_decide, ha.2 hw]
        rw [if_neg (by omega)]
        split <;> omega
      · have hne : runEnd wordU l 0 ≠ l.length := fun h => hw (ha.1 h)
        rw [Bool.not_eq_true] at hw
        rw [hw, Bool.and_false, decide_eq_false_iff_not]
        split
        · omega
        · split <;> omega
  · rw [decide_eq_false h0, decide_eq_false (p := 1 ≤ l.length ∧ l.length ≤ 30) (by omega)]; simp
theorem spec_l5Word_ev (s : ByteArray) (hs : s.size ≤ 9223372036854775806) : Ev (fun k => spec_l5Word.f k s) (isWordL (B s)) := by
  have hl := B_len s
  simp only [spec_l5Word.f]
  rw [← runL_word]
  by_cases h : (s.size : Int) > 0
  · refine ev_if_pos h (ev_bind (spec_l5Run_ev s hs) ?_)
    have e : (decide (0 < (B s).length) && decide (runL (B s) = (B s).length)) = (((runL (B s) : Nat) : Int) == (s.size : Int)) := by
      rw [decide_eq_true (by omega), Bool.true_and, Bool.eq_iff_iff, decide_eq_true_iff, beq_iff_eq]; omega
    rw [e]; exact Ev.now _
  · refine ev_if_neg h ?_
    rw [decide_eq_false (by omega), Bool.false_and]; exact Ev.now _

/-! spec_l5GoodPart -/
-- plain: Word
def sizesPart (x : S63) : Prop := x.f0.size ≤ 1048576 ∧ x.f1.size ≤ 1048576 ∧ x.f2.length ≤ 1048576 ∧ ∀ y ∈ x.f2, y.size ≤ 1048576
def typeOkL (l : List UInt8) : Bool := decide (l = []) || decide (l = [42]) || isWordL l
def idOkL (l : List UInt8) : Bool := decide (l = []) || isWordL l
def partOk (x : S63) : Bool := typeOkL (B x.f0) && idOkL (B x.f1) && decide (x.f2.length ≤ 4) && x.f2.all (fun y => isWordL (B y)) && (!decide (B x.f0 = []) || !decide (B x.f1 = []) || decide (0 < x.f2.length))
theorem spec_l5GoodPart_l0_ev (a b : ByteArray) (c : List ByteArray) (hc : c.length ≤ 1048576) (hg : ∀ y ∈ c, y.size ≤ 1048576) :
    Ev (fun k => spec_l5GoodPart.l0 k c c.length 0 a b c) (c.all (fun y => isWordL (B y)) && (!decide (B a = []) || !decide (B b = []) || decide (0 < c.length))) := by
  refine ev_from c.length (fun i k => spec_l5GoodPart.l0 k c c.length i a b c) (fun i => (c.drop i).all (fun y => isWordL (B y)) && (!decide (B a = []) || !decide (B b = []) || decide (0 < c.length))) ?_ ?_ 0 (by omega)
  · refine ev_done fun k => ?_
    rw [spec_l5GoodPart.l0, if_neg (by omega), toList_B, toList_B]
    simp only [List.drop_length, List.all_nil, Bool.true_and]
    by_cases h1 : B a = []
    · rw [if_pos h1, decide_eq_true h1]
      by_cases h2 : B b = []
      · rw [if_pos h2, decide_eq_true h2]; simp
      · rw [if_neg h2, decide_eq_false h2]; simp
    · rw [if_neg h1, decide_eq_false h1]; simp
  · intro i hi h
    have hmem : c.getD i ByteArray.empty ∈ c := by rw [List.getD_eq_getElem?_getD, List.getElem?_eq_getElem hi]; exact List.getElem_mem hi
    have hz := hg _ hmem
    rw [drop_cons c ByteArray.empty i hi, List.all_cons]
    refine Ev.step (fun k => by rw [spec_l5GoodPart.l0, if_pos (by omega), if_pos (by omega), if_pos (by omega), rdOf_nat]) ?_
    refine ev_bind (spec_l5Word_ev _ (by omega)) ?_
    cases isWordL (B (c.getD i ByteArray.empty)) with
    | true => refine ev_if_pos rfl ?_; rw [wrap_up hi (by omega), Bool.true_and]; exact h
    | false => refine ev_if_neg (by decide) ?_; rw [Bool.false_and, Bool.false_and]; exact Ev.now _
theorem spec_l5GoodPart_j0_ev (t : Bool) (a b : ByteArray) (c : List ByteArray) (hc : c.length ≤ 1048576) (hg : ∀ y ∈ c, y.size ≤ 1048576) :
    Ev (fun k => spec_l5GoodPart.j0 k t a b c) (!t && (c.all (fun y => isWordL (B y)) && (!decide (B a = []) || !decide (B b = []) || decide (0 < c.length)))) := by
  refine Ev.step (fun k => spec_l5GoodPart.j0.eq_2 ..) ?_
  cases t with
  | true => exact ev_if_pos rfl (Ev.now _)
  | false => exact ev_if_neg (by decide) (spec_l5GoodPart_l0_ev a b c hc hg)
theorem spec_l5GoodPart_ev (x : S63) (hx : sizesPart x) : Ev (fun k => spec_l5GoodPart.f k x.f0 x.f1 x.f2) (partOk x) := by
  obtain ⟨x0, x1, x2⟩ := x
  obtain ⟨h0, h1, h2, h3⟩ := hx
  simp only at h0 h1 h2 h3
  have hle : decide (x2.length ≤ 4) = !(decide ((x2.length : Int) > 4)) := by rw [Bool.eq_iff_iff]; simp; omega
  have fin : ∀ (p : Bool), Ev (fun k => if idOkL (B x1) = true then spec_l5GoodPart.j0 k (decide ((x2.length : Int) > 4)) x0 x1 x2 else spec_l5GoodPart.j0 k true x0 x1 x2) (idOkL (B x1) && decide (x2.length ≤ 4) && (x2.all (fun y => isWordL (B y)) && (!decide (B x0 = []) || !decide (B x1 = []) || decide (0 < x2.length)))) := by
    intro _
    cases hi : idOkL (B x1) with
    | true => refine ev_if_pos rfl ?_; rw [hle, Bool.true_and]; exact spec_l5GoodPart_j0_ev _ x0 x1 x2 h2 h3
    | false => refine ev_if_neg (by decide) ?_; rw [Bool.false_and, Bool.false_and]; exact spec_l5GoodPart_j0_ev true x0 x1 x2 h2 h3
  have rest : Ev (fun k => if x1.toList = ([] : List UInt8) then spec_l5GoodPart.j0 k (decide ((x2.length : Int) > 4)) x0 x1 x2 else (spec_l5Word.f k x1).bind fun t => if t = true then spec_l5GoodPart.j0 k (decide ((x2.length : Int) > 4)) x0 x1 x2 else spec_l5GoodPart.j0 k true x0 x1 x2) (idOkL (B x1) && decide (x2.length ≤ 4) && (x2.all (fun y => isWordL (B y)) && (!decide (B x0 = []) || !decide (B x1 = []) || decide (0 < x2.length)))) := by
    have f := fin true
    by_cases hb : B x1 = []
    · refine ev_if_pos (by rw [toList_B]; exact hb) ?_
      have hi : idOkL (B x1) = true := by unfold idOkL; rw [hb]; rfl
      simp only [hi, if_true] at f
      rw [hi]; exact f
    · refine ev_if_neg (by rw [toList_B]; exact hb) ?_
      have hi : idOkL (B x1) = isWordL (B x1) := by unfold idOkL; rw [decide_eq_false hb, Bool.false_or]
      rw [hi] at f
      refine ev_bind (spec_l5Word_ev x1 (by omega)) ?_
      rw [hi]; exact f
  have e : partOk ⟨x0, x1, x2⟩ = (typeOkL (B x0) && (idOkL (B x1) && decide (x2.length ≤ 4) && (x2.all (fun y => isWordL (B y)) && (!decide (B x0 = []) || !decide (B x1 = []) || decide (0 < x2.length))))) := by
    unfold partOk; simp only [Bool.and_assoc]
  rw [e]
  simp only [spec_l5GoodPart.f]
  by_cases ha : B x0 = []
  · refine ev_if_pos (by rw [toList_B]; exact ha) ?_
    have ht : typeOkL (B x0) = true := by unfold typeOkL; rw [ha]; rfl
    rw [ht, Bool.true_and]; exact rest
  · refine ev_if_neg (by rw [toList_B]; exact ha) ?_
    by_cases hs : B x0 = [42]
    · refine ev_if_pos (by rw [toList_B]; exact hs) ?_
      have ht : typeOkL (B x0) = true := by unfold typeOkL; rw [hs]; rfl
      rw [ht, Bool.true_and]; exact rest
    · refine ev_if_neg (by rw [toList_B]; exact hs) ?_
      have ht : typeOkL (B x0) = isWordL (B x0) := by unfold typeOkL; rw [decide_eq_false ha, decide_eq_false hs]; simp
      refine ev_bind (spec_l5Word_ev x0 (by omega)) ?_
      rw [ht]
      cases isWordL (B x0) with
      | true => refine ev_if_pos rfl ?_; rw [Bool.true_and]; exact rest
      | false => refine ev_if_neg (by decide) ?_; rw [Bool.false_and]; exact spec_l5GoodPart_j0_ev true x0 x1 x2 h2 h3

/-! spec_l5Good -/
-- plain: Word
def selOk (l : List S63) : Bool := decide (1 ≤ l.length ∧ l.length ≤ 5) && l.all partOk
theorem spec_l5Good_ev (l : List S63) (hl : l.length ≤ 1048576) (hg : ∀ x ∈ l, sizesPart x) : Ev (fun k => spec_l5Good.f k l) (selOk l) := by
  simp only [spec_l5Good.f, spec_l1In_eq, Option.bind_some]
  unfold selOk
  by_cases h : 1 ≤ l.length ∧ l.length ≤ 5
  · refine ev_if_pos (by rw [decide_eq_true_iff]; omega) ?_
    rw [decide_eq_true h, Bool.true_and]
    refine ev_from l.length (fun i k => spec_l5Good.l0 k l l.length i) (fun i => (l.drop i).all partOk) ?_ ?_ 0 (by omega)
    · refine ev_done fun k => ?_
      rw [spec_l5Good.l0, if_neg (by omega)]; simp
    · intro i hi hh
      have hrd : rd_T63 l (i : Int) = l.getD i z63 := by simp [rd_T63]
      have hmem : l.getD i z63 ∈ l := by rw [List.getD_eq_getElem?_getD, List.getElem?_eq_getElem hi]; exact List.getElem_mem hi
      rw [drop_cons l z63 i hi, List.all_cons]
      refine Ev.step (fun k => by rw [spec_l5Good.l0, if_pos (by omega), if_pos (by omega), if_pos (by omega), hrd]) ?_
      refine ev_bind (spec_l5GoodPart_ev _ (hg _ hmem)) ?_
      cases partOk (l.getD i z63) with
      | true => refine ev_if_pos rfl ?_; rw [wrap_up hi (by omega), Bool.true_and]; exact hh
      | false => refine ev_if_neg (by decide) ?_; rw [Bool.false_and]; exact Ev.now _
  · refine ev_if_neg (by rw [decide_eq_true_iff]; omega) ?_
    rw [decide_eq_false h, Bool.false_and]; exact Ev.now _

/-! spec_l4Blank -/
-- plain: Trim
theorem spec_l4Blank_eq (c : UInt8) : spec_l4Blank.f (c.toNat : Int) = some (blankU c) := by
  unfold spec_l4Blank.f blankU
  have e : ∀ n : Nat, n < 256 → (((c.toNat : Int) = (n : Int)) ↔ c = UInt8.ofNat n) := fun n hn => u8_nat hn
  by_cases h9 : c = 9
  · subst h9; rfl
  · rw [if_neg (by rw [show (9 : Int) = ((9 : Nat) : Int) from rfl, e 9 (by omega)]; exact h9)]
    by_cases h10 : c = 10
    · subst h10; rfl
    · rw [if_neg (by rw [show (10 : Int) = ((10 : Nat) : Int) from rfl, e 10 (by omega)]; exact h10)]
      by_cases h13 : c = 13
      · subst h13; rfl
      · rw [if_neg (by rw [show (13 : Int) = ((13 : Nat) : Int) from rfl, e 13 (by omega)]; exact h13)]
        by_cases h32 : c = 32
        · subst h32; rfl
        · have h1 : ((c.toNat : Int) == 32) = false := beq_eq_false_iff_ne.mpr (by rw [show (32 : Int) = ((32 : Nat) : Int) from rfl]; exact fun h => h32 ((e 32 (by omega)).1 h))
          rw [h1]
          simp [h9, h10, h13, h32]

/-! spec_l5Trim -/
-- plain: Evs Trim
theorem l5Trim_right : ∀ (n : Nat) (s : ByteArray), s.size = n → n ≤ 1048576 → Ev (fun k => spec_l5Trim.l1 k s) (ofL (dropR (B s))) := by
  intro n
  induction n with
  | zero =>
    intro s hs _
    have e : B s = [] := List.length_eq_zero_iff.mp (by rw [B_len]; exact hs)
    refine Ev.step (fun k => spec_l5Trim.l1.eq_2 ..) (ev_if_neg (by omega) ?_)
    have e2 : ofL (dropR (B s)) = s := by rw [e, dropR_nil, ← e, ofL_B]
    rw [e2]; exact Ev.now _
  | succ n ih =>
    intro s hs hn
    have hl := B_len s
    refine Ev.step (fun k => spec_l5Trim.l1.eq_2 ..) (ev_if_pos (by omega) ?_)
    rw [wrap_id (x := (s.size : Int) - 1) (by omega) (by omega), show (s.size : Int) - 1 = (n : Int) by omega]
    refine ev_if_pos (by omega) (ev_if_pos (by omega) ?_)
    rw [bt_U s n (by omega)]
    refine ev_bind0 (spec_l4Blank_eq _) ?_
    have hsplit : B s = (B s).take n ++ [(B s).getD n 0] := by
      have h1 := List.take_append_drop n (B s)
      rw [drop_cons (B s) 0 n (by omega), List.drop_eq_nil_of_le (by omega)] at h1
      exact h1.symm
    have hR : dropR (B s) = if blankU ((B s).getD n 0) = true then dropR ((B s).take n) else B s := by
      have h1 := dropR_snoc ((B s).take n) ((B s).getD n 0)
      rw [← hsplit] at h1
      exact h1
    rw [hR]
    by_cases hb : blankU ((B s).getD n 0) = true
    · rw [if_pos hb]
      refine ev_if_pos hb (ev_if_pos (by omega) ?_)
      rw [Int.toNat_natCast]
      have hB : B (s.extract 0 n) = (B s).take n := by rw [B_extract]; simp
      have h2 := ih (s.extract 0 n) (by rw [← B_len, hB, List.length_take]; omega) (by omega)
      rw [hB] at h2
      exact h2
    · rw [if_neg hb, ofL_B]
      exact ev_if_neg hb (Ev.now _)
theorem l5Trim_left : ∀ (n : Nat) (s : ByteArray), s.size = n → n ≤ 1048576 → Ev (fun k => spec_l5Trim.l0 k s) (ofL (dropR (dropL (B s)))) := by
  intro n
  induction n with
  | zero =>
    intro s hs hn
    have e : B s = [] := List.length_eq_zero_iff.mp (by rw [B_len]; exact hs)
    have h := l5Trim_right 0 s hs hn
    have e2 : dropL (B s) = B s := by rw [e]; rfl
    rw [e2]
    exact Ev.step (fun k => spec_l5Trim.l0.eq_2 ..) (ev_if_neg (by omega) (Ev.step (fun k => spec_l5Trim.j1.eq_2 ..) h))
  | succ n ih =>
    intro s hs hn
    have hl := B_len s
    refine Ev.step (fun k => spec_l5Trim.l0.eq_2 ..) (ev_if_pos (by omega) (ev_if_pos (by omega) ?_))
    rw [show bt s 0 = _ from bt_U s 0 (by omega)]
    refine ev_bind0 (spec_l4Blank_eq _) ?_
    have hsplit : B s = (B s).getD 0 0 :: (B s).drop 1 := by
      have h1 := drop_cons (B s) 0 0 (by omega)
      rw [List.drop_zero] at h1
      exact h1
    by_cases hb : blankU ((B s).getD 0 0) = true
    · refine ev_if_pos hb (ev_if_pos (by omega) ?_)
      have hB : B (s.extract 1 s.size) = (B s).drop 1 := by
        rw [B_extract, List.take_of_length_le (by rw [List.length_drop]; omega)]
      have h2 := ih (s.extract 1 s.size) (by rw [← B_len, hB, List.length_drop]; omega) (by omega)
      rw [hB] at h2
      have e : dropL (B s) = dropL ((B s).drop 1) := by
        rw [hsplit]; unfold dropL; rw [List.dropWhile_cons, if_pos (by simpa using hb)]; simp
      rw [e]
      exact h2
    · have e : dropL (B s) = B s := by
        rw [hsplit]; unfold dropL; rw [List.dropWhile_cons, if_neg (by simpa using hb)]
      rw [e]
      exact ev_if_neg hb (Ev.step (fun k => spec_l5Trim.j1.eq_2 ..) (l5Trim_right (n + 1) s hs hn))
/-- a text without blanks around it. -/
def trimP (s : ByteArray) : ByteArray := ofL (dropR (dropL (B s)))
theorem trimP_size (s : ByteArray) : (trimP s).size ≤ s.size := by
  rw [← B_len, ← B_len]
  unfold trimP
  rw [B_ofL]
  exact Nat.le_trans (dropR_len _) (dropL_len _)
theorem spec_l5Trim_ev (s : ByteArray) (hs : s.size ≤ 1048576) : Ev (fun k => spec_l5Trim.f k s) (trimP s) := l5Trim_left s.size s rfl hs

/-! laws_toStringS -/
-- plain: Evs
theorem laws_toStringS_ev (l : List ByteArray) (hn : l.length ≤ 1048576) : Ev (fun k => laws_toStringS.f k l) l := by
  refine Ev.congr (f := fun k => laws_toStringS.l0 k l (List.replicate l.length (⟨#[]⟩ : ByteArray)) 0) (fun k => ?_) ?_
  · unfold laws_toStringS.f; rw [if_pos (by omega), if_pos (by omega)]; rfl
  · refine ev_up l.length (fun i k => laws_toStringS.l0 k l (l.take i ++ List.replicate (l.length - i) (⟨#[]⟩ : ByteArray)) i) l ?_ ?_
    · refine ev_done fun k => ?_
      rw [laws_toStringS.l0, if_neg (by omega)]; simp
    · intro i hi h
      refine Ev.step (fun k => ?_) h
      rw [laws_toStringS.l0, if_pos (by omega), if_pos (by omega), if_pos (by simp; omega), wrap_up hi (by omega), rdOf_nat, Int.toNat_natCast, take_set _ _ _ hi _ (by simp; omega), List.tail_replicate]
      congr 3

/-! laws_toPart -/
-- plain: Evs
def toPart (x : S102) : S63 := ⟨x.f0, x.f1, x.f2⟩
theorem laws_toPart_ev (x : S102) (hn : x.f2.length ≤ 1048576) : Ev (fun k => laws_toPart.f k x.f0 x.f1 x.f2) (x.f0, x.f1, x.f2) := by
  simp only [laws_toPart.f]
  exact ev_bind (laws_toStringS_ev x.f2 hn) (Ev.now _)

/-! laws_toPartS -/
-- plain: Evs
theorem laws_toPartS_ev (l : List S102) (hn : l.length ≤ 1048576) (hg : ∀ x ∈ l, x.f2.length ≤ 1048576) : Ev (fun k => laws_toPartS.f k l) (l.map toPart) := by
  refine Ev.congr (f := fun k => laws_toPartS.l0 k l (List.replicate l.length z63) 0) (fun k => ?_) ?_
  · unfold laws_toPartS.f; rw [if_pos (by omega), if_pos (by omega)]; rfl
  · refine ev_up l.length (fun i k => laws_toPartS.l0 k l ((l.map toPart).take i ++ List.replicate (l.length - i) z63) i) (l.map toPart) ?_ ?_
    · refine ev_done fun k => ?_
      rw [laws_toPartS.l0, if_neg (by omega), List.take_of_length_le (by simp)]; simp
    · intro i hi h
      have hrd : rd_T102 l (i : Int) = l.getD i z102 := by simp [rd_T102]
      have hmem : l.getD i z102 ∈ l := by rw [List.getD_eq_getElem?_getD, List.getElem?_eq_getElem hi]; exact List.getElem_mem hi
      have e : toPart (l.getD i z102) = (l.map toPart).getD i z63 := by simp [hi]
      refine Ev.step (fun k => by rw [laws_toPartS.l0, if_pos (by omega), if_pos (by omega), hrd]) ?_
      refine ev_bind (laws_toPart_ev (l.getD i z102) (hg _ hmem)) (ev_if_pos (by simp; omega) ?_)
      have e2 := take_set (l.map toPart) z63 i (by simpa using hi) (List.replicate (l.length - i) z63) (by simp; omega)
      rw [← e, List.tail_replicate] at e2
      rw [Int.toNat_natCast, wrap_up hi (by omega)]
      refine Ev.congr (fun k => ?_) h
      rw [show l.length - (i + 1) = l.length - i - 1 by omega, ← e2]
      rfl

/-! impl_within -/
theorem impl_within_eq (a b c : Int) : impl_within.f a b c = some (decide (b ≤ a ∧ a ≤ c)) := by
  unfold impl_within.f
  split
  · rename_i h; simp [h]
  · rename_i h; simp [h]

/-! impl_isDigit -/
-- plain: Word
theorem impl_isDigit_eq (c : Int) : impl_isDigit.f c = some (digI c) := by
  unfold impl_isDigit.f digI
  split
  · rename_i h; congr 1; rw [decide_eq_decide]; omega
  · rename_i h; congr 1; rw [eq_comm, decide_eq_false_iff_not]; omega

/-! impl_isLetter -/
-- plain: Word
theorem impl_isLetter_eq (c : Int) : impl_isLetter.f c = some (ltrI c) := by
  unfold impl_isLetter.f ltrI
  split
  · split
    · congr 1; rw [eq_comm, decide_eq_true_iff]; omega
    · split
      · congr 1; rw [decide_eq_decide]; omega
      · congr 1; rw [eq_comm, decide_eq_false_iff_not]; omega
  · split
    · congr 1; rw [decide_eq_decide]; omega
    · congr 1; rw [eq_comm, decide_eq_false_iff_not]; omega

/-! impl_wordEnd -/
-- plain: Word
theorem impl_wordEnd_l0_ev (s : ByteArray) (hs : s.size ≤ 9223372036854775806) (i : Nat) : Ev (fun k => impl_wordEnd.l0 k s i) ((runEnd wordU (B s) i : Nat) : Int) := by
  have hl := B_len s
  by_cases hi0 : i ≤ (B s).length
  · refine ev_from (B s).length (fun i k => impl_wordEnd.l0 k s i) (fun i => ((runEnd wordU (B s) i : Nat) : Int)) ?_ ?_ i hi0
    · refine ev_done fun k => ?_
      rw [impl_wordEnd.l0, if_neg (by omega), runEnd_end _ _ _ (Nat.le_refl _)]
    · intro i hi h
      have hb := bt_U s i hi
      by_cases hp : wordU ((B s).getD i 0) = true
      · rw [runEnd_yes _ _ _ hi hp]
        refine Ev.step (fun k => ?_) h
        rw [impl_wordEnd.l0, if_pos (by omega), if_pos (by omega), impl_isLetter_eq, Option.bind_some, impl_isDigit_eq, Option.bind_some, hb, wrap_up hi (by omega)]
        unfold wordU wordI at hp
        by_cases c1 : ltrI (((B s).getD i 0).toNat : Int) = true
        · rw [if_pos c1]
        · rw [if_neg c1]
          by_cases c2 : digI (((B s).getD i 0).toNat : Int) = true
          · rw [if_pos c2]
          · rw [if_neg c2]
            by_cases c3 : (((B s).getD i 0).toNat : Int) = 95
            · rw [if_pos c3]
            · rw [if_neg c3, if_pos]
              simp only [Bool.not_eq_true] at c1 c2
              rw [c1, c2, decide_eq_false c3] at hp
              simpa using hp
      · refine ev_done fun k => ?_
        rw [impl_wordEnd.l0, if_pos (by omega), if_pos (by omega), impl_isLetter_eq, Option.bind_some, impl_isDigit_eq, Option.bind_some, hb, runEnd_no _ _ _ hi hp]
        unfold wordU wordI at hp
        simp only [Bool.or_eq_true, not_or, decide_eq_true_iff] at hp
        rw [if_neg hp.1.1.1, if_neg hp.1.1.2, if_neg hp.1.2, if_neg hp.2]
  · refine ev_done fun k => ?_
    rw [impl_wordEnd.l0, if_neg (by omega), runEnd_end _ _ _ (by omega)]
def wordEndL (l : List UInt8) (i : Nat) : Nat := if i < l.length ∧ digU (l.getD i 0) = true then i else runEnd wordU l i
theorem impl_wordEnd_ev (s : ByteArray) (hs : s.size ≤ 9223372036854775806) (i : Nat) : Ev (fun k => impl_wordEnd.f k s i) ((wordEndL (B s) i : Nat) : Int) := by
  have hl := B_len s
  simp only [impl_wordEnd.f]
  unfold wordEndL
  by_cases hi : i < (B s).length
  · refine ev_if_pos (by omega) (ev_if_pos (by omega) ?_)
    rw [impl_isDigit_eq, bt_U s i hi]
    simp only [Option.bind_some]
    by_cases hd : digU ((B s).getD i 0) = true
    · rw [if_pos ⟨hi, hd⟩]
      refine Ev.step (fun k => impl_wordEnd.j0.eq_2 ..) (ev_if_pos hd (Ev.now _))
    · rw [if_neg (fun h => hd h.2)]
      refine Ev.step (fun k => impl_wordEnd.j0.eq_2 ..) (ev_if_neg hd (impl_wordEnd_l0_ev s hs i))
  · rw [if_neg (fun h => hi h.1)]
    refine ev_if_neg (by omega) (Ev.step (fun k => impl_wordEnd.j0.eq_2 ..) (ev_if_neg (by decide) (impl_wordEnd_l0_ev s hs i)))

/-! impl_isWord -/
-- plain: Word
theorem wordEnd_word (l : List UInt8) : (decide (1 ≤ l.length ∧ l.length ≤ 30) && decide (wordEndL l 0 = l.length)) = isWordL l := by
  unfold isWordL wordEndL
  have ha := runEnd_all wordU l
  by_cases h0 : 1 ≤ l.length ∧ l.length ≤ 30
  · rw [decide_eq_true h0, Bool.true_and, Bool.true_and]
    cases hd : digU (l.getD 0 0) with
    | true =>
      rw [if_pos ⟨by omega, rfl⟩]
      simp only [Bool.not_true, Bool.false_and]
      rw [decide_eq_false_iff_not]; omega
    | false =>
      rw [if_neg (fun h => by simp at h)]
      simp only [Bool.not_false, Bool.true_and]
      rw [Bool.eq_iff_iff, decide_eq_true_iff]; exact ha
  · rw [decide_eq_false h0]; simp
theorem impl_isWord_ev (s : ByteArray) (hs : s.size ≤ 9223372036854775806) : Ev (fun k => impl_isWord.f k s) (isWordL (B s)) := by
  have hl := B_len s
  simp only [impl_isWord.f]
  rw [← wordEnd_word, impl_within_eq]
  simp only [Option.bind_some]
  by_cases h : 1 ≤ (B s).length ∧ (B s).length ≤ 30
  · refine ev_if_pos (by rw [decide_eq_true_iff]; omega) (ev_bind (impl_wordEnd_ev s hs 0) ?_)
    have e : (decide (1 ≤ (B s).length ∧ (B s).length ≤ 30) && decide (wordEndL (B s) 0 = (B s).length)) = (((wordEndL (B s) 0 : Nat) : Int) == (s.size : Int)) := by
      rw [decide_eq_true h, Bool.true_and, Bool.eq_iff_iff, decide_eq_true_iff, beq_iff_eq]; omega
    rw [e]; exact Ev.now _
  · refine ev_if_neg (by rw [decide_eq_true_iff]; omega) ?_
    rw [decide_eq_false h, Bool.false_and]; exact Ev.now _

/-! impl_isPart -/
-- plain: Word
theorem impl_isPart_j1_ev (t : Bool) (a b : ByteArray) (c : List ByteArray) (ha : a.size ≤ 1048576) (hb : b.size ≤ 1048576) : Ev (fun k => impl_isPart.j1 k t a b c) (!t && (typeOkL (B a) && idOkL (B b))) := by
  have rest : Ev (fun k => if b.toList = ([] : List UInt8) then (some true) else ((impl_isWord.f k b).bind fun t => (some t))) (idOkL (B b)) := by
    by_cases h : B b = []
    · have hi : idOkL (B b) = true := by unfold idOkL; rw [h]; rfl
      rw [hi]; exact ev_if_pos (by rw [toList_B]; exact h) (Ev.now _)
    · have hi : idOkL (B b) = isWordL (B b) := by unfold idOkL; rw [decide_eq_false h, Bool.false_or]
      rw [hi]; exact ev_if_neg (by rw [toList_B]; exact h) (ev_bind (impl_isWord_ev b (by omega)) (Ev.now _))
  refine Ev.step (fun k => impl_isPart.j1.eq_2 ..) ?_
  cases t with
  | true => exact ev_if_pos rfl (Ev.now _)
  | false =>
    refine ev_if_neg (by decide) ?_
    rw [Bool.not_false, Bool.true_and]
    by_cases h0 : B a = []
    · have ht : typeOkL (B a) = true := by unfold typeOkL; rw [h0]; rfl
      rw [ht, Bool.true_and]; exact ev_if_pos (by rw [toList_B]; exact h0) rest
    · refine ev_if_neg (by rw [toList_B]; exact h0) ?_
      by_cases hs : B a = [42]
      · have ht : typeOkL (B a) = true := by unfold typeOkL; rw [hs]; rfl
        rw [ht, Bool.true_and]; exact ev_if_pos (by rw [toList_B]; exact hs) rest
      · have ht : typeOkL (B a) = isWordL (B a) := by unfold typeOkL; rw [decide_eq_false h0, decide_eq_false hs]; simp
        refine ev_if_neg (by rw [toList_B]; exact hs) (ev_bind (impl_isWord_ev a (by omega)) ?_)
        rw [ht]
        cases isWordL (B a) with
        | true => rw [Bool.true_and]; exact ev_if_pos rfl rest
        | false => exact ev_if_neg (by decide) (Ev.now _)
theorem impl_isPart_ev (x : S63) (hx : sizesPart x) : Ev (fun k => impl_isPart.f k x.f0 x.f1 x.f2) (partOk x) := by
  obtain ⟨a, b, c⟩ := x
  obtain ⟨h0, h1, h2, h3⟩ := hx
  simp only at h0 h1 h2 h3
  have hle : (!(decide ((c.length : Int) > 4))) = decide (c.length ≤ 4) := by rw [Bool.eq_iff_iff]; simp; omega
  have e : partOk ⟨a, b, c⟩ = (c.all (fun y => isWordL (B y)) && ((!decide (B a = []) || !decide (B b = []) || decide (0 < c.length)) && decide (c.length ≤ 4) && (typeOkL (B a) && idOkL (B b)))) := by
    unfold partOk
    simp only
    generalize typeOkL (B a) = p; generalize idOkL (B b) = q; generalize decide (c.length ≤ 4) = r; generalize c.all (fun y => isWordL (B y)) = s; generalize decide (B a = []) = t; generalize decide (B b = []) = u; generalize decide (0 < c.length) = v
    cases p <;> cases q <;> cases r <;> cases s <;> cases t <;> cases u <;> cases v <;> rfl
  rw [e]
  refine ev_from c.length (fun i k => impl_isPart.l0 k c c.length i a b c) (fun i => (c.drop i).all (fun y => isWordL (B y)) && ((!decide (B a = []) || !decide (B b = []) || decide (0 < c.length)) && decide (c.length ≤ 4) && (typeOkL (B a) && idOkL (B b)))) ?_ ?_ 0 (by omega)
  · refine Ev.step (fun k => by rw [impl_isPart.l0, if_neg (by omega), toList_B, toList_B]) ?_
    simp only [List.drop_length, List.all_nil, Bool.true_and]
    have j := fun t => impl_isPart_j1_ev t a b c h0 h1
    by_cases ha : B a = []
    · refine ev_if_pos ha ?_
      by_cases hb : B b = []
      · refine ev_if_pos hb ?_
        by_cases hc : (c.length : Int) = 0
        · refine ev_if_pos hc ?_
          rw [decide_eq_true ha, decide_eq_true hb, decide_eq_false (p := 0 < c.length) (by omega)]
          exact j true
        · refine ev_if_neg hc ?_
          rw [decide_eq_true ha, decide_eq_true hb, decide_eq_true (p := 0 < c.length) (by omega), ← hle]
          exact j _
      · refine ev_if_neg hb ?_
        rw [decide_eq_true ha, decide_eq_false hb, ← hle]
        exact j _
    · refine ev_if_neg ha ?_
      rw [decide_eq_false ha, ← hle]
      exact j _
  · intro i hi h
    have hmem : c.getD i ByteArray.empty ∈ c := by rw [List.getD_eq_getElem?_getD, List.getElem?_eq_getElem hi]; exact List.getElem_mem hi
    have hz := h3 _ hmem
    rw [drop_cons c ByteArray.empty i hi, List.all_cons]
    refine Ev.step (fun k => by rw [impl_isPart.l0, if_pos (by omega), if_pos (by omega), if_pos (by omega), rdOf_nat]) ?_
    refine ev_bind (impl_isWord_ev _ (by omega)) ?_
    cases isWordL (B (c.getD i ByteArray.empty)) with
    | true => refine ev_if_pos rfl ?_; rw [wrap_up hi (by omega), Bool.true_and]; exact h
    | false => refine ev_if_neg (by decide) ?_; rw [Bool.false_and, Bool.false_and]; exact Ev.now _

/-! impl_isSelector -/
-- plain: Word
theorem impl_isSelector_ev (l : List S63) (hl : l.length ≤ 1048576) (hg : ∀ x ∈ l, sizesPart x) : Ev (fun k => impl_isSelector.f k l) (selOk l) := by
  have e : selOk l = (l.all partOk && decide (1 ≤ (l.length : Int) ∧ (l.length : Int) ≤ 5)) := by
    unfold selOk; rw [Bool.and_comm]; congr 1; rw [decide_eq_decide]; omega
  rw [e]
  refine ev_from l.length (fun i k => impl_isSelector.l0 k l l l.length i) (fun i => (l.drop i).all partOk && decide (1 ≤ (l.length : Int) ∧ (l.length : Int) ≤ 5)) ?_ ?_ 0 (by omega)
  · refine ev_done fun k => ?_
    rw [impl_isSelector.l0, if_neg (by omega), impl_within_eq, Option.bind_some]; simp
  · intro i hi hh
    have hrd : rd_T63 l (i : Int) = l.getD i z63 := by simp [rd_T63]
    have hmem : l.getD i z63 ∈ l := by rw [List.getD_eq_getElem?_getD, List.getElem?_eq_getElem hi]; exact List.getElem_mem hi
    rw [drop_cons l z63 i hi, List.all_cons]
    refine Ev.step (fun k => by rw [impl_isSelector.l0, if_pos (by omega), if_pos (by omega), if_pos (by omega), hrd]) ?_
    refine ev_bind (impl_isPart_ev _ (hg _ hmem)) ?_
    cases partOk (l.getD i z63) with
    | true => refine ev_if_pos rfl ?_; rw [wrap_up hi (by omega), Bool.true_and]; exact hh
    | false => refine ev_if_neg (by decide) ?_; rw [Bool.false_and, Bool.false_and]; exact Ev.now _

/-! impl_lower -/
-- plain: Trim Word Decl
theorem lowC_range (x : Int) (h0 : 0 ≤ x) (h1 : x < 256) : 0 ≤ lowC x ∧ lowC x < 256 := by unfold lowC; split <;> omega
def lowU (c : UInt8) : UInt8 := UInt8.ofNat (lowC (c.toNat : Int)).toNat
theorem lowU_nat (c : UInt8) : ((lowU c).toNat : Int) = lowC (c.toNat : Int) := by
  have h := c.toNat_lt
  have hr := lowC_range (c.toNat : Int) (by omega) (by omega)
  unfold lowU
  rw [UInt8.toNat_ofNat', Nat.mod_eq_of_lt (by omega)]
  omega
theorem B_lowB (s : ByteArray) : B (lowB s) = (B s).map lowU := by
  unfold lowB B
  rw [Go.strOfNums_data]
  unfold bytesOf
  rw [List.map_map, List.map_map]
  rfl
theorem lowB_size (s : ByteArray) : (lowB s).size = s.size := by rw [← B_len, B_lowB, List.length_map, B_len]
theorem digU_low (c : UInt8) : digU (lowU c) = digU c := by
  unfold digU
  rw [lowU_nat]
  generalize (c.toNat : Int) = x
  unfold digI lowC
  split
  · rw [decide_eq_decide]; omega
  · rfl
theorem wordU_low (c : UInt8) : wordU (lowU c) = wordU c := by
  have h := c.toNat_lt
  unfold wordU
  rw [lowU_nat]
  unfold wordI ltrI digI lowC
  split
  · rename_i hh
    have e : ((c.toNat : Int) + 32) % 256 = (c.toNat : Int) + 32 := by omega
    rw [e, decide_eq_true (show (97 ≤ (c.toNat : Int) + 32 ∧ (c.toNat : Int) + 32 ≤ 122) ∨ (65 ≤ (c.toNat : Int) + 32 ∧ (c.toNat : Int) + 32 ≤ 90) by omega), decide_eq_true (show (97 ≤ (c.toNat : Int) ∧ (c.toNat : Int) ≤ 122) ∨ (65 ≤ (c.toNat : Int) ∧ (c.toNat : Int) ≤ 90) by omega)]
    rfl
  · rfl
theorem isWordL_low (s : ByteArray) : isWordL (B (lowB s)) = isWordL (B s) := by
  rw [B_lowB]
  unfold isWordL
  have h1 : ((B s).map lowU).all wordU = (B s).all wordU := by
    rw [List.all_map]
    congr 1
    funext c
    exact wordU_low c
  have h2 : digU (((B s).map lowU).getD 0 0) = digU ((B s).getD 0 0) := by
    cases B s with
    | nil => rfl
    | cons c l => exact digU_low c
  rw [h1, h2, List.length_map]

/-! impl_trimmed -/
-- plain: Trim
theorem impl_trimmed_eq (s : ByteArray) (hs : s.size ≤ 1048576) : impl_trimmed.f s = some (trimP s) := by
  unfold impl_trimmed.f
  rw [if_pos (by omega)]
  have e : trimB s = trimP s := by
    unfold trimB trimP
    show ofL (dropL (dropR (B s))) = _
    rw [dropL_dropR]
  rw [e]

/-! laws_eqDecl -/
theorem laws_eqDecl_same (a b : ByteArray) (c : Bool) : laws_eqDecl.f a b c a b c = some true := by
  unfold laws_eqDecl.f
  rw [if_pos rfl, if_pos rfl, if_neg (by simp)]

/-! laws_eqDeclS -/
-- plain: Evs
theorem laws_eqDeclS_same (l : List S48) (hn : l.length ≤ 9223372036854775807) : Ev (fun k => laws_eqDeclS.f k l l) true := by
  refine Ev.congr (f := fun k => laws_eqDeclS.l0 k l l 0) (fun k => ?_) ?_
  · unfold laws_eqDeclS.f; rw [if_pos rfl]
  · refine ev_up l.length (fun i k => laws_eqDeclS.l0 k l l i) true ?_ ?_
    · refine ev_done fun k => ?_
      rw [laws_eqDeclS.l0, if_neg (by omega)]
    · intro i hi h
      refine Ev.step (fun k => by rw [laws_eqDeclS.l0, if_pos (by omega), if_pos (by omega), if_pos (by omega)]) ?_
      refine ev_bind0 (laws_eqDecl_same _ _ _) (ev_if_pos rfl ?_)
      rw [wrap_up hi (by omega)]; exact h

/-! laws_eqStringS -/
-- plain: Evs
theorem laws_eqStringS_same (l : List ByteArray) (hn : l.length ≤ 9223372036854775807) : Ev (fun k => laws_eqStringS.f k l l) true := by
  refine Ev.congr (f := fun k => laws_eqStringS.l0 k l l 0) (fun k => ?_) ?_
  · unfold laws_eqStringS.f; rw [if_pos rfl]
  · refine ev_up l.length (fun i k => laws_eqStringS.l0 k l l i) true ?_ ?_
    · refine ev_done fun k => ?_
      rw [laws_eqStringS.l0, if_neg (by omega)]
    · intro i hi h
      refine Ev.step (fun k => ?_) h
      rw [laws_eqStringS.l0, if_pos (by omega), if_pos (by omega), if_pos (by omega), if_pos rfl, wrap_up hi (by omega)]

/-! laws_eqPart -/
-- plain: Evs
theorem laws_eqPart_same (a b : ByteArray) (l : List ByteArray) (hn : l.length ≤ 9223372036854775807) : Ev (fun k => laws_eqPart.f k a b l a b l) true := by
  simp only [laws_eqPart.f]
  exact ev_if_pos trivial (ev_if_pos trivial (ev_bind (laws_eqStringS_same l hn) (ev_if_pos rfl (Ev.now _))))

/-! laws_eqPartS -/
-- plain: Evs
theorem laws_eqPartS_same (l : List S63) (hn : l.length ≤ 9223372036854775807) (hg : ∀ x ∈ l, x.f2.length ≤ 9223372036854775807) : Ev (fun k => laws_eqPartS.f k l l) true := by
  refine Ev.congr (f := fun k => laws_eqPartS.l0 k l l 0) (fun k => ?_) ?_
  · unfold laws_eqPartS.f; rw [if_pos rfl]
  · refine ev_up l.length (fun i k => laws_eqPartS.l0 k l l i) true ?_ ?_
    · refine ev_done fun k => ?_
      rw [laws_eqPartS.l0, if_neg (by omega)]
    · intro i hi h
      have hrd : rd_T63 l (i : Int) = l.getD i z63 := by simp [rd_T63]
      have hmem : l.getD i z63 ∈ l := by rw [List.getD_eq_getElem?_getD, List.getElem?_eq_getElem hi]; exact List.getElem_mem hi
      refine Ev.step (fun k => by rw [laws_eqPartS.l0, if_pos (by omega), if_pos (by omega), if_pos (by omega), hrd]) ?_
      refine ev_bind (laws_eqPart_same _ _ _ (hg _ hmem)) (ev_if_pos rfl ?_)
      rw [wrap_up hi (by omega)]; exact h

/-! partsizes -/
-- plain: Word
theorem totStr_mem (l : List ByteArray) : ∀ x ∈ l, (x.size : Int) ≤ (l.map totStr).sum := by
  induction l with
  | nil => intro x hx; simp at hx
  | cons y l ih =>
    intro x hx
    rw [List.map_cons, List.sum_cons]
    have := totStringS_parts l
    have hy : 0 ≤ totStr y := by unfold totStr; omega
    rcases List.mem_cons.1 hx with rfl | hx
    · have : totStr x = (x.size : Int) := rfl
      omega
    · have := ih x hx; omega
theorem totPart_mem (l : List S102) : ∀ x ∈ l, totPart x ≤ (l.map totPart).sum := by
  induction l with
  | nil => intro x hx; simp at hx
  | cons y l ih =>
    intro x hx
    rw [List.map_cons, List.sum_cons]
    have := totPartS_parts l
    have := totPart_nonneg y
    rcases List.mem_cons.1 hx with rfl | hx
    · omega
    · have := ih x hx; omega
theorem sizes_of (l : List S102) (h : totPartS l ≤ 1048576) : l.length ≤ 1048576 ∧ ∀ x ∈ l, x.f0.size ≤ 1048576 ∧ x.f1.size ≤ 1048576 ∧ x.f2.length ≤ 1048576 ∧ ∀ y ∈ x.f2, y.size ≤ 1048576 := by
  unfold totPartS at h
  have h0 := totPartS_parts l
  refine ⟨by omega, fun x hx => ?_⟩
  have h1 := totPart_mem l x hx
  have hd : totPart x = (x.f0.size : Int) + (x.f1.size : Int) + ((x.f2.length : Int) + (x.f2.map totStr).sum) := rfl
  have h2 := totStringS_parts x.f2
  refine ⟨by omega, by omega, by omega, fun y hy => ?_⟩
  have := totStr_mem x.f2 y hy
  omega

/-! sheetsizes -/
-- plain: Evs Gen
theorem totPartS_nonneg (l : List S102) : 0 ≤ totPartS l := by unfold totPartS; have := totPartS_parts l; omega
def totPartSS (l : List (List S102)) : Int := (l.length : Int) + (l.map totPartS).sum
theorem totPartSS_nonneg (l : List (List S102)) : 0 ≤ totPartSS l := by unfold totPartSS; have := sum_nonneg totPartS totPartS_nonneg l; omega
def totDecl (x : S89) : Int := (x.f0.size : Int) + (x.f1.size : Int)
theorem totDecl_nonneg (x : S89) : 0 ≤ totDecl x := by unfold totDecl; omega
def totDeclS (l : List S89) : Int := (l.length : Int) + (l.map totDecl).sum
theorem totDeclS_nonneg (l : List S89) : 0 ≤ totDeclS l := by unfold totDeclS; have := sum_nonneg totDecl totDecl_nonneg l; omega
def totRule (x : S40) : Int := totPartSS x.f0 + totDeclS x.f1
theorem totRule_nonneg (x : S40) : 0 ≤ totRule x := by unfold totRule; have := totPartSS_nonneg x.f0; have := totDeclS_nonneg x.f1; omega
def totRuleS (l : List S40) : Int := (l.length : Int) + (l.map totRule).sum
def goodDeclIn (x : S89) : Prop := x.f0.size ≤ maxLen ∧ x.f1.size ≤ maxLen ∧ True
def goodRuleIn (x : S40) : Prop := (x.f0.length ≤ maxLen ∧ ∀ y ∈ x.f0, y.length ≤ maxLen ∧ ∀ z ∈ y, goodPartIn z) ∧ (x.f1.length ≤ maxLen ∧ ∀ y ∈ x.f1, goodDeclIn y)
theorem laws_szPartSS_ev (l : List (List S102)) (a : Int) (h0 : 0 ≤ a) (h1 : a ≤ 1048576) (hl : l.length ≤ maxLen) (hg : ∀ x ∈ l, x.length ≤ maxLen ∧ ∀ y ∈ x, goodPartIn y) :
    ∃ r, Ev (fun k => laws_szPartSS.f k l a) r ∧ (r < 0 ∨ (r = a - totPartSS l ∧ 0 ≤ r)) := by
  have hl' := hl
  unfold maxLen at hl'
  have hend : ∀ a : Int, Ev (fun k => laws_szPartSS.l0 k l a ((l.length : Nat) : Int)) a := fun a => ev_done fun k => by rw [laws_szPartSS.l0, if_neg (by omega)]
  have hstep : ∀ (i : Nat) (a : Int), i < l.length → 0 ≤ a → a ≤ 1048576 → ∃ r1, (r1 < 0 ∨ (r1 = a - totPartS (l.getD i []) ∧ 0 ≤ r1)) ∧ (r1 < 0 → Ev (fun k => laws_szPartSS.l0 k l a (i : Int)) (-1)) ∧ (0 ≤ r1 → ∀ r, Ev (fun k => laws_szPartSS.l0 k l r1 ((i + 1 : Nat) : Int)) r → Ev (fun k => laws_szPartSS.l0 k l a (i : Int)) r) := by
    intro i a hi h0 h1
    have hrd : rd_L3 l (i : Int) = l.getD i [] := by simp [rd_L3]
    have hm : l.getD i [] ∈ l := by rw [List.getD_eq_getElem?_getD, List.getElem?_eq_getElem hi]; exact List.getElem_mem hi
    have hgm := hg _ hm
    generalize l.getD i [] = x at hrd hgm ⊢
    obtain ⟨r1, e1, c1⟩ := laws_szPartS_ev x a h0 h1 hgm.1 hgm.2
    refine ⟨r1, c1, fun hneg => ?_, fun hpos r hr => ?_⟩
    · refine Ev.step (fun k => by rw [laws_szPartSS.l0, if_pos (by omega), if_pos (by omega), hrd]) ?_
      exact ev_bind e1 (ev_if_pos hneg (Ev.now _))
    · refine Ev.step (fun k => by rw [laws_szPartSS.l0, if_pos (by omega), if_pos (by omega), hrd]) ?_
      refine ev_bind e1 (ev_if_neg (by omega) ?_)
      rw [wrap_up hi hl']
      exact hr
  simp only [laws_szPartSS.f]
  rw [wrap_id (x := a - _) (by omega) (by omega)]
  by_cases c : a - (l.length : Int) < 0
  · exact ⟨-1, ev_if_pos c (Ev.now _), .inl (by omega)⟩
  · obtain ⟨r, hr, hc⟩ := sz_gen [] l totPartS totPartS_nonneg (fun i a k => laws_szPartSS.l0 k l a (i : Int)) hend hstep l.length 0 (a - (l.length : Int)) (by omega) (by omega) (by omega)
    refine ⟨r, ev_if_neg c hr, ?_⟩
    rcases hc with hc | ⟨hc, hc2⟩
    · exact .inl hc
    · exact .inr ⟨by rw [hc]; unfold totPartSS; rw [List.drop_zero]; omega, hc2⟩
theorem laws_szDecl_ev (x : S89) (a : Int) (h0 : 0 ≤ a) (h1 : a ≤ 1048576) (hg : goodDeclIn x) : ∃ r, Ev (fun k => laws_szDecl.f x.f0 x.f1 x.f2 a) r ∧ (r < 0 ∨ (r = a - totDecl x ∧ 0 ≤ r)) := by
  obtain ⟨g0, g1, _⟩ := hg
  unfold maxLen at g0 g1
  unfold totDecl
  simp only [laws_szDecl.f]
  rw [wrap_id (x := a - _) (by omega) (by omega)]
  by_cases c : a - (x.f0.size : Int) < 0
  · exact ⟨-1, ev_if_pos c (Ev.now _), .inl (by omega)⟩
  · rw [wrap_id (x := a - (x.f0.size : Int) - (x.f1.size : Int)) (by omega) (by omega)]
    by_cases c2 : a - (x.f0.size : Int) - (x.f1.size : Int) < 0
    · exact ⟨-1, ev_if_neg c (ev_if_pos c2 (Ev.now _)), .inl (by omega)⟩
    · exact ⟨_, ev_if_neg c (ev_if_neg c2 (Ev.now _)), .inr ⟨by omega, by omega⟩⟩
theorem laws_szDeclS_ev (l : List S89) (a : Int) (h0 : 0 ≤ a) (h1 : a ≤ 1048576) (hl : l.length ≤ maxLen) (hg : ∀ x ∈ l, goodDeclIn x) :
    ∃ r, Ev (fun k => laws_szDeclS.f k l a) r ∧ (r < 0 ∨ (r = a - totDeclS l ∧ 0 ≤ r)) := by
  have hl' := hl
  unfold maxLen at hl'
  have hend : ∀ a : Int, Ev (fun k => laws_szDeclS.l0 k l a ((l.length : Nat) : Int)) a := fun a => ev_done fun k => by rw [laws_szDeclS.l0, if_neg (by omega)]
  have hstep : ∀ (i : Nat) (a : Int), i < l.length → 0 ≤ a → a ≤ 1048576 → ∃ r1, (r1 < 0 ∨ (r1 = a - totDecl (l.getD i z89) ∧ 0 ≤ r1)) ∧ (r1 < 0 → Ev (fun k => laws_szDeclS.l0 k l a (i : Int)) (-1)) ∧ (0 ≤ r1 → ∀ r, Ev (fun k => laws_szDeclS.l0 k l r1 ((i + 1 : Nat) : Int)) r → Ev (fun k => laws_szDeclS.l0 k l a (i : Int)) r) := by
    intro i a hi h0 h1
    have hrd : rd_T89 l (i : Int) = l.getD i z89 := by simp [rd_T89]
    have hm : l.getD i z89 ∈ l := by rw [List.getD_eq_getElem?_getD, List.getElem?_eq_getElem hi]; exact List.getElem_mem hi
    have hgm := hg _ hm
    generalize l.getD i z89 = x at hrd hgm ⊢
    obtain ⟨r1, e1, c1⟩ := laws_szDecl_ev x a h0 h1 hgm
    refine ⟨r1, c1, fun hneg => ?_, fun hpos r hr => ?_⟩
    · refine Ev.step (fun k => by rw [laws_szDeclS.l0, if_pos (by omega), if_pos (by omega), hrd]) ?_
      exact ev_bind e1 (ev_if_pos hneg (Ev.now _))
    · refine Ev.step (fun k => by rw [laws_szDeclS.l0, if_pos (by omega), if_pos (by omega), hrd]) ?_
      refine ev_bind e1 (ev_if_neg (by omega) ?_)
      rw [wrap_up hi hl']
      exact hr
  simp only [laws_szDeclS.f]
  rw [wrap_id (x := a - _) (by omega) (by omega)]
  by_cases c : a - (l.length : Int) < 0
  · exact ⟨-1, ev_if_pos c (Ev.now _), .inl (by omega)⟩
  · obtain ⟨r, hr, hc⟩ := sz_gen z89 l totDecl totDecl_nonneg (fun i a k => laws_szDeclS.l0 k l a (i : Int)) hend hstep l.length 0 (a - (l.length : Int)) (by omega) (by omega) (by omega)
    refine ⟨r, ev_if_neg c hr, ?_⟩
    rcases hc with hc | ⟨hc, hc2⟩
    · exact .inl hc
    · exact .inr ⟨by rw [hc]; unfold totDeclS; rw [List.drop_zero]; omega, hc2⟩
theorem laws_szRule_ev (x : S40) (a : Int) (h0 : 0 ≤ a) (h1 : a ≤ 1048576) (hg : goodRuleIn x) : ∃ r, Ev (fun k => laws_szRule.f k x.f0 x.f1 a) r ∧ (r < 0 ∨ (r = a - totRule x ∧ 0 ≤ r)) := by
  have n0 := totPartSS_nonneg x.f0
  simp only [laws_szRule.f]
  obtain ⟨r1, e1, c1⟩ := laws_szPartSS_ev x.f0 a h0 h1 hg.1.1 hg.1.2
  rcases c1 with c1 | ⟨c1, c2⟩
  · exact ⟨-1, ev_bind e1 (ev_if_pos c1 (Ev.now _)), .inl (by omega)⟩
  · obtain ⟨r2, e2, c3⟩ := laws_szDeclS_ev x.f1 r1 c2 (by omega) hg.2.1 hg.2.2
    rcases c3 with c3 | ⟨c3, c4⟩
    · exact ⟨-1, ev_bind e1 (ev_if_neg (by omega) (ev_bind e2 (ev_if_pos c3 (Ev.now _)))), .inl (by omega)⟩
    · exact ⟨r2, ev_bind e1 (ev_if_neg (by omega) (ev_bind e2 (ev_if_neg (by omega) (Ev.now _)))), .inr ⟨by unfold totRule; omega, c4⟩⟩
theorem laws_szRuleS_ev (l : List S40) (a : Int) (h0 : 0 ≤ a) (h1 : a ≤ 1048576) (hl : l.length ≤ maxLen) (hg : ∀ x ∈ l, goodRuleIn x) :
    ∃ r, Ev (fun k => laws_szRuleS.f k l a) r ∧ (r < 0 ∨ (r = a - totRuleS l ∧ 0 ≤ r)) := by
  have hl' := hl
  unfold maxLen at hl'
  have hend : ∀ a : Int, Ev (fun k => laws_szRuleS.l0 k l a ((l.length : Nat) : Int)) a := fun a => ev_done fun k => by rw [laws_szRuleS.l0, if_neg (by omega)]
  have hstep : ∀ (i : Nat) (a : Int), i < l.length → 0 ≤ a → a ≤ 1048576 → ∃ r1, (r1 < 0 ∨ (r1 = a - totRule (l.getD i z40) ∧ 0 ≤ r1)) ∧ (r1 < 0 → Ev (fun k => laws_szRuleS.l0 k l a (i : Int)) (-1)) ∧ (0 ≤ r1 → ∀ r, Ev (fun k => laws_szRuleS.l0 k l r1 ((i + 1 : Nat) : Int)) r → Ev (fun k => laws_szRuleS.l0 k l a (i : Int)) r) := by
    intro i a hi h0 h1
    have hrd : rd_T40 l (i : Int) = l.getD i z40 := by simp [rd_T40]
    have hm : l.getD i z40 ∈ l := by rw [List.getD_eq_getElem?_getD, List.getElem?_eq_getElem hi]; exact List.getElem_mem hi
    have hgm := hg _ hm
    generalize l.getD i z40 = x at hrd hgm ⊢
    obtain ⟨r1, e1, c1⟩ := laws_szRule_ev x a h0 h1 hgm
    refine ⟨r1, c1, fun hneg => ?_, fun hpos r hr => ?_⟩
    · refine Ev.step (fun k => by rw [laws_szRuleS.l0, if_pos (by omega), if_pos (by omega), hrd]) ?_
      exact ev_bind e1 (ev_if_pos hneg (Ev.now _))
    · refine Ev.step (fun k => by rw [laws_szRuleS.l0, if_pos (by omega), if_pos (by omega), hrd]) ?_
      refine ev_bind e1 (ev_if_neg (by omega) ?_)
      rw [wrap_up hi hl']
      exact hr
  simp only [laws_szRuleS.f]
  rw [wrap_id (x := a - _) (by omega) (by omega)]
  by_cases c : a - (l.length : Int) < 0
  · exact ⟨-1, ev_if_pos c (Ev.now _), .inl (by omega)⟩
  · obtain ⟨r, hr, hc⟩ := sz_gen z40 l totRule totRule_nonneg (fun i a k => laws_szRuleS.l0 k l a (i : Int)) hend hstep l.length 0 (a - (l.length : Int)) (by omega) (by omega) (by omega)
    refine ⟨r, ev_if_neg c hr, ?_⟩
    rcases hc with hc | ⟨hc, hc2⟩
    · exact .inl hc
    · exact .inr ⟨by rw [hc]; unfold totRuleS; rw [List.drop_zero]; omega, hc2⟩
def smallRule (x : S40) : Prop := x.f0.length ≤ 1048576 ∧ (∀ y ∈ x.f0, y.length ≤ 1048576 ∧ ∀ z ∈ y, z.f0.size ≤ 1048576 ∧ z.f1.size ≤ 1048576 ∧ z.f2.length ≤ 1048576 ∧ ∀ u ∈ z.f2, u.size ≤ 1048576) ∧ x.f1.length ≤ 1048576 ∧ ∀ d ∈ x.f1, d.f0.size ≤ 1048576 ∧ d.f1.size ≤ 1048576
theorem rule_sizes (l : List S40) (h : totRuleS l ≤ 1048576) : l.length ≤ 1048576 ∧ ∀ x ∈ l, smallRule x := by
  unfold totRuleS at h
  have h0 := sum_nonneg totRule totRule_nonneg l
  refine ⟨by omega, fun x hx => ?_⟩
  have h1 := sum_mem totRule totRule_nonneg l x hx
  have h2 : totRule x = totPartSS x.f0 + totDeclS x.f1 := rfl
  have n0 := totPartSS_nonneg x.f0
  have n1 := totDeclS_nonneg x.f1
  have h3 : totPartSS x.f0 = (x.f0.length : Int) + (x.f0.map totPartS).sum := rfl
  have h4 : totDeclS x.f1 = (x.f1.length : Int) + (x.f1.map totDecl).sum := rfl
  have n2 := sum_nonneg totPartS totPartS_nonneg x.f0
  have n3 := sum_nonneg totDecl totDecl_nonneg x.f1
  refine ⟨by omega, fun y hy => ?_, by omega, fun d hd => ?_⟩
  · have h5 := sum_mem totPartS totPartS_nonneg x.f0 y hy
    exact sizes_of y (by omega)
  · have h5 := sum_mem totDecl totDecl_nonneg x.f1 d hd
    have h6 : totDecl d = (d.f0.size : Int) + (d.f1.size : Int) := rfl
    omega

/-! sheetcopies -/
-- plain: Evs Gen
theorem laws_toPartSS_ev (l : List (List S102)) (hn : l.length ≤ 1048576) (hg : ∀ x ∈ l, x.length ≤ 1048576 ∧ ∀ z ∈ x, z.f0.size ≤ 1048576 ∧ z.f1.size ≤ 1048576 ∧ z.f2.length ≤ 1048576 ∧ ∀ u ∈ z.f2, u.size ≤ 1048576) : Ev (fun k => laws_toPartSS.f k l) (l.map (List.map toPart)) := by
  have hml : (l.map (List.map toPart)).length = l.length := by simp
  have h := to_gen [] (l.map (List.map toPart)) (fun i X k => laws_toPartSS.l0 k l X (i : Int)) ?_ ?_
  · refine Ev.congr (fun k => ?_) h
    unfold laws_toPartSS.f
    rw [if_pos (by omega), if_pos (by omega), hml]; rfl
  · rw [hml]
    refine ev_done fun k => ?_
    rw [laws_toPartSS.l0, if_neg (by omega)]
  · intro i X hi hX r hr
    rw [hml] at hi hX
    have hrd : rd_L3 l (i : Int) = l.getD i [] := by simp [rd_L3]
    have hm : l.getD i [] ∈ l := by rw [List.getD_eq_getElem?_getD, List.getElem?_eq_getElem hi]; exact List.getElem_mem hi
    have hgm := hg _ hm
    have e : (l.map (List.map toPart)).getD i [] = (List.map toPart) (l.getD i []) := by simp [hi]
    rw [e] at hr
    refine Ev.step (fun k => by rw [laws_toPartSS.l0, if_pos (by omega), if_pos (by omega), hrd]) ?_
    refine ev_bind (laws_toPartS_ev _ hgm.1 (fun y hy => (hgm.2 y hy).2.2.1)) (ev_if_pos (by omega) ?_)
    rw [Int.toNat_natCast, wrap_up hi (by omega)]
    exact hr
def toDecl (x : S89) : S48 := ⟨x.f0, x.f1, x.f2⟩
theorem laws_toDeclS_ev (l : List S89) (hn : l.length ≤ 1048576) (hg : ∀ x ∈ l, True) : Ev (fun k => laws_toDeclS.f k l) (l.map toDecl) := by
  have hml : (l.map toDecl).length = l.length := by simp
  have h := to_gen z48 (l.map toDecl) (fun i X k => laws_toDeclS.l0 k l X (i : Int)) ?_ ?_
  · refine Ev.congr (fun k => ?_) h
    unfold laws_toDeclS.f
    rw [if_pos (by omega), if_pos (by omega), hml]; rfl
  · rw [hml]
    refine ev_done fun k => ?_
    rw [laws_toDeclS.l0, if_neg (by omega)]
  · intro i X hi hX r hr
    rw [hml] at hi hX
    have hrd : rd_T89 l (i : Int) = l.getD i z89 := by simp [rd_T89]
    have hm : l.getD i z89 ∈ l := by rw [List.getD_eq_getElem?_getD, List.getElem?_eq_getElem hi]; exact List.getElem_mem hi
    have hgm := hg _ hm
    have e : (l.map toDecl).getD i z48 = toDecl (l.getD i z89) := by simp [hi]
    rw [e] at hr
    refine Ev.step (fun k => by rw [laws_toDeclS.l0, if_pos (by omega), if_pos (by omega), hrd]) ?_
    refine ev_bind0 rfl (ev_if_pos (by omega) ?_)
    rw [Int.toNat_natCast, wrap_up hi (by omega)]
    exact hr
def toRule (x : S40) : S43 := ⟨x.f0.map (List.map toPart), x.f1.map toDecl⟩
theorem laws_toRule_ev (x : S40) (hx : smallRule x) : Ev (fun k => laws_toRule.f k x.f0 x.f1) (x.f0.map (List.map toPart), x.f1.map toDecl) := by
  simp only [laws_toRule.f]
  exact ev_bind (laws_toPartSS_ev x.f0 hx.1 hx.2.1) (ev_bind (laws_toDeclS_ev x.f1 hx.2.2.1 (fun _ _ => trivial)) (Ev.now _))
theorem laws_toRuleS_ev (l : List S40) (hn : l.length ≤ 1048576) (hg : ∀ x ∈ l, smallRule x) : Ev (fun k => laws_toRuleS.f k l) (l.map toRule) := by
  have hml : (l.map toRule).length = l.length := by simp
  have h := to_gen z43 (l.map toRule) (fun i X k => laws_toRuleS.l0 k l X (i : Int)) ?_ ?_
  · refine Ev.congr (fun k => ?_) h
    unfold laws_toRuleS.f
    rw [if_pos (by omega), if_pos (by omega), hml]; rfl
  · rw [hml]
    refine ev_done fun k => ?_
    rw [laws_toRuleS.l0, if_neg (by omega)]
  · intro i X hi hX r hr
    rw [hml] at hi hX
    have hrd : rd_T40 l (i : Int) = l.getD i z40 := by simp [rd_T40]
    have hm : l.getD i z40 ∈ l := by rw [List.getD_eq_getElem?_getD, List.getElem?_eq_getElem hi]; exact List.getElem_mem hi
    have hgm := hg _ hm
    have e : (l.map toRule).getD i z43 = toRule (l.getD i z40) := by simp [hi]
    rw [e] at hr
    refine Ev.step (fun k => by rw [laws_toRuleS.l0, if_pos (by omega), if_pos (by omega), hrd]) ?_
    refine ev_bind (laws_toRule_ev _ hgm) (ev_if_pos (by omega) ?_)
    rw [Int.toNat_natCast, wrap_up hi (by omega)]
    exact hr

end Go.Proofs.YtganmdnieihpeaaDoor.Pure
