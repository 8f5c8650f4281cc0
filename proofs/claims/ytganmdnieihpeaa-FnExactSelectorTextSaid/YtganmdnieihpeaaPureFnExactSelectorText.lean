/- SelectorText: the program's SelectorText answers as the reference's at every selector, and writes into none; no condition. -/
import Derived.Test.YtganmdnieihpeaaPFnExactSelectorTextx6
import Derived.Test.YtganmdnieihpeaaPlain
import Derived.Test.YtganmdnieihpeaaEvs
import Derived.Test.YtganmdnieihpeaaStr
import Derived.Test.YtganmdnieihpeaaWord
import Derived.Test.YtganmdnieihpeaaTrim
set_option linter.unusedVariables false
set_option linter.unusedSimpArgs false
namespace Go.Proofs.Ytganmdnieihpeaa.Pure
open Go.RowKit Go.Proofs.Ytganmdnieihpeaa.PFnExactSelectorText Go.Proofs.YtganmdnieihpeaaW.PrintWords Go.Proofs.YtganmdnieihpeaaW.PrintLast Go.Proofs.YtganmdnieihpeaaW.PrintMore Go.Proofs.Ytganmdnieihpeaa.Plain

/-! laws_szStringS -/
-- plain: Evs
def totStr (x : ByteArray) : Int := (x.size : Int)
def totStringS (l : List ByteArray) : Int := (l.length : Int) + (l.map totStr).sum
theorem totStringS_parts (l : List ByteArray) : 0 ≤ (l.map totStr).sum := by
  induction l with
  | nil => simp
  | cons x l ih => rw [List.map_cons, List.sum_cons]; unfold totStr; unfold totStr at ih; omega
theorem laws_szStringS_l0_ev (l : List ByteArray) (hl : l.length ≤ maxLen) (hg : ∀ x ∈ l, x.size ≤ maxLen) : ∀ (d i : Nat) (a : Int), i + d = l.length → 0 ≤ a → a ≤ 1048576 →
    ∃ r, Ev (fun k => laws_szStringS.l0 k l a i) r ∧ (r < 0 ∨ (r = a - ((l.drop i).map totStr).sum ∧ 0 ≤ r)) := by
  unfold maxLen at hl hg
  intro d
  induction d with
  | zero =>
    intro i a hi h0 h1
    refine ⟨a, ev_done fun k => ?_, .inr ⟨by rw [List.drop_eq_nil_of_le (by omega)]; simp, h0⟩⟩
    rw [laws_szStringS.l0, if_neg (by omega)]
  | succ d ih =>
    intro i a hi h0 h1
    have hil : i < l.length := by omega
    have hx : (l.getD i ByteArray.empty).size ≤ 9223372036854775807 := by rw [List.getD_eq_getElem?_getD, List.getElem?_eq_getElem hil]; exact hg _ (List.getElem_mem hil)
    rw [drop_cons l ByteArray.empty i hil, List.map_cons, List.sum_cons]
    have hz : totStr (l.getD i ByteArray.empty) = ((l.getD i ByteArray.empty).size : Int) := rfl
    by_cases c : a - ((l.getD i ByteArray.empty).size : Int) < 0
    · refine ⟨-1, ev_done fun k => ?_, .inl (by omega)⟩
      rw [laws_szStringS.l0, if_pos (by omega), if_pos (by omega), rdOf_nat, wrap_id (x := a - _) (by omega) (by omega), if_pos c]
    · obtain ⟨r, hr, hc⟩ := ih (i + 1) (a - ((l.getD i ByteArray.empty).size : Int)) (by omega) (by omega) (by omega)
      refine ⟨r, Ev.step (fun k => ?_) hr, ?_⟩
      · rw [laws_szStringS.l0, if_pos (by omega), if_pos (by omega), rdOf_nat, wrap_id (x := a - _) (by omega) (by omega), if_neg c, wrap_up hil hl]
      · rcases hc with hc | ⟨hc, hc2⟩
        · exact .inl hc
        · exact .inr ⟨by rw [hc, hz]; omega, hc2⟩
theorem laws_szStringS_ev (l : List ByteArray) (a : Int) (h0 : 0 ≤ a) (h1 : a ≤ 1048576) (hl : l.length ≤ maxLen) (hg : ∀ x ∈ l, x.size ≤ maxLen) :
    ∃ r, Ev (fun k => laws_szStringS.f k l a) r ∧ (r < 0 ∨ (r = a - totStringS l ∧ 0 ≤ r)) := by
  have hl' := hl
  unfold maxLen at hl'
  simp only [laws_szStringS.f]
  rw [wrap_id (x := a - _) (by omega) (by omega)]
  by_cases c : a - (l.length : Int) < 0
  · exact ⟨-1, ev_if_pos c (Ev.now _), .inl (by omega)⟩
  · obtain ⟨r, hr, hc⟩ := laws_szStringS_l0_ev l hl hg l.length 0 (a - (l.length : Int)) (by omega) (by omega) (by omega)
    refine ⟨r, ev_if_neg c hr, ?_⟩
    rcases hc with hc | ⟨hc, hc2⟩
    · exact .inl hc
    · exact .inr ⟨by rw [hc]; unfold totStringS; rw [List.drop_zero]; omega, hc2⟩

/-! laws_szPart -/
-- plain: Evs
def totPart (x : S37) : Int := (x.f0.size : Int) + (x.f1.size : Int) + totStringS x.f2
theorem totPart_nonneg (x : S37) : 0 ≤ totPart x := by unfold totPart totStringS; have := totStringS_parts x.f2; omega
def goodPartIn (x : S37) : Prop := x.f0.size ≤ maxLen ∧ x.f1.size ≤ maxLen ∧ (x.f2.length ≤ maxLen ∧ ∀ y ∈ x.f2, y.size ≤ maxLen)
theorem szPart_ev (x : S37) (a : Int) (h0 : 0 ≤ a) (h1 : a ≤ 1048576) (hg : goodPartIn x) : ∃ r, Ev (fun k => laws_szPart.f k x.f0 x.f1 x.f2 a) r ∧ (r < 0 ∨ (r = a - totPart x ∧ 0 ≤ r)) := by
  obtain ⟨hx, hy, hz, hw⟩ := hg
  have ht : 0 ≤ totStringS x.f2 := by unfold totStringS; have := totStringS_parts x.f2; omega
  unfold maxLen at hx hy
  simp only [laws_szPart.f]
  unfold totPart
  rw [wrap_id (x := a - _) (by omega) (by omega)]
  by_cases c : a - (x.f0.size : Int) < 0
  · exact ⟨_, ev_if_pos c (Ev.now _), .inl (by omega)⟩
  · rw [wrap_id (x := _ - (x.f1.size : Int)) (by omega) (by omega)]
    by_cases c2 : a - (x.f0.size : Int) - (x.f1.size : Int) < 0
    · exact ⟨_, ev_if_neg c (ev_if_pos c2 (Ev.now _)), .inl (by omega)⟩
    · obtain ⟨r, hr, hc⟩ := laws_szStringS_ev x.f2 (a - (x.f0.size : Int) - (x.f1.size : Int)) (by omega) (by omega) hz hw
      rcases hc with hc | ⟨hc, hc2⟩
      · exact ⟨_, ev_if_neg c (ev_if_neg c2 (ev_bind hr (ev_if_pos hc (Ev.now _)))), .inl (by omega)⟩
      · exact ⟨r, ev_if_neg c (ev_if_neg c2 (ev_bind hr (ev_if_neg (by omega) (Ev.now _)))), .inr ⟨by omega, hc2⟩⟩

/-! laws_szPartS -/
-- plain: Evs
def totPartS (l : List S37) : Int := (l.length : Int) + (l.map totPart).sum
theorem totPartS_parts (l : List S37) : 0 ≤ (l.map totPart).sum := by
  induction l with
  | nil => simp
  | cons x l ih => rw [List.map_cons, List.sum_cons]; have := totPart_nonneg x; omega
theorem laws_szPartS_l0_ev (l : List S37) (hl : l.length ≤ maxLen) (hg : ∀ x ∈ l, goodPartIn x) : ∀ (d i : Nat) (a : Int), i + d = l.length → 0 ≤ a → a ≤ 1048576 →
    ∃ r, Ev (fun k => laws_szPartS.l0 k l a i) r ∧ (r < 0 ∨ (r = a - ((l.drop i).map totPart).sum ∧ 0 ≤ r)) := by
  unfold maxLen at hl
  intro d
  induction d with
  | zero =>
    intro i a hi h0 h1
    refine ⟨a, ev_done fun k => ?_, .inr ⟨by rw [List.drop_eq_nil_of_le (by omega)]; simp, h0⟩⟩
    rw [laws_szPartS.l0, if_neg (by omega)]
  | succ d ih =>
    intro i a hi h0 h1
    have hil : i < l.length := by omega
    have hx : goodPartIn (l.getD i z37) := by rw [List.getD_eq_getElem?_getD, List.getElem?_eq_getElem hil]; exact hg _ (List.getElem_mem hil)
    have hrd : rd_T37 l (i : Int) = l.getD i z37 := by simp [rd_T37]
    rw [drop_cons l z37 i hil, List.map_cons, List.sum_cons]
    obtain ⟨r1, e1, c1⟩ := szPart_ev (l.getD i z37) a h0 h1 hx
    have ht := totPart_nonneg (l.getD i z37)
    rcases c1 with c1 | ⟨c1, c2⟩
    · refine ⟨-1, (by refine Ev.step (fun k => by rw [laws_szPartS.l0, if_pos (by omega), if_pos (by omega), hrd]) ?_; exact ev_bind e1 (ev_if_pos c1 (Ev.now _))), .inl (by omega)⟩
    · obtain ⟨r, hr, hc⟩ := ih (i + 1) r1 (by omega) c2 (by omega)
      refine ⟨r, (by refine Ev.step (fun k => by rw [laws_szPartS.l0, if_pos (by omega), if_pos (by omega), hrd]) ?_; refine ev_bind e1 (ev_if_neg (by omega) ?_); rw [wrap_up hil hl]; exact hr), ?_⟩
      rcases hc with hc | ⟨hc, hc2⟩
      · exact .inl hc
      · exact .inr ⟨by rw [hc, c1]; omega, hc2⟩
theorem laws_szPartS_ev (l : List S37) (a : Int) (h0 : 0 ≤ a) (h1 : a ≤ 1048576) (hl : l.length ≤ maxLen) (hg : ∀ x ∈ l, goodPartIn x) :
    ∃ r, Ev (fun k => laws_szPartS.f k l a) r ∧ (r < 0 ∨ (r = a - totPartS l ∧ 0 ≤ r)) := by
  have hl' := hl
  unfold maxLen at hl'
  simp only [laws_szPartS.f]
  rw [wrap_id (x := a - _) (by omega) (by omega)]
  by_cases c : a - (l.length : Int) < 0
  · exact ⟨-1, ev_if_pos c (Ev.now _), .inl (by omega)⟩
  · obtain ⟨r, hr, hc⟩ := laws_szPartS_l0_ev l hl hg l.length 0 (a - (l.length : Int)) (by omega) (by omega) (by omega)
    refine ⟨r, ev_if_neg c hr, ?_⟩
    rcases hc with hc | ⟨hc, hc2⟩
    · exact .inl hc
    · exact .inr ⟨by rw [hc]; unfold totPartS; rw [List.drop_zero]; omega, hc2⟩

/-! spec_l1In -/
theorem spec_l1In_eq (a b c : Int) : spec_l1In.f a b c = some (decide (b ≤ a ∧ a ≤ c)) := by
  unfold spec_l1In.f
  split
  · rename_i h; simp [show b ≤ a from h]
  · rename_i h; simp [show ¬ b ≤ a from h]

/-! spec_l1Digit -/
-- plain: Word
theorem spec_l1Digit_eq (c : Int) : spec_l1Digit.f c = some (digI c) := by
  unfold spec_l1Digit.f digI
  split
  · rename_i h; congr 1; rw [decide_eq_decide]; omega
  · rename_i h; congr 1; rw [eq_comm, decide_eq_false_iff_not]; omega

/-! spec_l4Letter -/
-- plain: Word
theorem spec_l4Letter_eq (c : Int) : spec_l4Letter.f c = some (ltrI c || decide (c = 95)) := by
  have hb : (c == 95) = decide (c = 95) := by rw [Bool.eq_iff_iff]; simp
  unfold spec_l4Letter.f
  rw [hb]
  unfold ltrI
  by_cases h1 : (97 ≤ c ∧ c ≤ 122)
  · rw [if_pos h1.1, if_pos h1.2, decide_eq_true (p := (97 ≤ c ∧ c ≤ 122) ∨ (65 ≤ c ∧ c ≤ 90)) (.inl h1)]; rfl
  · by_cases h2 : (65 ≤ c ∧ c ≤ 90)
    · rw [decide_eq_true (p := (97 ≤ c ∧ c ≤ 122) ∨ (65 ≤ c ∧ c ≤ 90)) (.inr h2), Bool.true_or]
      by_cases h3 : c ≥ 97
      · omega
      · rw [if_neg h3, if_pos h2.1, if_pos h2.2]
    · rw [decide_eq_false (p := (97 ≤ c ∧ c ≤ 122) ∨ (65 ≤ c ∧ c ≤ 90)) (by omega), Bool.false_or]
      by_cases h3 : c ≥ 97
      · rw [if_pos h3, if_neg (by omega), if_pos (by omega), if_neg (by omega)]
      · rw [if_neg h3]
        by_cases h4 : c ≥ 65
        · rw [if_pos h4, if_neg (by omega)]
        · rw [if_neg h4]

/-! spec_l5Start -/
-- plain: Word
theorem spec_l5Start_eq (c : Int) : spec_l5Start.f c = some (ltrI c || decide (c = 95) || decide (c = 45)) := by
  have hb : (c == 45) = decide (c = 45) := by rw [Bool.eq_iff_iff]; simp
  unfold spec_l5Start.f
  rw [spec_l4Letter_eq, Option.bind_some, hb]
  split
  · rename_i h; rw [h, Bool.true_or]
  · rename_i h; rw [Bool.not_eq_true] at h; rw [h, Bool.false_or]

/-! spec_l5Inner -/
-- plain: Word
theorem spec_l5Inner_eq (c : Int) : spec_l5Inner.f c = some (wordI c) := by
  unfold spec_l5Inner.f
  rw [spec_l5Start_eq, Option.bind_some, spec_l1Digit_eq, Option.bind_some]
  unfold wordI
  generalize ltrI c = a; generalize digI c = b; generalize decide (c = 95) = d; generalize decide (c = 45) = e
  cases a <;> cases b <;> cases d <;> cases e <;> rfl

/-! spec_l5Run -/
-- plain: Word
def runL (l : List UInt8) : Nat := if runEnd wordU l 0 = 0 then 0 else if digU (l.getD 0 0) = true then 0 else if runEnd wordU l 0 > 30 then 0 else runEnd wordU l 0
theorem spec_l5Run_ev (s : ByteArray) (hs : s.size ≤ 9223372036854775806) : Ev (fun k => spec_l5Run.f k s) ((runL (B s) : Nat) : Int) := by
  refine Ev.congr (f := fun k => spec_l5Run.l0 k s 0) (fun k => rfl) ?_
  have hl := B_len s
  have fin : ∀ e : Nat, e ≤ (B s).length → ∀ k : Nat, (if (e : Int) = 0 then (some (0 : Int)) else (if 0 < (s.size : Int) then ((spec_l1Digit.f (bt s 0)).bind fun t => (if t = true then (some 0) else (if (e : Int) > 30 then (some 0) else (some (e : Int))))) else (none))) =
      some (((if e = 0 then 0 else if digU ((B s).getD 0 0) = true then 0 else if e > 30 then 0 else e : Nat) : Nat) : Int) := by
    intro e he k
    by_cases h0 : e = 0
    · rw [if_pos (by omega), if_pos h0]; rfl
    · have hb := bt_U s 0 (by omega)
      have hd : digI (bt s 0) = digU ((B s).getD 0 0) := by
        have : bt s ((0 : Nat) : Int) = bt s 0 := rfl
        rw [← this, hb]; rfl
      rw [if_neg (by omega), if_neg h0, if_pos (by omega), spec_l1Digit_eq, Option.bind_some, hd]
      split
      · rfl
      · by_cases h30 : e > 30
        · rw [if_pos (by omega), if_pos h30]; rfl
        · rw [if_neg (by omega), if_neg h30]
  have key := ev_from (B s).length (fun i k => spec_l5Run.l0 k s i) (fun i => (((if runEnd wordU (B s) i = 0 then 0 else if digU ((B s).getD 0 0) = true then 0 else if runEnd wordU (B s) i > 30 then 0 else runEnd wordU (B s) i : Nat) : Nat) : Int)) ?_ ?_ 0 (by omega)
  · exact key
  · refine ev_done fun k => ?_
    rw [spec_l5Run.l0, if_neg (by omega), fin _ (Nat.le_refl _) k, runEnd_end _ _ _ (Nat.le_refl _)]
  · intro i hi h
    by_cases hp : wordU ((B s).getD i 0) = true
    · rw [runEnd_yes _ _ _ hi hp]
      refine Ev.step (fun k => ?_) h
      rw [spec_l5Run.l0, if_pos (by omega), if_pos (by omega), spec_l5Inner_eq, Option.bind_some, bt_U s i hi, if_pos (show wordI _ = true from hp), wrap_up hi (by omega)]
    · refine ev_done fun k => ?_
      rw [spec_l5Run.l0, if_pos (by omega), if_pos (by omega), spec_l5Inner_eq, Option.bind_some, bt_U s i hi, if_neg (show ¬ wordI _ = true from hp), runEnd_no _ _ _ hi hp, fin i (by omega) k]

/-! spec_l5Word -/
-- plain: Word
theorem runL_word (l : List UInt8) : (decide (0 < l.length) && decide (runL l = l.length)) = isWordL l := by
  unfold isWordL runL
  have hr := runEnd_le wordU l 0 (by omega)
  have ha := runEnd_all wordU l
  by_cases h0 : 0 < l.length
  · rw [decide_eq_true h0, Bool.true_and]
    cases hd : digU (l.getD 0 0) with
    | true =>
      simp only [if_true, Bool.not_true, Bool.and_false, Bool.false_and]
      rw [decide_eq_false_iff_not]; split <;> omega
    | false =>
      simp only [Bool.false_eq_true, if_false, Bool.not_false, Bool.and_true]
      by_cases hw : l.all wordU = true
      · rw [hw, Bool.and_true, decide_eq_decide, ha.2 hw]
        rw [if_neg (by omega)]
        split <;> omega
      · have hne : runEnd wordU l 0 ≠ l.length := fun h => hw (ha.1 h)
        rw [Bool.not_eq_true] at hw
        rw [hw, Bool.and_false, decide_eq_false_iff_not]
        split
        · omega
        · split <;> omega
  · rw [decide_eq_false h0, decide_eq_false (p := 1 ≤ l.length ∧ l.length ≤ 30) (by omega)]; simp
theorem spec_l5Word_ev (s : ByteArray) (hs : s.size ≤ 9223372036854775806) : Ev (fun k => spec_l5Word.f k s) (isWordL (B s)) := by
  have hl := B_len s
  simp only [spec_l5Word.f]
  rw [← runL_word]
  by_cases h : (s.size : Int) > 0
  · refine ev_if_pos h (ev_bind (spec_l5Run_ev s hs) ?_)
    have e : (decide (0 < (B s).length) && decide (runL (B s) = (B s).length)) = (((runL (B s) : Nat) : Int) == (s.size : Int)) := by
      rw [decide_eq_true (by omega), Bool.true_and, Bool.eq_iff_iff, decide_eq_true_iff, beq_iff_eq]; omega
    rw [e]; exact Ev.now _
  · refine ev_if_neg h ?_
    rw [decide_eq_false (by omega), Bool.false_and]; exact Ev.now _

/-! spec_l5GoodPart -/
-- plain: Word
def sizesPart (x : S40) : Prop := x.f0.size ≤ 1048576 ∧ x.f1.size ≤ 1048576 ∧ x.f2.length ≤ 1048576 ∧ ∀ y ∈ x.f2, y.size ≤ 1048576
def typeOkL (l : List UInt8) : Bool := decide (l = []) || decide (l = [42]) || isWordL l
def idOkL (l : List UInt8) : Bool := decide (l = []) || isWordL l
def partOk (x : S40) : Bool := typeOkL (B x.f0) && idOkL (B x.f1) && decide (x.f2.length ≤ 4) && x.f2.all (fun y => isWordL (B y)) && (!decide (B x.f0 = []) || !decide (B x.f1 = []) || decide (0 < x.f2.length))
theorem spec_l5GoodPart_l0_ev (a b : ByteArray) (c : List ByteArray) (hc : c.length ≤ 1048576) (hg : ∀ y ∈ c, y.size ≤ 1048576) :
    Ev (fun k => spec_l5GoodPart.l0 k c c.length 0 a b c) (c.all (fun y => isWordL (B y)) && (!decide (B a = []) || !decide (B b = []) || decide (0 < c.length))) := by
  refine ev_from c.length (fun i k => spec_l5GoodPart.l0 k c c.length i a b c) (fun i => (c.drop i).all (fun y => isWordL (B y)) && (!decide (B a = []) || !decide (B b = []) || decide (0 < c.length))) ?_ ?_ 0 (by omega)
  · refine ev_done fun k => ?_
    rw [spec_l5GoodPart.l0, if_neg (by omega), toList_B, toList_B]
    simp only [List.drop_length, List.all_nil, Bool.true_and]
    by_cases h1 : B a = []
    · rw [if_pos h1, decide_eq_true h1]
      by_cases h2 : B b = []
      · rw [if_pos h2, decide_eq_true h2]; simp
      · rw [if_neg h2, decide_eq_false h2]; simp
    · rw [if_neg h1, decide_eq_false h1]; simp
  · intro i hi h
    have hmem : c.getD i ByteArray.empty ∈ c := by rw [List.getD_eq_getElem?_getD, List.getElem?_eq_getElem hi]; exact List.getElem_mem hi
    have hz := hg _ hmem
    rw [drop_cons c ByteArray.empty i hi, List.all_cons]
    refine Ev.step (fun k => by rw [spec_l5GoodPart.l0, if_pos (by omega), if_pos (by omega), if_pos (by omega), rdOf_nat]) ?_
    refine ev_bind (spec_l5Word_ev _ (by omega)) ?_
    cases isWordL (B (c.getD i ByteArray.empty)) with
    | true => refine ev_if_pos rfl ?_; rw [wrap_up hi (by omega), Bool.true_and]; exact h
    | false => refine ev_if_neg (by decide) ?_; rw [Bool.false_and, Bool.false_and]; exact Ev.now _
theorem spec_l5GoodPart_j0_ev (t : Bool) (a b : ByteArray) (c : List ByteArray) (hc : c.length ≤ 1048576) (hg : ∀ y ∈ c, y.size ≤ 1048576) :
    Ev (fun k => spec_l5GoodPart.j0 k t a b c) (!t && (c.all (fun y => isWordL (B y)) && (!decide (B a = []) || !decide (B b = []) || decide (0 < c.length)))) := by
  refine Ev.step (fun k => spec_l5GoodPart.j0.eq_2 ..) ?_
  cases t with
  | true => exact ev_if_pos rfl (Ev.now _)
  | false => exact ev_if_neg (by decide) (spec_l5GoodPart_l0_ev a b c hc hg)
theorem spec_l5GoodPart_ev (x : S40) (hx : sizesPart x) : Ev (fun k => spec_l5GoodPart.f k x.f0 x.f1 x.f2) (partOk x) := by
  obtain ⟨x0, x1, x2⟩ := x
  obtain ⟨h0, h1, h2, h3⟩ := hx
  simp only at h0 h1 h2 h3
  have hle : decide (x2.length ≤ 4) = !(decide ((x2.length : Int) > 4)) := by rw [Bool.eq_iff_iff]; simp; omega
  have fin : ∀ (p : Bool), Ev (fun k => if idOkL (B x1) = true then spec_l5GoodPart.j0 k (decide ((x2.length : Int) > 4)) x0 x1 x2 else spec_l5GoodPart.j0 k true x0 x1 x2) (idOkL (B x1) && decide (x2.length ≤ 4) && (x2.all (fun y => isWordL (B y)) && (!decide (B x0 = []) || !decide (B x1 = []) || decide (0 < x2.length)))) := by
    intro _
    cases hi : idOkL (B x1) with
    | true => refine ev_if_pos rfl ?_; rw [hle, Bool.true_and]; exact spec_l5GoodPart_j0_ev _ x0 x1 x2 h2 h3
    | false => refine ev_if_neg (by decide) ?_; rw [Bool.false_and, Bool.false_and]; exact spec_l5GoodPart_j0_ev true x0 x1 x2 h2 h3
  have rest : Ev (fun k => if x1.toList = ([] : List UInt8) then spec_l5GoodPart.j0 k (decide ((x2.length : Int) > 4)) x0 x1 x2 else (spec_l5Word.f k x1).bind fun t => if t = true then spec_l5GoodPart.j0 k (decide ((x2.length : Int) > 4)) x0 x1 x2 else spec_l5GoodPart.j0 k true x0 x1 x2) (idOkL (B x1) && decide (x2.length ≤ 4) && (x2.all (fun y => isWordL (B y)) && (!decide (B x0 = []) || !decide (B x1 = []) || decide (0 < x2.length)))) := by
    have f := fin true
    by_cases hb : B x1 = []
    · refine ev_if_pos (by rw [toList_B]; exact hb) ?_
      have hi : idOkL (B x1) = true := by unfold idOkL; rw [hb]; rfl
      simp only [hi, if_true] at f
      rw [hi]; exact f
    · refine ev_if_neg (by rw [toList_B]; exact hb) ?_
      have hi : idOkL (B x1) = isWordL (B x1) := by unfold idOkL; rw [decide_eq_false hb, Bool.false_or]
      rw [hi] at f
      refine ev_bind (spec_l5Word_ev x1 (by omega)) ?_
      rw [hi]; exact f
  have e : partOk ⟨x0, x1, x2⟩ = (typeOkL (B x0) && (idOkL (B x1) && decide (x2.length ≤ 4) && (x2.all (fun y => isWordL (B y)) && (!decide (B x0 = []) || !decide (B x1 = []) || decide (0 < x2.length))))) := by
    unfold partOk; simp only [Bool.and_assoc]
  rw [e]
  simp only [spec_l5GoodPart.f]
  by_cases ha : B x0 = []
  · refine ev_if_pos (by rw [toList_B]; exact ha) ?_
    have ht : typeOkL (B x0) = true := by unfold typeOkL; rw [ha]; rfl
    rw [ht, Bool.true_and]; exact rest
  · refine ev_if_neg (by rw [toList_B]; exact ha) ?_
    by_cases hs : B x0 = [42]
    · refine ev_if_pos (by rw [toList_B]; exact hs) ?_
      have ht : typeOkL (B x0) = true := by unfold typeOkL; rw [hs]; rfl
      rw [ht, Bool.true_and]; exact rest
    · refine ev_if_neg (by rw [toList_B]; exact hs) ?_
      have ht : typeOkL (B x0) = isWordL (B x0) := by unfold typeOkL; rw [decide_eq_false ha, decide_eq_false hs]; simp
      refine ev_bind (spec_l5Word_ev x0 (by omega)) ?_
      rw [ht]
      cases isWordL (B x0) with
      | true => refine ev_if_pos rfl ?_; rw [Bool.true_and]; exact rest
      | false => refine ev_if_neg (by decide) ?_; rw [Bool.false_and]; exact spec_l5GoodPart_j0_ev true x0 x1 x2 h2 h3

/-! spec_l5Good -/
-- plain: Word
def selOk (l : List S40) : Bool := decide (1 ≤ l.length ∧ l.length ≤ 5) && l.all partOk
theorem spec_l5Good_ev (l : List S40) (hl : l.length ≤ 1048576) (hg : ∀ x ∈ l, sizesPart x) : Ev (fun k => spec_l5Good.f k l) (selOk l) := by
  simp only [spec_l5Good.f, spec_l1In_eq, Option.bind_some]
  unfold selOk
  by_cases h : 1 ≤ l.length ∧ l.length ≤ 5
  · refine ev_if_pos (by rw [decide_eq_true_iff]; omega) ?_
    rw [decide_eq_true h, Bool.true_and]
    refine ev_from l.length (fun i k => spec_l5Good.l0 k l l.length i) (fun i => (l.drop i).all partOk) ?_ ?_ 0 (by omega)
    · refine ev_done fun k => ?_
      rw [spec_l5Good.l0, if_neg (by omega)]; simp
    · intro i hi hh
      have hrd : rd_T40 l (i : Int) = l.getD i z40 := by simp [rd_T40]
      have hmem : l.getD i z40 ∈ l := by rw [List.getD_eq_getElem?_getD, List.getElem?_eq_getElem hi]; exact List.getElem_mem hi
      rw [drop_cons l z40 i hi, List.all_cons]
      refine Ev.step (fun k => by rw [spec_l5Good.l0, if_pos (by omega), if_pos (by omega), if_pos (by omega), hrd]) ?_
      refine ev_bind (spec_l5GoodPart_ev _ (hg _ hmem)) ?_
      cases partOk (l.getD i z40) with
      | true => refine ev_if_pos rfl ?_; rw [wrap_up hi (by omega), Bool.true_and]; exact hh
      | false => refine ev_if_neg (by decide) ?_; rw [Bool.false_and]; exact Ev.now _
  · refine ev_if_neg (by rw [decide_eq_true_iff]; omega) ?_
    rw [decide_eq_false h, Bool.false_and]; exact Ev.now _

/-! laws_toStringS -/
-- plain: Evs
theorem laws_toStringS_ev (l : List ByteArray) (hn : l.length ≤ 1048576) : Ev (fun k => laws_toStringS.f k l) l := by
  refine Ev.congr (f := fun k => laws_toStringS.l0 k l (List.replicate l.length (⟨#[]⟩ : ByteArray)) 0) (fun k => ?_) ?_
  · unfold laws_toStringS.f; rw [if_pos (by omega), if_pos (by omega)]; rfl
  · refine ev_up l.length (fun i k => laws_toStringS.l0 k l (l.take i ++ List.replicate (l.length - i) (⟨#[]⟩ : ByteArray)) i) l ?_ ?_
    · refine ev_done fun k => ?_
      rw [laws_toStringS.l0, if_neg (by omega)]; simp
    · intro i hi h
      refine Ev.step (fun k => ?_) h
      rw [laws_toStringS.l0, if_pos (by omega), if_pos (by omega), if_pos (by simp; omega), wrap_up hi (by omega), rdOf_nat, Int.toNat_natCast, take_set _ _ _ hi _ (by simp; omega), List.tail_replicate]
      congr 3

/-! laws_toPart -/
-- plain: Evs
def toPart (x : S37) : S40 := ⟨x.f0, x.f1, x.f2⟩
theorem laws_toPart_ev (x : S37) (hn : x.f2.length ≤ 1048576) : Ev (fun k => laws_toPart.f k x.f0 x.f1 x.f2) (x.f0, x.f1, x.f2) := by
  simp only [laws_toPart.f]
  exact ev_bind (laws_toStringS_ev x.f2 hn) (Ev.now _)

/-! laws_toPartS -/
-- plain: Evs
theorem laws_toPartS_ev (l : List S37) (hn : l.length ≤ 1048576) (hg : ∀ x ∈ l, x.f2.length ≤ 1048576) : Ev (fun k => laws_toPartS.f k l) (l.map toPart) := by
  refine Ev.congr (f := fun k => laws_toPartS.l0 k l (List.replicate l.length z40) 0) (fun k => ?_) ?_
  · unfold laws_toPartS.f; rw [if_pos (by omega), if_pos (by omega)]; rfl
  · refine ev_up l.length (fun i k => laws_toPartS.l0 k l ((l.map toPart).take i ++ List.replicate (l.length - i) z40) i) (l.map toPart) ?_ ?_
    · refine ev_done fun k => ?_
      rw [laws_toPartS.l0, if_neg (by omega), List.take_of_length_le (by simp)]; simp
    · intro i hi h
      have hrd : rd_T37 l (i : Int) = l.getD i z37 := by simp [rd_T37]
      have hmem : l.getD i z37 ∈ l := by rw [List.getD_eq_getElem?_getD, List.getElem?_eq_getElem hi]; exact List.getElem_mem hi
      have e : toPart (l.getD i z37) = (l.map toPart).getD i z40 := by simp [hi]
      refine Ev.step (fun k => by rw [laws_toPartS.l0, if_pos (by omega), if_pos (by omega), hrd]) ?_
      refine ev_bind (laws_toPart_ev (l.getD i z37) (hg _ hmem)) (ev_if_pos (by simp; omega) ?_)
      have e2 := take_set (l.map toPart) z40 i (by simpa using hi) (List.replicate (l.length - i) z40) (by simp; omega)
      rw [← e, List.tail_replicate] at e2
      rw [Int.toNat_natCast, wrap_up hi (by omega)]
      refine Ev.congr (fun k => ?_) h
      rw [show l.length - (i + 1) = l.length - i - 1 by omega, ← e2]
      rfl

/-! impl_within -/
theorem impl_within_eq (a b c : Int) : impl_within.f a b c = some (decide (b ≤ a ∧ a ≤ c)) := by
  unfold impl_within.f
  split
  · rename_i h; simp [h]
  · rename_i h; simp [h]

/-! impl_isDigit -/
-- plain: Word
theorem impl_isDigit_eq (c : Int) : impl_isDigit.f c = some (digI c) := by
  unfold impl_isDigit.f digI
  split
  · rename_i h; congr 1; rw [decide_eq_decide]; omega
  · rename_i h; congr 1; rw [eq_comm, decide_eq_false_iff_not]; omega

/-! impl_isLetter -/
-- plain: Word
theorem impl_isLetter_eq (c : Int) : impl_isLetter.f c = some (ltrI c) := by
  unfold impl_isLetter.f ltrI
  split
  · split
    · congr 1; rw [eq_comm, decide_eq_true_iff]; omega
    · split
      · congr 1; rw [decide_eq_decide]; omega
      · congr 1; rw [eq_comm, decide_eq_false_iff_not]; omega
  · split
    · congr 1; rw [decide_eq_decide]; omega
    · congr 1; rw [eq_comm, decide_eq_false_iff_not]; omega

/-! impl_wordEnd -/
-- plain: Word
theorem impl_wordEnd_l0_ev (s : ByteArray) (hs : s.size ≤ 9223372036854775806) (i : Nat) : Ev (fun k => impl_wordEnd.l0 k s i) ((runEnd wordU (B s) i : Nat) : Int) := by
  have hl := B_len s
  by_cases hi0 : i ≤ (B s).length
  · refine ev_from (B s).length (fun i k => impl_wordEnd.l0 k s i) (fun i => ((runEnd wordU (B s) i : Nat) : Int)) ?_ ?_ i hi0
    · refine ev_done fun k => ?_
      rw [impl_wordEnd.l0, if_neg (by omega), runEnd_end _ _ _ (Nat.le_refl _)]
    · intro i hi h
      have hb := bt_U s i hi
      by_cases hp : wordU ((B s).getD i 0) = true
      · rw [runEnd_yes _ _ _ hi hp]
        refine Ev.step (fun k => ?_) h
        rw [impl_wordEnd.l0, if_pos (by omega), if_pos (by omega), impl_isLetter_eq, Option.bind_some, impl_isDigit_eq, Option.bind_some, hb, wrap_up hi (by omega)]
        unfold wordU wordI at hp
        by_cases c1 : ltrI (((B s).getD i 0).toNat : Int) = true
        · rw [if_pos c1]
        · rw [if_neg c1]
          by_cases c2 : digI (((B s).getD i 0).toNat : Int) = true
          · rw [if_pos c2]
          · rw [if_neg c2]
            by_cases c3 : (((B s).getD i 0).toNat : Int) = 95
            · rw [if_pos c3]
            · rw [if_neg c3, if_pos]
              simp only [Bool.not_eq_true] at c1 c2
              rw [c1, c2, decide_eq_false c3] at hp
              simpa using hp
      · refine ev_done fun k => ?_
        rw [impl_wordEnd.l0, if_pos (by omega), if_pos (by omega), impl_isLetter_eq, Option.bind_some, impl_isDigit_eq, Option.bind_some, hb, runEnd_no _ _ _ hi hp]
        unfold wordU wordI at hp
        simp only [Bool.or_eq_true, not_or, decide_eq_true_iff] at hp
        rw [if_neg hp.1.1.1, if_neg hp.1.1.2, if_neg hp.1.2, if_neg hp.2]
  · refine ev_done fun k => ?_
    rw [impl_wordEnd.l0, if_neg (by omega), runEnd_end _ _ _ (by omega)]
def wordEndL (l : List UInt8) (i : Nat) : Nat := if i < l.length ∧ digU (l.getD i 0) = true then i else runEnd wordU l i
theorem impl_wordEnd_ev (s : ByteArray) (hs : s.size ≤ 9223372036854775806) (i : Nat) : Ev (fun k => impl_wordEnd.f k s i) ((wordEndL (B s) i : Nat) : Int) := by
  have hl := B_len s
  simp only [impl_wordEnd.f]
  unfold wordEndL
  by_cases hi : i < (B s).length
  · refine ev_if_pos (by omega) (ev_if_pos (by omega) ?_)
    rw [impl_isDigit_eq, bt_U s i hi]
    simp only [Option.bind_some]
    by_cases hd : digU ((B s).getD i 0) = true
    · rw [if_pos ⟨hi, hd⟩]
      refine Ev.step (fun k => impl_wordEnd.j0.eq_2 ..) (ev_if_pos hd (Ev.now _))
    · rw [if_neg (fun h => hd h.2)]
      refine Ev.step (fun k => impl_wordEnd.j0.eq_2 ..) (ev_if_neg hd (impl_wordEnd_l0_ev s hs i))
  · rw [if_neg (fun h => hi h.1)]
    refine ev_if_neg (by omega) (Ev.step (fun k => impl_wordEnd.j0.eq_2 ..) (ev_if_neg (by decide) (impl_wordEnd_l0_ev s hs i)))

/-! impl_isWord -/
-- plain: Word
theorem wordEnd_word (l : List UInt8) : (decide (1 ≤ l.length ∧ l.length ≤ 30) && decide (wordEndL l 0 = l.length)) = isWordL l := by
  unfold isWordL wordEndL
  have ha := runEnd_all wordU l
  by_cases h0 : 1 ≤ l.length ∧ l.length ≤ 30
  · rw [decide_eq_true h0, Bool.true_and, Bool.true_and]
    cases hd : digU (l.getD 0 0) with
    | true =>
      rw [if_pos ⟨by omega, rfl⟩]
      simp only [Bool.not_true, Bool.false_and]
      rw [decide_eq_false_iff_not]; omega
    | false =>
      rw [if_neg (fun h => by simp at h)]
      simp only [Bool.not_false, Bool.true_and]
      rw [Bool.eq_iff_iff, decide_eq_true_iff]; exact ha
  · rw [decide_eq_false h0]; simp
theorem impl_isWord_ev (s : ByteArray) (hs : s.size ≤ 9223372036854775806) : Ev (fun k => impl_isWord.f k s) (isWordL (B s)) := by
  have hl := B_len s
  simp only [impl_isWord.f]
  rw [← wordEnd_word, impl_within_eq]
  simp only [Option.bind_some]
  by_cases h : 1 ≤ (B s).length ∧ (B s).length ≤ 30
  · refine ev_if_pos (by rw [decide_eq_true_iff]; omega) (ev_bind (impl_wordEnd_ev s hs 0) ?_)
    have e : (decide (1 ≤ (B s).length ∧ (B s).length ≤ 30) && decide (wordEndL (B s) 0 = (B s).length)) = (((wordEndL (B s) 0 : Nat) : Int) == (s.size : Int)) := by
      rw [decide_eq_true h, Bool.true_and, Bool.eq_iff_iff, decide_eq_true_iff, beq_iff_eq]; omega
    rw [e]; exact Ev.now _
  · refine ev_if_neg (by rw [decide_eq_true_iff]; omega) ?_
    rw [decide_eq_false h, Bool.false_and]; exact Ev.now _

/-! impl_isPart -/
-- plain: Word
theorem impl_isPart_j1_ev (t : Bool) (a b : ByteArray) (c : List ByteArray) (ha : a.size ≤ 1048576) (hb : b.size ≤ 1048576) : Ev (fun k => impl_isPart.j1 k t a b c) (!t && (typeOkL (B a) && idOkL (B b))) := by
  have rest : Ev (fun k => if b.toList = ([] : List UInt8) then (some true) else ((impl_isWord.f k b).bind fun t => (some t))) (idOkL (B b)) := by
    by_cases h : B b = []
    · have hi : idOkL (B b) = true := by unfold idOkL; rw [h]; rfl
      rw [hi]; exact ev_if_pos (by rw [toList_B]; exact h) (Ev.now _)
    · have hi : idOkL (B b) = isWordL (B b) := by unfold idOkL; rw [decide_eq_false h, Bool.false_or]
      rw [hi]; exact ev_if_neg (by rw [toList_B]; exact h) (ev_bind (impl_isWord_ev b (by omega)) (Ev.now _))
  refine Ev.step (fun k => impl_isPart.j1.eq_2 ..) ?_
  cases t with
  | true => exact ev_if_pos rfl (Ev.now _)
  | false =>
    refine ev_if_neg (by decide) ?_
    rw [Bool.not_false, Bool.true_and]
    by_cases h0 : B a = []
    · have ht : typeOkL (B a) = true := by unfold typeOkL; rw [h0]; rfl
      rw [ht, Bool.true_and]; exact ev_if_pos (by rw [toList_B]; exact h0) rest
    · refine ev_if_neg (by rw [toList_B]; exact h0) ?_
      by_cases hs : B a = [42]
      · have ht : typeOkL (B a) = true := by unfold typeOkL; rw [hs]; rfl
        rw [ht, Bool.true_and]; exact ev_if_pos (by rw [toList_B]; exact hs) rest
      · have ht : typeOkL (B a) = isWordL (B a) := by unfold typeOkL; rw [decide_eq_false h0, decide_eq_false hs]; simp
        refine ev_if_neg (by rw [toList_B]; exact hs) (ev_bind (impl_isWord_ev a (by omega)) ?_)
        rw [ht]
        cases isWordL (B a) with
        | true => rw [Bool.true_and]; exact ev_if_pos rfl rest
        | false => exact ev_if_neg (by decide) (Ev.now _)
theorem impl_isPart_ev (x : S40) (hx : sizesPart x) : Ev (fun k => impl_isPart.f k x.f0 x.f1 x.f2) (partOk x) := by
  obtain ⟨a, b, c⟩ := x
  obtain ⟨h0, h1, h2, h3⟩ := hx
  simp only at h0 h1 h2 h3
  have hle : (!(decide ((c.length : Int) > 4))) = decide (c.length ≤ 4) := by rw [Bool.eq_iff_iff]; simp; omega
  have e : partOk ⟨a, b, c⟩ = (c.all (fun y => isWordL (B y)) && ((!decide (B a = []) || !decide (B b = []) || decide (0 < c.length)) && decide (c.length ≤ 4) && (typeOkL (B a) && idOkL (B b)))) := by
    unfold partOk
    simp only
    generalize typeOkL (B a) = p; generalize idOkL (B b) = q; generalize decide (c.length ≤ 4) = r; generalize c.all (fun y => isWordL (B y)) = s; generalize decide (B a = []) = t; generalize decide (B b = []) = u; generalize decide (0 < c.length) = v
    cases p <;> cases q <;> cases r <;> cases s <;> cases t <;> cases u <;> cases v <;> rfl
  rw [e]
  refine ev_from c.length (fun i k => impl_isPart.l0 k c c.length i a b c) (fun i => (c.drop i).all (fun y => isWordL (B y)) && ((!decide (B a = []) || !decide (B b = []) || decide (0 < c.length)) && decide (c.length ≤ 4) && (typeOkL (B a) && idOkL (B b)))) ?_ ?_ 0 (by omega)
  · refine Ev.step (fun k => by rw [impl_isPart.l0, if_neg (by omega), toList_B, toList_B]) ?_
    simp only [List.drop_length, List.all_nil, Bool.true_and]
    have j := fun t => impl_isPart_j1_ev t a b c h0 h1
    by_cases ha : B a = []
    · refine ev_if_pos ha ?_
      by_cases hb : B b = []
      · refine ev_if_pos hb ?_
        by_cases hc : (c.length : Int) = 0
        · refine ev_if_pos hc ?_
          rw [decide_eq_true ha, decide_eq_true hb, decide_eq_false (p := 0 < c.length) (by omega)]
          exact j true
        · refine ev_if_neg hc ?_
          rw [decide_eq_true ha, decide_eq_true hb, decide_eq_true (p := 0 < c.length) (by omega), ← hle]
          exact j _
      · refine ev_if_neg hb ?_
        rw [decide_eq_true ha, decide_eq_false hb, ← hle]
        exact j _
    · refine ev_if_neg ha ?_
      rw [decide_eq_false ha, ← hle]
      exact j _
  · intro i hi h
    have hmem : c.getD i ByteArray.empty ∈ c := by rw [List.getD_eq_getElem?_getD, List.getElem?_eq_getElem hi]; exact List.getElem_mem hi
    have hz := h3 _ hmem
    rw [drop_cons c ByteArray.empty i hi, List.all_cons]
    refine Ev.step (fun k => by rw [impl_isPart.l0, if_pos (by omega), if_pos (by omega), if_pos (by omega), rdOf_nat]) ?_
    refine ev_bind (impl_isWord_ev _ (by omega)) ?_
    cases isWordL (B (c.getD i ByteArray.empty)) with
    | true => refine ev_if_pos rfl ?_; rw [wrap_up hi (by omega), Bool.true_and]; exact h
    | false => refine ev_if_neg (by decide) ?_; rw [Bool.false_and, Bool.false_and]; exact Ev.now _

/-! impl_isSelector -/
-- plain: Word
theorem impl_isSelector_ev (l : List S40) (hl : l.length ≤ 1048576) (hg : ∀ x ∈ l, sizesPart x) : Ev (fun k => impl_isSelector.f k l) (selOk l) := by
  have e : selOk l = (l.all partOk && decide (1 ≤ (l.length : Int) ∧ (l.length : Int) ≤ 5)) := by
    unfold selOk; rw [Bool.and_comm]; congr 1; rw [decide_eq_decide]; omega
  rw [e]
  refine ev_from l.length (fun i k => impl_isSelector.l0 k l l l.length i) (fun i => (l.drop i).all partOk && decide (1 ≤ (l.length : Int) ∧ (l.length : Int) ≤ 5)) ?_ ?_ 0 (by omega)
  · refine ev_done fun k => ?_
    rw [impl_isSelector.l0, if_neg (by omega), impl_within_eq, Option.bind_some]; simp
  · intro i hi hh
    have hrd : rd_T40 l (i : Int) = l.getD i z40 := by simp [rd_T40]
    have hmem : l.getD i z40 ∈ l := by rw [List.getD_eq_getElem?_getD, List.getElem?_eq_getElem hi]; exact List.getElem_mem hi
    rw [drop_cons l z40 i hi, List.all_cons]
    refine Ev.step (fun k => by rw [impl_isSelector.l0, if_pos (by omega), if_pos (by omega), if_pos (by omega), hrd]) ?_
    refine ev_bind (impl_isPart_ev _ (hg _ hmem)) ?_
    cases partOk (l.getD i z40) with
    | true => refine ev_if_pos rfl ?_; rw [wrap_up hi (by omega), Bool.true_and]; exact hh
    | false => refine ev_if_neg (by decide) ?_; rw [Bool.false_and, Bool.false_and]; exact Ev.now _

/-! laws_eqStringS -/
-- plain: Evs
theorem laws_eqStringS_same (l : List ByteArray) (hn : l.length ≤ 9223372036854775807) : Ev (fun k => laws_eqStringS.f k l l) true := by
  refine Ev.congr (f := fun k => laws_eqStringS.l0 k l l 0) (fun k => ?_) ?_
  · unfold laws_eqStringS.f; rw [if_pos rfl]
  · refine ev_up l.length (fun i k => laws_eqStringS.l0 k l l i) true ?_ ?_
    · refine ev_done fun k => ?_
      rw [laws_eqStringS.l0, if_neg (by omega)]
    · intro i hi h
      refine Ev.step (fun k => ?_) h
      rw [laws_eqStringS.l0, if_pos (by omega), if_pos (by omega), if_pos (by omega), if_pos rfl, wrap_up hi (by omega)]

/-! laws_eqPart -/
-- plain: Evs
theorem laws_eqPart_same (a b : ByteArray) (l : List ByteArray) (hn : l.length ≤ 9223372036854775807) : Ev (fun k => laws_eqPart.f k a b l a b l) true := by
  simp only [laws_eqPart.f]
  exact ev_if_pos trivial (ev_if_pos trivial (ev_bind (laws_eqStringS_same l hn) (ev_if_pos rfl (Ev.now _))))

/-! laws_eqPartS -/
-- plain: Evs
theorem laws_eqPartS_same (l : List S40) (hn : l.length ≤ 9223372036854775807) (hg : ∀ x ∈ l, x.f2.length ≤ 9223372036854775807) : Ev (fun k => laws_eqPartS.f k l l) true := by
  refine Ev.congr (f := fun k => laws_eqPartS.l0 k l l 0) (fun k => ?_) ?_
  · unfold laws_eqPartS.f; rw [if_pos rfl]
  · refine ev_up l.length (fun i k => laws_eqPartS.l0 k l l i) true ?_ ?_
    · refine ev_done fun k => ?_
      rw [laws_eqPartS.l0, if_neg (by omega)]
    · intro i hi h
      have hrd : rd_T40 l (i : Int) = l.getD i z40 := by simp [rd_T40]
      have hmem : l.getD i z40 ∈ l := by rw [List.getD_eq_getElem?_getD, List.getElem?_eq_getElem hi]; exact List.getElem_mem hi
      refine Ev.step (fun k => by rw [laws_eqPartS.l0, if_pos (by omega), if_pos (by omega), if_pos (by omega), hrd]) ?_
      refine ev_bind (laws_eqPart_same _ _ _ (hg _ hmem)) (ev_if_pos rfl ?_)
      rw [wrap_up hi (by omega)]; exact h

/-! partsizes -/
-- plain: Word
theorem totStr_mem (l : List ByteArray) : ∀ x ∈ l, (x.size : Int) ≤ (l.map totStr).sum := by
  induction l with
  | nil => intro x hx; simp at hx
  | cons y l ih =>
    intro x hx
    rw [List.map_cons, List.sum_cons]
    have := totStringS_parts l
    have hy : 0 ≤ totStr y := by unfold totStr; omega
    rcases List.mem_cons.1 hx with rfl | hx
    · have : totStr x = (x.size : Int) := rfl
      omega
    · have := ih x hx; omega
theorem totPart_mem (l : List S37) : ∀ x ∈ l, totPart x ≤ (l.map totPart).sum := by
  induction l with
  | nil => intro x hx; simp at hx
  | cons y l ih =>
    intro x hx
    rw [List.map_cons, List.sum_cons]
    have := totPartS_parts l
    have := totPart_nonneg y
    rcases List.mem_cons.1 hx with rfl | hx
    · omega
    · have := ih x hx; omega
theorem sizes_of (l : List S37) (h : totPartS l ≤ 1048576) : l.length ≤ 1048576 ∧ ∀ x ∈ l, x.f0.size ≤ 1048576 ∧ x.f1.size ≤ 1048576 ∧ x.f2.length ≤ 1048576 ∧ ∀ y ∈ x.f2, y.size ≤ 1048576 := by
  unfold totPartS at h
  have h0 := totPartS_parts l
  refine ⟨by omega, fun x hx => ?_⟩
  have h1 := totPart_mem l x hx
  have hd : totPart x = (x.f0.size : Int) + (x.f1.size : Int) + ((x.f2.length : Int) + (x.f2.map totStr).sum) := rfl
  have h2 := totStringS_parts x.f2
  refine ⟨by omega, by omega, by omega, fun y hy => ?_⟩
  have := totStr_mem x.f2 y hy
  omega

/-! seltext -/
-- plain: Evs Word Trim
theorem st_size (a b : ByteArray) : (a ++ b).size = a.size + b.size := by rw [← B_len, ← B_len, ← B_len, B_append, List.length_append]
def dotB : ByteArray := ⟨#[46]⟩
def sharpB : ByteArray := ⟨#[35]⟩
def spaceB : ByteArray := ⟨#[32]⟩
def dotted (o c : ByteArray) : ByteArray := o ++ (dotB ++ c)
theorem size_dot (c : ByteArray) : (dotB ++ c).size = 1 + c.size := by rw [st_size]; rfl
theorem size_sharp (c : ByteArray) : (sharpB ++ c).size = 1 + c.size := by rw [st_size]; rfl
def partHead (x : S40) : ByteArray := if B x.f1 = [] then x.f0 else x.f0 ++ (sharpB ++ x.f1)
def partText (x : S40) : ByteArray := x.f2.foldl dotted (partHead x)
theorem foldl_size : ∀ (c : List ByteArray) (o : ByteArray), (∀ y ∈ c, y.size ≤ 1048576) → (c.foldl dotted o).size ≤ o.size + c.length * 1048577
  | [], o, _ => by simp
  | y :: c, o, h => by
    rw [List.foldl_cons, List.length_cons]
    have h1 := foldl_size c (dotted o y) (fun z hz => h z (List.mem_cons_of_mem _ hz))
    have h2 := h y List.mem_cons_self
    have h3 : (dotted o y).size = o.size + (1 + y.size) := by unfold dotted; rw [st_size, size_dot]
    omega
theorem partHead_size (x : S40) (hx : sizesPart x) : (partHead x).size ≤ 2097153 := by
  obtain ⟨h0, h1, _⟩ := hx
  unfold partHead
  split
  · omega
  · rw [st_size, size_sharp]; omega
theorem partText_size (x : S40) (hx : sizesPart x) : (partText x).size ≤ 1100000000000 := by
  have h1 := partHead_size x hx
  have h2 := foldl_size x.f2 (partHead x) hx.2.2.2
  have h3 := hx.2.2.1
  unfold partText
  omega
theorem spec_part_l0 (c : List ByteArray) (hc : c.length ≤ 1048576) (hg : ∀ y ∈ c, y.size ≤ 1048576) : ∀ (d i : Nat) (o : ByteArray), i + d = c.length → o.size ≤ 2097153 + i * 1048577 → Ev (fun k => spec_l5PartText.l0 k o c (c.length : Int) (i : Int)) ((c.drop i).foldl dotted o) := by
  intro d
  induction d with
  | zero =>
    intro i o hi ho
    rw [List.drop_eq_nil_of_le (by omega)]
    exact Ev.step (fun k => spec_l5PartText.l0.eq_2 ..) (ev_if_neg (by omega) (Ev.now _))
  | succ d ih =>
    intro i o hi ho
    have hmem : c.getD i ByteArray.empty ∈ c := by rw [List.getD_eq_getElem?_getD, List.getElem?_eq_getElem (by omega)]; exact List.getElem_mem (by omega)
    have hz := hg _ hmem
    have hd := size_dot (c.getD i ByteArray.empty)
    rw [drop_cons c ByteArray.empty i (by omega), List.foldl_cons]
    refine Ev.step (fun k => spec_l5PartText.l0.eq_2 ..) (ev_if_pos (by omega) (ev_if_pos (by omega) (ev_if_pos (by omega) ?_)))
    rw [rdOf_nat, wrap_id (x := (i : Int) + 1) (by omega) (by omega), cast_succ]
    refine ev_if_pos (by omega) (ev_if_pos (show o.size + (dotB ++ c.getD i ByteArray.empty).size ≤ _ by omega) ?_)
    exact ih (i + 1) (dotted o (c.getD i ByteArray.empty)) (by omega) (by unfold dotted; rw [st_size]; omega)
theorem spec_part_ev (x : S40) (hx : sizesPart x) : Ev (fun k => spec_l5PartText.f k x.f0 x.f1 x.f2) (partText x) := by
  have hh := partHead_size x hx
  have key := spec_part_l0 x.f2 hx.2.2.1 hx.2.2.2 x.f2.length 0 (partHead x) (by omega) (by omega)
  rw [List.drop_zero] at key
  obtain ⟨h0, h1, _⟩ := hx
  simp only [spec_l5PartText.f]
  by_cases hb : B x.f1 = []
  · have e : partHead x = x.f0 := by unfold partHead; rw [if_pos hb]
    unfold partText
    rw [e] at key ⊢
    exact ev_if_pos (by rw [toList_B]; exact hb) (Ev.step (fun k => spec_l5PartText.j0.eq_2 ..) key)
  · have e : partHead x = x.f0 ++ (sharpB ++ x.f1) := by unfold partHead; rw [if_neg hb]
    unfold partText
    rw [e] at key ⊢
    have hs := size_sharp x.f1
    exact ev_if_neg (by rw [toList_B]; exact hb) (ev_if_pos (by omega) (ev_if_pos (show x.f0.size + (sharpB ++ x.f1).size ≤ _ by omega) (Ev.step (fun k => spec_l5PartText.j0.eq_2 ..) key)))
theorem impl_part_l1 (x4 : List ByteArray) (hx4 : x4.length ≤ 10) (l : List S40) (n j : Int) (t0 t1 : ByteArray) (c : List ByteArray) (hc : c.length ≤ 1048576) (hg : ∀ y ∈ c, y.size ≤ 1048576) (r : ByteArray × Bool) : ∀ (d i : Nat) (o : ByteArray), i + d = c.length → o.size ≤ 2097153 + i * 1048577 →
    Ev (fun k => impl_SelectorText.l0 k (x4 ++ [(c.drop i).foldl dotted o]) l n (wrap64 (j + 1))) r → Ev (fun k => impl_SelectorText.l1 k x4 o l n j c (c.length : Int) (i : Int)) r := by
  intro d
  induction d with
  | zero =>
    intro i o hi ho h
    rw [List.drop_eq_nil_of_le (by omega)] at h
    exact Ev.step (fun k => impl_SelectorText.l1.eq_2 ..) (ev_if_neg (by omega) (ev_if_pos (by omega) h))
  | succ d ih =>
    intro i o hi ho h
    have hmem : c.getD i ByteArray.empty ∈ c := by rw [List.getD_eq_getElem?_getD, List.getElem?_eq_getElem (by omega)]; exact List.getElem_mem (by omega)
    have hz := hg _ hmem
    have hd := size_dot (c.getD i ByteArray.empty)
    rw [drop_cons c ByteArray.empty i (by omega), List.foldl_cons] at h
    refine Ev.step (fun k => impl_SelectorText.l1.eq_2 ..) (ev_if_pos (by omega) (ev_if_pos (by omega) (ev_if_pos (by omega) ?_)))
    rw [rdOf_nat, wrap_id (x := (i : Int) + 1) (by omega) (by omega), cast_succ]
    refine ev_if_pos (by omega) (ev_if_pos (show o.size + (dotB ++ c.getD i ByteArray.empty).size ≤ _ by omega) ?_)
    exact ih (i + 1) (dotted o (c.getD i ByteArray.empty)) (by omega) (by unfold dotted; rw [st_size]; omega) h
theorem selOk_len (l : List S40) (h : selOk l = true) : 1 ≤ l.length ∧ l.length ≤ 5 := by
  unfold selOk at h
  rw [Bool.and_eq_true] at h
  exact of_decide_eq_true h.1
def partAt (l : List S40) (i : Nat) : S40 := l.getD i z40
theorem rd_part (l : List S40) (i : Nat) : rd_T40 l (i : Int) = partAt l i := by simp [rd_T40, partAt]
theorem part_mem (l : List S40) (i : Nat) (hi : i < l.length) : partAt l i ∈ l := by unfold partAt; rw [List.getD_eq_getElem?_getD, List.getElem?_eq_getElem hi]; exact List.getElem_mem hi
def tailL (l : List S40) : List UInt8 := (l.map fun x => (32 : UInt8) :: B (partText x)).flatten
theorem tail_cons (x : S40) (l : List S40) : tailL (x :: l) = (32 : UInt8) :: B (partText x) ++ tailL l := by simp [tailL]
theorem spec_text_l0 (l : List S40) (hl : l.length ≤ 5) (hsz : ∀ x ∈ l, sizesPart x) : ∀ (d i : Nat) (o : ByteArray), i + d = l.length → 0 < i → o.size ≤ i * 1100000000001 → Ev (fun k => spec_l5Text.l0 k o l (l.length : Int) (i : Int)) (ofL (B o ++ tailL (l.drop i))) := by
  intro d
  induction d with
  | zero =>
    intro i o hi h0 ho
    rw [List.drop_eq_nil_of_le (by omega)]
    have e : ofL (B o ++ tailL []) = o := B_ext (by rw [B_ofL]; simp [tailL])
    rw [e]
    exact Ev.step (fun k => spec_l5Text.l0.eq_2 ..) (ev_if_neg (by omega) (Ev.now _))
  | succ d ih =>
    intro i o hi h0 ho
    have hx := hsz _ (part_mem l i (by omega))
    have ht := partText_size _ hx
    have hs : (o ++ spaceB).size = o.size + 1 := by rw [st_size]; rfl
    refine Ev.step (fun k => spec_l5Text.l0.eq_2 ..) (ev_if_pos (by omega) (ev_if_pos (by omega) (ev_if_pos (by omega) (ev_if_pos (by omega) (ev_if_pos (by omega) ?_)))))
    rw [rd_part, wrap_id (x := (i : Int) + 1) (by omega) (by omega), cast_succ]
    refine ev_bind (spec_part_ev _ hx) (ev_if_pos (show (o ++ spaceB).size + _ ≤ _ by omega) ?_)
    have e : B o ++ tailL (l.drop i) = B ((o ++ spaceB) ++ partText (partAt l i)) ++ tailL (l.drop (i + 1)) := by
      rw [show l.drop i = partAt l i :: l.drop (i + 1) from drop_cons l z40 i (by omega), tail_cons, B_append, B_append]
      show _ = B o ++ [(32 : UInt8)] ++ _ ++ _
      simp
    rw [e]
    exact ih (i + 1) ((o ++ spaceB) ++ partText (partAt l i)) (by omega) (by omega) (by rw [st_size]; omega)
theorem join_tail (l : List S40) : Go.Lib.joinTail [32] ((l.map partText).map (·.data.toList)) = tailL l := by
  unfold Go.Lib.joinTail tailL
  rw [List.map_map, List.map_map]
  rfl
theorem tail_len (l : List S40) (hsz : ∀ x ∈ l, sizesPart x) : (tailL l).length ≤ l.length * 1100000000001 := by
  induction l with
  | nil => simp [tailL]
  | cons x l ih =>
    have h1 := ih (fun y hy => hsz y (List.mem_cons_of_mem _ hy))
    have h2 := partText_size x (hsz x List.mem_cons_self)
    have h3 := B_len (partText x)
    rw [tail_cons, List.length_append, List.length_cons, List.length_cons]
    omega
theorem SelectorText_same (l : List S40) (hn : l.length ≤ 1048576) (hsz : ∀ x ∈ l, sizesPart x) : ∃ r, Ev (fun k => spec_SelectorText.f k l) r ∧ Ev (fun k => impl_SelectorText.f k l) r := by
  simp only [spec_SelectorText.f, impl_SelectorText.f]
  cases h : selOk l with
  | false =>
    exact ⟨((⟨#[]⟩ : ByteArray), false), ev_bind (h ▸ spec_l5Good_ev l hn hsz) (ev_if_neg (by decide) (Ev.now _)), ev_bind (h ▸ impl_isSelector_ev l hn hsz) (ev_if_neg (by decide) (Ev.now _))⟩
  | true =>
    have hlen : 1 ≤ l.length ∧ l.length ≤ 5 := selOk_len l h
    obtain ⟨x, m, rfl⟩ : ∃ x m, l = x :: m := by
      cases l with
      | nil => simp at hlen
      | cons x m => exact ⟨x, m, rfl⟩
    have hx := hsz x List.mem_cons_self
    have hm : ∀ y ∈ m, sizesPart y := fun y hy => hsz y (List.mem_cons_of_mem _ hy)
    have ht := partText_size x hx
    have htl := tail_len m hm
    have hbl := B_len (partText x)
    rw [List.length_cons] at hlen
    have key : ∀ r, Ev (fun k => spec_l5Text.f k (x :: m)) r → r = ofL (B (partText x) ++ tailL m) → Ev (fun k => impl_SelectorText.l0 k ([] : List ByteArray) (x :: m) (((x :: m).length : Nat) : Int) 0) (r, true) → ∃ r, Ev (fun k => (spec_l5Good.f k (x :: m)).bind fun t130 => (if t130 = true then ((spec_l5Text.f k (x :: m)).bind fun t131 => (some (t131, true))) else (some ((⟨#[]⟩ : ByteArray), false)))) r ∧ Ev (fun k => (impl_isSelector.f k (x :: m)).bind fun t169 => (if t169 = true then (impl_SelectorText.l0 k (([] : List ByteArray)) (x :: m) (((x :: m).length : Nat) : Int) 0) else (some ((⟨#[]⟩ : ByteArray), false)))) r := by
      intro r h1 _ h2
      exact ⟨(r, true), ev_bind (h ▸ spec_l5Good_ev (x :: m) hn hsz) (ev_if_pos rfl (ev_bind h1 (Ev.now _))), ev_bind (h ▸ impl_isSelector_ev (x :: m) hn hsz) (ev_if_pos rfl h2)⟩
    refine key (ofL (B (partText x) ++ tailL m)) ?_ rfl ?_
    · -- the reference's
      refine Ev.congr (f := fun k => spec_l5Text.l0 k (⟨#[]⟩ : ByteArray) (x :: m) (((x :: m).length : Nat) : Int) ((0 : Nat) : Int)) (fun k => rfl) ?_
      refine Ev.step (fun k => spec_l5Text.l0.eq_2 ..) (ev_if_pos (by rw [List.length_cons]; omega) (ev_if_pos (by omega) (ev_if_pos (by rw [List.length_cons]; omega) (ev_if_neg (by omega) ?_))))
      rw [rd_part, show wrap64 (((0 : Nat) : Int) + 1) = ((1 : Nat) : Int) from wrap_id (by omega) (by omega)]
      have e0 : (⟨#[]⟩ : ByteArray) ++ partText x = partText x := B_ext (by rw [B_append]; rfl)
      refine ev_bind (spec_part_ev x hx) (ev_if_pos (show (⟨#[]⟩ : ByteArray).size + (partText x).size ≤ _ by show 0 + _ ≤ _; omega) ?_)
      rw [e0]
      exact spec_text_l0 (x :: m) (by rw [List.length_cons]; omega) hsz m.length 1 (partText x) (by rw [List.length_cons]; omega) (by omega) (by omega)
    · -- the program's
      have loop : ∀ (d i : Nat), i + d = (x :: m).length → Ev (fun k => impl_SelectorText.l0 k (((x :: m).take i).map partText) (x :: m) (((x :: m).length : Nat) : Int) (i : Int)) (ofL (B (partText x) ++ tailL m), true) := by
        intro d
        induction d with
        | zero =>
          intro i hi
          refine Ev.step (fun k => impl_SelectorText.l0.eq_2 ..) (ev_if_neg (by omega) ?_)
          rw [List.take_of_length_le (by omega)]
          have hj : Go.Lib.join (((x :: m).map partText).map (·.data.toList)) [32] = B (partText x) ++ tailL m := by
            rw [List.map_cons, List.map_cons, Go.Lib.join_cons, join_tail]; rfl
          refine ev_bind0 (a := ofL (B (partText x) ++ tailL m)) ?_ (Ev.now _)
          unfold strings_Join.f
          have hj' : Go.Lib.join (((x :: m).map partText).map (·.data.toList)) (⟨#[32]⟩ : ByteArray).data.toList = B (partText x) ++ tailL m := hj
          rw [if_pos ⟨by simp; omega, by rw [hj', List.length_append]; omega⟩]
          unfold joinB
          rw [hj']; rfl
        | succ d ih =>
          intro i hi
          have hxi := hsz _ (part_mem (x :: m) i (by omega))
          have hh := partHead_size _ hxi
          have nxt := ih (i + 1) (by omega)
          have e : ((x :: m).take (i + 1)).map partText = ((x :: m).take i).map partText ++ [partText (partAt (x :: m) i)] := by
            rw [List.take_add_one, List.map_append, List.getElem?_eq_getElem (by omega)]
            unfold partAt
            rw [List.getD_eq_getElem?_getD, List.getElem?_eq_getElem (by omega)]; rfl
          rw [e] at nxt
          refine Ev.step (fun k => impl_SelectorText.l0.eq_2 ..) (ev_if_pos (by omega) (ev_if_pos (by omega) (ev_if_pos (by omega) ?_)))
          rw [rd_part]
          have hx4 : (((x :: m).take i).map partText).length ≤ 10 := by simp; omega
          have part := impl_part_l1 (((x :: m).take i).map partText) hx4 (x :: m) (((x :: m).length : Nat) : Int) (i : Int) (partAt (x :: m) i).f0 (partAt (x :: m) i).f1 (partAt (x :: m) i).f2 hxi.2.2.1 hxi.2.2.2 (ofL (B (partText x) ++ tailL m), true) (partAt (x :: m) i).f2.length 0 (partHead (partAt (x :: m) i)) (by omega) (by omega) (by rw [wrap_id (x := (i : Int) + 1) (by omega) (by omega), cast_succ]; exact nxt)
          obtain ⟨z0, z1, _⟩ := hxi
          by_cases hb : B (partAt (x :: m) i).f1 = []
          · have e : partHead (partAt (x :: m) i) = (partAt (x :: m) i).f0 := by unfold partHead; rw [if_pos hb]
            rw [e] at part
            exact ev_if_pos (by rw [toList_B]; exact hb) (Ev.step (fun k => impl_SelectorText.j1.eq_2 ..) part)
          · have e : partHead (partAt (x :: m) i) = (partAt (x :: m) i).f0 ++ (sharpB ++ (partAt (x :: m) i).f1) := by unfold partHead; rw [if_neg hb]
            rw [e] at part
            have hs := size_sharp (partAt (x :: m) i).f1
            exact ev_if_neg (by rw [toList_B]; exact hb) (ev_if_pos (by omega) (ev_if_pos (show (partAt (x :: m) i).f0.size + (sharpB ++ (partAt (x :: m) i).f1).size ≤ _ by omega) (Ev.step (fun k => impl_SelectorText.j1.eq_2 ..) part)))
      exact loop (x :: m).length 0 (by omega)

-- plain: Word Trim
theorem FnExactSelectorText (l : List S37) (g : l.length ≤ maxLen ∧ ∀ x ∈ l, goodPartIn x) : ∃ k, laws_FnExactSelectorText.f k l = some true := by
  obtain ⟨gl, gg⟩ := g
  refine Ev.rounds ?_
  simp only [laws_FnExactSelectorText.f]
  obtain ⟨r, hr, hc⟩ := laws_szPartS_ev l 1048576 (by omega) (by omega) gl gg
  refine ev_bind hr ?_
  by_cases hn : r < 0
  · exact ev_if_pos hn (Ev.now true)
  refine ev_if_neg hn ?_
  obtain ⟨hl, hs⟩ := sizes_of l (by rcases hc with hc | ⟨hc, hc2⟩ <;> omega)
  have hto := laws_toPartS_ev l hl (fun x hx => (hs x hx).2.2.1)
  have hml : (l.map toPart).length ≤ 1048576 := by simpa using hl
  have hsz : ∀ x ∈ l.map toPart, sizesPart x := by
    intro x hx
    obtain ⟨y, hy, rfl⟩ := List.mem_map.1 hx
    exact hs y hy
  obtain ⟨⟨v, b⟩, h1, h2⟩ := SelectorText_same (l.map toPart) hml hsz
  refine ev_bind hto (ev_bind h1 (ev_bind hto (ev_bind h2 ?_)))
  refine ev_if_pos rfl ?_
  refine Ev.step (fun k => laws_FnExactSelectorText.j0.eq_2 ..) ?_
  refine ev_if_neg (by simp) ?_
  refine ev_bind hto ?_
  refine ev_bind (laws_eqPartS_same (l.map toPart) (by omega) (fun x hx => by have := (hsz x hx).2.2.1; omega)) ?_
  exact ev_if_pos rfl (Ev.now true)

end Go.Proofs.Ytganmdnieihpeaa.Pure
