/- WeightOf: the program's WeightOf answers as the reference's at every selector, and writes into none; no condition. -/
import Derived.Test.YtigeocobckodgaaPFnExactWeightOfx6
import Derived.Test.YtigeocobckodgaaPlain
import Derived.Test.YtigeocobckodgaaEvs
import Derived.Test.YtigeocobckodgaaStr
import Derived.Test.YtigeocobckodgaaWord
set_option linter.unusedVariables false
set_option linter.unusedSimpArgs false
namespace Go.Proofs.Ytigeocobckodgaa.Pure
open Go.RowKit Go.Proofs.Ytigeocobckodgaa.PFnExactWeightOf Go.Proofs.YtigeocobckodgaaW.PrintWords Go.Proofs.YtigeocobckodgaaW.PrintLast Go.Proofs.YtigeocobckodgaaW.PrintMore Go.Proofs.Ytigeocobckodgaa.Plain

/-! laws_szStringS -/
-- plain: Evs
def totStr (x : ByteArray) : Int := (x.size : Int)
def totStringS (l : List ByteArray) : Int := (l.length : Int) + (l.map totStr).sum
theorem totStringS_parts (l : List ByteArray) : 0 ≤ (l.map totStr).sum := by
  induction l with
  | nil => simp
  | cons x l ih => rw [List.map_cons, List.sum_cons]; unfold totStr; unfold totStr at ih; omega
theorem laws_szStringS_l0_ev (l : List ByteArray) (hl : l.length ≤ maxLen) (hg : ∀ x ∈ l, x.size ≤ maxLen) : ∀ (d i : Nat) (a : Int), i + d = l.length → 0 ≤ a → a ≤ 1048576 →
    ∃ r, Ev (fun k => laws_szStringS.l0 k l a i) r ∧ (r < 0 ∨ (r = a - ((l.drop i).map totStr).sum ∧ 0 ≤ r)) := by
  unfold maxLen at hl hg
  intro d
  induction d with
  | zero =>
    intro i a hi h0 h1
    refine ⟨a, ev_done fun k => ?_, .inr ⟨by rw [List.drop_eq_nil_of_le (by omega)]; simp, h0⟩⟩
    rw [laws_szStringS.l0, if_neg (by omega)]
  | succ d ih =>
    intro i a hi h0 h1
    have hil : i < l.length := by omega
    have hx : (l.getD i ByteArray.empty).size ≤ 9223372036854775807 := by rw [List.getD_eq_getElem?_getD, List.getElem?_eq_getElem hil]; exact hg _ (List.getElem_mem hil)
    rw [drop_cons l ByteArray.empty i hil, List.map_cons, List.sum_cons]
    have hz : totStr (l.getD i ByteArray.empty) = ((l.getD i ByteArray.empty).size : Int) := rfl
    by_cases c : a - ((l.getD i ByteArray.empty).size : Int) < 0
    · refine ⟨-1, ev_done fun k => ?_, .inl (by omega)⟩
      rw [laws_szStringS.l0, if_pos (by omega), if_pos (by omega), rdOf_nat, wrap_id (x := a - _) (by omega) (by omega), if_pos c]
    · obtain ⟨r, hr, hc⟩ := ih (i + 1) (a - ((l.getD i ByteArray.empty).size : Int)) (by omega) (by omega) (by omega)
      refine ⟨r, Ev.step (fun k => ?_) hr, ?_⟩
      · rw [laws_szStringS.l0, if_pos (by omega), if_pos (by omega), rdOf_nat, wrap_id (x := a - _) (by omega) (by omega), if_neg c, wrap_up hil hl]
      · rcases hc with hc | ⟨hc, hc2⟩
        · exact .inl hc
        · exact .inr ⟨by rw [hc, hz]; omega, hc2⟩
theorem laws_szStringS_ev (l : List ByteArray) (a : Int) (h0 : 0 ≤ a) (h1 : a ≤ 1048576) (hl : l.length ≤ maxLen) (hg : ∀ x ∈ l, x.size ≤ maxLen) :
    ∃ r, Ev (fun k => laws_szStringS.f k l a) r ∧ (r < 0 ∨ (r = a - totStringS l ∧ 0 ≤ r)) := by
  have hl' := hl
  unfold maxLen at hl'
  simp only [laws_szStringS.f]
  rw [wrap_id (x := a - _) (by omega) (by omega)]
  by_cases c : a - (l.length : Int) < 0
  · exact ⟨-1, ev_if_pos c (Ev.now _), .inl (by omega)⟩
  · obtain ⟨r, hr, hc⟩ := laws_szStringS_l0_ev l hl hg l.length 0 (a - (l.length : Int)) (by omega) (by omega) (by omega)
    refine ⟨r, ev_if_neg c hr, ?_⟩
    rcases hc with hc | ⟨hc, hc2⟩
    · exact .inl hc
    · exact .inr ⟨by rw [hc]; unfold totStringS; rw [List.drop_zero]; omega, hc2⟩

/-! laws_szPart -/
-- plain: Evs
def totPart (x : S39) : Int := (x.f0.size : Int) + (x.f1.size : Int) + totStringS x.f2
theorem totPart_nonneg (x : S39) : 0 ≤ totPart x := by unfold totPart totStringS; have := totStringS_parts x.f2; omega
def goodPartIn (x : S39) : Prop := x.f0.size ≤ maxLen ∧ x.f1.size ≤ maxLen ∧ (x.f2.length ≤ maxLen ∧ ∀ y ∈ x.f2, y.size ≤ maxLen)
theorem szPart_ev (x : S39) (a : Int) (h0 : 0 ≤ a) (h1 : a ≤ 1048576) (hg : goodPartIn x) : ∃ r, Ev (fun k => laws_szPart.f k x.f0 x.f1 x.f2 a) r ∧ (r < 0 ∨ (r = a - totPart x ∧ 0 ≤ r)) := by
  obtain ⟨hx, hy, hz, hw⟩ := hg
  have ht : 0 ≤ totStringS x.f2 := by unfold totStringS; have := totStringS_parts x.f2; omega
  unfold maxLen at hx hy
  simp only [laws_szPart.f]
  unfold totPart
  rw [wrap_id (x := a - _) (by omega) (by omega)]
  by_cases c : a - (x.f0.size : Int) < 0
  · exact ⟨_, ev_if_pos c (Ev.now _), .inl (by omega)⟩
  · rw [wrap_id (x := _ - (x.f1.size : Int)) (by omega) (by omega)]
    by_cases c2 : a - (x.f0.size : Int) - (x.f1.size : Int) < 0
    · exact ⟨_, ev_if_neg c (ev_if_pos c2 (Ev.now _)), .inl (by omega)⟩
    · obtain ⟨r, hr, hc⟩ := laws_szStringS_ev x.f2 (a - (x.f0.size : Int) - (x.f1.size : Int)) (by omega) (by omega) hz hw
      rcases hc with hc | ⟨hc, hc2⟩
      · exact ⟨_, ev_if_neg c (ev_if_neg c2 (ev_bind hr (ev_if_pos hc (Ev.now _)))), .inl (by omega)⟩
      · exact ⟨r, ev_if_neg c (ev_if_neg c2 (ev_bind hr (ev_if_neg (by omega) (Ev.now _)))), .inr ⟨by omega, hc2⟩⟩

/-! laws_szPartS -/
-- plain: Evs
def totPartS (l : List S39) : Int := (l.length : Int) + (l.map totPart).sum
theorem totPartS_parts (l : List S39) : 0 ≤ (l.map totPart).sum := by
  induction l with
  | nil => simp
  | cons x l ih => rw [List.map_cons, List.sum_cons]; have := totPart_nonneg x; omega
theorem laws_szPartS_l0_ev (l : List S39) (hl : l.length ≤ maxLen) (hg : ∀ x ∈ l, goodPartIn x) : ∀ (d i : Nat) (a : Int), i + d = l.length → 0 ≤ a → a ≤ 1048576 →
    ∃ r, Ev (fun k => laws_szPartS.l0 k l a i) r ∧ (r < 0 ∨ (r = a - ((l.drop i).map totPart).sum ∧ 0 ≤ r)) := by
  unfold maxLen at hl
  intro d
  induction d with
  | zero =>
    intro i a hi h0 h1
    refine ⟨a, ev_done fun k => ?_, .inr ⟨by rw [List.drop_eq_nil_of_le (by omega)]; simp, h0⟩⟩
    rw [laws_szPartS.l0, if_neg (by omega)]
  | succ d ih =>
    intro i a hi h0 h1
    have hil : i < l.length := by omega
    have hx : goodPartIn (l.getD i z39) := by rw [List.getD_eq_getElem?_getD, List.getElem?_eq_getElem hil]; exact hg _ (List.getElem_mem hil)
    have hrd : rd_T39 l (i : Int) = l.getD i z39 := by simp [rd_T39]
    rw [drop_cons l z39 i hil, List.map_cons, List.sum_cons]
    obtain ⟨r1, e1, c1⟩ := szPart_ev (l.getD i z39) a h0 h1 hx
    have ht := totPart_nonneg (l.getD i z39)
    rcases c1 with c1 | ⟨c1, c2⟩
    · refine ⟨-1, (by refine Ev.step (fun k => by rw [laws_szPartS.l0, if_pos (by omega), if_pos (by omega), hrd]) ?_; exact ev_bind e1 (ev_if_pos c1 (Ev.now _))), .inl (by omega)⟩
    · obtain ⟨r, hr, hc⟩ := ih (i + 1) r1 (by omega) c2 (by omega)
      refine ⟨r, (by refine Ev.step (fun k => by rw [laws_szPartS.l0, if_pos (by omega), if_pos (by omega), hrd]) ?_; refine ev_bind e1 (ev_if_neg (by omega) ?_); rw [wrap_up hil hl]; exact hr), ?_⟩
      rcases hc with hc | ⟨hc, hc2⟩
      · exact .inl hc
      · exact .inr ⟨by rw [hc, c1]; omega, hc2⟩
theorem laws_szPartS_ev (l : List S39) (a : Int) (h0 : 0 ≤ a) (h1 : a ≤ 1048576) (hl : l.length ≤ maxLen) (hg : ∀ x ∈ l, goodPartIn x) :
    ∃ r, Ev (fun k => laws_szPartS.f k l a) r ∧ (r < 0 ∨ (r = a - totPartS l ∧ 0 ≤ r)) := by
  have hl' := hl
  unfold maxLen at hl'
  simp only [laws_szPartS.f]
  rw [wrap_id (x := a - _) (by omega) (by omega)]
  by_cases c : a - (l.length : Int) < 0
  · exact ⟨-1, ev_if_pos c (Ev.now _), .inl (by omega)⟩
  · obtain ⟨r, hr, hc⟩ := laws_szPartS_l0_ev l hl hg l.length 0 (a - (l.length : Int)) (by omega) (by omega) (by omega)
    refine ⟨r, ev_if_neg c hr, ?_⟩
    rcases hc with hc | ⟨hc, hc2⟩
    · exact .inl hc
    · exact .inr ⟨by rw [hc]; unfold totPartS; rw [List.drop_zero]; omega, hc2⟩

/-! spec_l1In -/
theorem spec_l1In_eq (a b c : Int) : spec_l1In.f a b c = some (decide (b ≤ a ∧ a ≤ c)) := by
  unfold spec_l1In.f
  split
  · rename_i h; simp [show b ≤ a from h]
  · rename_i h; simp [show ¬ b ≤ a from h]

/-! spec_l1Digit -/
-- plain: Word
theorem spec_l1Digit_eq (c : Int) : spec_l1Digit.f c = some (digI c) := by
  unfold spec_l1Digit.f digI
  split
  · rename_i h; congr 1; rw [decide_eq_decide]; omega
  · rename_i h; congr 1; rw [eq_comm, decide_eq_false_iff_not]; omega

/-! spec_l4Letter -/
-- plain: Word
theorem spec_l4Letter_eq (c : Int) : spec_l4Letter.f c = some (ltrI c || decide (c = 95)) := by
  have hb : (c == 95) = decide (c = 95) := by rw [Bool.eq_iff_iff]; simp
  unfold spec_l4Letter.f
  rw [hb]
  unfold ltrI
  by_cases h1 : (97 ≤ c ∧ c ≤ 122)
  · rw [if_pos h1.1, if_pos h1.2, decide_eq_true (p := (97 ≤ c ∧ c ≤ 122) ∨ (65 ≤ c ∧ c ≤ 90)) (.inl h1)]; rfl
  · by_cases h2 : (65 ≤ c ∧ c ≤ 90)
    · rw [decide_eq_true (p := (97 ≤ c ∧ c ≤ 122) ∨ (65 ≤ c ∧ c ≤ 90)) (.inr h2), Bool.true_or]
      by_cases h3 : c ≥ 97
      · omega
      · rw [if_neg h3, if_pos h2.1, if_pos h2.2]
    · rw [decide_eq_false (p := (97 ≤ c ∧ c ≤ 122) ∨ (65 ≤ c ∧ c ≤ 90)) (by omega), Bool.false_or]
      by_cases h3 : c ≥ 97
      · rw [if_pos h3, if_neg (by omega), if_pos (by omega), if_neg (by omega)]
      · rw [if_neg h3]
        by_cases h4 : c ≥ 65
        · rw [if_pos h4, if_neg (by omega)]
        · rw [if_neg h4]

/-! spec_l5Start -/
-- plain: Word
theorem spec_l5Start_eq (c : Int) : spec_l5Start.f c = some (ltrI c || decide (c = 95) || decide (c = 45)) := by
  have hb : (c == 45) = decide (c = 45) := by rw [Bool.eq_iff_iff]; simp
  unfold spec_l5Start.f
  rw [spec_l4Letter_eq, Option.bind_some, hb]
  split
  · rename_i h; rw [h, Bool.true_or]
  · rename_i h; rw [Bool.not_eq_true] at h; rw [h, Bool.false_or]

/-! spec_l5Inner -/
-- plain: Word
theorem spec_l5Inner_eq (c : Int) : spec_l5Inner.f c = some (wordI c) := by
  unfold spec_l5Inner.f
  rw [spec_l5Start_eq, Option.bind_some, spec_l1Digit_eq, Option.bind_some]
  unfold wordI
  generalize ltrI c = a; generalize digI c = b; generalize decide (c = 95) = d; generalize decide (c = 45) = e
  cases a <;> cases b <;> cases d <;> cases e <;> rfl

/-! spec_l5Run -/
-- plain: Word
def runL (l : List UInt8) : Nat := if runEnd wordU l 0 = 0 then 0 else if digU (l.getD 0 0) = true then 0 else if runEnd wordU l 0 > 30 then 0 else runEnd wordU l 0
theorem spec_l5Run_ev (s : ByteArray) (hs : s.size ≤ 9223372036854775806) : Ev (fun k => spec_l5Run.f k s) ((runL (B s) : Nat) : Int) := by
  refine Ev.congr (f := fun k => spec_l5Run.l0 k s 0) (fun k => rfl) ?_
  have hl := B_len s
  have fin : ∀ e : Nat, e ≤ (B s).length → ∀ k : Nat, (if (e : Int) = 0 then (some (0 : Int)) else (if 0 < (s.size : Int) then ((spec_l1Digit.f (bt s 0)).bind fun t => (if t = true then (some 0) else (if (e : Int) > 30 then (some 0) else (some (e : Int))))) else (none))) =
      some (((if e = 0 then 0 else if digU ((B s).getD 0 0) = true then 0 else if e > 30 then 0 else e : Nat) : Nat) : Int) := by
    intro e he k
    by_cases h0 : e = 0
    · rw [if_pos (by omega), if_pos h0]; rfl
    · have hb := bt_U s 0 (by omega)
      have hd : digI (bt s 0) = digU ((B s).getD 0 0) := by
        have : bt s ((0 : Nat) : Int) = bt s 0 := rfl
        rw [← this, hb]; rfl
      rw [if_neg (by omega), if_neg h0, if_pos (by omega), spec_l1Digit_eq, Option.bind_some, hd]
      split
      · rfl
      · by_cases h30 : e > 30
        · rw [if_pos (by omega), if_pos h30]; rfl
        · rw [if_neg (by omega), if_neg h30]
  have key := ev_from (B s).length (fun i k => spec_l5Run.l0 k s i) (fun i => (((if runEnd wordU (B s) i = 0 then 0 else if digU ((B s).getD 0 0) = true then 0 else if runEnd wordU (B s) i > 30 then 0 else runEnd wordU (B s) i : Nat) : Nat) : Int)) ?_ ?_ 0 (by omega)
  · exact key
  · refine ev_done fun k => ?_
    rw [spec_l5Run.l0, if_neg (by omega), fin _ (Nat.le_refl _) k, runEnd_end _ _ _ (Nat.le_refl _)]
  · intro i hi h
    by_cases hp : wordU ((B s).getD i 0) = true
    · rw [runEnd_yes _ _ _ hi hp]
      refine Ev.step (fun k => ?_) h
      rw [spec_l5Run.l0, if_pos (by omega), if_pos (by omega), spec_l5Inner_eq, Option.bind_some, bt_U s i hi, if_pos (show wordI _ = true from hp), wrap_up hi (by omega)]
    · refine ev_done fun k => ?_
      rw [spec_l5Run.l0, if_pos (by omega), if_pos (by omega), spec_l5Inner_eq, Option.bind_some, bt_U s i hi, if_neg (show ¬ wordI _ = true from hp), runEnd_no _ _ _ hi hp, fin i (by omega) k]

/-! spec_l5Word -/
-- plain: Word
theorem runL_word (l : List UInt8) : (decide (0 < l.length) && decide (runL l = l.length)) = isWordL l := by
  unfold isWordL runL
  have hr := runEnd_le wordU l 0 (by omega)
  have ha := runEnd_all wordU l
  by_cases h0 : 0 < l.length
  · rw [decide_eq_true h0, Bool.true_and]
    cases hd : digU (l.getD 0 0) with
    | true =>
      simp only [if_true, Bool.not_true, Bool.and_false, Bool.false_and]
      rw [decide_eq_false_iff_not]; split <;> omega
    | false =>
      simp only [Bool.false_eq_true, if_false, Bool.not_false, Bool.and_true]
      by_cases hw : l.all wordU = true
      · rw [hw, Bool.and_true, decide_eq_decide, ha.2 hw]
        rw [if_neg (by omega)]
        split <;> omega
      · have hne : runEnd wordU l 0 ≠ l.length := fun h => hw (ha.1 h)
        rw [Bool.not_eq_true] at hw
        rw [hw, Bool.and_false, decide_eq_false_iff_not]
        split
        · omega
        · split <;> omega
  · rw [decide_eq_false h0, decide_eq_false (p := 1 ≤ l.length ∧ l.length ≤ 30) (by omega)]; simp
theorem spec_l5Word_ev (s : ByteArray) (hs : s.size ≤ 9223372036854775806) : Ev (fun k => spec_l5Word.f k s) (isWordL (B s)) := by
  have hl := B_len s
  simp only [spec_l5Word.f]
  rw [← runL_word]
  by_cases h : (s.size : Int) > 0
  · refine ev_if_pos h (ev_bind (spec_l5Run_ev s hs) ?_)
    have e : (decide (0 < (B s).length) && decide (runL (B s) = (B s).length)) = (((runL (B s) : Nat) : Int) == (s.size : Int)) := by
      rw [decide_eq_true (by omega), Bool.true_and, Bool.eq_iff_iff, decide_eq_true_iff, beq_iff_eq]; omega
    rw [e]; exact Ev.now _
  · refine ev_if_neg h ?_
    rw [decide_eq_false (by omega), Bool.false_and]; exact Ev.now _

/-! spec_l5GoodPart -/
-- plain: Word
def sizesPart (x : S42) : Prop := x.f0.size ≤ 1048576 ∧ x.f1.size ≤ 1048576 ∧ x.f2.length ≤ 1048576 ∧ ∀ y ∈ x.f2, y.size ≤ 1048576
def typeOkL (l : List UInt8) : Bool := decide (l = []) || decide (l = [42]) || isWordL l
def idOkL (l : List UInt8) : Bool := decide (l = []) || isWordL l
def partOk (x : S42) : Bool := typeOkL (B x.f0) && idOkL (B x.f1) && decide (x.f2.length ≤ 4) && x.f2.all (fun y => isWordL (B y)) && (!decide (B x.f0 = []) || !decide (B x.f1 = []) || decide (0 < x.f2.length))
theorem spec_l5GoodPart_l0_ev (a b : ByteArray) (c : List ByteArray) (hc : c.length ≤ 1048576) (hg : ∀ y ∈ c, y.size ≤ 1048576) :
    Ev (fun k => spec_l5GoodPart.l0 k c c.length 0 a b c) (c.all (fun y => isWordL (B y)) && (!decide (B a = []) || !decide (B b = []) || decide (0 < c.length))) := by
  refine ev_from c.length (fun i k => spec_l5GoodPart.l0 k c c.length i a b c) (fun i => (c.drop i).all (fun y => isWordL (B y)) && (!decide (B a = []) || !decide (B b = []) || decide (0 < c.length))) ?_ ?_ 0 (by omega)
  · refine ev_done fun k => ?_
    rw [spec_l5GoodPart.l0, if_neg (by omega), toList_B, toList_B]
    simp only [List.drop_length, List.all_nil, Bool.true_and]
    by_cases h1 : B a = []
    · rw [if_pos h1, decide_eq_true h1]
      by_cases h2 : B b = []
      · rw [if_pos h2, decide_eq_true h2]; simp
      · rw [if_neg h2, decide_eq_false h2]; simp
    · rw [if_neg h1, decide_eq_false h1]; simp
  · intro i hi h
    have hmem : c.getD i ByteArray.empty ∈ c := by rw [List.getD_eq_getElem?_getD, List.getElem?_eq_getElem hi]; exact List.getElem_mem hi
    have hz := hg _ hmem
    rw [drop_cons c ByteArray.empty i hi, List.all_cons]
    refine Ev.step (fun k => by rw [spec_l5GoodPart.l0, if_pos (by omega), if_pos (by omega), if_pos (by omega), rdOf_nat]) ?_
    refine ev_bind (spec_l5Word_ev _ (by omega)) ?_
    cases isWordL (B (c.getD i ByteArray.empty)) with
    | true => refine ev_if_pos rfl ?_; rw [wrap_up hi (by omega), Bool.true_and]; exact h
    | false => refine ev_if_neg (by decide) ?_; rw [Bool.false_and, Bool.false_and]; exact Ev.now _
theorem spec_l5GoodPart_j0_ev (t : Bool) (a b : ByteArray) (c : List ByteArray) (hc : c.length ≤ 1048576) (hg : ∀ y ∈ c, y.size ≤ 1048576) :
    Ev (fun k => spec_l5GoodPart.j0 k t a b c) (!t && (c.all (fun y => isWordL (B y)) && (!decide (B a = []) || !decide (B b = []) || decide (0 < c.length)))) := by
  refine Ev.step (fun k => spec_l5GoodPart.j0.eq_2 ..) ?_
  cases t with
  | true => exact ev_if_pos rfl (Ev.now _)
  | false => exact ev_if_neg (by decide) (spec_l5GoodPart_l0_ev a b c hc hg)
theorem spec_l5GoodPart_ev (x : S42) (hx : sizesPart x) : Ev (fun k => spec_l5GoodPart.f k x.f0 x.f1 x.f2) (partOk x) := by
  obtain ⟨x0, x1, x2⟩ := x
  obtain ⟨h0, h1, h2, h3⟩ := hx
  simp only at h0 h1 h2 h3
  have hle : decide (x2.length ≤ 4) = !(decide ((x2.length : Int) > 4)) := by rw [Bool.eq_iff_iff]; simp; omega
  have fin : ∀ (p : Bool), Ev (fun k => if idOkL (B x1) = true then spec_l5GoodPart.j0 k (decide ((x2.length : Int) > 4)) x0 x1 x2 else spec_l5GoodPart.j0 k true x0 x1 x2) (idOkL (B x1) && decide (x2.length ≤ 4) && (x2.all (fun y => isWordL (B y)) && (!decide (B x0 = []) || !decide (B x1 = []) || decide (0 < x2.length)))) := by
    intro _
    cases hi : idOkL (B x1) with
    | true => refine ev_if_pos rfl ?_; rw [hle, Bool.true_and]; exact spec_l5GoodPart_j0_ev _ x0 x1 x2 h2 h3
    | false => refine ev_if_neg (by decide) ?_; rw [Bool.false_and, Bool.false_and]; exact spec_l5GoodPart_j0_ev true x0 x1 x2 h2 h3
  have rest : Ev (fun k => if x1.toList = ([] : List UInt8) then spec_l5GoodPart.j0 k (decide ((x2.length : Int) > 4)) x0 x1 x2 else (spec_l5Word.f k x1).bind fun t => if t = true then spec_l5GoodPart.j0 k (decide ((x2.length : Int) > 4)) x0 x1 x2 else spec_l5GoodPart.j0 k true x0 x1 x2) (idOkL (B x1) && decide (x2.length ≤ 4) && (x2.all (fun y => isWordL (B y)) && (!decide (B x0 = []) || !decide (B x1 = []) || decide (0 < x2.length)))) := by
    have f := fin true
    by_cases hb : B x1 = []
    · refine ev_if_pos (by rw [toList_B]; exact hb) ?_
      have hi : idOkL (B x1) = true := by unfold idOkL; rw [hb]; rfl
      simp only [hi, if_true] at f
      rw [hi]; exact f
    · refine ev_if_neg (by rw [toList_B]; exact hb) ?_
      have hi : idOkL (B x1) = isWordL (B x1) := by unfold idOkL; rw [decide_eq_false hb, Bool.false_or]
      rw [hi] at f
      refine ev_bind (spec_l5Word_ev x1 (by omega)) ?_
      rw [hi]; exact f
  have e : partOk ⟨x0, x1, x2⟩ = (typeOkL (B x0) && (idOkL (B x1) && decide (x2.length ≤ 4) && (x2.all (fun y => isWordL (B y)) && (!decide (B x0 = []) || !decide (B x1 = []) || decide (0 < x2.length))))) := by
    unfold partOk; simp only [Bool.and_assoc]
  rw [e]
  simp only [spec_l5GoodPart.f]
  by_cases ha : B x0 = []
  · refine ev_if_pos (by rw [toList_B]; exact ha) ?_
    have ht : typeOkL (B x0) = true := by unfold typeOkL; rw [ha]; rfl
    rw [ht, Bool.true_and]; exact rest
  · refine ev_if_neg (by rw [toList_B]; exact ha) ?_
    by_cases hs : B x0 = [42]
    · refine ev_if_pos (by rw [toList_B]; exact hs) ?_
      have ht : typeOkL (B x0) = true := by unfold typeOkL; rw [hs]; rfl
      rw [ht, Bool.true_and]; exact rest
    · refine ev_if_neg (by rw [toList_B]; exact hs) ?_
      have ht : typeOkL (B x0) = isWordL (B x0) := by unfold typeOkL; rw [decide_eq_false ha, decide_eq_false hs]; simp
      refine ev_bind (spec_l5Word_ev x0 (by omega)) ?_
      rw [ht]
      cases isWordL (B x0) with
      | true => refine ev_if_pos rfl ?_; rw [Bool.true_and]; exact rest
      | false => refine ev_if_neg (by decide) ?_; rw [Bool.false_and]; exact spec_l5GoodPart_j0_ev true x0 x1 x2 h2 h3

/-! spec_l5Good -/
-- plain: Word
def selOk (l : List S42) : Bool := decide (1 ≤ l.length ∧ l.length ≤ 5) && l.all partOk
theorem spec_l5Good_ev (l : List S42) (hl : l.length ≤ 1048576) (hg : ∀ x ∈ l, sizesPart x) : Ev (fun k => spec_l5Good.f k l) (selOk l) := by
  simp only [spec_l5Good.f, spec_l1In_eq, Option.bind_some]
  unfold selOk
  by_cases h : 1 ≤ l.length ∧ l.length ≤ 5
  · refine ev_if_pos (by rw [decide_eq_true_iff]; omega) ?_
    rw [decide_eq_true h, Bool.true_and]
    refine ev_from l.length (fun i k => spec_l5Good.l0 k l l.length i) (fun i => (l.drop i).all partOk) ?_ ?_ 0 (by omega)
    · refine ev_done fun k => ?_
      rw [spec_l5Good.l0, if_neg (by omega)]; simp
    · intro i hi hh
      have hrd : rd_T42 l (i : Int) = l.getD i z42 := by simp [rd_T42]
      have hmem : l.getD i z42 ∈ l := by rw [List.getD_eq_getElem?_getD, List.getElem?_eq_getElem hi]; exact List.getElem_mem hi
      rw [drop_cons l z42 i hi, List.all_cons]
      refine Ev.step (fun k => by rw [spec_l5Good.l0, if_pos (by omega), if_pos (by omega), if_pos (by omega), hrd]) ?_
      refine ev_bind (spec_l5GoodPart_ev _ (hg _ hmem)) ?_
      cases partOk (l.getD i z42) with
      | true => refine ev_if_pos rfl ?_; rw [wrap_up hi (by omega), Bool.true_and]; exact hh
      | false => refine ev_if_neg (by decide) ?_; rw [Bool.false_and]; exact Ev.now _
  · refine ev_if_neg (by rw [decide_eq_true_iff]; omega) ?_
    rw [decide_eq_false h, Bool.false_and]; exact Ev.now _

/-! spec_l6Weight -/
-- plain: Word
def weightStep (a : Int) (p : S42) : Int :=
  if B p.f0 = [] ∨ B p.f0 = [42] then wrap64 ((if B p.f1 = [] then a else wrap64 (a + 100)) + wrap64 (10 * (p.f2.length : Int)))
  else wrap64 (wrap64 ((if B p.f1 = [] then a else wrap64 (a + 100)) + wrap64 (10 * (p.f2.length : Int))) + 1)
def weightSum (l : List S42) : Int := l.foldl weightStep 0
theorem foldl_step (l : List S42) (i : Nat) (hi : i < l.length) : weightStep ((l.take i).foldl weightStep 0) (l.getD i z42) = (l.take (i + 1)).foldl weightStep 0 := by
  rw [List.take_add_one, List.getElem?_eq_getElem hi, List.foldl_append, List.getD_eq_getElem?_getD, List.getElem?_eq_getElem hi]; rfl
theorem spec_l6Weight_step (l : List S42) (hl : l.length ≤ 1048576) (i : Nat) (hi : i < l.length) (a : Int) (k : Nat) :
    spec_l6Weight.l0 (k + 1) a l l.length i = spec_l6Weight.l0 k (weightStep a (l.getD i z42)) l l.length ((i + 1 : Nat) : Int) := by
  have hrd : rd_T42 l (i : Int) = l.getD i z42 := by simp [rd_T42]
  rw [spec_l6Weight.l0, if_pos (by omega), if_pos (by omega), if_pos (by omega), hrd, wrap_up hi (by omega)]
  unfold weightStep
  simp only [toList_B]
  by_cases h1 : B (l.getD i z42).f1 = []
  · rw [if_pos h1, if_pos h1]
    by_cases h0 : B (l.getD i z42).f0 = []
    · rw [if_pos h0, if_pos (.inl h0)]
    · rw [if_neg h0]
      by_cases hs : B (l.getD i z42).f0 = [42]
      · rw [if_pos hs, if_pos (.inr hs)]
      · rw [if_neg hs, if_neg (by rintro (h | h); exact h0 h; exact hs h)]
  · rw [if_neg h1, if_neg h1]
    by_cases h0 : B (l.getD i z42).f0 = []
    · rw [if_pos h0, if_pos (.inl h0)]
    · rw [if_neg h0]
      by_cases hs : B (l.getD i z42).f0 = [42]
      · rw [if_pos hs, if_pos (.inr hs)]
      · rw [if_neg hs, if_neg (by rintro (h | h); exact h0 h; exact hs h)]
theorem spec_l6Weight_ev (l : List S42) (hl : l.length ≤ 1048576) : Ev (fun k => spec_l6Weight.f k l) (weightSum l) := by
  refine ev_up l.length (fun i k => spec_l6Weight.l0 k ((l.take i).foldl weightStep 0) l l.length i) (weightSum l) ?_ ?_
  · refine ev_done fun k => ?_
    rw [spec_l6Weight.l0, if_neg (by omega), List.take_of_length_le (Nat.le_refl _)]; rfl
  · intro i hi h
    refine Ev.step (fun k => ?_) h
    rw [spec_l6Weight_step l hl i hi, foldl_step l i hi]

/-! laws_toStringS -/
-- plain: Evs
theorem laws_toStringS_ev (l : List ByteArray) (hn : l.length ≤ 1048576) : Ev (fun k => laws_toStringS.f k l) l := by
  refine Ev.congr (f := fun k => laws_toStringS.l0 k l (List.replicate l.length (⟨#[]⟩ : ByteArray)) 0) (fun k => ?_) ?_
  · unfold laws_toStringS.f; rw [if_pos (by omega), if_pos (by omega)]; rfl
  · refine ev_up l.length (fun i k => laws_toStringS.l0 k l (l.take i ++ List.replicate (l.length - i) (⟨#[]⟩ : ByteArray)) i) l ?_ ?_
    · refine ev_done fun k => ?_
      rw [laws_toStringS.l0, if_neg (by omega)]; simp
    · intro i hi h
      refine Ev.step (fun k => ?_) h
      rw [laws_toStringS.l0, if_pos (by omega), if_pos (by omega), if_pos (by simp; omega), wrap_up hi (by omega), rdOf_nat, Int.toNat_natCast, take_set _ _ _ hi _ (by simp; omega), List.tail_replicate]
      congr 3

/-! laws_toPart -/
-- plain: Evs
def toPart (x : S39) : S42 := ⟨x.f0, x.f1, x.f2⟩
theorem laws_toPart_ev (x : S39) (hn : x.f2.length ≤ 1048576) : Ev (fun k => laws_toPart.f k x.f0 x.f1 x.f2) (x.f0, x.f1, x.f2) := by
  simp only [laws_toPart.f]
  exact ev_bind (laws_toStringS_ev x.f2 hn) (Ev.now _)

/-! laws_toPartS -/
-- plain: Evs
theorem laws_toPartS_ev (l : List S39) (hn : l.length ≤ 1048576) (hg : ∀ x ∈ l, x.f2.length ≤ 1048576) : Ev (fun k => laws_toPartS.f k l) (l.map toPart) := by
  refine Ev.congr (f := fun k => laws_toPartS.l0 k l (List.replicate l.length z42) 0) (fun k => ?_) ?_
  · unfold laws_toPartS.f; rw [if_pos (by omega), if_pos (by omega)]; rfl
  · refine ev_up l.length (fun i k => laws_toPartS.l0 k l ((l.map toPart).take i ++ List.replicate (l.length - i) z42) i) (l.map toPart) ?_ ?_
    · refine ev_done fun k => ?_
      rw [laws_toPartS.l0, if_neg (by omega), List.take_of_length_le (by simp)]; simp
    · intro i hi h
      have hrd : rd_T39 l (i : Int) = l.getD i z39 := by simp [rd_T39]
      have hmem : l.getD i z39 ∈ l := by rw [List.getD_eq_getElem?_getD, List.getElem?_eq_getElem hi]; exact List.getElem_mem hi
      have e : toPart (l.getD i z39) = (l.map toPart).getD i z42 := by simp [hi]
      refine Ev.step (fun k => by rw [laws_toPartS.l0, if_pos (by omega), if_pos (by omega), hrd]) ?_
      refine ev_bind (laws_toPart_ev (l.getD i z39) (hg _ hmem)) (ev_if_pos (by simp; omega) ?_)
      have e2 := take_set (l.map toPart) z42 i (by simpa using hi) (List.replicate (l.length - i) z42) (by simp; omega)
      rw [← e, List.tail_replicate] at e2
      rw [Int.toNat_natCast, wrap_up hi (by omega)]
      refine Ev.congr (fun k => ?_) h
      rw [show l.length - (i + 1) = l.length - i - 1 by omega, ← e2]
      rfl

/-! impl_within -/
theorem impl_within_eq (a b c : Int) : impl_within.f a b c = some (decide (b ≤ a ∧ a ≤ c)) := by
  unfold impl_within.f
  split
  · rename_i h; simp [h]
  · rename_i h; simp [h]

/-! impl_isDigit -/
-- plain: Word
theorem impl_isDigit_eq (c : Int) : impl_isDigit.f c = some (digI c) := by
  unfold impl_isDigit.f digI
  split
  · rename_i h; congr 1; rw [decide_eq_decide]; omega
  · rename_i h; congr 1; rw [eq_comm, decide_eq_false_iff_not]; omega

/-! impl_isLetter -/
-- plain: Word
theorem impl_isLetter_eq (c : Int) : impl_isLetter.f c = some (ltrI c) := by
  unfold impl_isLetter.f ltrI
  split
  · split
    · congr 1; rw [eq_comm, decide_eq_true_iff]; omega
    · split
      · congr 1; rw [decide_eq_decide]; omega
      · congr 1; rw [eq_comm, decide_eq_false_iff_not]; omega
  · split
    · congr 1; rw [decide_eq_decide]; omega
    · congr 1; rw [eq_comm, decide_eq_false_iff_not]; omega

/-! impl_wordEnd -/
-- plain: Word
theorem impl_wordEnd_l0_ev (s : ByteArray) (hs : s.size ≤ 9223372036854775806) (i : Nat) : Ev (fun k => impl_wordEnd.l0 k s i) ((runEnd wordU (B s) i : Nat) : Int) := by
  have hl := B_len s
  by_cases hi0 : i ≤ (B s).length
  · refine ev_from (B s).length (fun i k => impl_wordEnd.l0 k s i) (fun i => ((runEnd wordU (B s) i : Nat) : Int)) ?_ ?_ i hi0
    · refine ev_done fun k => ?_
      rw [impl_wordEnd.l0, if_neg (by omega), runEnd_end _ _ _ (Nat.le_refl _)]
    · intro i hi h
      have hb := bt_U s i hi
      by_cases hp : wordU ((B s).getD i 0) = true
      · rw [runEnd_yes _ _ _ hi hp]
        refine Ev.step (fun k => ?_) h
        rw [impl_wordEnd.l0, if_pos (by omega), if_pos (by omega), impl_isLetter_eq, Option.bind_some, impl_isDigit_eq, Option.bind_some, hb, wrap_up hi (by omega)]
        unfold wordU wordI at hp
        by_cases c1 : ltrI (((B s).getD i 0).toNat : Int) = true
        · rw [if_pos c1]
        · rw [if_neg c1]
          by_cases c2 : digI (((B s).getD i 0).toNat : Int) = true
          · rw [if_pos c2]
          · rw [if_neg c2]
            by_cases c3 : (((B s).getD i 0).toNat : Int) = 95
            · rw [if_pos c3]
            · rw [if_neg c3, if_pos]
              simp only [Bool.not_eq_true] at c1 c2
              rw [c1, c2, decide_eq_false c3] at hp
              simpa using hp
      · refine ev_done fun k => ?_
        rw [impl_wordEnd.l0, if_pos (by omega), if_pos (by omega), impl_isLetter_eq, Option.bind_some, impl_isDigit_eq, Option.bind_some, hb, runEnd_no _ _ _ hi hp]
        unfold wordU wordI at hp
        simp only [Bool.or_eq_true, not_or, decide_eq_true_iff] at hp
        rw [if_neg hp.1.1.1, if_neg hp.1.1.2, if_neg hp.1.2, if_neg hp.2]
  · refine ev_done fun k => ?_
    rw [impl_wordEnd.l0, if_neg (by omega), runEnd_end _ _ _ (by omega)]
def wordEndL (l : List UInt8) (i : Nat) : Nat := if i < l.length ∧ digU (l.getD i 0) = true then i else runEnd wordU l i
theorem impl_wordEnd_ev (s : ByteArray) (hs : s.size ≤ 9223372036854775806) (i : Nat) : Ev (fun k => impl_wordEnd.f k s i) ((wordEndL (B s) i : Nat) : Int) := by
  have hl := B_len s
  simp only [impl_wordEnd.f]
  unfold wordEndL
  by_cases hi : i < (B s).length
  · refine ev_if_pos (by omega) (ev_if_pos (by omega) ?_)
    rw [impl_isDigit_eq, bt_U s i hi]
    simp only [Option.bind_some]
    by_cases hd : digU ((B s).getD i 0) = true
    · rw [if_pos ⟨hi, hd⟩]
      refine Ev.step (fun k => impl_wordEnd.j0.eq_2 ..) (ev_if_pos hd (Ev.now _))
    · rw [if_neg (fun h => hd h.2)]
      refine Ev.step (fun k => impl_wordEnd.j0.eq_2 ..) (ev_if_neg hd (impl_wordEnd_l0_ev s hs i))
  · rw [if_neg (fun h => hi h.1)]
    refine ev_if_neg (by omega) (Ev.step (fun k => impl_wordEnd.j0.eq_2 ..) (ev_if_neg (by decide) (impl_wordEnd_l0_ev s hs i)))

/-! impl_isWord -/
-- plain: Word
theorem wordEnd_word (l : List UInt8) : (decide (1 ≤ l.length ∧ l.length ≤ 30) && decide (wordEndL l 0 = l.length)) = isWordL l := by
  unfold isWordL wordEndL
  have ha := runEnd_all wordU l
  by_cases h0 : 1 ≤ l.length ∧ l.length ≤ 30
  · rw [decide_eq_true h0, Bool.true_and, Bool.true_and]
    cases hd : digU (l.getD 0 0) with
    | true =>
      rw [if_pos ⟨by omega, rfl⟩]
      simp only [Bool.not_true, Bool.false_and]
      rw [decide_eq_false_iff_not]; omega
    | false =>
      rw [if_neg (fun h => by simp at h)]
      simp only [Bool.not_false, Bool.true_and]
      rw [Bool.eq_iff_iff, decide_eq_true_iff]; exact ha
  · rw [decide_eq_false h0]; simp
theorem impl_isWord_ev (s : ByteArray) (hs : s.size ≤ 9223372036854775806) : Ev (fun k => impl_isWord.f k s) (isWordL (B s)) := by
  have hl := B_len s
  simp only [impl_isWord.f]
  rw [← wordEnd_word, impl_within_eq]
  simp only [Option.bind_some]
  by_cases h : 1 ≤ (B s).length ∧ (B s).length ≤ 30
  · refine ev_if_pos (by rw [decide_eq_true_iff]; omega) (ev_bind (impl_wordEnd_ev s hs 0) ?_)
    have e : (decide (1 ≤ (B s).length ∧ (B s).length ≤ 30) && decide (wordEndL (B s) 0 = (B s).length)) = (((wordEndL (B s) 0 : Nat) : Int) == (s.size : Int)) := by
      rw [decide_eq_true h, Bool.true_and, Bool.eq_iff_iff, decide_eq_true_iff, beq_iff_eq]; omega
    rw [e]; exact Ev.now _
  · refine ev_if_neg (by rw [decide_eq_true_iff]; omega) ?_
    rw [decide_eq_false h, Bool.false_and]; exact Ev.now _

/-! impl_isPart -/
-- plain: Word
theorem impl_isPart_j1_ev (t : Bool) (a b : ByteArray) (c : List ByteArray) (ha : a.size ≤ 1048576) (hb : b.size ≤ 1048576) : Ev (fun k => impl_isPart.j1 k t a b c) (!t && (typeOkL (B a) && idOkL (B b))) := by
  have rest : Ev (fun k => if b.toList = ([] : List UInt8) then (some true) else ((impl_isWord.f k b).bind fun t => (some t))) (idOkL (B b)) := by
    by_cases h : B b = []
    · have hi : idOkL (B b) = true := by unfold idOkL; rw [h]; rfl
      rw [hi]; exact ev_if_pos (by rw [toList_B]; exact h) (Ev.now _)
    · have hi : idOkL (B b) = isWordL (B b) := by unfold idOkL; rw [decide_eq_false h, Bool.false_or]
      rw [hi]; exact ev_if_neg (by rw [toList_B]; exact h) (ev_bind (impl_isWord_ev b (by omega)) (Ev.now _))
  refine Ev.step (fun k => impl_isPart.j1.eq_2 ..) ?_
  cases t with
  | true => exact ev_if_pos rfl (Ev.now _)
  | false =>
    refine ev_if_neg (by decide) ?_
    rw [Bool.not_false, Bool.true_and]
    by_cases h0 : B a = []
    · have ht : typeOkL (B a) = true := by unfold typeOkL; rw [h0]; rfl
      rw [ht, Bool.true_and]; exact ev_if_pos (by rw [toList_B]; exact h0) rest
    · refine ev_if_neg (by rw [toList_B]; exact h0) ?_
      by_cases hs : B a = [42]
      · have ht : typeOkL (B a) = true := by unfold typeOkL; rw [hs]; rfl
        rw [ht, Bool.true_and]; exact ev_if_pos (by rw [toList_B]; exact hs) rest
      · have ht : typeOkL (B a) = isWordL (B a) := by unfold typeOkL; rw [decide_eq_false h0, decide_eq_false hs]; simp
        refine ev_if_neg (by rw [toList_B]; exact hs) (ev_bind (impl_isWord_ev a (by omega)) ?_)
        rw [ht]
        cases isWordL (B a) with
        | true => rw [Bool.true_and]; exact ev_if_pos rfl rest
        | false => exact ev_if_neg (by decide) (Ev.now _)
theorem impl_isPart_ev (x : S42) (hx : sizesPart x) : Ev (fun k => impl_isPart.f k x.f0 x.f1 x.f2) (partOk x) := by
  obtain ⟨a, b, c⟩ := x
  obtain ⟨h0, h1, h2, h3⟩ := hx
  simp only at h0 h1 h2 h3
  have hle : (!(decide ((c.length : Int) > 4))) = decide (c.length ≤ 4) := by rw [Bool.eq_iff_iff]; simp; omega
  have e : partOk ⟨a, b, c⟩ = (c.all (fun y => isWordL (B y)) && ((!decide (B a = []) || !decide (B b = []) || decide (0 < c.length)) && decide (c.length ≤ 4) && (typeOkL (B a) && idOkL (B b)))) := by
    unfold partOk
    simp only
    generalize typeOkL (B a) = p; generalize idOkL (B b) = q; generalize decide (c.length ≤ 4) = r; generalize c.all (fun y => isWordL (B y)) = s; generalize decide (B a = []) = t; generalize decide (B b = []) = u; generalize decide (0 < c.length) = v
    cases p <;> cases q <;> cases r <;> cases s <;> cases t <;> cases u <;> cases v <;> rfl
  rw [e]
  refine ev_from c.length (fun i k => impl_isPart.l0 k c c.length i a b c) (fun i => (c.drop i).all (fun y => isWordL (B y)) && ((!decide (B a = []) || !decide (B b = []) || decide (0 < c.length)) && decide (c.length ≤ 4) && (typeOkL (B a) && idOkL (B b)))) ?_ ?_ 0 (by omega)
  · refine Ev.step (fun k => by rw [impl_isPart.l0, if_neg (by omega), toList_B, toList_B]) ?_
    simp only [List.drop_length, List.all_nil, Bool.true_and]
    have j := fun t => impl_isPart_j1_ev t a b c h0 h1
    by_cases ha : B a = []
    · refine ev_if_pos ha ?_
      by_cases hb : B b = []
      · refine ev_if_pos hb ?_
        by_cases hc : (c.length : Int) = 0
        · refine ev_if_pos hc ?_
          rw [decide_eq_true ha, decide_eq_true hb, decide_eq_false (p := 0 < c.length) (by omega)]
          exact j true
        · refine ev_if_neg hc ?_
          rw [decide_eq_true ha, decide_eq_true hb, decide_eq_true (p := 0 < c.length) (by omega), ← hle]
          exact j _
      · refine ev_if_neg hb ?_
        rw [decide_eq_true ha, decide_eq_false hb, ← hle]
        exact j _
    · refine ev_if_neg ha ?_
      rw [decide_eq_false ha, ← hle]
      exact j _
  · intro i hi h
    have hmem : c.getD i ByteArray.empty ∈ c := by rw [List.getD_eq_getElem?_getD, List.getElem?_eq_getElem hi]; exact List.getElem_mem hi
    have hz := h3 _ hmem
    rw [drop_cons c ByteArray.empty i hi, List.all_cons]
    refine Ev.step (fun k => by rw [impl_isPart.l0, if_pos (by omega), if_pos (by omega), if_pos (by omega), rdOf_nat]) ?_
    refine ev_bind (impl_isWord_ev _ (by omega)) ?_
    cases isWordL (B (c.getD i ByteArray.empty)) with
    | true => refine ev_if_pos rfl ?_; rw [wrap_up hi (by omega), Bool.true_and]; exact h
    | false => refine ev_if_neg (by decide) ?_; rw [Bool.false_and, Bool.false_and]; exact Ev.now _

/-! impl_isSelector -/
-- plain: Word
theorem impl_isSelector_ev (l : List S42) (hl : l.length ≤ 1048576) (hg : ∀ x ∈ l, sizesPart x) : Ev (fun k => impl_isSelector.f k l) (selOk l) := by
  have e : selOk l = (l.all partOk && decide (1 ≤ (l.length : Int) ∧ (l.length : Int) ≤ 5)) := by
    unfold selOk; rw [Bool.and_comm]; congr 1; rw [decide_eq_decide]; omega
  rw [e]
  refine ev_from l.length (fun i k => impl_isSelector.l0 k l l l.length i) (fun i => (l.drop i).all partOk && decide (1 ≤ (l.length : Int) ∧ (l.length : Int) ≤ 5)) ?_ ?_ 0 (by omega)
  · refine ev_done fun k => ?_
    rw [impl_isSelector.l0, if_neg (by omega), impl_within_eq, Option.bind_some]; simp
  · intro i hi hh
    have hrd : rd_T42 l (i : Int) = l.getD i z42 := by simp [rd_T42]
    have hmem : l.getD i z42 ∈ l := by rw [List.getD_eq_getElem?_getD, List.getElem?_eq_getElem hi]; exact List.getElem_mem hi
    rw [drop_cons l z42 i hi, List.all_cons]
    refine Ev.step (fun k => by rw [impl_isSelector.l0, if_pos (by omega), if_pos (by omega), if_pos (by omega), hrd]) ?_
    refine ev_bind (impl_isPart_ev _ (hg _ hmem)) ?_
    cases partOk (l.getD i z42) with
    | true => refine ev_if_pos rfl ?_; rw [wrap_up hi (by omega), Bool.true_and]; exact hh
    | false => refine ev_if_neg (by decide) ?_; rw [Bool.false_and, Bool.false_and]; exact Ev.now _

/-! impl_WeightOf -/
-- plain: Word
theorem impl_WeightOf_step (l : List S42) (hl : l.length ≤ 1048576) (i : Nat) (hi : i < l.length) (a : Int) (k : Nat) :
    impl_WeightOf.l0 (k + 1) a l l.length i = impl_WeightOf.l0 k (weightStep a (l.getD i z42)) l l.length ((i + 1 : Nat) : Int) := by
  have hrd : rd_T42 l (i : Int) = l.getD i z42 := by simp [rd_T42]
  rw [impl_WeightOf.l0, if_pos (by omega), if_pos (by omega), if_pos (by omega), hrd, wrap_up hi (by omega)]
  unfold weightStep
  simp only [toList_B]
  by_cases h1 : B (l.getD i z42).f1 = []
  · rw [if_pos h1, if_pos h1]
    by_cases h0 : B (l.getD i z42).f0 = []
    · rw [if_pos h0, if_pos (.inl h0)]
    · rw [if_neg h0]
      by_cases hs : B (l.getD i z42).f0 = [42]
      · rw [if_pos hs, if_pos (.inr hs)]
      · rw [if_neg hs, if_neg (by rintro (h | h); exact h0 h; exact hs h)]
  · rw [if_neg h1, if_neg h1]
    by_cases h0 : B (l.getD i z42).f0 = []
    · rw [if_pos h0, if_pos (.inl h0)]
    · rw [if_neg h0]
      by_cases hs : B (l.getD i z42).f0 = [42]
      · rw [if_pos hs, if_pos (.inr hs)]
      · rw [if_neg hs, if_neg (by rintro (h | h); exact h0 h; exact hs h)]
theorem impl_WeightOf_l0_ev (l : List S42) (hl : l.length ≤ 1048576) : Ev (fun k => impl_WeightOf.l0 k 0 l l.length 0) (weightSum l, true) := by
  refine ev_up l.length (fun i k => impl_WeightOf.l0 k ((l.take i).foldl weightStep 0) l l.length i) (weightSum l, true) ?_ ?_
  · refine ev_done fun k => ?_
    rw [impl_WeightOf.l0, if_neg (by omega), List.take_of_length_le (Nat.le_refl _)]; rfl
  · intro i hi h
    refine Ev.step (fun k => ?_) h
    rw [impl_WeightOf_step l hl i hi, foldl_step l i hi]

/-! laws_eqStringS -/
-- plain: Evs
theorem laws_eqStringS_same (l : List ByteArray) (hn : l.length ≤ 9223372036854775807) : Ev (fun k => laws_eqStringS.f k l l) true := by
  refine Ev.congr (f := fun k => laws_eqStringS.l0 k l l 0) (fun k => ?_) ?_
  · unfold laws_eqStringS.f; rw [if_pos rfl]
  · refine ev_up l.length (fun i k => laws_eqStringS.l0 k l l i) true ?_ ?_
    · refine ev_done fun k => ?_
      rw [laws_eqStringS.l0, if_neg (by omega)]
    · intro i hi h
      refine Ev.step (fun k => ?_) h
      rw [laws_eqStringS.l0, if_pos (by omega), if_pos (by omega), if_pos (by omega), if_pos rfl, wrap_up hi (by omega)]

/-! laws_eqPart -/
-- plain: Evs
theorem laws_eqPart_same (a b : ByteArray) (l : List ByteArray) (hn : l.length ≤ 9223372036854775807) : Ev (fun k => laws_eqPart.f k a b l a b l) true := by
  simp only [laws_eqPart.f]
  exact ev_if_pos trivial (ev_if_pos trivial (ev_bind (laws_eqStringS_same l hn) (ev_if_pos rfl (Ev.now _))))

/-! laws_eqPartS -/
-- plain: Evs
theorem laws_eqPartS_same (l : List S42) (hn : l.length ≤ 9223372036854775807) (hg : ∀ x ∈ l, x.f2.length ≤ 9223372036854775807) : Ev (fun k => laws_eqPartS.f k l l) true := by
  refine Ev.congr (f := fun k => laws_eqPartS.l0 k l l 0) (fun k => ?_) ?_
  · unfold laws_eqPartS.f; rw [if_pos rfl]
  · refine ev_up l.length (fun i k => laws_eqPartS.l0 k l l i) true ?_ ?_
    · refine ev_done fun k => ?_
      rw [laws_eqPartS.l0, if_neg (by omega)]
    · intro i hi h
      have hrd : rd_T42 l (i : Int) = l.getD i z42 := by simp [rd_T42]
      have hmem : l.getD i z42 ∈ l := by rw [List.getD_eq_getElem?_getD, List.getElem?_eq_getElem hi]; exact List.getElem_mem hi
      refine Ev.step (fun k => by rw [laws_eqPartS.l0, if_pos (by omega), if_pos (by omega), if_pos (by omega), hrd]) ?_
      refine ev_bind (laws_eqPart_same _ _ _ (hg _ hmem)) (ev_if_pos rfl ?_)
      rw [wrap_up hi (by omega)]; exact h

/-! partsizes -/
-- plain: Word
theorem totStr_mem (l : List ByteArray) : ∀ x ∈ l, (x.size : Int) ≤ (l.map totStr).sum := by
  induction l with
  | nil => intro x hx; simp at hx
  | cons y l ih =>
    intro x hx
    rw [List.map_cons, List.sum_cons]
    have := totStringS_parts l
    have hy : 0 ≤ totStr y := by unfold totStr; omega
    rcases List.mem_cons.1 hx with rfl | hx
    · have : totStr x = (x.size : Int) := rfl
      omega
    · have := ih x hx; omega
theorem totPart_mem (l : List S39) : ∀ x ∈ l, totPart x ≤ (l.map totPart).sum := by
  induction l with
  | nil => intro x hx; simp at hx
  | cons y l ih =>
    intro x hx
    rw [List.map_cons, List.sum_cons]
    have := totPartS_parts l
    have := totPart_nonneg y
    rcases List.mem_cons.1 hx with rfl | hx
    · omega
    · have := ih x hx; omega
theorem sizes_of (l : List S39) (h : totPartS l ≤ 1048576) : l.length ≤ 1048576 ∧ ∀ x ∈ l, x.f0.size ≤ 1048576 ∧ x.f1.size ≤ 1048576 ∧ x.f2.length ≤ 1048576 ∧ ∀ y ∈ x.f2, y.size ≤ 1048576 := by
  unfold totPartS at h
  have h0 := totPartS_parts l
  refine ⟨by omega, fun x hx => ?_⟩
  have h1 := totPart_mem l x hx
  have hd : totPart x = (x.f0.size : Int) + (x.f1.size : Int) + ((x.f2.length : Int) + (x.f2.map totStr).sum) := rfl
  have h2 := totStringS_parts x.f2
  refine ⟨by omega, by omega, by omega, fun y hy => ?_⟩
  have := totStr_mem x.f2 y hy
  omega

-- plain: Word
theorem WeightOf_same (l : List S42) (hl : l.length ≤ 1048576) (hg : ∀ x ∈ l, sizesPart x) : ∃ r, Ev (fun k => spec_WeightOf.f k l) r ∧ Ev (fun k => impl_WeightOf.f k l) r := by
  simp only [spec_WeightOf.f, impl_WeightOf.f]
  cases h : selOk l with
  | true =>
    exact ⟨(weightSum l, true), ev_bind (h ▸ spec_l5Good_ev l hl hg) (ev_if_pos rfl (ev_bind (spec_l6Weight_ev l hl) (Ev.now _))), ev_bind (h ▸ impl_isSelector_ev l hl hg) (ev_if_pos rfl (impl_WeightOf_l0_ev l hl))⟩
  | false =>
    exact ⟨(0, false), ev_bind (h ▸ spec_l5Good_ev l hl hg) (ev_if_neg (by decide) (Ev.now _)), ev_bind (h ▸ impl_isSelector_ev l hl hg) (ev_if_neg (by decide) (Ev.now _))⟩
theorem FnExactWeightOf (l : List S39) (g : l.length ≤ maxLen ∧ ∀ x ∈ l, goodPartIn x) : ∃ k, laws_FnExactWeightOf.f k l = some true := by
  obtain ⟨gl, gg⟩ := g
  refine Ev.rounds ?_
  simp only [laws_FnExactWeightOf.f]
  obtain ⟨r, hr, hc⟩ := laws_szPartS_ev l 1048576 (by omega) (by omega) gl gg
  refine ev_bind hr ?_
  by_cases hn : r < 0
  · exact ev_if_pos hn (Ev.now true)
  refine ev_if_neg hn ?_
  obtain ⟨hl, hs⟩ := sizes_of l (by rcases hc with hc | ⟨hc, hc2⟩ <;> omega)
  have hto := laws_toPartS_ev l hl (fun x hx => (hs x hx).2.2.1)
  have hml : (l.map toPart).length ≤ 1048576 := by simpa using hl
  have hsz : ∀ x ∈ l.map toPart, sizesPart x := by
    intro x hx
    obtain ⟨y, hy, rfl⟩ := List.mem_map.1 hx
    exact hs y hy
  obtain ⟨v, h1, h2⟩ := WeightOf_same (l.map toPart) hml hsz
  refine ev_bind hto ?_
  refine ev_bind h1 ?_
  refine ev_bind hto ?_
  refine ev_bind h2 ?_
  refine ev_if_pos rfl ?_
  refine Ev.step (fun k => laws_FnExactWeightOf.j0.eq_2 ..) ?_
  refine ev_if_neg (by simp) ?_
  refine ev_bind hto ?_
  refine ev_bind (laws_eqPartS_same (l.map toPart) (by omega) (fun x hx => by have := (hsz x hx).2.2.1; omega)) ?_
  exact ev_if_pos rfl (Ev.now true)

end Go.Proofs.Ytigeocobckodgaa.Pure
