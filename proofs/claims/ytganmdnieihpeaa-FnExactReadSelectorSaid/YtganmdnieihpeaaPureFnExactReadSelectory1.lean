/- Lemmas for the pure statement of FnExactReadSelector, part 1. -/
import Derived.Test.YtganmdnieihpeaaPFnExactReadSelectorx9
import Derived.Test.YtganmdnieihpeaaPlain
import Derived.Test.YtganmdnieihpeaaEvs
import Derived.Test.YtganmdnieihpeaaStr
import Derived.Test.YtganmdnieihpeaaWord
import Derived.Test.YtganmdnieihpeaaTrim
import Derived.Test.YtganmdnieihpeaaField
set_option linter.unusedVariables false
set_option linter.unusedSimpArgs false
namespace Go.Proofs.Ytganmdnieihpeaa.Pure
open Go.RowKit Go.Proofs.Ytganmdnieihpeaa.PFnExactReadSelector Go.Proofs.YtganmdnieihpeaaW.PrintWords Go.Proofs.YtganmdnieihpeaaW.PrintLast Go.Proofs.YtganmdnieihpeaaW.PrintMore Go.Proofs.Ytganmdnieihpeaa.Plain

/-! laws_eqStringS -/
-- plain: Evs
theorem laws_eqStringS_same (l : List ByteArray) (hn : l.length ≤ 9223372036854775807) : Ev (fun k => laws_eqStringS.f k l l) true := by
  refine Ev.congr (f := fun k => laws_eqStringS.l0 k l l 0) (fun k => ?_) ?_
  · unfold laws_eqStringS.f; rw [if_pos rfl]
  · refine ev_up l.length (fun i k => laws_eqStringS.l0 k l l i) true ?_ ?_
    · refine ev_done fun k => ?_
      rw [laws_eqStringS.l0, if_neg (by omega)]
    · intro i hi h
      refine Ev.step (fun k => ?_) h
      rw [laws_eqStringS.l0, if_pos (by omega), if_pos (by omega), if_pos (by omega), if_pos rfl, wrap_up hi (by omega)]

/-! laws_eqPart -/
-- plain: Evs
theorem laws_eqPart_same (a b : ByteArray) (l : List ByteArray) (hn : l.length ≤ 9223372036854775807) : Ev (fun k => laws_eqPart.f k a b l a b l) true := by
  simp only [laws_eqPart.f]
  exact ev_if_pos trivial (ev_if_pos trivial (ev_bind (laws_eqStringS_same l hn) (ev_if_pos rfl (Ev.now _))))

/-! laws_eqPartS -/
-- plain: Evs
theorem laws_eqPartS_same (l : List S40) (hn : l.length ≤ 9223372036854775807) (hg : ∀ x ∈ l, x.f2.length ≤ 9223372036854775807) : Ev (fun k => laws_eqPartS.f k l l) true := by
  refine Ev.congr (f := fun k => laws_eqPartS.l0 k l l 0) (fun k => ?_) ?_
  · unfold laws_eqPartS.f; rw [if_pos rfl]
  · refine ev_up l.length (fun i k => laws_eqPartS.l0 k l l i) true ?_ ?_
    · refine ev_done fun k => ?_
      rw [laws_eqPartS.l0, if_neg (by omega)]
    · intro i hi h
      have hrd : rd_T40 l (i : Int) = l.getD i z40 := by simp [rd_T40]
      have hmem : l.getD i z40 ∈ l := by rw [List.getD_eq_getElem?_getD, List.getElem?_eq_getElem hi]; exact List.getElem_mem hi
      refine Ev.step (fun k => by rw [laws_eqPartS.l0, if_pos (by omega), if_pos (by omega), if_pos (by omega), hrd]) ?_
      refine ev_bind (laws_eqPart_same _ _ _ (hg _ hmem)) (ev_if_pos rfl ?_)
      rw [wrap_up hi (by omega)]; exact h

/-! spec_l4Blank -/
-- plain: Trim
theorem spec_l4Blank_eq (c : UInt8) : spec_l4Blank.f (c.toNat : Int) = some (blankU c) := by
  unfold spec_l4Blank.f blankU
  have e : ∀ n : Nat, n < 256 → (((c.toNat : Int) = (n : Int)) ↔ c = UInt8.ofNat n) := fun n hn => u8_nat hn
  by_cases h9 : c = 9
  · subst h9; rfl
  · rw [if_neg (by rw [show (9 : Int) = ((9 : Nat) : Int) from rfl, e 9 (by omega)]; exact h9)]
    by_cases h10 : c = 10
    · subst h10; rfl
    · rw [if_neg (by rw [show (10 : Int) = ((10 : Nat) : Int) from rfl, e 10 (by omega)]; exact h10)]
      by_cases h13 : c = 13
      · subst h13; rfl
      · rw [if_neg (by rw [show (13 : Int) = ((13 : Nat) : Int) from rfl, e 13 (by omega)]; exact h13)]
        by_cases h32 : c = 32
        · subst h32; rfl
        · have h1 : ((c.toNat : Int) == 32) = false := beq_eq_false_iff_ne.mpr (by rw [show (32 : Int) = ((32 : Nat) : Int) from rfl]; exact fun h => h32 ((e 32 (by omega)).1 h))
          rw [h1]
          simp [h9, h10, h13, h32]

/-! spec_l1Digit -/
-- plain: Word
theorem spec_l1Digit_eq (c : Int) : spec_l1Digit.f c = some (digI c) := by
  unfold spec_l1Digit.f digI
  split
  · rename_i h; congr 1; rw [decide_eq_decide]; omega
  · rename_i h; congr 1; rw [eq_comm, decide_eq_false_iff_not]; omega

/-! spec_l4Letter -/
-- plain: Word
theorem spec_l4Letter_eq (c : Int) : spec_l4Letter.f c = some (ltrI c || decide (c = 95)) := by
  have hb : (c == 95) = decide (c = 95) := by rw [Bool.eq_iff_iff]; simp
  unfold spec_l4Letter.f
  rw [hb]
  unfold ltrI
  by_cases h1 : (97 ≤ c ∧ c ≤ 122)
  · rw [if_pos h1.1, if_pos h1.2, decide_eq_true (p := (97 ≤ c ∧ c ≤ 122) ∨ (65 ≤ c ∧ c ≤ 90)) (.inl h1)]; rfl
  · by_cases h2 : (65 ≤ c ∧ c ≤ 90)
    · rw [decide_eq_true (p := (97 ≤ c ∧ c ≤ 122) ∨ (65 ≤ c ∧ c ≤ 90)) (.inr h2), Bool.true_or]
      by_cases h3 : c ≥ 97
      · omega
      · rw [if_neg h3, if_pos h2.1, if_pos h2.2]
    · rw [decide_eq_false (p := (97 ≤ c ∧ c ≤ 122) ∨ (65 ≤ c ∧ c ≤ 90)) (by omega), Bool.false_or]
      by_cases h3 : c ≥ 97
      · rw [if_pos h3, if_neg (by omega), if_pos (by omega), if_neg (by omega)]
      · rw [if_neg h3]
        by_cases h4 : c ≥ 65
        · rw [if_pos h4, if_neg (by omega)]
        · rw [if_neg h4]

/-! spec_l5Start -/
-- plain: Word
theorem spec_l5Start_eq (c : Int) : spec_l5Start.f c = some (ltrI c || decide (c = 95) || decide (c = 45)) := by
  have hb : (c == 45) = decide (c = 45) := by rw [Bool.eq_iff_iff]; simp
  unfold spec_l5Start.f
  rw [spec_l4Letter_eq, Option.bind_some, hb]
  split
  · rename_i h; rw [h, Bool.true_or]
  · rename_i h; rw [Bool.not_eq_true] at h; rw [h, Bool.false_or]

/-! spec_l5Inner -/
-- plain: Word
theorem spec_l5Inner_eq (c : Int) : spec_l5Inner.f c = some (wordI c) := by
  unfold spec_l5Inner.f
  rw [spec_l5Start_eq, Option.bind_some, spec_l1Digit_eq, Option.bind_some]
  unfold wordI
  generalize ltrI c = a; generalize digI c = b; generalize decide (c = 95) = d; generalize decide (c = 45) = e
  cases a <;> cases b <;> cases d <;> cases e <;> rfl

/-! spec_l5Run -/
-- plain: Word
def runL (l : List UInt8) : Nat := if runEnd wordU l 0 = 0 then 0 else if digU (l.getD 0 0) = true then 0 else if runEnd wordU l 0 > 30 then 0 else runEnd wordU l 0
theorem spec_l5Run_ev (s : ByteArray) (hs : s.size ≤ 9223372036854775806) : Ev (fun k => spec_l5Run.f k s) ((runL (B s) : Nat) : Int) := by
  refine Ev.congr (f := fun k => spec_l5Run.l0 k s 0) (fun k => rfl) ?_
  have hl := B_len s
  have fin : ∀ e : Nat, e ≤ (B s).length → ∀ k : Nat, (if (e : Int) = 0 then (some (0 : Int)) else (if 0 < (s.size : Int) then ((spec_l1Digit.f (bt s 0)).bind fun t => (if t = true then (some 0) else (if (e : Int) > 30 then (some 0) else (some (e : Int))))) else (none))) =
      some (((if e = 0 then 0 else if digU ((B s).getD 0 0) = true then 0 else if e > 30 then 0 else e : Nat) : Nat) : Int) := by
    intro e he k
    by_cases h0 : e = 0
    · rw [if_pos (by omega), if_pos h0]; rfl
    · have hb := bt_U s 0 (by omega)
      have hd : digI (bt s 0) = digU ((B s).getD 0 0) := by
        have : bt s ((0 : Nat) : Int) = bt s 0 := rfl
        rw [← this, hb]; rfl
      rw [if_neg (by omega), if_neg h0, if_pos (by omega), spec_l1Digit_eq, Option.bind_some, hd]
      split
      · rfl
      · by_cases h30 : e > 30
        · rw [if_pos (by omega), if_pos h30]; rfl
        · rw [if_neg (by omega), if_neg h30]
  have key := ev_from (B s).length (fun i k => spec_l5Run.l0 k s i) (fun i => (((if runEnd wordU (B s) i = 0 then 0 else if digU ((B s).getD 0 0) = true then 0 else if runEnd wordU (B s) i > 30 then 0 else runEnd wordU (B s) i : Nat) : Nat) : Int)) ?_ ?_ 0 (by omega)
  · exact key
  · refine ev_done fun k => ?_
    rw [spec_l5Run.l0, if_neg (by omega), fin _ (Nat.le_refl _) k, runEnd_end _ _ _ (Nat.le_refl _)]
  · intro i hi h
    by_cases hp : wordU ((B s).getD i 0) = true
    · rw [runEnd_yes _ _ _ hi hp]
      refine Ev.step (fun k => ?_) h
      rw [spec_l5Run.l0, if_pos (by omega), if_pos (by omega), spec_l5Inner_eq, Option.bind_some, bt_U s i hi, if_pos (show wordI _ = true from hp), wrap_up hi (by omega)]
    · refine ev_done fun k => ?_
      rw [spec_l5Run.l0, if_pos (by omega), if_pos (by omega), spec_l5Inner_eq, Option.bind_some, bt_U s i hi, if_neg (show ¬ wordI _ = true from hp), runEnd_no _ _ _ hi hp, fin i (by omega) k]

/-! impl_within -/
theorem impl_within_eq (a b c : Int) : impl_within.f a b c = some (decide (b ≤ a ∧ a ≤ c)) := by
  unfold impl_within.f
  split
  · rename_i h; simp [h]
  · rename_i h; simp [h]

/-! impl_isDigit -/
-- plain: Word
theorem impl_isDigit_eq (c : Int) : impl_isDigit.f c = some (digI c) := by
  unfold impl_isDigit.f digI
  split
  · rename_i h; congr 1; rw [decide_eq_decide]; omega
  · rename_i h; congr 1; rw [eq_comm, decide_eq_false_iff_not]; omega

/-! impl_isLetter -/
-- plain: Word
theorem impl_isLetter_eq (c : Int) : impl_isLetter.f c = some (ltrI c) := by
  unfold impl_isLetter.f ltrI
  split
  · split
    · congr 1; rw [eq_comm, decide_eq_true_iff]; omega
    · split
      · congr 1; rw [decide_eq_decide]; omega
      · congr 1; rw [eq_comm, decide_eq_false_iff_not]; omega
  · split
    · congr 1; rw [decide_eq_decide]; omega
    · congr 1; rw [eq_comm, decide_eq_false_iff_not]; omega

/-! impl_wordEnd -/
-- plain: Word
theorem impl_wordEnd_l0_ev (s : ByteArray) (hs : s.size ≤ 9223372036854775806) (i : Nat) : Ev (fun k => impl_wordEnd.l0 k s i) ((runEnd wordU (B s) i : Nat) : Int) := by
  have hl := B_len s
  by_cases hi0 : i ≤ (B s).length
  · refine ev_from (B s).length (fun i k => impl_wordEnd.l0 k s i) (fun i => ((runEnd wordU (B s) i : Nat) : Int)) ?_ ?_ i hi0
    · refine ev_done fun k => ?_
      rw [impl_wordEnd.l0, if_neg (by omega), runEnd_end _ _ _ (Nat.le_refl _)]
    · intro i hi h
      have hb := bt_U s i hi
      by_cases hp : wordU ((B s).getD i 0) = true
      · rw [runEnd_yes _ _ _ hi hp]
        refine Ev.step (fun k => ?_) h
        rw [impl_wordEnd.l0, if_pos (by omega), if_pos (by omega), impl_isLetter_eq, Option.bind_some, impl_isDigit_eq, Option.bind_some, hb, wrap_up hi (by omega)]
        unfold wordU wordI at hp
        by_cases c1 : ltrI (((B s).getD i 0).toNat : Int) = true
        · rw [if_pos c1]
        · rw [if_neg c1]
          by_cases c2 : digI (((B s).getD i 0).toNat : Int) = true
          · rw [if_pos c2]
          · rw [if_neg c2]
            by_cases c3 : (((B s).getD i 0).toNat : Int) = 95
            · rw [if_pos c3]
            · rw [if_neg c3, if_pos]
              simp only [Bool.not_eq_true] at c1 c2
              rw [c1, c2, decide_eq_false c3] at hp
              simpa using hp
      · refine ev_done fun k => ?_
        rw [impl_wordEnd.l0, if_pos (by omega), if_pos (by omega), impl_isLetter_eq, Option.bind_some, impl_isDigit_eq, Option.bind_some, hb, runEnd_no _ _ _ hi hp]
        unfold wordU wordI at hp
        simp only [Bool.or_eq_true, not_or, decide_eq_true_iff] at hp
        rw [if_neg hp.1.1.1, if_neg hp.1.1.2, if_neg hp.1.2, if_neg hp.2]
  · refine ev_done fun k => ?_
    rw [impl_wordEnd.l0, if_neg (by omega), runEnd_end _ _ _ (by omega)]
def wordEndL (l : List UInt8) (i : Nat) : Nat := if i < l.length ∧ digU (l.getD i 0) = true then i else runEnd wordU l i
theorem impl_wordEnd_ev (s : ByteArray) (hs : s.size ≤ 9223372036854775806) (i : Nat) : Ev (fun k => impl_wordEnd.f k s i) ((wordEndL (B s) i : Nat) : Int) := by
  have hl := B_len s
  simp only [impl_wordEnd.f]
  unfold wordEndL
  by_cases hi : i < (B s).length
  · refine ev_if_pos (by omega) (ev_if_pos (by omega) ?_)
    rw [impl_isDigit_eq, bt_U s i hi]
    simp only [Option.bind_some]
    by_cases hd : digU ((B s).getD i 0) = true
    · rw [if_pos ⟨hi, hd⟩]
      refine Ev.step (fun k => impl_wordEnd.j0.eq_2 ..) (ev_if_pos hd (Ev.now _))
    · rw [if_neg (fun h => hd h.2)]
      refine Ev.step (fun k => impl_wordEnd.j0.eq_2 ..) (ev_if_neg hd (impl_wordEnd_l0_ev s hs i))
  · rw [if_neg (fun h => hi h.1)]
    refine ev_if_neg (by omega) (Ev.step (fun k => impl_wordEnd.j0.eq_2 ..) (ev_if_neg (by decide) (impl_wordEnd_l0_ev s hs i)))

/-! impl_isWord -/
-- plain: Word
theorem wordEnd_word (l : List UInt8) : (decide (1 ≤ l.length ∧ l.length ≤ 30) && decide (wordEndL l 0 = l.length)) = isWordL l := by
  unfold isWordL wordEndL
  have ha := runEnd_all wordU l
  by_cases h0 : 1 ≤ l.length ∧ l.length ≤ 30
  · rw [decide_eq_true h0, Bool.true_and, Bool.true_and]
    cases hd : digU (l.getD 0 0) with
    | true =>
      rw [if_pos ⟨by omega, rfl⟩]
      simp only [Bool.not_true, Bool.false_and]
      rw [decide_eq_false_iff_not]; omega
    | false =>
      rw [if_neg (fun h => by simp at h)]
      simp only [Bool.not_false, Bool.true_and]
      rw [Bool.eq_iff_iff, decide_eq_true_iff]; exact ha
  · rw [decide_eq_false h0]; simp
theorem impl_isWord_ev (s : ByteArray) (hs : s.size ≤ 9223372036854775806) : Ev (fun k => impl_isWord.f k s) (isWordL (B s)) := by
  have hl := B_len s
  simp only [impl_isWord.f]
  rw [← wordEnd_word, impl_within_eq]
  simp only [Option.bind_some]
  by_cases h : 1 ≤ (B s).length ∧ (B s).length ≤ 30
  · refine ev_if_pos (by rw [decide_eq_true_iff]; omega) (ev_bind (impl_wordEnd_ev s hs 0) ?_)
    have e : (decide (1 ≤ (B s).length ∧ (B s).length ≤ 30) && decide (wordEndL (B s) 0 = (B s).length)) = (((wordEndL (B s) 0 : Nat) : Int) == (s.size : Int)) := by
      rw [decide_eq_true h, Bool.true_and, Bool.eq_iff_iff, decide_eq_true_iff, beq_iff_eq]; omega
    rw [e]; exact Ev.now _
  · refine ev_if_neg (by rw [decide_eq_true_iff]; omega) ?_
    rw [decide_eq_false h, Bool.false_and]; exact Ev.now _

/-! partdefs -/
-- plain: Word
def sizesPart (x : S40) : Prop := x.f0.size ≤ 1048576 ∧ x.f1.size ≤ 1048576 ∧ x.f2.length ≤ 1048576 ∧ ∀ y ∈ x.f2, y.size ≤ 1048576
def typeOkL (l : List UInt8) : Bool := decide (l = []) || decide (l = [42]) || isWordL l
def idOkL (l : List UInt8) : Bool := decide (l = []) || isWordL l
def partOk (x : S40) : Bool := typeOkL (B x.f0) && idOkL (B x.f1) && decide (x.f2.length ≤ 4) && x.f2.all (fun y => isWordL (B y)) && (!decide (B x.f0 = []) || !decide (B x.f1 = []) || decide (0 < x.f2.length))

/-! impl_isPart -/
-- plain: Word
theorem impl_isPart_j1_ev (t : Bool) (a b : ByteArray) (c : List ByteArray) (ha : a.size ≤ 1048576) (hb : b.size ≤ 1048576) : Ev (fun k => impl_isPart.j1 k t a b c) (!t && (typeOkL (B a) && idOkL (B b))) := by
  have rest : Ev (fun k => if b.toList = ([] : List UInt8) then (some true) else ((impl_isWord.f k b).bind fun t => (some t))) (idOkL (B b)) := by
    by_cases h : B b = []
    · have hi : idOkL (B b) = true := by unfold idOkL; rw [h]; rfl
      rw [hi]; exact ev_if_pos (by rw [toList_B]; exact h) (Ev.now _)
    · have hi : idOkL (B b) = isWordL (B b) := by unfold idOkL; rw [decide_eq_false h, Bool.false_or]
      rw [hi]; exact ev_if_neg (by rw [toList_B]; exact h) (ev_bind (impl_isWord_ev b (by omega)) (Ev.now _))
  refine Ev.step (fun k => impl_isPart.j1.eq_2 ..) ?_
  cases t with
  | true => exact ev_if_pos rfl (Ev.now _)
  | false =>
    refine ev_if_neg (by decide) ?_
    rw [Bool.not_false, Bool.true_and]
    by_cases h0 : B a = []
    · have ht : typeOkL (B a) = true := by unfold typeOkL; rw [h0]; rfl
      rw [ht, Bool.true_and]; exact ev_if_pos (by rw [toList_B]; exact h0) rest
    · refine ev_if_neg (by rw [toList_B]; exact h0) ?_
      by_cases hs : B a = [42]
      · have ht : typeOkL (B a) = true := by unfold typeOkL; rw [hs]; rfl
        rw [ht, Bool.true_and]; exact ev_if_pos (by rw [toList_B]; exact hs) rest
      · have ht : typeOkL (B a) = isWordL (B a) := by unfold typeOkL; rw [decide_eq_false h0, decide_eq_false hs]; simp
        refine ev_if_neg (by rw [toList_B]; exact hs) (ev_bind (impl_isWord_ev a (by omega)) ?_)
        rw [ht]
        cases isWordL (B a) with
        | true => rw [Bool.true_and]; exact ev_if_pos rfl rest
        | false => exact ev_if_neg (by decide) (Ev.now _)
theorem impl_isPart_ev (x : S40) (hx : sizesPart x) : Ev (fun k => impl_isPart.f k x.f0 x.f1 x.f2) (partOk x) := by
  obtain ⟨a, b, c⟩ := x
  obtain ⟨h0, h1, h2, h3⟩ := hx
  simp only at h0 h1 h2 h3
  have hle : (!(decide ((c.length : Int) > 4))) = decide (c.length ≤ 4) := by rw [Bool.eq_iff_iff]; simp; omega
  have e : partOk ⟨a, b, c⟩ = (c.all (fun y => isWordL (B y)) && ((!decide (B a = []) || !decide (B b = []) || decide (0 < c.length)) && decide (c.length ≤ 4) && (typeOkL (B a) && idOkL (B b)))) := by
    unfold partOk
    simp only
    generalize typeOkL (B a) = p; generalize idOkL (B b) = q; generalize decide (c.length ≤ 4) = r; generalize c.all (fun y => isWordL (B y)) = s; generalize decide (B a = []) = t; generalize decide (B b = []) = u; generalize decide (0 < c.length) = v
    cases p <;> cases q <;> cases r <;> cases s <;> cases t <;> cases u <;> cases v <;> rfl
  rw [e]
  refine ev_from c.length (fun i k => impl_isPart.l0 k c c.length i a b c) (fun i => (c.drop i).all (fun y => isWordL (B y)) && ((!decide (B a = []) || !decide (B b = []) || decide (0 < c.length)) && decide (c.length ≤ 4) && (typeOkL (B a) && idOkL (B b)))) ?_ ?_ 0 (by omega)
  · refine Ev.step (fun k => by rw [impl_isPart.l0, if_neg (by omega), toList_B, toList_B]) ?_
    simp only [List.drop_length, List.all_nil, Bool.true_and]
    have j := fun t => impl_isPart_j1_ev t a b c h0 h1
    by_cases ha : B a = []
    · refine ev_if_pos ha ?_
      by_cases hb : B b = []
      · refine ev_if_pos hb ?_
        by_cases hc : (c.length : Int) = 0
        · refine ev_if_pos hc ?_
          rw [decide_eq_true ha, decide_eq_true hb, decide_eq_false (p := 0 < c.length) (by omega)]
          exact j true
        · refine ev_if_neg hc ?_
          rw [decide_eq_true ha, decide_eq_true hb, decide_eq_true (p := 0 < c.length) (by omega), ← hle]
          exact j _
      · refine ev_if_neg hb ?_
        rw [decide_eq_true ha, decide_eq_false hb, ← hle]
        exact j _
    · refine ev_if_neg ha ?_
      rw [decide_eq_false ha, ← hle]
      exact j _
  · intro i hi h
    have hmem : c.getD i ByteArray.empty ∈ c := by rw [List.getD_eq_getElem?_getD, List.getElem?_eq_getElem hi]; exact List.getElem_mem hi
    have hz := h3 _ hmem
    rw [drop_cons c ByteArray.empty i hi, List.all_cons]
    refine Ev.step (fun k => by rw [impl_isPart.l0, if_pos (by omega), if_pos (by omega), if_pos (by omega), rdOf_nat]) ?_
    refine ev_bind (impl_isWord_ev _ (by omega)) ?_
    cases isWordL (B (c.getD i ByteArray.empty)) with
    | true => refine ev_if_pos rfl ?_; rw [wrap_up hi (by omega), Bool.true_and]; exact h
    | false => refine ev_if_neg (by decide) ?_; rw [Bool.false_and, Bool.false_and]; exact Ev.now _

/-! selok -/
-- plain: Word
def selOk (l : List S40) : Bool := decide (1 ≤ l.length ∧ l.length ≤ 5) && l.all partOk

/-! impl_isSelector -/
-- plain: Word
theorem impl_isSelector_wide (l : List S40) (hl : l.length ≤ 1099511627776) (hg : ∀ x ∈ l, sizesPart x) : Ev (fun k => impl_isSelector.f k l) (selOk l) := by
  have e : selOk l = (l.all partOk && decide (1 ≤ (l.length : Int) ∧ (l.length : Int) ≤ 5)) := by
    unfold selOk; rw [Bool.and_comm]; congr 1; rw [decide_eq_decide]; omega
  rw [e]
  refine ev_from l.length (fun i k => impl_isSelector.l0 k l l l.length i) (fun i => (l.drop i).all partOk && decide (1 ≤ (l.length : Int) ∧ (l.length : Int) ≤ 5)) ?_ ?_ 0 (by omega)
  · refine ev_done fun k => ?_
    rw [impl_isSelector.l0, if_neg (by omega), impl_within_eq, Option.bind_some]; simp
  · intro i hi hh
    have hrd : rd_T40 l (i : Int) = l.getD i z40 := by simp [rd_T40]
    have hmem : l.getD i z40 ∈ l := by rw [List.getD_eq_getElem?_getD, List.getElem?_eq_getElem hi]; exact List.getElem_mem hi
    rw [drop_cons l z40 i hi, List.all_cons]
    refine Ev.step (fun k => by rw [impl_isSelector.l0, if_pos (by omega), if_pos (by omega), if_pos (by omega), hrd]) ?_
    refine ev_bind (impl_isPart_ev _ (hg _ hmem)) ?_
    cases partOk (l.getD i z40) with
    | true => refine ev_if_pos rfl ?_; rw [wrap_up hi (by omega), Bool.true_and]; exact hh
    | false => refine ev_if_neg (by decide) ?_; rw [Bool.false_and, Bool.false_and]; exact Ev.now _
theorem impl_isSelector_ev (l : List S40) (hl : l.length ≤ 1048576) (hg : ∀ x ∈ l, sizesPart x) : Ev (fun k => impl_isSelector.f k l) (selOk l) := impl_isSelector_wide l (by omega) hg

/-! impl_fields -/
-- plain: Evs Field
theorem impl_fields_eq (s : ByteArray) (hs : s.size ≤ 1048576) : impl_fields.f s = some ((wordsL blankU [] (B s)).map ofL) := by
  unfold impl_fields.f
  rw [if_pos (by omega), fields_words blankR blankU ?_ ?_ blankU_far]
  · intro x hx
    unfold blankR
    rw [beq_eq_false_iff_ne.mpr (by omega : x ≠ 9), beq_eq_false_iff_ne.mpr (by omega : x ≠ 10), beq_eq_false_iff_ne.mpr (by omega : x ≠ 13), beq_eq_false_iff_ne.mpr (by omega : x ≠ 32)]
    rfl
  · intro c _
    rw [blankU_rune]; rfl

/-! stringslite_HasPrefix -/
-- plain: Str
theorem stringslite_HasPrefix_eq (s p : ByteArray) : stringslite_HasPrefix.f s p = some (decide (B p <+: B s)) := by
  unfold stringslite_HasPrefix.f
  by_cases h : (s.size : Int) ≥ (p.size : Int)
  · rw [if_pos h, if_pos (by omega), if_pos h]
    congr 1
    rw [toList_B, toList_B, B_extract, Int.toNat_natCast, Nat.sub_zero, List.drop_zero, Bool.eq_iff_iff, beq_iff_eq, decide_eq_true_iff, List.prefix_iff_eq_take, B_len]
    exact eq_comm
  · rw [if_neg h]
    congr 1
    rw [eq_comm, decide_eq_false_iff_not]
    intro hp
    have := hp.length_le
    rw [B_len, B_len] at this
    omega

/-! strings_HasPrefix -/
-- plain: Str
theorem strings_HasPrefix_eq (s p : ByteArray) : strings_HasPrefix.f s p = some (decide (B p <+: B s)) := by
  unfold strings_HasPrefix.f
  rw [stringslite_HasPrefix_eq]; rfl

/-! laws_markText -/
-- plain: Evs
theorem markText_l0_ends : ∀ (n : Nat) (x : Int) (s : ByteArray), 0 ≤ x → x.toNat ≤ n → (s.size : Int) + x ≤ 4611686018427387904 → ∃ t, Ev (fun k => laws_markText.l0 k x s) t := by
  intro n
  induction n with
  | zero =>
    intro x s h0 h1 h2
    exact ⟨_, ev_done fun k => by rw [laws_markText.l0, if_neg (by omega), if_pos (by omega)]⟩
  | succ n ih =>
    intro x s h0 h1 h2
    by_cases hx : x > 0
    · have hd : wrap64 (Int.tdiv x 10) = x / 10 := by rw [Int.tdiv_eq_ediv_of_nonneg h0, wrap_id (by omega) (by omega)]
      have hz : ∀ y : Int, (strOfNums ([y] : List Int)).size = 1 := fun y => rfl
      obtain ⟨t, ht⟩ := ih (x / 10) ((strOfNums ([(wrap64 (48 + (Int.tmod x 10))) % 256] : List Int)) ++ s) (by omega) (by omega) (by rw [ByteArray.size_append, hz]; omega)
      refine ⟨t, Ev.step (fun k => ?_) ht⟩
      rw [laws_markText.l0, if_pos hx, Option.bind_some, if_pos (by rw [hz]; omega), hd]
    · exact ⟨_, ev_done fun k => by rw [laws_markText.l0, if_neg hx, if_pos (by omega)]⟩
theorem markText_ends (x : Int) : ∃ t, 0 ≤ x → x ≤ 4611686018427387904 → Ev (fun k => laws_markText.f k x) t := by
  by_cases h : 0 ≤ x ∧ x ≤ 4611686018427387904
  · by_cases h0 : x ≤ 0
    · exact ⟨_, fun _ _ => ev_now fun k => by unfold laws_markText.f; rw [if_pos h0]⟩
    · obtain ⟨t, ht⟩ := markText_l0_ends x.toNat x (⟨#[]⟩ : ByteArray) h.1 (by omega) (by show (0 : Int) + x ≤ _; omega)
      exact ⟨t, fun _ _ => Ev.congr (fun k => by unfold laws_markText.f; rw [if_neg h0]) ht⟩
  · exact ⟨(⟨#[]⟩ : ByteArray), fun h1 h2 => absurd ⟨h1, h2⟩ h⟩
/-- the text of a mark. -/
noncomputable def mtext (x : Int) : ByteArray := Classical.choose (markText_ends x)
theorem mtext_ev (x : Int) (h0 : 0 ≤ x) (h1 : x ≤ 4611686018427387904) : Ev (fun k => laws_markText.f k x) (mtext x) := Classical.choose_spec (markText_ends x) h0 h1

end Go.Proofs.Ytganmdnieihpeaa.Pure
