/- Lemmas for the pure statement of FnExactSheetText, part 2. -/
import Derived.Test.YtganmdnieihpeaaDoorPureFnExactSheetTexty1
import Derived.Test.YtganmdnieihpeaaDoorPlain
import Derived.Test.YtganmdnieihpeaaDoorEvs
import Derived.Test.YtganmdnieihpeaaDoorStr
import Derived.Test.YtganmdnieihpeaaDoorWord
import Derived.Test.YtganmdnieihpeaaDoorTrim
import Derived.Test.YtganmdnieihpeaaDoorCuts
import Derived.Test.YtganmdnieihpeaaDoorDecl
import Derived.Test.YtganmdnieihpeaaDoorGen
set_option linter.unusedVariables false
set_option linter.unusedSimpArgs false
namespace Go.Proofs.YtganmdnieihpeaaDoor.Pure
open Go.RowKit Go.Proofs.YtganmdnieihpeaaDoor.PFnExactSheetText Go.Proofs.YtganmdnieihpeaaDoorW.PrintWords Go.Proofs.YtganmdnieihpeaaDoorW.PrintLast Go.Proofs.YtganmdnieihpeaaDoorW.PrintMore Go.Proofs.YtganmdnieihpeaaDoor.Plain

/-! sheeteq -/
-- plain: Evs
def smallI (x : S43) : Prop := x.f0.length ≤ 1048576 ∧ (∀ y ∈ x.f0, y.length ≤ 1048576 ∧ ∀ z ∈ y, sizesPart z) ∧ x.f1.length ≤ 1048576 ∧ ∀ d ∈ x.f1, d.f0.size ≤ 1048576 ∧ d.f1.size ≤ 1048576
theorem laws_eqPartSS_same (l : List (List S63)) (hn : l.length ≤ 1048576) (hg : ∀ x ∈ l, x.length ≤ 1048576 ∧ ∀ z ∈ x, sizesPart z) : Ev (fun k => laws_eqPartSS.f k l l) true := by
  refine Ev.congr (f := fun k => laws_eqPartSS.l0 k l l 0) (fun k => ?_) ?_
  · unfold laws_eqPartSS.f; rw [if_pos rfl]
  · refine ev_up l.length (fun i k => laws_eqPartSS.l0 k l l i) true ?_ ?_
    · refine ev_done fun k => ?_
      rw [laws_eqPartSS.l0, if_neg (by omega)]
    · intro i hi h
      have hrd : rd_L10 l (i : Int) = l.getD i [] := by simp [rd_L10]
      have hm : l.getD i [] ∈ l := by rw [List.getD_eq_getElem?_getD, List.getElem?_eq_getElem hi]; exact List.getElem_mem hi
      have hgm := hg _ hm
      refine Ev.step (fun k => by rw [laws_eqPartSS.l0, if_pos (by omega), if_pos (by omega), if_pos (by omega), hrd]) ?_
      refine ev_bind (laws_eqPartS_same _ (by have := hgm.1; omega) (fun y hy => by have := (hgm.2 y hy).2.2.1; omega)) (ev_if_pos rfl ?_)
      rw [wrap_up hi (by omega)]; exact h
theorem laws_eqRule_same (x : S43) (hx : smallI x) : Ev (fun k => laws_eqRule.f k x.f0 x.f1 x.f0 x.f1) true := by
  simp only [laws_eqRule.f]
  exact ev_bind (laws_eqPartSS_same x.f0 hx.1 hx.2.1) (ev_if_pos rfl (ev_bind (laws_eqDeclS_same x.f1 (by have := hx.2.2.1; omega)) (ev_if_pos rfl (Ev.now _))))
theorem laws_eqRuleS_same (l : List S43) (hn : l.length ≤ 1048576) (hg : ∀ x ∈ l, smallI x) : Ev (fun k => laws_eqRuleS.f k l l) true := by
  refine Ev.congr (f := fun k => laws_eqRuleS.l0 k l l 0) (fun k => ?_) ?_
  · unfold laws_eqRuleS.f; rw [if_pos rfl]
  · refine ev_up l.length (fun i k => laws_eqRuleS.l0 k l l i) true ?_ ?_
    · refine ev_done fun k => ?_
      rw [laws_eqRuleS.l0, if_neg (by omega)]
    · intro i hi h
      have hrd : rd_T43 l (i : Int) = l.getD i z43 := by simp [rd_T43]
      have hm : l.getD i z43 ∈ l := by rw [List.getD_eq_getElem?_getD, List.getElem?_eq_getElem hi]; exact List.getElem_mem hi
      have hgm := hg _ hm
      refine Ev.step (fun k => by rw [laws_eqRuleS.l0, if_pos (by omega), if_pos (by omega), if_pos (by omega), hrd]) ?_
      refine ev_bind (laws_eqRule_same _ hgm) (ev_if_pos rfl ?_)
      rw [wrap_up hi (by omega)]; exact h

/-! declgood -/
-- plain: Evs Word Trim
def mark5 : List UInt8 := [59, 123, 125, 47, 33]
def goodD (x : S48) : Bool := isWordL (B x.f0) && (decide (B (lowB x.f0) = B x.f0) && (decide ((1 : Int) ≤ (x.f1.size : Int) ∧ (x.f1.size : Int) ≤ 60) && (decide (B (trimP x.f1) = B x.f1) && !(B x.f1).any mark5.contains)))
theorem any_contains (c : List UInt8) (l : List UInt8) : Go.Lib.containsAny l c = l.any c.contains := by
  unfold Go.Lib.containsAny
  induction l with
  | nil => rfl
  | cons b l ih =>
    have hge := Go.Lib.indexAny_ge c l
    rw [List.any_cons, ← ih]
    by_cases hb : c.contains b = true
    · rw [Go.Lib.indexAny, if_pos hb, hb]; rfl
    · rw [Go.Lib.indexAny, if_neg hb, Bool.eq_false_iff.2 hb, Bool.false_or]
      by_cases h1 : Go.Lib.indexAny l c = -1
      · rw [if_pos (by rw [h1]; rfl), h1]
      · rw [if_neg (fun h => h1 (by simpa using h)), decide_eq_decide]; omega
theorem impl_isDecl_ev (x : S48) (hx : x.f0.size ≤ 1048576 ∧ x.f1.size ≤ 1048576) : Ev (fun k => impl_isDecl.f k x.f0 x.f1 x.f2) (goodD x) := by
  obtain ⟨h0, h1⟩ := hx
  unfold goodD
  simp only [impl_isDecl.f]
  refine ev_bind (impl_isWord_ev _ (by omega)) ?_
  by_cases c0 : isWordL (B x.f0) = true
  · refine ev_if_pos c0 ?_
    rw [c0, Bool.true_and]
    refine ev_bind0 (show impl_lower.f x.f0 = some (lowB x.f0) by unfold impl_lower.f; rw [if_pos (by omega)]) ?_
    by_cases c1 : B (lowB x.f0) = B x.f0
    · refine ev_if_pos (by rw [toList_B, toList_B]; exact c1) ?_
      rw [decide_eq_true c1, Bool.true_and]
      refine ev_bind0 (impl_within_eq _ _ _) ?_
      by_cases c2 : (1 : Int) ≤ (x.f1.size : Int) ∧ (x.f1.size : Int) ≤ 60
      · refine ev_if_pos (decide_eq_true c2) ?_
        rw [decide_eq_true c2, Bool.true_and]
        refine ev_bind0 (impl_trimmed_eq _ (by omega)) ?_
        by_cases c3 : B (trimP x.f1) = B x.f1
        · refine ev_if_pos (by rw [toList_B, toList_B]; exact c3) ?_
          rw [decide_eq_true c3, Bool.true_and]
          refine ev_bind0 (show strings_ContainsAny.f x.f1 (⟨#[59, 123, 125, 47, 33]⟩ : ByteArray) = some ((B x.f1).any mark5.contains) by
            unfold strings_ContainsAny.f
            rw [if_pos ⟨by omega, rfl⟩]
            exact congrArg some (any_contains mark5 (B x.f1))) (Ev.now _)
        · rw [decide_eq_false c3, Bool.false_and]
          exact ev_if_neg (by rw [toList_B, toList_B]; exact c3) (Ev.now _)
      · rw [decide_eq_false c2, Bool.false_and]
        exact ev_if_neg (by decide) (Ev.now _)
    · rw [decide_eq_false c1, Bool.false_and]
      exact ev_if_neg (by rw [toList_B, toList_B]; exact c1) (Ev.now _)
  · rw [Bool.eq_false_iff.2 c0, Bool.false_and]
    exact ev_if_neg (by decide) (Ev.now _)
theorem spec_declChars (a : ByteArray) (b : Bool) (v : ByteArray) (hv : v.size ≤ 1048576) : Ev (fun k => spec_l5GoodDecl.l0 k 0 a v b) (!(B v).any mark5.contains) := by
  have hB := B_len v
  have key := ev_from (B v).length (fun i k => spec_l5GoodDecl.l0 k (i : Int) a v b) (fun i => !((B v).drop i).any mark5.contains) ?_ ?_ 0 (by omega)
  · simpa using key
  · refine ev_done fun k => ?_
    rw [spec_l5GoodDecl.l0, if_neg (by omega)]
    simp
  · intro i hi h
    have hd := drop_cons (B v) 0 i hi
    refine Ev.step (fun k => by rw [spec_l5GoodDecl.l0, if_pos (by omega), if_pos (by omega), bt_U v i hi, wrap_up hi (by omega)]) ?_
    rw [hd, List.any_cons]
    generalize (B v).getD i 0 = c
    have e : ∀ n : Nat, n < 256 → (((c.toNat : Int) = (n : Int)) ↔ c = UInt8.ofNat n) := fun n hn => u8_nat hn
    by_cases h1 : c = 59
    · subst h1; exact ev_if_pos rfl (Ev.now _)
    refine ev_if_neg (fun hh => h1 ((e 59 (by omega)).1 hh)) ?_
    by_cases h2 : c = 123
    · subst h2; exact ev_if_pos rfl (Ev.now _)
    refine ev_if_neg (fun hh => h2 ((e 123 (by omega)).1 hh)) ?_
    by_cases h3 : c = 125
    · subst h3; exact ev_if_pos rfl (Ev.now _)
    refine ev_if_neg (fun hh => h3 ((e 125 (by omega)).1 hh)) ?_
    by_cases h4 : c = 47
    · subst h4; exact ev_if_pos rfl (Ev.now _)
    refine ev_if_neg (fun hh => h4 ((e 47 (by omega)).1 hh)) ?_
    by_cases h5 : c = 33
    · subst h5; exact ev_if_pos rfl (Ev.now _)
    refine ev_if_neg (fun hh => h5 ((e 33 (by omega)).1 hh)) ?_
    have hc : mark5.contains c = false := by unfold mark5; simp [h1, h2, h3, h4, h5]
    rw [hc, Bool.false_or]
    exact h
theorem spec_l5GoodDecl_ev (x : S48) (hx : x.f0.size ≤ 1048576 ∧ x.f1.size ≤ 1048576) : Ev (fun k => spec_l5GoodDecl.f k x.f0 x.f1 x.f2) (goodD x) := by
  obtain ⟨h0, h1⟩ := hx
  unfold goodD
  simp only [spec_l5GoodDecl.f]
  have no : ∀ t, Ev (fun k => spec_l5GoodDecl.j0 k true x.f0 x.f1 x.f2) (false && t) := fun t => Ev.step (fun k => spec_l5GoodDecl.j0.eq_2 ..) (ev_if_pos rfl (Ev.now _))
  refine ev_bind (spec_l5Word_ev _ (by omega)) ?_
  by_cases c0 : isWordL (B x.f0) = true
  · refine ev_if_pos c0 ?_
    rw [c0, Bool.true_and]
    refine ev_bind0 (show spec_l5Low.f x.f0 = some (lowB x.f0) by unfold spec_l5Low.f; rw [if_pos (by omega)]) ?_
    by_cases c1 : B (lowB x.f0) = B x.f0
    · refine ev_if_pos (by rw [toList_B, toList_B]; exact c1) ?_
      rw [decide_eq_true c1, Bool.true_and]
      refine ev_bind0 (spec_l1In_eq _ _ _) ?_
      by_cases c2 : (1 : Int) ≤ (x.f1.size : Int) ∧ (x.f1.size : Int) ≤ 60
      · refine ev_if_pos (decide_eq_true c2) ?_
        rw [decide_eq_true c2, Bool.true_and]
        refine ev_bind (spec_l5Trim_ev _ (by omega)) ?_
        rw [toList_B, toList_B]
        by_cases c3 : B (trimP x.f1) = B x.f1
        · rw [decide_eq_true c3, Bool.true_and, c3]
          refine Ev.step (fun k => spec_l5GoodDecl.j0.eq_2 ..) (ev_if_neg (by simp) ?_)
          exact spec_declChars x.f0 x.f2 x.f1 h1
        · rw [decide_eq_false c3, bne_iff_ne.2 c3]
          exact no _
      · rw [decide_eq_false c2]
        exact ev_if_neg (by decide) (no _)
    · rw [decide_eq_false c1]
      exact ev_if_neg (by rw [toList_B, toList_B]; exact c1) (no _)
  · rw [Bool.eq_false_iff.2 c0]
    exact ev_if_neg (by decide) (no _)

/-! seltext -/
-- plain: Evs Word Trim
theorem st_size (a b : ByteArray) : (a ++ b).size = a.size + b.size := by rw [← B_len, ← B_len, ← B_len, B_append, List.length_append]
def dotB : ByteArray := ⟨#[46]⟩
def sharpB : ByteArray := ⟨#[35]⟩
def spaceB : ByteArray := ⟨#[32]⟩
def dotted (o c : ByteArray) : ByteArray := o ++ (dotB ++ c)
theorem size_dot (c : ByteArray) : (dotB ++ c).size = 1 + c.size := by rw [st_size]; rfl
theorem size_sharp (c : ByteArray) : (sharpB ++ c).size = 1 + c.size := by rw [st_size]; rfl
def partHead (x : S63) : ByteArray := if B x.f1 = [] then x.f0 else x.f0 ++ (sharpB ++ x.f1)
def partText (x : S63) : ByteArray := x.f2.foldl dotted (partHead x)
theorem foldl_size : ∀ (c : List ByteArray) (o : ByteArray), (∀ y ∈ c, y.size ≤ 1048576) → (c.foldl dotted o).size ≤ o.size + c.length * 1048577
  | [], o, _ => by simp
  | y :: c, o, h => by
    rw [List.foldl_cons, List.length_cons]
    have h1 := foldl_size c (dotted o y) (fun z hz => h z (List.mem_cons_of_mem _ hz))
    have h2 := h y List.mem_cons_self
    have h3 : (dotted o y).size = o.size + (1 + y.size) := by unfold dotted; rw [st_size, size_dot]
    omega
theorem partHead_size (x : S63) (hx : sizesPart x) : (partHead x).size ≤ 2097153 := by
  obtain ⟨h0, h1, _⟩ := hx
  unfold partHead
  split
  · omega
  · rw [st_size, size_sharp]; omega
theorem partText_size (x : S63) (hx : sizesPart x) : (partText x).size ≤ 1100000000000 := by
  have h1 := partHead_size x hx
  have h2 := foldl_size x.f2 (partHead x) hx.2.2.2
  have h3 := hx.2.2.1
  unfold partText
  omega
theorem spec_part_l0 (c : List ByteArray) (hc : c.length ≤ 1048576) (hg : ∀ y ∈ c, y.size ≤ 1048576) : ∀ (d i : Nat) (o : ByteArray), i + d = c.length → o.size ≤ 2097153 + i * 1048577 → Ev (fun k => spec_l5PartText.l0 k o c (c.length : Int) (i : Int)) ((c.drop i).foldl dotted o) := by
  intro d
  induction d with
  | zero =>
    intro i o hi ho
    rw [List.drop_eq_nil_of_le (by omega)]
    exact Ev.step (fun k => spec_l5PartText.l0.eq_2 ..) (ev_if_neg (by omega) (Ev.now _))
  | succ d ih =>
    intro i o hi ho
    have hmem : c.getD i ByteArray.empty ∈ c := by rw [List.getD_eq_getElem?_getD, List.getElem?_eq_getElem (by omega)]; exact List.getElem_mem (by omega)
    have hz := hg _ hmem
    have hd := size_dot (c.getD i ByteArray.empty)
    rw [drop_cons c ByteArray.empty i (by omega), List.foldl_cons]
    refine Ev.step (fun k => spec_l5PartText.l0.eq_2 ..) (ev_if_pos (by omega) (ev_if_pos (by omega) (ev_if_pos (by omega) ?_)))
    rw [rdOf_nat, wrap_id (x := (i : Int) + 1) (by omega) (by omega), cast_succ]
    refine ev_if_pos (by omega) (ev_if_pos (show o.size + (dotB ++ c.getD i ByteArray.empty).size ≤ _ by omega) ?_)
    exact ih (i + 1) (dotted o (c.getD i ByteArray.empty)) (by omega) (by unfold dotted; rw [st_size]; omega)
theorem spec_part_ev (x : S63) (hx : sizesPart x) : Ev (fun k => spec_l5PartText.f k x.f0 x.f1 x.f2) (partText x) := by
  have hh := partHead_size x hx
  have key := spec_part_l0 x.f2 hx.2.2.1 hx.2.2.2 x.f2.length 0 (partHead x) (by omega) (by omega)
  rw [List.drop_zero] at key
  obtain ⟨h0, h1, _⟩ := hx
  simp only [spec_l5PartText.f]
  by_cases hb : B x.f1 = []
  · have e : partHead x = x.f0 := by unfold partHead; rw [if_pos hb]
    unfold partText
    rw [e] at key ⊢
    exact ev_if_pos (by rw [toList_B]; exact hb) (Ev.step (fun k => spec_l5PartText.j0.eq_2 ..) key)
  · have e : partHead x = x.f0 ++ (sharpB ++ x.f1) := by unfold partHead; rw [if_neg hb]
    unfold partText
    rw [e] at key ⊢
    have hs := size_sharp x.f1
    exact ev_if_neg (by rw [toList_B]; exact hb) (ev_if_pos (by omega) (ev_if_pos (show x.f0.size + (sharpB ++ x.f1).size ≤ _ by omega) (Ev.step (fun k => spec_l5PartText.j0.eq_2 ..) key)))
theorem impl_part_l1 (x4 : List ByteArray) (hx4 : x4.length ≤ 10) (l : List S63) (n j : Int) (t0 t1 : ByteArray) (c : List ByteArray) (hc : c.length ≤ 1048576) (hg : ∀ y ∈ c, y.size ≤ 1048576) (r : ByteArray × Bool) : ∀ (d i : Nat) (o : ByteArray), i + d = c.length → o.size ≤ 2097153 + i * 1048577 →
    Ev (fun k => impl_SelectorText.l0 k (x4 ++ [(c.drop i).foldl dotted o]) l n (wrap64 (j + 1))) r → Ev (fun k => impl_SelectorText.l1 k x4 o l n j c (c.length : Int) (i : Int)) r := by
  intro d
  induction d with
  | zero =>
    intro i o hi ho h
    rw [List.drop_eq_nil_of_le (by omega)] at h
    exact Ev.step (fun k => impl_SelectorText.l1.eq_2 ..) (ev_if_neg (by omega) (ev_if_pos (by omega) h))
  | succ d ih =>
    intro i o hi ho h
    have hmem : c.getD i ByteArray.empty ∈ c := by rw [List.getD_eq_getElem?_getD, List.getElem?_eq_getElem (by omega)]; exact List.getElem_mem (by omega)
    have hz := hg _ hmem
    have hd := size_dot (c.getD i ByteArray.empty)
    rw [drop_cons c ByteArray.empty i (by omega), List.foldl_cons] at h
    refine Ev.step (fun k => impl_SelectorText.l1.eq_2 ..) (ev_if_pos (by omega) (ev_if_pos (by omega) (ev_if_pos (by omega) ?_)))
    rw [rdOf_nat, wrap_id (x := (i : Int) + 1) (by omega) (by omega), cast_succ]
    refine ev_if_pos (by omega) (ev_if_pos (show o.size + (dotB ++ c.getD i ByteArray.empty).size ≤ _ by omega) ?_)
    exact ih (i + 1) (dotted o (c.getD i ByteArray.empty)) (by omega) (by unfold dotted; rw [st_size]; omega) h
theorem selOk_len (l : List S63) (h : selOk l = true) : 1 ≤ l.length ∧ l.length ≤ 5 := by
  unfold selOk at h
  rw [Bool.and_eq_true] at h
  exact of_decide_eq_true h.1
def partAt (l : List S63) (i : Nat) : S63 := l.getD i z63
theorem rd_part (l : List S63) (i : Nat) : rd_T63 l (i : Int) = partAt l i := by simp [rd_T63, partAt]
theorem part_mem (l : List S63) (i : Nat) (hi : i < l.length) : partAt l i ∈ l := by unfold partAt; rw [List.getD_eq_getElem?_getD, List.getElem?_eq_getElem hi]; exact List.getElem_mem hi
def tailL (l : List S63) : List UInt8 := (l.map fun x => (32 : UInt8) :: B (partText x)).flatten
theorem tail_cons (x : S63) (l : List S63) : tailL (x :: l) = (32 : UInt8) :: B (partText x) ++ tailL l := by simp [tailL]
theorem spec_text_l0 (l : List S63) (hl : l.length ≤ 5) (hsz : ∀ x ∈ l, sizesPart x) : ∀ (d i : Nat) (o : ByteArray), i + d = l.length → 0 < i → o.size ≤ i * 1100000000001 → Ev (fun k => spec_l5Text.l0 k o l (l.length : Int) (i : Int)) (ofL (B o ++ tailL (l.drop i))) := by
  intro d
  induction d with
  | zero =>
    intro i o hi h0 ho
    rw [List.drop_eq_nil_of_le (by omega)]
    have e : ofL (B o ++ tailL []) = o := B_ext (by rw [B_ofL]; simp [tailL])
    rw [e]
    exact Ev.step (fun k => spec_l5Text.l0.eq_2 ..) (ev_if_neg (by omega) (Ev.now _))
  | succ d ih =>
    intro i o hi h0 ho
    have hx := hsz _ (part_mem l i (by omega))
    have ht := partText_size _ hx
    have hs : (o ++ spaceB).size = o.size + 1 := by rw [st_size]; rfl
    refine Ev.step (fun k => spec_l5Text.l0.eq_2 ..) (ev_if_pos (by omega) (ev_if_pos (by omega) (ev_if_pos (by omega) (ev_if_pos (by omega) (ev_if_pos (by omega) ?_)))))
    rw [rd_part, wrap_id (x := (i : Int) + 1) (by omega) (by omega), cast_succ]
    refine ev_bind (spec_part_ev _ hx) (ev_if_pos (show (o ++ spaceB).size + _ ≤ _ by omega) ?_)
    have e : B o ++ tailL (l.drop i) = B ((o ++ spaceB) ++ partText (partAt l i)) ++ tailL (l.drop (i + 1)) := by
      rw [show l.drop i = partAt l i :: l.drop (i + 1) from drop_cons l z63 i (by omega), tail_cons, B_append, B_append]
      show _ = B o ++ [(32 : UInt8)] ++ _ ++ _
      simp
    rw [e]
    exact ih (i + 1) ((o ++ spaceB) ++ partText (partAt l i)) (by omega) (by omega) (by rw [st_size]; omega)
theorem join_tail (l : List S63) : Go.Lib.joinTail [32] ((l.map partText).map (·.data.toList)) = tailL l := by
  unfold Go.Lib.joinTail tailL
  rw [List.map_map, List.map_map]
  rfl
theorem tail_len (l : List S63) (hsz : ∀ x ∈ l, sizesPart x) : (tailL l).length ≤ l.length * 1100000000001 := by
  induction l with
  | nil => simp [tailL]
  | cons x l ih =>
    have h1 := ih (fun y hy => hsz y (List.mem_cons_of_mem _ hy))
    have h2 := partText_size x (hsz x List.mem_cons_self)
    have h3 := B_len (partText x)
    rw [tail_cons, List.length_append, List.length_cons, List.length_cons]
    omega

/-! selevs -/
-- plain: Evs Word Trim
def selL (l : List S63) : List UInt8 := match l with | [] => [] | x :: m => B (partText x) ++ tailL m
theorem spec_l5Text_ev (x : S63) (m : List S63) (hlen : m.length + 1 ≤ 5) (hsz : ∀ y ∈ x :: m, sizesPart y) : Ev (fun k => spec_l5Text.f k (x :: m)) (ofL (selL (x :: m))) := by
  have hx := hsz x List.mem_cons_self
  have hm : ∀ y ∈ m, sizesPart y := fun y hy => hsz y (List.mem_cons_of_mem _ hy)
  have ht := partText_size x hx
  show Ev (fun k => spec_l5Text.f k (x :: m)) (ofL (B (partText x) ++ tailL m))
  refine Ev.congr (f := fun k => spec_l5Text.l0 k (⟨#[]⟩ : ByteArray) (x :: m) (((x :: m).length : Nat) : Int) ((0 : Nat) : Int)) (fun k => rfl) ?_
  refine Ev.step (fun k => spec_l5Text.l0.eq_2 ..) (ev_if_pos (by rw [List.length_cons]; omega) (ev_if_pos (by omega) (ev_if_pos (by rw [List.length_cons]; omega) (ev_if_neg (by omega) ?_))))
  rw [rd_part, show wrap64 (((0 : Nat) : Int) + 1) = ((1 : Nat) : Int) from wrap_id (by omega) (by omega)]
  have e0 : (⟨#[]⟩ : ByteArray) ++ partText x = partText x := B_ext (by rw [B_append]; rfl)
  refine ev_bind (spec_part_ev x hx) (ev_if_pos (show (⟨#[]⟩ : ByteArray).size + (partText x).size ≤ _ by show 0 + _ ≤ _; omega) ?_)
  rw [e0]
  exact spec_text_l0 (x :: m) (by rw [List.length_cons]; omega) hsz m.length 1 (partText x) (by rw [List.length_cons]; omega) (by omega) (by omega)
theorem impl_SelectorText_ok (x : S63) (m : List S63) (hlen : m.length + 1 ≤ 5) (hsz : ∀ y ∈ x :: m, sizesPart y) (hn : (x :: m).length ≤ 1048576) (h : selOk (x :: m) = true) : Ev (fun k => impl_SelectorText.f k (x :: m)) (ofL (selL (x :: m)), true) := by
  have hx := hsz x List.mem_cons_self
  have hm : ∀ y ∈ m, sizesPart y := fun y hy => hsz y (List.mem_cons_of_mem _ hy)
  have ht := partText_size x hx
  have htl := tail_len m hm
  have hbl := B_len (partText x)
  show Ev (fun k => impl_SelectorText.f k (x :: m)) (ofL (B (partText x) ++ tailL m), true)
  simp only [impl_SelectorText.f]
  refine ev_bind (h ▸ impl_isSelector_ev (x :: m) hn hsz) (ev_if_pos rfl ?_)
  have loop : ∀ (d i : Nat), i + d = (x :: m).length → Ev (fun k => impl_SelectorText.l0 k (((x :: m).take i).map partText) (x :: m) (((x :: m).length : Nat) : Int) (i : Int)) (ofL (B (partText x) ++ tailL m), true) := by
    intro d
    induction d with
    | zero =>
      intro i hi
      refine Ev.step (fun k => impl_SelectorText.l0.eq_2 ..) (ev_if_neg (by omega) ?_)
      rw [List.take_of_length_le (by omega)]
      have hj : Go.Lib.join (((x :: m).map partText).map (·.data.toList)) [32] = B (partText x) ++ tailL m := by
        rw [List.map_cons, List.map_cons, Go.Lib.join_cons, join_tail]; rfl
      refine ev_bind0 (a := ofL (B (partText x) ++ tailL m)) ?_ (Ev.now _)
      unfold strings_Join.f
      have hj' : Go.Lib.join (((x :: m).map partText).map (·.data.toList)) (⟨#[32]⟩ : ByteArray).data.toList = B (partText x) ++ tailL m := hj
      rw [if_pos ⟨by simp; omega, by rw [hj', List.length_append]; omega⟩]
      unfold joinB
      rw [hj']; rfl
    | succ d ih =>
      intro i hi
      have hxi := hsz _ (part_mem (x :: m) i (by omega))
      have hh := partHead_size _ hxi
      have nxt := ih (i + 1) (by omega)
      have e : ((x :: m).take (i + 1)).map partText = ((x :: m).take i).map partText ++ [partText (partAt (x :: m) i)] := by
        rw [List.take_add_one, List.map_append, List.getElem?_eq_getElem (by omega)]
        unfold partAt
        rw [List.getD_eq_getElem?_getD, List.getElem?_eq_getElem (by omega)]; rfl
      rw [e] at nxt
      refine Ev.step (fun k => impl_SelectorText.l0.eq_2 ..) (ev_if_pos (by omega) (ev_if_pos (by omega) (ev_if_pos (by omega) ?_)))
      rw [rd_part]
      have hx4 : (((x :: m).take i).map partText).length ≤ 10 := by simp; omega
      have part := impl_part_l1 (((x :: m).take i).map partText) hx4 (x :: m) (((x :: m).length : Nat) : Int) (i : Int) (partAt (x :: m) i).f0 (partAt (x :: m) i).f1 (partAt (x :: m) i).f2 hxi.2.2.1 hxi.2.2.2 (ofL (B (partText x) ++ tailL m), true) (partAt (x :: m) i).f2.length 0 (partHead (partAt (x :: m) i)) (by omega) (by omega) (by rw [wrap_id (x := (i : Int) + 1) (by omega) (by omega), cast_succ]; exact nxt)
      obtain ⟨z0, z1, _⟩ := hxi
      by_cases hb : B (partAt (x :: m) i).f1 = []
      · have e : partHead (partAt (x :: m) i) = (partAt (x :: m) i).f0 := by unfold partHead; rw [if_pos hb]
        rw [e] at part
        exact ev_if_pos (by rw [toList_B]; exact hb) (Ev.step (fun k => impl_SelectorText.j1.eq_2 ..) part)
      · have e : partHead (partAt (x :: m) i) = (partAt (x :: m) i).f0 ++ (sharpB ++ (partAt (x :: m) i).f1) := by unfold partHead; rw [if_neg hb]
        rw [e] at part
        have hs := size_sharp (partAt (x :: m) i).f1
        exact ev_if_neg (by rw [toList_B]; exact hb) (ev_if_pos (by omega) (ev_if_pos (show (partAt (x :: m) i).f0.size + (sharpB ++ (partAt (x :: m) i).f1).size ≤ _ by omega) (Ev.step (fun k => impl_SelectorText.j1.eq_2 ..) part)))
  exact loop (x :: m).length 0 (by omega)
theorem impl_SelectorText_no (l : List S63) (hsz : ∀ y ∈ l, sizesPart y) (hn : l.length ≤ 1048576) (h : selOk l = false) : Ev (fun k => impl_SelectorText.f k l) ((⟨#[]⟩ : ByteArray), false) := by
  simp only [impl_SelectorText.f]
  exact ev_bind (h ▸ impl_isSelector_ev l hn hsz) (ev_if_neg (by decide) (Ev.now _))

/-! sheettext -/
-- plain: Evs Word Trim
def failB : ByteArray × Bool := ((⟨#[]⟩ : ByteArray), false)
def declL (x : S48) : List UInt8 := B x.f0 ++ 58 :: (B x.f1 ++ ((if x.f2 = true then [32, 33, 105, 109, 112, 111, 114, 116, 97, 110, 116] else []) ++ [59]))
def declsL (l : List S48) : List UInt8 := (l.map declL).flatten
theorem declsL_cons (x : S48) (l : List S48) : declsL (x :: l) = declL x ++ declsL l := by simp [declsL]
def commaL (S : List (List S63)) : List UInt8 := (S.map fun l => (44 : UInt8) :: selL l).flatten
theorem commaL_cons (x : List S63) (l : List (List S63)) : commaL (x :: l) = (44 : UInt8) :: selL x ++ commaL l := by simp [commaL]
def headsL (S : List (List S63)) : List UInt8 := match S with | [] => [] | x :: m => selL x ++ commaL m
def ruleL (x : S43) : List UInt8 := headsL x.f0 ++ 123 :: (declsL x.f1 ++ [125])
def rulesL (l : List S43) : List UInt8 := (l.map ruleL).flatten
theorem rulesL_cons (x : S43) (l : List S43) : rulesL (x :: l) = ruleL x ++ rulesL l := by simp [rulesL]
def ruleOk (x : S43) : Bool := decide (x.f0 ≠ []) && (decide (x.f1.length ≤ 12) && (x.f0.all selOk && x.f1.all goodD))
def fin (o : List UInt8) (l : List S43) : ByteArray × Bool := if l.all ruleOk = true ∧ o.length + (rulesL l).length ≤ 1500 then (ofL (o ++ rulesL l), true) else failB
theorem fin_ok (o : List UInt8) (x : S43) (l : List S43) (h : ruleOk x = true) : fin o (x :: l) = fin (o ++ ruleL x) l := by
  unfold fin
  rw [List.all_cons, h, Bool.true_and, rulesL_cons, List.length_append, List.length_append, List.append_assoc, Nat.add_assoc]
theorem fin_no (o : List UInt8) (x : S43) (l : List S43) (h : ¬ ruleOk x = true) : fin o (x :: l) = failB := by
  unfold fin
  rw [List.all_cons, Bool.eq_false_iff.2 h, Bool.false_and, if_neg (fun hh => by have := hh.1; simp at this)]
theorem fin_big (o : List UInt8) (x : S43) (l : List S43) (h : 1500 < o.length + (headsL x.f0).length) : fin o (x :: l) = failB := by
  unfold fin
  rw [rulesL_cons, List.length_append]
  unfold ruleL
  rw [List.length_append, if_neg (fun hh => by have := hh.2; omega)]
theorem word_len (l : List UInt8) (h : isWordL l = true) : l.length ≤ 30 := by
  unfold isWordL at h
  rw [Bool.and_eq_true, Bool.and_eq_true] at h
  exact (of_decide_eq_true h.1.1).2
theorem goodD_len (x : S48) (h : goodD x = true) : (declL x).length ≤ 104 := by
  unfold goodD at h
  rw [Bool.and_eq_true, Bool.and_eq_true, Bool.and_eq_true] at h
  have h1 := word_len _ h.1
  have h2 := of_decide_eq_true h.2.2.1
  have h3 := B_len x.f1
  unfold declL
  rw [List.length_append, List.length_cons, List.length_append, List.length_append]
  have h4 : (if x.f2 = true then ([32, 33, 105, 109, 112, 111, 114, 116, 97, 110, 116] : List UInt8) else []).length ≤ 11 := by split <;> simp
  simp only [List.length_cons, List.length_nil]
  omega
theorem declsL_len (l : List S48) (h : l.all goodD = true) : (declsL l).length ≤ l.length * 104 := by
  induction l with
  | nil => simp [declsL]
  | cons x l ih =>
    rw [List.all_cons, Bool.and_eq_true] at h
    have h1 := goodD_len x h.1
    have h2 := ih h.2
    rw [declsL_cons, List.length_append, List.length_cons]; omega
theorem dots_len : ∀ (c : List ByteArray) (o : ByteArray), (∀ y ∈ c, y.size ≤ 30) → (c.foldl dotted o).size ≤ o.size + c.length * 31
  | [], o, _ => by simp
  | y :: c, o, h => by
    rw [List.foldl_cons, List.length_cons]
    have h1 := dots_len c (dotted o y) (fun z hz => h z (List.mem_cons_of_mem _ hz))
    have h2 := h y List.mem_cons_self
    have h3 : (dotted o y).size = o.size + (1 + y.size) := by unfold dotted; rw [st_size, size_dot]
    omega
theorem part_len (x : S63) (h : partOk x = true) : (partText x).size ≤ 190 := by
  unfold partOk at h
  rw [Bool.and_eq_true, Bool.and_eq_true, Bool.and_eq_true, Bool.and_eq_true] at h
  obtain ⟨⟨⟨⟨h0, h1⟩, h2⟩, h3⟩, _⟩ := h
  have h2 := of_decide_eq_true h2
  have z0 : x.f0.size ≤ 30 := by
    rw [← B_len]
    unfold typeOkL at h0
    rw [Bool.or_eq_true, Bool.or_eq_true] at h0
    rcases h0 with (h0 | h0) | h0
    · rw [of_decide_eq_true h0]; simp
    · rw [of_decide_eq_true h0]; simp
    · exact word_len _ h0
  have z1 : x.f1.size ≤ 30 := by
    rw [← B_len]
    unfold idOkL at h1
    rw [Bool.or_eq_true] at h1
    rcases h1 with h1 | h1
    · rw [of_decide_eq_true h1]; simp
    · exact word_len _ h1
  have hh : (partHead x).size ≤ 61 := by
    unfold partHead
    split
    · omega
    · rw [st_size, size_sharp]; omega
  have hd := dots_len x.f2 (partHead x) (fun y hy => by
    rw [← B_len]; exact word_len _ (List.all_eq_true.1 h3 y hy))
  unfold partText
  omega
theorem sel_len (l : List S63) (h : selOk l = true) : (selL l).length ≤ 960 := by
  have hlen := selOk_len l h
  unfold selOk at h
  rw [Bool.and_eq_true] at h
  have hp := List.all_eq_true.1 h.2
  cases l with
  | nil => simp at hlen
  | cons x m =>
    have tl : ∀ m : List S63, (∀ y ∈ m, partOk y = true) → (tailL m).length ≤ m.length * 191 := by
      intro m
      induction m with
      | nil => intro _; simp [tailL]
      | cons y m ih =>
        intro hm
        have h1 := ih (fun z hz => hm z (List.mem_cons_of_mem _ hz))
        have h2 := part_len y (hm y List.mem_cons_self)
        have h3 := B_len (partText y)
        rw [tail_cons, List.length_append, List.length_cons, List.length_cons]; omega
    have t1 := tl m (fun y hy => hp y (List.mem_cons_of_mem _ hy))
    have t2 := part_len x (hp x List.mem_cons_self)
    have t3 := B_len (partText x)
    show (B (partText x) ++ tailL m).length ≤ 960
    rw [List.length_append]
    rw [List.length_cons] at hlen
    omega
theorem comma_len (S : List (List S63)) (h : S.all selOk = true) : (commaL S).length ≤ S.length * 961 := by
  induction S with
  | nil => simp [commaL]
  | cons x l ih =>
    rw [List.all_cons, Bool.and_eq_true] at h
    have h1 := sel_len x h.1
    have h2 := ih h.2
    rw [commaL_cons, List.length_append, List.length_cons, List.length_cons]; omega
theorem heads_len (S : List (List S63)) (h : S.all selOk = true) : (headsL S).length ≤ S.length * 961 := by
  cases S with
  | nil => simp [headsL]
  | cons x l =>
    rw [List.all_cons, Bool.and_eq_true] at h
    have h1 := sel_len x h.1
    have h2 := comma_len l h.2
    show (selL x ++ commaL l).length ≤ _
    rw [List.length_append, List.length_cons]; omega
theorem sel_cases (l : List S63) (h : selOk l = true) : ∃ x m, l = x :: m ∧ m.length + 1 ≤ 5 := by
  have hlen := selOk_len l h
  cases l with
  | nil => simp at hlen
  | cons x m => exact ⟨x, m, rfl, by rw [List.length_cons] at hlen; omega⟩
theorem spec_sel_text (l : List S63) (h : selOk l = true) (hs : ∀ y ∈ l, sizesPart y) : Ev (fun k => spec_l5Text.f k l) (ofL (selL l)) := by
  obtain ⟨x, m, rfl, hm⟩ := sel_cases l h
  exact spec_l5Text_ev x m hm hs
theorem impl_sel_text (l : List S63) (hl : l.length ≤ 1048576) (h : selOk l = true) (hs : ∀ y ∈ l, sizesPart y) : Ev (fun k => impl_SelectorText.f k l) (ofL (selL l), true) := by
  obtain ⟨x, m, rfl, hm⟩ := sel_cases l h
  exact impl_SelectorText_ok x m hm hs hl h
theorem sz_ofL (l : List UInt8) : (ofL l).size = l.length := by rw [← B_len, B_ofL]
theorem le_eq {a b c : Nat} (h : a = b) (h2 : b ≤ c) : a ≤ c := h ▸ h2
theorem spec_SheetText_decls (L : List S43) (n j : Int) (D : List S48) (hD : D.length ≤ 1048576) (hd : ∀ d ∈ D, d.f0.size ≤ 1048576 ∧ d.f1.size ≤ 1048576) (r : ByteArray × Bool) : ∀ (m i : Nat) (o : ByteArray), i + m = D.length → o.size ≤ 1000000000000000 + i * 2097200 →
    ((D.drop i).all goodD = true → Ev (fun k => spec_SheetText.l0 k (ofL (B o ++ (declsL (D.drop i) ++ [125]))) L n (wrap64 (j + 1))) r) → (¬ (D.drop i).all goodD = true → r = failB) → Ev (fun k => spec_SheetText.l2 k o L n j D (D.length : Int) (i : Int)) r := by
  intro m
  induction m with
  | zero =>
    intro i o hi ho h1 h2
    have hdn : D.drop i = [] := List.drop_eq_nil_of_le (by omega)
    rw [hdn] at h1
    have h := h1 rfl
    refine Ev.step (fun k => by rw [spec_SheetText.l2]) ?_
    refine ev_if_neg (by omega) (ev_if_pos (by omega) ?_)
    rw [show o ++ (⟨#[125]⟩ : ByteArray) = ofL (B o ++ (declsL [] ++ [125])) from B_ext (by rw [B_append, B_ofL]; rfl)]
    exact h
  | succ m ih =>
    intro i o hi ho h1 h2
    have hil : i < D.length := by omega
    have hrd : rd_T48 D (i : Int) = D.getD i z48 := by simp [rd_T48]
    have hm : D.getD i z48 ∈ D := by rw [List.getD_eq_getElem?_getD, List.getElem?_eq_getElem hil]; exact List.getElem_mem hil
    have hx := hd _ hm
    rw [drop_cons D z48 i hil] at h1 h2
    refine Ev.step (fun k => by rw [spec_SheetText.l2]) ?_
    rw [hrd]
    refine ev_if_pos (by omega) (ev_if_pos (by omega) (ev_if_pos (by omega) ?_))
    have IH := ih (i + 1)
    generalize D.getD i z48 = x at hx h1 h2 ⊢
    rw [List.all_cons] at h1 h2
    refine ev_bind (spec_l5GoodDecl_ev x hx) ?_
    by_cases hg : goodD x = true
    · rw [hg, Bool.true_and] at h1 h2
      obtain ⟨c58, hc58⟩ : ∃ c, c = (⟨#[58]⟩ : ByteArray) := ⟨_, rfl⟩
      obtain ⟨c59, hc59⟩ : ∃ c, c = (⟨#[59]⟩ : ByteArray) := ⟨_, rfl⟩
      obtain ⟨cim, hcim⟩ : ∃ c, c = (⟨#[32, 33, 105, 109, 112, 111, 114, 116, 97, 110, 116]⟩ : ByteArray) := ⟨_, rfl⟩
      have k58 : c58.size = 1 := by rw [hc58]; rfl
      have k59 : c59.size = 1 := by rw [hc59]; rfl
      have kim : cim.size = 11 := by rw [hcim]; rfl
      have e1 : B c58 = [58] := by rw [hc58]; rfl
      have e2 : B cim = [32, 33, 105, 109, 112, 111, 114, 116, 97, 110, 116] := by rw [hcim]; rfl
      have e3 : B c59 = [59] := by rw [hc59]; rfl
      rw [← hc58, ← hc59, ← hcim]
      clear hc58 hc59 hcim
      have b1 : x.f0.size + 1 ≤ 9223372036854775807 := by omega
      have b2 : x.f0.size + 1 + x.f1.size ≤ 9223372036854775807 := by omega
      have b3 : o.size + (x.f0.size + 1 + x.f1.size) ≤ 9223372036854775807 := by omega
      have b4 : o.size + (x.f0.size + 1 + x.f1.size) + 11 ≤ 9223372036854775807 := by omega
      have b5 : o.size + (x.f0.size + 1 + x.f1.size) + 11 + 1 ≤ 9223372036854775807 := by omega
      have b6 : o.size + (x.f0.size + 1 + x.f1.size) + 1 ≤ 9223372036854775807 := by omega
      have b7 : o.size + (x.f0.size + 1 + x.f1.size) + 11 + 1 ≤ 1000000000000000 + (i + 1) * 2097200 := by omega
      have b8 : o.size + (x.f0.size + 1 + x.f1.size) + 1 ≤ 1000000000000000 + (i + 1) * 2097200 := by omega
      have hi1 : i + 1 + m = D.length := by omega
      have w1 : wrap64 ((i : Int) + 1) = ((i + 1 : Nat) : Int) := wrap_up hil (by omega)
      have s1 : (x.f0 ++ c58).size = x.f0.size + 1 := by rw [st_size, k58]
      have s2 : ((x.f0 ++ c58) ++ x.f1).size = x.f0.size + 1 + x.f1.size := by rw [st_size, s1]
      have s3 : (o ++ ((x.f0 ++ c58) ++ x.f1)).size = o.size + (x.f0.size + 1 + x.f1.size) := by rw [st_size, s2]
      have s4 : ((o ++ ((x.f0 ++ c58) ++ x.f1)) ++ cim).size = o.size + (x.f0.size + 1 + x.f1.size) + 11 := by rw [st_size, s3, kim]
      refine ev_if_pos hg (ev_if_pos b1 (ev_if_pos (le_eq (congrArg (· + x.f1.size) s1) b2) (ev_if_pos (le_eq (congrArg (o.size + ·) s2) b3) ?_)))
      rw [w1]
      by_cases hf : x.f2 = true
      · have s5 : (((o ++ ((x.f0 ++ c58) ++ x.f1)) ++ cim) ++ c59).size = o.size + (x.f0.size + 1 + x.f1.size) + 11 + 1 := by rw [st_size, s4, k59]
        refine ev_if_pos hf (ev_if_pos (le_eq (congrArg (· + 11) s3) b4) (ev_if_pos (le_eq (congrArg (· + 1) s4) b5) ?_))
        refine IH _ hi1 (le_eq s5 b7) (fun hh => ?_) h2
        have h := h1 hh
        rw [declsL_cons, declL, if_pos hf] at h
        rw [B_append, B_append, B_append, B_append, B_append]
        rw [e1, e2, e3]
        simpa using h
      · have s5 : ((o ++ ((x.f0 ++ c58) ++ x.f1)) ++ c59).size = o.size + (x.f0.size + 1 + x.f1.size) + 1 := by rw [st_size, s3, k59]
        refine ev_if_neg hf (ev_if_pos (le_eq (congrArg (· + 1) s3) b6) ?_)
        refine IH _ hi1 (le_eq s5 b8) (fun hh => ?_) h2
        have h := h1 hh
        rw [declsL_cons, declL, if_neg hf] at h
        rw [B_append, B_append, B_append, B_append]
        rw [e1, e3]
        simpa using h
    · rw [h2 (by rw [Bool.eq_false_iff.2 hg]; simp)]
      exact ev_if_neg hg (Ev.now _)
theorem impl_SheetText_decls (L : List S43) (n j : Int) (D : List S48) (hD : D.length ≤ 1048576) (hd : ∀ d ∈ D, d.f0.size ≤ 1048576 ∧ d.f1.size ≤ 1048576) (r : ByteArray × Bool) : ∀ (m i : Nat) (o : ByteArray), i + m = D.length → o.size ≤ 1000000000000000 + i * 2097200 →
    ((D.drop i).all goodD = true → Ev (fun k => impl_SheetText.l0 k (ofL (B o ++ (declsL (D.drop i) ++ [125]))) L n (wrap64 (j + 1))) r) → (¬ (D.drop i).all goodD = true → r = failB) → Ev (fun k => impl_SheetText.l2 k o L n j D (D.length : Int) (i : Int)) r := by
  intro m
  induction m with
  | zero =>
    intro i o hi ho h1 h2
    have hdn : D.drop i = [] := List.drop_eq_nil_of_le (by omega)
    rw [hdn] at h1
    have h := h1 rfl
    refine Ev.step (fun k => by rw [impl_SheetText.l2]) ?_
    refine ev_if_neg (by omega) (ev_if_pos (by omega) ?_)
    rw [show o ++ (⟨#[125]⟩ : ByteArray) = ofL (B o ++ (declsL [] ++ [125])) from B_ext (by rw [B_append, B_ofL]; rfl)]
    exact h
  | succ m ih =>
    intro i o hi ho h1 h2
    have hil : i < D.length := by omega
    have hrd : rd_T48 D (i : Int) = D.getD i z48 := by simp [rd_T48]
    have hm : D.getD i z48 ∈ D := by rw [List.getD_eq_getElem?_getD, List.getElem?_eq_getElem hil]; exact List.getElem_mem hil
    have hx := hd _ hm
    rw [drop_cons D z48 i hil] at h1 h2
    refine Ev.step (fun k => by rw [impl_SheetText.l2]) ?_
    rw [hrd]
    refine ev_if_pos (by omega) (ev_if_pos (by omega) (ev_if_pos (by omega) ?_))
    have IH := ih (i + 1)
    generalize D.getD i z48 = x at hx h1 h2 ⊢
    rw [List.all_cons] at h1 h2
    refine ev_bind (impl_isDecl_ev x hx) ?_
    by_cases hg : goodD x = true
    · rw [hg, Bool.true_and] at h1 h2
      obtain ⟨c58, hc58⟩ : ∃ c, c = (⟨#[58]⟩ : ByteArray) := ⟨_, rfl⟩
      obtain ⟨c59, hc59⟩ : ∃ c, c = (⟨#[59]⟩ : ByteArray) := ⟨_, rfl⟩
      obtain ⟨cim, hcim⟩ : ∃ c, c = (⟨#[32, 33, 105, 109, 112, 111, 114, 116, 97, 110, 116]⟩ : ByteArray) := ⟨_, rfl⟩
      have k58 : c58.size = 1 := by rw [hc58]; rfl
      have k59 : c59.size = 1 := by rw [hc59]; rfl
      have kim : cim.size = 11 := by rw [hcim]; rfl
      have e1 : B c58 = [58] := by rw [hc58]; rfl
      have e2 : B cim = [32, 33, 105, 109, 112, 111, 114, 116, 97, 110, 116] := by rw [hcim]; rfl
      have e3 : B c59 = [59] := by rw [hc59]; rfl
      rw [← hc58, ← hc59, ← hcim]
      clear hc58 hc59 hcim
      have b1 : x.f0.size + 1 ≤ 9223372036854775807 := by omega
      have b2 : x.f0.size + 1 + x.f1.size ≤ 9223372036854775807 := by omega
      have b3 : o.size + (x.f0.size + 1 + x.f1.size) ≤ 9223372036854775807 := by omega
      have b4 : o.size + (x.f0.size + 1 + x.f1.size) + 11 ≤ 9223372036854775807 := by omega
      have b5 : o.size + (x.f0.size + 1 + x.f1.size) + 11 + 1 ≤ 9223372036854775807 := by omega
      have b6 : o.size + (x.f0.size + 1 + x.f1.size) + 1 ≤ 9223372036854775807 := by omega
      have b7 : o.size + (x.f0.size + 1 + x.f1.size) + 11 + 1 ≤ 1000000000000000 + (i + 1) * 2097200 := by omega
      have b8 : o.size + (x.f0.size + 1 + x.f1.size) + 1 ≤ 1000000000000000 + (i + 1) * 2097200 := by omega
      have hi1 : i + 1 + m = D.length := by omega
      have w1 : wrap64 ((i : Int) + 1) = ((i + 1 : Nat) : Int) := wrap_up hil (by omega)
      have s1 : (x.f0 ++ c58).size = x.f0.size + 1 := by rw [st_size, k58]
      have s2 : ((x.f0 ++ c58) ++ x.f1).size = x.f0.size + 1 + x.f1.size := by rw [st_size, s1]
      have s3 : (o ++ ((x.f0 ++ c58) ++ x.f1)).size = o.size + (x.f0.size + 1 + x.f1.size) := by rw [st_size, s2]
      have s4 : ((o ++ ((x.f0 ++ c58) ++ x.f1)) ++ cim).size = o.size + (x.f0.size + 1 + x.f1.size) + 11 := by rw [st_size, s3, kim]
      refine ev_if_pos hg (ev_if_pos b1 (ev_if_pos (le_eq (congrArg (· + x.f1.size) s1) b2) (ev_if_pos (le_eq (congrArg (o.size + ·) s2) b3) ?_)))
      rw [w1]
      by_cases hf : x.f2 = true
      · have s5 : (((o ++ ((x.f0 ++ c58) ++ x.f1)) ++ cim) ++ c59).size = o.size + (x.f0.size + 1 + x.f1.size) + 11 + 1 := by rw [st_size, s4, k59]
        refine ev_if_pos hf (ev_if_pos (le_eq (congrArg (· + 11) s3) b4) (ev_if_pos (le_eq (congrArg (· + 1) s4) b5) ?_))
        refine IH _ hi1 (le_eq s5 b7) (fun hh => ?_) h2
        have h := h1 hh
        rw [declsL_cons, declL, if_pos hf] at h
        rw [B_append, B_append, B_append, B_append, B_append]
        rw [e1, e2, e3]
        simpa using h
      · have s5 : ((o ++ ((x.f0 ++ c58) ++ x.f1)) ++ c59).size = o.size + (x.f0.size + 1 + x.f1.size) + 1 := by rw [st_size, s3, k59]
        refine ev_if_neg hf (ev_if_pos (le_eq (congrArg (· + 1) s3) b6) ?_)
        refine IH _ hi1 (le_eq s5 b8) (fun hh => ?_) h2
        have h := h1 hh
        rw [declsL_cons, declL, if_neg hf] at h
        rw [B_append, B_append, B_append, B_append]
        rw [e1, e3]
        simpa using h
    · rw [h2 (by rw [Bool.eq_false_iff.2 hg]; simp)]
      exact ev_if_neg hg (Ev.now _)
theorem spec_heads (L : List S43) (n j : Int) (S : List (List S63)) (D : List S48) (hS : S.length ≤ 1048576) (hs : ∀ y ∈ S, y.length ≤ 1048576 ∧ ∀ z ∈ y, sizesPart z) (r : ByteArray × Bool) : ∀ (m i : Nat) (o : ByteArray), i + m = S.length → 0 < i → o.size ≤ 1500 →
    (((S.drop i).all selOk = true ∧ o.size + (commaL (S.drop i)).length ≤ 1500) → Ev (fun k => spec_SheetText.l2 k (ofL (B o ++ (commaL (S.drop i) ++ [123]))) L n j D (D.length : Int) 0) r) → (¬ ((S.drop i).all selOk = true ∧ o.size + (commaL (S.drop i)).length ≤ 1500) → r = failB) → Ev (fun k => spec_SheetText.l1 k o L n j S (S.length : Int) (i : Int) S D) r := by
  intro m
  induction m with
  | zero =>
    intro i o hi h0 ho h1 h2
    have hdn : S.drop i = [] := List.drop_eq_nil_of_le (by omega)
    rw [hdn] at h1
    have h := h1 ⟨rfl, by simp [commaL]; omega⟩
    refine Ev.step (fun k => by rw [spec_SheetText.l1]) ?_
    refine ev_if_neg (by omega) (ev_if_pos (by omega) ?_)
    rw [show o ++ (⟨#[123]⟩ : ByteArray) = ofL (B o ++ (commaL [] ++ [123])) from B_ext (by rw [B_append, B_ofL]; rfl)]
    exact h
  | succ m ih =>
    intro i o hi h0 ho h1 h2
    have hil : i < S.length := by omega
    have hrd : rd_L10 S (i : Int) = S.getD i [] := by simp [rd_L10]
    have hm : S.getD i [] ∈ S := by rw [List.getD_eq_getElem?_getD, List.getElem?_eq_getElem hil]; exact List.getElem_mem hil
    have hx := hs _ hm
    rw [drop_cons S [] i hil] at h1 h2
    refine Ev.step (fun k => by rw [spec_SheetText.l1]) ?_
    rw [hrd]
    refine ev_if_pos (by omega) (ev_if_pos (by omega) (ev_if_pos (by omega) ?_))
    have IH := ih (i + 1)
    generalize S.getD i [] = x at hx h1 h2 ⊢
    rw [List.all_cons, commaL_cons, List.length_append, List.length_cons] at h1 h2
    refine ev_bind (spec_l5Good_ev x hx.1 hx.2) ?_
    by_cases hg : selOk x = true
    · rw [hg, Bool.true_and] at h1 h2
      have hl := sel_len x hg
      have s1 : (o ++ (⟨#[44]⟩ : ByteArray)).size = o.size + 1 := by rw [st_size]; rfl
      have s2 : ((o ++ (⟨#[44]⟩ : ByteArray)) ++ ofL (selL x)).size = o.size + 1 + (selL x).length := by rw [st_size, s1, sz_ofL]
      refine ev_if_pos hg (ev_if_pos (by omega) (ev_if_pos (by omega) (ev_bind (spec_sel_text x hg hx.2) (ev_if_pos (by rw [sz_ofL]; omega) ?_))))
      by_cases hb : (((o ++ (⟨#[44]⟩ : ByteArray)) ++ ofL (selL x)).size : Int) > 1500
      · rw [h2 (fun hh => by have := hh.2; omega)]
        exact ev_if_pos hb (Ev.now _)
      · refine ev_if_neg hb ?_
        rw [wrap_up hil (by omega)]
        refine IH _ (by omega) (by omega) (by omega) (fun hh => ?_) (fun hh => h2 fun hh2 => hh ⟨hh2.1, by have := hh2.2; omega⟩)
        have h := h1 ⟨hh.1, by have := hh.2; omega⟩
        rw [B_append, B_append, B_ofL]
        have e1 : B (⟨#[44]⟩ : ByteArray) = [44] := rfl
        rw [e1]
        simpa using h
    · rw [h2 (fun hh => by rw [Bool.eq_false_iff.2 hg] at hh; exact absurd hh.1 (by simp))]
      exact ev_if_neg hg (Ev.now _)
theorem spec_heads0 (L : List S43) (n j : Int) (S : List (List S63)) (D : List S48) (hS : S.length ≤ 1048576) (hS0 : S ≠ []) (hs : ∀ y ∈ S, y.length ≤ 1048576 ∧ ∀ z ∈ y, sizesPart z) (r : ByteArray × Bool) (o : ByteArray) (ho : o.size ≤ 1000000)
    (h1 : (S.all selOk = true ∧ o.size + (headsL S).length ≤ 1500) → Ev (fun k => spec_SheetText.l2 k (ofL (B o ++ (headsL S ++ [123]))) L n j D (D.length : Int) 0) r) (h2 : ¬ (S.all selOk = true ∧ o.size + (headsL S).length ≤ 1500) → r = failB) : Ev (fun k => spec_SheetText.l1 k o L n j S (S.length : Int) 0 S D) r := by
  cases S with
  | nil => exact absurd rfl hS0
  | cons x m =>
    have hx := hs x List.mem_cons_self
    have hrd : rd_L10 (x :: m) 0 = x := rfl
    refine Ev.step (fun k => by rw [spec_SheetText.l1]) ?_
    rw [hrd]
    have hlen : (((x :: m).length : Nat) : Int) = (m.length : Int) + 1 := by rw [List.length_cons]; omega
    refine ev_if_pos (by omega) (ev_if_pos (by omega) (ev_if_pos (by omega) ?_))
    have e0 : headsL (x :: m) = selL x ++ commaL m := rfl
    rw [List.all_cons, e0, List.length_append] at h1 h2
    refine ev_bind (spec_l5Good_ev x hx.1 hx.2) ?_
    by_cases hg : selOk x = true
    · rw [hg, Bool.true_and] at h1 h2
      have hl := sel_len x hg
      have s2 : (o ++ ofL (selL x)).size = o.size + (selL x).length := by rw [st_size, sz_ofL]
      refine ev_if_pos hg (ev_if_neg (by omega) (ev_bind (spec_sel_text x hg hx.2) (ev_if_pos (by rw [sz_ofL]; omega) ?_)))
      by_cases hb : ((o ++ ofL (selL x)).size : Int) > 1500
      · rw [h2 (fun hh => by have := hh.2; omega)]
        exact ev_if_pos hb (Ev.now _)
      · refine ev_if_neg hb ?_
        rw [show wrap64 ((0 : Int) + 1) = ((1 : Nat) : Int) from wrap_id (by omega) (by omega)]
        refine spec_heads L n j (x :: m) D hS hs r m.length 1 (o ++ ofL (selL x)) (by rw [List.length_cons]; omega) (by omega) (by omega) (fun hh => ?_) (fun hh => h2 fun hh2 => hh ⟨hh2.1, by have := hh2.2; rw [List.drop_one, List.tail_cons]; omega⟩)
        rw [List.drop_one, List.tail_cons] at hh ⊢
        have h := h1 ⟨hh.1, by have := hh.2; omega⟩
        rw [B_append, B_ofL]
        simpa using h
    · rw [h2 (fun hh => by rw [Bool.eq_false_iff.2 hg] at hh; exact absurd hh.1 (by simp))]
      exact ev_if_neg hg (Ev.now _)
theorem spec_rules (L : List S43) (hL : L.length ≤ 30) (hs : ∀ x ∈ L, smallI x) : ∀ (m i : Nat) (o : ByteArray), i + m = L.length → o.size ≤ 1000000 → Ev (fun k => spec_SheetText.l0 k o L (L.length : Int) (i : Int)) (fin (B o) (L.drop i)) := by
  intro m
  induction m with
  | zero =>
    intro i o hi ho
    have hB := B_len o
    rw [show L.drop i = [] from List.drop_eq_nil_of_le (by omega)]
    refine Ev.step (fun k => by rw [spec_SheetText.l0]) (ev_if_neg (by omega) ?_)
    by_cases hb : (o.size : Int) > 1500
    · have e : fin (B o) [] = failB := by unfold fin; exact if_neg (fun hh => by have h9 := hh.2; omega)
      rw [e]
      exact ev_if_pos hb (Ev.now _)
    · have e : fin (B o) [] = (o, true) := by
        unfold fin
        rw [if_pos ⟨rfl, by simp [rulesL]; omega⟩, show ofL (B o ++ rulesL []) = o from B_ext (by rw [B_ofL]; simp [rulesL])]
      rw [e]
      exact ev_if_neg hb (Ev.now _)
  | succ m ih =>
    intro i o hi ho
    have hB := B_len o
    have hil : i < L.length := by omega
    have hrd : rd_T43 L (i : Int) = L.getD i z43 := by simp [rd_T43]
    have hm : L.getD i z43 ∈ L := by rw [List.getD_eq_getElem?_getD, List.getElem?_eq_getElem hil]; exact List.getElem_mem hil
    have hx := hs _ hm
    rw [drop_cons L z43 i hil]
    refine Ev.step (fun k => by rw [spec_SheetText.l0]) ?_
    rw [hrd]
    refine ev_if_pos (by omega) (ev_if_pos (by omega) (ev_if_pos (by omega) ?_))
    have IH := ih (i + 1)
    generalize L.getD i z43 = x at hx ⊢
    have hz : (x.f0.length : Int) = 0 ↔ x.f0 = [] := by rw [← List.length_eq_zero_iff]; omega
    by_cases h0 : x.f0 = []
    · rw [fin_no _ _ _ (by unfold ruleOk; rw [h0]; simp)]
      exact ev_if_pos (hz.2 h0) (Ev.step (fun k => spec_SheetText.j1.eq_2 ..) (ev_if_pos rfl (Ev.now _)))
    refine ev_if_neg (fun hh => h0 (hz.1 hh)) (Ev.step (fun k => spec_SheetText.j1.eq_2 ..) ?_)
    by_cases h12 : (x.f1.length : Int) > 12
    · rw [fin_no _ _ _ (by unfold ruleOk; rw [decide_eq_false (show ¬ x.f1.length ≤ 12 by omega)]; simp)]
      exact ev_if_pos (decide_eq_true h12) (Ev.now _)
    refine ev_if_neg (by rw [decide_eq_false h12]; decide) ?_
    have okE : ruleOk x = (x.f0.all selOk && x.f1.all goodD) := by
      unfold ruleOk
      rw [decide_eq_true h0, decide_eq_true (show x.f1.length ≤ 12 by omega), Bool.true_and, Bool.true_and]
    refine spec_heads0 L (L.length : Int) (i : Int) x.f0 x.f1 hx.1 h0 hx.2.1 _ o ho (fun hc => ?_) (fun hc => ?_)
    · have hc2 := hc.2
      refine spec_SheetText_decls L (L.length : Int) (i : Int) x.f1 hx.2.2.1 hx.2.2.2 _ x.f1.length 0 _ (by omega) (by rw [sz_ofL, List.length_append, List.length_append]; simp only [List.length_cons, List.length_nil]; omega) (fun hd => ?_) (fun hd => ?_)
      · rw [List.drop_zero] at hd ⊢
        have dl := declsL_len x.f1 hd
        rw [fin_ok _ _ _ (by rw [okE, hc.1, hd]; rfl), wrap_up hil (by omega)]
        have h := IH (ofL (B o ++ ruleL x)) (by omega) (by rw [sz_ofL, List.length_append]; unfold ruleL; rw [List.length_append, List.length_cons, List.length_append]; simp only [List.length_cons, List.length_nil]; omega)
        rw [B_ofL] at h
        rw [B_ofL, show B o ++ (headsL x.f0 ++ [123]) ++ (declsL x.f1 ++ [125]) = B o ++ ruleL x by unfold ruleL; simp]
        exact h
      · rw [List.drop_zero] at hd
        exact fin_no _ _ _ (by rw [okE, Bool.eq_false_iff.2 hd]; simp)
    · by_cases ha : x.f0.all selOk = true
      · exact fin_big _ _ _ (by have : ¬ o.size + (headsL x.f0).length ≤ 1500 := fun hh => hc ⟨ha, hh⟩; omega)
      · exact fin_no _ _ _ (by rw [okE, Bool.eq_false_iff.2 ha]; simp)
theorem impl_heads (L : List S43) (n j : Int) (S : List (List S63)) (D : List S48) (hS : S.length ≤ 1048576) (hs : ∀ y ∈ S, y.length ≤ 1048576 ∧ ∀ z ∈ y, sizesPart z) (r : ByteArray × Bool) (o : ByteArray) : ∀ (m i : Nat) (x7 : List ByteArray), i + m = S.length → x7.length = i →
    ((S.drop i).all selOk = true → Ev (fun k => if ((x7 ++ (S.drop i).map (fun l => ofL (selL l))).length : Int) = 0 then impl_SheetText.j2 k o (x7 ++ (S.drop i).map (fun l => ofL (selL l))) L n j true S D else impl_SheetText.j2 k o (x7 ++ (S.drop i).map (fun l => ofL (selL l))) L n j (decide ((D.length : Int) > 12)) S D) r) → (¬ (S.drop i).all selOk = true → r = failB) → Ev (fun k => impl_SheetText.l1 k o x7 L n j S (S.length : Int) (i : Int) S D) r := by
  intro m
  induction m with
  | zero =>
    intro i x7 hi h7 h1 h2
    have hdn : S.drop i = [] := List.drop_eq_nil_of_le (by omega)
    rw [hdn] at h1
    have h := h1 rfl
    rw [List.map_nil, List.append_nil] at h
    refine Ev.step (fun k => by rw [impl_SheetText.l1]) (ev_if_neg (by omega) h)
  | succ m ih =>
    intro i x7 hi h7 h1 h2
    have hil : i < S.length := by omega
    have hrd : rd_L10 S (i : Int) = S.getD i [] := by simp [rd_L10]
    have hm : S.getD i [] ∈ S := by rw [List.getD_eq_getElem?_getD, List.getElem?_eq_getElem hil]; exact List.getElem_mem hil
    have hx := hs _ hm
    rw [drop_cons S [] i hil] at h1 h2
    refine Ev.step (fun k => by rw [impl_SheetText.l1]) ?_
    rw [hrd]
    refine ev_if_pos (by omega) (ev_if_pos (by omega) (ev_if_pos (by omega) ?_))
    have IH := ih (i + 1)
    generalize S.getD i [] = x at hx h1 h2 ⊢
    rw [List.all_cons] at h1 h2
    by_cases hg : selOk x = true
    · rw [hg, Bool.true_and] at h1 h2
      refine ev_bind (impl_sel_text x hx.1 hg hx.2) (ev_if_pos rfl (ev_if_pos (by omega) ?_))
      rw [wrap_up hil (by omega)]
      refine IH _ (by omega) (by simp; omega) (fun hh => ?_) h2
      have h := h1 hh
      rw [List.map_cons] at h
      rw [List.append_assoc]
      exact h
    · rw [h2 (by rw [Bool.eq_false_iff.2 hg]; simp)]
      exact ev_bind (impl_SelectorText_no x hx.2 hx.1 (Bool.eq_false_iff.2 hg)) (ev_if_neg (by decide) (Ev.now _))
theorem join_heads (S : List (List S63)) : Go.Lib.join (S.map selL) [44] = headsL S := by
  cases S with
  | nil => rfl
  | cons x m =>
    rw [List.map_cons, Go.Lib.join_cons]
    unfold Go.Lib.joinTail
    rw [List.map_map]
    rfl
theorem join_ev (S : List (List S63)) (hS : S.length ≤ 1048576) (h : S.all selOk = true) : strings_Join.f (S.map fun l => ofL (selL l)) (⟨#[44]⟩ : ByteArray) = some (ofL (headsL S)) := by
  have hl := heads_len S h
  have e1 : (S.map fun l => ofL (selL l)).map (·.data.toList) = S.map selL := by rw [List.map_map]; exact List.map_congr_left fun l _ => B_ofL _
  have e : Go.Lib.join ((S.map fun l => ofL (selL l)).map (·.data.toList)) (⟨#[44]⟩ : ByteArray).data.toList = headsL S := by
    rw [e1]; exact join_heads S
  unfold strings_Join.f
  rw [if_pos ⟨by simp; omega, by rw [e]; omega⟩]
  unfold joinB
  rw [e]; rfl
theorem impl_rules (L : List S43) (hL : L.length ≤ 30) (hs : ∀ x ∈ L, smallI x) : ∀ (m i : Nat) (o : ByteArray), i + m = L.length → o.size ≤ i * 2000000000 → Ev (fun k => impl_SheetText.l0 k o L (L.length : Int) (i : Int)) (fin (B o) (L.drop i)) := by
  intro m
  induction m with
  | zero =>
    intro i o hi ho
    have hB := B_len o
    rw [show L.drop i = [] from List.drop_eq_nil_of_le (by omega)]
    refine Ev.step (fun k => by rw [impl_SheetText.l0]) (ev_if_neg (by omega) ?_)
    by_cases hb : (o.size : Int) > 1500
    · have e : fin (B o) [] = failB := by unfold fin; exact if_neg (fun hh => by have h9 := hh.2; omega)
      rw [e]
      exact ev_if_pos hb (Ev.now _)
    · have e : fin (B o) [] = (o, true) := by
        unfold fin
        rw [if_pos ⟨rfl, by simp [rulesL]; omega⟩, show ofL (B o ++ rulesL []) = o from B_ext (by rw [B_ofL]; simp [rulesL])]
      rw [e]
      exact ev_if_neg hb (Ev.now _)
  | succ m ih =>
    intro i o hi ho
    have hB := B_len o
    have hil : i < L.length := by omega
    have hrd : rd_T43 L (i : Int) = L.getD i z43 := by simp [rd_T43]
    have hm : L.getD i z43 ∈ L := by rw [List.getD_eq_getElem?_getD, List.getElem?_eq_getElem hil]; exact List.getElem_mem hil
    have hx := hs _ hm
    rw [drop_cons L z43 i hil]
    refine Ev.step (fun k => by rw [impl_SheetText.l0]) ?_
    rw [hrd]
    refine ev_if_pos (by omega) (ev_if_pos (by omega) (ev_if_pos (by omega) ?_))
    have IH := ih (i + 1)
    generalize L.getD i z43 = x at hx ⊢
    refine impl_heads L (L.length : Int) (i : Int) x.f0 x.f1 hx.1 hx.2.1 _ o x.f0.length 0 [] (by omega) rfl (fun ha => ?_) (fun ha => ?_)
    · rw [List.drop_zero] at ha ⊢
      rw [List.nil_append, List.length_map]
      have hz : (x.f0.length : Int) = 0 ↔ x.f0 = [] := by rw [← List.length_eq_zero_iff]; omega
      by_cases h0 : x.f0 = []
      · rw [fin_no _ _ _ (by unfold ruleOk; rw [h0]; simp)]
        exact ev_if_pos (hz.2 h0) (Ev.step (fun k => impl_SheetText.j2.eq_2 ..) (ev_if_pos rfl (Ev.now _)))
      refine ev_if_neg (fun hh => h0 (hz.1 hh)) (Ev.step (fun k => impl_SheetText.j2.eq_2 ..) ?_)
      by_cases h12 : (x.f1.length : Int) > 12
      · rw [fin_no _ _ _ (by unfold ruleOk; rw [decide_eq_false (show ¬ x.f1.length ≤ 12 by omega)]; simp)]
        exact ev_if_pos (decide_eq_true h12) (Ev.now _)
      refine ev_if_neg (by rw [decide_eq_false h12]; decide) ?_
      have okE : ruleOk x = x.f1.all goodD := by
        unfold ruleOk
        rw [decide_eq_true h0, decide_eq_true (show x.f1.length ≤ 12 by omega), ha, Bool.true_and, Bool.true_and, Bool.true_and]
      have hl := heads_len x.f0 ha
      have hl1 := hx.1
      have sz : (ofL (headsL x.f0) ++ (⟨#[123]⟩ : ByteArray)).size = (headsL x.f0).length + 1 := by rw [st_size, sz_ofL]; rfl
      refine ev_bind0 (join_ev x.f0 hx.1 ha) (ev_if_pos (by rw [sz_ofL]; omega) (ev_if_pos (by omega) ?_))
      refine impl_SheetText_decls L (L.length : Int) (i : Int) x.f1 hx.2.2.1 hx.2.2.2 _ x.f1.length 0 _ (by omega) (by rw [st_size, sz]; omega) (fun hd => ?_) (fun hd => ?_)
      · rw [List.drop_zero] at hd ⊢
        have dl := declsL_len x.f1 hd
        rw [fin_ok _ _ _ (by rw [okE, hd]), wrap_up hil (by omega)]
        have h := IH (ofL (B o ++ ruleL x)) (by omega) (by rw [sz_ofL, List.length_append]; unfold ruleL; rw [List.length_append, List.length_cons, List.length_append]; simp only [List.length_cons, List.length_nil]; omega)
        rw [B_ofL] at h
        have e1 : B (⟨#[123]⟩ : ByteArray) = [123] := rfl
        rw [B_append, B_append, B_ofL, e1, show B o ++ (headsL x.f0 ++ [123]) ++ (declsL x.f1 ++ [125]) = B o ++ ruleL x by unfold ruleL; simp]
        exact h
      · rw [List.drop_zero] at hd
        exact fin_no _ _ _ (by rw [okE]; exact hd)
    · rw [List.drop_zero] at ha
      exact fin_no _ _ _ (by unfold ruleOk; rw [Bool.eq_false_iff.2 ha]; simp)

end Go.Proofs.YtganmdnieihpeaaDoor.Pure
