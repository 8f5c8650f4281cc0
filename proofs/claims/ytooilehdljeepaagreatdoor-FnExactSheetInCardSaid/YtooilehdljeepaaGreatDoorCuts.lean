/- Plain words: texts cut at bytes; comments; declarations. -/
import Derived.Test.YtooilehdljeepaaGreatDoorTrim
import Derived.Lib.SplitLaws
set_option linter.unusedVariables false
set_option linter.unusedSimpArgs false
namespace Go.Proofs.YtooilehdljeepaaGreatDoor.Plain
open Go.RowKit Go.Proofs.YtooilehdljeepaaGreatDoorW.PrintWords
open Go.Lib (index cut splitK index_ge index_room)
theorem cut_nil (sep : List UInt8) (h : sep.isEmpty = false) : cut [] sep = ([], [], false) := by
  have e : index [] sep = -1 := by unfold index; rw [if_neg (by rw [h]; decide)]
  unfold cut
  rw [e, if_neg (by decide)]
theorem cut_hit (b : UInt8) (l sep : List UInt8) (h : sep.isPrefixOf (b :: l) = true) : cut (b :: l) sep = ([], (b :: l).drop sep.length, true) := by
  have e : index (b :: l) sep = 0 := by unfold index; rw [if_pos h]
  unfold cut
  rw [e, if_pos (by decide)]
  simp
theorem cut_step (b : UInt8) (l sep : List UInt8) (h : ¬ sep.isPrefixOf (b :: l) = true) : cut (b :: l) sep = (b :: (cut l sep).1, (cut l sep).2.1, (cut l sep).2.2) := by
  have hge := index_ge l sep
  by_cases hi : index l sep = -1
  · have e : index (b :: l) sep = -1 := by rw [index, if_neg h, if_pos (beq_iff_eq.mpr hi)]
    unfold cut
    rw [e, hi, if_neg (by decide), if_neg (by decide)]
  · have e : index (b :: l) sep = index l sep + 1 := by rw [index, if_neg h, if_neg (fun hh => hi (beq_iff_eq.mp hh))]
    unfold cut
    rw [e, if_pos (by omega), if_pos (by omega), show (index l sep + 1).toNat = (index l sep).toNat + 1 by omega, List.take_succ_cons, show (index l sep).toNat + 1 + sep.length = ((index l sep).toNat + sep.length) + 1 by omega, List.drop_succ_cons]
theorem cut_len (l sep : List UInt8) : (cut l sep).2.1.length ≤ l.length ∧ ((cut l sep).2.2 = true → (cut l sep).2.1.length + sep.length ≤ l.length) := by
  unfold cut
  by_cases h : 0 ≤ index l sep
  · rw [if_pos h]
    have hr := index_room l sep h
    simp only [List.length_drop]
    exact ⟨by omega, fun _ => by omega⟩
  · rw [if_neg h]; simp
theorem cut_parts (l sep : List UInt8) : (cut l sep).1.length ≤ l.length ∧ ((cut l sep).2.2 = true → (cut l sep).1.length + sep.length + (cut l sep).2.1.length ≤ l.length) := by
  unfold cut
  by_cases h : 0 ≤ index l sep
  · rw [if_pos h]
    have hr := index_room l sep h
    simp only [List.length_drop, List.length_take]
    exact ⟨by omega, fun _ => by omega⟩
  · rw [if_neg h]; simp
theorem cut_none (l sep : List UInt8) (h : ¬ (cut l sep).2.2 = true) : cut l sep = (l, [], false) := by
  unfold cut at h ⊢
  by_cases h2 : 0 ≤ index l sep
  · rw [if_pos h2] at h; exact absurd rfl h
  · rw [if_neg h2]
theorem pre_a (a b x : UInt8) (l : List UInt8) (h : ¬ x = a) : ¬ ([a, b] : List UInt8).isPrefixOf (x :: l) = true := by
  have : (a == x) = false := beq_eq_false_iff_ne.2 fun e => h e.symm
  simp [List.isPrefixOf, this]
theorem pre_b (a b x y : UInt8) (l : List UInt8) (h : ¬ y = b) : ¬ ([a, b] : List UInt8).isPrefixOf (x :: y :: l) = true := by
  have : (b == y) = false := beq_eq_false_iff_ne.2 fun e => h e.symm
  simp [List.isPrefixOf, this]
theorem pre_e (a b x : UInt8) : ¬ ([a, b] : List UInt8).isPrefixOf [x] = true := by
  simp [List.isPrefixOf]
/-- a text without its comments: each one is a blank. -/
def bareF : Nat → List UInt8 → List UInt8
  | 0, _ => []
  | n + 1, l => if (cut l [47, 42]).2.2 = true then (cut l [47, 42]).1 ++ 32 :: bareF n (cut (cut l [47, 42]).2.1 [42, 47]).2.1 else l
theorem bareF_fuel : ∀ (n m : Nat) (l : List UInt8), l.length < n → l.length < m → bareF n l = bareF m l := by
  intro n
  induction n with
  | zero => intro m l h; omega
  | succ n ih =>
    intro m l h1 h2
    cases m with
    | zero => omega
    | succ m =>
      rw [bareF, bareF]
      by_cases hc : (cut l [47, 42]).2.2 = true
      · have k1 := (cut_len l [47, 42]).2 hc
        have k2 := (cut_len (cut l [47, 42]).2.1 [42, 47]).1
        simp only [List.length_cons, List.length_nil] at k1
        rw [if_pos hc, if_pos hc, ih m _ (by omega) (by omega)]
      · rw [if_neg hc, if_neg hc]
def bare (l : List UInt8) : List UInt8 := bareF (l.length + 1) l
theorem bare_eq (l : List UInt8) : bare l = if (cut l [47, 42]).2.2 = true then (cut l [47, 42]).1 ++ 32 :: bare (cut (cut l [47, 42]).2.1 [42, 47]).2.1 else l := by
  unfold bare
  rw [bareF]
  by_cases hc : (cut l [47, 42]).2.2 = true
  · have k1 := (cut_len l [47, 42]).2 hc
    have k2 := (cut_len (cut l [47, 42]).2.1 [42, 47]).1
    simp only [List.length_cons, List.length_nil] at k1
    rw [if_pos hc, if_pos hc, bareF_fuel l.length _ _ (by omega) (Nat.lt_succ_self _)]
  · rw [if_neg hc, if_neg hc]
theorem bare_nil : bare [] = [] := rfl
theorem bare_char (b : UInt8) (l : List UInt8) (h : ¬ ([47, 42] : List UInt8).isPrefixOf (b :: l) = true) : bare (b :: l) = b :: bare l := by
  rw [bare_eq, bare_eq l, cut_step b l [47, 42] h]
  by_cases hc : (cut l [47, 42]).2.2 = true
  · rw [if_pos hc, if_pos hc]; rfl
  · rw [if_neg hc, if_neg hc]
theorem bare_open (l : List UInt8) : bare (47 :: 42 :: l) = 32 :: bare (cut l [42, 47]).2.1 := by
  rw [bare_eq, cut_hit 47 (42 :: l) [47, 42] rfl, if_pos rfl]
  rfl
/-- a text cut at each instance of a byte. -/
def splitL (c : UInt8) : List UInt8 → List (List UInt8)
  | [] => [[]]
  | b :: l => if b = c then [] :: splitL c l else (b :: (splitL c l).headD []) :: (splitL c l).tail
theorem splitL_ne (c : UInt8) (l : List UInt8) : splitL c l ≠ [] := by
  cases l with
  | nil => simp [splitL]
  | cons b l => rw [splitL]; split <;> simp
theorem splitL_none (c : UInt8) (l : List UInt8) (h : c ∉ l) : splitL c l = [l] := by
  induction l with
  | nil => rfl
  | cons b l ih =>
    rw [splitL, if_neg (fun e => h (by rw [e]; exact List.mem_cons_self)), ih (fun hm => h (List.mem_cons_of_mem _ hm))]
    rfl
theorem splitL_len (c : UInt8) (l : List UInt8) : (splitL c l).length ≤ l.length + 1 ∧ ∀ x ∈ splitL c l, x.length ≤ l.length := by
  induction l with
  | nil => exact ⟨by simp [splitL], by simp [splitL]⟩
  | cons b l ih =>
    have hne := splitL_ne c l
    rw [splitL]
    cases hs : splitL c l with
    | nil => exact absurd hs hne
    | cons y ys =>
      rw [hs] at ih
      simp only [List.length_cons, List.mem_cons, forall_eq_or_imp] at ih
      split
      · refine ⟨by simp only [List.length_cons]; omega, fun x hx => ?_⟩
        simp only [List.mem_cons] at hx
        rcases hx with rfl | rfl | hx
        · simp
        · simp only [List.length_cons]; omega
        · have := ih.2.2 x hx; simp only [List.length_cons]; omega
      · refine ⟨by simp only [List.length_cons, List.tail_cons]; omega, fun x hx => ?_⟩
        simp only [List.headD_cons, List.tail_cons, List.mem_cons] at hx
        rcases hx with rfl | hx
        · simp only [List.length_cons]; omega
        · have := ih.2.2 x hx; simp only [List.length_cons]; omega
theorem pre_one (c b : UInt8) (l : List UInt8) : ([c] : List UInt8).isPrefixOf (b :: l) = true ↔ b = c := by
  have e : ([c] : List UInt8).isPrefixOf (b :: l) = (c == b) := by cases l <;> simp [List.isPrefixOf]
  rw [e]
  exact ⟨fun h => (beq_iff_eq.1 h).symm, fun h => beq_iff_eq.2 h.symm⟩
theorem index_one (c : UInt8) (l : List UInt8) : (index l [c] = -1 ∧ c ∉ l) ∨ ∃ i : Nat, index l [c] = i ∧ c ∈ l ∧ splitL c l = l.take i :: splitL c (l.drop (i + 1)) ∧ l.count c = (l.drop (i + 1)).count c + 1 := by
  induction l with
  | nil => left; exact ⟨rfl, by simp⟩
  | cons b l ih =>
    by_cases hb : b = c
    · right
      subst hb
      refine ⟨0, by rw [index, if_pos ((pre_one b b l).2 rfl)]; rfl, List.mem_cons_self, ?_, by simp⟩
      rw [splitL, if_pos rfl]; rfl
    · have hp : ¬ ([c] : List UInt8).isPrefixOf (b :: l) = true := fun h => hb ((pre_one c b l).1 h)
      rcases ih with ⟨h1, h2⟩ | ⟨i, h1, h2, h3, h4⟩
      · left
        refine ⟨by rw [index, if_neg hp, if_pos (beq_iff_eq.mpr h1)], fun hm => ?_⟩
        rcases List.mem_cons.1 hm with h | h
        · exact hb h.symm
        · exact h2 h
      · right
        refine ⟨i + 1, by rw [index, if_neg hp, if_neg (fun h => by have := beq_iff_eq.mp h; omega), h1]; omega, List.mem_cons_of_mem _ h2, ?_, ?_⟩
        · rw [splitL, if_neg hb, h3]; rfl
        · rw [List.count_cons_of_ne hb, h4]; rfl
theorem splitK_splitL (c : UInt8) : ∀ (k : Nat) (l : List UInt8), l.count c ≤ k → splitK [c] 0 k l = splitL c l := by
  intro k
  induction k with
  | zero =>
    intro l h
    rw [splitK, splitL_none c l (fun hm => by have := List.count_pos_iff.2 hm; omega)]
  | succ k ih =>
    intro l h
    rw [splitK]
    rcases index_one c l with ⟨h1, h2⟩ | ⟨i, h1, h2, h3, h4⟩
    · rw [if_pos (beq_iff_eq.mpr h1), splitL_none c l h2]
    · rw [if_neg (fun hh => by have := beq_iff_eq.mp hh; omega), h1, h3, Int.toNat_natCast]
      show l.take (i + 0) :: splitK [c] 0 k (l.drop (i + 1)) = _
      rw [Nat.add_zero, ih _ (by omega)]
end Go.Proofs.YtooilehdljeepaaGreatDoor.Plain
