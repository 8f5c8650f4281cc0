/- Plain words: a text cut at its blanks. -/
import Derived.Test.YtooilehdljeepaaGreatDoorTrim
import Derived.Lib.FieldsP
import Derived.Lib.SpaceUEq
import Derived.Lib.MapLaws
set_option linter.unusedVariables false
set_option linter.unusedSimpArgs false
namespace Go.Proofs.YtooilehdljeepaaGreatDoor.Plain
open Go.RowKit Go.Proofs.YtooilehdljeepaaGreatDoorW.PrintWords

/-- the words of a text, cut at the bytes that q takes; cur is what has been gathered. -/
def wordsL (q : UInt8 → Bool) : List UInt8 → List UInt8 → List (List UInt8)
  | cur, [] => if cur = [] then [] else [cur]
  | cur, b :: l => if q b = true then (if cur = [] then wordsL q [] l else cur :: wordsL q [] l) else wordsL q (cur ++ [b]) l
theorem wordsL_run (q : UInt8 → Bool) : ∀ (m cur l : List UInt8), (∀ b ∈ m, q b = false) → wordsL q cur (m ++ l) = wordsL q (cur ++ m) l
  | [], cur, l, _ => by rw [List.nil_append, List.append_nil]
  | b :: m, cur, l, h => by
    have hb := h b List.mem_cons_self
    rw [List.cons_append, wordsL, if_neg (by rw [hb]; decide), wordsL_run q m _ l (fun x hx => h x (List.mem_cons_of_mem _ hx)), List.append_assoc]
    rfl
theorem wordsL_ne (q : UInt8 → Bool) : ∀ (l cur : List UInt8), ∀ x ∈ wordsL q cur l, x ≠ []
  | [], cur, x, hx => by
    rw [wordsL] at hx
    split at hx
    · cases hx
    · rename_i h; simp only [List.mem_singleton] at hx; subst hx; exact h
  | b :: l, cur, x, hx => by
    rw [wordsL] at hx
    split at hx
    · split at hx
      · exact wordsL_ne q l _ x hx
      · rename_i h
        rcases List.mem_cons.1 hx with rfl | hx
        · exact h
        · exact wordsL_ne q l _ x hx
    · exact wordsL_ne q l _ x hx
theorem wordsL_len (q : UInt8 → Bool) : ∀ (l cur : List UInt8), (wordsL q cur l).length ≤ l.length + 1 ∧ ∀ x ∈ wordsL q cur l, x.length ≤ cur.length + l.length
  | [], cur => by
    rw [wordsL]
    split
    · exact ⟨by simp, fun x hx => by cases hx⟩
    · exact ⟨by simp, fun x hx => by simp only [List.mem_singleton] at hx; subst hx; simp⟩
  | b :: l, cur => by
    rw [wordsL]
    have h1 := wordsL_len q l []
    have h2 := wordsL_len q l (cur ++ [b])
    split
    · split
      · exact ⟨by rw [List.length_cons]; omega, fun x hx => by have := h1.2 x hx; rw [List.length_cons]; simp at this; omega⟩
      · refine ⟨by rw [List.length_cons, List.length_cons]; omega, fun x hx => ?_⟩
        rcases List.mem_cons.1 hx with rfl | hx
        · omega
        · have := h1.2 x hx; rw [List.length_cons]; simp at this; omega
    · exact ⟨by rw [List.length_cons]; omega, fun x hx => by have := h2.2 x hx; rw [List.length_append] at this; rw [List.length_cons]; simp at this; omega⟩

theorem rune_bytes (s : ByteArray) (i : Nat) (hi : i < s.size) (h : 128 ≤ (Utf8.decode s i).1) : ∀ j, i ≤ j → j < i + (Utf8.decode s i).2 → ∀ b, s.data.toList[j]? = some b → 128 ≤ b.toNat := by
  intro j h1 h2 b hb
  rw [Go.Lib.decode_N] at h h2
  have hlen : i < s.data.toList.length := by rw [← Go.Lib.size_eq]; exact hi
  have g : ∀ k, s.data.toList.getD k 0 = (s.data.toList[k]?).getD 0 := fun k => List.getD_eq_getElem?_getD
  have hc := Go.Lib.decodeN_conts (s.data.toList.length - i) (s.data.toList.getD i 0).toNat (s.data.toList.getD (i + 1) 0).toNat (s.data.toList.getD (i + 2) 0).toNat (s.data.toList.getD (i + 3) 0).toNat
  obtain ⟨c1, c2, c3, c4⟩ := hc
  have h0 : 128 ≤ (s.data.toList.getD i 0).toNat := by
    refine Classical.byContradiction fun hn => ?_
    rw [Go.Lib.decodeN_ascii _ _ _ _ _ (by omega)] at h
    simp only at h
    omega
  have hj : j = i ∨ j = i + 1 ∨ j = i + 2 ∨ j = i + 3 := by omega
  have e : (s.data.toList.getD j 0) = b := by rw [g, hb]; rfl
  rcases hj with rfl | rfl | rfl | rfl
  · rw [e] at h0; exact h0
  · have := (c1 (by omega)).1; rw [e] at this; omega
  · have := (c2 (by omega)).1; rw [e] at this; omega
  · have := (c3 (by omega)).1; rw [e] at this; omega
theorem rune_low (s : ByteArray) (i : Nat) (hi : i < s.size) (h : (Utf8.decode s i).1 < 128) : (Utf8.decode s i).2 = 1 ∧ ∃ x : UInt8, s.data.toList[i]? = some x ∧ (Utf8.decode s i).1 = x.toNat := by
  have hlen : i < s.data.toList.length := by rw [← Go.Lib.size_eq]; exact hi
  have e : s.data.toList.getD i 0 = s.data.toList[i]'hlen := by rw [List.getD_eq_getElem?_getD, List.getElem?_eq_getElem hlen]; rfl
  rw [Go.Lib.decode_N] at h ⊢
  by_cases h0 : (s.data.toList.getD i 0).toNat < 128
  · rw [Go.Lib.decodeN_ascii _ _ _ _ _ h0]
    exact ⟨rfl, _, List.getElem?_eq_getElem hlen, by rw [e]⟩
  · exfalso
    rcases Go.Lib.decodeN_shape (s.data.toList.length - i) (s.data.toList.getD i 0).toNat (s.data.toList.getD (i + 1) 0).toNat (s.data.toList.getD (i + 2) 0).toNat (s.data.toList.getD (i + 3) 0).toNat with ⟨a, _⟩ | ⟨_, _, _, a, b⟩ | ⟨_, _, _, _, a, _, b⟩ | ⟨_, _, _, _, _, a, _, b⟩ | b
    · omega
    all_goals (rw [b] at h; simp only at h; omega)

theorem take_bytes {l : List UInt8} {i n : Nat} {b : UInt8} (h : b ∈ (l.drop i).take n) : ∃ j, i ≤ j ∧ j < i + n ∧ l[j]? = some b := by
  obtain ⟨k, hk⟩ := List.getElem?_of_mem h
  have hkn : k < n := by
    have := (List.getElem?_eq_some_iff.1 hk).1
    rw [List.length_take] at this
    omega
  rw [List.getElem?_take_of_lt hkn, List.getElem?_drop] at hk
  exact ⟨i + k, by omega, by omega, hk⟩

section
open Go.Lib
theorem spans_words (p : Nat → Bool) (q : UInt8 → Bool) (hp : ∀ x, 128 ≤ x → p x = false) (hq : ∀ c : UInt8, c.toNat < 128 → p c.toNat = q c) (hq2 : ∀ c : UInt8, 128 ≤ c.toNat → q c = false) (s : ByteArray) : ∀ (f pos : Nat) (st : Option Nat) (acc : List (Nat × Nat)), s.size ≤ pos + f → pos ≤ s.size → (∀ a, st = some a → a < pos) →
    acc.map (fun x => pieceU s.data.toList x.1 x.2) ++ wordsL q (openPiece s.data.toList st pos) (s.data.toList.drop pos) = (closeSpans s (spansFromP p s f pos st acc)).map (fun x => pieceU s.data.toList x.1 x.2)
  | 0, pos, st, acc, h, hpz, hst => by
    obtain rfl : pos = s.size := by omega
    have hd : s.data.toList.drop s.size = [] := List.drop_eq_nil_of_le (by rw [← size_eq]; exact Nat.le_refl _)
    rw [hd, wordsL]
    cases st with
    | none => simp [spansFromP, closeSpans, openPiece]
    | some a =>
      have := pieceU_ne s.data.toList a s.size (hst a rfl) (by rw [← size_eq]; exact Nat.le_refl _)
      simp [spansFromP, closeSpans, openPiece, this]
  | f + 1, pos, st, acc, h, hpz, hst => by
    by_cases hlt : pos < s.size
    · have hw := width_pos s pos
      have hwn : pos + (Utf8.decode s pos).2 ≤ s.size := by
        have := decodeN_le_n' (s.size - pos) (s.get! pos).toNat (s.get! (pos + 1)).toNat (s.get! (pos + 2)).toNat (s.get! (pos + 3)).toNat (by omega)
        rw [← decode_at] at this
        omega
      have hlen : pos < s.data.toList.length := by rw [← size_eq]; exact hlt
      simp only [spansFromP, if_pos hlt]
      by_cases hlow : (Utf8.decode s pos).1 < 128
      · obtain ⟨hwd, x, hx, hrx⟩ := rune_low s pos hlt hlow
        have hdr : s.data.toList.drop pos = x :: s.data.toList.drop (pos + 1) := by
          rw [List.drop_eq_getElem_cons hlen]
          have := (List.getElem?_eq_some_iff.1 hx).2
          rw [this]
        have hpq : p (Utf8.decode s pos).1 = q x := by rw [hrx]; exact hq x (by omega)
        rw [hpq, hwd, hdr, wordsL]
        cases hqx : q x with
        | true =>
          simp only [if_true]
          cases st with
          | none =>
            have ih := spans_words p q hp hq hq2 s f (pos + 1) none acc (by omega) (by omega) (fun a h => by cases h)
            simpa [openPiece] using ih
          | some a =>
            have hpn := pieceU_ne s.data.toList a pos (hst a rfl) (by rw [← size_eq]; omega)
            have ih := spans_words p q hp hq hq2 s f (pos + 1) none (acc ++ [(a, pos)]) (by omega) (by omega) (fun a h => by cases h)
            simpa [openPiece, hpn] using ih
        | false =>
          simp only [Bool.false_eq_true, if_false]
          have ex : [x] = (s.data.toList.drop pos).take 1 := by rw [hdr]; rfl
          cases st with
          | none =>
            have ih := spans_words p q hp hq hq2 s f (pos + 1) (some pos) acc (by omega) (by omega) (fun a h => by cases h; omega)
            have e : ([] : List UInt8) ++ [x] = pieceU s.data.toList pos (pos + 1) := by
              unfold pieceU
              rw [List.nil_append, Nat.add_sub_cancel_left, ex]
            simp only [openPiece] at ih ⊢
            rw [e]
            exact ih
          | some a =>
            have ih := spans_words p q hp hq hq2 s f (pos + 1) (some a) acc (by omega) (by omega) (fun b h => by cases h; have := hst a rfl; omega)
            simp only [openPiece] at ih ⊢
            rw [ex, pieceU_grow _ _ _ _ (Nat.le_of_lt (hst a rfl))]
            exact ih
      · have hby := rune_bytes s pos hlt (by omega)
        rw [hp _ (by omega)]
        simp only [Bool.false_eq_true, if_false]
        have hsp : s.data.toList.drop pos = (s.data.toList.drop pos).take (Utf8.decode s pos).2 ++ s.data.toList.drop (pos + (Utf8.decode s pos).2) := by
          rw [← List.drop_drop, List.take_append_drop]
        have hrun := wordsL_run q ((s.data.toList.drop pos).take (Utf8.decode s pos).2) (openPiece s.data.toList st pos) (s.data.toList.drop (pos + (Utf8.decode s pos).2)) (fun b hb => by
          obtain ⟨j, hj1, hj2, hj3⟩ := take_bytes hb
          exact hq2 b (hby j hj1 hj2 b hj3))
        rw [← hsp] at hrun
        rw [hrun]
        cases st with
        | none =>
          have ih := spans_words p q hp hq hq2 s f (pos + (Utf8.decode s pos).2) (some pos) acc (by omega) hwn (fun a h => by cases h; omega)
          have e : ([] : List UInt8) ++ (s.data.toList.drop pos).take (Utf8.decode s pos).2 = pieceU s.data.toList pos (pos + (Utf8.decode s pos).2) := by
            unfold pieceU
            rw [List.nil_append, Nat.add_sub_cancel_left]
          simp only [openPiece] at ih ⊢
          rw [e]
          exact ih
        | some a =>
          have ih := spans_words p q hp hq hq2 s f (pos + (Utf8.decode s pos).2) (some a) acc (by omega) hwn (fun b h => by cases h; have := hst a rfl; omega)
          simp only [openPiece] at ih ⊢
          rw [pieceU_grow _ _ _ _ (Nat.le_of_lt (hst a rfl))]
          exact ih
    · obtain rfl : pos = s.size := by omega
      have hd : s.data.toList.drop s.size = [] := List.drop_eq_nil_of_le (by rw [← size_eq]; exact Nat.le_refl _)
      rw [hd, wordsL, spansFromP_end p s _ _ _ _ hlt]
      cases st with
      | none => simp [closeSpans, openPiece]
      | some a =>
        have := pieceU_ne s.data.toList a s.size (hst a rfl) (by rw [← size_eq]; exact Nat.le_refl _)
        simp [closeSpans, openPiece, this]
theorem fields_words (p : Nat → Bool) (q : UInt8 → Bool) (hp : ∀ x, 128 ≤ x → p x = false) (hq : ∀ c : UInt8, c.toNat < 128 → p c.toNat = q c) (hq2 : ∀ c : UInt8, 128 ≤ c.toNat → q c = false) (s : ByteArray) : goFieldsP p s = (wordsL q [] (B s)).map ofL := by
  have h := spans_words p q hp hq hq2 s s.size 0 none [] (by omega) (by omega) (fun a h => by cases h)
  simp only [List.map_nil, List.nil_append, openPiece, List.drop_zero] at h
  show (spansOfP p s).map (fun x => s.extract x.1 x.2) = _
  have e : wordsL q [] (B s) = (spansOfP p s).map (fun x => pieceU s.data.toList x.1 x.2) := h
  rw [e, List.map_map]
  apply List.map_congr_left
  intro x _
  apply B_ext
  show B (s.extract x.1 x.2) = B (ofL (pieceU s.data.toList x.1 x.2))
  rw [B_ofL, B_extract]
  rfl
end
theorem blankU_far (c : UInt8) (h : 128 ≤ c.toNat) : blankU c = false := by
  unfold blankU
  have k : ∀ n : Nat, n < 128 → (c == UInt8.ofNat n) = false := fun n hn => beq_eq_false_iff_ne.mpr fun e => by
    rw [e, UInt8.toNat_ofNat'] at h; omega
  have k1 := k 9 (by omega); have k2 := k 10 (by omega); have k3 := k 13 (by omega); have k4 := k 32 (by omega)
  simp only [List.contains_cons, List.contains_nil, Bool.or_false]
  rw [show (c == 9) = false from k1, show (c == 10) = false from k2, show (c == 13) = false from k3, show (c == 32) = false from k4]
  rfl
theorem blankU_rune (c : UInt8) : blankU c = (c.toNat == 9 || c.toNat == 10 || c.toNat == 13 || c.toNat == 32) := by
  unfold blankU
  have k : ∀ n : Nat, n < 256 → (c == UInt8.ofNat n) = (c.toNat == n) := fun n hn => by
    rw [Bool.eq_iff_iff, beq_iff_eq, beq_iff_eq]
    constructor
    · intro e; rw [e, UInt8.toNat_ofNat']; omega
    · intro e; apply UInt8.toNat_inj.1; rw [e, UInt8.toNat_ofNat']; omega
  have k1 := k 9 (by omega); have k2 := k 10 (by omega); have k3 := k 13 (by omega); have k4 := k 32 (by omega)
  simp only [List.contains_cons, List.contains_nil, Bool.or_false]
  rw [show (c == 9) = _ from k1, show (c == 10) = _ from k2, show (c == 13) = _ from k3, show (c == 32) = _ from k4, Bool.or_assoc, Bool.or_assoc]
end Go.Proofs.YtooilehdljeepaaGreatDoor.Plain
