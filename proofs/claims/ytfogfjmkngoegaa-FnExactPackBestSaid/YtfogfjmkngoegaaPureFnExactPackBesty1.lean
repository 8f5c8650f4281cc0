/- Lemmas for the pure statement of FnExactPackBest, part 1. -/
import Derived.Test.YtfogfjmkngoegaaPFnExactPackBestx6
import Derived.Test.YtfogfjmkngoegaaPlain
import Derived.Test.YtfogfjmkngoegaaBits
import Derived.Test.YtfogfjmkngoegaaEvs
set_option linter.unusedVariables false
set_option linter.unusedSimpArgs false
namespace Go.Proofs.Ytfogfjmkngoegaa.Pure
open Go.RowKit Go.Proofs.Ytfogfjmkngoegaa.PFnExactPackBest Go.Proofs.YtfogfjmkngoegaaW.PrintWords Go.Proofs.YtfogfjmkngoegaaW.PrintLast Go.Proofs.YtfogfjmkngoegaaW.PrintMore Go.Proofs.Ytfogfjmkngoegaa.Plain

/-! laws_toByteS -/
-- plain: Evs
theorem laws_toByteS_ev (l : List Int) (hn : l.length ≤ 281474976710656) : Ev (fun k => laws_toByteS.f k l) l := by
  refine Ev.congr (f := fun k => laws_toByteS.l0 k l (List.replicate l.length 0) 0) (fun k => ?_) ?_
  · unfold laws_toByteS.f; rw [if_pos (by omega), if_pos (by omega)]; rfl
  · refine ev_up l.length (fun i k => laws_toByteS.l0 k l (l.take i ++ List.replicate (l.length - i) 0) i) l ?_ ?_
    · refine ev_done fun k => ?_
      rw [laws_toByteS.l0, if_neg (by omega)]; simp
    · intro i hi h
      refine Ev.step (fun k => ?_) h
      rw [laws_toByteS.l0, if_pos (by omega), if_pos (by omega), if_pos (by simp; omega), wrap_up hi (by omega), rd_nat, Int.toNat_natCast, take_set _ _ _ hi _ (by simp; omega), List.tail_replicate]
      congr 3

/-! laws_eqByteS -/
-- plain: Evs
theorem laws_eqByteS_same (l : List Int) (hn : l.length ≤ 281474976710656) : Ev (fun k => laws_eqByteS.f k l l) true := by
  refine Ev.congr (f := fun k => laws_eqByteS.l0 k l l 0) (fun k => ?_) ?_
  · unfold laws_eqByteS.f; rw [if_pos rfl]
  · refine ev_up l.length (fun i k => laws_eqByteS.l0 k l l i) true ?_ ?_
    · refine ev_done fun k => ?_
      rw [laws_eqByteS.l0, if_neg (by omega)]
    · intro i hi h
      refine Ev.step (fun k => ?_) h
      rw [laws_eqByteS.l0, if_pos (by omega), if_pos (by omega), if_pos (by omega), if_pos rfl, wrap_up hi (by omega)]
theorem laws_eqByteS_of (l l' : List Int) (hl : l = l') (hn : l.length ≤ 281474976710656) : Ev (fun k => laws_eqByteS.f k l l') true := by
  subst hl; exact laws_eqByteS_same l hn

/-! laws_markByteS -/
-- plain: Evs
/-- What the marks write from the number x on. -/
def markedByte (n : Nat) (x : Int) : List Int := (List.range n).map fun (j : Nat) => (x + (j : Int)) % 256
theorem markedByte_length (n : Nat) (x : Int) : (markedByte n x).length = n := by simp [markedByte]
theorem markedByte_get (n : Nat) (x : Int) (i : Nat) (h : i < n) : (markedByte n x).getD i 0 = (x + (i : Int)) % 256 := by
  simp [markedByte, h]
theorem markedByte_take (n : Nat) (x : Int) (l : List Int) (hl : l.length = n) (i : Nat) (h : i < n) : ((markedByte n x).take i ++ l.drop i).set i ((x + (i : Int)) % 256) = (markedByte n x).take (i + 1) ++ l.drop (i + 1) := by
  rw [← markedByte_get n x i h, take_set _ _ _ (by rw [markedByte_length]; exact h) _ (by simp; omega), List.tail_drop]
theorem laws_markByteS_ev (l : List Int) (x : Int) (h0 : 0 ≤ x) (h1 : x + l.length ≤ 9223372036854775807) : Ev (fun k => laws_markByteS.f k l x) (x + l.length, markedByte l.length x) := by
  refine Ev.congr (f := fun k => laws_markByteS.l0 k l x 0) (fun k => rfl) ?_
  have key := ev_up l.length (fun i k => laws_markByteS.l0 k ((markedByte l.length x).take i ++ l.drop i) (x + i) i) (x + l.length, markedByte l.length x) ?_ ?_
  · simpa using key
  · refine ev_done fun k => ?_
    rw [laws_markByteS.l0, if_neg (by simp [markedByte_length])]
    rw [List.take_of_length_le (by simp [markedByte_length])]; simp
  · intro i hi h
    refine Ev.step (fun k => ?_) h
    rw [laws_markByteS.l0, if_pos (by simp [markedByte_length]; omega), if_pos (by omega), wrap_up hi (by omega), Int.toNat_natCast, markedByte_take _ _ _ rfl i hi, wrap_id (by omega) (by omega)]
    congr 1
    omega

/-! laws_heldByteS -/
-- plain: Evs
-- (behind laws_markByteS)
theorem laws_heldByteS_ev (n : Nat) (x : Int) (h0 : 0 ≤ x) (h1 : x + n ≤ 9223372036854775807) : Ev (fun k => laws_heldByteS.f k (markedByte n x) x) (x + n) := by
  refine Ev.congr (f := fun k => laws_heldByteS.l0 k (markedByte n x) x 0) (fun k => rfl) ?_
  have key := ev_up n (fun i k => laws_heldByteS.l0 k (markedByte n x) (x + i) i) (x + n) ?_ ?_
  · simpa using key
  · refine ev_done fun k => ?_
    rw [laws_heldByteS.l0, if_neg (by simp [markedByte_length])]
  · intro i hi h
    refine Ev.step (fun k => ?_) h
    rw [laws_heldByteS.l0, if_pos (by simp [markedByte_length]; omega), if_pos (by omega), rd_nat, markedByte_get n x i hi, if_pos rfl, wrap_up hi (by omega), wrap_id (by omega) (by omega)]
    congr 1
    omega

/-! impl_within -/
theorem impl_within_eq (a b c : Int) : impl_within.f a b c = some (decide (b ≤ a ∧ a ≤ c)) := by
  unfold impl_within.f
  split
  · rename_i h; simp [h]
  · rename_i h; simp [h]

/-! pkbits -/
-- plain: Evs
/-- both have laid down the same bits: m counts them, f what is free in the last byte. -/
def RelB (o : List Int) (m f : Int) (M : Nat) : Prop := 0 ≤ m ∧ m ≤ (M : Int) ∧ (o.length : Int) ≤ m ∧ f = (8 - m % 8) % 8 ∧ (m % 8 ≠ 0 → 0 < o.length)
theorem bit_both (o : List Int) (m f x : Int) (M : Nat) (h : RelB o m f M) (hM : M ≤ 1000000000) : ∃ o' f', spec_l2Bits_bit.f o m x = some (o', m + 1) ∧ impl_bitWriter_put.f o f x = some (o', f') ∧ RelB o' (m + 1) f' (M + 1) := by
  obtain ⟨h0, h1, h2, h3, h4⟩ := h
  have hf : 0 ≤ f ∧ f ≤ 8 := by omega
  have eo : putO o f = bitO o m := by
    unfold putO bitO
    by_cases h8 : m % 8 = 0
    · rw [if_pos (by omega), if_pos h8]
    · rw [if_neg (by omega), if_neg h8]
  have em : (8 : Int) - putM f = m % 8 := by
    unfold putM
    split <;> omega
  have hp : 0 < (bitO o m).length ∧ (bitO o m).length ≤ o.length + 1 := by
    unfold bitO
    by_cases h8 : m % 8 = 0
    · rw [if_pos h8, List.length_append, List.length_singleton]; omega
    · rw [if_neg h8]; have := h4 h8; omega
  have hz1 : m % 8 = 0 ∨ 0 < o.length := by
    by_cases h8 : m % 8 = 0
    · exact .inl h8
    · exact .inr (h4 h8)
  have hz2 : f = 0 ∨ 0 < o.length := by rcases hz1 with h | h; exact .inl (by omega); exact .inr h
  refine ⟨(bitO o m).set ((bitO o m).length - 1) (bits .or .u8 (rdOf 0 (bitO o m) (((bitO o m).length : Int) - 1)) (wrap64 (x * 2 ^ (m % 8).toNat) % 256)), putM f - 1, ?_, ?_, ?_⟩
  · unfold spec_l2Bits_bit.f
    rw [if_pos ⟨h0, by omega, hz1⟩, wrap_id (x := m + 1) (by omega) (by omega)]
  · unfold impl_bitWriter_put.f
    rw [if_pos ⟨hf, by omega, hz2⟩, eo, em]
  · refine ⟨by omega, by omega, ?_, by omega, fun _ => ?_⟩
    · rw [List.length_set]; omega
    · rw [List.length_set]; exact hp.1
theorem numberG_both (n : Int) : ∀ (r k : Nat) (o : List Int) (m f : Int) (M : Nat), RelB o m f M → M + r ≤ 1000000000 → ∃ o' f', spec_l2Bits_numberG n r k o m = some (o', m + (r : Int)) ∧ impl_bitWriter_numberG n r k o f = some (o', f') ∧ RelB o' (m + (r : Int)) f' (M + r) := by
  intro r
  induction r with
  | zero => intro k o m f M h hM; exact ⟨o, f, by simp [spec_l2Bits_numberG], rfl, by simpa using h⟩
  | succ r ih =>
    intro k o m f M h hM
    obtain ⟨o1, f1, h1, h2, h3⟩ := bit_both o m f (bits .and .i64 (n / 2 ^ k) 1) M h (by omega)
    obtain ⟨o2, f2, h4, h5, h6⟩ := ih (k + 1) o1 (m + 1) f1 (M + 1) h3 (by omega)
    have e : m + ((r + 1 : Nat) : Int) = m + 1 + (r : Int) := by omega
    rw [e, show M + (r + 1) = M + 1 + r by omega]
    exact ⟨o2, f2, by rw [spec_l2Bits_numberG, h1]; exact h4, by rw [impl_bitWriter_numberG, h2]; exact h5, h6⟩
theorem codeG_both (n : Int) : ∀ (r : Nat) (o : List Int) (m f : Int) (M : Nat), RelB o m f M → M + r ≤ 1000000000 → ∃ o' f', spec_l2Bits_codeG n r o m = some (o', m + (r : Int)) ∧ impl_bitWriter_codeG n r o f = some (o', f') ∧ RelB o' (m + (r : Int)) f' (M + r) := by
  intro r
  induction r with
  | zero => intro o m f M h hM; exact ⟨o, f, by simp [spec_l2Bits_codeG], rfl, by simpa using h⟩
  | succ r ih =>
    intro o m f M h hM
    obtain ⟨o1, f1, h1, h2, h3⟩ := bit_both o m f (bits .and .i64 (n / 2 ^ r) 1) M h (by omega)
    obtain ⟨o2, f2, h4, h5, h6⟩ := ih o1 (m + 1) f1 (M + 1) h3 (by omega)
    have e : m + ((r + 1 : Nat) : Int) = m + 1 + (r : Int) := by omega
    rw [e, show M + (r + 1) = M + 1 + r by omega]
    exact ⟨o2, f2, by rw [spec_l2Bits_codeG, h1]; exact h4, by rw [impl_bitWriter_codeG, h2]; exact h5, h6⟩
theorem RelB.up {o : List Int} {m f : Int} {M N : Nat} (h : RelB o m f M) (hN : M ≤ N) : RelB o m f N := by
  obtain ⟨h0, h1, h2, h3, h4⟩ := h
  exact ⟨h0, by omega, h2, h3, h4⟩
theorem number_both (o : List Int) (m f n c : Int) (M : Nat) (h : RelB o m f M) (hM : M ≤ 100000000) (hc : 0 ≤ c ∧ c ≤ 62) : ∃ o' m' f', spec_l2Bits_number.f o m n c = some (o', m') ∧ impl_bitWriter_number.f o f n c = some (o', f') ∧ RelB o' m' f' (M + 62) := by
  obtain ⟨o', f', h1, h2, h3⟩ := numberG_both n c.toNat 0 o m f M h (by omega)
  exact ⟨o', _, f', by unfold spec_l2Bits_number.f; rw [if_pos hc]; exact h1, by unfold impl_bitWriter_number.f; rw [if_pos hc]; exact h2, h3.up (by omega)⟩
theorem code_both (o : List Int) (m f n c : Int) (M : Nat) (h : RelB o m f M) (hM : M ≤ 100000000) (hc : 0 ≤ c ∧ c ≤ 62) : ∃ o' m' f', spec_l2Bits_code.f o m n c = some (o', m') ∧ impl_bitWriter_code.f o f n c = some (o', f') ∧ RelB o' m' f' (M + 62) := by
  obtain ⟨o', f', h1, h2, h3⟩ := codeG_both n c.toNat o m f M h (by omega)
  exact ⟨o', _, f', by unfold spec_l2Bits_code.f; rw [if_pos hc]; exact h1, by unfold impl_bitWriter_code.f; rw [if_pos hc]; exact h2, h3.up (by omega)⟩

/-! pkcodes -/
-- plain: Evs Bits
theorem pow15 (e : Nat) (h : e ≤ 15) : (0 : Int) < 2 ^ e ∧ (2 : Int) ^ e ≤ 32768 := by
  have : ∀ e : Fin 16, (0 : Int) < 2 ^ e.val ∧ (2 : Int) ^ e.val ≤ 32768 := by decide
  exact this ⟨e, by omega⟩
/-- what a length counts. -/
def krW (n x : Int) : Int := if 0 < x ∧ x < n then (2 : Int) ^ (15 - x).toNat else 0
def kr (n : Int) (l : List Int) : Int := (l.map (krW n)).sum
theorem krW_range (n x : Int) (h : 0 ≤ x ∧ x ≤ 15) : 0 ≤ krW n x ∧ krW n x ≤ 32768 := by
  unfold krW
  split
  · have h1 := pow15 (15 - x).toNat (by omega)
    omega
  · omega
theorem kr_range (n : Int) (l : List Int) (h : ∀ x ∈ l, 0 ≤ x ∧ x ≤ 15) : 0 ≤ kr n l ∧ kr n l ≤ 32768 * l.length := by
  induction l with
  | nil => simp [kr]
  | cons x l ih =>
    have := krW_range n x (h x (by simp))
    have := ih (fun y hy => h y (by simp [hy]))
    simp only [kr, List.map_cons, List.sum_cons, List.length_cons] at *
    omega
theorem kr_append (n : Int) (l m : List Int) : kr n (l ++ m) = kr n l + kr n m := by simp [kr]
theorem kr_one (n x : Int) : kr n [x] = krW n x := by simp [kr]
theorem kr_up (n : Int) (h1 : 1 ≤ n) (h : n ≤ 15) (x : Int) : krW (n + 1) x = krW n x + if x = n then (2 : Int) ^ (15 - n).toNat else 0 := by
  unfold krW
  by_cases e : x = n
  · subst e; rw [if_pos (by omega), if_neg (by omega), if_pos rfl]; omega
  · rw [if_neg e]
    by_cases h2 : 0 < x ∧ x < n
    · rw [if_pos (by omega), if_pos h2]; omega
    · rw [if_neg (by omega), if_neg h2]; omega
theorem kr_16 (x : Int) (h : 0 ≤ x ∧ x ≤ 15) : krW 16 x = if 0 < x then (2 : Int) ^ (15 - x).toNat else 0 := by
  unfold krW
  by_cases e : 0 < x
  · rw [if_pos (by omega), if_pos e]
  · rw [if_neg (by omega), if_neg e]
theorem shl_one (e : Int) (h0 : 0 ≤ e) (h1 : e ≤ 15) : shl .i64 1 e = (2 : Int) ^ e.toNat := by
  have := pow15 e.toNat (by omega)
  unfold shl
  rw [Nat.min_eq_left (by simp [IntKind.bits]; omega), Int.one_mul, IntKind.wrap_i64]
  omega
theorem part_up (n : Int) (h1 : 1 ≤ n) (h : n ≤ 15) (l : List Int) (i : Nat) (hi : i < l.length) :
    kr (n + 1) (l.take (i + 1)) + kr n (l.drop (i + 1)) = kr (n + 1) (l.take i) + kr n (l.drop i) + if l.getD i 0 = n then (2 : Int) ^ (15 - n).toNat else 0 := by
  have e1 : l.take (i + 1) = l.take i ++ [l.getD i 0] := by
    rw [List.take_add_one, List.getElem?_eq_getElem hi, List.getD_eq_getElem?_getD, List.getElem?_eq_getElem hi]; rfl
  rw [e1, drop_cons l 0 i hi, kr_append, kr_one, kr_up n h1 h, show kr n (l.getD i 0 :: l.drop (i + 1)) = krW n (l.getD i 0) + kr n (l.drop (i + 1)) by simp [kr]]
  omega
theorem all_get (l : List Int) (h : ∀ x ∈ l, 0 ≤ x ∧ x ≤ 15) (i : Nat) : 0 ≤ l.getD i 0 ∧ l.getD i 0 ≤ 15 := by
  rw [List.getD_eq_getElem?_getD]
  by_cases hi : i < l.length
  · rw [List.getElem?_eq_getElem hi]; exact h _ (List.getElem_mem hi)
  · rw [List.getElem?_eq_none (by omega)]; simp
theorem kr1 (l : List Int) : kr 1 l = 0 := by
  induction l with
  | nil => rfl
  | cons x l ih =>
    have e : kr 1 (x :: l) = krW 1 x + kr 1 l := by simp [kr]
    have e2 : krW 1 x = 0 := by unfold krW; rw [if_neg (by omega)]
    rw [e, ih, e2]; rfl
theorem codes_zero (l : List Int) (hl : l.length ≤ 300) (h : ∀ x ∈ l, 0 ≤ x ∧ x ≤ 15) (h7 : ∀ i, i < l.length → 7 ≤ l.getD i 0) (h256 : ∀ i, i < 256 → l.getD i 0 ≠ 7) (hx : l.getD 256 0 = 7) : ∀ (m : Nat) (n : Int) (out : List Int) (c : Int), 1 ≤ n → n + m = 16 → out.length = l.length → out.getD 256 0 = 0 → (n ≤ 7 → c = 0) →
    ∃ r, Ev (fun k => spec_l2Codes.l0 k l out c n) r ∧ Ev (fun k => impl_codesBy.l0 k l out (kr n l) c n) (r, kr 16 l) ∧ r.length = l.length ∧ r.getD 256 0 = 0 := by
  intro m
  induction m with
  | zero =>
    intro n out c h1 h2 ho ho2 hcz
    obtain rfl : n = 16 := by omega
    exact ⟨out, ev_done fun k => by rw [spec_l2Codes.l0, if_neg (by omega)], ev_done fun k => by rw [impl_codesBy.l0, if_neg (by omega)], ho, ho2⟩
  | succ m ih =>
    intro n out c h1 h2 ho ho2 hcz
    have inner : ∀ (j i : Nat) (out : List Int) (c : Int), i + j = l.length → out.length = l.length → out.getD 256 0 = 0 → (n < 7 ∨ (n = 7 ∧ i ≤ 256) → c = 0) →
        ∃ r, Ev (fun k => spec_l2Codes.l1 k l out c n l l.length i) r ∧ Ev (fun k => impl_codesBy.l1 k l out (kr (n + 1) (l.take i) + kr n (l.drop i)) c n l l.length i) (r, kr 16 l) ∧ r.length = l.length ∧ r.getD 256 0 = 0 := by
      intro j
      induction j with
      | zero =>
        intro i out c hi ho ho2 hcz
        obtain ⟨r, h3, h4, h5⟩ := ih (n + 1) out c (by omega) (by omega) ho ho2 (fun hh => hcz (.inl (by omega)))
        refine ⟨r, Ev.step (fun k => ?_) h3, Ev.step (fun k => ?_) h4, h5⟩
        · rw [spec_l2Codes.l1, if_neg (by omega), wrap_id (by omega) (by omega)]
        · rw [impl_codesBy.l1, if_neg (by omega), wrap_id (by omega) (by omega), List.take_of_length_le (by omega), List.drop_eq_nil_of_le (by omega)]; simp [kr]
      | succ j ih2 =>
        intro i out c hi ho ho2 hcz
        have hil : i < l.length := by omega
        have hpu := part_up n h1 (by omega) l i hil
        have hb := kr_range (n + 1) (l.take i) (fun x hx => h x (List.mem_of_mem_take hx))
        have hb2 := kr_range n (l.drop i) (fun x hx => h x (List.mem_of_mem_drop hx))
        have hlt : (l.take i).length ≤ 300 ∧ (l.drop i).length ≤ 300 := by simp; omega
        have hp := pow15 (15 - n).toNat (by omega)
        by_cases he : l.getD i 0 = n
        · have g7 := h7 i hil
          obtain ⟨r, h3, h4, h5⟩ := ih2 (i + 1) (out.set i c) (wrap64 (c + 1)) (by omega) (by simpa using ho) (by
            rw [List.getD_eq_getElem?_getD, List.getElem?_set]
            by_cases hi6 : i = 256
            · subst hi6
              rw [if_pos rfl, if_pos (by omega), Option.getD_some]
              exact hcz (.inr ⟨by omega, by omega⟩)
            · rw [if_neg hi6, ← List.getD_eq_getElem?_getD]; exact ho2) (fun hh => by
            rcases hh with hh | ⟨hh, hh2⟩
            · omega
            · exact absurd (by omega) (h256 i (by omega)))
          rw [if_pos he] at hpu
          rw [hpu] at h4
          refine ⟨r, Ev.step (fun k => ?_) h3, Ev.step (fun k => ?_) h4, h5⟩
          · rw [spec_l2Codes.l1, if_pos (by omega), if_pos (by omega), if_pos (by omega), rd_nat, if_pos he, if_pos (by omega), wrap_up hil (by omega), Int.toNat_natCast]
          · rw [impl_codesBy.l1, if_pos (by omega), if_pos (by omega), if_pos (by omega), rd_nat, if_pos he, if_pos (by omega), wrap_id (x := 15 - n) (by omega) (by omega), if_pos (by omega), shl_one _ (by omega) (by omega), wrap_up hil (by omega), Int.toNat_natCast, wrap_id (x := _ + 2 ^ _) (by omega) (by omega)]
        · obtain ⟨r, h3, h4, h5⟩ := ih2 (i + 1) out c (by omega) ho ho2 (fun hh => hcz (by omega))
          rw [if_neg he, Int.add_zero] at hpu
          rw [hpu] at h4
          refine ⟨r, Ev.step (fun k => ?_) h3, Ev.step (fun k => ?_) h4, h5⟩
          · rw [spec_l2Codes.l1, if_pos (by omega), if_pos (by omega), if_pos (by omega), rd_nat, if_neg he, wrap_up hil (by omega)]
          · rw [impl_codesBy.l1, if_pos (by omega), if_pos (by omega), if_pos (by omega), rd_nat, if_neg he, wrap_up hil (by omega)]
    obtain ⟨r, h3, h4, h5⟩ := inner l.length 0 out (wrap64 (c * 2)) (by omega) ho ho2 (fun hh => by rw [hcz (by omega), wrap_id (by omega) (by omega)]; rfl)
    refine ⟨r, Ev.step (fun k => ?_) h3, Ev.step (fun k => ?_) h4, h5⟩
    · rw [spec_l2Codes.l0, if_pos (by omega)]; rfl
    · rw [impl_codesBy.l0, if_pos (by omega)]; simp [kr]
def fxV (i : Nat) : Int := if i < 144 then 8 else if i < 256 then 9 else if i < 280 then 7 else 8
def fxL : Nat → Nat → List Int
  | 0, _ => []
  | m + 1, i => fxV i :: fxL m (i + 1)
theorem fxL_len : ∀ m i : Nat, (fxL m i).length = m := by
  intro m
  induction m with
  | zero => intro i; rfl
  | succ m ih => intro i; unfold fxL; rw [List.length_cons, ih]
theorem fxL_get : ∀ m i j : Nat, j < m → (fxL m i).getD j 0 = fxV (i + j) := by
  intro m
  induction m with
  | zero => intro i j h; omega
  | succ m ih =>
    intro i j h
    unfold fxL
    cases j with
    | zero => rfl
    | succ j => rw [List.getD_cons_succ, ih (i + 1) j (by omega), show i + 1 + j = i + (j + 1) by omega]
theorem fxV_range (i : Nat) : 7 ≤ fxV i ∧ fxV i ≤ 9 := by unfold fxV; split <;> (try split) <;> (try split) <;> omega
theorem fxL_mem (m i : Nat) : ∀ x ∈ fxL m i, 7 ≤ x ∧ x ≤ 9 := by
  intro x hx
  obtain ⟨j, hj, rfl⟩ := List.mem_iff_getElem.mp hx
  rw [fxL_len] at hj
  have := fxL_get m i j hj
  rw [List.getD_eq_getElem?_getD, List.getElem?_eq_getElem (by rw [fxL_len]; exact hj), Option.getD_some] at this
  rw [this]
  exact fxV_range _
theorem spec_fixed_l0 : ∀ (m i : Nat) (acc : List Int), i + m = 288 → acc.length ≤ 1000 + i → Ev (fun k => spec_l2Fixed.l0 k acc (i : Int)) (acc ++ fxL m i) := by
  intro m
  induction m with
  | zero =>
    intro i acc h1 h2
    unfold fxL
    rw [List.append_nil]
    exact Ev.step (fun k => spec_l2Fixed.l0.eq_2 ..) (ev_if_neg (by omega) (Ev.now _))
  | succ m ih =>
    intro i acc h1 h2
    have hw : ∀ _ : Unit, wrap64 ((i : Int) + 1) = ((i + 1 : Nat) : Int) := fun _ => by rw [wrap_id (x := (i : Int) + 1) (by omega) (by omega)]; omega
    have g := ih (i + 1) (acc ++ [fxV i]) (by omega) (by rw [List.length_append, List.length_singleton]; omega)
    rw [List.append_assoc] at g
    have g : Ev (fun k => spec_l2Fixed.l0 k (acc ++ [fxV i]) (wrap64 ((i : Int) + 1))) (acc ++ fxL (m + 1) i) := by rw [hw ()]; exact g
    refine Ev.step (fun k => spec_l2Fixed.l0.eq_2 ..) (ev_if_pos (by omega) ?_)
    have hal : acc.length < 17592186044416 := by omega
    by_cases a1 : i < 144
    · refine ev_if_pos (by omega) (Ev.step (fun k => spec_l2Fixed.j1.eq_2 ..) (ev_if_pos rfl (ev_if_pos hal ?_)))
      rw [show fxV i = 8 by unfold fxV; rw [if_pos a1]] at g; exact g
    refine ev_if_neg (by omega) ?_
    by_cases a2 : i < 256
    · rw [decide_eq_false (by omega)]
      refine Ev.step (fun k => spec_l2Fixed.j1.eq_2 ..) (ev_if_neg (by decide) (ev_if_pos (by omega) (ev_if_pos hal ?_)))
      rw [show fxV i = 9 by unfold fxV; rw [if_neg a1, if_pos a2]] at g; exact g
    by_cases a3 : i < 280
    · rw [decide_eq_false (by omega)]
      refine Ev.step (fun k => spec_l2Fixed.j1.eq_2 ..) (ev_if_neg (by decide) (ev_if_neg (by omega) (ev_if_pos hal ?_)))
      rw [show fxV i = 7 by unfold fxV; rw [if_neg a1, if_neg a2, if_pos a3]] at g; exact g
    · rw [decide_eq_true (by omega)]
      refine Ev.step (fun k => spec_l2Fixed.j1.eq_2 ..) (ev_if_pos rfl (ev_if_pos hal ?_))
      rw [show fxV i = 8 by unfold fxV; rw [if_neg a1, if_neg a2, if_neg a3]] at g; exact g
theorem impl_fixed_l0 : ∀ (m i : Nat) (acc : List Int), i + m = 288 → acc.length ≤ 1000 + i → Ev (fun k => impl_fixedLengths.l0 k acc (i : Int)) (acc ++ fxL m i) := by
  intro m
  induction m with
  | zero =>
    intro i acc h1 h2
    unfold fxL
    rw [List.append_nil]
    exact Ev.step (fun k => impl_fixedLengths.l0.eq_2 ..) (ev_if_neg (by omega) (Ev.now _))
  | succ m ih =>
    intro i acc h1 h2
    have hw : ∀ _ : Unit, wrap64 ((i : Int) + 1) = ((i + 1 : Nat) : Int) := fun _ => by rw [wrap_id (x := (i : Int) + 1) (by omega) (by omega)]; omega
    have g := ih (i + 1) (acc ++ [fxV i]) (by omega) (by rw [List.length_append, List.length_singleton]; omega)
    rw [List.append_assoc] at g
    have g : Ev (fun k => impl_fixedLengths.l0 k (acc ++ [fxV i]) (wrap64 ((i : Int) + 1))) (acc ++ fxL (m + 1) i) := by rw [hw ()]; exact g
    refine Ev.step (fun k => impl_fixedLengths.l0.eq_2 ..) (ev_if_pos (by omega) ?_)
    have hal : acc.length < 17592186044416 := by omega
    by_cases a1 : i < 144
    · refine ev_if_pos (by omega) (ev_if_pos hal ?_)
      rw [show fxV i = 8 by unfold fxV; rw [if_pos a1]] at g; exact g
    refine ev_if_neg (by omega) ?_
    by_cases a2 : i < 256
    · refine ev_if_pos (by omega) (ev_if_pos hal ?_)
      rw [show fxV i = 9 by unfold fxV; rw [if_neg a1, if_pos a2]] at g; exact g
    refine ev_if_neg (by omega) ?_
    by_cases a3 : i < 280
    · refine ev_if_pos (by omega) (ev_if_pos hal ?_)
      rw [show fxV i = 7 by unfold fxV; rw [if_neg a1, if_neg a2, if_pos a3]] at g; exact g
    · refine ev_if_neg (by omega) (ev_if_pos hal ?_)
      rw [show fxV i = 8 by unfold fxV; rw [if_neg a1, if_neg a2, if_neg a3]] at g; exact g
theorem fixed_rows : ∃ cs : List Int, Ev (fun k => spec_l2Fixed.f k) (fxL 288 0) ∧ Ev (fun k => impl_fixedLengths.f k) (fxL 288 0) ∧ Ev (fun k => spec_l2Codes.f k (fxL 288 0)) cs ∧ (∃ s, Ev (fun k => impl_codesBy.f k (fxL 288 0)) (cs, s)) ∧ cs.length = 288 ∧ cs.getD 256 0 = 0 := by
  have hlen := fxL_len 288 0
  have hget := fxL_get 288 0
  have hmem := fxL_mem 288 0
  have s1 := spec_fixed_l0 288 0 [] (by omega) (by simp)
  have s2 := impl_fixed_l0 288 0 [] (by omega) (by simp)
  rw [List.nil_append] at s1 s2
  generalize fxL 288 0 = l at *
  obtain ⟨c, h3, h4, h5, h6⟩ := codes_zero l (by omega) (fun x hx => by have := hmem x hx; omega) (fun i hi => by rw [hget i (by omega)]; exact (fxV_range _).1) (fun i hi => by rw [hget i (by omega)]; unfold fxV; split <;> (try split) <;> omega) (by rw [hget 256 (by omega)]; rfl) 15 1 (List.replicate l.length 0) 0 (by omega) (by omega) (by simp) (by rw [List.getD_eq_getElem?_getD, List.getElem?_replicate]; split <;> rfl) (fun _ => rfl)
  have hs : Ev (fun k => spec_l2Codes.f k l) c := Ev.congr (fun k => by unfold spec_l2Codes.f; rw [if_pos (by omega), if_pos (by omega)]; rfl) h3
  have k1 := kr1 l
  rw [k1] at h4
  have hi : Ev (fun k => impl_codesBy.f k l) (c, kr 16 l) := Ev.congr (fun k => by unfold impl_codesBy.f; rw [if_pos (by omega), if_pos (by omega)]; rfl) h4
  exact ⟨c, s1, s2, hs, ⟨_, hi⟩, by omega, h6⟩

end Go.Proofs.Ytfogfjmkngoegaa.Pure
