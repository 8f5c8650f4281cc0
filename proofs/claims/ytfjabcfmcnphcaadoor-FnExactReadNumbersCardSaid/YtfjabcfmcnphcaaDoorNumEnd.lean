/- Plain words: where a number at the front of a text ends. -/
import Derived.Test.YtfjabcfmcnphcaaDoorNum
set_option linter.unusedVariables false
set_option linter.unusedSimpArgs false
namespace Go.Proofs.YtfjabcfmcnphcaaDoor.Plain
open Go.RowKit Go.Proofs.YtfjabcfmcnphcaaDoorW.PrintWords
theorem takeWhile_take_ (q : UInt8 → Bool) : ∀ (m : Nat) (xs : List UInt8), (xs.take m).takeWhile q = (xs.takeWhile q).take m
  | 0, xs => by simp
  | m + 1, [] => by simp
  | m + 1, x :: xs => by
    rw [List.take_succ_cons, List.takeWhile_cons, List.takeWhile_cons]
    by_cases h : q x = true
    · rw [if_pos h, if_pos h, List.take_succ_cons, takeWhile_take_ q m xs]
    · rw [if_neg h, if_neg h]; simp
theorem digEnd_take (l : List UInt8) (p e : Nat) (hp : p ≤ e) (h : digEnd l p ≤ e) : digEnd (l.take e) p = digEnd l p := by
  unfold digEnd runEnd at *
  rw [List.drop_take, takeWhile_take_, List.length_take]
  omega
theorem getD_take (l : List UInt8) (e j : Nat) (h : j < e) : (l.take e).getD j 0 = l.getD j 0 := by
  rw [List.getD_eq_getElem?_getD, List.getD_eq_getElem?_getD, List.getElem?_take_of_lt h]
theorem digV_take (l : List UInt8) (e j : Nat) (h : j < e) : digV (l.take e) j = digV l j := by unfold digV; rw [getD_take l e j h]
theorem accD_take (l : List UInt8) (e q v0 cap : Nat) : ∀ j, q + j ≤ e → accD (l.take e) q v0 cap j = accD l q v0 cap j
  | 0, _ => rfl
  | j + 1, h => by rw [accD, accD, accD_take l e q v0 cap j (by omega), digV_take l e (q + j) (by omega)]
/-- where the number at the front ends: a sign, digits, a point and digits. -/
def numEnd (l : List UInt8) : Nat :=
  if digEnd l (signAt l) + 1 < l.length ∧ (l.getD (digEnd l (signAt l)) 0).toNat = 46 ∧ digU (l.getD (digEnd l (signAt l) + 1) 0) = true then digEnd l (digEnd l (signAt l) + 1) else digEnd l (signAt l)
theorem signAt_le (l : List UInt8) : signAt l ≤ l.length := by unfold signAt; split <;> omega
theorem numEnd_le (l : List UInt8) : numEnd l ≤ l.length := by
  unfold numEnd
  split
  · exact digEnd_le l _ (by omega)
  · exact digEnd_le l _ (signAt_le l)
theorem numEnd_ge (l : List UInt8) : digEnd l (signAt l) ≤ numEnd l := by
  unfold numEnd
  split
  · have := digEnd_ge l (digEnd l (signAt l) + 1); omega
  · omega
theorem decimalP_take (l : List UInt8) : decimalP (l.take (numEnd l)) = decimalP l := by
  have hge := numEnd_ge l
  have hle := numEnd_le l
  have hp := digEnd_ge l (signAt l)
  have hlen : (l.take (numEnd l)).length = numEnd l := by rw [List.length_take]; omega
  have hs : signAt (l.take (numEnd l)) = signAt l ∧ negAt (l.take (numEnd l)) = negAt l := by
    by_cases h0 : 0 < numEnd l
    · unfold signAt negAt
      rw [getD_take l _ 0 h0, hlen]
      have e1 : (0 < numEnd l) = (0 < l.length) := by apply propext; omega
      simp only [e1]
      exact ⟨trivial, trivial⟩
    · have hz : signAt l = 0 := by omega
      have hn : ¬ (0 < l.length ∧ ((l.getD 0 0).toNat = 45 ∨ (l.getD 0 0).toNat = 43)) := fun h => by unfold signAt at hz; rw [if_pos h] at hz; omega
      constructor
      · rw [hz]; unfold signAt; rw [if_neg (by rw [hlen]; omega)]
      · unfold negAt; rw [hlen, decide_eq_false (by omega), eq_comm, decide_eq_false_iff_not]; exact fun h => hn ⟨h.1, .inl h.2⟩
  have hd : digEnd (l.take (numEnd l)) (signAt l) = digEnd l (signAt l) := digEnd_take l _ _ (by omega) hge
  unfold decimalP
  rw [hs.1, hs.2, hd, hlen]
  by_cases hc : digEnd l (signAt l) + 1 < l.length ∧ (l.getD (digEnd l (signAt l)) 0).toNat = 46 ∧ digU (l.getD (digEnd l (signAt l) + 1) 0) = true
  · have he : numEnd l = digEnd l (digEnd l (signAt l) + 1) := by unfold numEnd; rw [if_pos hc]
    have h2 : digEnd l (digEnd l (signAt l) + 1) = digEnd l (digEnd l (signAt l) + 1 + 1) := runEnd_yes digU l _ hc.1 hc.2.2
    have h3 := digEnd_ge l (digEnd l (signAt l) + 1 + 1)
    rw [if_pos hc, if_pos (by rw [getD_take l _ _ (by omega), getD_take l _ _ (by omega)]; exact ⟨by omega, hc.2⟩)]
    rw [digEnd_take l _ _ (by omega) (by omega), accD_take l _ _ _ _ _ (by omega), accD_take l _ _ _ _ _ (by omega)]
  · have he : numEnd l = digEnd l (signAt l) := by unfold numEnd; rw [if_neg hc]
    rw [if_neg hc, if_neg (by omega), accD_take l _ _ _ _ _ (by omega)]
theorem finD_one (w : Nat) (neg : Bool) (n a b : Nat) : (finD w neg n a b).1 = 0 ∨ (finD w neg n a b).1 = (w : Int) := by
  unfold finD
  split
  · exact .inl rfl
  · split
    · exact .inr rfl
    · exact .inl rfl
theorem decimalP_one (l : List UInt8) : (decimalP l).1 = 0 ∨ (decimalP l).1 = (numEnd l : Int) := by
  unfold decimalP numEnd
  split
  · exact finD_one _ _ _ _ _
  · exact finD_one _ _ _ _ _
theorem readP_take (l : List UInt8) : readP (l.take (numEnd l)) = if (decimalP l).1 = 0 then (0, false) else ((decimalP l).2, true) := by
  have hle := numEnd_le l
  unfold readP
  rw [decimalP_take, List.length_take]
  by_cases h : (decimalP l).1 = 0
  · rw [if_pos h, if_pos h]
  · rw [if_neg h, if_neg h, if_neg]
    rcases decimalP_one l with h1 | h1
    · exact absurd h1 h
    · omega
end Go.Proofs.YtfjabcfmcnphcaaDoor.Plain
