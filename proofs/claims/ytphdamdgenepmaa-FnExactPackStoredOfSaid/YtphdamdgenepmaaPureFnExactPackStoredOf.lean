/- PackStoredOf: the program's PackStoredOf answers as the reference's at all bytes, writes into none, and its answer is its own; no condition. -/
import Derived.Test.YtphdamdgenepmaaPFnExactPackStoredOfx2
import Derived.Test.YtphdamdgenepmaaPlain
import Derived.Test.YtphdamdgenepmaaBits
import Derived.Test.YtphdamdgenepmaaEvs
set_option linter.unusedVariables false
set_option linter.unusedSimpArgs false
namespace Go.Proofs.Ytphdamdgenepmaa.Pure
open Go.RowKit Go.Proofs.Ytphdamdgenepmaa.PFnExactPackStoredOf Go.Proofs.YtphdamdgenepmaaW.PrintWords Go.Proofs.YtphdamdgenepmaaW.PrintLast Go.Proofs.YtphdamdgenepmaaW.PrintMore Go.Proofs.Ytphdamdgenepmaa.Plain

/-! laws_toByteS -/
-- plain: Evs
theorem laws_toByteS_ev (l : List Int) (hn : l.length ≤ 281474976710656) : Ev (fun k => laws_toByteS.f k l) l := by
  refine Ev.congr (f := fun k => laws_toByteS.l0 k l (List.replicate l.length 0) 0) (fun k => ?_) ?_
  · unfold laws_toByteS.f; rw [if_pos (by omega), if_pos (by omega)]; rfl
  · refine ev_up l.length (fun i k => laws_toByteS.l0 k l (l.take i ++ List.replicate (l.length - i) 0) i) l ?_ ?_
    · refine ev_done fun k => ?_
      rw [laws_toByteS.l0, if_neg (by omega)]; simp
    · intro i hi h
      refine Ev.step (fun k => ?_) h
      rw [laws_toByteS.l0, if_pos (by omega), if_pos (by omega), if_pos (by simp; omega), wrap_up hi (by omega), rd_nat, Int.toNat_natCast, take_set _ _ _ hi _ (by simp; omega), List.tail_replicate]
      congr 3

/-! laws_eqByteS -/
-- plain: Evs
theorem laws_eqByteS_same (l : List Int) (hn : l.length ≤ 281474976710656) : Ev (fun k => laws_eqByteS.f k l l) true := by
  refine Ev.congr (f := fun k => laws_eqByteS.l0 k l l 0) (fun k => ?_) ?_
  · unfold laws_eqByteS.f; rw [if_pos rfl]
  · refine ev_up l.length (fun i k => laws_eqByteS.l0 k l l i) true ?_ ?_
    · refine ev_done fun k => ?_
      rw [laws_eqByteS.l0, if_neg (by omega)]
    · intro i hi h
      refine Ev.step (fun k => ?_) h
      rw [laws_eqByteS.l0, if_pos (by omega), if_pos (by omega), if_pos (by omega), if_pos rfl, wrap_up hi (by omega)]
theorem laws_eqByteS_of (l l' : List Int) (hl : l = l') (hn : l.length ≤ 281474976710656) : Ev (fun k => laws_eqByteS.f k l l') true := by
  subst hl; exact laws_eqByteS_same l hn

/-! laws_markByteS -/
-- plain: Evs
/-- What the marks write from the number x on. -/
def markedByte (n : Nat) (x : Int) : List Int := (List.range n).map fun (j : Nat) => (x + (j : Int)) % 256
theorem markedByte_length (n : Nat) (x : Int) : (markedByte n x).length = n := by simp [markedByte]
theorem markedByte_get (n : Nat) (x : Int) (i : Nat) (h : i < n) : (markedByte n x).getD i 0 = (x + (i : Int)) % 256 := by
  simp [markedByte, h]
theorem markedByte_take (n : Nat) (x : Int) (l : List Int) (hl : l.length = n) (i : Nat) (h : i < n) : ((markedByte n x).take i ++ l.drop i).set i ((x + (i : Int)) % 256) = (markedByte n x).take (i + 1) ++ l.drop (i + 1) := by
  rw [← markedByte_get n x i h, take_set _ _ _ (by rw [markedByte_length]; exact h) _ (by simp; omega), List.tail_drop]
theorem laws_markByteS_ev (l : List Int) (x : Int) (h0 : 0 ≤ x) (h1 : x + l.length ≤ 9223372036854775807) : Ev (fun k => laws_markByteS.f k l x) (x + l.length, markedByte l.length x) := by
  refine Ev.congr (f := fun k => laws_markByteS.l0 k l x 0) (fun k => rfl) ?_
  have key := ev_up l.length (fun i k => laws_markByteS.l0 k ((markedByte l.length x).take i ++ l.drop i) (x + i) i) (x + l.length, markedByte l.length x) ?_ ?_
  · simpa using key
  · refine ev_done fun k => ?_
    rw [laws_markByteS.l0, if_neg (by simp [markedByte_length])]
    rw [List.take_of_length_le (by simp [markedByte_length])]; simp
  · intro i hi h
    refine Ev.step (fun k => ?_) h
    rw [laws_markByteS.l0, if_pos (by simp [markedByte_length]; omega), if_pos (by omega), wrap_up hi (by omega), Int.toNat_natCast, markedByte_take _ _ _ rfl i hi, wrap_id (by omega) (by omega)]
    congr 1
    omega

/-! laws_heldByteS -/
-- plain: Evs
-- (behind laws_markByteS)
theorem laws_heldByteS_ev (n : Nat) (x : Int) (h0 : 0 ≤ x) (h1 : x + n ≤ 9223372036854775807) : Ev (fun k => laws_heldByteS.f k (markedByte n x) x) (x + n) := by
  refine Ev.congr (f := fun k => laws_heldByteS.l0 k (markedByte n x) x 0) (fun k => rfl) ?_
  have key := ev_up n (fun i k => laws_heldByteS.l0 k (markedByte n x) (x + i) i) (x + n) ?_ ?_
  · simpa using key
  · refine ev_done fun k => ?_
    rw [laws_heldByteS.l0, if_neg (by simp [markedByte_length])]
  · intro i hi h
    refine Ev.step (fun k => ?_) h
    rw [laws_heldByteS.l0, if_pos (by simp [markedByte_length]; omega), if_pos (by omega), rd_nat, markedByte_get n x i hi, if_pos rfl, wrap_up hi (by omega), wrap_id (by omega) (by omega)]
    congr 1
    omega

-- plain: Evs Bits
def storedOf (l : List Int) : List Int × Bool := if (l.length : Int) > 6000 then ([], false) else ([1, (l.length : Int) % 256, (l.length : Int) / 256 % 256, 255 - (l.length : Int) % 256, 255 - (l.length : Int) / 256 % 256] ++ l, true)
theorem spec_PackStoredOf_eq (l : List Int) : spec_PackStoredOf.f l = some (storedOf l) := by
  unfold spec_PackStoredOf.f storedOf
  by_cases h : (l.length : Int) > 6000
  · rw [if_pos h, if_pos h]
  · rw [if_neg h, if_neg h, spec_l2Stored.f]
    rw [compl_i64 _ (by omega) (by omega)]
    rw [show (-1 - (l.length : Int)) % 256 = 255 - (l.length : Int) % 256 by omega, show (-1 - (l.length : Int)) / 256 % 256 = 255 - (l.length : Int) / 256 % 256 by omega]
    rw [Option.bind_some, if_pos (by simp only [List.length_cons, List.length_nil]; omega), Option.bind_some]
theorem impl_PackStoredOf_eq (l : List Int) : impl_PackStoredOf.f l = some (storedOf l) := by
  unfold impl_PackStoredOf.f storedOf
  by_cases h : (l.length : Int) > 6000
  · rw [if_pos h, if_pos h]
  · rw [if_neg h, if_neg h]
    rw [compl_u8 _ (by omega) (by omega), compl_u8 _ (by omega) (by omega)]
    rw [Option.bind_some, if_pos (by simp only [List.length_cons, List.length_nil]; omega)]
theorem storedOf_length (l : List Int) : (storedOf l).1.length ≤ 6005 := by
  unfold storedOf
  by_cases h : (l.length : Int) > 6000
  · rw [if_pos h]; simp
  · rw [if_neg h]; simp; omega
theorem FnExactPackStoredOf : laws_FnExactPackStoredOf.Pure := by
  intro l hm hb hw
  by_cases hlen : (l.length : Int) > 1048576
  · exact ⟨0, by unfold laws_FnExactPackStoredOf.f; rw [if_pos hlen]⟩
  have hs := spec_PackStoredOf_eq l
  have hi := impl_PackStoredOf_eq l
  have hr := storedOf_length l
  generalize storedOf l = rb at hs hi hr
  obtain ⟨r, b⟩ := rb
  simp only at hr
  refine Ev.rounds ?_
  simp only [laws_FnExactPackStoredOf.f]
  refine ev_if_neg hlen ?_
  refine ev_bind (laws_toByteS_ev l (by omega)) ?_
  refine ev_bind0 hs ?_
  refine ev_bind (laws_toByteS_ev l (by omega)) ?_
  refine ev_bind0 hi ?_
  refine ev_bind (laws_eqByteS_same r (by omega)) ?_
  refine ev_if_pos rfl ?_
  refine Ev.step (fun k => laws_FnExactPackStoredOf.j0.eq_2 ..) ?_
  refine ev_if_neg (by simp) ?_
  refine ev_bind (laws_toByteS_ev l (by omega)) ?_
  refine ev_bind (laws_eqByteS_same l (by omega)) ?_
  refine ev_if_pos rfl ?_
  refine ev_bind (laws_markByteS_ev l 1 (by omega) (by omega)) ?_
  refine ev_if_neg (by simp only; omega) ?_
  refine ev_bind (laws_eqByteS_same r (by omega)) ?_
  refine ev_if_pos rfl ?_
  refine Ev.step (fun k => laws_FnExactPackStoredOf.j1.eq_2 ..) ?_
  refine ev_if_neg (by simp) ?_
  refine ev_bind (laws_markByteS_ev r 1 (by omega) (by omega)) ?_
  refine ev_bind (laws_heldByteS_ev r.length 1 (by omega) (by omega)) ?_
  refine ev_if_neg (by omega) ?_
  refine ev_if_pos rfl ?_
  refine ev_bind (laws_toByteS_ev l (by omega)) ?_
  refine ev_bind0 hi ?_
  refine ev_bind (laws_eqByteS_same r (by omega)) ?_
  refine ev_if_pos rfl ?_
  refine Ev.step (fun k => laws_FnExactPackStoredOf.j2.eq_2 ..) ?_
  refine ev_if_neg (by simp) ?_
  refine ev_bind (laws_heldByteS_ev r.length 1 (by omega) (by omega)) ?_
  refine ev_if_neg (by omega) ?_
  exact ev_if_pos rfl (Ev.now true)

end Go.Proofs.Ytphdamdgenepmaa.Pure
