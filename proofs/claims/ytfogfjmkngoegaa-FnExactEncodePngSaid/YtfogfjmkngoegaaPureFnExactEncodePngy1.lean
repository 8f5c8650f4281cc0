/- Lemmas for the pure statement of FnExactEncodePng, part 1. -/
import Derived.Test.YtfogfjmkngoegaaPFnExactEncodePngx11
import Derived.Test.YtfogfjmkngoegaaPlain
import Derived.Test.YtfogfjmkngoegaaBits
import Derived.Test.YtfogfjmkngoegaaEvs
import Derived.Test.YtfogfjmkngoegaaFix
import Derived.Test.YtfogfjmkngoegaaPng
set_option linter.unusedVariables false
set_option linter.unusedSimpArgs false
namespace Go.Proofs.Ytfogfjmkngoegaa.Pure
open Go.RowKit Go.Proofs.Ytfogfjmkngoegaa.PFnExactEncodePng Go.Proofs.YtfogfjmkngoegaaW.PrintWords Go.Proofs.YtfogfjmkngoegaaW.PrintLast Go.Proofs.YtfogfjmkngoegaaW.PrintMore Go.Proofs.Ytfogfjmkngoegaa.Plain

/-! laws_toByteS -/
-- plain: Evs
theorem laws_toByteS_ev (l : List Int) (hn : l.length ≤ 281474976710656) : Ev (fun k => laws_toByteS.f k l) l := by
  refine Ev.congr (f := fun k => laws_toByteS.l0 k l (List.replicate l.length 0) 0) (fun k => ?_) ?_
  · unfold laws_toByteS.f; rw [if_pos (by omega), if_pos (by omega)]; rfl
  · refine ev_up l.length (fun i k => laws_toByteS.l0 k l (l.take i ++ List.replicate (l.length - i) 0) i) l ?_ ?_
    · refine ev_done fun k => ?_
      rw [laws_toByteS.l0, if_neg (by omega)]; simp
    · intro i hi h
      refine Ev.step (fun k => ?_) h
      rw [laws_toByteS.l0, if_pos (by omega), if_pos (by omega), if_pos (by simp; omega), wrap_up hi (by omega), rd_nat, Int.toNat_natCast, take_set _ _ _ hi _ (by simp; omega), List.tail_replicate]
      congr 3

/-! laws_eqByteS -/
-- plain: Evs
theorem laws_eqByteS_same (l : List Int) (hn : l.length ≤ 281474976710656) : Ev (fun k => laws_eqByteS.f k l l) true := by
  refine Ev.congr (f := fun k => laws_eqByteS.l0 k l l 0) (fun k => ?_) ?_
  · unfold laws_eqByteS.f; rw [if_pos rfl]
  · refine ev_up l.length (fun i k => laws_eqByteS.l0 k l l i) true ?_ ?_
    · refine ev_done fun k => ?_
      rw [laws_eqByteS.l0, if_neg (by omega)]
    · intro i hi h
      refine Ev.step (fun k => ?_) h
      rw [laws_eqByteS.l0, if_pos (by omega), if_pos (by omega), if_pos (by omega), if_pos rfl, wrap_up hi (by omega)]
theorem laws_eqByteS_of (l l' : List Int) (hl : l = l') (hn : l.length ≤ 281474976710656) : Ev (fun k => laws_eqByteS.f k l l') true := by
  subst hl; exact laws_eqByteS_same l hn

/-! laws_markByteS -/
-- plain: Evs
/-- What the marks write from the number x on. -/
def markedByte (n : Nat) (x : Int) : List Int := (List.range n).map fun (j : Nat) => (x + (j : Int)) % 256
theorem markedByte_length (n : Nat) (x : Int) : (markedByte n x).length = n := by simp [markedByte]
theorem markedByte_get (n : Nat) (x : Int) (i : Nat) (h : i < n) : (markedByte n x).getD i 0 = (x + (i : Int)) % 256 := by
  simp [markedByte, h]
theorem markedByte_take (n : Nat) (x : Int) (l : List Int) (hl : l.length = n) (i : Nat) (h : i < n) : ((markedByte n x).take i ++ l.drop i).set i ((x + (i : Int)) % 256) = (markedByte n x).take (i + 1) ++ l.drop (i + 1) := by
  rw [← markedByte_get n x i h, take_set _ _ _ (by rw [markedByte_length]; exact h) _ (by simp; omega), List.tail_drop]
theorem laws_markByteS_ev (l : List Int) (x : Int) (h0 : 0 ≤ x) (h1 : x + l.length ≤ 9223372036854775807) : Ev (fun k => laws_markByteS.f k l x) (x + l.length, markedByte l.length x) := by
  refine Ev.congr (f := fun k => laws_markByteS.l0 k l x 0) (fun k => rfl) ?_
  have key := ev_up l.length (fun i k => laws_markByteS.l0 k ((markedByte l.length x).take i ++ l.drop i) (x + i) i) (x + l.length, markedByte l.length x) ?_ ?_
  · simpa using key
  · refine ev_done fun k => ?_
    rw [laws_markByteS.l0, if_neg (by simp [markedByte_length])]
    rw [List.take_of_length_le (by simp [markedByte_length])]; simp
  · intro i hi h
    refine Ev.step (fun k => ?_) h
    rw [laws_markByteS.l0, if_pos (by simp [markedByte_length]; omega), if_pos (by omega), wrap_up hi (by omega), Int.toNat_natCast, markedByte_take _ _ _ rfl i hi, wrap_id (by omega) (by omega)]
    congr 1
    omega

/-! laws_heldByteS -/
-- plain: Evs
-- (behind laws_markByteS)
theorem laws_heldByteS_ev (n : Nat) (x : Int) (h0 : 0 ≤ x) (h1 : x + n ≤ 9223372036854775807) : Ev (fun k => laws_heldByteS.f k (markedByte n x) x) (x + n) := by
  refine Ev.congr (f := fun k => laws_heldByteS.l0 k (markedByte n x) x 0) (fun k => rfl) ?_
  have key := ev_up n (fun i k => laws_heldByteS.l0 k (markedByte n x) (x + i) i) (x + n) ?_ ?_
  · simpa using key
  · refine ev_done fun k => ?_
    rw [laws_heldByteS.l0, if_neg (by simp [markedByte_length])]
  · intro i hi h
    refine Ev.step (fun k => ?_) h
    rw [laws_heldByteS.l0, if_pos (by simp [markedByte_length]; omega), if_pos (by omega), rd_nat, markedByte_get n x i hi, if_pos rfl, wrap_up hi (by omega), wrap_id (by omega) (by omega)]
    congr 1
    omega

/-! spec_l1In -/
theorem spec_l1In_eq (a b c : Int) : spec_l1In.f a b c = some (decide (b ≤ a ∧ a ≤ c)) := by
  unfold spec_l1In.f
  split
  · rename_i h; simp [show b ≤ a from h]
  · rename_i h; simp [show ¬ b ≤ a from h]

/-! spec_l1Abs -/
-- plain: Fix
theorem spec_l1Abs_eq (a : Int) (h0 : -9223372036854775807 ≤ a) (h1 : a ≤ 9223372036854775807) : spec_l1Abs.f a = some (if a < 0 then -a else a) := by
  unfold spec_l1Abs.f
  split
  · rw [wrap_id (by omega) (by omega)]
  · rfl

/-! spec_l3Guess -/
-- plain: Evs Png
theorem spec_l3Guess_ev (kind a b c : Int) (ha : 0 ≤ a ∧ a ≤ 255) (hb : 0 ≤ b ∧ b ≤ 255) (hc : 0 ≤ c ∧ c ≤ 255) : Ev (fun k => spec_l3Guess.f k kind a b c) (guessP kind a b c) := by
  unfold guessP
  simp only [spec_l3Guess.f]
  by_cases h1 : kind = 1
  · rw [if_pos h1]; exact ev_if_pos h1 (Ev.now _)
  rw [if_neg h1]; refine ev_if_neg h1 ?_
  by_cases h2 : kind = 2
  · rw [if_pos h2]; exact ev_if_pos h2 (Ev.now _)
  rw [if_neg h2]; refine ev_if_neg h2 ?_
  by_cases h3 : kind = 3
  · rw [if_pos h3]; refine ev_if_pos h3 ?_
    rw [wrap_id (x := a + b) (by omega) (by omega), Int.tdiv_eq_ediv_of_nonneg (by omega), wrap_id (by omega) (by omega)]; exact Ev.now _
  rw [if_neg h3]; refine ev_if_neg h3 ?_
  by_cases h4 : kind = 4
  · rw [if_pos h4]; refine ev_if_pos h4 ?_
    rw [wrap_id (x := a + b) (by omega) (by omega), wrap_id (x := a + b - c) (by omega) (by omega), wrap_id (x := a + b - c - a) (by omega) (by omega), wrap_id (x := a + b - c - b) (by omega) (by omega), wrap_id (x := a + b - c - c) (by omega) (by omega)]
    rw [spec_l1Abs_eq (a + b - c - a) (by omega) (by omega), spec_l1Abs_eq (a + b - c - b) (by omega) (by omega), spec_l1Abs_eq (a + b - c - c) (by omega) (by omega)]
    simp only [Option.bind_some]
    show Ev (fun k => if absP (a + b - c - a) ≤ absP (a + b - c - b) then spec_l3Guess.j0 k a b c (absP (a + b - c - b)) (absP (a + b - c - c)) (decide (absP (a + b - c - a) ≤ absP (a + b - c - c))) else spec_l3Guess.j0 k a b c (absP (a + b - c - b)) (absP (a + b - c - c)) false) _
    generalize absP (a + b - c - a) = x
    generalize absP (a + b - c - b) = y
    generalize absP (a + b - c - c) = z
    have hj : ∀ t : Bool, Ev (fun k => spec_l3Guess.j0 k a b c y z t) (if t = true then a else if y ≤ z then b else c) := by
      intro t
      refine ev_done fun k => ?_
      rw [spec_l3Guess.j0]
      split
      · rfl
      · split <;> rfl
    by_cases hxy : x ≤ y
    · refine ev_if_pos hxy ?_
      have := hj (decide (x ≤ z))
      by_cases hxz : x ≤ z
      · rw [if_pos ⟨hxy, hxz⟩]; rw [if_pos (by simpa using hxz)] at this; exact this
      · rw [if_neg (fun h => hxz h.2)]; rw [if_neg (by simpa using hxz)] at this; exact this
    · refine ev_if_neg hxy ?_
      have := hj false
      rw [if_neg (by decide)] at this
      rw [if_neg (fun h => hxy h.1)]; exact this
  rw [if_neg h4]; exact ev_if_neg h4 (Ev.now _)

/-! spec_l3At -/
-- plain: Evs Png
theorem spec_l3At_eq (l : List Int) (j : Int) (h : j < (l.length : Int)) (hb : 0 ≤ rd l j ∧ rd l j ≤ 255) : spec_l3At.f l j = some (atP l j) := by
  unfold spec_l3At.f atP
  by_cases h0 : j < 0
  · rw [if_pos h0, if_pos h0]
  · rw [if_neg h0, if_neg h0, if_pos (by omega), if_pos h, wrap_id (by omega) (by omega)]

/-! spec_l3Filter -/
-- plain: Evs Png
theorem spec_l3Filter_ev (kind : Int) (row above : List Int) (hr : InB row) (ha : InB above) (hl : above.length = row.length) (hn : row.length ≤ 144) : Ev (fun k => spec_l3Filter.f k kind row above) (fil kind row above row.length) := by
  refine Ev.congr (f := fun k => spec_l3Filter.l0 k kind row above (List.replicate row.length 0) row.length 0) (fun k => ?_) ?_
  · unfold spec_l3Filter.f; rw [if_pos (by omega), if_pos (by omega)]; rfl
  · have key := ev_up row.length (fun i k => spec_l3Filter.l0 k kind row above (fil kind row above i ++ List.replicate (row.length - i) 0) row.length i) (fil kind row above row.length) ?_ ?_
    · simpa [fil] using key
    · refine ev_done fun k => ?_
      rw [spec_l3Filter.l0, if_neg (by omega)]; simp
    · intro i hi h
      refine Ev.step (fun k => spec_l3Filter.l0.eq_2 ..) ?_
      refine ev_if_pos (by omega) (ev_if_pos (by omega) (ev_if_pos (by omega) ?_))
      rw [wrap_id (x := (i : Int) - 4) (by omega) (by omega)]
      refine ev_bind0 (spec_l3At_eq row _ (by omega) (inB_rd hr _)) ?_
      refine ev_if_pos (by omega) ?_
      refine ev_bind0 (spec_l3At_eq above _ (by omega) (inB_rd ha _)) ?_
      have hai := inB_rd ha (i : Int)
      rw [wrap_id (x := rd above i) (by omega) (by omega)]
      refine ev_bind (spec_l3Guess_ev kind _ _ _ (atP_range hr _) hai (atP_range ha _)) ?_
      refine ev_if_pos (by simp [fil_length]; omega) ?_
      have hg := guessP_range kind _ _ _ (atP_range hr ((i : Int) - 4)) hai (atP_range ha ((i : Int) - 4))
      rw [Int.toNat_natCast, set_fill _ _ i (fil_length kind row above i) (by omega), wrap_up hi (by omega), Int.emod_eq_of_lt (a := guessP _ _ _ _) hg.1 (by omega), Nat.sub_sub]
      exact h

/-! spec_l3Best -/
-- plain: Evs Png
theorem spec_sum (row above l : List Int) (best least kind r : Int) (hl : InB l) (hn : l.length ≤ 144)
    (h : Ev (fun k => if kind = 0 then spec_l3Best.l0 k row above kind (costTo l l.length) (wrap64 (kind + 1)) else if costTo l l.length < least then spec_l3Best.l0 k row above kind (costTo l l.length) (wrap64 (kind + 1)) else spec_l3Best.l0 k row above best least (wrap64 (kind + 1))) r) :
    Ev (fun k => spec_l3Best.l1 k row above best least kind 0 l l.length 0) r := by
  have key := ev_up l.length (fun i k => spec_l3Best.l1 k row above best least kind (costTo l i) l l.length i) r ?_ ?_
  · exact key
  · exact Ev.step (fun k => spec_l3Best.l1.eq_2 ..) (ev_if_neg (by omega) h)
  · intro i hi g
    have h1 := costTo_range hl i
    have h2 := inB_rd hl (i : Int)
    have e : costTo l (i + 1) = costTo l i + costP (rd l i) := rfl
    rw [e] at g
    refine Ev.step (fun k => spec_l3Best.l1.eq_2 ..) ?_
    refine ev_if_pos (by omega) (ev_if_pos (by omega) (ev_if_pos (by omega) ?_))
    rw [wrap_up hi (by omega), wrap_id (x := rd l i) (by omega) (by omega)]
    unfold costP at g
    by_cases hc : rd l i > 127
    · rw [if_pos hc] at g
      refine ev_if_pos hc ?_
      rw [wrap_id (x := 256 - rd l i) (by omega) (by omega), wrap_id (by omega) (by omega)]
      exact g
    · rw [if_neg hc] at g
      refine ev_if_neg hc ?_
      rw [wrap_id (by omega) (by omega)]
      exact g

/-! impl_within -/
theorem impl_within_eq (a b c : Int) : impl_within.f a b c = some (decide (b ≤ a ∧ a ≤ c)) := by
  unfold impl_within.f
  split
  · rename_i h; simp [h]
  · rename_i h; simp [h]

/-! impl_guess -/
-- plain: Evs Png
theorem mx_abs (p a : Int) : mx (p - a) (a - p) = absP (p - a) := by unfold mx absP; split <;> split <;> omega
theorem impl_guess_ev (kind a b c : Int) (ha : 0 ≤ a ∧ a ≤ 255) (hb : 0 ≤ b ∧ b ≤ 255) (hc : 0 ≤ c ∧ c ≤ 255) : Ev (fun k => impl_guess.f k kind a b c) (guessP kind a b c) := by
  unfold guessP
  simp only [impl_guess.f]
  by_cases h1 : kind = 1
  · rw [if_pos h1]; exact ev_if_pos h1 (Ev.now _)
  rw [if_neg h1]; refine ev_if_neg h1 ?_
  by_cases h2 : kind = 2
  · rw [if_pos h2]; exact ev_if_pos h2 (Ev.now _)
  rw [if_neg h2]; refine ev_if_neg h2 ?_
  by_cases h3 : kind = 3
  · rw [if_pos h3]; refine ev_if_pos h3 ?_
    rw [wrap_id (x := a) (by omega) (by omega), wrap_id (x := b) (by omega) (by omega), wrap_id (x := a + b) (by omega) (by omega), Int.tdiv_eq_ediv_of_nonneg (by omega), wrap_id (by omega) (by omega), Int.emod_eq_of_lt (by omega) (by omega)]; exact Ev.now _
  rw [if_neg h3]; refine ev_if_neg h3 ?_
  by_cases h4 : kind = 4
  · rw [if_pos h4]; refine ev_if_pos h4 ?_
    rw [wrap_id (x := a) (by omega) (by omega), wrap_id (x := b) (by omega) (by omega), wrap_id (x := c) (by omega) (by omega), wrap_id (x := a + b) (by omega) (by omega), wrap_id (x := a + b - c) (by omega) (by omega), wrap_id (x := a + b - c - a) (by omega) (by omega), wrap_id (x := a + b - c - b) (by omega) (by omega), wrap_id (x := a + b - c - c) (by omega) (by omega),
      wrap_id (x := a - (a + b - c)) (by omega) (by omega), wrap_id (x := b - (a + b - c)) (by omega) (by omega), wrap_id (x := c - (a + b - c)) (by omega) (by omega)]
    rw [mx_abs, mx_abs, mx_abs]
    generalize absP (a + b - c - a) = x
    generalize absP (a + b - c - b) = y
    generalize absP (a + b - c - c) = z
    have hj : ∀ t : Bool, Ev (fun k => impl_guess.j0 k a b c y z t) (if t = true then a else if y ≤ z then b else c) := by
      intro t
      refine ev_done fun k => ?_
      rw [impl_guess.j0]
      split
      · rfl
      · split <;> rfl
    by_cases hxy : x ≤ y
    · refine ev_if_pos hxy ?_
      have := hj (decide (x ≤ z))
      by_cases hxz : x ≤ z
      · rw [if_pos ⟨hxy, hxz⟩]; rw [if_pos (by simpa using hxz)] at this; exact this
      · rw [if_neg (fun h => hxz h.2)]; rw [if_neg (by simpa using hxz)] at this; exact this
    · refine ev_if_neg hxy ?_
      have := hj false
      rw [if_neg (by decide)] at this
      rw [if_neg (fun h => hxy h.1)]; exact this
  rw [if_neg h4]; exact ev_if_neg h4 (Ev.now _)

/-! impl_filtered_F -/
-- plain: Evs Png
theorem impl_filtered_F_ev (kind : Int) (row above : List Int) (z : Bool) (hr : InB row) (ha : InB above) (hl : above.length = row.length) (hn : row.length ≤ 144) : Ev (fun k => impl_filtered_F.f k kind row above z) (fil kind row above row.length) := by
  refine Ev.congr (f := fun k => impl_filtered_F.l0 k kind row above [] row row.length 0) (fun k => rfl) ?_
  have key := ev_up row.length (fun i k => impl_filtered_F.l0 k kind row above (fil kind row above i) row row.length i) (fil kind row above row.length) ?_ ?_
  · exact key
  · refine ev_done fun k => ?_
    rw [impl_filtered_F.l0, if_neg (by omega)]
  · intro i hi h
    refine Ev.step (fun k => impl_filtered_F.l0.eq_2 ..) ?_
    refine ev_if_pos (by omega) (ev_if_pos (by omega) (ev_if_pos (by omega) ?_))
    have hai := inB_rd ha (i : Int)
    by_cases h4 : (i : Int) ≥ 4
    · refine ev_if_pos h4 ?_
      rw [wrap_id (x := (i : Int) - 4) (by omega) (by omega)]
      refine ev_if_pos (by omega) (ev_if_pos (by omega) (ev_if_pos (by omega) (ev_if_pos (by omega) ?_)))
      refine ev_bind (impl_guess_ev kind _ _ _ (inB_rd hr _) hai (inB_rd ha _)) ?_
      refine ev_if_pos (by rw [fil_length]; omega) ?_
      rw [wrap_up hi (by omega)]
      have e1 : atP row ((i : Int) - 4) = rd row ((i : Int) - 4) := by unfold atP; rw [if_neg (by omega)]
      have e2 : atP above ((i : Int) - 4) = rd above ((i : Int) - 4) := by unfold atP; rw [if_neg (by omega)]
      rw [← e1, ← e2]
      exact h
    · refine ev_if_neg h4 (ev_if_pos (by omega) ?_)
      refine ev_bind (impl_guess_ev kind _ _ _ (by omega) hai (by omega)) ?_
      refine ev_if_pos (by rw [fil_length]; omega) ?_
      rw [wrap_up hi (by omega)]
      have e1 : atP row ((i : Int) - 4) = 0 := by unfold atP; rw [if_pos (by omega)]
      have e2 : atP above ((i : Int) - 4) = 0 := by unfold atP; rw [if_pos (by omega)]
      have e3 : fil kind row above (i + 1) = fil kind row above i ++ [(rd row i - guessP kind 0 (rd above i) 0) % 256] := by rw [fil, e1, e2]
      rw [← e3]
      exact h

/-! impl_filtered_T -/
-- plain: Evs Png
theorem impl_filtered_T_ev (kind : Int) (row above : List Int) (z : Bool) (hr : InB row) (ha : InB above) (hl : above.length = row.length) (hn : row.length ≤ 144) : Ev (fun k => impl_filtered_T.f k kind row above z) (unf kind row above row.length) := by
  refine Ev.congr (f := fun k => impl_filtered_T.l0 k kind above [] row row.length 0) (fun k => rfl) ?_
  have key := ev_up row.length (fun i k => impl_filtered_T.l0 k kind above (unf kind row above i) row row.length i) (unf kind row above row.length) ?_ ?_
  · exact key
  · refine ev_done fun k => ?_
    rw [impl_filtered_T.l0, if_neg (by omega)]
  · intro i hi h
    refine Ev.step (fun k => impl_filtered_T.l0.eq_2 ..) ?_
    refine ev_if_pos (by omega) (ev_if_pos (by omega) (ev_if_pos (by omega) ?_))
    have hai := inB_rd ha (i : Int)
    have hu := unf_inB kind row above i
    by_cases h4 : (i : Int) ≥ 4
    · refine ev_if_pos h4 ?_
      rw [wrap_id (x := (i : Int) - 4) (by omega) (by omega)]
      refine ev_if_pos (by omega) (ev_if_pos (by rw [unf_length]; omega) (ev_if_pos (by omega) (ev_if_pos (by omega) ?_)))
      refine ev_bind (impl_guess_ev kind _ _ _ (inB_rd hu _) hai (inB_rd ha _)) ?_
      refine ev_if_pos (by rw [unf_length]; omega) ?_
      rw [wrap_up hi (by omega)]
      have e1 : atP (unf kind row above i) ((i : Int) - 4) = rd (unf kind row above i) ((i : Int) - 4) := by unfold atP; rw [if_neg (by omega)]
      have e2 : atP above ((i : Int) - 4) = rd above ((i : Int) - 4) := by unfold atP; rw [if_neg (by omega)]
      rw [← e1, ← e2]
      exact h
    · refine ev_if_neg h4 (ev_if_pos (by omega) ?_)
      refine ev_bind (impl_guess_ev kind _ _ _ (by omega) hai (by omega)) ?_
      refine ev_if_pos (by rw [unf_length]; omega) ?_
      rw [wrap_up hi (by omega)]
      have e1 : atP (unf kind row above i) ((i : Int) - 4) = 0 := by unfold atP; rw [if_pos (by omega)]
      have e2 : atP above ((i : Int) - 4) = 0 := by unfold atP; rw [if_pos (by omega)]
      have e3 : unf kind row above (i + 1) = unf kind row above i ++ [(rd row i + guessP kind 0 (rd above i) 0) % 256] := by rw [unf, e1, e2]
      rw [← e3]
      exact h

/-! arerows -/
-- plain: Evs Png
/-- are these rows? -/
def areR (row above : List Int) : Bool := decide (0 < row.length ∧ row.length % 4 = 0 ∧ row.length ≤ 144 ∧ above.length = row.length)

/-! impl_areRows -/
-- plain: Evs Png
theorem impl_areRows_eq (kind : Int) (row above : List Int) (hn : row.length ≤ 1048576) : impl_areRows.f kind row above = some (decide (0 ≤ kind ∧ kind ≤ 4) && areR row above) := by
  unfold impl_areRows.f areR
  rw [impl_within_eq, Option.bind_some]
  by_cases h0 : 0 ≤ kind ∧ kind ≤ 4
  · rw [decide_eq_true h0, if_pos rfl, Bool.true_and]
    by_cases h2 : (row.length : Int) % 4 = 0
    · rw [if_pos h2, wrap_id (by omega) (by omega), impl_within_eq, Option.bind_some]
      by_cases h3 : 1 ≤ (row.length : Int) / 4 ∧ (row.length : Int) / 4 ≤ 36
      · rw [decide_eq_true h3, if_pos rfl]
        by_cases h4 : above.length = row.length
        · rw [decide_eq_true (by omega), h4]; simp
        · rw [decide_eq_false (by omega)]; congr 1; simp; omega
      · rw [decide_eq_false h3, if_neg (by decide), decide_eq_false (by omega)]
    · rw [if_neg h2, decide_eq_false (by omega)]
  · rw [decide_eq_false h0, if_neg (by decide), Bool.false_and]

/-! impl_BestFilter -/
-- plain: Evs Png
theorem i8_cost (b : Int) (h : 0 ≤ b ∧ b ≤ 255) : mx (wrap64 (IntKind.i8.wrap b)) (wrap64 (-(wrap64 (IntKind.i8.wrap b)))) = costP b := by
  have e : IntKind.i8.wrap b = if b > 127 then b - 256 else b := by
    simp [IntKind.wrap, IntKind.bits, IntKind.signed]
    split <;> omega
  rw [e]
  unfold costP mx
  by_cases hb : b > 127
  · rw [if_pos hb, if_pos hb, wrap_id (x := b - 256) (by omega) (by omega), wrap_id (by omega) (by omega)]
    split <;> omega
  · rw [if_neg hb, if_neg hb, wrap_id (x := b) (by omega) (by omega), wrap_id (by omega) (by omega)]
    split <;> omega
theorem impl_sum (row above l : List Int) (best least kind : Int) (r : Int × Bool) (hl : InB l) (hn : l.length ≤ 144)
    (h : Ev (fun k => if least < 0 then impl_BestFilter.l0 k row above kind (costTo l l.length) (wrap64 (kind + 1)) else if costTo l l.length < least then impl_BestFilter.l0 k row above kind (costTo l l.length) (wrap64 (kind + 1)) else impl_BestFilter.l0 k row above best least (wrap64 (kind + 1))) r) :
    Ev (fun k => impl_BestFilter.l1 k row above best least kind 0 kind l l.length 0) r := by
  have key := ev_up l.length (fun i k => impl_BestFilter.l1 k row above best least kind (costTo l i) kind l l.length i) r ?_ ?_
  · exact key
  · exact Ev.step (fun k => impl_BestFilter.l1.eq_2 ..) (ev_if_neg (by omega) h)
  · intro i hi g
    have h1 := costTo_range hl i
    have h2 := inB_rd hl (i : Int)
    have h3 := costP_range h2
    have e : costTo l (i + 1) = costTo l i + costP (rd l i) := rfl
    rw [e] at g
    refine Ev.step (fun k => impl_BestFilter.l1.eq_2 ..) ?_
    refine ev_if_pos (by omega) (ev_if_pos (by omega) (ev_if_pos (by omega) ?_))
    rw [wrap_up hi (by omega), i8_cost _ h2, wrap_id (by omega) (by omega)]
    exact g
theorem best_same (row above : List Int) (hr : InB row) (ha : InB above) (hl : above.length = row.length) (hn : row.length ≤ 144) :
    ∀ (d kind : Nat) (best least least' : Int), kind + d = 5 → (kind = 0 ∧ best = 0 ∧ least' = -1 ∨ 0 < kind ∧ least' = least ∧ 0 ≤ least) →
    ∃ r, Ev (fun k => spec_l3Best.l0 k row above best least kind) r ∧ Ev (fun k => impl_BestFilter.l0 k row above best least' kind) (r, true) := by
  intro d
  induction d with
  | zero =>
    intro kind best least least' hk _
    refine ⟨best, ev_done fun k => ?_, ev_done fun k => ?_⟩
    · rw [spec_l3Best.l0, if_neg (by omega)]
    · rw [impl_BestFilter.l0, if_neg (by omega)]
  | succ d ih =>
    intro kind best least least' hk hc
    have hw : wrap64 ((kind : Int) + 1) = ((kind + 1 : Nat) : Int) := wrap_up (n := 5) (by omega) (by omega)
    have hL := fil_inB kind row above row.length
    have hLn := fil_length kind row above row.length
    have hs := costTo_range hL (fil kind row above row.length).length
    have take : ∃ r, Ev (fun k => spec_l3Best.l0 k row above kind (costTo (fil kind row above row.length) (fil kind row above row.length).length) ((kind + 1 : Nat) : Int)) r ∧ Ev (fun k => impl_BestFilter.l0 k row above kind (costTo (fil kind row above row.length) (fil kind row above row.length).length) ((kind + 1 : Nat) : Int)) (r, true) :=
      ih (kind + 1) kind _ _ (by omega) (.inr ⟨by omega, rfl, hs.1⟩)
    have go : ∀ r, Ev (fun k => if (kind : Int) = 0 then spec_l3Best.l0 k row above kind (costTo (fil kind row above row.length) (fil kind row above row.length).length) (wrap64 ((kind : Int) + 1)) else if costTo (fil kind row above row.length) (fil kind row above row.length).length < least then spec_l3Best.l0 k row above kind (costTo (fil kind row above row.length) (fil kind row above row.length).length) (wrap64 ((kind : Int) + 1)) else spec_l3Best.l0 k row above best least (wrap64 ((kind : Int) + 1))) r →
        Ev (fun k => if least' < 0 then impl_BestFilter.l0 k row above kind (costTo (fil kind row above row.length) (fil kind row above row.length).length) (wrap64 ((kind : Int) + 1)) else if costTo (fil kind row above row.length) (fil kind row above row.length).length < least' then impl_BestFilter.l0 k row above kind (costTo (fil kind row above row.length) (fil kind row above row.length).length) (wrap64 ((kind : Int) + 1)) else impl_BestFilter.l0 k row above best least' (wrap64 ((kind : Int) + 1))) (r, true) →
        ∃ r, Ev (fun k => spec_l3Best.l0 k row above best least kind) r ∧ Ev (fun k => impl_BestFilter.l0 k row above best least' kind) (r, true) := by
      intro r h1 h2
      refine ⟨r, ?_, ?_⟩
      · refine Ev.step (fun k => spec_l3Best.l0.eq_2 ..) (ev_if_pos (by omega) ?_)
        exact ev_bind (spec_l3Filter_ev kind row above hr ha hl hn) (spec_sum row above _ best least kind r hL (by omega) h1)
      · refine Ev.step (fun k => impl_BestFilter.l0.eq_2 ..) (ev_if_pos (by omega) ?_)
        exact ev_bind (impl_filtered_F_ev kind row above _ hr ha hl hn) (impl_sum row above _ best least' kind (r, true) hL (by omega) h2)
    rw [hw] at go
    rcases hc with ⟨h0, h1, h2⟩ | ⟨h0, h1, h2⟩
    · obtain ⟨r, g1, g2⟩ := take
      exact go r (ev_if_pos (by omega) g1) (ev_if_pos (by omega) g2)
    · subst h1
      by_cases hlt : costTo (fil kind row above row.length) (fil kind row above row.length).length < least'
      · obtain ⟨r, g1, g2⟩ := take
        exact go r (ev_if_neg (by omega) (ev_if_pos hlt g1)) (ev_if_neg (by omega) (ev_if_pos hlt g2))
      · obtain ⟨r, g1, g2⟩ := ih (kind + 1) best least' least' (by omega) (.inr ⟨by omega, rfl, h2⟩)
        exact go r (ev_if_neg (by omega) (ev_if_neg hlt g1)) (ev_if_neg (by omega) (ev_if_neg hlt g2))

/-! pkbits -/
-- plain: Evs
/-- both have laid down the same bits: m counts them, f what is free in the last byte. -/
def RelB (o : List Int) (m f : Int) (M : Nat) : Prop := 0 ≤ m ∧ m ≤ (M : Int) ∧ (o.length : Int) ≤ m ∧ f = (8 - m % 8) % 8 ∧ (m % 8 ≠ 0 → 0 < o.length)
theorem bit_both (o : List Int) (m f x : Int) (M : Nat) (h : RelB o m f M) (hM : M ≤ 1000000000) : ∃ o' f', spec_l2Bits_bit.f o m x = some (o', m + 1) ∧ impl_bitWriter_put.f o f x = some (o', f') ∧ RelB o' (m + 1) f' (M + 1) := by
  obtain ⟨h0, h1, h2, h3, h4⟩ := h
  have hf : 0 ≤ f ∧ f ≤ 8 := by omega
  have eo : putO o f = bitO o m := by
    unfold putO bitO
    by_cases h8 : m % 8 = 0
    · rw [if_pos (by omega), if_pos h8]
    · rw [if_neg (by omega), if_neg h8]
  have em : (8 : Int) - putM f = m % 8 := by
    unfold putM
    split <;> omega
  have hp : 0 < (bitO o m).length ∧ (bitO o m).length ≤ o.length + 1 := by
    unfold bitO
    by_cases h8 : m % 8 = 0
    · rw [if_pos h8, List.length_append, List.length_singleton]; omega
    · rw [if_neg h8]; have := h4 h8; omega
  have hz1 : m % 8 = 0 ∨ 0 < o.length := by
    by_cases h8 : m % 8 = 0
    · exact .inl h8
    · exact .inr (h4 h8)
  have hz2 : f = 0 ∨ 0 < o.length := by rcases hz1 with h | h; exact .inl (by omega); exact .inr h
  refine ⟨(bitO o m).set ((bitO o m).length - 1) (bits .or .u8 (rdOf 0 (bitO o m) (((bitO o m).length : Int) - 1)) (wrap64 (x * 2 ^ (m % 8).toNat) % 256)), putM f - 1, ?_, ?_, ?_⟩
  · unfold spec_l2Bits_bit.f
    rw [if_pos ⟨h0, by omega, hz1⟩, wrap_id (x := m + 1) (by omega) (by omega)]
  · unfold impl_bitWriter_put.f
    rw [if_pos ⟨hf, by omega, hz2⟩, eo, em]
  · refine ⟨by omega, by omega, ?_, by omega, fun _ => ?_⟩
    · rw [List.length_set]; omega
    · rw [List.length_set]; exact hp.1
theorem numberG_both (n : Int) : ∀ (r k : Nat) (o : List Int) (m f : Int) (M : Nat), RelB o m f M → M + r ≤ 1000000000 → ∃ o' f', spec_l2Bits_numberG n r k o m = some (o', m + (r : Int)) ∧ impl_bitWriter_numberG n r k o f = some (o', f') ∧ RelB o' (m + (r : Int)) f' (M + r) := by
  intro r
  induction r with
  | zero => intro k o m f M h hM; exact ⟨o, f, by simp [spec_l2Bits_numberG], rfl, by simpa using h⟩
  | succ r ih =>
    intro k o m f M h hM
    obtain ⟨o1, f1, h1, h2, h3⟩ := bit_both o m f (bits .and .i64 (n / 2 ^ k) 1) M h (by omega)
    obtain ⟨o2, f2, h4, h5, h6⟩ := ih (k + 1) o1 (m + 1) f1 (M + 1) h3 (by omega)
    have e : m + ((r + 1 : Nat) : Int) = m + 1 + (r : Int) := by omega
    rw [e, show M + (r + 1) = M + 1 + r by omega]
    exact ⟨o2, f2, by rw [spec_l2Bits_numberG, h1]; exact h4, by rw [impl_bitWriter_numberG, h2]; exact h5, h6⟩
theorem codeG_both (n : Int) : ∀ (r : Nat) (o : List Int) (m f : Int) (M : Nat), RelB o m f M → M + r ≤ 1000000000 → ∃ o' f', spec_l2Bits_codeG n r o m = some (o', m + (r : Int)) ∧ impl_bitWriter_codeG n r o f = some (o', f') ∧ RelB o' (m + (r : Int)) f' (M + r) := by
  intro r
  induction r with
  | zero => intro o m f M h hM; exact ⟨o, f, by simp [spec_l2Bits_codeG], rfl, by simpa using h⟩
  | succ r ih =>
    intro o m f M h hM
    obtain ⟨o1, f1, h1, h2, h3⟩ := bit_both o m f (bits .and .i64 (n / 2 ^ r) 1) M h (by omega)
    obtain ⟨o2, f2, h4, h5, h6⟩ := ih o1 (m + 1) f1 (M + 1) h3 (by omega)
    have e : m + ((r + 1 : Nat) : Int) = m + 1 + (r : Int) := by omega
    rw [e, show M + (r + 1) = M + 1 + r by omega]
    exact ⟨o2, f2, by rw [spec_l2Bits_codeG, h1]; exact h4, by rw [impl_bitWriter_codeG, h2]; exact h5, h6⟩
theorem RelB.up {o : List Int} {m f : Int} {M N : Nat} (h : RelB o m f M) (hN : M ≤ N) : RelB o m f N := by
  obtain ⟨h0, h1, h2, h3, h4⟩ := h
  exact ⟨h0, by omega, h2, h3, h4⟩
theorem number_both (o : List Int) (m f n c : Int) (M : Nat) (h : RelB o m f M) (hM : M ≤ 100000000) (hc : 0 ≤ c ∧ c ≤ 62) : ∃ o' m' f', spec_l2Bits_number.f o m n c = some (o', m') ∧ impl_bitWriter_number.f o f n c = some (o', f') ∧ RelB o' m' f' (M + 62) := by
  obtain ⟨o', f', h1, h2, h3⟩ := numberG_both n c.toNat 0 o m f M h (by omega)
  exact ⟨o', _, f', by unfold spec_l2Bits_number.f; rw [if_pos hc]; exact h1, by unfold impl_bitWriter_number.f; rw [if_pos hc]; exact h2, h3.up (by omega)⟩
theorem code_both (o : List Int) (m f n c : Int) (M : Nat) (h : RelB o m f M) (hM : M ≤ 100000000) (hc : 0 ≤ c ∧ c ≤ 62) : ∃ o' m' f', spec_l2Bits_code.f o m n c = some (o', m') ∧ impl_bitWriter_code.f o f n c = some (o', f') ∧ RelB o' m' f' (M + 62) := by
  obtain ⟨o', f', h1, h2, h3⟩ := codeG_both n c.toNat o m f M h (by omega)
  exact ⟨o', _, f', by unfold spec_l2Bits_code.f; rw [if_pos hc]; exact h1, by unfold impl_bitWriter_code.f; rw [if_pos hc]; exact h2, h3.up (by omega)⟩

/-! pkcodes -/
-- plain: Evs Bits
theorem pow15 (e : Nat) (h : e ≤ 15) : (0 : Int) < 2 ^ e ∧ (2 : Int) ^ e ≤ 32768 := by
  have : ∀ e : Fin 16, (0 : Int) < 2 ^ e.val ∧ (2 : Int) ^ e.val ≤ 32768 := by decide
  exact this ⟨e, by omega⟩
/-- what a length counts. -/
def krW (n x : Int) : Int := if 0 < x ∧ x < n then (2 : Int) ^ (15 - x).toNat else 0
def kr (n : Int) (l : List Int) : Int := (l.map (krW n)).sum
theorem krW_range (n x : Int) (h : 0 ≤ x ∧ x ≤ 15) : 0 ≤ krW n x ∧ krW n x ≤ 32768 := by
  unfold krW
  split
  · have h1 := pow15 (15 - x).toNat (by omega)
    omega
  · omega
theorem kr_range (n : Int) (l : List Int) (h : ∀ x ∈ l, 0 ≤ x ∧ x ≤ 15) : 0 ≤ kr n l ∧ kr n l ≤ 32768 * l.length := by
  induction l with
  | nil => simp [kr]
  | cons x l ih =>
    have := krW_range n x (h x (by simp))
    have := ih (fun y hy => h y (by simp [hy]))
    simp only [kr, List.map_cons, List.sum_cons, List.length_cons] at *
    omega
theorem kr_append (n : Int) (l m : List Int) : kr n (l ++ m) = kr n l + kr n m := by simp [kr]
theorem kr_one (n x : Int) : kr n [x] = krW n x := by simp [kr]
theorem kr_up (n : Int) (h1 : 1 ≤ n) (h : n ≤ 15) (x : Int) : krW (n + 1) x = krW n x + if x = n then (2 : Int) ^ (15 - n).toNat else 0 := by
  unfold krW
  by_cases e : x = n
  · subst e; rw [if_pos (by omega), if_neg (by omega), if_pos rfl]; omega
  · rw [if_neg e]
    by_cases h2 : 0 < x ∧ x < n
    · rw [if_pos (by omega), if_pos h2]; omega
    · rw [if_neg (by omega), if_neg h2]; omega
theorem kr_16 (x : Int) (h : 0 ≤ x ∧ x ≤ 15) : krW 16 x = if 0 < x then (2 : Int) ^ (15 - x).toNat else 0 := by
  unfold krW
  by_cases e : 0 < x
  · rw [if_pos (by omega), if_pos e]
  · rw [if_neg (by omega), if_neg e]
theorem shl_one (e : Int) (h0 : 0 ≤ e) (h1 : e ≤ 15) : shl .i64 1 e = (2 : Int) ^ e.toNat := by
  have := pow15 e.toNat (by omega)
  unfold shl
  rw [Nat.min_eq_left (by simp [IntKind.bits]; omega), Int.one_mul, IntKind.wrap_i64]
  omega
theorem part_up (n : Int) (h1 : 1 ≤ n) (h : n ≤ 15) (l : List Int) (i : Nat) (hi : i < l.length) :
    kr (n + 1) (l.take (i + 1)) + kr n (l.drop (i + 1)) = kr (n + 1) (l.take i) + kr n (l.drop i) + if l.getD i 0 = n then (2 : Int) ^ (15 - n).toNat else 0 := by
  have e1 : l.take (i + 1) = l.take i ++ [l.getD i 0] := by
    rw [List.take_add_one, List.getElem?_eq_getElem hi, List.getD_eq_getElem?_getD, List.getElem?_eq_getElem hi]; rfl
  rw [e1, drop_cons l 0 i hi, kr_append, kr_one, kr_up n h1 h, show kr n (l.getD i 0 :: l.drop (i + 1)) = krW n (l.getD i 0) + kr n (l.drop (i + 1)) by simp [kr]]
  omega
theorem all_get (l : List Int) (h : ∀ x ∈ l, 0 ≤ x ∧ x ≤ 15) (i : Nat) : 0 ≤ l.getD i 0 ∧ l.getD i 0 ≤ 15 := by
  rw [List.getD_eq_getElem?_getD]
  by_cases hi : i < l.length
  · rw [List.getElem?_eq_getElem hi]; exact h _ (List.getElem_mem hi)
  · rw [List.getElem?_eq_none (by omega)]; simp
theorem kr1 (l : List Int) : kr 1 l = 0 := by
  induction l with
  | nil => rfl
  | cons x l ih =>
    have e : kr 1 (x :: l) = krW 1 x + kr 1 l := by simp [kr]
    have e2 : krW 1 x = 0 := by unfold krW; rw [if_neg (by omega)]
    rw [e, ih, e2]; rfl
theorem codes_zero (l : List Int) (hl : l.length ≤ 300) (h : ∀ x ∈ l, 0 ≤ x ∧ x ≤ 15) (h7 : ∀ i, i < l.length → 7 ≤ l.getD i 0) (h256 : ∀ i, i < 256 → l.getD i 0 ≠ 7) (hx : l.getD 256 0 = 7) : ∀ (m : Nat) (n : Int) (out : List Int) (c : Int), 1 ≤ n → n + m = 16 → out.length = l.length → out.getD 256 0 = 0 → (n ≤ 7 → c = 0) →
    ∃ r, Ev (fun k => spec_l2Codes.l0 k l out c n) r ∧ Ev (fun k => impl_codesBy.l0 k l out (kr n l) c n) (r, kr 16 l) ∧ r.length = l.length ∧ r.getD 256 0 = 0 := by
  intro m
  induction m with
  | zero =>
    intro n out c h1 h2 ho ho2 hcz
    obtain rfl : n = 16 := by omega
    exact ⟨out, ev_done fun k => by rw [spec_l2Codes.l0, if_neg (by omega)], ev_done fun k => by rw [impl_codesBy.l0, if_neg (by omega)], ho, ho2⟩
  | succ m ih =>
    intro n out c h1 h2 ho ho2 hcz
    have inner : ∀ (j i : Nat) (out : List Int) (c : Int), i + j = l.length → out.length = l.length → out.getD 256 0 = 0 → (n < 7 ∨ (n = 7 ∧ i ≤ 256) → c = 0) →
        ∃ r, Ev (fun k => spec_l2Codes.l1 k l out c n l l.length i) r ∧ Ev (fun k => impl_codesBy.l1 k l out (kr (n + 1) (l.take i) + kr n (l.drop i)) c n l l.length i) (r, kr 16 l) ∧ r.length = l.length ∧ r.getD 256 0 = 0 := by
      intro j
      induction j with
      | zero =>
        intro i out c hi ho ho2 hcz
        obtain ⟨r, h3, h4, h5⟩ := ih (n + 1) out c (by omega) (by omega) ho ho2 (fun hh => hcz (.inl (by omega)))
        refine ⟨r, Ev.step (fun k => ?_) h3, Ev.step (fun k => ?_) h4, h5⟩
        · rw [spec_l2Codes.l1, if_neg (by omega), wrap_id (by omega) (by omega)]
        · rw [impl_codesBy.l1, if_neg (by omega), wrap_id (by omega) (by omega), List.take_of_length_le (by omega), List.drop_eq_nil_of_le (by omega)]; simp [kr]
      | succ j ih2 =>
        intro i out c hi ho ho2 hcz
        have hil : i < l.length := by omega
        have hpu := part_up n h1 (by omega) l i hil
        have hb := kr_range (n + 1) (l.take i) (fun x hx => h x (List.mem_of_mem_take hx))
        have hb2 := kr_range n (l.drop i) (fun x hx => h x (List.mem_of_mem_drop hx))
        have hlt : (l.take i).length ≤ 300 ∧ (l.drop i).length ≤ 300 := by simp; omega
        have hp := pow15 (15 - n).toNat (by omega)
        by_cases he : l.getD i 0 = n
        · have g7 := h7 i hil
          obtain ⟨r, h3, h4, h5⟩ := ih2 (i + 1) (out.set i c) (wrap64 (c + 1)) (by omega) (by simpa using ho) (by
            rw [List.getD_eq_getElem?_getD, List.getElem?_set]
            by_cases hi6 : i = 256
            · subst hi6
              rw [if_pos rfl, if_pos (by omega), Option.getD_some]
              exact hcz (.inr ⟨by omega, by omega⟩)
            · rw [if_neg hi6, ← List.getD_eq_getElem?_getD]; exact ho2) (fun hh => by
            rcases hh with hh | ⟨hh, hh2⟩
            · omega
            · exact absurd (by omega) (h256 i (by omega)))
          rw [if_pos he] at hpu
          rw [hpu] at h4
          refine ⟨r, Ev.step (fun k => ?_) h3, Ev.step (fun k => ?_) h4, h5⟩
          · rw [spec_l2Codes.l1, if_pos (by omega), if_pos (by omega), if_pos (by omega), rd_nat, if_pos he, if_pos (by omega), wrap_up hil (by omega), Int.toNat_natCast]
          · rw [impl_codesBy.l1, if_pos (by omega), if_pos (by omega), if_pos (by omega), rd_nat, if_pos he, if_pos (by omega), wrap_id (x := 15 - n) (by omega) (by omega), if_pos (by omega), shl_one _ (by omega) (by omega), wrap_up hil (by omega), Int.toNat_natCast, wrap_id (x := _ + 2 ^ _) (by omega) (by omega)]
        · obtain ⟨r, h3, h4, h5⟩ := ih2 (i + 1) out c (by omega) ho ho2 (fun hh => hcz (by omega))
          rw [if_neg he, Int.add_zero] at hpu
          rw [hpu] at h4
          refine ⟨r, Ev.step (fun k => ?_) h3, Ev.step (fun k => ?_) h4, h5⟩
          · rw [spec_l2Codes.l1, if_pos (by omega), if_pos (by omega), if_pos (by omega), rd_nat, if_neg he, wrap_up hil (by omega)]
          · rw [impl_codesBy.l1, if_pos (by omega), if_pos (by omega), if_pos (by omega), rd_nat, if_neg he, wrap_up hil (by omega)]
    obtain ⟨r, h3, h4, h5⟩ := inner l.length 0 out (wrap64 (c * 2)) (by omega) ho ho2 (fun hh => by rw [hcz (by omega), wrap_id (by omega) (by omega)]; rfl)
    refine ⟨r, Ev.step (fun k => ?_) h3, Ev.step (fun k => ?_) h4, h5⟩
    · rw [spec_l2Codes.l0, if_pos (by omega)]; rfl
    · rw [impl_codesBy.l0, if_pos (by omega)]; simp [kr]
def fxV (i : Nat) : Int := if i < 144 then 8 else if i < 256 then 9 else if i < 280 then 7 else 8
def fxL : Nat → Nat → List Int
  | 0, _ => []
  | m + 1, i => fxV i :: fxL m (i + 1)
theorem fxL_len : ∀ m i : Nat, (fxL m i).length = m := by
  intro m
  induction m with
  | zero => intro i; rfl
  | succ m ih => intro i; unfold fxL; rw [List.length_cons, ih]
theorem fxL_get : ∀ m i j : Nat, j < m → (fxL m i).getD j 0 = fxV (i + j) := by
  intro m
  induction m with
  | zero => intro i j h; omega
  | succ m ih =>
    intro i j h
    unfold fxL
    cases j with
    | zero => rfl
    | succ j => rw [List.getD_cons_succ, ih (i + 1) j (by omega), show i + 1 + j = i + (j + 1) by omega]
theorem fxV_range (i : Nat) : 7 ≤ fxV i ∧ fxV i ≤ 9 := by unfold fxV; split <;> (try split) <;> (try split) <;> omega
theorem fxL_mem (m i : Nat) : ∀ x ∈ fxL m i, 7 ≤ x ∧ x ≤ 9 := by
  intro x hx
  obtain ⟨j, hj, rfl⟩ := List.mem_iff_getElem.mp hx
  rw [fxL_len] at hj
  have := fxL_get m i j hj
  rw [List.getD_eq_getElem?_getD, List.getElem?_eq_getElem (by rw [fxL_len]; exact hj), Option.getD_some] at this
  rw [this]
  exact fxV_range _
theorem spec_fixed_l0 : ∀ (m i : Nat) (acc : List Int), i + m = 288 → acc.length ≤ 1000 + i → Ev (fun k => spec_l2Fixed.l0 k acc (i : Int)) (acc ++ fxL m i) := by
  intro m
  induction m with
  | zero =>
    intro i acc h1 h2
    unfold fxL
    rw [List.append_nil]
    exact Ev.step (fun k => spec_l2Fixed.l0.eq_2 ..) (ev_if_neg (by omega) (Ev.now _))
  | succ m ih =>
    intro i acc h1 h2
    have hw : ∀ _ : Unit, wrap64 ((i : Int) + 1) = ((i + 1 : Nat) : Int) := fun _ => by rw [wrap_id (x := (i : Int) + 1) (by omega) (by omega)]; omega
    have g := ih (i + 1) (acc ++ [fxV i]) (by omega) (by rw [List.length_append, List.length_singleton]; omega)
    rw [List.append_assoc] at g
    have g : Ev (fun k => spec_l2Fixed.l0 k (acc ++ [fxV i]) (wrap64 ((i : Int) + 1))) (acc ++ fxL (m + 1) i) := by rw [hw ()]; exact g
    refine Ev.step (fun k => spec_l2Fixed.l0.eq_2 ..) (ev_if_pos (by omega) ?_)
    have hal : acc.length < 17592186044416 := by omega
    by_cases a1 : i < 144
    · refine ev_if_pos (by omega) (Ev.step (fun k => spec_l2Fixed.j1.eq_2 ..) (ev_if_pos rfl (ev_if_pos hal ?_)))
      rw [show fxV i = 8 by unfold fxV; rw [if_pos a1]] at g; exact g
    refine ev_if_neg (by omega) ?_
    by_cases a2 : i < 256
    · rw [decide_eq_false (by omega)]
      refine Ev.step (fun k => spec_l2Fixed.j1.eq_2 ..) (ev_if_neg (by decide) (ev_if_pos (by omega) (ev_if_pos hal ?_)))
      rw [show fxV i = 9 by unfold fxV; rw [if_neg a1, if_pos a2]] at g; exact g
    by_cases a3 : i < 280
    · rw [decide_eq_false (by omega)]
      refine Ev.step (fun k => spec_l2Fixed.j1.eq_2 ..) (ev_if_neg (by decide) (ev_if_neg (by omega) (ev_if_pos hal ?_)))
      rw [show fxV i = 7 by unfold fxV; rw [if_neg a1, if_neg a2, if_pos a3]] at g; exact g
    · rw [decide_eq_true (by omega)]
      refine Ev.step (fun k => spec_l2Fixed.j1.eq_2 ..) (ev_if_pos rfl (ev_if_pos hal ?_))
      rw [show fxV i = 8 by unfold fxV; rw [if_neg a1, if_neg a2, if_neg a3]] at g; exact g
theorem impl_fixed_l0 : ∀ (m i : Nat) (acc : List Int), i + m = 288 → acc.length ≤ 1000 + i → Ev (fun k => impl_fixedLengths.l0 k acc (i : Int)) (acc ++ fxL m i) := by
  intro m
  induction m with
  | zero =>
    intro i acc h1 h2
    unfold fxL
    rw [List.append_nil]
    exact Ev.step (fun k => impl_fixedLengths.l0.eq_2 ..) (ev_if_neg (by omega) (Ev.now _))
  | succ m ih =>
    intro i acc h1 h2
    have hw : ∀ _ : Unit, wrap64 ((i : Int) + 1) = ((i + 1 : Nat) : Int) := fun _ => by rw [wrap_id (x := (i : Int) + 1) (by omega) (by omega)]; omega
    have g := ih (i + 1) (acc ++ [fxV i]) (by omega) (by rw [List.length_append, List.length_singleton]; omega)
    rw [List.append_assoc] at g
    have g : Ev (fun k => impl_fixedLengths.l0 k (acc ++ [fxV i]) (wrap64 ((i : Int) + 1))) (acc ++ fxL (m + 1) i) := by rw [hw ()]; exact g
    refine Ev.step (fun k => impl_fixedLengths.l0.eq_2 ..) (ev_if_pos (by omega) ?_)
    have hal : acc.length < 17592186044416 := by omega
    by_cases a1 : i < 144
    · refine ev_if_pos (by omega) (ev_if_pos hal ?_)
      rw [show fxV i = 8 by unfold fxV; rw [if_pos a1]] at g; exact g
    refine ev_if_neg (by omega) ?_
    by_cases a2 : i < 256
    · refine ev_if_pos (by omega) (ev_if_pos hal ?_)
      rw [show fxV i = 9 by unfold fxV; rw [if_neg a1, if_pos a2]] at g; exact g
    refine ev_if_neg (by omega) ?_
    by_cases a3 : i < 280
    · refine ev_if_pos (by omega) (ev_if_pos hal ?_)
      rw [show fxV i = 7 by unfold fxV; rw [if_neg a1, if_neg a2, if_pos a3]] at g; exact g
    · refine ev_if_neg (by omega) (ev_if_pos hal ?_)
      rw [show fxV i = 8 by unfold fxV; rw [if_neg a1, if_neg a2, if_neg a3]] at g; exact g
theorem fixed_rows : ∃ cs : List Int, Ev (fun k => spec_l2Fixed.f k) (fxL 288 0) ∧ Ev (fun k => impl_fixedLengths.f k) (fxL 288 0) ∧ Ev (fun k => spec_l2Codes.f k (fxL 288 0)) cs ∧ (∃ s, Ev (fun k => impl_codesBy.f k (fxL 288 0)) (cs, s)) ∧ cs.length = 288 ∧ cs.getD 256 0 = 0 := by
  have hlen := fxL_len 288 0
  have hget := fxL_get 288 0
  have hmem := fxL_mem 288 0
  have s1 := spec_fixed_l0 288 0 [] (by omega) (by simp)
  have s2 := impl_fixed_l0 288 0 [] (by omega) (by simp)
  rw [List.nil_append] at s1 s2
  generalize fxL 288 0 = l at *
  obtain ⟨c, h3, h4, h5, h6⟩ := codes_zero l (by omega) (fun x hx => by have := hmem x hx; omega) (fun i hi => by rw [hget i (by omega)]; exact (fxV_range _).1) (fun i hi => by rw [hget i (by omega)]; unfold fxV; split <;> (try split) <;> omega) (by rw [hget 256 (by omega)]; rfl) 15 1 (List.replicate l.length 0) 0 (by omega) (by omega) (by simp) (by rw [List.getD_eq_getElem?_getD, List.getElem?_replicate]; split <;> rfl) (fun _ => rfl)
  have hs : Ev (fun k => spec_l2Codes.f k l) c := Ev.congr (fun k => by unfold spec_l2Codes.f; rw [if_pos (by omega), if_pos (by omega)]; rfl) h3
  have k1 := kr1 l
  rw [k1] at h4
  have hi : Ev (fun k => impl_codesBy.f k l) (c, kr 16 l) := Ev.congr (fun k => by unfold impl_codesBy.f; rw [if_pos (by omega), if_pos (by omega)]; rfl) h4
  exact ⟨c, s1, s2, hs, ⟨_, hi⟩, by omega, h6⟩

/-! pkmatch -/
-- plain: Evs
def MatchOk (r : Int × Int) : Prop := r = (0, 0) ∨ (3 ≤ r.1 ∧ r.1 ≤ 258 ∧ 1 ≤ r.2)
theorem match_told (l : List Int) (a : Int) (ha0 : 0 ≤ a) (ha : a ≤ l.length) (hl : l.length ≤ 6000) : ∀ (m : Nat) (d b f : Int), 1 ≤ d → d + m = a + 1 → (0 ≤ b ∧ b ≤ 258) ∧ (b = 0 ∨ 1 ≤ f) →
    ∃ r, Ev (fun k => spec_l2Match.l0 k l a b f d) r ∧ Ev (fun k => impl_MatchAt.l0 k l a b f d) r ∧ MatchOk r := by
  intro m
  induction m with
  | zero =>
    intro d b f hd hm hbf
    by_cases hb : b < 3
    · exact ⟨(0, 0), ev_done fun k => by rw [spec_l2Match.l0, if_neg (by omega), if_pos hb], ev_done fun k => by rw [impl_MatchAt.l0, if_neg (by omega), if_pos hb], .inl rfl⟩
    · exact ⟨(b, f), ev_done fun k => by rw [spec_l2Match.l0, if_neg (by omega), if_neg hb], ev_done fun k => by rw [impl_MatchAt.l0, if_neg (by omega), if_neg hb], .inr ⟨by simp only; omega, by simp only; omega, by simp only; omega⟩⟩
  | succ m ih =>
    intro d b f hd hm hbf
    have inner : ∀ (j : Nat) (n : Int), 0 ≤ n → n + j = 258 → ∃ r, Ev (fun k => spec_l2Match.l1 k l a b f d n) r ∧ Ev (fun k => impl_MatchAt.l1 k l a b f d n) r ∧ MatchOk r := by
      have stop : ∀ n : Int, 0 ≤ n → n ≤ 258 → ∃ r, Ev (fun k => if n > b then spec_l2Match.l0 k l a n d (wrap64 (d + 1)) else spec_l2Match.l0 k l a b f (wrap64 (d + 1))) r ∧ Ev (fun k => if n > b then impl_MatchAt.l0 k l a n d (wrap64 (d + 1)) else impl_MatchAt.l0 k l a b f (wrap64 (d + 1))) r ∧ MatchOk r := by
        intro n h0 h1
        rw [wrap_id (x := d + 1) (by omega) (by omega)]
        by_cases h : n > b
        · obtain ⟨r, h2, h3, h4⟩ := ih (d + 1) n d (by omega) (by omega) (by omega)
          exact ⟨r, ev_if_pos h h2, ev_if_pos h h3, h4⟩
        · obtain ⟨r, h2, h3, h4⟩ := ih (d + 1) b f (by omega) (by omega) hbf
          exact ⟨r, ev_if_neg h h2, ev_if_neg h h3, h4⟩
      intro j
      induction j with
      | zero =>
        intro n h0 h1
        obtain ⟨r, h2, h3, h4⟩ := stop n h0 (by omega)
        exact ⟨r, Ev.step (fun k => by rw [spec_l2Match.l1, if_neg (by omega)]) h2, Ev.step (fun k => by rw [impl_MatchAt.l1, if_neg (by omega)]) h3, h4⟩
      | succ j ih2 =>
        intro n h0 h1
        by_cases hn : a + n < l.length
        · by_cases he : rd l (a + n) = rd l (a + n - d)
          · obtain ⟨r, h2, h3, h4⟩ := ih2 (n + 1) (by omega) (by omega)
            refine ⟨r, Ev.step (fun k => ?_) h2, Ev.step (fun k => ?_) h3, h4⟩
            · rw [spec_l2Match.l1, if_pos (by omega), wrap_id (x := a + n) (by omega) (by omega), if_pos hn, if_pos (by omega), wrap_id (x := a + n - d) (by omega) (by omega), if_pos (by omega), if_pos (by omega), if_pos he, wrap_id (x := n + 1) (by omega) (by omega)]
            · rw [impl_MatchAt.l1, if_pos (by omega), wrap_id (x := a + n) (by omega) (by omega), if_pos hn, if_pos (by omega), wrap_id (x := a + n - d) (by omega) (by omega), if_pos (by omega), if_pos (by omega), if_pos he, wrap_id (x := n + 1) (by omega) (by omega)]
          · obtain ⟨r, h2, h3, h4⟩ := stop n h0 (by omega)
            refine ⟨r, Ev.step (fun k => ?_) h2, Ev.step (fun k => ?_) h3, h4⟩
            · rw [spec_l2Match.l1, if_pos (by omega), wrap_id (x := a + n) (by omega) (by omega), if_pos hn, if_pos (by omega), wrap_id (x := a + n - d) (by omega) (by omega), if_pos (by omega), if_pos (by omega), if_neg he]
            · rw [impl_MatchAt.l1, if_pos (by omega), wrap_id (x := a + n) (by omega) (by omega), if_pos hn, if_pos (by omega), wrap_id (x := a + n - d) (by omega) (by omega), if_pos (by omega), if_pos (by omega), if_neg he]
        · obtain ⟨r, h2, h3, h4⟩ := stop n h0 (by omega)
          refine ⟨r, Ev.step (fun k => ?_) h2, Ev.step (fun k => ?_) h3, h4⟩
          · rw [spec_l2Match.l1, if_pos (by omega), wrap_id (x := a + n) (by omega) (by omega), if_neg hn]
          · rw [impl_MatchAt.l1, if_pos (by omega), wrap_id (x := a + n) (by omega) (by omega), if_neg hn]
    obtain ⟨r, h2, h3, h4⟩ := inner 258 0 (by omega) (by omega)
    exact ⟨r, Ev.step (fun k => by rw [spec_l2Match.l0, if_pos (by omega)]) h2, Ev.step (fun k => by rw [impl_MatchAt.l0, if_pos (by omega)]) h3, h4⟩
theorem match_both (l : List Int) (a : Int) (ha0 : 0 ≤ a) (ha : a ≤ l.length) (hl : l.length ≤ 6000) : ∃ r, Ev (fun k => spec_l2Match.f k l a) r ∧ Ev (fun k => impl_MatchAt.f k l a) r ∧ MatchOk r := by
  obtain ⟨r, h1, h2, h3⟩ := match_told l a ha0 ha hl a.toNat 1 0 0 (by omega) (by omega) (by omega)
  refine ⟨r, h1, ?_, h3⟩
  simp only [impl_MatchAt.f]
  refine ev_if_neg (by omega) (ev_bind0 (impl_within_eq _ _ _) ?_)
  rw [decide_eq_true (show 0 ≤ a ∧ a ≤ (l.length : Int) from ⟨ha0, ha⟩)]
  exact Ev.step (fun k => impl_MatchAt.j0.eq_2 ..) (ev_if_neg (by decide) h2)

/-! pkbase -/
-- plain: Evs
/-- a table's entry: both read the same one, with few bits behind it. -/
def bsOk (r : Nat) : Bool := match spec_l2Base.f (r : Int), impl_lengthBase.f (257 + (r : Int)) with
  | some p, some q => p == q && decide (0 ≤ p.2 ∧ p.2 ≤ 62)
  | _, _ => false
def fbOk (r : Nat) : Bool := match spec_l2Back.f (r : Int), impl_farBase.f (r : Int) with
  | some p, some q => p == q && decide (0 ≤ p.2 ∧ p.2 ≤ 62)
  | _, _ => false
theorem bs_all : ∀ r : Fin 29, bsOk r.val = true := by decide +kernel
theorem fb_all : ∀ r : Fin 30, fbOk r.val = true := by decide +kernel
theorem bs_get (r : Nat) (h : r ≤ 28) : ∃ b m, spec_l2Base.f (r : Int) = some (b, m) ∧ impl_lengthBase.f (257 + (r : Int)) = some (b, m) ∧ 0 ≤ m ∧ m ≤ 62 := by
  have := bs_all ⟨r, by omega⟩
  unfold bsOk at this
  split at this
  · rename_i p q h1 h2
    rw [Bool.and_eq_true, beq_iff_eq, decide_eq_true_eq] at this
    obtain ⟨e, e1, e2⟩ := this
    subst e
    exact ⟨p.1, p.2, h1, h2, e1, e2⟩
  · cases this
theorem fb_get (r : Nat) (h : r ≤ 29) : ∃ b m, spec_l2Back.f (r : Int) = some (b, m) ∧ impl_farBase.f (r : Int) = some (b, m) ∧ 0 ≤ m ∧ m ≤ 62 := by
  have := fb_all ⟨r, by omega⟩
  unfold fbOk at this
  split at this
  · rename_i p q h1 h2
    rw [Bool.and_eq_true, beq_iff_eq, decide_eq_true_eq] at this
    obtain ⟨e, e1, e2⟩ := this
    subst e
    exact ⟨p.1, p.2, h1, h2, e1, e2⟩
  · cases this
theorem base0 : spec_l2Base.f 0 = some (3, 0) := by decide +kernel
theorem back0 : spec_l2Back.f 0 = some (1, 0) := by decide +kernel
theorem base28 : spec_l2Base.f 28 = some (258, 0) := by decide +kernel
theorem pkB_both (n : Int) (hn : 3 ≤ n) : ∀ (r : Nat) (b m : Int), r ≤ 28 → spec_l2Base.f (r : Int) = some (b, m) → ∃ kk, kk ≤ r ∧ pkB n (r + 1) b = some kk ∧ (if b ≤ n then some r else pkBi n r) = some kk := by
  intro r
  induction r with
  | zero =>
    intro b m hr hb
    have e : b = 3 := by have := base0; rw [show ((0 : Nat) : Int) = 0 from rfl, this] at hb; injection hb with hb; injection hb with h1 _; exact h1.symm
    subst e
    exact ⟨0, Nat.le_refl _, by rw [pkB, if_neg (by omega)], by rw [if_pos hn]⟩
  | succ r ih =>
    intro b m hr hb
    by_cases h : b ≤ n
    · exact ⟨r + 1, Nat.le_refl _, by rw [pkB, if_neg (by omega)], by rw [if_pos h]⟩
    · obtain ⟨b', m', h1, h2, _⟩ := bs_get r (by omega)
      obtain ⟨kk, g1, g2, g3⟩ := ih b' m' (by omega) h1
      refine ⟨kk, by omega, ?_, ?_⟩
      · rw [pkB, if_pos (by omega), show ((r + 1 : Nat) : Int) - 1 = (r : Int) by omega, h1]
        exact g2
      · rw [if_neg h, pkBi, h2]
        exact g3
theorem pkB_top (n : Int) (hn : 3 ≤ n) (hn2 : n ≤ 258) : ∃ kk, kk ≤ 28 ∧ pkB n 29 258 = some kk ∧ (if n < 258 then pkBi n 28 else some 28) = some kk := by
  obtain ⟨kk, g1, g2, g3⟩ := pkB_both n hn 28 258 0 (Nat.le_refl _) base28
  refine ⟨kk, g1, g2, ?_⟩
  by_cases h : n < 258
  · rw [if_neg (by omega)] at g3; rw [if_pos h]; exact g3
  · rw [if_pos (by omega)] at g3; rw [if_neg h]; exact g3
theorem pkF_both (f : Int) (hf : 1 ≤ f) : ∀ (r : Nat) (b m : Int), r ≤ 29 → spec_l2Back.f (r : Int) = some (b, m) → ∃ kk, kk ≤ r ∧ pkF f (r + 1) b = some kk ∧ pkFi f (r + 1) b = some kk := by
  intro r
  induction r with
  | zero =>
    intro b m hr hb
    have e : b = 1 := by have := back0; rw [show ((0 : Nat) : Int) = 0 from rfl, this] at hb; injection hb with hb; injection hb with h1 _; exact h1.symm
    subst e
    exact ⟨0, Nat.le_refl _, by rw [pkF, if_neg (by omega)], by rw [pkFi, if_neg (by omega)]⟩
  | succ r ih =>
    intro b m hr hb
    by_cases h : b > f
    · obtain ⟨b', m', h1, h2, _⟩ := fb_get r (by omega)
      obtain ⟨kk, g1, g2, g3⟩ := ih b' m' (by omega) h1
      refine ⟨kk, by omega, ?_, ?_⟩
      · rw [pkF, if_pos h, show ((r + 1 : Nat) : Int) - 1 = (r : Int) by omega, h1]
        exact g2
      · rw [pkFi, if_pos h, show ((r + 1 : Nat) : Int) - 1 = (r : Int) by omega, h2]
        exact g3
    · exact ⟨r + 1, Nat.le_refl _, by rw [pkF, if_neg h], by rw [pkFi, if_neg h]⟩

/-! pkloop -/
-- plain: Evs
theorem pack_l0 (D ls cs : List Int) (hD : D.length ≤ 6000) (hd : ∀ i : Nat, i < D.length → 0 ≤ rd D (i : Int) ∧ rd D (i : Int) < 256) (hls : ∀ x : Int, 0 ≤ rd ls x ∧ rd ls x ≤ 9) (hc : rd cs 256 = 0) (hl : rd ls 256 = 7) :
    ∀ (c i : Nat) (o : List Int) (m f : Int), D.length ≤ i + c → i ≤ 10000 → RelB o m f (1000 + 248 * i) → ∃ r, Ev (fun k => spec_l2PackFixed.l0 D ls cs k (i : Int) o m) r ∧ Ev (fun k => impl_PackFixedOf.l0 D ls cs k (i : Int) o f) (r, true) ∧ r.length ≤ 10000000 := by
  have fin : ∀ (i : Nat) (o : List Int) (m f : Int), D.length ≤ i → i ≤ 10000 → RelB o m f (1000 + 248 * i) → ∃ r, Ev (fun k => spec_l2PackFixed.l0 D ls cs k (i : Int) o m) r ∧ Ev (fun k => impl_PackFixedOf.l0 D ls cs k (i : Int) o f) (r, true) ∧ r.length ≤ 10000000 := by
    intro i o m f h1 h2 h3
    obtain ⟨o', m', f', g1, g2, g3⟩ := code_both o m f 0 7 _ h3 (by omega) (by omega)
    refine ⟨o', Ev.step (fun k => spec_l2PackFixed.l0.eq_2 ..) (ev_if_neg (by omega) (ev_bind0 g1 (Ev.now _))), Ev.step (fun k => impl_PackFixedOf.l0.eq_2 ..) (ev_if_neg (by omega) (ev_bind0 (a := (o', f')) (by rw [hc, hl]; exact g2) (Ev.now _))), ?_⟩
    obtain ⟨_, q1, q2, _⟩ := g3
    omega
  intro c
  induction c with
  | zero => intro i o m f h1 h2 h3; exact fin i o m f (by omega) h2 h3
  | succ c ih =>
    intro i o m f h1 h2 h3
    by_cases hi : D.length ≤ i
    · exact fin i o m f hi h2 h3
    obtain ⟨⟨n, fr⟩, q1, q2, q3⟩ := match_both D (i : Int) (by omega) (by omega) hD
    by_cases hn : n = 0
    · subst hn
      obtain ⟨d1, d2⟩ := hd i (by omega)
      obtain ⟨o', m', f', g1, g2, g3⟩ := code_both o m f (rd cs (rd D (i : Int))) (rd ls (rd D (i : Int))) _ h3 (by omega) (by have := hls (rd D (i : Int)); omega)
      obtain ⟨r, r1, r2, r3⟩ := ih (i + 1) o' m' f' (by omega) (by omega) (g3.up (by omega))
      have hw : ∀ _ : Unit, wrap64 ((i : Int) + 1) = ((i + 1 : Nat) : Int) := fun _ => by rw [wrap_id (x := (i : Int) + 1) (by omega) (by omega)]; omega
      refine ⟨r, Ev.step (fun k => spec_l2PackFixed.l0.eq_2 ..) (ev_if_pos (by omega) (ev_if_pos (by omega) (ev_bind q1 (ev_if_pos rfl (ev_if_pos ⟨d1, d2⟩ (ev_bind0 g1 ?_)))))), Ev.step (fun k => impl_PackFixedOf.l0.eq_2 ..) (ev_if_pos (by omega) (ev_if_pos (by omega) (ev_bind q2 (ev_if_pos rfl (ev_if_pos ⟨d1, d2⟩ (ev_bind0 g2 ?_)))))), r3⟩
      · rw [hw ()]; exact r1
      · rw [hw ()]; exact r2
    · obtain ⟨n1, n2, n3⟩ : 3 ≤ n ∧ n ≤ 258 ∧ 1 ≤ fr := by
        rcases q3 with q3 | q3
        · exact absurd (congrArg Prod.fst q3) hn
        · exact q3
      obtain ⟨kk, k1, k2, k3⟩ := pkB_top n n1 n2
      obtain ⟨bb, bm, b1, b2, b3, b4⟩ := bs_get kk k1
      obtain ⟨b29, c29, b5, b6, _⟩ := fb_get 29 (Nat.le_refl _)
      obtain ⟨kf, k4, k5, k6⟩ := pkF_both fr n3 29 b29 c29 (Nat.le_refl _) b5
      obtain ⟨fb, fm, b7, b8, b9, b10⟩ := fb_get kf k4
      obtain ⟨o1, m1, f1, g1, g2, g3⟩ := code_both o m f (rd cs (257 + (kk : Int))) (rd ls (257 + (kk : Int))) _ h3 (by omega) (by have := hls (257 + (kk : Int)); omega)
      obtain ⟨o2, m2, f2, g4, g5, g6⟩ := number_both o1 m1 f1 (wrap64 (n - bb)) bm _ g3 (by omega) (by omega)
      obtain ⟨o3, m3, f3, g7, g8, g9⟩ := code_both o2 m2 f2 (kf : Int) 5 _ g6 (by omega) (by omega)
      obtain ⟨o4, m4, f4, g10, g11, g12⟩ := number_both o3 m3 f3 (wrap64 (fr - fb)) fm _ g9 (by omega) (by omega)
      obtain ⟨r, r1, r2, r3⟩ := ih (i + n.toNat) o4 m4 f4 (by omega) (by omega) (g12.up (by omega))
      have hw : ∀ _ : Unit, wrap64 ((i : Int) + n) = ((i + n.toNat : Nat) : Int) := fun _ => by rw [wrap_id (x := (i : Int) + n) (by omega) (by omega)]; omega
      refine ⟨r, Ev.step (fun k => spec_l2PackFixed.l0.eq_2 ..) (ev_if_pos (by omega) (ev_if_pos (by omega) (ev_bind q1 (ev_if_neg hn (ev_bind0 base28 (ev_bind0 k2 (ev_bind0 b1 (ev_bind0 g1 (ev_bind0 g4 (ev_bind0 b5 (ev_bind0 k5 (ev_bind0 b7 (ev_bind0 g7 (ev_bind0 g10 ?_)))))))))))))), Ev.step (fun k => impl_PackFixedOf.l0.eq_2 ..) (ev_if_pos (by omega) (ev_if_pos (by omega) (ev_bind q2 (ev_if_neg hn (ev_bind0 k3 (ev_bind0 b2 (ev_bind0 g2 (ev_bind0 g5 (ev_bind0 b6 (ev_bind0 k6 (ev_bind0 b8 (ev_bind0 g8 (ev_bind0 g11 ?_))))))))))))), r3⟩
      · rw [hw ()]; exact r1
      · rw [hw ()]; exact r2
theorem rd_ls (x : Int) : 0 ≤ rd (fxL 288 0) x ∧ rd (fxL 288 0) x ≤ 9 := by
  unfold rd
  rw [List.getD_eq_getElem?_getD]
  by_cases h : x.toNat < (fxL 288 0).length
  · rw [List.getElem?_eq_getElem h, Option.getD_some]
    have := fxL_mem 288 0 _ (List.getElem_mem h)
    omega
  · rw [List.getElem?_eq_none (by omega)]
    simp
theorem PackFixed_core (D : List Int) (hd : ∀ x ∈ D, 0 ≤ x ∧ x < 256) (h6 : ¬ (D.length : Int) > 6000) : ∃ r, Ev (fun k => spec_l2PackFixed.f k D) r ∧ Ev (fun k => impl_PackFixedOf.f k D) (r, true) ∧ r.length ≤ 10000000 := by
  simp only [impl_PackFixedOf.f]
  obtain ⟨cs, f1, f2, f3, ⟨s, f4⟩, f5, f6⟩ := fixed_rows
  have hl := fxL_len 288 0
  have start : ∃ o m f, spec_l2Bits_number.f [] 0 3 3 = some (o, m) ∧ (∃ o1 f1, impl_bitWriter_number.f [] 0 1 1 = some (o1, f1) ∧ impl_bitWriter_number.f o1 f1 1 2 = some (o, f)) ∧ RelB o m f (1000 + 248 * 0) := by
    refine ⟨[3], 3, 5, by decide +kernel, ⟨[1], 7, by decide +kernel, by decide +kernel⟩, ?_⟩
    unfold RelB
    refine ⟨by omega, by omega, by simp, by omega, fun _ => by simp⟩
  obtain ⟨o, m, f, g1, ⟨o1, f1', g2, g3⟩, g4⟩ := start
  obtain ⟨r, r1, r2, r3⟩ := pack_l0 D (fxL 288 0) cs (by omega) (fun i hi => by
    unfold rd
    rw [Int.toNat_natCast, List.getD_eq_getElem?_getD, List.getElem?_eq_getElem hi, Option.getD_some]
    exact hd _ (List.getElem_mem hi)) rd_ls f6 ((fxL_get 288 0 256 (by omega)).trans rfl) D.length 0 o m f (by omega) (by omega) g4
  refine ⟨r, ?_, ev_if_neg h6 (ev_bind f2 (ev_bind f4 (ev_if_pos ⟨hl, f5⟩ (ev_bind0 g2 (ev_bind0 g3 r2))))), r3⟩
  simp only [spec_l2PackFixed.f]
  exact ev_bind f1 (ev_bind f3 (ev_if_pos ⟨hl, f5⟩ (ev_bind0 g1 r1)))

/-! pkbest -/
-- plain: Evs Bits
def stL (l : List Int) : List Int := [1, (l.length : Int) % 256, (l.length : Int) / 256 % 256, 255 - (l.length : Int) % 256, 255 - (l.length : Int) / 256 % 256] ++ l
theorem stL_len (l : List Int) : (stL l).length = l.length + 5 := by unfold stL; simp
theorem spec_l2Stored_eq (l : List Int) (h : ¬ (l.length : Int) > 6000) : spec_l2Stored.f l = some (stL l) := by
  unfold stL
  rw [spec_l2Stored.f]
  rw [compl_i64 _ (by omega) (by omega)]
  rw [show (-1 - (l.length : Int)) % 256 = 255 - (l.length : Int) % 256 by omega, show (-1 - (l.length : Int)) / 256 % 256 = 255 - (l.length : Int) / 256 % 256 by omega]
  rw [Option.bind_some, if_pos (by simp only [List.length_cons, List.length_nil]; omega)]
theorem impl_Stored_eq (l : List Int) (h : ¬ (l.length : Int) > 6000) : impl_PackStoredOf.f l = some (stL l, true) := by
  unfold impl_PackStoredOf.f stL
  rw [if_neg h]
  rw [compl_u8 _ (by omega) (by omega), compl_u8 _ (by omega) (by omega)]
  rw [Option.bind_some, if_pos (by simp only [List.length_cons, List.length_nil]; omega)]
theorem PackBest_core (D : List Int) (hd : ∀ x ∈ D, 0 ≤ x ∧ x < 256) (h6 : ¬ (D.length : Int) > 6000) : ∃ r, Ev (fun k => spec_l2Best.f k D) r ∧ Ev (fun k => impl_PackBest.f k D) (r, true) ∧ r.length ≤ 10000000 ∧ r.length ≤ D.length + 5 := by
  obtain ⟨r, s1, s2, s3⟩ := PackFixed_core D hd h6
  have hl := stL_len D
  have hw : wrap64 ((D.length : Int) + 5) = (D.length : Int) + 5 := wrap_id (by omega) (by omega)
  simp only [spec_l2Best.f, impl_PackBest.f, hw]
  by_cases h : (r.length : Int) < (D.length : Int) + 5
  · refine ⟨r, ev_bind s1 (ev_if_pos h (Ev.now _)), ev_bind0 (impl_Stored_eq D h6) (ev_if_pos rfl (ev_bind s2 (ev_if_pos ?_ (Ev.now _)))), s3, by omega⟩
    simp only [hl]; omega
  · refine ⟨stL D, ev_bind s1 (ev_if_neg h (ev_bind0 (spec_l2Stored_eq D h6) (Ev.now _))), ev_bind0 (impl_Stored_eq D h6) (ev_if_pos rfl (ev_bind s2 (ev_if_neg ?_ (Ev.now _)))), by omega, by omega⟩
    simp only [hl]; omega

/-! pngenc -/
-- plain: Evs Bits Png
theorem adler_inb (l : List Int) (hw : InB l) (hl : l.length ≤ 9223372036854775807) : ∀ (d i : Nat) (a b : Int), i + d = l.length → 0 ≤ a → a < 65521 → 0 ≤ b → b < 65521 →
    ∃ r, Ev (fun k => spec_l3Adler.l0 k a b l l.length i) r ∧ Ev (fun k => impl_Adler32.l0 k a b l l.length i) r := by
  intro d
  induction d with
  | zero =>
    intro i a b hi ha0 ha1 hb0 hb1
    refine ⟨b * 65536 + a, ev_done fun k => ?_, ev_done fun k => ?_⟩
    · rw [spec_l3Adler.l0, if_neg (by omega), wrap_id (x := b * 65536) (by omega) (by omega), wrap_id (by omega) (by omega), Int.emod_eq_of_lt (by omega) (by omega)]
    · rw [impl_Adler32.l0, if_neg (by omega), u32_join16 _ _ (by omega) (by omega) (by omega) ha0 (by omega), Int.emod_eq_of_lt (by omega) (by omega)]
  | succ d ih =>
    intro i a b hi ha0 ha1 hb0 hb1
    have hr := inB_rd hw (i : Int)
    obtain ⟨r, h1, h2⟩ := ih (i + 1) ((a + rd l i) % 65521) ((b + (a + rd l i) % 65521) % 65521) (by omega) (by omega) (by omega) (by omega) (by omega)
    refine ⟨r, Ev.step (fun k => ?_) h1, Ev.step (fun k => ?_) h2⟩
    · rw [spec_l3Adler.l0, if_pos (by omega), if_pos (by omega), if_pos (by omega), wrap_id (x := rd l i) (by omega) (by omega), wrap_id (x := a + rd l i) (by omega) (by omega), Int.tmod_eq_emod_of_nonneg (a := a + rd l i) (by omega),
        wrap_id (x := b + _) (by omega) (by omega), Int.tmod_eq_emod_of_nonneg (a := b + _) (by omega), wrap_up (by omega) hl]
    · have e1 : ((a + rd l i % 4294967296) % 4294967296) % 65521 = (a + rd l i) % 65521 := by omega
      rw [impl_Adler32.l0, if_pos (by omega), if_pos (by omega), if_pos (by omega), e1, Int.emod_eq_of_lt (a := b + _) (by omega) (by omega), wrap_up (by omega) hl]
theorem crc_alike : ∀ k, (∀ x l n i, spec_l3Crc.l0 k x l n i = impl_Crc32.l0 k x l n i) ∧ (∀ x j l n i, spec_l3Crc.l1 k x j l n i = impl_Crc32.l1 k x l n i j)
  | 0 => ⟨fun _ _ _ _ => by rw [spec_l3Crc.l0, impl_Crc32.l0], fun _ _ _ _ _ => by rw [spec_l3Crc.l1, impl_Crc32.l1]⟩
  | k + 1 => by
    obtain ⟨h0, h1⟩ := crc_alike k
    refine ⟨fun x l n i => ?_, fun x j l n i => ?_⟩
    · rw [spec_l3Crc.l0, impl_Crc32.l0, h1, bits_xor_comm .u32 4294967295]
    · rw [spec_l3Crc.l1, impl_Crc32.l1, h1, h1, h0]
theorem crc_bits (l : List Int) (n i : Int) (hnext : ∀ x, ∃ r, Ev (fun k => spec_l3Crc.l0 k x l n (wrap64 (i + 1))) r) : ∀ (d j : Nat) (x : Int), j + d = 8 → ∃ r, Ev (fun k => spec_l3Crc.l1 k x j l n i) r := by
  intro d
  induction d with
  | zero =>
    intro j x hj
    obtain ⟨r, hr⟩ := hnext x
    exact ⟨r, Ev.step (fun k => by rw [spec_l3Crc.l1, if_neg (by omega)]) hr⟩
  | succ d ih =>
    intro j x hj
    by_cases hb : Go.bits .and .u32 x 1 = 1
    · obtain ⟨r, hr⟩ := ih (j + 1) (Go.bits .xor .u32 (x / 2) 3988292384) (by omega)
      exact ⟨r, Ev.step (fun k => by rw [spec_l3Crc.l1, if_pos (by omega), if_pos hb, wrap_up (n := 8) (by omega) (by omega)]) hr⟩
    · obtain ⟨r, hr⟩ := ih (j + 1) (x / 2) (by omega)
      exact ⟨r, Ev.step (fun k => by rw [spec_l3Crc.l1, if_pos (by omega), if_neg hb, wrap_up (n := 8) (by omega) (by omega)]) hr⟩
theorem crc_ends (l : List Int) (hl : l.length ≤ 9223372036854775807) : ∀ (d i : Nat) (x : Int), i + d = l.length → ∃ r, Ev (fun k => spec_l3Crc.l0 k x l l.length i) r := by
  intro d
  induction d with
  | zero =>
    intro i x hi
    exact ⟨_, ev_done fun k => by rw [spec_l3Crc.l0, if_neg (by omega)]⟩
  | succ d ih =>
    intro i x hi
    obtain ⟨r, hr⟩ := crc_bits l l.length i (fun x => by rw [wrap_up (n := l.length) (by omega) hl]; exact ih (i + 1) x (by omega)) 8 0 (Go.bits .xor .u32 x ((rd l i) % 4294967296)) (by omega)
    exact ⟨r, Ev.step (fun k => by rw [spec_l3Crc.l0, if_pos (by omega), if_pos (by omega), if_pos (by omega)]; rfl) hr⟩
theorem adler_both (l : List Int) (hw : InB l) (hl : l.length ≤ 9223372036854775807) : ∃ r, Ev (fun k => spec_l3Adler.f k l) r ∧ Ev (fun k => impl_Adler32.f k l) r := by
  obtain ⟨r, h1, h2⟩ := adler_inb l hw hl l.length 0 1 0 (by omega) (by omega) (by omega) (by omega) (by omega)
  exact ⟨r, h1, h2⟩
theorem crc_both (l : List Int) (hl : l.length ≤ 9223372036854775807) : ∃ r, Ev (fun k => spec_l3Crc.f k l) r ∧ Ev (fun k => impl_Crc32.f k l) r := by
  obtain ⟨r, h1⟩ := crc_ends l hl l.length 0 4294967295 (by omega)
  exact ⟨r, h1, Ev.congr (fun k => ((crc_alike k).1 _ _ _ _).symm) h1⟩
def fourL (a : Int) : List Int := [(a / 16777216) % 256, (a / 65536) % 256, (a / 256) % 256, (a) % 256]
theorem spec_four (a : Int) : spec_l3Four.f a = some (fourL a) := rfl
theorem impl_four_ (a : Int) : impl_four.f a = some (fourL a) := rfl
theorem fourL_len (a : Int) : (fourL a).length = 4 := rfl
theorem chunk_both (l : List Int) (s : ByteArray) (d : List Int) (hl : l.length ≤ 1000000) (hs : s.size ≤ 100) (hd : d.length ≤ 1000000) : ∃ c, Ev (fun k => spec_l3Chunk.f k l s d) (l ++ c) ∧ Ev (fun k => impl_chunk.f k s d) c ∧ c.length = d.length + s.size + 8 := by
  have hb := bytesOf_length s
  obtain ⟨r, h1, h2⟩ := crc_both (bytesOf s ++ d) (by rw [List.length_append]; omega)
  refine ⟨(fourL ((d.length : Int) % 4294967296) ++ (bytesOf s ++ d)) ++ fourL r, ?_, ?_, ?_⟩
  · simp only [spec_l3Chunk.f]
    refine ev_if_pos ⟨by omega, by omega⟩ (ev_bind0 (spec_four _) (ev_bind h1 (ev_bind0 (spec_four _) (ev_if_pos ⟨by rw [fourL_len]; omega, by rw [fourL_len]; omega⟩ ?_))))
    rw [show l ++ ((fourL ((d.length : Int) % 4294967296) ++ (bytesOf s ++ d)) ++ fourL r) = ((l ++ fourL ((d.length : Int) % 4294967296)) ++ (bytesOf s ++ d)) ++ fourL r by simp only [List.append_assoc]]
    exact Ev.now _
  · simp only [impl_chunk.f]
    exact ev_if_pos (by omega) (ev_bind0 (impl_four_ _) (ev_bind h2 (ev_bind0 (impl_four_ _) (ev_if_pos ⟨by rw [fourL_len]; omega, by rw [fourL_len]; omega⟩ (Ev.now _)))))
  · simp only [List.length_append, fourL_len, hb]; omega
theorem inB_app {a b : List Int} (ha : InB a) (hb : InB b) : InB (a ++ b) := fun x hx => by
  rcases List.mem_append.mp hx with h | h
  · exact ha x h
  · exact hb x h
theorem rows_both (D : List Int) (hD : InB D) (m h : Nat) (hm : 1 ≤ m ∧ m ≤ 36) (hh : h ≤ 36) (hl : D.length = 4 * m * h) : ∀ (c y : Nat) (rows above : List Int), y + c = h → InB rows → InB above → above.length = 4 * m → rows.length ≤ 145 * y →
    ∃ R ab, InB R ∧ R.length ≤ 145 * h ∧ (∀ r, Ev (fun k => spec_l3Pack.l0 k (m : Int) (h : Int) D R ab (h : Int)) r → Ev (fun k => spec_l3Pack.l0 k (m : Int) (h : Int) D rows above (y : Int)) r) ∧ (∀ r, Ev (fun k => impl_EncodePng.l0 k (m : Int) (h : Int) D R ab (h : Int) (h : Int)) r → Ev (fun k => impl_EncodePng.l0 k (m : Int) (h : Int) D rows above (h : Int) (y : Int)) r) := by
  have hP : ∀ (_ : Unit) (y : Nat), y ≤ 36 → wrap64 (wrap64 (4 * (m : Int)) * (y : Int)) = ((4 * m * y : Nat) : Int) := fun _ y hy => by
    have h1 : 4 * m * y ≤ 144 * 36 := Nat.mul_le_mul (by omega) hy
    have e : (4 * (m : Int)) * (y : Int) = ((4 * m * y : Nat) : Int) := by simp only [Int.natCast_mul, Int.cast_ofNat_Int]
    rw [wrap_id (x := 4 * (m : Int)) (by omega) (by omega), e, wrap_id (by omega) (by omega)]
  intro c
  induction c with
  | zero =>
    intro y rows above hy hr ha hal hrl
    rw [Nat.add_zero] at hy
    subst hy
    exact ⟨rows, above, hr, hrl, fun _ g => g, fun _ g => g⟩
  | succ c ih =>
    intro y rows above hy hr ha hal hrl
    have h1 := hP () y (by omega)
    have h2 := hP () (y + 1) (by omega)
    have hmul : 4 * m * (y + 1) = 4 * m * y + 4 * m := Nat.mul_succ _ _
    have hle : 4 * m * (y + 1) ≤ 4 * m * h := Nat.mul_le_mul_left _ (by omega)
    have hw : wrap64 ((y : Int) + 1) = ((y + 1 : Nat) : Int) := by rw [wrap_id (by omega) (by omega)]; omega
    generalize 4 * m * y = p at *
    generalize 4 * m * (y + 1) = q at *
    obtain ⟨row, hrow⟩ : ∃ row, row = (D.take q).drop p := ⟨_, rfl⟩
    have hRl : row.length = 4 * m := by rw [hrow, List.length_drop, List.length_take]; omega
    have hRb : InB row := fun x hx => hD x (by rw [hrow] at hx; exact List.mem_of_mem_take (List.mem_of_mem_drop hx))
    obtain ⟨kind, k1, k2⟩ := best_same row above hRb ha (by omega) (by omega) 5 0 0 0 (-1) (by omega) (.inl ⟨rfl, rfl, rfl⟩)
    have hfl := fil_length kind row above row.length
    have hfb := fil_inB kind row above row.length
    have f1 := spec_l3Filter_ev kind row above hRb ha (by omega) (by omega)
    have f2 := impl_filtered_F_ev kind row above false hRb ha (by omega) (by omega)
    have k3 : Ev (fun k => impl_BestFilter.f k row above) (kind, true) := by
      simp only [impl_BestFilter.f]
      refine ev_bind0 (impl_areRows_eq _ _ _ (by omega)) (ev_if_pos ?_ k2)
      rw [Bool.and_eq_true]
      exact ⟨by decide, decide_eq_true (by omega)⟩
    generalize fil kind row above row.length = F at *
    obtain ⟨R, ab, r1, r2, r3, r4⟩ := ih (y + 1) ((rows ++ [kind % 256]) ++ F) row (by omega) (inB_app (inB_snoc hr (by omega)) hfb) hRb hRl (by rw [List.length_append, List.length_append, List.length_singleton]; omega)
    refine ⟨R, ab, r1, r2, fun r g => ?_, fun r g => ?_⟩
    · have g := r3 r g
      refine Ev.step (fun k => spec_l3Pack.l0.eq_2 ..) (ev_if_pos (by omega) ?_)
      rw [hw, h1, h2]
      refine ev_if_pos (by omega) (ev_if_pos (by omega) (ev_if_pos (by omega) ?_))
      rw [Int.toNat_natCast, Int.toNat_natCast, ← hrow]
      exact ev_bind0 rfl (ev_bind k1 (ev_if_pos (by omega) (ev_bind0 rfl (ev_bind f1 (ev_if_pos (by rw [List.length_append, List.length_singleton]; omega) g)))))
    · have g := r4 r g
      refine Ev.step (fun k => impl_EncodePng.l0.eq_2 ..) (ev_if_pos (by omega) ?_)
      rw [hw, h1, h2]
      refine ev_if_pos (by omega) (ev_if_pos (by omega) (ev_if_pos (by omega) ?_))
      rw [Int.toNat_natCast, Int.toNat_natCast, ← hrow]
      exact ev_bind0 rfl (ev_bind k3 (ev_if_pos (by omega) (ev_bind0 rfl (ev_bind f2 (ev_if_pos (by rw [List.length_append, List.length_singleton]; omega) g)))))
theorem Encode_core (D : List Int) (hD : InB D) (m h : Nat) (hm : 1 ≤ m ∧ m ≤ 36) (hh : 1 ≤ h ∧ h ≤ 36) (hl : D.length = 4 * m * h) : ∃ r, Ev (fun k => spec_l3Encode.f k (m : Int) (h : Int) D) r ∧ Ev (fun k => impl_EncodePng.l0 k (m : Int) (h : Int) D ([] : List Int) (List.replicate (4 * m) 0) (h : Int) 0) (r, true) ∧ r.length ≤ 1000000 := by
  obtain ⟨R, ab, r1, r2, r3, r4⟩ := rows_both D hD m h hm hh.2 hl h 0 [] (List.replicate (4 * m) 0) (by omega) (fun x hx => by cases hx) (fun x hx => by rw [List.mem_replicate] at hx; omega) List.length_replicate (by simp)
  obtain ⟨b, b1, b2, b3, b4⟩ := PackBest_core R (fun x hx => by have := r1 x hx; omega) (by omega)
  obtain ⟨a, a1, a2⟩ := adler_both R r1 (by omega)
  have w4 : wrap64 (4 * (m : Int)) = ((4 * m : Nat) : Int) := by rw [wrap_id (by omega) (by omega)]; omega
  have hl2 : ([120, 1] : List Int).length = 2 := rfl
  have hl5 : ([8, 6, 0, 0, 0] : List Int).length = 5 := rfl
  have hl8 : ([137, 80, 78, 71, 13, 10, 26, 10] : List Int).length = 8 := rfl
  have z1 : (⟨#[73, 72, 68, 82]⟩ : ByteArray).size = 4 := rfl
  have z2 : (⟨#[73, 68, 65, 84]⟩ : ByteArray).size = 4 := rfl
  have z3 : (⟨#[73, 69, 78, 68]⟩ : ByteArray).size = 4 := rfl
  have p1 : Ev (fun k => spec_l3Pack.f k (m : Int) (h : Int) D) (([120, 1] ++ b) ++ fourL a) := by
    simp only [spec_l3Pack.f, w4]
    refine ev_if_pos (by omega) (ev_if_pos (by omega) ?_)
    rw [Int.toNat_natCast]
    refine r3 _ (Ev.step (fun k => spec_l3Pack.l0.eq_2 ..) (ev_if_neg (by omega) (ev_bind0 rfl (ev_bind b1 (ev_if_pos (by rw [hl2]; omega) (ev_bind0 rfl (ev_bind a1 (ev_bind0 (spec_four _) (ev_if_pos (by rw [List.length_append, fourL_len, hl2]; omega) (Ev.now _))))))))))
  have hp : (([120, 1] ++ b) ++ fourL a).length ≤ 100000 := by rw [List.length_append, List.length_append, fourL_len, hl2]; omega
  have hq : ((fourL ((m : Int) % 4294967296) ++ fourL ((h : Int) % 4294967296)) ++ [8, 6, 0, 0, 0]).length = 13 := by rw [List.length_append, List.length_append, fourL_len, fourL_len]; rfl
  obtain ⟨q1, e1, e2, e3⟩ := chunk_both [137, 80, 78, 71, 13, 10, 26, 10] ⟨#[73, 72, 68, 82]⟩ ((fourL ((m : Int) % 4294967296) ++ fourL ((h : Int) % 4294967296)) ++ [8, 6, 0, 0, 0]) (by rw [hl8]; omega) (by omega) (by omega)
  obtain ⟨q2, e4, e5, e6⟩ := chunk_both ([137, 80, 78, 71, 13, 10, 26, 10] ++ q1) ⟨#[73, 68, 65, 84]⟩ (([120, 1] ++ b) ++ fourL a) (by rw [List.length_append, hl8]; omega) (by omega) (by omega)
  obtain ⟨q3, e7, e8, e9⟩ := chunk_both (([137, 80, 78, 71, 13, 10, 26, 10] ++ q1) ++ q2) ⟨#[73, 69, 78, 68]⟩ [] (by rw [List.length_append, List.length_append, hl8]; omega) (by omega) (by simp)
  have e9 : q3.length = 12 := by rw [e9, z3]; rfl
  refine ⟨(([137, 80, 78, 71, 13, 10, 26, 10] ++ q1) ++ q2) ++ q3, ?_, ?_, ?_⟩
  · simp only [spec_l3Encode.f]
    exact ev_bind0 (spec_four _) (ev_bind0 (spec_four _) (ev_if_pos (by rw [fourL_len, fourL_len]; omega) (ev_bind0 rfl (ev_bind0 rfl (ev_if_pos (by rw [List.length_append, fourL_len, fourL_len, hl5]; omega) (ev_bind0 (a := [137, 80, 78, 71, 13, 10, 26, 10]) rfl (ev_bind e1 (ev_bind p1 (ev_bind e4 (ev_bind e7 (Ev.now _)))))))))))
  · refine r4 _ (Ev.step (fun k => impl_EncodePng.l0.eq_2 ..) (ev_if_neg (by omega) (ev_bind b2 (ev_bind0 rfl (ev_if_pos (by simp only [hl2]; omega) (ev_bind0 rfl (ev_bind a2 (ev_bind0 (impl_four_ _) (ev_if_pos (by simp only [List.length_append, fourL_len, hl2]; omega) (ev_bind0 (impl_four_ _) (ev_bind0 (impl_four_ _) (ev_if_pos (by rw [fourL_len, fourL_len]; omega) (ev_bind0 rfl (ev_bind0 rfl (ev_if_pos (by rw [List.length_append, fourL_len, fourL_len, hl5]; omega) (ev_bind0 rfl (ev_bind e2 (ev_if_pos ?_ (ev_bind0 rfl (ev_bind e5 (ev_if_pos ?_ (ev_bind0 rfl (ev_bind e8 (ev_if_pos ?_ (Ev.now _)))))))))))))))))))))))))
    · rw [hl8]; omega
    · rw [List.length_append, hl8]; omega
    · rw [List.length_append, List.length_append, hl8]; omega
  · rw [List.length_append, List.length_append, List.length_append, hl8]; omega

end Go.Proofs.Ytfogfjmkngoegaa.Pure
