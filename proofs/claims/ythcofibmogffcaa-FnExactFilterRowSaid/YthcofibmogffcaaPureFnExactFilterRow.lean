/- FilterRow: the program's FilterRow answers as the reference's at all arguments, writes into none, and its answer is its own; no condition. -/
import Derived.Test.YthcofibmogffcaaPFnExactFilterRowx4
import Derived.Test.YthcofibmogffcaaPlain
import Derived.Test.YthcofibmogffcaaEvs
import Derived.Test.YthcofibmogffcaaBits
import Derived.Test.YthcofibmogffcaaFix
import Derived.Test.YthcofibmogffcaaPng
set_option linter.unusedVariables false
set_option linter.unusedSimpArgs false
namespace Go.Proofs.Ythcofibmogffcaa.Pure
open Go.RowKit Go.Proofs.Ythcofibmogffcaa.PFnExactFilterRow Go.Proofs.YthcofibmogffcaaW.PrintWords Go.Proofs.YthcofibmogffcaaW.PrintLast Go.Proofs.YthcofibmogffcaaW.PrintMore Go.Proofs.Ythcofibmogffcaa.Plain

/-! spec_l1In -/
theorem spec_l1In_eq (a b c : Int) : spec_l1In.f a b c = some (decide (b ≤ a ∧ a ≤ c)) := by
  unfold spec_l1In.f
  split
  · rename_i h; simp [show b ≤ a from h]
  · rename_i h; simp [show ¬ b ≤ a from h]

/-! spec_l3Row -/
-- plain: Evs Png
/-- are these rows? -/
def areR (row above : List Int) : Bool := decide (0 < row.length ∧ row.length % 4 = 0 ∧ row.length ≤ 144 ∧ above.length = row.length)
theorem spec_l3Row_eq (row above : List Int) : spec_l3Row.f row above = some (areR row above) := by
  unfold spec_l3Row.f areR
  by_cases h1 : (row.length : Int) > 0
  · rw [if_pos h1]
    by_cases h2 : (row.length : Int) % 4 = 0
    · rw [if_pos h2]
      by_cases h3 : (row.length : Int) ≤ 144
      · rw [if_pos h3]
        by_cases h4 : above.length = row.length
        · rw [decide_eq_true (by omega), h4]; simp
        · rw [decide_eq_false (by omega)]; congr 1; simp; omega
      · rw [if_neg h3, decide_eq_false (by omega)]
    · rw [if_neg h2, decide_eq_false (by omega)]
  · rw [if_neg h1, decide_eq_false (by omega)]

/-! spec_l1Abs -/
-- plain: Fix
theorem spec_l1Abs_eq (a : Int) (h0 : -9223372036854775807 ≤ a) (h1 : a ≤ 9223372036854775807) : spec_l1Abs.f a = some (if a < 0 then -a else a) := by
  unfold spec_l1Abs.f
  split
  · rw [wrap_id (by omega) (by omega)]
  · rfl

/-! spec_l3Guess -/
-- plain: Evs Png
theorem spec_l3Guess_ev (kind a b c : Int) (ha : 0 ≤ a ∧ a ≤ 255) (hb : 0 ≤ b ∧ b ≤ 255) (hc : 0 ≤ c ∧ c ≤ 255) : Ev (fun k => spec_l3Guess.f k kind a b c) (guessP kind a b c) := by
  unfold guessP
  simp only [spec_l3Guess.f]
  by_cases h1 : kind = 1
  · rw [if_pos h1]; exact ev_if_pos h1 (Ev.now _)
  rw [if_neg h1]; refine ev_if_neg h1 ?_
  by_cases h2 : kind = 2
  · rw [if_pos h2]; exact ev_if_pos h2 (Ev.now _)
  rw [if_neg h2]; refine ev_if_neg h2 ?_
  by_cases h3 : kind = 3
  · rw [if_pos h3]; refine ev_if_pos h3 ?_
    rw [wrap_id (x := a + b) (by omega) (by omega), Int.tdiv_eq_ediv_of_nonneg (by omega), wrap_id (by omega) (by omega)]; exact Ev.now _
  rw [if_neg h3]; refine ev_if_neg h3 ?_
  by_cases h4 : kind = 4
  · rw [if_pos h4]; refine ev_if_pos h4 ?_
    rw [wrap_id (x := a + b) (by omega) (by omega), wrap_id (x := a + b - c) (by omega) (by omega), wrap_id (x := a + b - c - a) (by omega) (by omega), wrap_id (x := a + b - c - b) (by omega) (by omega), wrap_id (x := a + b - c - c) (by omega) (by omega)]
    rw [spec_l1Abs_eq (a + b - c - a) (by omega) (by omega), spec_l1Abs_eq (a + b - c - b) (by omega) (by omega), spec_l1Abs_eq (a + b - c - c) (by omega) (by omega)]
    simp only [Option.bind_some]
    show Ev (fun k => if absP (a + b - c - a) ≤ absP (a + b - c - b) then spec_l3Guess.j0 k a b c (absP (a + b - c - b)) (absP (a + b - c - c)) (decide (absP (a + b - c - a) ≤ absP (a + b - c - c))) else spec_l3Guess.j0 k a b c (absP (a + b - c - b)) (absP (a + b - c - c)) false) _
    generalize absP (a + b - c - a) = x
    generalize absP (a + b - c - b) = y
    generalize absP (a + b - c - c) = z
    have hj : ∀ t : Bool, Ev (fun k => spec_l3Guess.j0 k a b c y z t) (if t = true then a else if y ≤ z then b else c) := by
      intro t
      refine ev_done fun k => ?_
      rw [spec_l3Guess.j0]
      split
      · rfl
      · split <;> rfl
    by_cases hxy : x ≤ y
    · refine ev_if_pos hxy ?_
      have := hj (decide (x ≤ z))
      by_cases hxz : x ≤ z
      · rw [if_pos ⟨hxy, hxz⟩]; rw [if_pos (by simpa using hxz)] at this; exact this
      · rw [if_neg (fun h => hxz h.2)]; rw [if_neg (by simpa using hxz)] at this; exact this
    · refine ev_if_neg hxy ?_
      have := hj false
      rw [if_neg (by decide)] at this
      rw [if_neg (fun h => hxy h.1)]; exact this
  rw [if_neg h4]; exact ev_if_neg h4 (Ev.now _)

/-! spec_l3At -/
-- plain: Evs Png
theorem spec_l3At_eq (l : List Int) (j : Int) (h : j < (l.length : Int)) (hb : 0 ≤ rd l j ∧ rd l j ≤ 255) : spec_l3At.f l j = some (atP l j) := by
  unfold spec_l3At.f atP
  by_cases h0 : j < 0
  · rw [if_pos h0, if_pos h0]
  · rw [if_neg h0, if_neg h0, if_pos (by omega), if_pos h, wrap_id (by omega) (by omega)]

/-! spec_l3Filter -/
-- plain: Evs Png
theorem spec_l3Filter_ev (kind : Int) (row above : List Int) (hr : InB row) (ha : InB above) (hl : above.length = row.length) (hn : row.length ≤ 144) : Ev (fun k => spec_l3Filter.f k kind row above) (fil kind row above row.length) := by
  refine Ev.congr (f := fun k => spec_l3Filter.l0 k kind row above (List.replicate row.length 0) row.length 0) (fun k => ?_) ?_
  · unfold spec_l3Filter.f; rw [if_pos (by omega), if_pos (by omega)]; rfl
  · have key := ev_up row.length (fun i k => spec_l3Filter.l0 k kind row above (fil kind row above i ++ List.replicate (row.length - i) 0) row.length i) (fil kind row above row.length) ?_ ?_
    · simpa [fil] using key
    · refine ev_done fun k => ?_
      rw [spec_l3Filter.l0, if_neg (by omega)]; simp
    · intro i hi h
      refine Ev.step (fun k => spec_l3Filter.l0.eq_2 ..) ?_
      refine ev_if_pos (by omega) (ev_if_pos (by omega) (ev_if_pos (by omega) ?_))
      rw [wrap_id (x := (i : Int) - 4) (by omega) (by omega)]
      refine ev_bind0 (spec_l3At_eq row _ (by omega) (inB_rd hr _)) ?_
      refine ev_if_pos (by omega) ?_
      refine ev_bind0 (spec_l3At_eq above _ (by omega) (inB_rd ha _)) ?_
      have hai := inB_rd ha (i : Int)
      rw [wrap_id (x := rd above i) (by omega) (by omega)]
      refine ev_bind (spec_l3Guess_ev kind _ _ _ (atP_range hr _) hai (atP_range ha _)) ?_
      refine ev_if_pos (by simp [fil_length]; omega) ?_
      have hg := guessP_range kind _ _ _ (atP_range hr ((i : Int) - 4)) hai (atP_range ha ((i : Int) - 4))
      rw [Int.toNat_natCast, set_fill _ _ i (fil_length kind row above i) (by omega), wrap_up hi (by omega), Int.emod_eq_of_lt (a := guessP _ _ _ _) hg.1 (by omega), Nat.sub_sub]
      exact h

/-! spec_FilterRow -/
-- plain: Evs Png
/-- the answer. -/
def theFilterRow (kind : Int) (row above : List Int) : List Int × Bool := if decide (0 ≤ kind ∧ kind ≤ 4) = true ∧ areR row above = true then (fil kind row above row.length, true) else ([], false)
theorem theFilterRow_length (kind : Int) (row above : List Int) (hn : row.length ≤ 1048576) : (theFilterRow kind row above).1.length ≤ 1048576 := by
  unfold theFilterRow
  split
  · rw [fil_length]; exact hn
  · simp
theorem spec_FilterRow_ev (kind : Int) (row above : List Int) (hr : InB row) (ha : InB above) : Ev (fun k => spec_FilterRow.f k kind row above) (theFilterRow kind row above) := by
  simp only [spec_FilterRow.f]
  refine ev_bind0 (spec_l1In_eq _ _ _) ?_
  unfold theFilterRow
  by_cases h0 : decide (0 ≤ kind ∧ kind ≤ 4) = true
  · refine ev_if_pos h0 ?_
    refine ev_bind0 (spec_l3Row_eq _ _) ?_
    by_cases h1 : areR row above = true
    · have h2 := of_decide_eq_true h1
      rw [if_pos ⟨h0, h1⟩]
      exact ev_if_pos h1 (ev_bind (spec_l3Filter_ev kind row above hr ha (by omega) (by omega)) (Ev.now _))
    · rw [if_neg (fun h => h1 h.2)]
      exact ev_if_neg h1 (Ev.now _)
  · rw [if_neg (fun h => h0 h.1)]
    exact ev_if_neg h0 (Ev.now _)

/-! laws_toByteS -/
-- plain: Evs
theorem laws_toByteS_ev (l : List Int) (hn : l.length ≤ 281474976710656) : Ev (fun k => laws_toByteS.f k l) l := by
  refine Ev.congr (f := fun k => laws_toByteS.l0 k l (List.replicate l.length 0) 0) (fun k => ?_) ?_
  · unfold laws_toByteS.f; rw [if_pos (by omega), if_pos (by omega)]; rfl
  · refine ev_up l.length (fun i k => laws_toByteS.l0 k l (l.take i ++ List.replicate (l.length - i) 0) i) l ?_ ?_
    · refine ev_done fun k => ?_
      rw [laws_toByteS.l0, if_neg (by omega)]; simp
    · intro i hi h
      refine Ev.step (fun k => ?_) h
      rw [laws_toByteS.l0, if_pos (by omega), if_pos (by omega), if_pos (by simp; omega), wrap_up hi (by omega), rd_nat, Int.toNat_natCast, take_set _ _ _ hi _ (by simp; omega), List.tail_replicate]
      congr 3

/-! impl_within -/
theorem impl_within_eq (a b c : Int) : impl_within.f a b c = some (decide (b ≤ a ∧ a ≤ c)) := by
  unfold impl_within.f
  split
  · rename_i h; simp [h]
  · rename_i h; simp [h]

/-! impl_areRows -/
-- plain: Evs Png
theorem impl_areRows_eq (kind : Int) (row above : List Int) (hn : row.length ≤ 1048576) : impl_areRows.f kind row above = some (decide (0 ≤ kind ∧ kind ≤ 4) && areR row above) := by
  unfold impl_areRows.f areR
  rw [impl_within_eq, Option.bind_some]
  by_cases h0 : 0 ≤ kind ∧ kind ≤ 4
  · rw [decide_eq_true h0, if_pos rfl, Bool.true_and]
    by_cases h2 : (row.length : Int) % 4 = 0
    · rw [if_pos h2, wrap_id (by omega) (by omega), impl_within_eq, Option.bind_some]
      by_cases h3 : 1 ≤ (row.length : Int) / 4 ∧ (row.length : Int) / 4 ≤ 36
      · rw [decide_eq_true h3, if_pos rfl]
        by_cases h4 : above.length = row.length
        · rw [decide_eq_true (by omega), h4]; simp
        · rw [decide_eq_false (by omega)]; congr 1; simp; omega
      · rw [decide_eq_false h3, if_neg (by decide), decide_eq_false (by omega)]
    · rw [if_neg h2, decide_eq_false (by omega)]
  · rw [decide_eq_false h0, if_neg (by decide), Bool.false_and]

/-! impl_guess -/
-- plain: Evs Png
theorem mx_abs (p a : Int) : mx (p - a) (a - p) = absP (p - a) := by unfold mx absP; split <;> split <;> omega
theorem impl_guess_ev (kind a b c : Int) (ha : 0 ≤ a ∧ a ≤ 255) (hb : 0 ≤ b ∧ b ≤ 255) (hc : 0 ≤ c ∧ c ≤ 255) : Ev (fun k => impl_guess.f k kind a b c) (guessP kind a b c) := by
  unfold guessP
  simp only [impl_guess.f]
  by_cases h1 : kind = 1
  · rw [if_pos h1]; exact ev_if_pos h1 (Ev.now _)
  rw [if_neg h1]; refine ev_if_neg h1 ?_
  by_cases h2 : kind = 2
  · rw [if_pos h2]; exact ev_if_pos h2 (Ev.now _)
  rw [if_neg h2]; refine ev_if_neg h2 ?_
  by_cases h3 : kind = 3
  · rw [if_pos h3]; refine ev_if_pos h3 ?_
    rw [wrap_id (x := a) (by omega) (by omega), wrap_id (x := b) (by omega) (by omega), wrap_id (x := a + b) (by omega) (by omega), Int.tdiv_eq_ediv_of_nonneg (by omega), wrap_id (by omega) (by omega), Int.emod_eq_of_lt (by omega) (by omega)]; exact Ev.now _
  rw [if_neg h3]; refine ev_if_neg h3 ?_
  by_cases h4 : kind = 4
  · rw [if_pos h4]; refine ev_if_pos h4 ?_
    rw [wrap_id (x := a) (by omega) (by omega), wrap_id (x := b) (by omega) (by omega), wrap_id (x := c) (by omega) (by omega), wrap_id (x := a + b) (by omega) (by omega), wrap_id (x := a + b - c) (by omega) (by omega), wrap_id (x := a + b - c - a) (by omega) (by omega), wrap_id (x := a + b - c - b) (by omega) (by omega), wrap_id (x := a + b - c - c) (by omega) (by omega),
      wrap_id (x := a - (a + b - c)) (by omega) (by omega), wrap_id (x := b - (a + b - c)) (by omega) (by omega), wrap_id (x := c - (a + b - c)) (by omega) (by omega)]
    rw [mx_abs, mx_abs, mx_abs]
    generalize absP (a + b - c - a) = x
    generalize absP (a + b - c - b) = y
    generalize absP (a + b - c - c) = z
    have hj : ∀ t : Bool, Ev (fun k => impl_guess.j0 k a b c y z t) (if t = true then a else if y ≤ z then b else c) := by
      intro t
      refine ev_done fun k => ?_
      rw [impl_guess.j0]
      split
      · rfl
      · split <;> rfl
    by_cases hxy : x ≤ y
    · refine ev_if_pos hxy ?_
      have := hj (decide (x ≤ z))
      by_cases hxz : x ≤ z
      · rw [if_pos ⟨hxy, hxz⟩]; rw [if_pos (by simpa using hxz)] at this; exact this
      · rw [if_neg (fun h => hxz h.2)]; rw [if_neg (by simpa using hxz)] at this; exact this
    · refine ev_if_neg hxy ?_
      have := hj false
      rw [if_neg (by decide)] at this
      rw [if_neg (fun h => hxy h.1)]; exact this
  rw [if_neg h4]; exact ev_if_neg h4 (Ev.now _)

/-! impl_filtered_F -/
-- plain: Evs Png
theorem impl_filtered_F_ev (kind : Int) (row above : List Int) (z : Bool) (hr : InB row) (ha : InB above) (hl : above.length = row.length) (hn : row.length ≤ 144) : Ev (fun k => impl_filtered_F.f k kind row above z) (fil kind row above row.length) := by
  refine Ev.congr (f := fun k => impl_filtered_F.l0 k kind row above [] row row.length 0) (fun k => rfl) ?_
  have key := ev_up row.length (fun i k => impl_filtered_F.l0 k kind row above (fil kind row above i) row row.length i) (fil kind row above row.length) ?_ ?_
  · exact key
  · refine ev_done fun k => ?_
    rw [impl_filtered_F.l0, if_neg (by omega)]
  · intro i hi h
    refine Ev.step (fun k => impl_filtered_F.l0.eq_2 ..) ?_
    refine ev_if_pos (by omega) (ev_if_pos (by omega) (ev_if_pos (by omega) ?_))
    have hai := inB_rd ha (i : Int)
    by_cases h4 : (i : Int) ≥ 4
    · refine ev_if_pos h4 ?_
      rw [wrap_id (x := (i : Int) - 4) (by omega) (by omega)]
      refine ev_if_pos (by omega) (ev_if_pos (by omega) (ev_if_pos (by omega) (ev_if_pos (by omega) ?_)))
      refine ev_bind (impl_guess_ev kind _ _ _ (inB_rd hr _) hai (inB_rd ha _)) ?_
      refine ev_if_pos (by rw [fil_length]; omega) ?_
      rw [wrap_up hi (by omega)]
      have e1 : atP row ((i : Int) - 4) = rd row ((i : Int) - 4) := by unfold atP; rw [if_neg (by omega)]
      have e2 : atP above ((i : Int) - 4) = rd above ((i : Int) - 4) := by unfold atP; rw [if_neg (by omega)]
      rw [← e1, ← e2]
      exact h
    · refine ev_if_neg h4 (ev_if_pos (by omega) ?_)
      refine ev_bind (impl_guess_ev kind _ _ _ (by omega) hai (by omega)) ?_
      refine ev_if_pos (by rw [fil_length]; omega) ?_
      rw [wrap_up hi (by omega)]
      have e1 : atP row ((i : Int) - 4) = 0 := by unfold atP; rw [if_pos (by omega)]
      have e2 : atP above ((i : Int) - 4) = 0 := by unfold atP; rw [if_pos (by omega)]
      have e3 : fil kind row above (i + 1) = fil kind row above i ++ [(rd row i - guessP kind 0 (rd above i) 0) % 256] := by rw [fil, e1, e2]
      rw [← e3]
      exact h

/-! impl_filtered_T -/
-- plain: Evs Png
theorem impl_filtered_T_ev (kind : Int) (row above : List Int) (z : Bool) (hr : InB row) (ha : InB above) (hl : above.length = row.length) (hn : row.length ≤ 144) : Ev (fun k => impl_filtered_T.f k kind row above z) (unf kind row above row.length) := by
  refine Ev.congr (f := fun k => impl_filtered_T.l0 k kind above [] row row.length 0) (fun k => rfl) ?_
  have key := ev_up row.length (fun i k => impl_filtered_T.l0 k kind above (unf kind row above i) row row.length i) (unf kind row above row.length) ?_ ?_
  · exact key
  · refine ev_done fun k => ?_
    rw [impl_filtered_T.l0, if_neg (by omega)]
  · intro i hi h
    refine Ev.step (fun k => impl_filtered_T.l0.eq_2 ..) ?_
    refine ev_if_pos (by omega) (ev_if_pos (by omega) (ev_if_pos (by omega) ?_))
    have hai := inB_rd ha (i : Int)
    have hu := unf_inB kind row above i
    by_cases h4 : (i : Int) ≥ 4
    · refine ev_if_pos h4 ?_
      rw [wrap_id (x := (i : Int) - 4) (by omega) (by omega)]
      refine ev_if_pos (by omega) (ev_if_pos (by rw [unf_length]; omega) (ev_if_pos (by omega) (ev_if_pos (by omega) ?_)))
      refine ev_bind (impl_guess_ev kind _ _ _ (inB_rd hu _) hai (inB_rd ha _)) ?_
      refine ev_if_pos (by rw [unf_length]; omega) ?_
      rw [wrap_up hi (by omega)]
      have e1 : atP (unf kind row above i) ((i : Int) - 4) = rd (unf kind row above i) ((i : Int) - 4) := by unfold atP; rw [if_neg (by omega)]
      have e2 : atP above ((i : Int) - 4) = rd above ((i : Int) - 4) := by unfold atP; rw [if_neg (by omega)]
      rw [← e1, ← e2]
      exact h
    · refine ev_if_neg h4 (ev_if_pos (by omega) ?_)
      refine ev_bind (impl_guess_ev kind _ _ _ (by omega) hai (by omega)) ?_
      refine ev_if_pos (by rw [unf_length]; omega) ?_
      rw [wrap_up hi (by omega)]
      have e1 : atP (unf kind row above i) ((i : Int) - 4) = 0 := by unfold atP; rw [if_pos (by omega)]
      have e2 : atP above ((i : Int) - 4) = 0 := by unfold atP; rw [if_pos (by omega)]
      have e3 : unf kind row above (i + 1) = unf kind row above i ++ [(rd row i + guessP kind 0 (rd above i) 0) % 256] := by rw [unf, e1, e2]
      rw [← e3]
      exact h

/-! impl_FilterRow -/
-- plain: Evs Png
theorem impl_FilterRow_ev (kind : Int) (row above : List Int) (hr : InB row) (ha : InB above) (hn : row.length ≤ 1048576) : Ev (fun k => impl_FilterRow.f k kind row above) (theFilterRow kind row above) := by
  simp only [impl_FilterRow.f]
  refine ev_bind0 (impl_areRows_eq _ _ _ hn) ?_
  unfold theFilterRow
  by_cases h : decide (0 ≤ kind ∧ kind ≤ 4) = true ∧ areR row above = true
  · have h2 := of_decide_eq_true h.2
    rw [if_pos h]
    exact ev_if_pos (by rw [h.1, h.2]; rfl) (ev_bind (impl_filtered_F_ev kind row above _ hr ha (by omega) (by omega)) (Ev.now _))
  · rw [if_neg h]
    exact ev_if_neg (by rw [Bool.and_eq_true]; exact h) (Ev.now _)

/-! laws_eqByteS -/
-- plain: Evs
theorem laws_eqByteS_same (l : List Int) (hn : l.length ≤ 281474976710656) : Ev (fun k => laws_eqByteS.f k l l) true := by
  refine Ev.congr (f := fun k => laws_eqByteS.l0 k l l 0) (fun k => ?_) ?_
  · unfold laws_eqByteS.f; rw [if_pos rfl]
  · refine ev_up l.length (fun i k => laws_eqByteS.l0 k l l i) true ?_ ?_
    · refine ev_done fun k => ?_
      rw [laws_eqByteS.l0, if_neg (by omega)]
    · intro i hi h
      refine Ev.step (fun k => ?_) h
      rw [laws_eqByteS.l0, if_pos (by omega), if_pos (by omega), if_pos (by omega), if_pos rfl, wrap_up hi (by omega)]
theorem laws_eqByteS_of (l l' : List Int) (hl : l = l') (hn : l.length ≤ 281474976710656) : Ev (fun k => laws_eqByteS.f k l l') true := by
  subst hl; exact laws_eqByteS_same l hn

/-! laws_markByteS -/
-- plain: Evs
/-- What the marks write from the number x on. -/
def markedByte (n : Nat) (x : Int) : List Int := (List.range n).map fun (j : Nat) => (x + (j : Int)) % 256
theorem markedByte_length (n : Nat) (x : Int) : (markedByte n x).length = n := by simp [markedByte]
theorem markedByte_get (n : Nat) (x : Int) (i : Nat) (h : i < n) : (markedByte n x).getD i 0 = (x + (i : Int)) % 256 := by
  simp [markedByte, h]
theorem markedByte_take (n : Nat) (x : Int) (l : List Int) (hl : l.length = n) (i : Nat) (h : i < n) : ((markedByte n x).take i ++ l.drop i).set i ((x + (i : Int)) % 256) = (markedByte n x).take (i + 1) ++ l.drop (i + 1) := by
  rw [← markedByte_get n x i h, take_set _ _ _ (by rw [markedByte_length]; exact h) _ (by simp; omega), List.tail_drop]
theorem laws_markByteS_ev (l : List Int) (x : Int) (h0 : 0 ≤ x) (h1 : x + l.length ≤ 9223372036854775807) : Ev (fun k => laws_markByteS.f k l x) (x + l.length, markedByte l.length x) := by
  refine Ev.congr (f := fun k => laws_markByteS.l0 k l x 0) (fun k => rfl) ?_
  have key := ev_up l.length (fun i k => laws_markByteS.l0 k ((markedByte l.length x).take i ++ l.drop i) (x + i) i) (x + l.length, markedByte l.length x) ?_ ?_
  · simpa using key
  · refine ev_done fun k => ?_
    rw [laws_markByteS.l0, if_neg (by simp [markedByte_length])]
    rw [List.take_of_length_le (by simp [markedByte_length])]; simp
  · intro i hi h
    refine Ev.step (fun k => ?_) h
    rw [laws_markByteS.l0, if_pos (by simp [markedByte_length]; omega), if_pos (by omega), wrap_up hi (by omega), Int.toNat_natCast, markedByte_take _ _ _ rfl i hi, wrap_id (by omega) (by omega)]
    congr 1
    omega

/-! laws_heldByteS -/
-- plain: Evs
-- (behind laws_markByteS)
theorem laws_heldByteS_ev (n : Nat) (x : Int) (h0 : 0 ≤ x) (h1 : x + n ≤ 9223372036854775807) : Ev (fun k => laws_heldByteS.f k (markedByte n x) x) (x + n) := by
  refine Ev.congr (f := fun k => laws_heldByteS.l0 k (markedByte n x) x 0) (fun k => rfl) ?_
  have key := ev_up n (fun i k => laws_heldByteS.l0 k (markedByte n x) (x + i) i) (x + n) ?_ ?_
  · simpa using key
  · refine ev_done fun k => ?_
    rw [laws_heldByteS.l0, if_neg (by simp [markedByte_length])]
  · intro i hi h
    refine Ev.step (fun k => ?_) h
    rw [laws_heldByteS.l0, if_pos (by simp [markedByte_length]; omega), if_pos (by omega), rd_nat, markedByte_get n x i hi, if_pos rfl, wrap_up hi (by omega), wrap_id (by omega) (by omega)]
    congr 1
    omega

-- plain: Evs Png
theorem FnExactFilterRow : laws_FnExactFilterRow.Pure := by
  intro kind row above hk hm1 hb1 hw1 hm2 hb2 hw2
  by_cases hlen : (row.length : Int) > 1048576
  · exact ⟨0, by unfold laws_FnExactFilterRow.f; rw [if_pos hlen]⟩
  by_cases hlen2 : (above.length : Int) > 1048576
  · exact ⟨0, by unfold laws_FnExactFilterRow.f; rw [if_neg hlen, if_pos hlen2]⟩
  have hs := spec_FilterRow_ev kind row above (inB_of hw1) (inB_of hw2)
  have hi := impl_FilterRow_ev kind row above (inB_of hw1) (inB_of hw2) (by omega)
  have hr := theFilterRow_length kind row above (by omega)
  generalize theFilterRow kind row above = rb at hs hi hr
  obtain ⟨r, b⟩ := rb
  simp only at hr
  refine Ev.rounds ?_
  simp only [laws_FnExactFilterRow.f]
  refine ev_if_neg hlen (ev_if_neg hlen2 ?_)
  refine ev_bind (laws_toByteS_ev row (by omega)) ?_
  refine ev_bind (laws_toByteS_ev above (by omega)) ?_
  refine ev_bind hs ?_
  refine ev_bind (laws_toByteS_ev row (by omega)) ?_
  refine ev_bind (laws_toByteS_ev above (by omega)) ?_
  refine ev_bind hi ?_
  refine ev_bind (laws_eqByteS_same r (by omega)) ?_
  refine ev_if_pos rfl ?_
  refine Ev.step (fun k => laws_FnExactFilterRow.j0.eq_2 ..) ?_
  refine ev_if_neg (by simp) ?_
  refine ev_bind (laws_toByteS_ev row (by omega)) ?_
  refine ev_bind (laws_eqByteS_same row (by omega)) ?_
  refine ev_if_pos rfl ?_
  refine ev_bind (laws_toByteS_ev above (by omega)) ?_
  refine ev_bind (laws_eqByteS_same above (by omega)) ?_
  refine ev_if_pos rfl ?_
  refine ev_bind (laws_markByteS_ev row 1 (by omega) (by omega)) ?_
  refine ev_bind (laws_markByteS_ev above (1 + row.length) (by omega) (by omega)) ?_
  refine ev_if_neg (by simp only; omega) ?_
  refine ev_bind (laws_eqByteS_same r (by omega)) ?_
  refine ev_if_pos rfl ?_
  refine Ev.step (fun k => laws_FnExactFilterRow.j1.eq_2 ..) ?_
  refine ev_if_neg (by simp) ?_
  refine ev_bind (laws_markByteS_ev r 1 (by omega) (by omega)) ?_
  refine ev_bind (laws_heldByteS_ev r.length 1 (by omega) (by omega)) ?_
  refine ev_if_neg (by omega) ?_
  refine ev_if_pos rfl ?_
  refine ev_bind (laws_toByteS_ev row (by omega)) ?_
  refine ev_bind (laws_toByteS_ev above (by omega)) ?_
  refine ev_bind hi ?_
  refine ev_bind (laws_eqByteS_same r (by omega)) ?_
  refine ev_if_pos rfl ?_
  refine Ev.step (fun k => laws_FnExactFilterRow.j2.eq_2 ..) ?_
  refine ev_if_neg (by simp) ?_
  refine ev_bind (laws_heldByteS_ev r.length 1 (by omega) (by omega)) ?_
  refine ev_if_neg (by omega) ?_
  exact ev_if_pos rfl (Ev.now true)

end Go.Proofs.Ythcofibmogffcaa.Pure
