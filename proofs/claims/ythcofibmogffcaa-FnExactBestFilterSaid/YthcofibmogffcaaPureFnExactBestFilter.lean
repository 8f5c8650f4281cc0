/- BestFilter: the program's BestFilter answers as the reference's at all arguments, and writes into none; no condition. -/
import Derived.Test.YthcofibmogffcaaPFnExactBestFilterx4
import Derived.Test.YthcofibmogffcaaPlain
import Derived.Test.YthcofibmogffcaaEvs
import Derived.Test.YthcofibmogffcaaBits
import Derived.Test.YthcofibmogffcaaFix
import Derived.Test.YthcofibmogffcaaPng
set_option linter.unusedVariables false
set_option linter.unusedSimpArgs false
namespace Go.Proofs.Ythcofibmogffcaa.Pure
open Go.RowKit Go.Proofs.Ythcofibmogffcaa.PFnExactBestFilter Go.Proofs.YthcofibmogffcaaW.PrintWords Go.Proofs.YthcofibmogffcaaW.PrintLast Go.Proofs.YthcofibmogffcaaW.PrintMore Go.Proofs.Ythcofibmogffcaa.Plain

/-! laws_toByteS -/
-- plain: Evs
theorem laws_toByteS_ev (l : List Int) (hn : l.length ≤ 281474976710656) : Ev (fun k => laws_toByteS.f k l) l := by
  refine Ev.congr (f := fun k => laws_toByteS.l0 k l (List.replicate l.length 0) 0) (fun k => ?_) ?_
  · unfold laws_toByteS.f; rw [if_pos (by omega), if_pos (by omega)]; rfl
  · refine ev_up l.length (fun i k => laws_toByteS.l0 k l (l.take i ++ List.replicate (l.length - i) 0) i) l ?_ ?_
    · refine ev_done fun k => ?_
      rw [laws_toByteS.l0, if_neg (by omega)]; simp
    · intro i hi h
      refine Ev.step (fun k => ?_) h
      rw [laws_toByteS.l0, if_pos (by omega), if_pos (by omega), if_pos (by simp; omega), wrap_up hi (by omega), rd_nat, Int.toNat_natCast, take_set _ _ _ hi _ (by simp; omega), List.tail_replicate]
      congr 3

/-! laws_eqByteS -/
-- plain: Evs
theorem laws_eqByteS_same (l : List Int) (hn : l.length ≤ 281474976710656) : Ev (fun k => laws_eqByteS.f k l l) true := by
  refine Ev.congr (f := fun k => laws_eqByteS.l0 k l l 0) (fun k => ?_) ?_
  · unfold laws_eqByteS.f; rw [if_pos rfl]
  · refine ev_up l.length (fun i k => laws_eqByteS.l0 k l l i) true ?_ ?_
    · refine ev_done fun k => ?_
      rw [laws_eqByteS.l0, if_neg (by omega)]
    · intro i hi h
      refine Ev.step (fun k => ?_) h
      rw [laws_eqByteS.l0, if_pos (by omega), if_pos (by omega), if_pos (by omega), if_pos rfl, wrap_up hi (by omega)]
theorem laws_eqByteS_of (l l' : List Int) (hl : l = l') (hn : l.length ≤ 281474976710656) : Ev (fun k => laws_eqByteS.f k l l') true := by
  subst hl; exact laws_eqByteS_same l hn

/-! spec_l3Row -/
-- plain: Evs Png
/-- are these rows? -/
def areR (row above : List Int) : Bool := decide (0 < row.length ∧ row.length % 4 = 0 ∧ row.length ≤ 144 ∧ above.length = row.length)
theorem spec_l3Row_eq (row above : List Int) : spec_l3Row.f row above = some (areR row above) := by
  unfold spec_l3Row.f areR
  by_cases h1 : (row.length : Int) > 0
  · rw [if_pos h1]
    by_cases h2 : (row.length : Int) % 4 = 0
    · rw [if_pos h2]
      by_cases h3 : (row.length : Int) ≤ 144
      · rw [if_pos h3]
        by_cases h4 : above.length = row.length
        · rw [decide_eq_true (by omega), h4]; simp
        · rw [decide_eq_false (by omega)]; congr 1; simp; omega
      · rw [if_neg h3, decide_eq_false (by omega)]
    · rw [if_neg h2, decide_eq_false (by omega)]
  · rw [if_neg h1, decide_eq_false (by omega)]

/-! spec_l1Abs -/
-- plain: Fix
theorem spec_l1Abs_eq (a : Int) (h0 : -9223372036854775807 ≤ a) (h1 : a ≤ 9223372036854775807) : spec_l1Abs.f a = some (if a < 0 then -a else a) := by
  unfold spec_l1Abs.f
  split
  · rw [wrap_id (by omega) (by omega)]
  · rfl

/-! spec_l3Guess -/
-- plain: Evs Png
theorem spec_l3Guess_ev (kind a b c : Int) (ha : 0 ≤ a ∧ a ≤ 255) (hb : 0 ≤ b ∧ b ≤ 255) (hc : 0 ≤ c ∧ c ≤ 255) : Ev (fun k => spec_l3Guess.f k kind a b c) (guessP kind a b c) := by
  unfold guessP
  simp only [spec_l3Guess.f]
  by_cases h1 : kind = 1
  · rw [if_pos h1]; exact ev_if_pos h1 (Ev.now _)
  rw [if_neg h1]; refine ev_if_neg h1 ?_
  by_cases h2 : kind = 2
  · rw [if_pos h2]; exact ev_if_pos h2 (Ev.now _)
  rw [if_neg h2]; refine ev_if_neg h2 ?_
  by_cases h3 : kind = 3
  · rw [if_pos h3]; refine ev_if_pos h3 ?_
    rw [wrap_id (x := a + b) (by omega) (by omega), Int.tdiv_eq_ediv_of_nonneg (by omega), wrap_id (by omega) (by omega)]; exact Ev.now _
  rw [if_neg h3]; refine ev_if_neg h3 ?_
  by_cases h4 : kind = 4
  · rw [if_pos h4]; refine ev_if_pos h4 ?_
    rw [wrap_id (x := a + b) (by omega) (by omega), wrap_id (x := a + b - c) (by omega) (by omega), wrap_id (x := a + b - c - a) (by omega) (by omega), wrap_id (x := a + b - c - b) (by omega) (by omega), wrap_id (x := a + b - c - c) (by omega) (by omega)]
    rw [spec_l1Abs_eq (a + b - c - a) (by omega) (by omega), spec_l1Abs_eq (a + b - c - b) (by omega) (by omega), spec_l1Abs_eq (a + b - c - c) (by omega) (by omega)]
    simp only [Option.bind_some]
    show Ev (fun k => if absP (a + b - c - a) ≤ absP (a + b - c - b) then spec_l3Guess.j0 k a b c (absP (a + b - c - b)) (absP (a + b - c - c)) (decide (absP (a + b - c - a) ≤ absP (a + b - c - c))) else spec_l3Guess.j0 k a b c (absP (a + b - c - b)) (absP (a + b - c - c)) false) _
    generalize absP (a + b - c - a) = x
    generalize absP (a + b - c - b) = y
    generalize absP (a + b - c - c) = z
    have hj : ∀ t : Bool, Ev (fun k => spec_l3Guess.j0 k a b c y z t) (if t = true then a else if y ≤ z then b else c) := by
      intro t
      refine ev_done fun k => ?_
      rw [spec_l3Guess.j0]
      split
      · rfl
      · split <;> rfl
    by_cases hxy : x ≤ y
    · refine ev_if_pos hxy ?_
      have := hj (decide (x ≤ z))
      by_cases hxz : x ≤ z
      · rw [if_pos ⟨hxy, hxz⟩]; rw [if_pos (by simpa using hxz)] at this; exact this
      · rw [if_neg (fun h => hxz h.2)]; rw [if_neg (by simpa using hxz)] at this; exact this
    · refine ev_if_neg hxy ?_
      have := hj false
      rw [if_neg (by decide)] at this
      rw [if_neg (fun h => hxy h.1)]; exact this
  rw [if_neg h4]; exact ev_if_neg h4 (Ev.now _)

/-! spec_l3At -/
-- plain: Evs Png
theorem spec_l3At_eq (l : List Int) (j : Int) (h : j < (l.length : Int)) (hb : 0 ≤ rd l j ∧ rd l j ≤ 255) : spec_l3At.f l j = some (atP l j) := by
  unfold spec_l3At.f atP
  by_cases h0 : j < 0
  · rw [if_pos h0, if_pos h0]
  · rw [if_neg h0, if_neg h0, if_pos (by omega), if_pos h, wrap_id (by omega) (by omega)]

/-! spec_l3Filter -/
-- plain: Evs Png
theorem spec_l3Filter_ev (kind : Int) (row above : List Int) (hr : InB row) (ha : InB above) (hl : above.length = row.length) (hn : row.length ≤ 144) : Ev (fun k => spec_l3Filter.f k kind row above) (fil kind row above row.length) := by
  refine Ev.congr (f := fun k => spec_l3Filter.l0 k kind row above (List.replicate row.length 0) row.length 0) (fun k => ?_) ?_
  · unfold spec_l3Filter.f; rw [if_pos (by omega), if_pos (by omega)]; rfl
  · have key := ev_up row.length (fun i k => spec_l3Filter.l0 k kind row above (fil kind row above i ++ List.replicate (row.length - i) 0) row.length i) (fil kind row above row.length) ?_ ?_
    · simpa [fil] using key
    · refine ev_done fun k => ?_
      rw [spec_l3Filter.l0, if_neg (by omega)]; simp
    · intro i hi h
      refine Ev.step (fun k => spec_l3Filter.l0.eq_2 ..) ?_
      refine ev_if_pos (by omega) (ev_if_pos (by omega) (ev_if_pos (by omega) ?_))
      rw [wrap_id (x := (i : Int) - 4) (by omega) (by omega)]
      refine ev_bind0 (spec_l3At_eq row _ (by omega) (inB_rd hr _)) ?_
      refine ev_if_pos (by omega) ?_
      refine ev_bind0 (spec_l3At_eq above _ (by omega) (inB_rd ha _)) ?_
      have hai := inB_rd ha (i : Int)
      rw [wrap_id (x := rd above i) (by omega) (by omega)]
      refine ev_bind (spec_l3Guess_ev kind _ _ _ (atP_range hr _) hai (atP_range ha _)) ?_
      refine ev_if_pos (by simp [fil_length]; omega) ?_
      have hg := guessP_range kind _ _ _ (atP_range hr ((i : Int) - 4)) hai (atP_range ha ((i : Int) - 4))
      rw [Int.toNat_natCast, set_fill _ _ i (fil_length kind row above i) (by omega), wrap_up hi (by omega), Int.emod_eq_of_lt (a := guessP _ _ _ _) hg.1 (by omega), Nat.sub_sub]
      exact h

/-! spec_l3Best -/
-- plain: Evs Png
theorem spec_sum (row above l : List Int) (best least kind r : Int) (hl : InB l) (hn : l.length ≤ 144)
    (h : Ev (fun k => if kind = 0 then spec_l3Best.l0 k row above kind (costTo l l.length) (wrap64 (kind + 1)) else if costTo l l.length < least then spec_l3Best.l0 k row above kind (costTo l l.length) (wrap64 (kind + 1)) else spec_l3Best.l0 k row above best least (wrap64 (kind + 1))) r) :
    Ev (fun k => spec_l3Best.l1 k row above best least kind 0 l l.length 0) r := by
  have key := ev_up l.length (fun i k => spec_l3Best.l1 k row above best least kind (costTo l i) l l.length i) r ?_ ?_
  · exact key
  · exact Ev.step (fun k => spec_l3Best.l1.eq_2 ..) (ev_if_neg (by omega) h)
  · intro i hi g
    have h1 := costTo_range hl i
    have h2 := inB_rd hl (i : Int)
    have e : costTo l (i + 1) = costTo l i + costP (rd l i) := rfl
    rw [e] at g
    refine Ev.step (fun k => spec_l3Best.l1.eq_2 ..) ?_
    refine ev_if_pos (by omega) (ev_if_pos (by omega) (ev_if_pos (by omega) ?_))
    rw [wrap_up hi (by omega), wrap_id (x := rd l i) (by omega) (by omega)]
    unfold costP at g
    by_cases hc : rd l i > 127
    · rw [if_pos hc] at g
      refine ev_if_pos hc ?_
      rw [wrap_id (x := 256 - rd l i) (by omega) (by omega), wrap_id (by omega) (by omega)]
      exact g
    · rw [if_neg hc] at g
      refine ev_if_neg hc ?_
      rw [wrap_id (by omega) (by omega)]
      exact g

/-! impl_within -/
theorem impl_within_eq (a b c : Int) : impl_within.f a b c = some (decide (b ≤ a ∧ a ≤ c)) := by
  unfold impl_within.f
  split
  · rename_i h; simp [h]
  · rename_i h; simp [h]

/-! impl_areRows -/
-- plain: Evs Png
theorem impl_areRows_eq (kind : Int) (row above : List Int) (hn : row.length ≤ 1048576) : impl_areRows.f kind row above = some (decide (0 ≤ kind ∧ kind ≤ 4) && areR row above) := by
  unfold impl_areRows.f areR
  rw [impl_within_eq, Option.bind_some]
  by_cases h0 : 0 ≤ kind ∧ kind ≤ 4
  · rw [decide_eq_true h0, if_pos rfl, Bool.true_and]
    by_cases h2 : (row.length : Int) % 4 = 0
    · rw [if_pos h2, wrap_id (by omega) (by omega), impl_within_eq, Option.bind_some]
      by_cases h3 : 1 ≤ (row.length : Int) / 4 ∧ (row.length : Int) / 4 ≤ 36
      · rw [decide_eq_true h3, if_pos rfl]
        by_cases h4 : above.length = row.length
        · rw [decide_eq_true (by omega), h4]; simp
        · rw [decide_eq_false (by omega)]; congr 1; simp; omega
      · rw [decide_eq_false h3, if_neg (by decide), decide_eq_false (by omega)]
    · rw [if_neg h2, decide_eq_false (by omega)]
  · rw [decide_eq_false h0, if_neg (by decide), Bool.false_and]

/-! impl_guess -/
-- plain: Evs Png
theorem mx_abs (p a : Int) : mx (p - a) (a - p) = absP (p - a) := by unfold mx absP; split <;> split <;> omega
theorem impl_guess_ev (kind a b c : Int) (ha : 0 ≤ a ∧ a ≤ 255) (hb : 0 ≤ b ∧ b ≤ 255) (hc : 0 ≤ c ∧ c ≤ 255) : Ev (fun k => impl_guess.f k kind a b c) (guessP kind a b c) := by
  unfold guessP
  simp only [impl_guess.f]
  by_cases h1 : kind = 1
  · rw [if_pos h1]; exact ev_if_pos h1 (Ev.now _)
  rw [if_neg h1]; refine ev_if_neg h1 ?_
  by_cases h2 : kind = 2
  · rw [if_pos h2]; exact ev_if_pos h2 (Ev.now _)
  rw [if_neg h2]; refine ev_if_neg h2 ?_
  by_cases h3 : kind = 3
  · rw [if_pos h3]; refine ev_if_pos h3 ?_
    rw [wrap_id (x := a) (by omega) (by omega), wrap_id (x := b) (by omega) (by omega), wrap_id (x := a + b) (by omega) (by omega), Int.tdiv_eq_ediv_of_nonneg (by omega), wrap_id (by omega) (by omega), Int.emod_eq_of_lt (by omega) (by omega)]; exact Ev.now _
  rw [if_neg h3]; refine ev_if_neg h3 ?_
  by_cases h4 : kind = 4
  · rw [if_pos h4]; refine ev_if_pos h4 ?_
    rw [wrap_id (x := a) (by omega) (by omega), wrap_id (x := b) (by omega) (by omega), wrap_id (x := c) (by omega) (by omega), wrap_id (x := a + b) (by omega) (by omega), wrap_id (x := a + b - c) (by omega) (by omega), wrap_id (x := a + b - c - a) (by omega) (by omega), wrap_id (x := a + b - c - b) (by omega) (by omega), wrap_id (x := a + b - c - c) (by omega) (by omega),
      wrap_id (x := a - (a + b - c)) (by omega) (by omega), wrap_id (x := b - (a + b - c)) (by omega) (by omega), wrap_id (x := c - (a + b - c)) (by omega) (by omega)]
    rw [mx_abs, mx_abs, mx_abs]
    generalize absP (a + b - c - a) = x
    generalize absP (a + b - c - b) = y
    generalize absP (a + b - c - c) = z
    have hj : ∀ t : Bool, Ev (fun k => impl_guess.j0 k a b c y z t) (if t = true then a else if y ≤ z then b else c) := by
      intro t
      refine ev_done fun k => ?_
      rw [impl_guess.j0]
      split
      · rfl
      · split <;> rfl
    by_cases hxy : x ≤ y
    · refine ev_if_pos hxy ?_
      have := hj (decide (x ≤ z))
      by_cases hxz : x ≤ z
      · rw [if_pos ⟨hxy, hxz⟩]; rw [if_pos (by simpa using hxz)] at this; exact this
      · rw [if_neg (fun h => hxz h.2)]; rw [if_neg (by simpa using hxz)] at this; exact this
    · refine ev_if_neg hxy ?_
      have := hj false
      rw [if_neg (by decide)] at this
      rw [if_neg (fun h => hxy h.1)]; exact this
  rw [if_neg h4]; exact ev_if_neg h4 (Ev.now _)

/-! impl_filtered_F -/
-- plain: Evs Png
theorem impl_filtered_F_ev (kind : Int) (row above : List Int) (z : Bool) (hr : InB row) (ha : InB above) (hl : above.length = row.length) (hn : row.length ≤ 144) : Ev (fun k => impl_filtered_F.f k kind row above z) (fil kind row above row.length) := by
  refine Ev.congr (f := fun k => impl_filtered_F.l0 k kind row above [] row row.length 0) (fun k => rfl) ?_
  have key := ev_up row.length (fun i k => impl_filtered_F.l0 k kind row above (fil kind row above i) row row.length i) (fil kind row above row.length) ?_ ?_
  · exact key
  · refine ev_done fun k => ?_
    rw [impl_filtered_F.l0, if_neg (by omega)]
  · intro i hi h
    refine Ev.step (fun k => impl_filtered_F.l0.eq_2 ..) ?_
    refine ev_if_pos (by omega) (ev_if_pos (by omega) (ev_if_pos (by omega) ?_))
    have hai := inB_rd ha (i : Int)
    by_cases h4 : (i : Int) ≥ 4
    · refine ev_if_pos h4 ?_
      rw [wrap_id (x := (i : Int) - 4) (by omega) (by omega)]
      refine ev_if_pos (by omega) (ev_if_pos (by omega) (ev_if_pos (by omega) (ev_if_pos (by omega) ?_)))
      refine ev_bind (impl_guess_ev kind _ _ _ (inB_rd hr _) hai (inB_rd ha _)) ?_
      refine ev_if_pos (by rw [fil_length]; omega) ?_
      rw [wrap_up hi (by omega)]
      have e1 : atP row ((i : Int) - 4) = rd row ((i : Int) - 4) := by unfold atP; rw [if_neg (by omega)]
      have e2 : atP above ((i : Int) - 4) = rd above ((i : Int) - 4) := by unfold atP; rw [if_neg (by omega)]
      rw [← e1, ← e2]
      exact h
    · refine ev_if_neg h4 (ev_if_pos (by omega) ?_)
      refine ev_bind (impl_guess_ev kind _ _ _ (by omega) hai (by omega)) ?_
      refine ev_if_pos (by rw [fil_length]; omega) ?_
      rw [wrap_up hi (by omega)]
      have e1 : atP row ((i : Int) - 4) = 0 := by unfold atP; rw [if_pos (by omega)]
      have e2 : atP above ((i : Int) - 4) = 0 := by unfold atP; rw [if_pos (by omega)]
      have e3 : fil kind row above (i + 1) = fil kind row above i ++ [(rd row i - guessP kind 0 (rd above i) 0) % 256] := by rw [fil, e1, e2]
      rw [← e3]
      exact h

/-! impl_filtered_T -/
-- plain: Evs Png
theorem impl_filtered_T_ev (kind : Int) (row above : List Int) (z : Bool) (hr : InB row) (ha : InB above) (hl : above.length = row.length) (hn : row.length ≤ 144) : Ev (fun k => impl_filtered_T.f k kind row above z) (unf kind row above row.length) := by
  refine Ev.congr (f := fun k => impl_filtered_T.l0 k kind above [] row row.length 0) (fun k => rfl) ?_
  have key := ev_up row.length (fun i k => impl_filtered_T.l0 k kind above (unf kind row above i) row row.length i) (unf kind row above row.length) ?_ ?_
  · exact key
  · refine ev_done fun k => ?_
    rw [impl_filtered_T.l0, if_neg (by omega)]
  · intro i hi h
    refine Ev.step (fun k => impl_filtered_T.l0.eq_2 ..) ?_
    refine ev_if_pos (by omega) (ev_if_pos (by omega) (ev_if_pos (by omega) ?_))
    have hai := inB_rd ha (i : Int)
    have hu := unf_inB kind row above i
    by_cases h4 : (i : Int) ≥ 4
    · refine ev_if_pos h4 ?_
      rw [wrap_id (x := (i : Int) - 4) (by omega) (by omega)]
      refine ev_if_pos (by omega) (ev_if_pos (by rw [unf_length]; omega) (ev_if_pos (by omega) (ev_if_pos (by omega) ?_)))
      refine ev_bind (impl_guess_ev kind _ _ _ (inB_rd hu _) hai (inB_rd ha _)) ?_
      refine ev_if_pos (by rw [unf_length]; omega) ?_
      rw [wrap_up hi (by omega)]
      have e1 : atP (unf kind row above i) ((i : Int) - 4) = rd (unf kind row above i) ((i : Int) - 4) := by unfold atP; rw [if_neg (by omega)]
      have e2 : atP above ((i : Int) - 4) = rd above ((i : Int) - 4) := by unfold atP; rw [if_neg (by omega)]
      rw [← e1, ← e2]
      exact h
    · refine ev_if_neg h4 (ev_if_pos (by omega) ?_)
      refine ev_bind (impl_guess_ev kind _ _ _ (by omega) hai (by omega)) ?_
      refine ev_if_pos (by rw [unf_length]; omega) ?_
      rw [wrap_up hi (by omega)]
      have e1 : atP (unf kind row above i) ((i : Int) - 4) = 0 := by unfold atP; rw [if_pos (by omega)]
      have e2 : atP above ((i : Int) - 4) = 0 := by unfold atP; rw [if_pos (by omega)]
      have e3 : unf kind row above (i + 1) = unf kind row above i ++ [(rd row i + guessP kind 0 (rd above i) 0) % 256] := by rw [unf, e1, e2]
      rw [← e3]
      exact h

/-! impl_BestFilter -/
-- plain: Evs Png
theorem i8_cost (b : Int) (h : 0 ≤ b ∧ b ≤ 255) : mx (wrap64 (IntKind.i8.wrap b)) (wrap64 (-(wrap64 (IntKind.i8.wrap b)))) = costP b := by
  have e : IntKind.i8.wrap b = if b > 127 then b - 256 else b := by
    simp [IntKind.wrap, IntKind.bits, IntKind.signed]
    split <;> omega
  rw [e]
  unfold costP mx
  by_cases hb : b > 127
  · rw [if_pos hb, if_pos hb, wrap_id (x := b - 256) (by omega) (by omega), wrap_id (by omega) (by omega)]
    split <;> omega
  · rw [if_neg hb, if_neg hb, wrap_id (x := b) (by omega) (by omega), wrap_id (by omega) (by omega)]
    split <;> omega
theorem impl_sum (row above l : List Int) (best least kind : Int) (r : Int × Bool) (hl : InB l) (hn : l.length ≤ 144)
    (h : Ev (fun k => if least < 0 then impl_BestFilter.l0 k row above kind (costTo l l.length) (wrap64 (kind + 1)) else if costTo l l.length < least then impl_BestFilter.l0 k row above kind (costTo l l.length) (wrap64 (kind + 1)) else impl_BestFilter.l0 k row above best least (wrap64 (kind + 1))) r) :
    Ev (fun k => impl_BestFilter.l1 k row above best least kind 0 kind l l.length 0) r := by
  have key := ev_up l.length (fun i k => impl_BestFilter.l1 k row above best least kind (costTo l i) kind l l.length i) r ?_ ?_
  · exact key
  · exact Ev.step (fun k => impl_BestFilter.l1.eq_2 ..) (ev_if_neg (by omega) h)
  · intro i hi g
    have h1 := costTo_range hl i
    have h2 := inB_rd hl (i : Int)
    have h3 := costP_range h2
    have e : costTo l (i + 1) = costTo l i + costP (rd l i) := rfl
    rw [e] at g
    refine Ev.step (fun k => impl_BestFilter.l1.eq_2 ..) ?_
    refine ev_if_pos (by omega) (ev_if_pos (by omega) (ev_if_pos (by omega) ?_))
    rw [wrap_up hi (by omega), i8_cost _ h2, wrap_id (by omega) (by omega)]
    exact g
theorem best_same (row above : List Int) (hr : InB row) (ha : InB above) (hl : above.length = row.length) (hn : row.length ≤ 144) :
    ∀ (d kind : Nat) (best least least' : Int), kind + d = 5 → (kind = 0 ∧ best = 0 ∧ least' = -1 ∨ 0 < kind ∧ least' = least ∧ 0 ≤ least) →
    ∃ r, Ev (fun k => spec_l3Best.l0 k row above best least kind) r ∧ Ev (fun k => impl_BestFilter.l0 k row above best least' kind) (r, true) := by
  intro d
  induction d with
  | zero =>
    intro kind best least least' hk _
    refine ⟨best, ev_done fun k => ?_, ev_done fun k => ?_⟩
    · rw [spec_l3Best.l0, if_neg (by omega)]
    · rw [impl_BestFilter.l0, if_neg (by omega)]
  | succ d ih =>
    intro kind best least least' hk hc
    have hw : wrap64 ((kind : Int) + 1) = ((kind + 1 : Nat) : Int) := wrap_up (n := 5) (by omega) (by omega)
    have hL := fil_inB kind row above row.length
    have hLn := fil_length kind row above row.length
    have hs := costTo_range hL (fil kind row above row.length).length
    have take : ∃ r, Ev (fun k => spec_l3Best.l0 k row above kind (costTo (fil kind row above row.length) (fil kind row above row.length).length) ((kind + 1 : Nat) : Int)) r ∧ Ev (fun k => impl_BestFilter.l0 k row above kind (costTo (fil kind row above row.length) (fil kind row above row.length).length) ((kind + 1 : Nat) : Int)) (r, true) :=
      ih (kind + 1) kind _ _ (by omega) (.inr ⟨by omega, rfl, hs.1⟩)
    have go : ∀ r, Ev (fun k => if (kind : Int) = 0 then spec_l3Best.l0 k row above kind (costTo (fil kind row above row.length) (fil kind row above row.length).length) (wrap64 ((kind : Int) + 1)) else if costTo (fil kind row above row.length) (fil kind row above row.length).length < least then spec_l3Best.l0 k row above kind (costTo (fil kind row above row.length) (fil kind row above row.length).length) (wrap64 ((kind : Int) + 1)) else spec_l3Best.l0 k row above best least (wrap64 ((kind : Int) + 1))) r →
        Ev (fun k => if least' < 0 then impl_BestFilter.l0 k row above kind (costTo (fil kind row above row.length) (fil kind row above row.length).length) (wrap64 ((kind : Int) + 1)) else if costTo (fil kind row above row.length) (fil kind row above row.length).length < least' then impl_BestFilter.l0 k row above kind (costTo (fil kind row above row.length) (fil kind row above row.length).length) (wrap64 ((kind : Int) + 1)) else impl_BestFilter.l0 k row above best least' (wrap64 ((kind : Int) + 1))) (r, true) →
        ∃ r, Ev (fun k => spec_l3Best.l0 k row above best least kind) r ∧ Ev (fun k => impl_BestFilter.l0 k row above best least' kind) (r, true) := by
      intro r h1 h2
      refine ⟨r, ?_, ?_⟩
      · refine Ev.step (fun k => spec_l3Best.l0.eq_2 ..) (ev_if_pos (by omega) ?_)
        exact ev_bind (spec_l3Filter_ev kind row above hr ha hl hn) (spec_sum row above _ best least kind r hL (by omega) h1)
      · refine Ev.step (fun k => impl_BestFilter.l0.eq_2 ..) (ev_if_pos (by omega) ?_)
        exact ev_bind (impl_filtered_F_ev kind row above _ hr ha hl hn) (impl_sum row above _ best least' kind (r, true) hL (by omega) h2)
    rw [hw] at go
    rcases hc with ⟨h0, h1, h2⟩ | ⟨h0, h1, h2⟩
    · obtain ⟨r, g1, g2⟩ := take
      exact go r (ev_if_pos (by omega) g1) (ev_if_pos (by omega) g2)
    · subst h1
      by_cases hlt : costTo (fil kind row above row.length) (fil kind row above row.length).length < least'
      · obtain ⟨r, g1, g2⟩ := take
        exact go r (ev_if_neg (by omega) (ev_if_pos hlt g1)) (ev_if_neg (by omega) (ev_if_pos hlt g2))
      · obtain ⟨r, g1, g2⟩ := ih (kind + 1) best least' least' (by omega) (.inr ⟨by omega, rfl, h2⟩)
        exact go r (ev_if_neg (by omega) (ev_if_neg hlt g1)) (ev_if_neg (by omega) (ev_if_neg hlt g2))
theorem BestFilter_same (row above : List Int) (hr : InB row) (ha : InB above) (hn : row.length ≤ 1048576) : ∃ r, Ev (fun k => spec_BestFilter.f k row above) r ∧ Ev (fun k => impl_BestFilter.f k row above) r := by
  by_cases h : areR row above = true
  · have h2 := of_decide_eq_true h
    obtain ⟨r, g1, g2⟩ := best_same row above hr ha (by omega) (by omega) 5 0 0 0 (-1) (by omega) (.inl ⟨rfl, rfl, rfl⟩)
    refine ⟨(r, true), ?_, ?_⟩
    · simp only [spec_BestFilter.f]
      exact ev_bind0 (spec_l3Row_eq _ _) (ev_if_pos h (ev_bind (Ev.congr (fun k => rfl) g1) (Ev.now _)))
    · simp only [impl_BestFilter.f]
      refine ev_bind0 (impl_areRows_eq _ _ _ hn) (ev_if_pos (by rw [h]; decide) g2)
  · refine ⟨(0, false), ?_, ?_⟩
    · simp only [spec_BestFilter.f]
      exact ev_bind0 (spec_l3Row_eq _ _) (ev_if_neg h (Ev.now _))
    · simp only [impl_BestFilter.f]
      exact ev_bind0 (impl_areRows_eq _ _ _ hn) (ev_if_neg (by rw [Bool.and_eq_true]; exact fun hh => h hh.2) (Ev.now _))

-- plain: Evs Png
theorem FnExactBestFilter : laws_FnExactBestFilter.Pure := by
  intro row above hm1 hb1 hw1 hm2 hb2 hw2
  by_cases hlen : (row.length : Int) > 1048576
  · exact ⟨0, by unfold laws_FnExactBestFilter.f; rw [if_pos hlen]⟩
  by_cases hlen2 : (above.length : Int) > 1048576
  · exact ⟨0, by unfold laws_FnExactBestFilter.f; rw [if_neg hlen, if_pos hlen2]⟩
  obtain ⟨⟨r, b⟩, hs, hi⟩ := BestFilter_same row above (inB_of hw1) (inB_of hw2) (by omega)
  refine Ev.rounds ?_
  simp only [laws_FnExactBestFilter.f]
  refine ev_if_neg hlen (ev_if_neg hlen2 ?_)
  refine ev_bind (laws_toByteS_ev row (by omega)) ?_
  refine ev_bind (laws_toByteS_ev above (by omega)) ?_
  refine ev_bind hs ?_
  refine ev_bind (laws_toByteS_ev row (by omega)) ?_
  refine ev_bind (laws_toByteS_ev above (by omega)) ?_
  refine ev_bind hi ?_
  refine ev_if_pos rfl ?_
  refine Ev.step (fun k => laws_FnExactBestFilter.j0.eq_2 ..) ?_
  refine ev_if_neg (by simp) ?_
  refine ev_bind (laws_toByteS_ev row (by omega)) ?_
  refine ev_bind (laws_eqByteS_same row (by omega)) ?_
  refine ev_if_pos rfl ?_
  refine ev_bind (laws_toByteS_ev above (by omega)) ?_
  refine ev_bind (laws_eqByteS_same above (by omega)) ?_
  exact ev_if_pos rfl (Ev.now true)

end Go.Proofs.Ythcofibmogffcaa.Pure
