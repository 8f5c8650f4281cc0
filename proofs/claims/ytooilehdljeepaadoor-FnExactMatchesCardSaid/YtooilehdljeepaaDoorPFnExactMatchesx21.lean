-- Laid by a program of this session out of the translation (its own run of the print). Lean checks it.
import Derived.Test.YtooilehdljeepaaDoorPFnExactMatchesx0
import Derived.Test.YtooilehdljeepaaDoorPFnExactMatchesx1
import Derived.Test.YtooilehdljeepaaDoorPFnExactMatchesx11
import Derived.Test.YtooilehdljeepaaDoorPFnExactMatchesx18
import Derived.Test.YtooilehdljeepaaDoorPFnExactMatchesx20
namespace Go.Proofs.YtooilehdljeepaaDoor.PFnExactMatches
open Go.RowKit Go.Proofs.YtooilehdljeepaaDoorW.PrintWords Go.Proofs.YtooilehdljeepaaDoorW.PrintLast Go.Proofs.YtooilehdljeepaaDoorW.PrintMore
attribute [local go_sem] max2_int min2_int max_two min_two max_three min_three max_four min_four   -- for this text's walks alone
set_option linter.unusedVariables false
set_option linter.unusedSimpArgs false

/-! ### laws_eqPartS: function 17 -/
def laws_eqPartS.l0 : Nat → List (S71) → List (S71) → Int → Option (Bool)
 | 0, _, _, _ => none
 | k + 1, x0, x1, x5 => if x5 < (x0.length : Int) then (if 0 ≤ x5 then (if x5 < (x1.length : Int) then ((laws_eqPart.f k ((rd_T71 x0 x5).f0) ((rd_T71 x0 x5).f1) ((rd_T71 x0 x5).f2) ((rd_T71 x1 x5).f0) ((rd_T71 x1 x5).f1) ((rd_T71 x1 x5).f2)).bind fun t352 => (if t352 = true then (laws_eqPartS.l0 k x0 x1 (wrap64 (x5 + 1))) else (some false))) else (none)) else (none)) else (some true)
def laws_eqPartS.f (k : Nat) (l0 : List (S71)) (l1 : List (S71)) : Option (Bool) := if (l0.length : Int) = (l1.length : Int) then (laws_eqPartS.l0 k l0 l1 0) else (some false)
def laws_eqPartS.T6 : Bool × List (List Nat × List Nat) := (true, [([], []), ([], []), ([0, 1], [0, 1]), ([2], [2]), ([], []), ([], []), ([4, 5], [4, 5]), ([6], [6]), ([3, 7], [3, 7]), ([8], [8])])
def laws_eqPartS.B6 : List Nat := [0, 0, 3, 7, 0, 0, 48, 112, 255, 511]
theorem laws_eqPartS.tab6 : rtab .any (opsOf Tryd.f17 6) = laws_eqPartS.T6 := by kernel_rfl
theorem laws_eqPartS.bits6 : waitsOk laws_eqPartS.T6.2 laws_eqPartS.B6 = true := by kernel_rfl
set_option maxHeartbeats 8000000 in
set_option maxRecDepth 100000 in
theorem laws_eqPartS.calls (k : Nat) (A0 : Option Addr) (c0 : Nat) (l0 : List (S71)) (A1 : Option Addr) (c1 : Nat) (l1 : List (S71)) (r : Bool) (w : World) (hr0 : Kd.C k71 w A0 l0.length l0) (hc0 : l0.length ≤ c0) (hr1 : Kd.C k71 w A1 l1.length l1) (hc1 : l1.length ≤ c1) (h : laws_eqPartS.f k l0 l1 = some r) :
  Calls Tryd.prog 17 #[.slice A0 l0.length c0, .slice A1 l1.length c1] w fun e w' => e = .returned (.bool r) ∧ Below w.heap.size w w' := by
 have hu71 := Tryd.underlying71
 have HR0 := Aside0.mk hr0
 have HC0 := Aside0.mk hc0
 clear hr0 hc0
 have HR1 := Aside0.mk hr1
 have HC1 := Aside0.mk hc1
 clear hr1 hc1
 have HB := Aside0.mk (Below.refl w.heap.size w)
 have H : (if (l0.length : Int) = (l1.length : Int) then (laws_eqPartS.l0 k l0 l1 0) else (some false)) = some r := h
 clear h
 by_cases c3 : (l0.length : Int) = (l1.length : Int)
 ·rw [if_pos c3] at H
  have c3b0 : ((l0.length : Int) == (l1.length : Int)) = true := beq_iff_eq.mpr c3
  have c3b1 : ((l0.length : Int) != (l1.length : Int)) = false := bne_eq_false_iff_eq.mpr c3
  have c3b2 : (l0.length == l1.length) = true := by first | simpa using c3 | (simp at c3 ⊢; omega)
  clear c3
  have H' := Aside0.mk H
  clear H
  go_enter Tryd.func17, Tryd.ntmps17
  go_wp2
  go_loopg [5] k (fun kq v5 w' => ∃ (x5_1 : Int), v5 = .int .i64 x5_1 ∧ Aside0 (laws_eqPartS.l0 kq l0 l1 x5_1 = some r) ∧ Aside0 (kq ≤ k) ∧ Aside0 (Below w.heap.size w w'))
  case atStart => exact ⟨(0), sv_, H', ⟨Nat.le_refl _⟩, ⟨bel_⟩⟩
  case round =>
   clear H'
   (try clear c1);(try clear p2);(try clear c3);(try clear c3b0 c3b1 c3b2)
   obtain ⟨x5_1, rfl, HA, HK1, HB⟩ := hrel
   cases gk with
   | zero => exact absurd HA.out (by simp [laws_eqPartS.l0])
   | succ k1 =>
    have H := HA.out
    clear HA
    simp only [laws_eqPartS.l0] at H
    by_cases c4 : x5_1 < (l0.length : Int)
    ·rw [if_pos c4] at H
     have c4b0 : decide (x5_1 < (l0.length : Int)) = true := decide_eq_true c4
     clear c4
     by_cases c5 : 0 ≤ x5_1
     ·rw [if_pos c5] at H
      have c5b0 : decide (0 ≤ x5_1) = true := decide_eq_true c5
      clear c5
      by_cases c6 : x5_1 < (l1.length : Int)
      ·rw [if_pos c6] at H
       have c6b0 : decide (x5_1 < (l1.length : Int)) = true := decide_eq_true c6
       clear c6
       replace H := Option.bind_eq_some_iff.mp H
       obtain ⟨t352, A70, H⟩ := H
       replace H : (if t352 = true then (laws_eqPartS.l0 k1 l0 l1 (wrap64 (x5_1 + 1))) else (some false)) = some r := H
       have A7 := Aside0.mk A70
       clear A70
       by_cases c8 : t352 = true
       ·subst c8
        have H1 : (laws_eqPartS.l0 k1 l0 l1 (wrap64 (x5_1 + 1))) = some r := by rw [if_pos rfl] at H; exact H
        clear H
        have H := H1
        clear H1
        have H' := Aside0.mk H
        clear H
        try go_wp2
        have n0_ := Aside0.mk (below_drew1 HB.out)
        clear HB
        have HB := n0_
        clear n0_
        have p350 : 0 ≤ (x5_1 : Int) := of_decide_eq_true am_
        have q350 : x5_1 < (l0.length : Int) := of_decide_eq_true am_
        obtain ⟨ad350, A350_2, c350_2, e350, hx350_0, hx350_1, hx350_2, hl350_2, hi350_2⟩ := at_T71 HR0.out x5_1 p350 q350
        have hw350_2 := hx350_2
        have hw350_1 := hx350_1
        have hw350_0 := hx350_0
        cases e350
        replace hx350_0 := pw_cell_below HB.out hx350_0
        replace hx350_1 := pw_cell_below HB.out hx350_1
        replace hx350_2 := pw_cell_below HB.out hx350_2
        have HR350_2 := Aside0.mk hi350_2
        have HC350_2 := Aside0.mk hl350_2
        clear hi350_2 hl350_2
        replace p350 := eq_true p350
        replace q350 := eq_true q350
        have p351 : 0 ≤ (x5_1 : Int) := of_decide_eq_true am_
        have q351 : x5_1 < (l1.length : Int) := of_decide_eq_true am_
        obtain ⟨ad351, A351_2, c351_2, e351, hx351_0, hx351_1, hx351_2, hl351_2, hi351_2⟩ := at_T71 HR1.out x5_1 p351 q351
        have hw351_2 := hx351_2
        have hw351_1 := hx351_1
        have hw351_0 := hx351_0
        cases e351
        replace hx351_0 := pw_cell_below HB.out hx351_0
        replace hx351_1 := pw_cell_below HB.out hx351_1
        replace hx351_2 := pw_cell_below HB.out hx351_2
        have HR351_2 := Aside0.mk hi351_2
        have HC351_2 := Aside0.mk hl351_2
        clear hi351_2 hl351_2
        replace p351 := eq_true p351
        replace q351 := eq_true q351
        refine start_ (n := 10) (S := fun w' => w'.cell? (ad350.add ((x5_1).toNat * 3)) = some (.string ((rd_T71 l0 x5_1).f0)) ∧ w'.cell? ⟨(ad350.add ((x5_1).toNat * 3)).block, (ad350.add ((x5_1).toNat * 3)).off + 1, none⟩ = some (.string ((rd_T71 l0 x5_1).f1)) ∧ w'.cell? ⟨(ad350.add ((x5_1).toNat * 3)).block, (ad350.add ((x5_1).toNat * 3)).off + 2, none⟩ = some (.slice A350_2 ((rd_T71 l0 x5_1).f2).length c350_2) ∧ w'.cell? (ad351.add ((x5_1).toNat * 3)) = some (.string ((rd_T71 l1 x5_1).f0)) ∧ w'.cell? ⟨(ad351.add ((x5_1).toNat * 3)).block, (ad351.add ((x5_1).toNat * 3)).off + 1, none⟩ = some (.string ((rd_T71 l1 x5_1).f1)) ∧ w'.cell? ⟨(ad351.add ((x5_1).toNat * 3)).block, (ad351.add ((x5_1).toNat * 3)).off + 2, none⟩ = some (.slice A351_2 ((rd_T71 l1 x5_1).f2).length c351_2)) (ds := []) #[false, false, false, false, false, false, false, false, false, false] (by kernel_rfl) rfl rfl ⟨(pw_cell_below HB.out hw350_0), (pw_cell_below HB.out hw350_1), (pw_cell_below HB.out hw350_2), (pw_cell_below HB.out hw351_0), (pw_cell_below HB.out hw351_1), (pw_cell_below HB.out hw351_2)⟩ (fun hHeld => ?_); refine with_tabW laws_eqPartS.tab6 laws_eqPartS.bits6 (fun HT_ HW_ => ?_)
        generalize wr.drew = w9 at HB HR350_2 HR351_2 hx350_0 hx350_1 hx350_2 hx351_0 hx351_1 hx351_2 hHeld ⊢
        refine pure_ (i := 0) (N := some 17) (v := ?_) (a' := ?_) #[true, false, false, false, false, false, false, false, false, false] rfl rfl (any_of HT_.out (by kernel_rfl)) (fun _ _ _ h => h) (Or.inl ⟨by rfl, ?_⟩) ?_ ?_
        rotate_left
        ·intro w'
         go_simp
         with_reducible rfl
        rotate_left
        ·simp only [Act.put, List.setIfInBounds_toArray, List.set_cons_zero, List.set_cons_succ, i64_w, i32_w]
         rfl
        refine pure_ (i := 1) (N := some 18) (v := ?_) (a' := ?_) #[true, true, false, false, false, false, false, false, false, false] rfl rfl (any_of HT_.out (by kernel_rfl)) (fun _ _ _ h => h) (Or.inl ⟨by rfl, ?_⟩) ?_ ?_
        rotate_left
        ·intro w'
         go_simp
         with_reducible rfl
        rotate_left
        ·simp only [Act.put, List.setIfInBounds_toArray, List.set_cons_zero, List.set_cons_succ, i64_w, i32_w]
         rfl
        refine pure_ (i := 2) (N := some 19) (v := ?_) (a' := ?_) #[true, true, true, false, false, false, false, false, false, false] rfl rfl (any_of HT_.out (by kernel_rfl)) (fun _ _ _ h => h) (Or.inl ⟨by rfl, ?_⟩) ?_ ?_
        rotate_left
        ·intro w'
         go_simp
         with_reducible rfl
        rotate_left
        ·simp only [Act.put, List.setIfInBounds_toArray, List.set_cons_zero, List.set_cons_succ, i64_w, i32_w]
         rfl
        refine pure_ (i := 4) (N := some 21) (v := ?_) (a' := ?_) #[true, true, true, false, true, false, false, false, false, false] rfl rfl (any_of HT_.out (by kernel_rfl)) (fun _ _ _ h => h) (Or.inl ⟨by rfl, ?_⟩) ?_ ?_
        rotate_left
        ·intro w'
         go_simp
         with_reducible rfl
        rotate_left
        ·simp only [Act.put, List.setIfInBounds_toArray, List.set_cons_zero, List.set_cons_succ, i64_w, i32_w]
         rfl
        refine pure_ (i := 5) (N := some 22) (v := ?_) (a' := ?_) #[true, true, true, false, true, true, false, false, false, false] rfl rfl (any_of HT_.out (by kernel_rfl)) (fun _ _ _ h => h) (Or.inl ⟨by rfl, ?_⟩) ?_ ?_
        rotate_left
        ·intro w'
         go_simp
         with_reducible rfl
        rotate_left
        ·simp only [Act.put, List.setIfInBounds_toArray, List.set_cons_zero, List.set_cons_succ, i64_w, i32_w]
         rfl
        refine pure_ (i := 6) (N := some 23) (v := ?_) (a' := ?_) #[true, true, true, false, true, true, true, false, false, false] rfl rfl (any_of HT_.out (by kernel_rfl)) (fun _ _ _ h => h) (Or.inl ⟨by rfl, ?_⟩) ?_ ?_
        rotate_left
        ·intro w'
         go_simp
         with_reducible rfl
        rotate_left
        ·simp only [Act.put, List.setIfInBounds_toArray, List.set_cons_zero, List.set_cons_succ, i64_w, i32_w]
         rfl
        refine take_ (i := 3) (N := some 20) (v := ?_) (a' := ?_) #[true, true, true, true, true, true, true, false, false, false] rfl rfl (take_ofW HT_.out HW_.out (by kernel_rfl)) (fun _ _ _ h => h) (Or.inl ⟨by rfl, ?_⟩) hHeld ?_ ?_
        rotate_left
        ·rintro w' ⟨s0, s1, s2, s3, s4, s5⟩
         go_simp
         with_reducible rfl
        rotate_left
        ·simp only [Act.put, List.setIfInBounds_toArray, List.set_cons_zero, List.set_cons_succ, i64_w, i32_w]
         rfl
        refine take_ (i := 7) (N := some 24) (v := ?_) (a' := ?_) #[true, true, true, true, true, true, true, true, false, false] rfl rfl (take_ofW HT_.out HW_.out (by kernel_rfl)) (fun _ _ _ h => h) (Or.inl ⟨by rfl, ?_⟩) hHeld ?_ ?_
        rotate_left
        ·rintro w' ⟨s0, s1, s2, s3, s4, s5⟩
         go_simp
         with_reducible rfl
        rotate_left
        ·simp only [Act.put, List.setIfInBounds_toArray, List.set_cons_zero, List.set_cons_succ, i64_w, i32_w]
         rfl
        refine one_ (i := 8) (N := some 25) #[true, true, true, true, true, true, true, true, true, false] rfl rfl (one_of HT_.out (by kernel_rfl)) (by decide) (fun K hK => ?_)
        refine goes_ Tryd.func48 (by kernel_rfl) rfl #[.agg #[.string ((rd_T71 l0 x5_1).f0), .string ((rd_T71 l0 x5_1).f1), .slice A350_2 ((rd_T71 l0 x5_1).f2).length c350_2], .agg #[.string ((rd_T71 l1 x5_1).f0), .string ((rd_T71 l1 x5_1).f1), .slice A351_2 ((rd_T71 l1 x5_1).f2).length c351_2]] (by rfl) rfl rfl au_ ?_
        with_reducible refine (laws_eqPart.calls k1 ((rd_T71 l0 x5_1).f0) ((rd_T71 l0 x5_1).f1) _ _ ((rd_T71 l0 x5_1).f2) ((rd_T71 l1 x5_1).f0) ((rd_T71 l1 x5_1).f1) _ _ ((rd_T71 l1 x5_1).f2) true _ ?side1 ?side2 ?side3 ?side4 A7.out).mono ?_
        (case side1 => exact cs_ (Kd.C_below HR350_2.out HB.out))
        (case side2 => exact HC350_2.out)
        (case side3 => exact cs_ (Kd.C_below HR351_2.out HB.out))
        (case side4 => exact HC351_2.out)
        rintro e w10 ⟨rfl, hb⟩
        refine ⟨_, rfl, ?_⟩
        have n0_ := Aside0.mk (below_step bel_ hb)
        clear HB
        have HB := n0_
        clear n0_
        (try clear hb)
        (try clear hb2)
        (try clear hk)
        (try clear hi)
        refine hK.out _ _ ⟨(pw_cell_below HB.out hw350_0), (pw_cell_below HB.out hw350_1), (pw_cell_below HB.out hw350_2), (pw_cell_below HB.out hw351_0), (pw_cell_below HB.out hw351_1), (pw_cell_below HB.out hw351_2)⟩ (fun hHeld => ?_)
        clear hK K
        refine norm_ (a' := ?_) ?_ ?_
        rotate_left
        ·show Act.put _ (some 25) _ = _
         simp only [Act.put, List.setIfInBounds_toArray, List.set_cons_zero, List.set_cons_succ, i64_w, i32_w]
         rfl
        refine pure_ (i := 9) (N := some 26) (v := ?_) (a' := ?_) #[true, true, true, true, true, true, true, true, true, true] rfl rfl (any_of HT_.out (by kernel_rfl)) (fun _ _ _ h => h) (Or.inl ⟨by rfl, ?_⟩) ?_ ?_
        rotate_left
        ·intro w'
         go_simp
         with_reducible rfl
        rotate_left
        ·simp only [Act.put, List.setIfInBounds_toArray, List.set_cons_zero, List.set_cons_succ, i64_w, i32_w]
         rfl
        refine done_ (done_of HT_.out (by kernel_rfl)) ?_
        try go_wp2
        go_roundg k1
        case measure => have := HK1.out; omega
        case rel => exact ⟨(wrap64 (x5_1 + 1)), sv_, H', ⟨by have := HK1.out; omega⟩, ⟨bel_⟩⟩
       ·replace c8 := Bool.eq_false_iff.mpr c8
        subst c8
        have H1 : (some false) = some r := by rw [if_neg (show ¬ (false = true) by decide)] at H; exact H
        clear H
        have H := H1
        clear H1
        obtain rfl := Option.some.inj H
        try go_wp2
        have n0_ := Aside0.mk (below_drew1 HB.out)
        clear HB
        have HB := n0_
        clear n0_
        have p350 : 0 ≤ (x5_1 : Int) := of_decide_eq_true am_
        have q350 : x5_1 < (l0.length : Int) := of_decide_eq_true am_
        obtain ⟨ad350, A350_2, c350_2, e350, hx350_0, hx350_1, hx350_2, hl350_2, hi350_2⟩ := at_T71 HR0.out x5_1 p350 q350
        have hw350_2 := hx350_2
        have hw350_1 := hx350_1
        have hw350_0 := hx350_0
        cases e350
        replace hx350_0 := pw_cell_below HB.out hx350_0
        replace hx350_1 := pw_cell_below HB.out hx350_1
        replace hx350_2 := pw_cell_below HB.out hx350_2
        have HR350_2 := Aside0.mk hi350_2
        have HC350_2 := Aside0.mk hl350_2
        clear hi350_2 hl350_2
        replace p350 := eq_true p350
        replace q350 := eq_true q350
        have p351 : 0 ≤ (x5_1 : Int) := of_decide_eq_true am_
        have q351 : x5_1 < (l1.length : Int) := of_decide_eq_true am_
        obtain ⟨ad351, A351_2, c351_2, e351, hx351_0, hx351_1, hx351_2, hl351_2, hi351_2⟩ := at_T71 HR1.out x5_1 p351 q351
        have hw351_2 := hx351_2
        have hw351_1 := hx351_1
        have hw351_0 := hx351_0
        cases e351
        replace hx351_0 := pw_cell_below HB.out hx351_0
        replace hx351_1 := pw_cell_below HB.out hx351_1
        replace hx351_2 := pw_cell_below HB.out hx351_2
        have HR351_2 := Aside0.mk hi351_2
        have HC351_2 := Aside0.mk hl351_2
        clear hi351_2 hl351_2
        replace p351 := eq_true p351
        replace q351 := eq_true q351
        refine start_ (n := 10) (S := fun w' => w'.cell? (ad350.add ((x5_1).toNat * 3)) = some (.string ((rd_T71 l0 x5_1).f0)) ∧ w'.cell? ⟨(ad350.add ((x5_1).toNat * 3)).block, (ad350.add ((x5_1).toNat * 3)).off + 1, none⟩ = some (.string ((rd_T71 l0 x5_1).f1)) ∧ w'.cell? ⟨(ad350.add ((x5_1).toNat * 3)).block, (ad350.add ((x5_1).toNat * 3)).off + 2, none⟩ = some (.slice A350_2 ((rd_T71 l0 x5_1).f2).length c350_2) ∧ w'.cell? (ad351.add ((x5_1).toNat * 3)) = some (.string ((rd_T71 l1 x5_1).f0)) ∧ w'.cell? ⟨(ad351.add ((x5_1).toNat * 3)).block, (ad351.add ((x5_1).toNat * 3)).off + 1, none⟩ = some (.string ((rd_T71 l1 x5_1).f1)) ∧ w'.cell? ⟨(ad351.add ((x5_1).toNat * 3)).block, (ad351.add ((x5_1).toNat * 3)).off + 2, none⟩ = some (.slice A351_2 ((rd_T71 l1 x5_1).f2).length c351_2)) (ds := []) #[false, false, false, false, false, false, false, false, false, false] (by kernel_rfl) rfl rfl ⟨(pw_cell_below HB.out hw350_0), (pw_cell_below HB.out hw350_1), (pw_cell_below HB.out hw350_2), (pw_cell_below HB.out hw351_0), (pw_cell_below HB.out hw351_1), (pw_cell_below HB.out hw351_2)⟩ (fun hHeld => ?_); refine with_tabW laws_eqPartS.tab6 laws_eqPartS.bits6 (fun HT_ HW_ => ?_)
        generalize wr.drew = w11 at HB HR350_2 HR351_2 hx350_0 hx350_1 hx350_2 hx351_0 hx351_1 hx351_2 hHeld ⊢
        refine pure_ (i := 0) (N := some 17) (v := ?_) (a' := ?_) #[true, false, false, false, false, false, false, false, false, false] rfl rfl (any_of HT_.out (by kernel_rfl)) (fun _ _ _ h => h) (Or.inl ⟨by rfl, ?_⟩) ?_ ?_
        rotate_left
        ·intro w'
         go_simp
         with_reducible rfl
        rotate_left
        ·simp only [Act.put, List.setIfInBounds_toArray, List.set_cons_zero, List.set_cons_succ, i64_w, i32_w]
         rfl
        refine pure_ (i := 1) (N := some 18) (v := ?_) (a' := ?_) #[true, true, false, false, false, false, false, false, false, false] rfl rfl (any_of HT_.out (by kernel_rfl)) (fun _ _ _ h => h) (Or.inl ⟨by rfl, ?_⟩) ?_ ?_
        rotate_left
        ·intro w'
         go_simp
         with_reducible rfl
        rotate_left
        ·simp only [Act.put, List.setIfInBounds_toArray, List.set_cons_zero, List.set_cons_succ, i64_w, i32_w]
         rfl
        refine pure_ (i := 2) (N := some 19) (v := ?_) (a' := ?_) #[true, true, true, false, false, false, false, false, false, false] rfl rfl (any_of HT_.out (by kernel_rfl)) (fun _ _ _ h => h) (Or.inl ⟨by rfl, ?_⟩) ?_ ?_
        rotate_left
        ·intro w'
         go_simp
         with_reducible rfl
        rotate_left
        ·simp only [Act.put, List.setIfInBounds_toArray, List.set_cons_zero, List.set_cons_succ, i64_w, i32_w]
         rfl
        refine pure_ (i := 4) (N := some 21) (v := ?_) (a' := ?_) #[true, true, true, false, true, false, false, false, false, false] rfl rfl (any_of HT_.out (by kernel_rfl)) (fun _ _ _ h => h) (Or.inl ⟨by rfl, ?_⟩) ?_ ?_
        rotate_left
        ·intro w'
         go_simp
         with_reducible rfl
        rotate_left
        ·simp only [Act.put, List.setIfInBounds_toArray, List.set_cons_zero, List.set_cons_succ, i64_w, i32_w]
         rfl
        refine pure_ (i := 5) (N := some 22) (v := ?_) (a' := ?_) #[true, true, true, false, true, true, false, false, false, false] rfl rfl (any_of HT_.out (by kernel_rfl)) (fun _ _ _ h => h) (Or.inl ⟨by rfl, ?_⟩) ?_ ?_
        rotate_left
        ·intro w'
         go_simp
         with_reducible rfl
        rotate_left
        ·simp only [Act.put, List.setIfInBounds_toArray, List.set_cons_zero, List.set_cons_succ, i64_w, i32_w]
         rfl
        refine pure_ (i := 6) (N := some 23) (v := ?_) (a' := ?_) #[true, true, true, false, true, true, true, false, false, false] rfl rfl (any_of HT_.out (by kernel_rfl)) (fun _ _ _ h => h) (Or.inl ⟨by rfl, ?_⟩) ?_ ?_
        rotate_left
        ·intro w'
         go_simp
         with_reducible rfl
        rotate_left
        ·simp only [Act.put, List.setIfInBounds_toArray, List.set_cons_zero, List.set_cons_succ, i64_w, i32_w]
         rfl
        refine take_ (i := 3) (N := some 20) (v := ?_) (a' := ?_) #[true, true, true, true, true, true, true, false, false, false] rfl rfl (take_ofW HT_.out HW_.out (by kernel_rfl)) (fun _ _ _ h => h) (Or.inl ⟨by rfl, ?_⟩) hHeld ?_ ?_
        rotate_left
        ·rintro w' ⟨s0, s1, s2, s3, s4, s5⟩
         go_simp
         with_reducible rfl
        rotate_left
        ·simp only [Act.put, List.setIfInBounds_toArray, List.set_cons_zero, List.set_cons_succ, i64_w, i32_w]
         rfl
        refine take_ (i := 7) (N := some 24) (v := ?_) (a' := ?_) #[true, true, true, true, true, true, true, true, false, false] rfl rfl (take_ofW HT_.out HW_.out (by kernel_rfl)) (fun _ _ _ h => h) (Or.inl ⟨by rfl, ?_⟩) hHeld ?_ ?_
        rotate_left
        ·rintro w' ⟨s0, s1, s2, s3, s4, s5⟩
         go_simp
         with_reducible rfl
        rotate_left
        ·simp only [Act.put, List.setIfInBounds_toArray, List.set_cons_zero, List.set_cons_succ, i64_w, i32_w]
         rfl
        refine one_ (i := 8) (N := some 25) #[true, true, true, true, true, true, true, true, true, false] rfl rfl (one_of HT_.out (by kernel_rfl)) (by decide) (fun K hK => ?_)
        refine goes_ Tryd.func48 (by kernel_rfl) rfl #[.agg #[.string ((rd_T71 l0 x5_1).f0), .string ((rd_T71 l0 x5_1).f1), .slice A350_2 ((rd_T71 l0 x5_1).f2).length c350_2], .agg #[.string ((rd_T71 l1 x5_1).f0), .string ((rd_T71 l1 x5_1).f1), .slice A351_2 ((rd_T71 l1 x5_1).f2).length c351_2]] (by rfl) rfl rfl au_ ?_
        with_reducible refine (laws_eqPart.calls k1 ((rd_T71 l0 x5_1).f0) ((rd_T71 l0 x5_1).f1) _ _ ((rd_T71 l0 x5_1).f2) ((rd_T71 l1 x5_1).f0) ((rd_T71 l1 x5_1).f1) _ _ ((rd_T71 l1 x5_1).f2) false _ ?side1 ?side2 ?side3 ?side4 A7.out).mono ?_
        (case side1 => exact cs_ (Kd.C_below HR350_2.out HB.out))
        (case side2 => exact HC350_2.out)
        (case side3 => exact cs_ (Kd.C_below HR351_2.out HB.out))
        (case side4 => exact HC351_2.out)
        rintro e w12 ⟨rfl, hb⟩
        refine ⟨_, rfl, ?_⟩
        have n0_ := Aside0.mk (below_step bel_ hb)
        clear HB
        have HB := n0_
        clear n0_
        (try clear hb)
        (try clear hb2)
        (try clear hk)
        (try clear hi)
        refine hK.out _ _ ⟨(pw_cell_below HB.out hw350_0), (pw_cell_below HB.out hw350_1), (pw_cell_below HB.out hw350_2), (pw_cell_below HB.out hw351_0), (pw_cell_below HB.out hw351_1), (pw_cell_below HB.out hw351_2)⟩ (fun hHeld => ?_)
        clear hK K
        refine norm_ (a' := ?_) ?_ ?_
        rotate_left
        ·show Act.put _ (some 25) _ = _
         simp only [Act.put, List.setIfInBounds_toArray, List.set_cons_zero, List.set_cons_succ, i64_w, i32_w]
         rfl
        refine pure_ (i := 9) (N := some 26) (v := ?_) (a' := ?_) #[true, true, true, true, true, true, true, true, true, true] rfl rfl (any_of HT_.out (by kernel_rfl)) (fun _ _ _ h => h) (Or.inl ⟨by rfl, ?_⟩) ?_ ?_
        rotate_left
        ·intro w'
         go_simp
         with_reducible rfl
        rotate_left
        ·simp only [Act.put, List.setIfInBounds_toArray, List.set_cons_zero, List.set_cons_succ, i64_w, i32_w]
         rfl
        refine done_ (done_of HT_.out (by kernel_rfl)) ?_
        try go_wp2
        go_ret
        exact ⟨er_, bel_⟩
      ·rw [if_neg c6] at H
       exact absurd H (by simp)
     ·rw [if_neg c5] at H
      exact absurd H (by simp)
    ·rw [if_neg c4] at H
     have c4b0 : decide (x5_1 < (l0.length : Int)) = false := decide_eq_false c4
     clear c4
     obtain rfl := Option.some.inj H
     go_wp2
     go_ret
     exact ⟨er_, bel_⟩
 ·rw [if_neg c3] at H
  have c3b0 : ((l0.length : Int) == (l1.length : Int)) = false := beq_eq_false_iff_ne.mpr c3
  have c3b1 : ((l0.length : Int) != (l1.length : Int)) = true := bne_iff_ne.mpr c3
  have c3b2 : (l0.length == l1.length) = false := by first | simpa using c3 | (simp at c3 ⊢; omega)
  obtain rfl := Option.some.inj H
  go_enter Tryd.func17, Tryd.ntmps17
  go_wp2
  go_ret
  exact ⟨er_, bel_⟩

/-! ### laws_FnExactMatches: function 4 -/
def laws_FnExactMatches.f (k : Nat) (l0 : List (S60)) (a1 : Int) (l2 : List (S63)) : Option (Bool) := (laws_szNodeS.f k l0 1048576).bind fun t353 => (if t353 < 0 then (some true) else ((laws_szPartS.f k l2 t353).bind fun t354 => (if t354 < 0 then (some true) else ((laws_toNodeS.f k l0).bind fun t355 => ((laws_toPartS.f k l2).bind fun t358 => ((spec_Matches.f k t355 a1 t358).bind fun t361 => ((laws_toNodeS.f k l0).bind fun t362 => ((laws_toPartS.f k l2).bind fun t365 => ((impl_Matches.f k t362 a1 t365).bind fun t368 => (if (t368 != t361) = true then (some false) else ((laws_toNodeS.f k l0).bind fun t369 => ((laws_eqNodeS.f k t362 t369).bind fun t372 => (if t372 = true then ((laws_toPartS.f k l2).bind fun t373 => ((laws_eqPartS.f k t365 t373).bind fun t376 => (if t376 = true then (some true) else (some false)))) else (some false))))))))))))))
set_option maxHeartbeats 8000000 in
set_option maxRecDepth 100000 in
theorem laws_FnExactMatches.calls (k : Nat) (A0 : Option Addr) (c0 : Nat) (l0 : List (S60)) (a1 : Int) (A2 : Option Addr) (c2 : Nat) (l2 : List (S63)) (r : Bool) (w : World) (hr0 : Kd.C k60 w A0 l0.length l0) (hc0 : l0.length ≤ c0) (hr2 : Kd.C k63 w A2 l2.length l2) (hc2 : l2.length ≤ c2) (h : laws_FnExactMatches.f k l0 a1 l2 = some r) (hT_ : U8Tabs_ w) :
  Calls Tryd.prog 4 #[.slice A0 l0.length c0, .int .i64 a1, .slice A2 l2.length c2] w fun e w' => e = .returned (.bool r) ∧ Below w.heap.size w w' := by
 have HR0 := Aside0.mk hr0
 have HC0 := Aside0.mk hc0
 clear hr0 hc0
 have HR2 := Aside0.mk hr2
 have HC2 := Aside0.mk hc2
 clear hr2 hc2
 have HB := Aside0.mk (Below.refl w.heap.size w)
 have H : ((laws_szNodeS.f k l0 1048576).bind fun t353 => (if t353 < 0 then (some true) else ((laws_szPartS.f k l2 t353).bind fun t354 => (if t354 < 0 then (some true) else ((laws_toNodeS.f k l0).bind fun t355 => ((laws_toPartS.f k l2).bind fun t358 => ((spec_Matches.f k t355 a1 t358).bind fun t361 => ((laws_toNodeS.f k l0).bind fun t362 => ((laws_toPartS.f k l2).bind fun t365 => ((impl_Matches.f k t362 a1 t365).bind fun t368 => (if (t368 != t361) = true then (some false) else ((laws_toNodeS.f k l0).bind fun t369 => ((laws_eqNodeS.f k t362 t369).bind fun t372 => (if t372 = true then ((laws_toPartS.f k l2).bind fun t373 => ((laws_eqPartS.f k t365 t373).bind fun t376 => (if t376 = true then (some true) else (some false)))) else (some false))))))))))))))) = some r := h
 clear h
 replace H := Option.bind_eq_some_iff.mp H
 obtain ⟨t353, A40, H⟩ := H
 replace H : (if t353 < 0 then (some true) else ((laws_szPartS.f k l2 t353).bind fun t354 => (if t354 < 0 then (some true) else ((laws_toNodeS.f k l0).bind fun t355 => ((laws_toPartS.f k l2).bind fun t358 => ((spec_Matches.f k t355 a1 t358).bind fun t361 => ((laws_toNodeS.f k l0).bind fun t362 => ((laws_toPartS.f k l2).bind fun t365 => ((impl_Matches.f k t362 a1 t365).bind fun t368 => (if (t368 != t361) = true then (some false) else ((laws_toNodeS.f k l0).bind fun t369 => ((laws_eqNodeS.f k t362 t369).bind fun t372 => (if t372 = true then ((laws_toPartS.f k l2).bind fun t373 => ((laws_eqPartS.f k t365 t373).bind fun t376 => (if t376 = true then (some true) else (some false)))) else (some false)))))))))))))) = some r := H
 have A4 := Aside0.mk A40
 clear A40
 by_cases c5 : t353 < 0
 ·rw [if_pos c5] at H
  have c5b0 : decide (t353 < 0) = true := decide_eq_true c5
  clear c5
  obtain rfl := Option.some.inj H
  go_enter Tryd.func4, Tryd.ntmps4
  go_wp2_with (first | ((with_reducible refine gate_callee (f := 10) rfl ?_); refine goesL_ (some 14) rfl rfl Tryd.func10 (by kernel_rfl) rfl #[.slice A0 l0.length c0, .int .i64 1048576] rfl au_ ?_; (with_reducible refine (laws_szNodeS.calls k _ _ l0 1048576 t353 _ ?side1 ?side2 A4.out).mono ?_); (case side1 => exact cs_ HR0.out); (case side2 => exact HC0.out); rintro e w6 ⟨rfl, hb⟩; refine ⟨_, rfl, ?_⟩; have n0_ := Aside0.mk (below_step bel_ hb); clear HB; have HB := n0_; clear n0_; (try clear hb);(try clear hb2);(try clear hk);(try clear hi)))
  go_ret
  exact ⟨er_, bel_⟩
 ·rw [if_neg c5] at H
  have c5b0 : decide (t353 < 0) = false := decide_eq_false c5
  clear c5
  replace H := Option.bind_eq_some_iff.mp H
  obtain ⟨t354, A70, H⟩ := H
  replace H : (if t354 < 0 then (some true) else ((laws_toNodeS.f k l0).bind fun t355 => ((laws_toPartS.f k l2).bind fun t358 => ((spec_Matches.f k t355 a1 t358).bind fun t361 => ((laws_toNodeS.f k l0).bind fun t362 => ((laws_toPartS.f k l2).bind fun t365 => ((impl_Matches.f k t362 a1 t365).bind fun t368 => (if (t368 != t361) = true then (some false) else ((laws_toNodeS.f k l0).bind fun t369 => ((laws_eqNodeS.f k t362 t369).bind fun t372 => (if t372 = true then ((laws_toPartS.f k l2).bind fun t373 => ((laws_eqPartS.f k t365 t373).bind fun t376 => (if t376 = true then (some true) else (some false)))) else (some false)))))))))))) = some r := H
  have A7 := Aside0.mk A70
  clear A70
  by_cases c8 : t354 < 0
  ·rw [if_pos c8] at H
   have c8b0 : decide (t354 < 0) = true := decide_eq_true c8
   clear c8
   obtain rfl := Option.some.inj H
   go_enter Tryd.func4, Tryd.ntmps4
   go_wp2_with (first | ((with_reducible refine gate_callee (f := 10) rfl ?_); refine goesL_ (some 14) rfl rfl Tryd.func10 (by kernel_rfl) rfl #[.slice A0 l0.length c0, .int .i64 1048576] rfl au_ ?_; (with_reducible refine (laws_szNodeS.calls k _ _ l0 1048576 t353 _ ?side1 ?side2 A4.out).mono ?_); (case side1 => exact cs_ HR0.out); (case side2 => exact HC0.out); rintro e w9 ⟨rfl, hb⟩; refine ⟨_, rfl, ?_⟩; have n0_ := Aside0.mk (below_step bel_ hb); clear HB; have HB := n0_; clear n0_; (try clear hb);(try clear hb2);(try clear hk);(try clear hi)) | ((with_reducible refine gate_callee (f := 11) rfl ?_); refine goesL_ (some 19) rfl rfl Tryd.func11 (by kernel_rfl) rfl #[.slice A2 l2.length c2, .int .i64 t353] rfl au_ ?_; (with_reducible refine (laws_szPartS.calls k _ _ l2 t353 t354 _ ?side1 ?side2 A7.out).mono ?_); (case side1 => exact cs_ (Kd.C_below HR2.out HB.out)); (case side2 => exact HC2.out); rintro e w10 ⟨rfl, hb⟩; refine ⟨_, rfl, ?_⟩; have n0_ := Aside0.mk (below_step bel_ hb); clear HB; have HB := n0_; clear n0_; (try clear hb);(try clear hb2);(try clear hk);(try clear hi)))
   go_ret
   exact ⟨er_, bel_⟩
  ·rw [if_neg c8] at H
   have c8b0 : decide (t354 < 0) = false := decide_eq_false c8
   clear c8
   replace H := Option.bind_eq_some_iff.mp H
   obtain ⟨t355, A110, H⟩ := H
   replace H : ((laws_toPartS.f k l2).bind fun t358 => ((spec_Matches.f k t355 a1 t358).bind fun t361 => ((laws_toNodeS.f k l0).bind fun t362 => ((laws_toPartS.f k l2).bind fun t365 => ((impl_Matches.f k t362 a1 t365).bind fun t368 => (if (t368 != t361) = true then (some false) else ((laws_toNodeS.f k l0).bind fun t369 => ((laws_eqNodeS.f k t362 t369).bind fun t372 => (if t372 = true then ((laws_toPartS.f k l2).bind fun t373 => ((laws_eqPartS.f k t365 t373).bind fun t376 => (if t376 = true then (some true) else (some false)))) else (some false)))))))))) = some r := H
   have A11 := Aside0.mk A110
   clear A110
   replace H := Option.bind_eq_some_iff.mp H
   obtain ⟨t358, A120, H⟩ := H
   replace H : ((spec_Matches.f k t355 a1 t358).bind fun t361 => ((laws_toNodeS.f k l0).bind fun t362 => ((laws_toPartS.f k l2).bind fun t365 => ((impl_Matches.f k t362 a1 t365).bind fun t368 => (if (t368 != t361) = true then (some false) else ((laws_toNodeS.f k l0).bind fun t369 => ((laws_eqNodeS.f k t362 t369).bind fun t372 => (if t372 = true then ((laws_toPartS.f k l2).bind fun t373 => ((laws_eqPartS.f k t365 t373).bind fun t376 => (if t376 = true then (some true) else (some false)))) else (some false))))))))) = some r := H
   have A12 := Aside0.mk A120
   clear A120
   replace H := Option.bind_eq_some_iff.mp H
   obtain ⟨t361, A130, H⟩ := H
   replace H : ((laws_toNodeS.f k l0).bind fun t362 => ((laws_toPartS.f k l2).bind fun t365 => ((impl_Matches.f k t362 a1 t365).bind fun t368 => (if (t368 != t361) = true then (some false) else ((laws_toNodeS.f k l0).bind fun t369 => ((laws_eqNodeS.f k t362 t369).bind fun t372 => (if t372 = true then ((laws_toPartS.f k l2).bind fun t373 => ((laws_eqPartS.f k t365 t373).bind fun t376 => (if t376 = true then (some true) else (some false)))) else (some false)))))))) = some r := H
   have A13 := Aside0.mk A130
   clear A130
   replace H := Option.bind_eq_some_iff.mp H
   obtain ⟨t362, A140, H⟩ := H
   replace H : ((laws_toPartS.f k l2).bind fun t365 => ((impl_Matches.f k t362 a1 t365).bind fun t368 => (if (t368 != t361) = true then (some false) else ((laws_toNodeS.f k l0).bind fun t369 => ((laws_eqNodeS.f k t362 t369).bind fun t372 => (if t372 = true then ((laws_toPartS.f k l2).bind fun t373 => ((laws_eqPartS.f k t365 t373).bind fun t376 => (if t376 = true then (some true) else (some false)))) else (some false))))))) = some r := H
   have A14 := Aside0.mk A140
   clear A140
   replace H := Option.bind_eq_some_iff.mp H
   obtain ⟨t365, A150, H⟩ := H
   replace H : ((impl_Matches.f k t362 a1 t365).bind fun t368 => (if (t368 != t361) = true then (some false) else ((laws_toNodeS.f k l0).bind fun t369 => ((laws_eqNodeS.f k t362 t369).bind fun t372 => (if t372 = true then ((laws_toPartS.f k l2).bind fun t373 => ((laws_eqPartS.f k t365 t373).bind fun t376 => (if t376 = true then (some true) else (some false)))) else (some false)))))) = some r := H
   have A15 := Aside0.mk A150
   clear A150
   replace H := Option.bind_eq_some_iff.mp H
   obtain ⟨t368, A160, H⟩ := H
   replace H : (if (t368 != t361) = true then (some false) else ((laws_toNodeS.f k l0).bind fun t369 => ((laws_eqNodeS.f k t362 t369).bind fun t372 => (if t372 = true then ((laws_toPartS.f k l2).bind fun t373 => ((laws_eqPartS.f k t365 t373).bind fun t376 => (if t376 = true then (some true) else (some false)))) else (some false))))) = some r := H
   have A16 := Aside0.mk A160
   clear A160
   by_cases c17 : (t368 != t361) = true
   ·rw [if_pos c17] at H
    have c17b0 : (t368 != t361) = true := c17
    (try (have c17b1 : decide (t368 = t361) = false := by simpa using c17))
    (try (have c17b2 : (t368 == t361) = false := by simpa using c17))
    (try (have c17b3 : ¬ (t368 = t361) := by simpa using c17))
    clear c17
    obtain rfl := Option.some.inj H
    go_enter Tryd.func4, Tryd.ntmps4
    go_wp2_with (first | ((with_reducible refine gate_callee (f := 10) rfl ?_); refine goesL_ (some 14) rfl rfl Tryd.func10 (by kernel_rfl) rfl #[.slice A0 l0.length c0, .int .i64 1048576] rfl au_ ?_; (with_reducible refine (laws_szNodeS.calls k _ _ l0 1048576 t353 _ ?side1 ?side2 A4.out).mono ?_); (case side1 => exact cs_ HR0.out); (case side2 => exact HC0.out); rintro e w18 ⟨rfl, hb⟩; refine ⟨_, rfl, ?_⟩; have n0_ := Aside0.mk (below_step bel_ hb); clear HB; have HB := n0_; clear n0_; (try clear hb);(try clear hb2);(try clear hk);(try clear hi)) | ((with_reducible refine gate_callee (f := 11) rfl ?_); refine goesL_ (some 19) rfl rfl Tryd.func11 (by kernel_rfl) rfl #[.slice A2 l2.length c2, .int .i64 t353] rfl au_ ?_; (with_reducible refine (laws_szPartS.calls k _ _ l2 t353 t354 _ ?side1 ?side2 A7.out).mono ?_); (case side1 => exact cs_ (Kd.C_below HR2.out HB.out)); (case side2 => exact HC2.out); rintro e w19 ⟨rfl, hb⟩; refine ⟨_, rfl, ?_⟩; have n0_ := Aside0.mk (below_step bel_ hb); clear HB; have HB := n0_; clear n0_; (try clear hb);(try clear hb2);(try clear hk);(try clear hi)) | ((with_reducible refine gate_callee (f := 13) rfl ?_); refine goesL_ (some 23) rfl rfl Tryd.func13 (by kernel_rfl) rfl #[.slice A0 l0.length c0] rfl au_ ?_; (with_reducible refine (laws_toNodeS.calls k _ _ l0 t355 _ ?side1 ?side2 A11.out).mono ?_); (case side1 => exact cs_ (Kd.C_below HR0.out HB.out)); (case side2 => exact HC0.out); rintro e w20 ⟨v356, rfl, ho0, hb⟩; refine ⟨_, rfl, ?_⟩; have n0_ := Aside0.mk (Kd.S_lower ho0 (below_size bel_)); have n1_ := Aside0.mk (below_step bel_ hb); clear HB; have HO357 := n0_; have HB := n1_; clear n0_ n1_; (try clear hb);(try clear hb2);(try clear hk);(try clear hi);(try clear ho0)) | ((with_reducible refine gate_callee (f := 14) rfl ?_); refine goesL_ (some 26) rfl rfl Tryd.func14 (by kernel_rfl) rfl #[.slice A2 l2.length c2] rfl au_ ?_; (with_reducible refine (laws_toPartS.calls k _ _ l2 t358 _ ?side1 ?side2 A12.out).mono ?_); (case side1 => exact cs_ (Kd.C_below HR2.out HB.out)); (case side2 => exact HC2.out); rintro e w21 ⟨v359, rfl, ho0, hb⟩; refine ⟨_, rfl, ?_⟩; have n0_ := Aside0.mk (Kd.S_below (kdS_ HO357.out) hb); have n1_ := Aside0.mk (Kd.S_lower ho0 (below_size bel_)); have n2_ := Aside0.mk (below_step bel_ hb); clear HO357; clear HB; have HO357 := n0_; have HO360 := n1_; have HB := n2_; clear n0_ n1_ n2_; (try clear hb);(try clear hb2);(try clear hk);(try clear hi);(try clear ho0); obtain ⟨Ao22, co22, eo22⟩ := Kd.S_slice HO357.out; subst eo22; obtain ⟨Ao23, co23, eo23⟩ := Kd.S_slice HO360.out; subst eo23) | ((with_reducible refine gate_callee (f := 12) rfl ?_); refine goesL_ (some 27) rfl rfl Tryd.func12 (by kernel_rfl) rfl #[.slice Ao22 t355.length co22, .int .i64 a1, .slice Ao23 t358.length co23] rfl au_ ?_; (with_reducible refine (spec_Matches.calls k _ _ t355 a1 _ _ t358 t361 _ ?side1 ?side2 ?side3 ?side4 A13.out).mono ?_); (case side1 => exact cs_ (Kd.S_reads' HO357.out).2.2); (case side2 => exact (Kd.S_reads' HO357.out).2.1); (case side3 => exact cs_ (Kd.S_reads' HO360.out).2.2); (case side4 => exact (Kd.S_reads' HO360.out).2.1); rintro e w24 ⟨rfl, hb⟩; refine ⟨_, rfl, ?_⟩; have n0_ := Aside0.mk (Kd.S_below (kdS_ HO357.out) hb); have n1_ := Aside0.mk (Kd.S_below (kdS_ HO360.out) hb); have n2_ := Aside0.mk (below_step bel_ hb); clear HO357; clear HO360; clear HB; have HO357 := n0_; have HO360 := n1_; have HB := n2_; clear n0_ n1_ n2_; (try clear hb);(try clear hb2);(try clear hk);(try clear hi)) | ((with_reducible refine gate_callee (f := 13) rfl ?_); refine goesL_ (some 29) rfl rfl Tryd.func13 (by kernel_rfl) rfl #[.slice A0 l0.length c0] rfl au_ ?_; (with_reducible refine (laws_toNodeS.calls k _ _ l0 t362 _ ?side1 ?side2 A14.out).mono ?_); (case side1 => exact cs_ (Kd.C_below HR0.out HB.out)); (case side2 => exact HC0.out); rintro e w25 ⟨v363, rfl, ho0, hb⟩; refine ⟨_, rfl, ?_⟩; have n0_ := Aside0.mk (Kd.S_elder' (kdS_ HO357.out) (Kd.S_base ho0) hb); have n1_ := Aside0.mk (Kd.S_below (kdS_ HO360.out) hb); have n2_ := Aside0.mk (Kd.S_lower (Kd.S_new' ho0 (Kd.S_lt (kdS_ HO357.out))) (below_size bel_)); have n3_ := Aside0.mk (below_step bel_ hb); clear HO357; clear HO360; clear HB; have HO357 := n0_; have HO360 := n1_; have HO364 := n2_; have HB := n3_; clear n0_ n1_ n2_ n3_; (try clear hb);(try clear hb2);(try clear hk);(try clear hi);(try clear ho0)) | ((with_reducible refine gate_callee (f := 14) rfl ?_); refine goesL_ (some 31) rfl rfl Tryd.func14 (by kernel_rfl) rfl #[.slice A2 l2.length c2] rfl au_ ?_; (with_reducible refine (laws_toPartS.calls k _ _ l2 t365 _ ?side1 ?side2 A15.out).mono ?_); (case side1 => exact cs_ (Kd.C_below HR2.out HB.out)); (case side2 => exact HC2.out); rintro e w26 ⟨v366, rfl, ho0, hb⟩; refine ⟨_, rfl, ?_⟩; have n0_ := Aside0.mk (Kd.S_below (kdS_ HO357.out) hb); have n1_ := Aside0.mk (Kd.S_elder' (kdS_ HO360.out) (Kd.S_base ho0) hb); have n2_ := Aside0.mk (Kd.S_below (kdS_ HO364.out) hb); have n3_ := Aside0.mk (Kd.S_lower (Kd.S_new' ho0 (Kd.S_lt (kdS_ HO360.out))) (below_size bel_)); have n4_ := Aside0.mk (below_step bel_ hb); clear HO357; clear HO360; clear HO364; clear HB; have HO357 := n0_; have HO360 := n1_; have HO364 := n2_; have HO367 := n3_; have HB := n4_; clear n0_ n1_ n2_ n3_ n4_; (try clear hb);(try clear hb2);(try clear hk);(try clear hi);(try clear ho0); obtain ⟨Ao27, co27, eo27⟩ := Kd.S_slice HO364.out; subst eo27; obtain ⟨Ao28, co28, eo28⟩ := Kd.S_slice HO367.out; subst eo28) | ((with_reducible refine gate_callee (f := 15) rfl ?_); refine goesL_ (some 35) rfl rfl Tryd.func15 (by kernel_rfl) rfl #[.slice Ao27 t362.length co27, .int .i64 a1, .slice Ao28 t365.length co28] rfl au_ ?_; (with_reducible refine (impl_Matches.calls k _ _ t362 a1 _ _ t365 t368 _ ?side1 ?side2 ?side3 ?side4 A16.out ?hT_).mono ?_); (case hT_ => exact utf8_keep_ hT_ bel_); (case side1 => exact cs_ (Kd.S_reads' HO364.out).2.2); (case side2 => exact (Kd.S_reads' HO364.out).2.1); (case side3 => exact cs_ (Kd.S_reads' HO367.out).2.2); (case side4 => exact (Kd.S_reads' HO367.out).2.1); rintro e w29 ⟨rfl, hb⟩; refine ⟨_, rfl, ?_⟩; have n0_ := Aside0.mk (Kd.S_below (kdS_ HO357.out) hb); have n1_ := Aside0.mk (Kd.S_below (kdS_ HO360.out) hb); have n2_ := Aside0.mk (Kd.S_below (kdS_ HO364.out) hb); have n3_ := Aside0.mk (Kd.S_below (kdS_ HO367.out) hb); have n4_ := Aside0.mk (below_step bel_ hb); clear HO357; clear HO360; clear HO364; clear HO367; clear HB; have HO357 := n0_; have HO360 := n1_; have HO364 := n2_; have HO367 := n3_; have HB := n4_; clear n0_ n1_ n2_ n3_ n4_; (try clear hb);(try clear hb2);(try clear hk);(try clear hi)))
    go_ret
    exact ⟨er_, bel_⟩
   ·rw [if_neg c17] at H
    have c17b0 : (t368 != t361) = false := by simpa using c17
    (try (have c17b1 : decide (t368 = t361) = true := by simpa using c17))
    (try (have c17b2 : (t368 == t361) = true := by simpa using c17))
    clear c17
    replace H := Option.bind_eq_some_iff.mp H
    obtain ⟨t369, A300, H⟩ := H
    replace H : ((laws_eqNodeS.f k t362 t369).bind fun t372 => (if t372 = true then ((laws_toPartS.f k l2).bind fun t373 => ((laws_eqPartS.f k t365 t373).bind fun t376 => (if t376 = true then (some true) else (some false)))) else (some false))) = some r := H
    have A30 := Aside0.mk A300
    clear A300
    replace H := Option.bind_eq_some_iff.mp H
    obtain ⟨t372, A310, H⟩ := H
    replace H : (if t372 = true then ((laws_toPartS.f k l2).bind fun t373 => ((laws_eqPartS.f k t365 t373).bind fun t376 => (if t376 = true then (some true) else (some false)))) else (some false)) = some r := H
    have A31 := Aside0.mk A310
    clear A310
    by_cases c32 : t372 = true
    ·subst c32
     have H1 : ((laws_toPartS.f k l2).bind fun t373 => ((laws_eqPartS.f k t365 t373).bind fun t376 => (if t376 = true then (some true) else (some false)))) = some r := by rw [if_pos rfl] at H; exact H
     clear H
     have H := H1
     clear H1
     replace H := Option.bind_eq_some_iff.mp H
     obtain ⟨t373, A330, H⟩ := H
     replace H : ((laws_eqPartS.f k t365 t373).bind fun t376 => (if t376 = true then (some true) else (some false))) = some r := H
     have A33 := Aside0.mk A330
     clear A330
     replace H := Option.bind_eq_some_iff.mp H
     obtain ⟨t376, A340, H⟩ := H
     replace H : (if t376 = true then (some true) else (some false)) = some r := H
     have A34 := Aside0.mk A340
     clear A340
     by_cases c35 : t376 = true
     ·subst c35
      have H1 : (some true) = some r := by rw [if_pos rfl] at H; exact H
      clear H
      have H := H1
      clear H1
      obtain rfl := Option.some.inj H
      go_enter Tryd.func4, Tryd.ntmps4
      go_wp2_with (first | ((with_reducible refine gate_callee (f := 10) rfl ?_); refine goesL_ (some 14) rfl rfl Tryd.func10 (by kernel_rfl) rfl #[.slice A0 l0.length c0, .int .i64 1048576] rfl au_ ?_; (with_reducible refine (laws_szNodeS.calls k _ _ l0 1048576 t353 _ ?side1 ?side2 A4.out).mono ?_); (case side1 => exact cs_ HR0.out); (case side2 => exact HC0.out); rintro e w36 ⟨rfl, hb⟩; refine ⟨_, rfl, ?_⟩; have n0_ := Aside0.mk (below_step bel_ hb); clear HB; have HB := n0_; clear n0_; (try clear hb);(try clear hb2);(try clear hk);(try clear hi)) | ((with_reducible refine gate_callee (f := 11) rfl ?_); refine goesL_ (some 19) rfl rfl Tryd.func11 (by kernel_rfl) rfl #[.slice A2 l2.length c2, .int .i64 t353] rfl au_ ?_; (with_reducible refine (laws_szPartS.calls k _ _ l2 t353 t354 _ ?side1 ?side2 A7.out).mono ?_); (case side1 => exact cs_ (Kd.C_below HR2.out HB.out)); (case side2 => exact HC2.out); rintro e w37 ⟨rfl, hb⟩; refine ⟨_, rfl, ?_⟩; have n0_ := Aside0.mk (below_step bel_ hb); clear HB; have HB := n0_; clear n0_; (try clear hb);(try clear hb2);(try clear hk);(try clear hi)) | ((with_reducible refine gate_callee (f := 13) rfl ?_); refine goesL_ (some 23) rfl rfl Tryd.func13 (by kernel_rfl) rfl #[.slice A0 l0.length c0] rfl au_ ?_; (with_reducible refine (laws_toNodeS.calls k _ _ l0 t355 _ ?side1 ?side2 A11.out).mono ?_); (case side1 => exact cs_ (Kd.C_below HR0.out HB.out)); (case side2 => exact HC0.out); rintro e w38 ⟨v356, rfl, ho0, hb⟩; refine ⟨_, rfl, ?_⟩; have n0_ := Aside0.mk (Kd.S_lower ho0 (below_size bel_)); have n1_ := Aside0.mk (below_step bel_ hb); clear HB; have HO357 := n0_; have HB := n1_; clear n0_ n1_; (try clear hb);(try clear hb2);(try clear hk);(try clear hi);(try clear ho0)) | ((with_reducible refine gate_callee (f := 14) rfl ?_); refine goesL_ (some 26) rfl rfl Tryd.func14 (by kernel_rfl) rfl #[.slice A2 l2.length c2] rfl au_ ?_; (with_reducible refine (laws_toPartS.calls k _ _ l2 t358 _ ?side1 ?side2 A12.out).mono ?_); (case side1 => exact cs_ (Kd.C_below HR2.out HB.out)); (case side2 => exact HC2.out); rintro e w39 ⟨v359, rfl, ho0, hb⟩; refine ⟨_, rfl, ?_⟩; have n0_ := Aside0.mk (Kd.S_below (kdS_ HO357.out) hb); have n1_ := Aside0.mk (Kd.S_lower ho0 (below_size bel_)); have n2_ := Aside0.mk (below_step bel_ hb); clear HO357; clear HB; have HO357 := n0_; have HO360 := n1_; have HB := n2_; clear n0_ n1_ n2_; (try clear hb);(try clear hb2);(try clear hk);(try clear hi);(try clear ho0); obtain ⟨Ao40, co40, eo40⟩ := Kd.S_slice HO357.out; subst eo40; obtain ⟨Ao41, co41, eo41⟩ := Kd.S_slice HO360.out; subst eo41) | ((with_reducible refine gate_callee (f := 12) rfl ?_); refine goesL_ (some 27) rfl rfl Tryd.func12 (by kernel_rfl) rfl #[.slice Ao40 t355.length co40, .int .i64 a1, .slice Ao41 t358.length co41] rfl au_ ?_; (with_reducible refine (spec_Matches.calls k _ _ t355 a1 _ _ t358 t361 _ ?side1 ?side2 ?side3 ?side4 A13.out).mono ?_); (case side1 => exact cs_ (Kd.S_reads' HO357.out).2.2); (case side2 => exact (Kd.S_reads' HO357.out).2.1); (case side3 => exact cs_ (Kd.S_reads' HO360.out).2.2); (case side4 => exact (Kd.S_reads' HO360.out).2.1); rintro e w42 ⟨rfl, hb⟩; refine ⟨_, rfl, ?_⟩; have n0_ := Aside0.mk (Kd.S_below (kdS_ HO357.out) hb); have n1_ := Aside0.mk (Kd.S_below (kdS_ HO360.out) hb); have n2_ := Aside0.mk (below_step bel_ hb); clear HO357; clear HO360; clear HB; have HO357 := n0_; have HO360 := n1_; have HB := n2_; clear n0_ n1_ n2_; (try clear hb);(try clear hb2);(try clear hk);(try clear hi)) | ((with_reducible refine gate_callee (f := 13) rfl ?_); refine goesL_ (some 29) rfl rfl Tryd.func13 (by kernel_rfl) rfl #[.slice A0 l0.length c0] rfl au_ ?_; (with_reducible refine (laws_toNodeS.calls k _ _ l0 t362 _ ?side1 ?side2 A14.out).mono ?_); (case side1 => exact cs_ (Kd.C_below HR0.out HB.out)); (case side2 => exact HC0.out); rintro e w43 ⟨v363, rfl, ho0, hb⟩; refine ⟨_, rfl, ?_⟩; have n0_ := Aside0.mk (Kd.S_elder' (kdS_ HO357.out) (Kd.S_base ho0) hb); have n1_ := Aside0.mk (Kd.S_below (kdS_ HO360.out) hb); have n2_ := Aside0.mk (Kd.S_lower (Kd.S_new' ho0 (Kd.S_lt (kdS_ HO357.out))) (below_size bel_)); have n3_ := Aside0.mk (below_step bel_ hb); clear HO357; clear HO360; clear HB; have HO357 := n0_; have HO360 := n1_; have HO364 := n2_; have HB := n3_; clear n0_ n1_ n2_ n3_; (try clear hb);(try clear hb2);(try clear hk);(try clear hi);(try clear ho0)) | ((with_reducible refine gate_callee (f := 14) rfl ?_); refine goesL_ (some 31) rfl rfl Tryd.func14 (by kernel_rfl) rfl #[.slice A2 l2.length c2] rfl au_ ?_; (with_reducible refine (laws_toPartS.calls k _ _ l2 t365 _ ?side1 ?side2 A15.out).mono ?_); (case side1 => exact cs_ (Kd.C_below HR2.out HB.out)); (case side2 => exact HC2.out); rintro e w44 ⟨v366, rfl, ho0, hb⟩; refine ⟨_, rfl, ?_⟩; have n0_ := Aside0.mk (Kd.S_below (kdS_ HO357.out) hb); have n1_ := Aside0.mk (Kd.S_elder' (kdS_ HO360.out) (Kd.S_base ho0) hb); have n2_ := Aside0.mk (Kd.S_below (kdS_ HO364.out) hb); have n3_ := Aside0.mk (Kd.S_lower (Kd.S_new' ho0 (Kd.S_lt (kdS_ HO360.out))) (below_size bel_)); have n4_ := Aside0.mk (below_step bel_ hb); clear HO357; clear HO360; clear HO364; clear HB; have HO357 := n0_; have HO360 := n1_; have HO364 := n2_; have HO367 := n3_; have HB := n4_; clear n0_ n1_ n2_ n3_ n4_; (try clear hb);(try clear hb2);(try clear hk);(try clear hi);(try clear ho0); obtain ⟨Ao45, co45, eo45⟩ := Kd.S_slice HO364.out; subst eo45; obtain ⟨Ao46, co46, eo46⟩ := Kd.S_slice HO367.out; subst eo46) | ((with_reducible refine gate_callee (f := 15) rfl ?_); refine goesL_ (some 35) rfl rfl Tryd.func15 (by kernel_rfl) rfl #[.slice Ao45 t362.length co45, .int .i64 a1, .slice Ao46 t365.length co46] rfl au_ ?_; (with_reducible refine (impl_Matches.calls k _ _ t362 a1 _ _ t365 t368 _ ?side1 ?side2 ?side3 ?side4 A16.out ?hT_).mono ?_); (case hT_ => exact utf8_keep_ hT_ bel_); (case side1 => exact cs_ (Kd.S_reads' HO364.out).2.2); (case side2 => exact (Kd.S_reads' HO364.out).2.1); (case side3 => exact cs_ (Kd.S_reads' HO367.out).2.2); (case side4 => exact (Kd.S_reads' HO367.out).2.1); rintro e w47 ⟨rfl, hb⟩; refine ⟨_, rfl, ?_⟩; have n0_ := Aside0.mk (Kd.S_below (kdS_ HO357.out) hb); have n1_ := Aside0.mk (Kd.S_below (kdS_ HO360.out) hb); have n2_ := Aside0.mk (Kd.S_below (kdS_ HO364.out) hb); have n3_ := Aside0.mk (Kd.S_below (kdS_ HO367.out) hb); have n4_ := Aside0.mk (below_step bel_ hb); clear HO357; clear HO360; clear HO364; clear HO367; clear HB; have HO357 := n0_; have HO360 := n1_; have HO364 := n2_; have HO367 := n3_; have HB := n4_; clear n0_ n1_ n2_ n3_ n4_; (try clear hb);(try clear hb2);(try clear hk);(try clear hi)) | ((with_reducible refine gate_callee (f := 13) rfl ?_); refine goesL_ (some 41) rfl rfl Tryd.func13 (by kernel_rfl) rfl #[.slice A0 l0.length c0] rfl au_ ?_; (with_reducible refine (laws_toNodeS.calls k _ _ l0 t369 _ ?side1 ?side2 A30.out).mono ?_); (case side1 => exact cs_ (Kd.C_below HR0.out HB.out)); (case side2 => exact HC0.out); rintro e w48 ⟨v370, rfl, ho0, hb⟩; refine ⟨_, rfl, ?_⟩; have n0_ := Aside0.mk (Kd.S_elder' (kdS_ HO357.out) (Kd.S_base ho0) hb); have n1_ := Aside0.mk (Kd.S_below (kdS_ HO360.out) hb); have n2_ := Aside0.mk (Kd.S_elder' (kdS_ HO364.out) (Kd.S_base ho0) hb); have n3_ := Aside0.mk (Kd.S_below (kdS_ HO367.out) hb); have n4_ := Aside0.mk (Kd.S_lower (Kd.S_new' (Kd.S_new' ho0 (Kd.S_lt (kdS_ HO357.out))) (Kd.S_lt (kdS_ HO364.out))) (below_size bel_)); have n5_ := Aside0.mk (below_step bel_ hb); clear HO357; clear HO360; clear HO364; clear HO367; clear HB; have HO357 := n0_; have HO360 := n1_; have HO364 := n2_; have HO367 := n3_; have HO371 := n4_; have HB := n5_; clear n0_ n1_ n2_ n3_ n4_ n5_; (try clear hb);(try clear hb2);(try clear hk);(try clear hi);(try clear ho0); obtain ⟨Ao49, co49, eo49⟩ := Kd.S_slice HO371.out; subst eo49) | ((with_reducible refine gate_callee (f := 16) rfl ?_); refine goesL_ (some 42) rfl rfl Tryd.func16 (by kernel_rfl) rfl #[.slice Ao45 t362.length co45, .slice Ao49 t369.length co49] rfl au_ ?_; (with_reducible refine (laws_eqNodeS.calls k _ _ t362 _ _ t369 true _ ?side1 ?side2 ?side3 ?side4 A31.out).mono ?_); (case side1 => exact cs_ (Kd.S_reads' HO364.out).2.2); (case side2 => exact (Kd.S_reads' HO364.out).2.1); (case side3 => exact cs_ (Kd.S_reads' HO371.out).2.2); (case side4 => exact (Kd.S_reads' HO371.out).2.1); rintro e w50 ⟨rfl, hb⟩; refine ⟨_, rfl, ?_⟩; have n0_ := Aside0.mk (Kd.S_below (kdS_ HO357.out) hb); have n1_ := Aside0.mk (Kd.S_below (kdS_ HO360.out) hb); have n2_ := Aside0.mk (Kd.S_below (kdS_ HO364.out) hb); have n3_ := Aside0.mk (Kd.S_below (kdS_ HO367.out) hb); have n4_ := Aside0.mk (Kd.S_below (kdS_ HO371.out) hb); have n5_ := Aside0.mk (below_step bel_ hb); clear HO357; clear HO360; clear HO364; clear HO367; clear HO371; clear HB; have HO357 := n0_; have HO360 := n1_; have HO364 := n2_; have HO367 := n3_; have HO371 := n4_; have HB := n5_; clear n0_ n1_ n2_ n3_ n4_ n5_; (try clear hb);(try clear hb2);(try clear hk);(try clear hi)) | ((with_reducible refine gate_callee (f := 14) rfl ?_); refine goesL_ (some 46) rfl rfl Tryd.func14 (by kernel_rfl) rfl #[.slice A2 l2.length c2] rfl au_ ?_; (with_reducible refine (laws_toPartS.calls k _ _ l2 t373 _ ?side1 ?side2 A33.out).mono ?_); (case side1 => exact cs_ (Kd.C_below HR2.out HB.out)); (case side2 => exact HC2.out); rintro e w51 ⟨v374, rfl, ho0, hb⟩; refine ⟨_, rfl, ?_⟩; have n0_ := Aside0.mk (Kd.S_below (kdS_ HO357.out) hb); have n1_ := Aside0.mk (Kd.S_elder' (kdS_ HO360.out) (Kd.S_base ho0) hb); have n2_ := Aside0.mk (Kd.S_below (kdS_ HO364.out) hb); have n3_ := Aside0.mk (Kd.S_elder' (kdS_ HO367.out) (Kd.S_base ho0) hb); have n4_ := Aside0.mk (Kd.S_below (kdS_ HO371.out) hb); have n5_ := Aside0.mk (Kd.S_lower (Kd.S_new' (Kd.S_new' ho0 (Kd.S_lt (kdS_ HO360.out))) (Kd.S_lt (kdS_ HO367.out))) (below_size bel_)); have n6_ := Aside0.mk (below_step bel_ hb); clear HO357; clear HO360; clear HO364; clear HO367; clear HO371; clear HB; have HO357 := n0_; have HO360 := n1_; have HO364 := n2_; have HO367 := n3_; have HO371 := n4_; have HO375 := n5_; have HB := n6_; clear n0_ n1_ n2_ n3_ n4_ n5_ n6_; (try clear hb);(try clear hb2);(try clear hk);(try clear hi);(try clear ho0); obtain ⟨Ao52, co52, eo52⟩ := Kd.S_slice HO375.out; subst eo52) | ((with_reducible refine gate_callee (f := 17) rfl ?_); refine goesL_ (some 47) rfl rfl Tryd.func17 (by kernel_rfl) rfl #[.slice Ao46 t365.length co46, .slice Ao52 t373.length co52] rfl au_ ?_; (with_reducible refine (laws_eqPartS.calls k _ _ t365 _ _ t373 true _ ?side1 ?side2 ?side3 ?side4 A34.out).mono ?_); (case side1 => exact cs_ (Kd.S_reads' HO367.out).2.2); (case side2 => exact (Kd.S_reads' HO367.out).2.1); (case side3 => exact cs_ (Kd.S_reads' HO375.out).2.2); (case side4 => exact (Kd.S_reads' HO375.out).2.1); rintro e w53 ⟨rfl, hb⟩; refine ⟨_, rfl, ?_⟩; have n0_ := Aside0.mk (Kd.S_below (kdS_ HO357.out) hb); have n1_ := Aside0.mk (Kd.S_below (kdS_ HO360.out) hb); have n2_ := Aside0.mk (Kd.S_below (kdS_ HO364.out) hb); have n3_ := Aside0.mk (Kd.S_below (kdS_ HO367.out) hb); have n4_ := Aside0.mk (Kd.S_below (kdS_ HO371.out) hb); have n5_ := Aside0.mk (Kd.S_below (kdS_ HO375.out) hb); have n6_ := Aside0.mk (below_step bel_ hb); clear HO357; clear HO360; clear HO364; clear HO367; clear HO371; clear HO375; clear HB; have HO357 := n0_; have HO360 := n1_; have HO364 := n2_; have HO367 := n3_; have HO371 := n4_; have HO375 := n5_; have HB := n6_; clear n0_ n1_ n2_ n3_ n4_ n5_ n6_; (try clear hb);(try clear hb2);(try clear hk);(try clear hi)))
      go_ret
      exact ⟨er_, bel_⟩
     ·replace c35 := Bool.eq_false_iff.mpr c35
      subst c35
      have H1 : (some false) = some r := by rw [if_neg (show ¬ (false = true) by decide)] at H; exact H
      clear H
      have H := H1
      clear H1
      obtain rfl := Option.some.inj H
      go_enter Tryd.func4, Tryd.ntmps4
      go_wp2_with (first | ((with_reducible refine gate_callee (f := 10) rfl ?_); refine goesL_ (some 14) rfl rfl Tryd.func10 (by kernel_rfl) rfl #[.slice A0 l0.length c0, .int .i64 1048576] rfl au_ ?_; (with_reducible refine (laws_szNodeS.calls k _ _ l0 1048576 t353 _ ?side1 ?side2 A4.out).mono ?_); (case side1 => exact cs_ HR0.out); (case side2 => exact HC0.out); rintro e w54 ⟨rfl, hb⟩; refine ⟨_, rfl, ?_⟩; have n0_ := Aside0.mk (below_step bel_ hb); clear HB; have HB := n0_; clear n0_; (try clear hb);(try clear hb2);(try clear hk);(try clear hi)) | ((with_reducible refine gate_callee (f := 11) rfl ?_); refine goesL_ (some 19) rfl rfl Tryd.func11 (by kernel_rfl) rfl #[.slice A2 l2.length c2, .int .i64 t353] rfl au_ ?_; (with_reducible refine (laws_szPartS.calls k _ _ l2 t353 t354 _ ?side1 ?side2 A7.out).mono ?_); (case side1 => exact cs_ (Kd.C_below HR2.out HB.out)); (case side2 => exact HC2.out); rintro e w55 ⟨rfl, hb⟩; refine ⟨_, rfl, ?_⟩; have n0_ := Aside0.mk (below_step bel_ hb); clear HB; have HB := n0_; clear n0_; (try clear hb);(try clear hb2);(try clear hk);(try clear hi)) | ((with_reducible refine gate_callee (f := 13) rfl ?_); refine goesL_ (some 23) rfl rfl Tryd.func13 (by kernel_rfl) rfl #[.slice A0 l0.length c0] rfl au_ ?_; (with_reducible refine (laws_toNodeS.calls k _ _ l0 t355 _ ?side1 ?side2 A11.out).mono ?_); (case side1 => exact cs_ (Kd.C_below HR0.out HB.out)); (case side2 => exact HC0.out); rintro e w56 ⟨v356, rfl, ho0, hb⟩; refine ⟨_, rfl, ?_⟩; have n0_ := Aside0.mk (Kd.S_lower ho0 (below_size bel_)); have n1_ := Aside0.mk (below_step bel_ hb); clear HB; have HO357 := n0_; have HB := n1_; clear n0_ n1_; (try clear hb);(try clear hb2);(try clear hk);(try clear hi);(try clear ho0)) | ((with_reducible refine gate_callee (f := 14) rfl ?_); refine goesL_ (some 26) rfl rfl Tryd.func14 (by kernel_rfl) rfl #[.slice A2 l2.length c2] rfl au_ ?_; (with_reducible refine (laws_toPartS.calls k _ _ l2 t358 _ ?side1 ?side2 A12.out).mono ?_); (case side1 => exact cs_ (Kd.C_below HR2.out HB.out)); (case side2 => exact HC2.out); rintro e w57 ⟨v359, rfl, ho0, hb⟩; refine ⟨_, rfl, ?_⟩; have n0_ := Aside0.mk (Kd.S_below (kdS_ HO357.out) hb); have n1_ := Aside0.mk (Kd.S_lower ho0 (below_size bel_)); have n2_ := Aside0.mk (below_step bel_ hb); clear HO357; clear HB; have HO357 := n0_; have HO360 := n1_; have HB := n2_; clear n0_ n1_ n2_; (try clear hb);(try clear hb2);(try clear hk);(try clear hi);(try clear ho0); obtain ⟨Ao58, co58, eo58⟩ := Kd.S_slice HO357.out; subst eo58; obtain ⟨Ao59, co59, eo59⟩ := Kd.S_slice HO360.out; subst eo59) | ((with_reducible refine gate_callee (f := 12) rfl ?_); refine goesL_ (some 27) rfl rfl Tryd.func12 (by kernel_rfl) rfl #[.slice Ao58 t355.length co58, .int .i64 a1, .slice Ao59 t358.length co59] rfl au_ ?_; (with_reducible refine (spec_Matches.calls k _ _ t355 a1 _ _ t358 t361 _ ?side1 ?side2 ?side3 ?side4 A13.out).mono ?_); (case side1 => exact cs_ (Kd.S_reads' HO357.out).2.2); (case side2 => exact (Kd.S_reads' HO357.out).2.1); (case side3 => exact cs_ (Kd.S_reads' HO360.out).2.2); (case side4 => exact (Kd.S_reads' HO360.out).2.1); rintro e w60 ⟨rfl, hb⟩; refine ⟨_, rfl, ?_⟩; have n0_ := Aside0.mk (Kd.S_below (kdS_ HO357.out) hb); have n1_ := Aside0.mk (Kd.S_below (kdS_ HO360.out) hb); have n2_ := Aside0.mk (below_step bel_ hb); clear HO357; clear HO360; clear HB; have HO357 := n0_; have HO360 := n1_; have HB := n2_; clear n0_ n1_ n2_; (try clear hb);(try clear hb2);(try clear hk);(try clear hi)) | ((with_reducible refine gate_callee (f := 13) rfl ?_); refine goesL_ (some 29) rfl rfl Tryd.func13 (by kernel_rfl) rfl #[.slice A0 l0.length c0] rfl au_ ?_; (with_reducible refine (laws_toNodeS.calls k _ _ l0 t362 _ ?side1 ?side2 A14.out).mono ?_); (case side1 => exact cs_ (Kd.C_below HR0.out HB.out)); (case side2 => exact HC0.out); rintro e w61 ⟨v363, rfl, ho0, hb⟩; refine ⟨_, rfl, ?_⟩; have n0_ := Aside0.mk (Kd.S_elder' (kdS_ HO357.out) (Kd.S_base ho0) hb); have n1_ := Aside0.mk (Kd.S_below (kdS_ HO360.out) hb); have n2_ := Aside0.mk (Kd.S_lower (Kd.S_new' ho0 (Kd.S_lt (kdS_ HO357.out))) (below_size bel_)); have n3_ := Aside0.mk (below_step bel_ hb); clear HO357; clear HO360; clear HB; have HO357 := n0_; have HO360 := n1_; have HO364 := n2_; have HB := n3_; clear n0_ n1_ n2_ n3_; (try clear hb);(try clear hb2);(try clear hk);(try clear hi);(try clear ho0)) | ((with_reducible refine gate_callee (f := 14) rfl ?_); refine goesL_ (some 31) rfl rfl Tryd.func14 (by kernel_rfl) rfl #[.slice A2 l2.length c2] rfl au_ ?_; (with_reducible refine (laws_toPartS.calls k _ _ l2 t365 _ ?side1 ?side2 A15.out).mono ?_); (case side1 => exact cs_ (Kd.C_below HR2.out HB.out)); (case side2 => exact HC2.out); rintro e w62 ⟨v366, rfl, ho0, hb⟩; refine ⟨_, rfl, ?_⟩; have n0_ := Aside0.mk (Kd.S_below (kdS_ HO357.out) hb); have n1_ := Aside0.mk (Kd.S_elder' (kdS_ HO360.out) (Kd.S_base ho0) hb); have n2_ := Aside0.mk (Kd.S_below (kdS_ HO364.out) hb); have n3_ := Aside0.mk (Kd.S_lower (Kd.S_new' ho0 (Kd.S_lt (kdS_ HO360.out))) (below_size bel_)); have n4_ := Aside0.mk (below_step bel_ hb); clear HO357; clear HO360; clear HO364; clear HB; have HO357 := n0_; have HO360 := n1_; have HO364 := n2_; have HO367 := n3_; have HB := n4_; clear n0_ n1_ n2_ n3_ n4_; (try clear hb);(try clear hb2);(try clear hk);(try clear hi);(try clear ho0); obtain ⟨Ao63, co63, eo63⟩ := Kd.S_slice HO364.out; subst eo63; obtain ⟨Ao64, co64, eo64⟩ := Kd.S_slice HO367.out; subst eo64) | ((with_reducible refine gate_callee (f := 15) rfl ?_); refine goesL_ (some 35) rfl rfl Tryd.func15 (by kernel_rfl) rfl #[.slice Ao63 t362.length co63, .int .i64 a1, .slice Ao64 t365.length co64] rfl au_ ?_; (with_reducible refine (impl_Matches.calls k _ _ t362 a1 _ _ t365 t368 _ ?side1 ?side2 ?side3 ?side4 A16.out ?hT_).mono ?_); (case hT_ => exact utf8_keep_ hT_ bel_); (case side1 => exact cs_ (Kd.S_reads' HO364.out).2.2); (case side2 => exact (Kd.S_reads' HO364.out).2.1); (case side3 => exact cs_ (Kd.S_reads' HO367.out).2.2); (case side4 => exact (Kd.S_reads' HO367.out).2.1); rintro e w65 ⟨rfl, hb⟩; refine ⟨_, rfl, ?_⟩; have n0_ := Aside0.mk (Kd.S_below (kdS_ HO357.out) hb); have n1_ := Aside0.mk (Kd.S_below (kdS_ HO360.out) hb); have n2_ := Aside0.mk (Kd.S_below (kdS_ HO364.out) hb); have n3_ := Aside0.mk (Kd.S_below (kdS_ HO367.out) hb); have n4_ := Aside0.mk (below_step bel_ hb); clear HO357; clear HO360; clear HO364; clear HO367; clear HB; have HO357 := n0_; have HO360 := n1_; have HO364 := n2_; have HO367 := n3_; have HB := n4_; clear n0_ n1_ n2_ n3_ n4_; (try clear hb);(try clear hb2);(try clear hk);(try clear hi)) | ((with_reducible refine gate_callee (f := 13) rfl ?_); refine goesL_ (some 41) rfl rfl Tryd.func13 (by kernel_rfl) rfl #[.slice A0 l0.length c0] rfl au_ ?_; (with_reducible refine (laws_toNodeS.calls k _ _ l0 t369 _ ?side1 ?side2 A30.out).mono ?_); (case side1 => exact cs_ (Kd.C_below HR0.out HB.out)); (case side2 => exact HC0.out); rintro e w66 ⟨v370, rfl, ho0, hb⟩; refine ⟨_, rfl, ?_⟩; have n0_ := Aside0.mk (Kd.S_elder' (kdS_ HO357.out) (Kd.S_base ho0) hb); have n1_ := Aside0.mk (Kd.S_below (kdS_ HO360.out) hb); have n2_ := Aside0.mk (Kd.S_elder' (kdS_ HO364.out) (Kd.S_base ho0) hb); have n3_ := Aside0.mk (Kd.S_below (kdS_ HO367.out) hb); have n4_ := Aside0.mk (Kd.S_lower (Kd.S_new' (Kd.S_new' ho0 (Kd.S_lt (kdS_ HO357.out))) (Kd.S_lt (kdS_ HO364.out))) (below_size bel_)); have n5_ := Aside0.mk (below_step bel_ hb); clear HO357; clear HO360; clear HO364; clear HO367; clear HB; have HO357 := n0_; have HO360 := n1_; have HO364 := n2_; have HO367 := n3_; have HO371 := n4_; have HB := n5_; clear n0_ n1_ n2_ n3_ n4_ n5_; (try clear hb);(try clear hb2);(try clear hk);(try clear hi);(try clear ho0); obtain ⟨Ao67, co67, eo67⟩ := Kd.S_slice HO371.out; subst eo67) | ((with_reducible refine gate_callee (f := 16) rfl ?_); refine goesL_ (some 42) rfl rfl Tryd.func16 (by kernel_rfl) rfl #[.slice Ao63 t362.length co63, .slice Ao67 t369.length co67] rfl au_ ?_; (with_reducible refine (laws_eqNodeS.calls k _ _ t362 _ _ t369 true _ ?side1 ?side2 ?side3 ?side4 A31.out).mono ?_); (case side1 => exact cs_ (Kd.S_reads' HO364.out).2.2); (case side2 => exact (Kd.S_reads' HO364.out).2.1); (case side3 => exact cs_ (Kd.S_reads' HO371.out).2.2); (case side4 => exact (Kd.S_reads' HO371.out).2.1); rintro e w68 ⟨rfl, hb⟩; refine ⟨_, rfl, ?_⟩; have n0_ := Aside0.mk (Kd.S_below (kdS_ HO357.out) hb); have n1_ := Aside0.mk (Kd.S_below (kdS_ HO360.out) hb); have n2_ := Aside0.mk (Kd.S_below (kdS_ HO364.out) hb); have n3_ := Aside0.mk (Kd.S_below (kdS_ HO367.out) hb); have n4_ := Aside0.mk (Kd.S_below (kdS_ HO371.out) hb); have n5_ := Aside0.mk (below_step bel_ hb); clear HO357; clear HO360; clear HO364; clear HO367; clear HO371; clear HB; have HO357 := n0_; have HO360 := n1_; have HO364 := n2_; have HO367 := n3_; have HO371 := n4_; have HB := n5_; clear n0_ n1_ n2_ n3_ n4_ n5_; (try clear hb);(try clear hb2);(try clear hk);(try clear hi)) | ((with_reducible refine gate_callee (f := 14) rfl ?_); refine goesL_ (some 46) rfl rfl Tryd.func14 (by kernel_rfl) rfl #[.slice A2 l2.length c2] rfl au_ ?_; (with_reducible refine (laws_toPartS.calls k _ _ l2 t373 _ ?side1 ?side2 A33.out).mono ?_); (case side1 => exact cs_ (Kd.C_below HR2.out HB.out)); (case side2 => exact HC2.out); rintro e w69 ⟨v374, rfl, ho0, hb⟩; refine ⟨_, rfl, ?_⟩; have n0_ := Aside0.mk (Kd.S_below (kdS_ HO357.out) hb); have n1_ := Aside0.mk (Kd.S_elder' (kdS_ HO360.out) (Kd.S_base ho0) hb); have n2_ := Aside0.mk (Kd.S_below (kdS_ HO364.out) hb); have n3_ := Aside0.mk (Kd.S_elder' (kdS_ HO367.out) (Kd.S_base ho0) hb); have n4_ := Aside0.mk (Kd.S_below (kdS_ HO371.out) hb); have n5_ := Aside0.mk (Kd.S_lower (Kd.S_new' (Kd.S_new' ho0 (Kd.S_lt (kdS_ HO360.out))) (Kd.S_lt (kdS_ HO367.out))) (below_size bel_)); have n6_ := Aside0.mk (below_step bel_ hb); clear HO357; clear HO360; clear HO364; clear HO367; clear HO371; clear HB; have HO357 := n0_; have HO360 := n1_; have HO364 := n2_; have HO367 := n3_; have HO371 := n4_; have HO375 := n5_; have HB := n6_; clear n0_ n1_ n2_ n3_ n4_ n5_ n6_; (try clear hb);(try clear hb2);(try clear hk);(try clear hi);(try clear ho0); obtain ⟨Ao70, co70, eo70⟩ := Kd.S_slice HO375.out; subst eo70) | ((with_reducible refine gate_callee (f := 17) rfl ?_); refine goesL_ (some 47) rfl rfl Tryd.func17 (by kernel_rfl) rfl #[.slice Ao64 t365.length co64, .slice Ao70 t373.length co70] rfl au_ ?_; (with_reducible refine (laws_eqPartS.calls k _ _ t365 _ _ t373 false _ ?side1 ?side2 ?side3 ?side4 A34.out).mono ?_); (case side1 => exact cs_ (Kd.S_reads' HO367.out).2.2); (case side2 => exact (Kd.S_reads' HO367.out).2.1); (case side3 => exact cs_ (Kd.S_reads' HO375.out).2.2); (case side4 => exact (Kd.S_reads' HO375.out).2.1); rintro e w71 ⟨rfl, hb⟩; refine ⟨_, rfl, ?_⟩; have n0_ := Aside0.mk (Kd.S_below (kdS_ HO357.out) hb); have n1_ := Aside0.mk (Kd.S_below (kdS_ HO360.out) hb); have n2_ := Aside0.mk (Kd.S_below (kdS_ HO364.out) hb); have n3_ := Aside0.mk (Kd.S_below (kdS_ HO367.out) hb); have n4_ := Aside0.mk (Kd.S_below (kdS_ HO371.out) hb); have n5_ := Aside0.mk (Kd.S_below (kdS_ HO375.out) hb); have n6_ := Aside0.mk (below_step bel_ hb); clear HO357; clear HO360; clear HO364; clear HO367; clear HO371; clear HO375; clear HB; have HO357 := n0_; have HO360 := n1_; have HO364 := n2_; have HO367 := n3_; have HO371 := n4_; have HO375 := n5_; have HB := n6_; clear n0_ n1_ n2_ n3_ n4_ n5_ n6_; (try clear hb);(try clear hb2);(try clear hk);(try clear hi)))
      go_ret
      exact ⟨er_, bel_⟩
    ·replace c32 := Bool.eq_false_iff.mpr c32
     subst c32
     have H1 : (some false) = some r := by rw [if_neg (show ¬ (false = true) by decide)] at H; exact H
     clear H
     have H := H1
     clear H1
     obtain rfl := Option.some.inj H
     go_enter Tryd.func4, Tryd.ntmps4
     go_wp2_with (first | ((with_reducible refine gate_callee (f := 10) rfl ?_); refine goesL_ (some 14) rfl rfl Tryd.func10 (by kernel_rfl) rfl #[.slice A0 l0.length c0, .int .i64 1048576] rfl au_ ?_; (with_reducible refine (laws_szNodeS.calls k _ _ l0 1048576 t353 _ ?side1 ?side2 A4.out).mono ?_); (case side1 => exact cs_ HR0.out); (case side2 => exact HC0.out); rintro e w72 ⟨rfl, hb⟩; refine ⟨_, rfl, ?_⟩; have n0_ := Aside0.mk (below_step bel_ hb); clear HB; have HB := n0_; clear n0_; (try clear hb);(try clear hb2);(try clear hk);(try clear hi)) | ((with_reducible refine gate_callee (f := 11) rfl ?_); refine goesL_ (some 19) rfl rfl Tryd.func11 (by kernel_rfl) rfl #[.slice A2 l2.length c2, .int .i64 t353] rfl au_ ?_; (with_reducible refine (laws_szPartS.calls k _ _ l2 t353 t354 _ ?side1 ?side2 A7.out).mono ?_); (case side1 => exact cs_ (Kd.C_below HR2.out HB.out)); (case side2 => exact HC2.out); rintro e w73 ⟨rfl, hb⟩; refine ⟨_, rfl, ?_⟩; have n0_ := Aside0.mk (below_step bel_ hb); clear HB; have HB := n0_; clear n0_; (try clear hb);(try clear hb2);(try clear hk);(try clear hi)) | ((with_reducible refine gate_callee (f := 13) rfl ?_); refine goesL_ (some 23) rfl rfl Tryd.func13 (by kernel_rfl) rfl #[.slice A0 l0.length c0] rfl au_ ?_; (with_reducible refine (laws_toNodeS.calls k _ _ l0 t355 _ ?side1 ?side2 A11.out).mono ?_); (case side1 => exact cs_ (Kd.C_below HR0.out HB.out)); (case side2 => exact HC0.out); rintro e w74 ⟨v356, rfl, ho0, hb⟩; refine ⟨_, rfl, ?_⟩; have n0_ := Aside0.mk (Kd.S_lower ho0 (below_size bel_)); have n1_ := Aside0.mk (below_step bel_ hb); clear HB; have HO357 := n0_; have HB := n1_; clear n0_ n1_; (try clear hb);(try clear hb2);(try clear hk);(try clear hi);(try clear ho0)) | ((with_reducible refine gate_callee (f := 14) rfl ?_); refine goesL_ (some 26) rfl rfl Tryd.func14 (by kernel_rfl) rfl #[.slice A2 l2.length c2] rfl au_ ?_; (with_reducible refine (laws_toPartS.calls k _ _ l2 t358 _ ?side1 ?side2 A12.out).mono ?_); (case side1 => exact cs_ (Kd.C_below HR2.out HB.out)); (case side2 => exact HC2.out); rintro e w75 ⟨v359, rfl, ho0, hb⟩; refine ⟨_, rfl, ?_⟩; have n0_ := Aside0.mk (Kd.S_below (kdS_ HO357.out) hb); have n1_ := Aside0.mk (Kd.S_lower ho0 (below_size bel_)); have n2_ := Aside0.mk (below_step bel_ hb); clear HO357; clear HB; have HO357 := n0_; have HO360 := n1_; have HB := n2_; clear n0_ n1_ n2_; (try clear hb);(try clear hb2);(try clear hk);(try clear hi);(try clear ho0); obtain ⟨Ao76, co76, eo76⟩ := Kd.S_slice HO357.out; subst eo76; obtain ⟨Ao77, co77, eo77⟩ := Kd.S_slice HO360.out; subst eo77) | ((with_reducible refine gate_callee (f := 12) rfl ?_); refine goesL_ (some 27) rfl rfl Tryd.func12 (by kernel_rfl) rfl #[.slice Ao76 t355.length co76, .int .i64 a1, .slice Ao77 t358.length co77] rfl au_ ?_; (with_reducible refine (spec_Matches.calls k _ _ t355 a1 _ _ t358 t361 _ ?side1 ?side2 ?side3 ?side4 A13.out).mono ?_); (case side1 => exact cs_ (Kd.S_reads' HO357.out).2.2); (case side2 => exact (Kd.S_reads' HO357.out).2.1); (case side3 => exact cs_ (Kd.S_reads' HO360.out).2.2); (case side4 => exact (Kd.S_reads' HO360.out).2.1); rintro e w78 ⟨rfl, hb⟩; refine ⟨_, rfl, ?_⟩; have n0_ := Aside0.mk (Kd.S_below (kdS_ HO357.out) hb); have n1_ := Aside0.mk (Kd.S_below (kdS_ HO360.out) hb); have n2_ := Aside0.mk (below_step bel_ hb); clear HO357; clear HO360; clear HB; have HO357 := n0_; have HO360 := n1_; have HB := n2_; clear n0_ n1_ n2_; (try clear hb);(try clear hb2);(try clear hk);(try clear hi)) | ((with_reducible refine gate_callee (f := 13) rfl ?_); refine goesL_ (some 29) rfl rfl Tryd.func13 (by kernel_rfl) rfl #[.slice A0 l0.length c0] rfl au_ ?_; (with_reducible refine (laws_toNodeS.calls k _ _ l0 t362 _ ?side1 ?side2 A14.out).mono ?_); (case side1 => exact cs_ (Kd.C_below HR0.out HB.out)); (case side2 => exact HC0.out); rintro e w79 ⟨v363, rfl, ho0, hb⟩; refine ⟨_, rfl, ?_⟩; have n0_ := Aside0.mk (Kd.S_elder' (kdS_ HO357.out) (Kd.S_base ho0) hb); have n1_ := Aside0.mk (Kd.S_below (kdS_ HO360.out) hb); have n2_ := Aside0.mk (Kd.S_lower (Kd.S_new' ho0 (Kd.S_lt (kdS_ HO357.out))) (below_size bel_)); have n3_ := Aside0.mk (below_step bel_ hb); clear HO357; clear HO360; clear HB; have HO357 := n0_; have HO360 := n1_; have HO364 := n2_; have HB := n3_; clear n0_ n1_ n2_ n3_; (try clear hb);(try clear hb2);(try clear hk);(try clear hi);(try clear ho0)) | ((with_reducible refine gate_callee (f := 14) rfl ?_); refine goesL_ (some 31) rfl rfl Tryd.func14 (by kernel_rfl) rfl #[.slice A2 l2.length c2] rfl au_ ?_; (with_reducible refine (laws_toPartS.calls k _ _ l2 t365 _ ?side1 ?side2 A15.out).mono ?_); (case side1 => exact cs_ (Kd.C_below HR2.out HB.out)); (case side2 => exact HC2.out); rintro e w80 ⟨v366, rfl, ho0, hb⟩; refine ⟨_, rfl, ?_⟩; have n0_ := Aside0.mk (Kd.S_below (kdS_ HO357.out) hb); have n1_ := Aside0.mk (Kd.S_elder' (kdS_ HO360.out) (Kd.S_base ho0) hb); have n2_ := Aside0.mk (Kd.S_below (kdS_ HO364.out) hb); have n3_ := Aside0.mk (Kd.S_lower (Kd.S_new' ho0 (Kd.S_lt (kdS_ HO360.out))) (below_size bel_)); have n4_ := Aside0.mk (below_step bel_ hb); clear HO357; clear HO360; clear HO364; clear HB; have HO357 := n0_; have HO360 := n1_; have HO364 := n2_; have HO367 := n3_; have HB := n4_; clear n0_ n1_ n2_ n3_ n4_; (try clear hb);(try clear hb2);(try clear hk);(try clear hi);(try clear ho0); obtain ⟨Ao81, co81, eo81⟩ := Kd.S_slice HO364.out; subst eo81; obtain ⟨Ao82, co82, eo82⟩ := Kd.S_slice HO367.out; subst eo82) | ((with_reducible refine gate_callee (f := 15) rfl ?_); refine goesL_ (some 35) rfl rfl Tryd.func15 (by kernel_rfl) rfl #[.slice Ao81 t362.length co81, .int .i64 a1, .slice Ao82 t365.length co82] rfl au_ ?_; (with_reducible refine (impl_Matches.calls k _ _ t362 a1 _ _ t365 t368 _ ?side1 ?side2 ?side3 ?side4 A16.out ?hT_).mono ?_); (case hT_ => exact utf8_keep_ hT_ bel_); (case side1 => exact cs_ (Kd.S_reads' HO364.out).2.2); (case side2 => exact (Kd.S_reads' HO364.out).2.1); (case side3 => exact cs_ (Kd.S_reads' HO367.out).2.2); (case side4 => exact (Kd.S_reads' HO367.out).2.1); rintro e w83 ⟨rfl, hb⟩; refine ⟨_, rfl, ?_⟩; have n0_ := Aside0.mk (Kd.S_below (kdS_ HO357.out) hb); have n1_ := Aside0.mk (Kd.S_below (kdS_ HO360.out) hb); have n2_ := Aside0.mk (Kd.S_below (kdS_ HO364.out) hb); have n3_ := Aside0.mk (Kd.S_below (kdS_ HO367.out) hb); have n4_ := Aside0.mk (below_step bel_ hb); clear HO357; clear HO360; clear HO364; clear HO367; clear HB; have HO357 := n0_; have HO360 := n1_; have HO364 := n2_; have HO367 := n3_; have HB := n4_; clear n0_ n1_ n2_ n3_ n4_; (try clear hb);(try clear hb2);(try clear hk);(try clear hi)) | ((with_reducible refine gate_callee (f := 13) rfl ?_); refine goesL_ (some 41) rfl rfl Tryd.func13 (by kernel_rfl) rfl #[.slice A0 l0.length c0] rfl au_ ?_; (with_reducible refine (laws_toNodeS.calls k _ _ l0 t369 _ ?side1 ?side2 A30.out).mono ?_); (case side1 => exact cs_ (Kd.C_below HR0.out HB.out)); (case side2 => exact HC0.out); rintro e w84 ⟨v370, rfl, ho0, hb⟩; refine ⟨_, rfl, ?_⟩; have n0_ := Aside0.mk (Kd.S_elder' (kdS_ HO357.out) (Kd.S_base ho0) hb); have n1_ := Aside0.mk (Kd.S_below (kdS_ HO360.out) hb); have n2_ := Aside0.mk (Kd.S_elder' (kdS_ HO364.out) (Kd.S_base ho0) hb); have n3_ := Aside0.mk (Kd.S_below (kdS_ HO367.out) hb); have n4_ := Aside0.mk (Kd.S_lower (Kd.S_new' (Kd.S_new' ho0 (Kd.S_lt (kdS_ HO357.out))) (Kd.S_lt (kdS_ HO364.out))) (below_size bel_)); have n5_ := Aside0.mk (below_step bel_ hb); clear HO357; clear HO360; clear HO364; clear HO367; clear HB; have HO357 := n0_; have HO360 := n1_; have HO364 := n2_; have HO367 := n3_; have HO371 := n4_; have HB := n5_; clear n0_ n1_ n2_ n3_ n4_ n5_; (try clear hb);(try clear hb2);(try clear hk);(try clear hi);(try clear ho0); obtain ⟨Ao85, co85, eo85⟩ := Kd.S_slice HO371.out; subst eo85) | ((with_reducible refine gate_callee (f := 16) rfl ?_); refine goesL_ (some 42) rfl rfl Tryd.func16 (by kernel_rfl) rfl #[.slice Ao81 t362.length co81, .slice Ao85 t369.length co85] rfl au_ ?_; (with_reducible refine (laws_eqNodeS.calls k _ _ t362 _ _ t369 false _ ?side1 ?side2 ?side3 ?side4 A31.out).mono ?_); (case side1 => exact cs_ (Kd.S_reads' HO364.out).2.2); (case side2 => exact (Kd.S_reads' HO364.out).2.1); (case side3 => exact cs_ (Kd.S_reads' HO371.out).2.2); (case side4 => exact (Kd.S_reads' HO371.out).2.1); rintro e w86 ⟨rfl, hb⟩; refine ⟨_, rfl, ?_⟩; have n0_ := Aside0.mk (Kd.S_below (kdS_ HO357.out) hb); have n1_ := Aside0.mk (Kd.S_below (kdS_ HO360.out) hb); have n2_ := Aside0.mk (Kd.S_below (kdS_ HO364.out) hb); have n3_ := Aside0.mk (Kd.S_below (kdS_ HO367.out) hb); have n4_ := Aside0.mk (Kd.S_below (kdS_ HO371.out) hb); have n5_ := Aside0.mk (below_step bel_ hb); clear HO357; clear HO360; clear HO364; clear HO367; clear HO371; clear HB; have HO357 := n0_; have HO360 := n1_; have HO364 := n2_; have HO367 := n3_; have HO371 := n4_; have HB := n5_; clear n0_ n1_ n2_ n3_ n4_ n5_; (try clear hb);(try clear hb2);(try clear hk);(try clear hi)))
     go_ret
     exact ⟨er_, bel_⟩

end Go.Proofs.YtooilehdljeepaaDoor.PFnExactMatches
