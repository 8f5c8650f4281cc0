-- Laid by a program of this session out of the translation (its own run of the print). Lean checks it.
import Derived.Test.YtooilehdljeepaaDoorPFnExactMatchesx0
import Derived.Test.YtooilehdljeepaaDoorPFnExactMatchesx9
namespace Go.Proofs.YtooilehdljeepaaDoor.PFnExactMatches
open Go.RowKit Go.Proofs.YtooilehdljeepaaDoorW.PrintWords Go.Proofs.YtooilehdljeepaaDoorW.PrintLast Go.Proofs.YtooilehdljeepaaDoorW.PrintMore
attribute [local go_sem] max2_int min2_int max_two min_two max_three min_three max_four min_four   -- for this text's walks alone
set_option linter.unusedVariables false
set_option linter.unusedSimpArgs false

/-! ### spec_l6Matches: function 40 -/
mutual
def spec_l6Matches.l0 : Nat → List (S69) → Int → List (S71) → Int → Option (Bool)
 | 0, _, _, _, _ => none
 | k + 1, x0, x1, x2, x7 => if x1 ≥ 0 then (spec_l6Matches.j1 k x0 x1 x2 x7 (decide (x7 > 0))) else (spec_l6Matches.j1 k x0 x1 x2 x7 false)
def spec_l6Matches.j1 : Nat → List (S69) → Int → List (S71) → Int → Bool → Option (Bool)
 | 0, _, _, _, _, _ => none
 | k + 1, x0, x1, x2, x7, x31 => if x31 = true then (if 0 ≤ x1 then (if x1 < (x0.length : Int) then (if 0 ≤ (wrap64 (x7 - 1)) then (if (wrap64 (x7 - 1)) < (x2.length : Int) then ((spec_l6Fits.f k ((rd_T69 x0 x1).f0) ((rd_T69 x0 x1).f1) ((rd_T69 x0 x1).f2) ((rd_T69 x0 x1).f3) ((rd_T71 x2 (wrap64 (x7 - 1))).f0) ((rd_T71 x2 (wrap64 (x7 - 1))).f1) ((rd_T71 x2 (wrap64 (x7 - 1))).f2)).bind fun t193 => (if t193 = true then (spec_l6Matches.l0 k x0 ((rd_T69 x0 x1).f1) x2 (wrap64 (x7 - 1))) else (spec_l6Matches.l0 k x0 ((rd_T69 x0 x1).f1) x2 x7))) else (none)) else (none)) else (none)) else (none)) else (some (x7 == 0))
end
def spec_l6Matches.f (k : Nat) (l0 : List (S69)) (a1 : Int) (l2 : List (S71)) : Option (Bool) := if 0 ≤ a1 then (if a1 < (l0.length : Int) then (if 0 ≤ (wrap64 ((l2.length : Int) - 1)) then (if (wrap64 ((l2.length : Int) - 1)) < (l2.length : Int) then ((spec_l6Fits.f k ((rd_T69 l0 a1).f0) ((rd_T69 l0 a1).f1) ((rd_T69 l0 a1).f2) ((rd_T69 l0 a1).f3) ((rd_T71 l2 (wrap64 ((l2.length : Int) - 1))).f0) ((rd_T71 l2 (wrap64 ((l2.length : Int) - 1))).f1) ((rd_T71 l2 (wrap64 ((l2.length : Int) - 1))).f2)).bind fun t189 => (if t189 = true then (spec_l6Matches.l0 k l0 ((rd_T69 l0 a1).f1) l2 (wrap64 ((l2.length : Int) - 1))) else (some false))) else (none)) else (none)) else (none)) else (none)
def spec_l6Matches.T2 : Bool × List (List Nat × List Nat) := (true, [([], []), ([], []), ([0, 1], [0, 1]), ([2], [2]), ([], []), ([], []), ([4, 5], [4, 5]), ([6], [6]), ([3, 7], [3, 7]), ([8], [8])])
def spec_l6Matches.B2 : List Nat := [0, 0, 3, 7, 0, 0, 48, 112, 255, 511]
theorem spec_l6Matches.tab2 : rtab .any (opsOf Tryd.f40 2) = spec_l6Matches.T2 := by kernel_rfl
theorem spec_l6Matches.bits2 : waitsOk spec_l6Matches.T2.2 spec_l6Matches.B2 = true := by kernel_rfl
def spec_l6Matches.T7 : Bool × List (List Nat × List Nat) := (true, [([], []), ([], []), ([0, 1], [0, 1]), ([2], [2]), ([], []), ([], []), ([5], [5]), ([4, 6], [4, 6]), ([7], [7]), ([3, 8], [3, 8])])
def spec_l6Matches.B7 : List Nat := [0, 0, 3, 7, 0, 0, 32, 112, 240, 511]
theorem spec_l6Matches.tab7 : rtab .any (opsOf Tryd.f40 7) = spec_l6Matches.T7 := by kernel_rfl
theorem spec_l6Matches.bits7 : waitsOk spec_l6Matches.T7.2 spec_l6Matches.B7 = true := by kernel_rfl
set_option maxHeartbeats 8000000 in
set_option maxRecDepth 100000 in
theorem spec_l6Matches.calls (k : Nat) (A0 : Option Addr) (c0 : Nat) (l0 : List (S69)) (a1 : Int) (A2 : Option Addr) (c2 : Nat) (l2 : List (S71)) (r : Bool) (w : World) (hr0 : Kd.C k69 w A0 l0.length l0) (hc0 : l0.length ≤ c0) (hr2 : Kd.C k71 w A2 l2.length l2) (hc2 : l2.length ≤ c2) (h : spec_l6Matches.f k l0 a1 l2 = some r) :
  Calls Tryd.prog 40 #[.slice A0 l0.length c0, .int .i64 a1, .slice A2 l2.length c2] w fun e w' => e = .returned (.bool r) ∧ Below w.heap.size w w' := by
 have hu69 := Tryd.underlying69
 have hu71 := Tryd.underlying71
 have HR0 := Aside0.mk hr0
 have HC0 := Aside0.mk hc0
 clear hr0 hc0
 have HR2 := Aside0.mk hr2
 have HC2 := Aside0.mk hc2
 clear hr2 hc2
 have HB := Aside0.mk (Below.refl w.heap.size w)
 have H : (if 0 ≤ a1 then (if a1 < (l0.length : Int) then (if 0 ≤ (wrap64 ((l2.length : Int) - 1)) then (if (wrap64 ((l2.length : Int) - 1)) < (l2.length : Int) then ((spec_l6Fits.f k ((rd_T69 l0 a1).f0) ((rd_T69 l0 a1).f1) ((rd_T69 l0 a1).f2) ((rd_T69 l0 a1).f3) ((rd_T71 l2 (wrap64 ((l2.length : Int) - 1))).f0) ((rd_T71 l2 (wrap64 ((l2.length : Int) - 1))).f1) ((rd_T71 l2 (wrap64 ((l2.length : Int) - 1))).f2)).bind fun t189 => (if t189 = true then (spec_l6Matches.l0 k l0 ((rd_T69 l0 a1).f1) l2 (wrap64 ((l2.length : Int) - 1))) else (some false))) else (none)) else (none)) else (none)) else (none)) = some r := h
 clear h
 by_cases c4 : 0 ≤ a1
 ·rw [if_pos c4] at H
  have c4b0 : decide (0 ≤ a1) = true := decide_eq_true c4
  clear c4
  by_cases c5 : a1 < (l0.length : Int)
  ·rw [if_pos c5] at H
   have c5b0 : decide (a1 < (l0.length : Int)) = true := decide_eq_true c5
   clear c5
   obtain ⟨ji6, hji6⟩ : ∃ j_ : Int, (wrap64 ((l2.length : Int) - 1)) = j_ := ⟨_, rfl⟩
   replace H : (if 0 ≤ (ji6) then (if (ji6) < (l2.length : Int) then ((spec_l6Fits.f k ((rd_T69 l0 a1).f0) ((rd_T69 l0 a1).f1) ((rd_T69 l0 a1).f2) ((rd_T69 l0 a1).f3) ((rd_T71 l2 (ji6)).f0) ((rd_T71 l2 (ji6)).f1) ((rd_T71 l2 (ji6)).f2)).bind fun t189 => (if t189 = true then (spec_l6Matches.l0 k l0 ((rd_T69 l0 a1).f1) l2 ji6) else (some false))) else (none)) else (none)) = some r := by first | (rw [hji6] at H; exact H) | (simp only [hji6] at H ⊢; exact H)
   have hji6w : (IntKind.i64.wrap ((l2.length : Int) - 1)) = ji6 := (i64_w _).trans hji6
   by_cases c7 : 0 ≤ (ji6)
   ·rw [if_pos c7] at H
    have c7b0 : decide (0 ≤ (ji6)) = true := decide_eq_true c7
    clear c7
    by_cases c8 : (ji6) < (l2.length : Int)
    ·rw [if_pos c8] at H
     have c8b0 : decide ((ji6) < (l2.length : Int)) = true := decide_eq_true c8
     clear c8
     replace H := Option.bind_eq_some_iff.mp H
     obtain ⟨t189, A90, H⟩ := H
     replace H : (if t189 = true then (spec_l6Matches.l0 k l0 ((rd_T69 l0 a1).f1) l2 ji6) else (some false)) = some r := H
     have A9 := Aside0.mk A90
     clear A90
     by_cases c10 : t189 = true
     ·subst c10
      have H1 : (spec_l6Matches.l0 k l0 ((rd_T69 l0 a1).f1) l2 ji6) = some r := by rw [if_pos rfl] at H; exact H
      clear H
      have H := H1
      clear H1
      have H' := Aside0.mk H
      clear H
      go_enter Tryd.func40, Tryd.ntmps40
      try go_wp2
      have n0_ := Aside0.mk (below_drew1 HB.out)
      clear HB
      have HB := n0_
      clear n0_
      have p187 : 0 ≤ (a1 : Int) := of_decide_eq_true am_
      have q187 : a1 < (l0.length : Int) := of_decide_eq_true am_
      obtain ⟨ad187, A187_2, c187_2, e187, hx187_0, hx187_1, hx187_2, hx187_3, hl187_2, hi187_2⟩ := at_T69 HR0.out a1 p187 q187
      have hw187_3 := hx187_3
      have hw187_2 := hx187_2
      have hw187_1 := hx187_1
      have hw187_0 := hx187_0
      cases e187
      replace hx187_0 := pw_cell_below HB.out hx187_0
      replace hx187_1 := pw_cell_below HB.out hx187_1
      replace hx187_2 := pw_cell_below HB.out hx187_2
      replace hx187_3 := pw_cell_below HB.out hx187_3
      have HR187_2 := Aside0.mk hi187_2
      have HC187_2 := Aside0.mk hl187_2
      clear hi187_2 hl187_2
      replace p187 := eq_true p187
      replace q187 := eq_true q187
      have p188 : 0 ≤ ((ji6) : Int) := of_decide_eq_true am_
      have q188 : (ji6) < (l2.length : Int) := of_decide_eq_true am_
      obtain ⟨ad188, A188_2, c188_2, e188, hx188_0, hx188_1, hx188_2, hl188_2, hi188_2⟩ := at_T71 HR2.out (ji6) p188 q188
      have hw188_2 := hx188_2
      have hw188_1 := hx188_1
      have hw188_0 := hx188_0
      cases e188
      replace hx188_0 := pw_cell_below HB.out hx188_0
      replace hx188_1 := pw_cell_below HB.out hx188_1
      replace hx188_2 := pw_cell_below HB.out hx188_2
      have HR188_2 := Aside0.mk hi188_2
      have HC188_2 := Aside0.mk hl188_2
      clear hi188_2 hl188_2
      replace p188 := eq_true p188
      replace q188 := eq_true q188
      refine start_ (n := 10) (S := fun w' => w'.cell? (ad187.add ((a1).toNat * 4)) = some (.string ((rd_T69 l0 a1).f0)) ∧ w'.cell? ⟨(ad187.add ((a1).toNat * 4)).block, (ad187.add ((a1).toNat * 4)).off + 1, none⟩ = some (.int .i64 ((rd_T69 l0 a1).f1)) ∧ w'.cell? ⟨(ad187.add ((a1).toNat * 4)).block, (ad187.add ((a1).toNat * 4)).off + 2, none⟩ = some (.slice A187_2 ((rd_T69 l0 a1).f2).length c187_2) ∧ w'.cell? ⟨(ad187.add ((a1).toNat * 4)).block, (ad187.add ((a1).toNat * 4)).off + 3, none⟩ = some (.string ((rd_T69 l0 a1).f3)) ∧ w'.cell? (ad188.add (((ji6)).toNat * 3)) = some (.string ((rd_T71 l2 (ji6)).f0)) ∧ w'.cell? ⟨(ad188.add (((ji6)).toNat * 3)).block, (ad188.add (((ji6)).toNat * 3)).off + 1, none⟩ = some (.string ((rd_T71 l2 (ji6)).f1)) ∧ w'.cell? ⟨(ad188.add (((ji6)).toNat * 3)).block, (ad188.add (((ji6)).toNat * 3)).off + 2, none⟩ = some (.slice A188_2 ((rd_T71 l2 (ji6)).f2).length c188_2)) (ds := []) #[false, false, false, false, false, false, false, false, false, false] (by kernel_rfl) rfl rfl ⟨(pw_cell_below HB.out hw187_0), (pw_cell_below HB.out hw187_1), (pw_cell_below HB.out hw187_2), (pw_cell_below HB.out hw187_3), (pw_cell_below HB.out hw188_0), (pw_cell_below HB.out hw188_1), (pw_cell_below HB.out hw188_2)⟩ (fun hHeld => ?_); refine with_tabW spec_l6Matches.tab2 spec_l6Matches.bits2 (fun HT_ HW_ => ?_)
      generalize w.drew = w11 at HB HR187_2 HR188_2 hx187_0 hx187_1 hx187_2 hx187_3 hx188_0 hx188_1 hx188_2 hHeld ⊢
      refine pure_ (i := 0) (N := some 11) (v := ?_) (a' := ?_) #[true, false, false, false, false, false, false, false, false, false] rfl rfl (any_of HT_.out (by kernel_rfl)) (fun _ _ _ h => h) (Or.inl ⟨by rfl, ?_⟩) ?_ ?_
      rotate_left
      ·intro w'
       go_simp
       with_reducible rfl
      rotate_left
      ·simp only [Act.put, List.setIfInBounds_toArray, List.set_cons_zero, List.set_cons_succ, i64_w, i32_w]
       rfl
      refine pure_ (i := 1) (N := some 12) (v := ?_) (a' := ?_) #[true, true, false, false, false, false, false, false, false, false] rfl rfl (any_of HT_.out (by kernel_rfl)) (fun _ _ _ h => h) (Or.inl ⟨by rfl, ?_⟩) ?_ ?_
      rotate_left
      ·intro w'
       go_simp
       with_reducible rfl
      rotate_left
      ·simp only [Act.put, List.setIfInBounds_toArray, List.set_cons_zero, List.set_cons_succ, i64_w, i32_w]
       rfl
      refine pure_ (i := 2) (N := some 13) (v := ?_) (a' := ?_) #[true, true, true, false, false, false, false, false, false, false] rfl rfl (any_of HT_.out (by kernel_rfl)) (fun _ _ _ h => h) (Or.inl ⟨by rfl, ?_⟩) ?_ ?_
      rotate_left
      ·intro w'
       go_simp
       with_reducible rfl
      rotate_left
      ·simp only [Act.put, List.setIfInBounds_toArray, List.set_cons_zero, List.set_cons_succ, i64_w, i32_w]
       rfl
      refine pure_ (i := 4) (N := some 15) (v := ?_) (a' := ?_) #[true, true, true, false, true, false, false, false, false, false] rfl rfl (any_of HT_.out (by kernel_rfl)) (fun _ _ _ h => h) (Or.inl ⟨by rfl, ?_⟩) ?_ ?_
      rotate_left
      ·intro w'
       go_simp
       with_reducible rfl
      rotate_left
      ·simp only [Act.put, List.setIfInBounds_toArray, List.set_cons_zero, List.set_cons_succ, i64_w, i32_w]
       rfl
      refine pure_ (i := 5) (N := some 16) (v := ?_) (a' := ?_) #[true, true, true, false, true, true, false, false, false, false] rfl rfl (any_of HT_.out (by kernel_rfl)) (fun _ _ _ h => h) (Or.inl ⟨by rfl, ?_⟩) ?_ ?_
      rotate_left
      ·intro w'
       go_simp
       with_reducible rfl
      rotate_left
      ·simp only [Act.put, List.setIfInBounds_toArray, List.set_cons_zero, List.set_cons_succ, i64_w, i32_w]
       rfl
      refine pure_ (i := 6) (N := some 17) (v := ?_) (a' := ?_) #[true, true, true, false, true, true, true, false, false, false] rfl rfl (any_of HT_.out (by kernel_rfl)) (fun _ _ _ h => h) (Or.inl ⟨by rfl, ?_⟩) ?_ ?_
      rotate_left
      ·intro w'
       go_simp
       with_reducible rfl
      rotate_left
      ·simp only [Act.put, List.setIfInBounds_toArray, List.set_cons_zero, List.set_cons_succ, i64_w, i32_w]
       rfl
      refine take_ (i := 3) (N := some 14) (v := ?_) (a' := ?_) #[true, true, true, true, true, true, true, false, false, false] rfl rfl (take_ofW HT_.out HW_.out (by kernel_rfl)) (fun _ _ _ h => h) (Or.inl ⟨by rfl, ?_⟩) hHeld ?_ ?_
      rotate_left
      ·rintro w' ⟨s0, s1, s2, s3, s4, s5, s6⟩
       go_simp
       with_reducible rfl
      rotate_left
      ·simp only [Act.put, List.setIfInBounds_toArray, List.set_cons_zero, List.set_cons_succ, i64_w, i32_w]
       rfl
      refine take_ (i := 7) (N := some 18) (v := ?_) (a' := ?_) #[true, true, true, true, true, true, true, true, false, false] rfl rfl (take_ofW HT_.out HW_.out (by kernel_rfl)) (fun _ _ _ h => h) (Or.inl ⟨by rfl, ?_⟩) hHeld ?_ ?_
      rotate_left
      ·rintro w' ⟨s0, s1, s2, s3, s4, s5, s6⟩
       go_simp
       with_reducible rfl
      rotate_left
      ·simp only [Act.put, List.setIfInBounds_toArray, List.set_cons_zero, List.set_cons_succ, i64_w, i32_w]
       rfl
      refine one_ (i := 8) (N := some 19) #[true, true, true, true, true, true, true, true, true, false] rfl rfl (one_of HT_.out (by kernel_rfl)) (by decide) (fun K hK => ?_)
      refine goes_ Tryd.func80 (by kernel_rfl) rfl #[.agg #[.string ((rd_T69 l0 a1).f0), .int .i64 ((rd_T69 l0 a1).f1), .slice A187_2 ((rd_T69 l0 a1).f2).length c187_2, .string ((rd_T69 l0 a1).f3)], .agg #[.string ((rd_T71 l2 (ji6)).f0), .string ((rd_T71 l2 (ji6)).f1), .slice A188_2 ((rd_T71 l2 (ji6)).f2).length c188_2]] (by rfl) rfl rfl (by (try simp only [List.map_toArray, List.map_cons, List.map_nil]); first | done | (simp only [hji6]; rfl) | rfl | (simp only [List.length_drop, List.length_take]; rfl)) ?_
      with_reducible refine (spec_l6Fits.calls k ((rd_T69 l0 a1).f0) ((rd_T69 l0 a1).f1) _ _ ((rd_T69 l0 a1).f2) ((rd_T69 l0 a1).f3) ((rd_T71 l2 (ji6)).f0) ((rd_T71 l2 (ji6)).f1) _ _ ((rd_T71 l2 (ji6)).f2) true _ ?side1 ?side2 ?side3 ?side4 A9.out).mono ?_
      (case side1 => exact cs_ (Kd.C_below HR187_2.out HB.out))
      (case side2 => exact HC187_2.out)
      (case side3 => exact cs_ (Kd.C_below HR188_2.out HB.out))
      (case side4 => exact HC188_2.out)
      rintro e w12 ⟨rfl, hb⟩
      refine ⟨_, rfl, ?_⟩
      have n0_ := Aside0.mk (below_step bel_ hb)
      clear HB
      have HB := n0_
      clear n0_
      (try clear hb)
      (try clear hb2)
      (try clear hk)
      (try clear hi)
      refine hK.out _ _ ⟨(pw_cell_below HB.out hw187_0), (pw_cell_below HB.out hw187_1), (pw_cell_below HB.out hw187_2), (pw_cell_below HB.out hw187_3), (pw_cell_below HB.out hw188_0), (pw_cell_below HB.out hw188_1), (pw_cell_below HB.out hw188_2)⟩ (fun hHeld => ?_)
      clear hK K
      refine norm_ (a' := ?_) ?_ ?_
      rotate_left
      ·show Act.put _ (some 19) _ = _
       simp only [Act.put, List.setIfInBounds_toArray, List.set_cons_zero, List.set_cons_succ, i64_w, i32_w]
       rfl
      refine pure_ (i := 9) (N := some 20) (v := ?_) (a' := ?_) #[true, true, true, true, true, true, true, true, true, true] rfl rfl (any_of HT_.out (by kernel_rfl)) (fun _ _ _ h => h) (Or.inl ⟨by rfl, ?_⟩) ?_ ?_
      rotate_left
      ·intro w'
       go_simp
       with_reducible rfl
      rotate_left
      ·simp only [Act.put, List.setIfInBounds_toArray, List.set_cons_zero, List.set_cons_succ, i64_w, i32_w]
       rfl
      refine done_ (done_of HT_.out (by kernel_rfl)) ?_
      have p190 : 0 ≤ (a1 : Int) := of_decide_eq_true am_
      have q190 : a1 < (l0.length : Int) := of_decide_eq_true am_
      obtain ⟨ad190, A190_2, c190_2, e190, hx190_0, hx190_1, hx190_2, hx190_3, hl190_2, hi190_2⟩ := at_T69 HR0.out a1 p190 q190
      obtain rfl : ad187 = ad190 := (by injection e190)
      replace hx190_0 := pw_cell_below HB.out hx190_0
      replace hx190_1 := pw_cell_below HB.out hx190_1
      replace hx190_2 := pw_cell_below HB.out hx190_2
      replace hx190_3 := pw_cell_below HB.out hx190_3
      have HR190_2 := Aside0.mk hi190_2
      have HC190_2 := Aside0.mk hl190_2
      clear hi190_2 hl190_2
      replace p190 := eq_true p190
      replace q190 := eq_true q190
      try go_wp2
      go_loopg [1, 7] k (fun kq v1 v7 w' => ∃ (x1_1 : Int) (x7_1 : Int), v1 = .int .i64 x1_1 ∧ v7 = .int .i64 x7_1 ∧ Aside0 (spec_l6Matches.l0 kq l0 x1_1 l2 x7_1 = some r) ∧ Aside0 (kq ≤ k) ∧ Aside0 (Below w.heap.size w w'))
      case atStart => exact ⟨((rd_T69 l0 a1).f1), (ji6), sv_, (by first | rfl | (simp; done) | (simp only [← hji6] <;> (first | rfl | simp)) | (simp [*]; done)), H', ⟨Nat.le_refl _⟩, ⟨bel_⟩⟩
      case round =>
       clear H'
       (try clear c1);(try clear p1);(try clear q1);(try clear hx1);(try clear c2);(try clear p2);(try clear c4);(try clear c4b0);(try clear c5);(try clear c5b0);(try clear p6);(try clear c7);(try clear c7b0);(try clear c8);(try clear c8b0);(try clear c10);(try clear hx187_0);(try clear hx187_1);(try clear hx187_2);(try clear hx187_3);(try clear hx188_0);(try clear hx188_1);(try clear hx188_2);(try clear hx190_0);(try clear hx190_1);(try clear hx190_2);(try clear hx190_3);(try clear p187);(try clear p188);(try clear p190);(try clear q187);(try clear q188);(try clear q190)
       obtain ⟨x1_1, x7_1, rfl, rfl, HA, HK1, HB⟩ := hrel
       cases gk with
       | zero => exact absurd HA.out (by simp [spec_l6Matches.l0])
       | succ k1 =>
        have H := HA.out
        clear HA
        simp only [spec_l6Matches.l0] at H
        have HC13 := Aside0.mk H
        clear H
        go_upto_region 5 with (fail)
        go_cut [31] (fun v31 wc => ∃ (kq : Nat) (x31_12 : Bool), v31 = .bool x31_12 ∧ Aside0 (spec_l6Matches.j1 kq l0 x1_1 l2 x7_1 x31_12 = some r) ∧ Aside0 (kq ≤ k1) ∧ Aside0 (Below w.heap.size w wc))
        case first =>
         have H := HC13.out
         clear HC13
         by_cases c14 : x1_1 ≥ 0
         ·rw [if_pos c14] at H
          have c14b0 : decide (0 ≤ x1_1) = true := decide_eq_true c14
          clear c14
          (first | rw [c14b0] | (simp only [i64_w, i32_w]; rw [c14b0]) | skip)
          have H' := Aside0.mk H
          clear H
          go_wp2
          go_meet
          case rel => exact ⟨_, (decide (x7_1 > 0)), sv_, H', ⟨by have := HK1.out; first | omega | exact Nat.le_refl _⟩, ⟨bel_⟩⟩
         ·rw [if_neg c14] at H
          have c14b0 : decide (0 ≤ x1_1) = false := decide_eq_false c14
          clear c14
          (first | rw [c14b0] | (simp only [i64_w, i32_w]; rw [c14b0]) | skip)
          have H' := Aside0.mk H
          clear H
          go_wp2
          go_meet
          case rel => exact ⟨_, (false), sv_, H', ⟨by have := HK1.out; first | omega | exact Nat.le_refl _⟩, ⟨bel_⟩⟩
        case rest =>
         clear HC13
         (try clear c1);(try clear p1);(try clear q1);(try clear hx1);(try clear c2);(try clear p2);(try clear c4);(try clear c4b0);(try clear c5);(try clear c5b0);(try clear p6);(try clear c7);(try clear c7b0);(try clear c8);(try clear c8b0);(try clear c10);(try clear c14);(try clear c14b0);(try clear hx187_0);(try clear hx187_1);(try clear hx187_2);(try clear hx187_3);(try clear hx188_0);(try clear hx188_1);(try clear hx188_2);(try clear hx190_0);(try clear hx190_1);(try clear hx190_2);(try clear hx190_3);(try clear p1);(try clear p187);(try clear p188);(try clear p190);(try clear p2);(try clear p6);(try clear q1);(try clear q187);(try clear q188);(try clear q190)
         obtain ⟨kq, x31_12, rfl, HA, HJ12, HB⟩ := hcut
         cases kq with
         | zero => exact absurd HA.out (by simp [spec_l6Matches.j1])
         | succ kj12 =>
          have H := HA.out
          clear HA
          simp only [spec_l6Matches.j1] at H
          by_cases c15 : x31_12 = true
          ·subst c15
           have H1 : (if 0 ≤ x1_1 then (if x1_1 < (l0.length : Int) then (if 0 ≤ (wrap64 (x7_1 - 1)) then (if (wrap64 (x7_1 - 1)) < (l2.length : Int) then ((spec_l6Fits.f kj12 ((rd_T69 l0 x1_1).f0) ((rd_T69 l0 x1_1).f1) ((rd_T69 l0 x1_1).f2) ((rd_T69 l0 x1_1).f3) ((rd_T71 l2 (wrap64 (x7_1 - 1))).f0) ((rd_T71 l2 (wrap64 (x7_1 - 1))).f1) ((rd_T71 l2 (wrap64 (x7_1 - 1))).f2)).bind fun t193 => (if t193 = true then (spec_l6Matches.l0 kj12 l0 ((rd_T69 l0 x1_1).f1) l2 (wrap64 (x7_1 - 1))) else (spec_l6Matches.l0 kj12 l0 ((rd_T69 l0 x1_1).f1) l2 x7_1))) else (none)) else (none)) else (none)) else (none)) = some r := by rw [if_pos rfl] at H; exact H
           clear H
           have H := H1
           clear H1
           by_cases c16 : 0 ≤ x1_1
           ·rw [if_pos c16] at H
            have c16b0 : decide (0 ≤ x1_1) = true := decide_eq_true c16
            clear c16
            by_cases c17 : x1_1 < (l0.length : Int)
            ·rw [if_pos c17] at H
             have c17b0 : decide (x1_1 < (l0.length : Int)) = true := decide_eq_true c17
             clear c17
             obtain ⟨ji18, hji18⟩ : ∃ j_ : Int, (wrap64 (x7_1 - 1)) = j_ := ⟨_, rfl⟩
             replace H : (if 0 ≤ (ji18) then (if (ji18) < (l2.length : Int) then ((spec_l6Fits.f kj12 ((rd_T69 l0 x1_1).f0) ((rd_T69 l0 x1_1).f1) ((rd_T69 l0 x1_1).f2) ((rd_T69 l0 x1_1).f3) ((rd_T71 l2 (ji18)).f0) ((rd_T71 l2 (ji18)).f1) ((rd_T71 l2 (ji18)).f2)).bind fun t193 => (if t193 = true then (spec_l6Matches.l0 kj12 l0 ((rd_T69 l0 x1_1).f1) l2 ji18) else (spec_l6Matches.l0 kj12 l0 ((rd_T69 l0 x1_1).f1) l2 x7_1))) else (none)) else (none)) = some r := by first | (rw [hji18] at H; exact H) | (simp only [hji18] at H ⊢; exact H)
             have hji18w : (IntKind.i64.wrap (x7_1 - 1)) = ji18 := (i64_w _).trans hji18
             by_cases c19 : 0 ≤ (ji18)
             ·rw [if_pos c19] at H
              have c19b0 : decide (0 ≤ (ji18)) = true := decide_eq_true c19
              clear c19
              by_cases c20 : (ji18) < (l2.length : Int)
              ·rw [if_pos c20] at H
               have c20b0 : decide ((ji18) < (l2.length : Int)) = true := decide_eq_true c20
               clear c20
               replace H := Option.bind_eq_some_iff.mp H
               obtain ⟨t193, A210, H⟩ := H
               replace H : (if t193 = true then (spec_l6Matches.l0 kj12 l0 ((rd_T69 l0 x1_1).f1) l2 ji18) else (spec_l6Matches.l0 kj12 l0 ((rd_T69 l0 x1_1).f1) l2 x7_1)) = some r := H
               have A21 := Aside0.mk A210
               clear A210
               have HHc22 := Aside0.mk H
               clear H
               try go_wp2
               have n0_ := Aside0.mk (below_drew1 HB.out)
               clear HB
               have HB := n0_
               clear n0_
               have p191 : 0 ≤ (x1_1 : Int) := of_decide_eq_true am_
               have q191 : x1_1 < (l0.length : Int) := of_decide_eq_true am_
               obtain ⟨ad191, A191_2, c191_2, e191, hx191_0, hx191_1, hx191_2, hx191_3, hl191_2, hi191_2⟩ := at_T69 HR0.out x1_1 p191 q191
               have hw191_3 := hx191_3
               have hw191_2 := hx191_2
               have hw191_1 := hx191_1
               have hw191_0 := hx191_0
               obtain rfl : ad187 = ad191 := (by injection e191)
               replace hx191_0 := pw_cell_below HB.out hx191_0
               replace hx191_1 := pw_cell_below HB.out hx191_1
               replace hx191_2 := pw_cell_below HB.out hx191_2
               replace hx191_3 := pw_cell_below HB.out hx191_3
               have HR191_2 := Aside0.mk hi191_2
               have HC191_2 := Aside0.mk hl191_2
               clear hi191_2 hl191_2
               replace p191 := eq_true p191
               replace q191 := eq_true q191
               have p192 : 0 ≤ ((ji18) : Int) := of_decide_eq_true am_
               have q192 : (ji18) < (l2.length : Int) := of_decide_eq_true am_
               obtain ⟨ad192, A192_2, c192_2, e192, hx192_0, hx192_1, hx192_2, hl192_2, hi192_2⟩ := at_T71 HR2.out (ji18) p192 q192
               have hw192_2 := hx192_2
               have hw192_1 := hx192_1
               have hw192_0 := hx192_0
               obtain rfl : ad188 = ad192 := (by injection e192)
               replace hx192_0 := pw_cell_below HB.out hx192_0
               replace hx192_1 := pw_cell_below HB.out hx192_1
               replace hx192_2 := pw_cell_below HB.out hx192_2
               have HR192_2 := Aside0.mk hi192_2
               have HC192_2 := Aside0.mk hl192_2
               clear hi192_2 hl192_2
               replace p192 := eq_true p192
               replace q192 := eq_true q192
               refine start_ (n := 10) (S := fun w' => w'.cell? (ad187.add ((x1_1).toNat * 4)) = some (.string ((rd_T69 l0 x1_1).f0)) ∧ w'.cell? ⟨(ad187.add ((x1_1).toNat * 4)).block, (ad187.add ((x1_1).toNat * 4)).off + 1, none⟩ = some (.int .i64 ((rd_T69 l0 x1_1).f1)) ∧ w'.cell? ⟨(ad187.add ((x1_1).toNat * 4)).block, (ad187.add ((x1_1).toNat * 4)).off + 2, none⟩ = some (.slice A191_2 ((rd_T69 l0 x1_1).f2).length c191_2) ∧ w'.cell? ⟨(ad187.add ((x1_1).toNat * 4)).block, (ad187.add ((x1_1).toNat * 4)).off + 3, none⟩ = some (.string ((rd_T69 l0 x1_1).f3)) ∧ w'.cell? (ad188.add (((ji18)).toNat * 3)) = some (.string ((rd_T71 l2 (ji18)).f0)) ∧ w'.cell? ⟨(ad188.add (((ji18)).toNat * 3)).block, (ad188.add (((ji18)).toNat * 3)).off + 1, none⟩ = some (.string ((rd_T71 l2 (ji18)).f1)) ∧ w'.cell? ⟨(ad188.add (((ji18)).toNat * 3)).block, (ad188.add (((ji18)).toNat * 3)).off + 2, none⟩ = some (.slice A192_2 ((rd_T71 l2 (ji18)).f2).length c192_2)) (ds := []) #[false, false, false, false, false, false, false, false, false, false] (by kernel_rfl) rfl rfl ⟨(pw_cell_below HB.out hw191_0), (pw_cell_below HB.out hw191_1), (pw_cell_below HB.out hw191_2), (pw_cell_below HB.out hw191_3), (pw_cell_below HB.out hw192_0), (pw_cell_below HB.out hw192_1), (pw_cell_below HB.out hw192_2)⟩ (fun hHeld => ?_); refine with_tabW spec_l6Matches.tab7 spec_l6Matches.bits7 (fun HT_ HW_ => ?_)
               generalize wc.drew = w23 at HB HR191_2 HR192_2 hx191_0 hx191_1 hx191_2 hx191_3 hx192_0 hx192_1 hx192_2 hHeld ⊢
               refine pure_ (i := 0) (N := some 37) (v := ?_) (a' := ?_) #[true, false, false, false, false, false, false, false, false, false] rfl rfl (any_of HT_.out (by kernel_rfl)) (fun _ _ _ h => h) (Or.inl ⟨by rfl, ?_⟩) ?_ ?_
               rotate_left
               ·intro w'
                go_simp
                with_reducible rfl
               rotate_left
               ·simp only [Act.put, List.setIfInBounds_toArray, List.set_cons_zero, List.set_cons_succ, i64_w, i32_w]
                rfl
               refine pure_ (i := 1) (N := some 38) (v := ?_) (a' := ?_) #[true, true, false, false, false, false, false, false, false, false] rfl rfl (any_of HT_.out (by kernel_rfl)) (fun _ _ _ h => h) (Or.inl ⟨by rfl, ?_⟩) ?_ ?_
               rotate_left
               ·intro w'
                go_simp
                with_reducible rfl
               rotate_left
               ·simp only [Act.put, List.setIfInBounds_toArray, List.set_cons_zero, List.set_cons_succ, i64_w, i32_w]
                rfl
               refine pure_ (i := 2) (N := some 39) (v := ?_) (a' := ?_) #[true, true, true, false, false, false, false, false, false, false] rfl rfl (any_of HT_.out (by kernel_rfl)) (fun _ _ _ h => h) (Or.inl ⟨by rfl, ?_⟩) ?_ ?_
               rotate_left
               ·intro w'
                go_simp
                with_reducible rfl
               rotate_left
               ·simp only [Act.put, List.setIfInBounds_toArray, List.set_cons_zero, List.set_cons_succ, i64_w, i32_w]
                rfl
               refine pure_ (i := 4) (N := some 41) (v := ?_) (a' := ?_) #[true, true, true, false, true, false, false, false, false, false] rfl rfl (any_of HT_.out (by kernel_rfl)) (fun _ _ _ h => h) (Or.inl ⟨by rfl, ?_⟩) ?_ ?_
               rotate_left
               ·intro w'
                go_simp
                with_reducible rfl
               rotate_left
               ·simp only [Act.put, List.setIfInBounds_toArray, List.set_cons_zero, List.set_cons_succ, i64_w, i32_w]
                rfl
               refine pure_ (i := 5) (N := some 42) (v := ?_) (a' := ?_) #[true, true, true, false, true, true, false, false, false, false] rfl rfl (any_of HT_.out (by kernel_rfl)) (fun _ _ _ h => h) (Or.inl ⟨by rfl, ?_⟩) ?_ ?_
               rotate_left
               ·intro w'
                go_simp
                with_reducible rfl
               rotate_left
               ·simp only [Act.put, List.setIfInBounds_toArray, List.set_cons_zero, List.set_cons_succ, i64_w, i32_w]
                rfl
               refine pure_ (i := 6) (N := some 43) (v := ?_) (a' := ?_) #[true, true, true, false, true, true, true, false, false, false] rfl rfl (any_of HT_.out (by kernel_rfl)) (fun _ _ _ h => h) (Or.inl ⟨by rfl, ?_⟩) ?_ ?_
               rotate_left
               ·intro w'
                go_simp
                with_reducible rfl
               rotate_left
               ·simp only [Act.put, List.setIfInBounds_toArray, List.set_cons_zero, List.set_cons_succ, i64_w, i32_w]
                rfl
               refine pure_ (i := 7) (N := some 44) (v := ?_) (a' := ?_) #[true, true, true, false, true, true, true, true, false, false] rfl rfl (any_of HT_.out (by kernel_rfl)) (fun _ _ _ h => h) (Or.inl ⟨by rfl, ?_⟩) ?_ ?_
               rotate_left
               ·intro w'
                go_simp
                with_reducible rfl
               rotate_left
               ·simp only [Act.put, List.setIfInBounds_toArray, List.set_cons_zero, List.set_cons_succ, i64_w, i32_w]
                rfl
               refine take_ (i := 3) (N := some 40) (v := ?_) (a' := ?_) #[true, true, true, true, true, true, true, true, false, false] rfl rfl (take_ofW HT_.out HW_.out (by kernel_rfl)) (fun _ _ _ h => h) (Or.inl ⟨by rfl, ?_⟩) hHeld ?_ ?_
               rotate_left
               ·rintro w' ⟨s0, s1, s2, s3, s4, s5, s6⟩
                go_simp
                with_reducible rfl
               rotate_left
               ·simp only [Act.put, List.setIfInBounds_toArray, List.set_cons_zero, List.set_cons_succ, i64_w, i32_w]
                rfl
               refine take_ (i := 8) (N := some 45) (v := ?_) (a' := ?_) #[true, true, true, true, true, true, true, true, true, false] rfl rfl (take_ofW HT_.out HW_.out (by kernel_rfl)) (fun _ _ _ h => h) (Or.inl ⟨by rfl, ?_⟩) hHeld ?_ ?_
               rotate_left
               ·rintro w' ⟨s0, s1, s2, s3, s4, s5, s6⟩
                go_simp
                with_reducible rfl
               rotate_left
               ·simp only [Act.put, List.setIfInBounds_toArray, List.set_cons_zero, List.set_cons_succ, i64_w, i32_w]
                rfl
               refine one_ (i := 9) (N := some 46) #[true, true, true, true, true, true, true, true, true, true] rfl rfl (one_of HT_.out (by kernel_rfl)) (by decide) (fun K hK => ?_)
               refine goes_ Tryd.func80 (by kernel_rfl) rfl #[.agg #[.string ((rd_T69 l0 x1_1).f0), .int .i64 ((rd_T69 l0 x1_1).f1), .slice A191_2 ((rd_T69 l0 x1_1).f2).length c191_2, .string ((rd_T69 l0 x1_1).f3)], .agg #[.string ((rd_T71 l2 (ji18)).f0), .string ((rd_T71 l2 (ji18)).f1), .slice A192_2 ((rd_T71 l2 (ji18)).f2).length c192_2]] (by rfl) rfl rfl (by (try simp only [List.map_toArray, List.map_cons, List.map_nil]); first | done | (simp only [hji18]; rfl) | rfl | (simp only [List.length_drop, List.length_take]; rfl)) ?_
               by_cases c22 : t193 = true
               ·have H := HHc22.out
                clear HHc22
                subst c22
                have H1 : (spec_l6Matches.l0 kj12 l0 ((rd_T69 l0 x1_1).f1) l2 ji18) = some r := by rw [if_pos rfl] at H; exact H
                clear H
                have H := H1
                clear H1
                have H' := Aside0.mk H
                clear H
                with_reducible refine (spec_l6Fits.calls kj12 ((rd_T69 l0 x1_1).f0) ((rd_T69 l0 x1_1).f1) _ _ ((rd_T69 l0 x1_1).f2) ((rd_T69 l0 x1_1).f3) ((rd_T71 l2 (ji18)).f0) ((rd_T71 l2 (ji18)).f1) _ _ ((rd_T71 l2 (ji18)).f2) true _ ?side1 ?side2 ?side3 ?side4 A21.out).mono ?_
                (case side1 => exact cs_ (Kd.C_below HR191_2.out HB.out))
                (case side2 => exact HC191_2.out)
                (case side3 => exact cs_ (Kd.C_below HR192_2.out HB.out))
                (case side4 => exact HC192_2.out)
                rintro e w24 ⟨rfl, hb⟩
                refine ⟨_, rfl, ?_⟩
                have n0_ := Aside0.mk (below_step bel_ hb)
                clear HB
                have HB := n0_
                clear n0_
                (try clear hb)
                (try clear hb2)
                (try clear hk)
                (try clear hi)
                refine hK.out _ _ ⟨(pw_cell_below HB.out hw191_0), (pw_cell_below HB.out hw191_1), (pw_cell_below HB.out hw191_2), (pw_cell_below HB.out hw191_3), (pw_cell_below HB.out hw192_0), (pw_cell_below HB.out hw192_1), (pw_cell_below HB.out hw192_2)⟩ (fun hHeld => ?_)
                clear hK K
                refine norm_ (a' := ?_) ?_ ?_
                rotate_left
                ·show Act.put _ (some 46) _ = _
                 simp only [Act.put, List.setIfInBounds_toArray, List.set_cons_zero, List.set_cons_succ, i64_w, i32_w]
                 rfl
                refine done_ (done_of HT_.out (by kernel_rfl)) ?_
                have p194 : 0 ≤ (x1_1 : Int) := of_decide_eq_true am_
                have q194 : x1_1 < (l0.length : Int) := of_decide_eq_true am_
                obtain ⟨ad194, A194_2, c194_2, e194, hx194_0, hx194_1, hx194_2, hx194_3, hl194_2, hi194_2⟩ := at_T69 HR0.out x1_1 p194 q194
                obtain rfl : ad187 = ad194 := (by injection e194)
                replace hx194_0 := pw_cell_below HB.out hx194_0
                replace hx194_1 := pw_cell_below HB.out hx194_1
                replace hx194_2 := pw_cell_below HB.out hx194_2
                replace hx194_3 := pw_cell_below HB.out hx194_3
                have HR194_2 := Aside0.mk hi194_2
                have HC194_2 := Aside0.mk hl194_2
                clear hi194_2 hl194_2
                replace p194 := eq_true p194
                replace q194 := eq_true q194
                try go_wp2
                go_roundg kj12
                case measure => have := HK1.out; have := HJ12.out; omega
                case rel => exact ⟨((rd_T69 l0 x1_1).f1), (ji18), sv_, (by first | rfl | (simp; done) | (simp only [← hji18] <;> (first | rfl | simp)) | (simp [*]; done)), H', ⟨by have := HK1.out; have := HJ12.out; omega⟩, ⟨bel_⟩⟩
               ·have H := HHc22.out
                clear HHc22
                replace c22 := Bool.eq_false_iff.mpr c22
                subst c22
                have H1 : (spec_l6Matches.l0 kj12 l0 ((rd_T69 l0 x1_1).f1) l2 x7_1) = some r := by rw [if_neg (show ¬ (false = true) by decide)] at H; exact H
                clear H
                have H := H1
                clear H1
                have H' := Aside0.mk H
                clear H
                with_reducible refine (spec_l6Fits.calls kj12 ((rd_T69 l0 x1_1).f0) ((rd_T69 l0 x1_1).f1) _ _ ((rd_T69 l0 x1_1).f2) ((rd_T69 l0 x1_1).f3) ((rd_T71 l2 (ji18)).f0) ((rd_T71 l2 (ji18)).f1) _ _ ((rd_T71 l2 (ji18)).f2) false _ ?side1 ?side2 ?side3 ?side4 A21.out).mono ?_
                (case side1 => exact cs_ (Kd.C_below HR191_2.out HB.out))
                (case side2 => exact HC191_2.out)
                (case side3 => exact cs_ (Kd.C_below HR192_2.out HB.out))
                (case side4 => exact HC192_2.out)
                rintro e w26 ⟨rfl, hb⟩
                refine ⟨_, rfl, ?_⟩
                have n0_ := Aside0.mk (below_step bel_ hb)
                clear HB
                have HB := n0_
                clear n0_
                (try clear hb)
                (try clear hb2)
                (try clear hk)
                (try clear hi)
                refine hK.out _ _ ⟨(pw_cell_below HB.out hw191_0), (pw_cell_below HB.out hw191_1), (pw_cell_below HB.out hw191_2), (pw_cell_below HB.out hw191_3), (pw_cell_below HB.out hw192_0), (pw_cell_below HB.out hw192_1), (pw_cell_below HB.out hw192_2)⟩ (fun hHeld => ?_)
                clear hK K
                refine norm_ (a' := ?_) ?_ ?_
                rotate_left
                ·show Act.put _ (some 46) _ = _
                 simp only [Act.put, List.setIfInBounds_toArray, List.set_cons_zero, List.set_cons_succ, i64_w, i32_w]
                 rfl
                refine done_ (done_of HT_.out (by kernel_rfl)) ?_
                have p195 : 0 ≤ (x1_1 : Int) := of_decide_eq_true am_
                have q195 : x1_1 < (l0.length : Int) := of_decide_eq_true am_
                obtain ⟨ad195, A195_2, c195_2, e195, hx195_0, hx195_1, hx195_2, hx195_3, hl195_2, hi195_2⟩ := at_T69 HR0.out x1_1 p195 q195
                obtain rfl : ad187 = ad195 := (by injection e195)
                replace hx195_0 := pw_cell_below HB.out hx195_0
                replace hx195_1 := pw_cell_below HB.out hx195_1
                replace hx195_2 := pw_cell_below HB.out hx195_2
                replace hx195_3 := pw_cell_below HB.out hx195_3
                have HR195_2 := Aside0.mk hi195_2
                have HC195_2 := Aside0.mk hl195_2
                clear hi195_2 hl195_2
                replace p195 := eq_true p195
                replace q195 := eq_true q195
                try go_wp2
                go_roundg kj12
                case measure => have := HK1.out; have := HJ12.out; omega
                case rel => exact ⟨((rd_T69 l0 x1_1).f1), (x7_1), sv_, sv_, H', ⟨by have := HK1.out; have := HJ12.out; omega⟩, ⟨bel_⟩⟩
              ·rw [if_neg c20] at H
               exact absurd H (by simp)
             ·rw [if_neg c19] at H
              exact absurd H (by simp)
            ·rw [if_neg c17] at H
             exact absurd H (by simp)
           ·rw [if_neg c16] at H
            exact absurd H (by simp)
          ·replace c15 := Bool.eq_false_iff.mpr c15
           subst c15
           have H1 : (some (x7_1 == 0)) = some r := by rw [if_neg (show ¬ (false = true) by decide)] at H; exact H
           clear H
           have H := H1
           clear H1
           obtain rfl := Option.some.inj H
           go_wp2
           go_ret
           exact ⟨by first | rfl | (simp [errW_none, errW_some] <;> rfl) | (simp only [← hji6]; first | rfl | (simp [errW_none, errW_some] <;> rfl)) | (simp [*, errW_none, errW_some] <;> rfl), bel_⟩
     ·replace c10 := Bool.eq_false_iff.mpr c10
      subst c10
      have H1 : (some false) = some r := by rw [if_neg (show ¬ (false = true) by decide)] at H; exact H
      clear H
      have H := H1
      clear H1
      obtain rfl := Option.some.inj H
      go_enter Tryd.func40, Tryd.ntmps40
      try go_wp2
      have n0_ := Aside0.mk (below_drew1 HB.out)
      clear HB
      have HB := n0_
      clear n0_
      have p187 : 0 ≤ (a1 : Int) := of_decide_eq_true am_
      have q187 : a1 < (l0.length : Int) := of_decide_eq_true am_
      obtain ⟨ad187, A187_2, c187_2, e187, hx187_0, hx187_1, hx187_2, hx187_3, hl187_2, hi187_2⟩ := at_T69 HR0.out a1 p187 q187
      have hw187_3 := hx187_3
      have hw187_2 := hx187_2
      have hw187_1 := hx187_1
      have hw187_0 := hx187_0
      cases e187
      replace hx187_0 := pw_cell_below HB.out hx187_0
      replace hx187_1 := pw_cell_below HB.out hx187_1
      replace hx187_2 := pw_cell_below HB.out hx187_2
      replace hx187_3 := pw_cell_below HB.out hx187_3
      have HR187_2 := Aside0.mk hi187_2
      have HC187_2 := Aside0.mk hl187_2
      clear hi187_2 hl187_2
      replace p187 := eq_true p187
      replace q187 := eq_true q187
      have p188 : 0 ≤ ((ji6) : Int) := of_decide_eq_true am_
      have q188 : (ji6) < (l2.length : Int) := of_decide_eq_true am_
      obtain ⟨ad188, A188_2, c188_2, e188, hx188_0, hx188_1, hx188_2, hl188_2, hi188_2⟩ := at_T71 HR2.out (ji6) p188 q188
      have hw188_2 := hx188_2
      have hw188_1 := hx188_1
      have hw188_0 := hx188_0
      cases e188
      replace hx188_0 := pw_cell_below HB.out hx188_0
      replace hx188_1 := pw_cell_below HB.out hx188_1
      replace hx188_2 := pw_cell_below HB.out hx188_2
      have HR188_2 := Aside0.mk hi188_2
      have HC188_2 := Aside0.mk hl188_2
      clear hi188_2 hl188_2
      replace p188 := eq_true p188
      replace q188 := eq_true q188
      refine start_ (n := 10) (S := fun w' => w'.cell? (ad187.add ((a1).toNat * 4)) = some (.string ((rd_T69 l0 a1).f0)) ∧ w'.cell? ⟨(ad187.add ((a1).toNat * 4)).block, (ad187.add ((a1).toNat * 4)).off + 1, none⟩ = some (.int .i64 ((rd_T69 l0 a1).f1)) ∧ w'.cell? ⟨(ad187.add ((a1).toNat * 4)).block, (ad187.add ((a1).toNat * 4)).off + 2, none⟩ = some (.slice A187_2 ((rd_T69 l0 a1).f2).length c187_2) ∧ w'.cell? ⟨(ad187.add ((a1).toNat * 4)).block, (ad187.add ((a1).toNat * 4)).off + 3, none⟩ = some (.string ((rd_T69 l0 a1).f3)) ∧ w'.cell? (ad188.add (((ji6)).toNat * 3)) = some (.string ((rd_T71 l2 (ji6)).f0)) ∧ w'.cell? ⟨(ad188.add (((ji6)).toNat * 3)).block, (ad188.add (((ji6)).toNat * 3)).off + 1, none⟩ = some (.string ((rd_T71 l2 (ji6)).f1)) ∧ w'.cell? ⟨(ad188.add (((ji6)).toNat * 3)).block, (ad188.add (((ji6)).toNat * 3)).off + 2, none⟩ = some (.slice A188_2 ((rd_T71 l2 (ji6)).f2).length c188_2)) (ds := []) #[false, false, false, false, false, false, false, false, false, false] (by kernel_rfl) rfl rfl ⟨(pw_cell_below HB.out hw187_0), (pw_cell_below HB.out hw187_1), (pw_cell_below HB.out hw187_2), (pw_cell_below HB.out hw187_3), (pw_cell_below HB.out hw188_0), (pw_cell_below HB.out hw188_1), (pw_cell_below HB.out hw188_2)⟩ (fun hHeld => ?_); refine with_tabW spec_l6Matches.tab2 spec_l6Matches.bits2 (fun HT_ HW_ => ?_)
      generalize w.drew = w27 at HB HR187_2 HR188_2 hx187_0 hx187_1 hx187_2 hx187_3 hx188_0 hx188_1 hx188_2 hHeld ⊢
      refine pure_ (i := 0) (N := some 11) (v := ?_) (a' := ?_) #[true, false, false, false, false, false, false, false, false, false] rfl rfl (any_of HT_.out (by kernel_rfl)) (fun _ _ _ h => h) (Or.inl ⟨by rfl, ?_⟩) ?_ ?_
      rotate_left
      ·intro w'
       go_simp
       with_reducible rfl
      rotate_left
      ·simp only [Act.put, List.setIfInBounds_toArray, List.set_cons_zero, List.set_cons_succ, i64_w, i32_w]
       rfl
      refine pure_ (i := 1) (N := some 12) (v := ?_) (a' := ?_) #[true, true, false, false, false, false, false, false, false, false] rfl rfl (any_of HT_.out (by kernel_rfl)) (fun _ _ _ h => h) (Or.inl ⟨by rfl, ?_⟩) ?_ ?_
      rotate_left
      ·intro w'
       go_simp
       with_reducible rfl
      rotate_left
      ·simp only [Act.put, List.setIfInBounds_toArray, List.set_cons_zero, List.set_cons_succ, i64_w, i32_w]
       rfl
      refine pure_ (i := 2) (N := some 13) (v := ?_) (a' := ?_) #[true, true, true, false, false, false, false, false, false, false] rfl rfl (any_of HT_.out (by kernel_rfl)) (fun _ _ _ h => h) (Or.inl ⟨by rfl, ?_⟩) ?_ ?_
      rotate_left
      ·intro w'
       go_simp
       with_reducible rfl
      rotate_left
      ·simp only [Act.put, List.setIfInBounds_toArray, List.set_cons_zero, List.set_cons_succ, i64_w, i32_w]
       rfl
      refine pure_ (i := 4) (N := some 15) (v := ?_) (a' := ?_) #[true, true, true, false, true, false, false, false, false, false] rfl rfl (any_of HT_.out (by kernel_rfl)) (fun _ _ _ h => h) (Or.inl ⟨by rfl, ?_⟩) ?_ ?_
      rotate_left
      ·intro w'
       go_simp
       with_reducible rfl
      rotate_left
      ·simp only [Act.put, List.setIfInBounds_toArray, List.set_cons_zero, List.set_cons_succ, i64_w, i32_w]
       rfl
      refine pure_ (i := 5) (N := some 16) (v := ?_) (a' := ?_) #[true, true, true, false, true, true, false, false, false, false] rfl rfl (any_of HT_.out (by kernel_rfl)) (fun _ _ _ h => h) (Or.inl ⟨by rfl, ?_⟩) ?_ ?_
      rotate_left
      ·intro w'
       go_simp
       with_reducible rfl
      rotate_left
      ·simp only [Act.put, List.setIfInBounds_toArray, List.set_cons_zero, List.set_cons_succ, i64_w, i32_w]
       rfl
      refine pure_ (i := 6) (N := some 17) (v := ?_) (a' := ?_) #[true, true, true, false, true, true, true, false, false, false] rfl rfl (any_of HT_.out (by kernel_rfl)) (fun _ _ _ h => h) (Or.inl ⟨by rfl, ?_⟩) ?_ ?_
      rotate_left
      ·intro w'
       go_simp
       with_reducible rfl
      rotate_left
      ·simp only [Act.put, List.setIfInBounds_toArray, List.set_cons_zero, List.set_cons_succ, i64_w, i32_w]
       rfl
      refine take_ (i := 3) (N := some 14) (v := ?_) (a' := ?_) #[true, true, true, true, true, true, true, false, false, false] rfl rfl (take_ofW HT_.out HW_.out (by kernel_rfl)) (fun _ _ _ h => h) (Or.inl ⟨by rfl, ?_⟩) hHeld ?_ ?_
      rotate_left
      ·rintro w' ⟨s0, s1, s2, s3, s4, s5, s6⟩
       go_simp
       with_reducible rfl
      rotate_left
      ·simp only [Act.put, List.setIfInBounds_toArray, List.set_cons_zero, List.set_cons_succ, i64_w, i32_w]
       rfl
      refine take_ (i := 7) (N := some 18) (v := ?_) (a' := ?_) #[true, true, true, true, true, true, true, true, false, false] rfl rfl (take_ofW HT_.out HW_.out (by kernel_rfl)) (fun _ _ _ h => h) (Or.inl ⟨by rfl, ?_⟩) hHeld ?_ ?_
      rotate_left
      ·rintro w' ⟨s0, s1, s2, s3, s4, s5, s6⟩
       go_simp
       with_reducible rfl
      rotate_left
      ·simp only [Act.put, List.setIfInBounds_toArray, List.set_cons_zero, List.set_cons_succ, i64_w, i32_w]
       rfl
      refine one_ (i := 8) (N := some 19) #[true, true, true, true, true, true, true, true, true, false] rfl rfl (one_of HT_.out (by kernel_rfl)) (by decide) (fun K hK => ?_)
      refine goes_ Tryd.func80 (by kernel_rfl) rfl #[.agg #[.string ((rd_T69 l0 a1).f0), .int .i64 ((rd_T69 l0 a1).f1), .slice A187_2 ((rd_T69 l0 a1).f2).length c187_2, .string ((rd_T69 l0 a1).f3)], .agg #[.string ((rd_T71 l2 (ji6)).f0), .string ((rd_T71 l2 (ji6)).f1), .slice A188_2 ((rd_T71 l2 (ji6)).f2).length c188_2]] (by rfl) rfl rfl (by (try simp only [List.map_toArray, List.map_cons, List.map_nil]); first | done | (simp only [hji6]; rfl) | rfl | (simp only [List.length_drop, List.length_take]; rfl)) ?_
      with_reducible refine (spec_l6Fits.calls k ((rd_T69 l0 a1).f0) ((rd_T69 l0 a1).f1) _ _ ((rd_T69 l0 a1).f2) ((rd_T69 l0 a1).f3) ((rd_T71 l2 (ji6)).f0) ((rd_T71 l2 (ji6)).f1) _ _ ((rd_T71 l2 (ji6)).f2) false _ ?side1 ?side2 ?side3 ?side4 A9.out).mono ?_
      (case side1 => exact cs_ (Kd.C_below HR187_2.out HB.out))
      (case side2 => exact HC187_2.out)
      (case side3 => exact cs_ (Kd.C_below HR188_2.out HB.out))
      (case side4 => exact HC188_2.out)
      rintro e w28 ⟨rfl, hb⟩
      refine ⟨_, rfl, ?_⟩
      have n0_ := Aside0.mk (below_step bel_ hb)
      clear HB
      have HB := n0_
      clear n0_
      (try clear hb)
      (try clear hb2)
      (try clear hk)
      (try clear hi)
      refine hK.out _ _ ⟨(pw_cell_below HB.out hw187_0), (pw_cell_below HB.out hw187_1), (pw_cell_below HB.out hw187_2), (pw_cell_below HB.out hw187_3), (pw_cell_below HB.out hw188_0), (pw_cell_below HB.out hw188_1), (pw_cell_below HB.out hw188_2)⟩ (fun hHeld => ?_)
      clear hK K
      refine norm_ (a' := ?_) ?_ ?_
      rotate_left
      ·show Act.put _ (some 19) _ = _
       simp only [Act.put, List.setIfInBounds_toArray, List.set_cons_zero, List.set_cons_succ, i64_w, i32_w]
       rfl
      refine pure_ (i := 9) (N := some 20) (v := ?_) (a' := ?_) #[true, true, true, true, true, true, true, true, true, true] rfl rfl (any_of HT_.out (by kernel_rfl)) (fun _ _ _ h => h) (Or.inl ⟨by rfl, ?_⟩) ?_ ?_
      rotate_left
      ·intro w'
       go_simp
       with_reducible rfl
      rotate_left
      ·simp only [Act.put, List.setIfInBounds_toArray, List.set_cons_zero, List.set_cons_succ, i64_w, i32_w]
       rfl
      refine done_ (done_of HT_.out (by kernel_rfl)) ?_
      try go_wp2
      go_ret
      exact ⟨by first | rfl | (simp [errW_none, errW_some] <;> rfl) | (simp only [← hji6]; first | rfl | (simp [errW_none, errW_some] <;> rfl)) | (simp [*, errW_none, errW_some] <;> rfl), bel_⟩
    ·rw [if_neg c8] at H
     exact absurd H (by simp)
   ·rw [if_neg c7] at H
    exact absurd H (by simp)
  ·rw [if_neg c5] at H
   exact absurd H (by simp)
 ·rw [if_neg c4] at H
  exact absurd H (by simp)

end Go.Proofs.YtooilehdljeepaaDoor.PFnExactMatches
