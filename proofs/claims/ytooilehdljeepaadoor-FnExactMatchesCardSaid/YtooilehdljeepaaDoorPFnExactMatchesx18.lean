-- Laid by a program of this session out of the translation (its own run of the print). Lean checks it.
import Derived.Test.YtooilehdljeepaaDoorPFnExactMatchesx0
import Derived.Test.YtooilehdljeepaaDoorPFnExactMatchesx11
import Derived.Test.YtooilehdljeepaaDoorPFnExactMatchesx14
import Derived.Test.YtooilehdljeepaaDoorPFnExactMatchesx15
import Derived.Test.YtooilehdljeepaaDoorPFnExactMatchesx16
import Derived.Test.YtooilehdljeepaaDoorPFnExactMatchesx17
namespace Go.Proofs.YtooilehdljeepaaDoor.PFnExactMatches
open Go.RowKit Go.Proofs.YtooilehdljeepaaDoorW.PrintWords Go.Proofs.YtooilehdljeepaaDoorW.PrintLast Go.Proofs.YtooilehdljeepaaDoorW.PrintMore
attribute [local go_sem] max2_int min2_int max_two min_two max_three min_three max_four min_four   -- for this text's walks alone
set_option linter.unusedVariables false
set_option linter.unusedSimpArgs false

/-! ### impl_Matches: function 15 -/
mutual
def impl_Matches.j0 : Nat → List (S69) → Int → List (S71) → Bool → Option (Bool)
 | 0, _, _, _, _ => none
 | k + 1, x0, x1, x2, x22 => if x22 = true then (some false) else (if 0 ≤ x1 then (if x1 < (x0.length : Int) then (if 0 ≤ (wrap64 ((x2.length : Int) - 1)) then (if (wrap64 ((x2.length : Int) - 1)) < (x2.length : Int) then ((impl_fits.f k ((rd_T69 x0 x1).f0) ((rd_T69 x0 x1).f1) ((rd_T69 x0 x1).f2) ((rd_T69 x0 x1).f3) ((rd_T71 x2 (wrap64 ((x2.length : Int) - 1))).f0) ((rd_T71 x2 (wrap64 ((x2.length : Int) - 1))).f1) ((rd_T71 x2 (wrap64 ((x2.length : Int) - 1))).f2)).bind fun t328 => (if t328 = true then (impl_Matches.l0 k x0 x1 x2 (wrap64 ((wrap64 ((x2.length : Int) - 1)) - 1))) else (some false))) else (none)) else (none)) else (none)) else (none))
def impl_Matches.l0 : Nat → List (S69) → Int → List (S71) → Int → Option (Bool)
 | 0, _, _, _, _ => none
 | k + 1, x0, x1, x2, x8 => if x8 ≥ 0 then (if 0 ≤ x1 then (if x1 < (x0.length : Int) then (impl_Matches.l1 k x0 ((rd_T69 x0 x1).f1) x2 x8) else (none)) else (none)) else (some true)
def impl_Matches.l1 : Nat → List (S69) → Int → List (S71) → Int → Option (Bool)
 | 0, _, _, _, _ => none
 | k + 1, x0, x1, x2, x8 => if x1 ≥ 0 then (if 0 ≤ x1 then (if x1 < (x0.length : Int) then (if 0 ≤ x8 then (if x8 < (x2.length : Int) then ((impl_fits.f k ((rd_T69 x0 x1).f0) ((rd_T69 x0 x1).f1) ((rd_T69 x0 x1).f2) ((rd_T69 x0 x1).f3) ((rd_T71 x2 x8).f0) ((rd_T71 x2 x8).f1) ((rd_T71 x2 x8).f2)).bind fun t332 => (if t332 = true then (if x1 < 0 then (some false) else (impl_Matches.l0 k x0 x1 x2 (wrap64 (x8 - 1)))) else (impl_Matches.l1 k x0 ((rd_T69 x0 x1).f1) x2 x8))) else (none)) else (none)) else (none)) else (none)) else (if x1 < 0 then (some false) else (impl_Matches.l0 k x0 x1 x2 (wrap64 (x8 - 1))))
end
def impl_Matches.f (k : Nat) (l0 : List (S69)) (a1 : Int) (l2 : List (S71)) : Option (Bool) := (impl_GoodNodes.f k l0).bind fun t323 => (if t323 = true then ((impl_isElement.f l0 a1).bind fun t324 => (if t324 = true then ((impl_isSelector.f k l2).bind fun t325 => (impl_Matches.j0 k l0 a1 l2 (!t325))) else (impl_Matches.j0 k l0 a1 l2 true))) else (impl_Matches.j0 k l0 a1 l2 true))
def impl_Matches.T4 : Bool × List (List Nat × List Nat) := (true, [([], []), ([], []), ([0, 1], [0, 1]), ([2], [2]), ([], []), ([], []), ([4, 5], [4, 5]), ([6], [6]), ([3, 7], [3, 7]), ([8], [8])])
def impl_Matches.B4 : List Nat := [0, 0, 3, 7, 0, 0, 48, 112, 255, 511]
theorem impl_Matches.tab4 : rtab .any (opsOf Tryd.f15 4) = impl_Matches.T4 := by kernel_rfl
theorem impl_Matches.bits4 : waitsOk impl_Matches.T4.2 impl_Matches.B4 = true := by kernel_rfl
def impl_Matches.T10 : Bool × List (List Nat × List Nat) := (true, [([], []), ([0], [0]), ([1], [1]), ([2], [2]), ([2], [2]), ([3, 4, 2], [2, 3, 4]), ([5, 2], [2, 5]), ([2], [2]), ([2], [2]), ([7, 8, 2], [2, 7, 8]), ([9, 2], [2, 9]), ([6, 10, 2, 2], [2, 6, 10]), ([11, 2], [2, 11]), ([2, 12], [2, 12])])
def impl_Matches.B10 : List Nat := [0, 1, 3, 7, 7, 31, 63, 7, 7, 391, 903, 2047, 4095, 8191]
theorem impl_Matches.tab10 : rtab .any (opsOf Tryd.f15 10) = impl_Matches.T10 := by kernel_rfl
theorem impl_Matches.bits10 : waitsOk impl_Matches.T10.2 impl_Matches.B10 = true := by kernel_rfl
set_option maxHeartbeats 8000000 in
set_option maxRecDepth 100000 in
theorem impl_Matches.calls (k : Nat) (A0 : Option Addr) (c0 : Nat) (l0 : List (S69)) (a1 : Int) (A2 : Option Addr) (c2 : Nat) (l2 : List (S71)) (r : Bool) (w : World) (hr0 : Kd.C k69 w A0 l0.length l0) (hc0 : l0.length ≤ c0) (hr2 : Kd.C k71 w A2 l2.length l2) (hc2 : l2.length ≤ c2) (h : impl_Matches.f k l0 a1 l2 = some r) (hT_ : U8Tabs_ w) :
  Calls Tryd.prog 15 #[.slice A0 l0.length c0, .int .i64 a1, .slice A2 l2.length c2] w fun e w' => e = .returned (.bool r) ∧ Below w.heap.size w w' := by
 have hu69 := Tryd.underlying69
 have hu71 := Tryd.underlying71
 have HR0 := Aside0.mk hr0
 have HC0 := Aside0.mk hc0
 clear hr0 hc0
 have HR2 := Aside0.mk hr2
 have HC2 := Aside0.mk hc2
 clear hr2 hc2
 have HB := Aside0.mk (Below.refl w.heap.size w)
 have H : ((impl_GoodNodes.f k l0).bind fun t323 => (if t323 = true then ((impl_isElement.f l0 a1).bind fun t324 => (if t324 = true then ((impl_isSelector.f k l2).bind fun t325 => (impl_Matches.j0 k l0 a1 l2 (!t325))) else (impl_Matches.j0 k l0 a1 l2 true))) else (impl_Matches.j0 k l0 a1 l2 true))) = some r := h
 clear h
 have HC4 := Aside0.mk H
 clear H
 go_enter Tryd.func15, Tryd.ntmps15
 go_upto_region 1 with (fail)
 go_cut [22] (fun v22 wc => ∃ (kq : Nat) (x22_3 : Bool), v22 = .bool x22_3 ∧ Aside0 (impl_Matches.j0 kq l0 a1 l2 x22_3 = some r) ∧ Aside0 (kq ≤ k) ∧ Aside0 (Below w.heap.size w wc))
 case first =>
  have H := HC4.out
  clear HC4
  replace H := Option.bind_eq_some_iff.mp H
  obtain ⟨t323, A50, H⟩ := H
  replace H : (if t323 = true then ((impl_isElement.f l0 a1).bind fun t324 => (if t324 = true then ((impl_isSelector.f k l2).bind fun t325 => (impl_Matches.j0 k l0 a1 l2 (!t325))) else (impl_Matches.j0 k l0 a1 l2 true))) else (impl_Matches.j0 k l0 a1 l2 true)) = some r := H
  have A5 := Aside0.mk A50
  clear A50
  by_cases c6 : t323 = true
  ·subst c6
   have H1 : ((impl_isElement.f l0 a1).bind fun t324 => (if t324 = true then ((impl_isSelector.f k l2).bind fun t325 => (impl_Matches.j0 k l0 a1 l2 (!t325))) else (impl_Matches.j0 k l0 a1 l2 true))) = some r := by rw [if_pos rfl] at H; exact H
   clear H
   have H := H1
   clear H1
   replace H := Option.bind_eq_some_iff.mp H
   obtain ⟨t324, A70, H⟩ := H
   replace H : (if t324 = true then ((impl_isSelector.f k l2).bind fun t325 => (impl_Matches.j0 k l0 a1 l2 (!t325))) else (impl_Matches.j0 k l0 a1 l2 true)) = some r := H
   have A7 := Aside0.mk A70
   clear A70
   by_cases c8 : t324 = true
   ·subst c8
    have H1 : ((impl_isSelector.f k l2).bind fun t325 => (impl_Matches.j0 k l0 a1 l2 (!t325))) = some r := by rw [if_pos rfl] at H; exact H
    clear H
    have H := H1
    clear H1
    replace H := Option.bind_eq_some_iff.mp H
    obtain ⟨t325, A90, H⟩ := H
    replace H : (impl_Matches.j0 k l0 a1 l2 (!t325)) = some r := H
    have A9 := Aside0.mk A90
    clear A90
    have H' := Aside0.mk H
    clear H
    go_wp2_with (first | ((with_reducible refine gate_callee (f := 43) rfl ?_); refine goesL_ (some 10) rfl rfl Tryd.func43 (by kernel_rfl) rfl #[.slice A0 l0.length c0] rfl au_ ?_; (with_reducible refine (impl_GoodNodes.calls k _ _ l0 true _ ?side1 ?side2 A5.out ?hT_).mono ?_); (case hT_ => exact utf8_keep_ hT_ bel_); (case side1 => exact cs_ (Kd.C_below HR0.out HB.out)); (case side2 => exact HC0.out); rintro e w10 ⟨rfl, hb⟩; refine ⟨_, rfl, ?_⟩; have n0_ := Aside0.mk (below_step bel_ hb); clear HB; have HB := n0_; clear n0_; (try clear hb);(try clear hb2);(try clear hk);(try clear hi)) | (go_at_call 44; (with_reducible refine (impl_isElement.calls _ _ l0 a1 true _ ?side1 ?side2 A7.out).mono ?_); (case side1 => exact cs_ (Kd.C_below HR0.out HB.out)); (case side2 => exact HC0.out); rintro e w' ⟨rfl, ⟨nd, rfl⟩⟩) | (go_at_call 45; (with_reducible refine (impl_isSelector.calls k _ _ l2 t325 _ ?side1 ?side2 A9.out).mono ?_); (case side1 => repeat (first | exact (Kd.C_below HR2.out bel_) | (with_reducible refine Kd.C_alloc ?_ _) | (with_reducible refine Kd.C_drewN ?_ _) | (with_reducible refine Kd.C_drew ?_))); (case side2 => exact HC2.out); rintro e w11 ⟨rfl, hb⟩; have n0_ := Aside0.mk (below_step bel_ hb); clear HB; have HB := n0_; clear n0_; (try clear hb);(try clear hb2);(try clear hk);(try clear hi)))
    go_meet
    case rel => exact ⟨_, (!t325), sv_, H', ⟨by first | omega | exact Nat.le_refl _⟩, ⟨bel_⟩⟩
   ·replace c8 := Bool.eq_false_iff.mpr c8
    subst c8
    have H1 : (impl_Matches.j0 k l0 a1 l2 true) = some r := by rw [if_neg (show ¬ (false = true) by decide)] at H; exact H
    clear H
    have H := H1
    clear H1
    have H' := Aside0.mk H
    clear H
    go_wp2_with (first | ((with_reducible refine gate_callee (f := 43) rfl ?_); refine goesL_ (some 10) rfl rfl Tryd.func43 (by kernel_rfl) rfl #[.slice A0 l0.length c0] rfl au_ ?_; (with_reducible refine (impl_GoodNodes.calls k _ _ l0 true _ ?side1 ?side2 A5.out ?hT_).mono ?_); (case hT_ => exact utf8_keep_ hT_ bel_); (case side1 => exact cs_ (Kd.C_below HR0.out HB.out)); (case side2 => exact HC0.out); rintro e w12 ⟨rfl, hb⟩; refine ⟨_, rfl, ?_⟩; have n0_ := Aside0.mk (below_step bel_ hb); clear HB; have HB := n0_; clear n0_; (try clear hb);(try clear hb2);(try clear hk);(try clear hi)) | (go_at_call 44; (with_reducible refine (impl_isElement.calls _ _ l0 a1 false _ ?side1 ?side2 A7.out).mono ?_); (case side1 => exact cs_ (Kd.C_below HR0.out HB.out)); (case side2 => exact HC0.out); rintro e w' ⟨rfl, ⟨nd, rfl⟩⟩))
    go_meet
    case rel => exact ⟨_, (true), sv_, H', ⟨by first | omega | exact Nat.le_refl _⟩, ⟨bel_⟩⟩
  ·replace c6 := Bool.eq_false_iff.mpr c6
   subst c6
   have H1 : (impl_Matches.j0 k l0 a1 l2 true) = some r := by rw [if_neg (show ¬ (false = true) by decide)] at H; exact H
   clear H
   have H := H1
   clear H1
   have H' := Aside0.mk H
   clear H
   go_wp2_with (first | ((with_reducible refine gate_callee (f := 43) rfl ?_); refine goesL_ (some 10) rfl rfl Tryd.func43 (by kernel_rfl) rfl #[.slice A0 l0.length c0] rfl au_ ?_; (with_reducible refine (impl_GoodNodes.calls k _ _ l0 false _ ?side1 ?side2 A5.out ?hT_).mono ?_); (case hT_ => exact utf8_keep_ hT_ bel_); (case side1 => exact cs_ (Kd.C_below HR0.out HB.out)); (case side2 => exact HC0.out); rintro e w13 ⟨rfl, hb⟩; refine ⟨_, rfl, ?_⟩; have n0_ := Aside0.mk (below_step bel_ hb); clear HB; have HB := n0_; clear n0_; (try clear hb);(try clear hb2);(try clear hk);(try clear hi)))
   go_meet
   case rel => exact ⟨_, (true), sv_, H', ⟨by first | omega | exact Nat.le_refl _⟩, ⟨bel_⟩⟩
 case rest =>
  clear HC4
  (try clear c1);(try clear c2);(try clear p2);(try clear c4);(try clear c6);(try clear c8)
  obtain ⟨kq, x22_3, rfl, HA, HJ3, HB⟩ := hcut
  cases kq with
  | zero => exact absurd HA.out (by simp [impl_Matches.j0])
  | succ kj3 =>
   have H := HA.out
   clear HA
   simp only [impl_Matches.j0] at H
   by_cases c14 : x22_3 = true
   ·subst c14
    have H1 : (some false) = some r := by rw [if_pos rfl] at H; exact H
    clear H
    have H := H1
    clear H1
    obtain rfl := Option.some.inj H
    go_wp2
    go_ret
    exact ⟨er_, bel_⟩
   ·replace c14 := Bool.eq_false_iff.mpr c14
    subst c14
    have H1 : (if 0 ≤ a1 then (if a1 < (l0.length : Int) then (if 0 ≤ (wrap64 ((l2.length : Int) - 1)) then (if (wrap64 ((l2.length : Int) - 1)) < (l2.length : Int) then ((impl_fits.f kj3 ((rd_T69 l0 a1).f0) ((rd_T69 l0 a1).f1) ((rd_T69 l0 a1).f2) ((rd_T69 l0 a1).f3) ((rd_T71 l2 (wrap64 ((l2.length : Int) - 1))).f0) ((rd_T71 l2 (wrap64 ((l2.length : Int) - 1))).f1) ((rd_T71 l2 (wrap64 ((l2.length : Int) - 1))).f2)).bind fun t328 => (if t328 = true then (impl_Matches.l0 kj3 l0 a1 l2 (wrap64 ((wrap64 ((l2.length : Int) - 1)) - 1))) else (some false))) else (none)) else (none)) else (none)) else (none)) = some r := by rw [if_neg (show ¬ (false = true) by decide)] at H; exact H
    clear H
    have H := H1
    clear H1
    by_cases c15 : 0 ≤ a1
    ·rw [if_pos c15] at H
     have c15b0 : decide (0 ≤ a1) = true := decide_eq_true c15
     clear c15
     by_cases c16 : a1 < (l0.length : Int)
     ·rw [if_pos c16] at H
      have c16b0 : decide (a1 < (l0.length : Int)) = true := decide_eq_true c16
      clear c16
      obtain ⟨ji17, hji17⟩ : ∃ j_ : Int, (wrap64 ((l2.length : Int) - 1)) = j_ := ⟨_, rfl⟩
      replace H : (if 0 ≤ (ji17) then (if (ji17) < (l2.length : Int) then ((impl_fits.f kj3 ((rd_T69 l0 a1).f0) ((rd_T69 l0 a1).f1) ((rd_T69 l0 a1).f2) ((rd_T69 l0 a1).f3) ((rd_T71 l2 (ji17)).f0) ((rd_T71 l2 (ji17)).f1) ((rd_T71 l2 (ji17)).f2)).bind fun t328 => (if t328 = true then (impl_Matches.l0 kj3 l0 a1 l2 (wrap64 ((ji17) - 1))) else (some false))) else (none)) else (none)) = some r := by first | (rw [hji17] at H; exact H) | (simp only [hji17] at H ⊢; exact H)
      have hji17w : (IntKind.i64.wrap ((l2.length : Int) - 1)) = ji17 := (i64_w _).trans hji17
      by_cases c18 : 0 ≤ (ji17)
      ·rw [if_pos c18] at H
       have c18b0 : decide (0 ≤ (ji17)) = true := decide_eq_true c18
       clear c18
       by_cases c19 : (ji17) < (l2.length : Int)
       ·rw [if_pos c19] at H
        have c19b0 : decide ((ji17) < (l2.length : Int)) = true := decide_eq_true c19
        clear c19
        replace H := Option.bind_eq_some_iff.mp H
        obtain ⟨t328, A200, H⟩ := H
        replace H : (if t328 = true then (impl_Matches.l0 kj3 l0 a1 l2 (wrap64 ((ji17) - 1))) else (some false)) = some r := H
        have A20 := Aside0.mk A200
        clear A200
        by_cases c21 : t328 = true
        ·subst c21
         have H1 : (impl_Matches.l0 kj3 l0 a1 l2 (wrap64 ((ji17) - 1))) = some r := by rw [if_pos rfl] at H; exact H
         clear H
         have H := H1
         clear H1
         have H' := Aside0.mk H
         clear H
         try go_wp2
         have n0_ := Aside0.mk (below_drew1 HB.out)
         clear HB
         have HB := n0_
         clear n0_
         have p326 : 0 ≤ (a1 : Int) := of_decide_eq_true am_
         have q326 : a1 < (l0.length : Int) := of_decide_eq_true am_
         obtain ⟨ad326, A326_2, c326_2, e326, hx326_0, hx326_1, hx326_2, hx326_3, hl326_2, hi326_2⟩ := at_T69 HR0.out a1 p326 q326
         have hw326_3 := hx326_3
         have hw326_2 := hx326_2
         have hw326_1 := hx326_1
         have hw326_0 := hx326_0
         cases e326
         replace hx326_0 := pw_cell_below HB.out hx326_0
         replace hx326_1 := pw_cell_below HB.out hx326_1
         replace hx326_2 := pw_cell_below HB.out hx326_2
         replace hx326_3 := pw_cell_below HB.out hx326_3
         have HR326_2 := Aside0.mk hi326_2
         have HC326_2 := Aside0.mk hl326_2
         clear hi326_2 hl326_2
         replace p326 := eq_true p326
         replace q326 := eq_true q326
         have p327 : 0 ≤ ((ji17) : Int) := of_decide_eq_true am_
         have q327 : (ji17) < (l2.length : Int) := of_decide_eq_true am_
         obtain ⟨ad327, A327_2, c327_2, e327, hx327_0, hx327_1, hx327_2, hl327_2, hi327_2⟩ := at_T71 HR2.out (ji17) p327 q327
         have hw327_2 := hx327_2
         have hw327_1 := hx327_1
         have hw327_0 := hx327_0
         cases e327
         replace hx327_0 := pw_cell_below HB.out hx327_0
         replace hx327_1 := pw_cell_below HB.out hx327_1
         replace hx327_2 := pw_cell_below HB.out hx327_2
         have HR327_2 := Aside0.mk hi327_2
         have HC327_2 := Aside0.mk hl327_2
         clear hi327_2 hl327_2
         replace p327 := eq_true p327
         replace q327 := eq_true q327
         refine start_ (n := 10) (S := fun w' => w'.cell? (ad326.add ((a1).toNat * 4)) = some (.string ((rd_T69 l0 a1).f0)) ∧ w'.cell? ⟨(ad326.add ((a1).toNat * 4)).block, (ad326.add ((a1).toNat * 4)).off + 1, none⟩ = some (.int .i64 ((rd_T69 l0 a1).f1)) ∧ w'.cell? ⟨(ad326.add ((a1).toNat * 4)).block, (ad326.add ((a1).toNat * 4)).off + 2, none⟩ = some (.slice A326_2 ((rd_T69 l0 a1).f2).length c326_2) ∧ w'.cell? ⟨(ad326.add ((a1).toNat * 4)).block, (ad326.add ((a1).toNat * 4)).off + 3, none⟩ = some (.string ((rd_T69 l0 a1).f3)) ∧ w'.cell? (ad327.add (((ji17)).toNat * 3)) = some (.string ((rd_T71 l2 (ji17)).f0)) ∧ w'.cell? ⟨(ad327.add (((ji17)).toNat * 3)).block, (ad327.add (((ji17)).toNat * 3)).off + 1, none⟩ = some (.string ((rd_T71 l2 (ji17)).f1)) ∧ w'.cell? ⟨(ad327.add (((ji17)).toNat * 3)).block, (ad327.add (((ji17)).toNat * 3)).off + 2, none⟩ = some (.slice A327_2 ((rd_T71 l2 (ji17)).f2).length c327_2)) (ds := []) #[false, false, false, false, false, false, false, false, false, false] (by kernel_rfl) rfl rfl ⟨(pw_cell_below HB.out hw326_0), (pw_cell_below HB.out hw326_1), (pw_cell_below HB.out hw326_2), (pw_cell_below HB.out hw326_3), (pw_cell_below HB.out hw327_0), (pw_cell_below HB.out hw327_1), (pw_cell_below HB.out hw327_2)⟩ (fun hHeld => ?_); refine with_tabW impl_Matches.tab4 impl_Matches.bits4 (fun HT_ HW_ => ?_)
         generalize wc.drew = w22 at HB HR326_2 HR327_2 hx326_0 hx326_1 hx326_2 hx326_3 hx327_0 hx327_1 hx327_2 hHeld ⊢
         refine pure_ (i := 0) (N := some 26) (v := ?_) (a' := ?_) #[true, false, false, false, false, false, false, false, false, false] rfl rfl (any_of HT_.out (by kernel_rfl)) (fun _ _ _ h => h) (Or.inl ⟨by rfl, ?_⟩) ?_ ?_
         rotate_left
         ·intro w'
          go_simp
          with_reducible rfl
         rotate_left
         ·simp only [Act.put, List.setIfInBounds_toArray, List.set_cons_zero, List.set_cons_succ, i64_w, i32_w]
          rfl
         refine pure_ (i := 1) (N := some 27) (v := ?_) (a' := ?_) #[true, true, false, false, false, false, false, false, false, false] rfl rfl (any_of HT_.out (by kernel_rfl)) (fun _ _ _ h => h) (Or.inl ⟨by rfl, ?_⟩) ?_ ?_
         rotate_left
         ·intro w'
          go_simp
          with_reducible rfl
         rotate_left
         ·simp only [Act.put, List.setIfInBounds_toArray, List.set_cons_zero, List.set_cons_succ, i64_w, i32_w]
          rfl
         refine pure_ (i := 2) (N := some 28) (v := ?_) (a' := ?_) #[true, true, true, false, false, false, false, false, false, false] rfl rfl (any_of HT_.out (by kernel_rfl)) (fun _ _ _ h => h) (Or.inl ⟨by rfl, ?_⟩) ?_ ?_
         rotate_left
         ·intro w'
          go_simp
          with_reducible rfl
         rotate_left
         ·simp only [Act.put, List.setIfInBounds_toArray, List.set_cons_zero, List.set_cons_succ, i64_w, i32_w]
          rfl
         refine pure_ (i := 4) (N := some 30) (v := ?_) (a' := ?_) #[true, true, true, false, true, false, false, false, false, false] rfl rfl (any_of HT_.out (by kernel_rfl)) (fun _ _ _ h => h) (Or.inl ⟨by rfl, ?_⟩) ?_ ?_
         rotate_left
         ·intro w'
          go_simp
          with_reducible rfl
         rotate_left
         ·simp only [Act.put, List.setIfInBounds_toArray, List.set_cons_zero, List.set_cons_succ, i64_w, i32_w]
          rfl
         refine pure_ (i := 5) (N := some 31) (v := ?_) (a' := ?_) #[true, true, true, false, true, true, false, false, false, false] rfl rfl (any_of HT_.out (by kernel_rfl)) (fun _ _ _ h => h) (Or.inl ⟨by rfl, ?_⟩) ?_ ?_
         rotate_left
         ·intro w'
          go_simp
          with_reducible rfl
         rotate_left
         ·simp only [Act.put, List.setIfInBounds_toArray, List.set_cons_zero, List.set_cons_succ, i64_w, i32_w]
          rfl
         refine pure_ (i := 6) (N := some 32) (v := ?_) (a' := ?_) #[true, true, true, false, true, true, true, false, false, false] rfl rfl (any_of HT_.out (by kernel_rfl)) (fun _ _ _ h => h) (Or.inl ⟨by rfl, ?_⟩) ?_ ?_
         rotate_left
         ·intro w'
          go_simp
          with_reducible rfl
         rotate_left
         ·simp only [Act.put, List.setIfInBounds_toArray, List.set_cons_zero, List.set_cons_succ, i64_w, i32_w]
          rfl
         refine take_ (i := 3) (N := some 29) (v := ?_) (a' := ?_) #[true, true, true, true, true, true, true, false, false, false] rfl rfl (take_ofW HT_.out HW_.out (by kernel_rfl)) (fun _ _ _ h => h) (Or.inl ⟨by rfl, ?_⟩) hHeld ?_ ?_
         rotate_left
         ·rintro w' ⟨s0, s1, s2, s3, s4, s5, s6⟩
          go_simp
          with_reducible rfl
         rotate_left
         ·simp only [Act.put, List.setIfInBounds_toArray, List.set_cons_zero, List.set_cons_succ, i64_w, i32_w]
          rfl
         refine take_ (i := 7) (N := some 33) (v := ?_) (a' := ?_) #[true, true, true, true, true, true, true, true, false, false] rfl rfl (take_ofW HT_.out HW_.out (by kernel_rfl)) (fun _ _ _ h => h) (Or.inl ⟨by rfl, ?_⟩) hHeld ?_ ?_
         rotate_left
         ·rintro w' ⟨s0, s1, s2, s3, s4, s5, s6⟩
          go_simp
          with_reducible rfl
         rotate_left
         ·simp only [Act.put, List.setIfInBounds_toArray, List.set_cons_zero, List.set_cons_succ, i64_w, i32_w]
          rfl
         refine one_ (i := 8) (N := some 34) #[true, true, true, true, true, true, true, true, true, false] rfl rfl (one_of HT_.out (by kernel_rfl)) (by decide) (fun K hK => ?_)
         refine goes_ Tryd.func46 (by kernel_rfl) rfl #[.agg #[.string ((rd_T69 l0 a1).f0), .int .i64 ((rd_T69 l0 a1).f1), .slice A326_2 ((rd_T69 l0 a1).f2).length c326_2, .string ((rd_T69 l0 a1).f3)], .agg #[.string ((rd_T71 l2 (ji17)).f0), .string ((rd_T71 l2 (ji17)).f1), .slice A327_2 ((rd_T71 l2 (ji17)).f2).length c327_2]] (by rfl) rfl rfl (by (try simp only [List.map_toArray, List.map_cons, List.map_nil]); first | done | (simp only [hji17]; rfl) | rfl | (simp only [List.length_drop, List.length_take]; rfl)) ?_
         with_reducible refine (impl_fits.calls kj3 ((rd_T69 l0 a1).f0) ((rd_T69 l0 a1).f1) _ _ ((rd_T69 l0 a1).f2) ((rd_T69 l0 a1).f3) ((rd_T71 l2 (ji17)).f0) ((rd_T71 l2 (ji17)).f1) _ _ ((rd_T71 l2 (ji17)).f2) true _ ?side1 ?side2 ?side3 ?side4 A20.out).mono ?_
         (case side1 => exact cs_ (Kd.C_below HR326_2.out HB.out))
         (case side2 => exact HC326_2.out)
         (case side3 => exact cs_ (Kd.C_below HR327_2.out HB.out))
         (case side4 => exact HC327_2.out)
         rintro e w23 ⟨rfl, hb⟩
         refine ⟨_, rfl, ?_⟩
         have n0_ := Aside0.mk (below_step bel_ hb)
         clear HB
         have HB := n0_
         clear n0_
         (try clear hb)
         (try clear hb2)
         (try clear hk)
         (try clear hi)
         refine hK.out _ _ ⟨(pw_cell_below HB.out hw326_0), (pw_cell_below HB.out hw326_1), (pw_cell_below HB.out hw326_2), (pw_cell_below HB.out hw326_3), (pw_cell_below HB.out hw327_0), (pw_cell_below HB.out hw327_1), (pw_cell_below HB.out hw327_2)⟩ (fun hHeld => ?_)
         clear hK K
         refine norm_ (a' := ?_) ?_ ?_
         rotate_left
         ·show Act.put _ (some 34) _ = _
          simp only [Act.put, List.setIfInBounds_toArray, List.set_cons_zero, List.set_cons_succ, i64_w, i32_w]
          rfl
         refine pure_ (i := 9) (N := some 35) (v := ?_) (a' := ?_) #[true, true, true, true, true, true, true, true, true, true] rfl rfl (any_of HT_.out (by kernel_rfl)) (fun _ _ _ h => h) (Or.inl ⟨by rfl, ?_⟩) ?_ ?_
         rotate_left
         ·intro w'
          go_simp
          with_reducible rfl
         rotate_left
         ·simp only [Act.put, List.setIfInBounds_toArray, List.set_cons_zero, List.set_cons_succ, i64_w, i32_w]
          rfl
         refine done_ (done_of HT_.out (by kernel_rfl)) ?_
         try go_wp2
         go_loopg [1, 8] kj3 (fun kq v1 v8 w' => ∃ (x1_2 : Int) (x8_2 : Int), v1 = .int .i64 x1_2 ∧ v8 = .int .i64 x8_2 ∧ Aside0 (impl_Matches.l0 kq l0 x1_2 l2 x8_2 = some r) ∧ Aside0 (kq ≤ kj3) ∧ Aside0 (Below w.heap.size w w'))
         case atStart => exact ⟨(a1), (wrap64 ((ji17) - 1)), sv_, (by first | rfl | (simp; done) | (simp only [← hji17] <;> (first | rfl | simp)) | (simp [*]; done)), H', ⟨Nat.le_refl _⟩, ⟨bel_⟩⟩
         case round =>
          clear H'
          (try clear c1);(try clear c2);(try clear p2);(try clear c3);(try clear p3);(try clear q3);(try clear hx3);(try clear c4);(try clear c6);(try clear p6);(try clear c8);(try clear c14);(try clear c15);(try clear c15b0);(try clear c16);(try clear c16b0);(try clear c18);(try clear c18b0);(try clear c19);(try clear c19b0);(try clear c21);(try clear hx326_0);(try clear hx326_1);(try clear hx326_2);(try clear hx326_3);(try clear hx327_0);(try clear hx327_1);(try clear hx327_2);(try clear p2);(try clear p326);(try clear p327);(try clear q326);(try clear q327)
          obtain ⟨x1_2, x8_2, rfl, rfl, HA, HK2, HB⟩ := hrel
          cases gk with
          | zero => exact absurd HA.out (by simp [impl_Matches.l0])
          | succ k2 =>
           have H := HA.out
           clear HA
           simp only [impl_Matches.l0] at H
           by_cases c24 : x8_2 ≥ 0
           ·rw [if_pos c24] at H
            have c24b0 : decide (0 ≤ x8_2) = true := decide_eq_true c24
            clear c24
            by_cases c25 : 0 ≤ x1_2
            ·rw [if_pos c25] at H
             have c25b0 : decide (0 ≤ x1_2) = true := decide_eq_true c25
             clear c25
             by_cases c26 : x1_2 < (l0.length : Int)
             ·rw [if_pos c26] at H
              have c26b0 : decide (x1_2 < (l0.length : Int)) = true := decide_eq_true c26
              clear c26
              have H' := Aside0.mk H
              clear H
              have p329 : 0 ≤ (x1_2 : Int) := of_decide_eq_true am_
              have q329 : x1_2 < (l0.length : Int) := of_decide_eq_true am_
              obtain ⟨ad329, A329_2, c329_2, e329, hx329_0, hx329_1, hx329_2, hx329_3, hl329_2, hi329_2⟩ := at_T69 HR0.out x1_2 p329 q329
              obtain rfl : ad326 = ad329 := (by injection e329)
              replace hx329_0 := pw_cell_below HB.out hx329_0
              replace hx329_1 := pw_cell_below HB.out hx329_1
              replace hx329_2 := pw_cell_below HB.out hx329_2
              replace hx329_3 := pw_cell_below HB.out hx329_3
              have HR329_2 := Aside0.mk hi329_2
              have HC329_2 := Aside0.mk hl329_2
              clear hi329_2 hl329_2
              replace p329 := eq_true p329
              replace q329 := eq_true q329
              go_wp2
              go_loopg [1] k2 (fun kq v1 w' => ∃ (x1_3 : Int), v1 = .int .i64 x1_3 ∧ Aside0 (impl_Matches.l1 kq l0 x1_3 l2 x8_2 = some r) ∧ Aside0 (kq ≤ k2) ∧ Aside0 (Below w.heap.size w w'))
              case atStart => exact ⟨((rd_T69 l0 x1_2).f1), sv_, H', ⟨Nat.le_refl _⟩, ⟨bel_⟩⟩
              case round =>
               clear H'
               (try clear c1);(try clear c2);(try clear p2);(try clear c3);(try clear p3);(try clear q3);(try clear hx3);(try clear c4);(try clear c6);(try clear p6);(try clear c8);(try clear c14);(try clear c15);(try clear c15b0);(try clear c16);(try clear c16b0);(try clear c18);(try clear c18b0);(try clear c19);(try clear c19b0);(try clear c21);(try clear c24);(try clear c24b0);(try clear c25);(try clear c25b0);(try clear c26);(try clear c26b0);(try clear hx326_0);(try clear hx326_1);(try clear hx326_2);(try clear hx326_3);(try clear hx327_0);(try clear hx327_1);(try clear hx327_2);(try clear hx329_0);(try clear hx329_1);(try clear hx329_2);(try clear hx329_3);(try clear p2);(try clear p3);(try clear p326);(try clear p327);(try clear p329);(try clear p6);(try clear q3);(try clear q326);(try clear q327);(try clear q329)
               obtain ⟨x1_3, rfl, HA, HK3, HB⟩ := hrel
               cases gk with
               | zero => exact absurd HA.out (by simp [impl_Matches.l1])
               | succ k3 =>
                have H := HA.out
                clear HA
                simp only [impl_Matches.l1] at H
                by_cases c27 : x1_3 ≥ 0
                ·rw [if_pos c27] at H
                 have c27b0 : decide (0 ≤ x1_3) = true := decide_eq_true c27
                 clear c27
                 by_cases c28 : 0 ≤ x1_3
                 ·rw [if_pos c28] at H
                  have c28b0 : decide (0 ≤ x1_3) = true := decide_eq_true c28
                  clear c28
                  by_cases c29 : x1_3 < (l0.length : Int)
                  ·rw [if_pos c29] at H
                   have c29b0 : decide (x1_3 < (l0.length : Int)) = true := decide_eq_true c29
                   clear c29
                   by_cases c30 : 0 ≤ x8_2
                   ·rw [if_pos c30] at H
                    have c30b0 : decide (0 ≤ x8_2) = true := decide_eq_true c30
                    clear c30
                    by_cases c31 : x8_2 < (l2.length : Int)
                    ·rw [if_pos c31] at H
                     have c31b0 : decide (x8_2 < (l2.length : Int)) = true := decide_eq_true c31
                     clear c31
                     replace H := Option.bind_eq_some_iff.mp H
                     obtain ⟨t332, A320, H⟩ := H
                     replace H : (if t332 = true then (if x1_3 < 0 then (some false) else (impl_Matches.l0 k3 l0 x1_3 l2 (wrap64 (x8_2 - 1)))) else (impl_Matches.l1 k3 l0 ((rd_T69 l0 x1_3).f1) l2 x8_2)) = some r := H
                     have A32 := Aside0.mk A320
                     clear A320
                     by_cases c33 : t332 = true
                     ·subst c33
                      have H1 : (if x1_3 < 0 then (some false) else (impl_Matches.l0 k3 l0 x1_3 l2 (wrap64 (x8_2 - 1)))) = some r := by rw [if_pos rfl] at H; exact H
                      clear H
                      have H := H1
                      clear H1
                      have HHc34 := Aside0.mk H
                      clear H
                      try go_wp2
                      have n0_ := Aside0.mk (below_drew1 HB.out)
                      clear HB
                      have HB := n0_
                      clear n0_
                      have p330 : 0 ≤ (x1_3 : Int) := of_decide_eq_true am_
                      have q330 : x1_3 < (l0.length : Int) := of_decide_eq_true am_
                      obtain ⟨ad330, A330_2, c330_2, e330, hx330_0, hx330_1, hx330_2, hx330_3, hl330_2, hi330_2⟩ := at_T69 HR0.out x1_3 p330 q330
                      have hw330_3 := hx330_3
                      have hw330_2 := hx330_2
                      have hw330_1 := hx330_1
                      have hw330_0 := hx330_0
                      obtain rfl : ad326 = ad330 := (by injection e330)
                      replace hx330_0 := pw_cell_below HB.out hx330_0
                      replace hx330_1 := pw_cell_below HB.out hx330_1
                      replace hx330_2 := pw_cell_below HB.out hx330_2
                      replace hx330_3 := pw_cell_below HB.out hx330_3
                      have HR330_2 := Aside0.mk hi330_2
                      have HC330_2 := Aside0.mk hl330_2
                      clear hi330_2 hl330_2
                      replace p330 := eq_true p330
                      replace q330 := eq_true q330
                      have p331 : 0 ≤ (x8_2 : Int) := of_decide_eq_true am_
                      have q331 : x8_2 < (l2.length : Int) := of_decide_eq_true am_
                      obtain ⟨ad331, A331_2, c331_2, e331, hx331_0, hx331_1, hx331_2, hl331_2, hi331_2⟩ := at_T71 HR2.out x8_2 p331 q331
                      have hw331_2 := hx331_2
                      have hw331_1 := hx331_1
                      have hw331_0 := hx331_0
                      obtain rfl : ad327 = ad331 := (by injection e331)
                      replace hx331_0 := pw_cell_below HB.out hx331_0
                      replace hx331_1 := pw_cell_below HB.out hx331_1
                      replace hx331_2 := pw_cell_below HB.out hx331_2
                      have HR331_2 := Aside0.mk hi331_2
                      have HC331_2 := Aside0.mk hl331_2
                      clear hi331_2 hl331_2
                      replace p331 := eq_true p331
                      replace q331 := eq_true q331
                      refine start_ (n := 14) (S := fun w' => w'.cell? (ad326.add ((x1_3).toNat * 4)) = some (.string ((rd_T69 l0 x1_3).f0)) ∧ w'.cell? ⟨(ad326.add ((x1_3).toNat * 4)).block, (ad326.add ((x1_3).toNat * 4)).off + 1, none⟩ = some (.int .i64 ((rd_T69 l0 x1_3).f1)) ∧ w'.cell? ⟨(ad326.add ((x1_3).toNat * 4)).block, (ad326.add ((x1_3).toNat * 4)).off + 2, none⟩ = some (.slice A330_2 ((rd_T69 l0 x1_3).f2).length c330_2) ∧ w'.cell? ⟨(ad326.add ((x1_3).toNat * 4)).block, (ad326.add ((x1_3).toNat * 4)).off + 3, none⟩ = some (.string ((rd_T69 l0 x1_3).f3)) ∧ w'.cell? (ad327.add ((x8_2).toNat * 3)) = some (.string ((rd_T71 l2 x8_2).f0)) ∧ w'.cell? ⟨(ad327.add ((x8_2).toNat * 3)).block, (ad327.add ((x8_2).toNat * 3)).off + 1, none⟩ = some (.string ((rd_T71 l2 x8_2).f1)) ∧ w'.cell? ⟨(ad327.add ((x8_2).toNat * 3)).block, (ad327.add ((x8_2).toNat * 3)).off + 2, none⟩ = some (.slice A331_2 ((rd_T71 l2 x8_2).f2).length c331_2)) (ds := []) #[false, false, false, false, false, false, false, false, false, false, false, false, false, false] (by kernel_rfl) rfl rfl ⟨(pw_cell_below HB.out hw330_0), (pw_cell_below HB.out hw330_1), (pw_cell_below HB.out hw330_2), (pw_cell_below HB.out hw330_3), (pw_cell_below HB.out hw331_0), (pw_cell_below HB.out hw331_1), (pw_cell_below HB.out hw331_2)⟩ (fun hHeld => ?_); refine with_tabW impl_Matches.tab10 impl_Matches.bits10 (fun HT_ HW_ => ?_)
                      generalize wr.drew = w35 at HB HR330_2 HR331_2 hx330_0 hx330_1 hx330_2 hx330_3 hx331_0 hx331_1 hx331_2 hHeld ⊢
                      refine pure_ (i := 0) (N := some 47) (v := ?_) (a' := ?_) #[true, false, false, false, false, false, false, false, false, false, false, false, false, false] rfl rfl (any_of HT_.out (by kernel_rfl)) (fun _ _ _ h => h) (Or.inl ⟨by rfl, ?_⟩) ?_ ?_
                      rotate_left
                      ·intro w'
                       go_simp
                       with_reducible rfl
                      rotate_left
                      ·simp only [Act.put, List.setIfInBounds_toArray, List.set_cons_zero, List.set_cons_succ, i64_w, i32_w]
                       rfl
                      refine pure_ (i := 1) (N := some 48) (v := ?_) (a' := ?_) #[true, true, false, false, false, false, false, false, false, false, false, false, false, false] rfl rfl (any_of HT_.out (by kernel_rfl)) (fun _ _ _ h => h) (Or.inl ⟨by rfl, ?_⟩) ?_ ?_
                      rotate_left
                      ·intro w'
                       go_simp
                       with_reducible rfl
                      rotate_left
                      ·simp only [Act.put, List.setIfInBounds_toArray, List.set_cons_zero, List.set_cons_succ, i64_w, i32_w]
                       rfl
                      refine pure_ (i := 2) (N := some 49) (v := ?_) (a' := ?_) #[true, true, true, false, false, false, false, false, false, false, false, false, false, false] rfl rfl (any_of HT_.out (by kernel_rfl)) (fun _ _ _ h => h) (Or.inl ⟨by rfl, ?_⟩) ?_ ?_
                      rotate_left
                      ·intro w'
                       go_simp
                       with_reducible rfl
                      rotate_left
                      ·simp only [Act.put, List.setIfInBounds_toArray, List.set_cons_zero, List.set_cons_succ, i64_w, i32_w]
                       rfl
                      refine pure_ (i := 3) (N := some 50) (v := ?_) (a' := ?_) #[true, true, true, true, false, false, false, false, false, false, false, false, false, false] rfl rfl (any_of HT_.out (by kernel_rfl)) (fun _ _ _ h => h) (Or.inl ⟨by rfl, ?_⟩) ?_ ?_
                      rotate_left
                      ·intro w'
                       go_simp
                       with_reducible rfl
                      rotate_left
                      ·simp only [Act.put, List.setIfInBounds_toArray, List.set_cons_zero, List.set_cons_succ, i64_w, i32_w]
                       rfl
                      refine pure_ (i := 4) (N := some 51) (v := ?_) (a' := ?_) #[true, true, true, true, true, false, false, false, false, false, false, false, false, false] rfl rfl (any_of HT_.out (by kernel_rfl)) (fun _ _ _ h => h) (Or.inl ⟨by rfl, ?_⟩) ?_ ?_
                      rotate_left
                      ·intro w'
                       go_simp
                       with_reducible rfl
                      rotate_left
                      ·simp only [Act.put, List.setIfInBounds_toArray, List.set_cons_zero, List.set_cons_succ, i64_w, i32_w]
                       rfl
                      refine pure_ (i := 5) (N := some 52) (v := ?_) (a' := ?_) #[true, true, true, true, true, true, false, false, false, false, false, false, false, false] rfl rfl (any_of HT_.out (by kernel_rfl)) (fun _ _ _ h => h) (Or.inl ⟨by rfl, ?_⟩) ?_ ?_
                      rotate_left
                      ·intro w'
                       go_simp
                       with_reducible rfl
                      rotate_left
                      ·simp only [Act.put, List.setIfInBounds_toArray, List.set_cons_zero, List.set_cons_succ, i64_w, i32_w]
                       rfl
                      refine pure_ (i := 7) (N := some 54) (v := ?_) (a' := ?_) #[true, true, true, true, true, true, false, true, false, false, false, false, false, false] rfl rfl (any_of HT_.out (by kernel_rfl)) (fun _ _ _ h => h) (Or.inl ⟨by rfl, ?_⟩) ?_ ?_
                      rotate_left
                      ·intro w'
                       go_simp
                       with_reducible rfl
                      rotate_left
                      ·simp only [Act.put, List.setIfInBounds_toArray, List.set_cons_zero, List.set_cons_succ, i64_w, i32_w]
                       rfl
                      refine pure_ (i := 8) (N := some 55) (v := ?_) (a' := ?_) #[true, true, true, true, true, true, false, true, true, false, false, false, false, false] rfl rfl (any_of HT_.out (by kernel_rfl)) (fun _ _ _ h => h) (Or.inl ⟨by rfl, ?_⟩) ?_ ?_
                      rotate_left
                      ·intro w'
                       go_simp
                       with_reducible rfl
                      rotate_left
                      ·simp only [Act.put, List.setIfInBounds_toArray, List.set_cons_zero, List.set_cons_succ, i64_w, i32_w]
                       rfl
                      refine pure_ (i := 9) (N := some 56) (v := ?_) (a' := ?_) #[true, true, true, true, true, true, false, true, true, true, false, false, false, false] rfl rfl (any_of HT_.out (by kernel_rfl)) (fun _ _ _ h => h) (Or.inl ⟨by rfl, ?_⟩) ?_ ?_
                      rotate_left
                      ·intro w'
                       go_simp
                       with_reducible rfl
                      rotate_left
                      ·simp only [Act.put, List.setIfInBounds_toArray, List.set_cons_zero, List.set_cons_succ, i64_w, i32_w]
                       rfl
                      refine take_ (i := 6) (N := some 53) (v := ?_) (a' := ?_) #[true, true, true, true, true, true, true, true, true, true, false, false, false, false] rfl rfl (take_ofW HT_.out HW_.out (by kernel_rfl)) (fun _ _ _ h => h) (Or.inl ⟨by rfl, ?_⟩) hHeld ?_ ?_
                      rotate_left
                      ·rintro w' ⟨s0, s1, s2, s3, s4, s5, s6⟩
                       go_simp
                       with_reducible rfl
                      rotate_left
                      ·simp only [Act.put, List.setIfInBounds_toArray, List.set_cons_zero, List.set_cons_succ, i64_w, i32_w]
                       rfl
                      refine take_ (i := 10) (N := some 57) (v := ?_) (a' := ?_) #[true, true, true, true, true, true, true, true, true, true, true, false, false, false] rfl rfl (take_ofW HT_.out HW_.out (by kernel_rfl)) (fun _ _ _ h => h) (Or.inl ⟨by rfl, ?_⟩) hHeld ?_ ?_
                      rotate_left
                      ·rintro w' ⟨s0, s1, s2, s3, s4, s5, s6⟩
                       go_simp
                       with_reducible rfl
                      rotate_left
                      ·simp only [Act.put, List.setIfInBounds_toArray, List.set_cons_zero, List.set_cons_succ, i64_w, i32_w]
                       rfl
                      refine one_ (i := 11) (N := some 58) #[true, true, true, true, true, true, true, true, true, true, true, true, false, false] rfl rfl (one_of HT_.out (by kernel_rfl)) (by decide) (fun K hK => ?_)
                      refine goes_ Tryd.func46 (by kernel_rfl) rfl #[.agg #[.string ((rd_T69 l0 x1_3).f0), .int .i64 ((rd_T69 l0 x1_3).f1), .slice A330_2 ((rd_T69 l0 x1_3).f2).length c330_2, .string ((rd_T69 l0 x1_3).f3)], .agg #[.string ((rd_T71 l2 x8_2).f0), .string ((rd_T71 l2 x8_2).f1), .slice A331_2 ((rd_T71 l2 x8_2).f2).length c331_2]] (by rfl) rfl rfl au_ ?_
                      with_reducible refine (impl_fits.calls k3 ((rd_T69 l0 x1_3).f0) ((rd_T69 l0 x1_3).f1) _ _ ((rd_T69 l0 x1_3).f2) ((rd_T69 l0 x1_3).f3) ((rd_T71 l2 x8_2).f0) ((rd_T71 l2 x8_2).f1) _ _ ((rd_T71 l2 x8_2).f2) true _ ?side1 ?side2 ?side3 ?side4 A32.out).mono ?_
                      (case side1 => exact cs_ (Kd.C_below HR330_2.out HB.out))
                      (case side2 => exact HC330_2.out)
                      (case side3 => exact cs_ (Kd.C_below HR331_2.out HB.out))
                      (case side4 => exact HC331_2.out)
                      rintro e w36 ⟨rfl, hb⟩
                      refine ⟨_, rfl, ?_⟩
                      have n0_ := Aside0.mk (below_step bel_ hb)
                      clear HB
                      have HB := n0_
                      clear n0_
                      (try clear hb)
                      (try clear hb2)
                      (try clear hk)
                      (try clear hi)
                      refine hK.out _ _ ⟨(pw_cell_below HB.out hw330_0), (pw_cell_below HB.out hw330_1), (pw_cell_below HB.out hw330_2), (pw_cell_below HB.out hw330_3), (pw_cell_below HB.out hw331_0), (pw_cell_below HB.out hw331_1), (pw_cell_below HB.out hw331_2)⟩ (fun hHeld => ?_)
                      clear hK K
                      refine norm_ (a' := ?_) ?_ ?_
                      rotate_left
                      ·show Act.put _ (some 58) _ = _
                       simp only [Act.put, List.setIfInBounds_toArray, List.set_cons_zero, List.set_cons_succ, i64_w, i32_w]
                       rfl
                      refine pure_ (i := 12) (N := some 59) (v := ?_) (a' := ?_) #[true, true, true, true, true, true, true, true, true, true, true, true, true, false] rfl rfl (any_of HT_.out (by kernel_rfl)) (fun _ _ _ h => h) (Or.inl ⟨by rfl, ?_⟩) ?_ ?_
                      rotate_left
                      ·intro w'
                       go_simp
                       with_reducible rfl
                      rotate_left
                      ·simp only [Act.put, List.setIfInBounds_toArray, List.set_cons_zero, List.set_cons_succ, i64_w, i32_w]
                       rfl
                      refine pure_ (i := 13) (N := some 60) (v := ?_) (a' := ?_) #[true, true, true, true, true, true, true, true, true, true, true, true, true, true] rfl rfl (any_of HT_.out (by kernel_rfl)) (fun _ _ _ h => h) (Or.inl ⟨by rfl, ?_⟩) ?_ ?_
                      rotate_left
                      ·intro w'
                       go_simp
                       with_reducible rfl
                      rotate_left
                      ·simp only [Act.put, List.setIfInBounds_toArray, List.set_cons_zero, List.set_cons_succ, i64_w, i32_w]
                       rfl
                      refine done_ (done_of HT_.out (by kernel_rfl)) ?_
                      by_cases c34 : x1_3 < 0
                      ·have H := HHc34.out
                       clear HHc34
                       rw [if_pos c34] at H
                       have c34b0 : decide (x1_3 < 0) = true := decide_eq_true c34
                       clear c34
                       obtain rfl := Option.some.inj H
                       try go_wp2
                       go_ret
                       exact ⟨by first | rfl | (simp [errW_none, errW_some] <;> rfl) | (simp only [← hji17]; first | rfl | (simp [errW_none, errW_some] <;> rfl)) | (simp [*, errW_none, errW_some] <;> rfl), bel_⟩
                      ·have H := HHc34.out
                       clear HHc34
                       rw [if_neg c34] at H
                       have c34b0 : decide (x1_3 < 0) = false := decide_eq_false c34
                       clear c34
                       have H' := Aside0.mk H
                       clear H
                       try go_wp2
                       go_roundg k3
                       case measure => have := HJ3.out; have := HK2.out; have := HK3.out; omega
                       case rel => exact ⟨(x1_3), (wrap64 (x8_2 - 1)), sv_, sv_, H', ⟨by have := HJ3.out; have := HK2.out; have := HK3.out; omega⟩, ⟨bel_⟩⟩
                     ·replace c33 := Bool.eq_false_iff.mpr c33
                      subst c33
                      have H1 : (impl_Matches.l1 k3 l0 ((rd_T69 l0 x1_3).f1) l2 x8_2) = some r := by rw [if_neg (show ¬ (false = true) by decide)] at H; exact H
                      clear H
                      have H := H1
                      clear H1
                      have H' := Aside0.mk H
                      clear H
                      try go_wp2
                      have n0_ := Aside0.mk (below_drew1 HB.out)
                      clear HB
                      have HB := n0_
                      clear n0_
                      have p330 : 0 ≤ (x1_3 : Int) := of_decide_eq_true am_
                      have q330 : x1_3 < (l0.length : Int) := of_decide_eq_true am_
                      obtain ⟨ad330, A330_2, c330_2, e330, hx330_0, hx330_1, hx330_2, hx330_3, hl330_2, hi330_2⟩ := at_T69 HR0.out x1_3 p330 q330
                      have hw330_3 := hx330_3
                      have hw330_2 := hx330_2
                      have hw330_1 := hx330_1
                      have hw330_0 := hx330_0
                      obtain rfl : ad326 = ad330 := (by injection e330)
                      replace hx330_0 := pw_cell_below HB.out hx330_0
                      replace hx330_1 := pw_cell_below HB.out hx330_1
                      replace hx330_2 := pw_cell_below HB.out hx330_2
                      replace hx330_3 := pw_cell_below HB.out hx330_3
                      have HR330_2 := Aside0.mk hi330_2
                      have HC330_2 := Aside0.mk hl330_2
                      clear hi330_2 hl330_2
                      replace p330 := eq_true p330
                      replace q330 := eq_true q330
                      have p331 : 0 ≤ (x8_2 : Int) := of_decide_eq_true am_
                      have q331 : x8_2 < (l2.length : Int) := of_decide_eq_true am_
                      obtain ⟨ad331, A331_2, c331_2, e331, hx331_0, hx331_1, hx331_2, hl331_2, hi331_2⟩ := at_T71 HR2.out x8_2 p331 q331
                      have hw331_2 := hx331_2
                      have hw331_1 := hx331_1
                      have hw331_0 := hx331_0
                      obtain rfl : ad327 = ad331 := (by injection e331)
                      replace hx331_0 := pw_cell_below HB.out hx331_0
                      replace hx331_1 := pw_cell_below HB.out hx331_1
                      replace hx331_2 := pw_cell_below HB.out hx331_2
                      have HR331_2 := Aside0.mk hi331_2
                      have HC331_2 := Aside0.mk hl331_2
                      clear hi331_2 hl331_2
                      replace p331 := eq_true p331
                      replace q331 := eq_true q331
                      refine start_ (n := 14) (S := fun w' => w'.cell? (ad326.add ((x1_3).toNat * 4)) = some (.string ((rd_T69 l0 x1_3).f0)) ∧ w'.cell? ⟨(ad326.add ((x1_3).toNat * 4)).block, (ad326.add ((x1_3).toNat * 4)).off + 1, none⟩ = some (.int .i64 ((rd_T69 l0 x1_3).f1)) ∧ w'.cell? ⟨(ad326.add ((x1_3).toNat * 4)).block, (ad326.add ((x1_3).toNat * 4)).off + 2, none⟩ = some (.slice A330_2 ((rd_T69 l0 x1_3).f2).length c330_2) ∧ w'.cell? ⟨(ad326.add ((x1_3).toNat * 4)).block, (ad326.add ((x1_3).toNat * 4)).off + 3, none⟩ = some (.string ((rd_T69 l0 x1_3).f3)) ∧ w'.cell? (ad327.add ((x8_2).toNat * 3)) = some (.string ((rd_T71 l2 x8_2).f0)) ∧ w'.cell? ⟨(ad327.add ((x8_2).toNat * 3)).block, (ad327.add ((x8_2).toNat * 3)).off + 1, none⟩ = some (.string ((rd_T71 l2 x8_2).f1)) ∧ w'.cell? ⟨(ad327.add ((x8_2).toNat * 3)).block, (ad327.add ((x8_2).toNat * 3)).off + 2, none⟩ = some (.slice A331_2 ((rd_T71 l2 x8_2).f2).length c331_2)) (ds := []) #[false, false, false, false, false, false, false, false, false, false, false, false, false, false] (by kernel_rfl) rfl rfl ⟨(pw_cell_below HB.out hw330_0), (pw_cell_below HB.out hw330_1), (pw_cell_below HB.out hw330_2), (pw_cell_below HB.out hw330_3), (pw_cell_below HB.out hw331_0), (pw_cell_below HB.out hw331_1), (pw_cell_below HB.out hw331_2)⟩ (fun hHeld => ?_); refine with_tabW impl_Matches.tab10 impl_Matches.bits10 (fun HT_ HW_ => ?_)
                      generalize wr.drew = w39 at HB HR330_2 HR331_2 hx330_0 hx330_1 hx330_2 hx330_3 hx331_0 hx331_1 hx331_2 hHeld ⊢
                      refine pure_ (i := 0) (N := some 47) (v := ?_) (a' := ?_) #[true, false, false, false, false, false, false, false, false, false, false, false, false, false] rfl rfl (any_of HT_.out (by kernel_rfl)) (fun _ _ _ h => h) (Or.inl ⟨by rfl, ?_⟩) ?_ ?_
                      rotate_left
                      ·intro w'
                       go_simp
                       with_reducible rfl
                      rotate_left
                      ·simp only [Act.put, List.setIfInBounds_toArray, List.set_cons_zero, List.set_cons_succ, i64_w, i32_w]
                       rfl
                      refine pure_ (i := 1) (N := some 48) (v := ?_) (a' := ?_) #[true, true, false, false, false, false, false, false, false, false, false, false, false, false] rfl rfl (any_of HT_.out (by kernel_rfl)) (fun _ _ _ h => h) (Or.inl ⟨by rfl, ?_⟩) ?_ ?_
                      rotate_left
                      ·intro w'
                       go_simp
                       with_reducible rfl
                      rotate_left
                      ·simp only [Act.put, List.setIfInBounds_toArray, List.set_cons_zero, List.set_cons_succ, i64_w, i32_w]
                       rfl
                      refine pure_ (i := 2) (N := some 49) (v := ?_) (a' := ?_) #[true, true, true, false, false, false, false, false, false, false, false, false, false, false] rfl rfl (any_of HT_.out (by kernel_rfl)) (fun _ _ _ h => h) (Or.inl ⟨by rfl, ?_⟩) ?_ ?_
                      rotate_left
                      ·intro w'
                       go_simp
                       with_reducible rfl
                      rotate_left
                      ·simp only [Act.put, List.setIfInBounds_toArray, List.set_cons_zero, List.set_cons_succ, i64_w, i32_w]
                       rfl
                      refine pure_ (i := 3) (N := some 50) (v := ?_) (a' := ?_) #[true, true, true, true, false, false, false, false, false, false, false, false, false, false] rfl rfl (any_of HT_.out (by kernel_rfl)) (fun _ _ _ h => h) (Or.inl ⟨by rfl, ?_⟩) ?_ ?_
                      rotate_left
                      ·intro w'
                       go_simp
                       with_reducible rfl
                      rotate_left
                      ·simp only [Act.put, List.setIfInBounds_toArray, List.set_cons_zero, List.set_cons_succ, i64_w, i32_w]
                       rfl
                      refine pure_ (i := 4) (N := some 51) (v := ?_) (a' := ?_) #[true, true, true, true, true, false, false, false, false, false, false, false, false, false] rfl rfl (any_of HT_.out (by kernel_rfl)) (fun _ _ _ h => h) (Or.inl ⟨by rfl, ?_⟩) ?_ ?_
                      rotate_left
                      ·intro w'
                       go_simp
                       with_reducible rfl
                      rotate_left
                      ·simp only [Act.put, List.setIfInBounds_toArray, List.set_cons_zero, List.set_cons_succ, i64_w, i32_w]
                       rfl
                      refine pure_ (i := 5) (N := some 52) (v := ?_) (a' := ?_) #[true, true, true, true, true, true, false, false, false, false, false, false, false, false] rfl rfl (any_of HT_.out (by kernel_rfl)) (fun _ _ _ h => h) (Or.inl ⟨by rfl, ?_⟩) ?_ ?_
                      rotate_left
                      ·intro w'
                       go_simp
                       with_reducible rfl
                      rotate_left
                      ·simp only [Act.put, List.setIfInBounds_toArray, List.set_cons_zero, List.set_cons_succ, i64_w, i32_w]
                       rfl
                      refine pure_ (i := 7) (N := some 54) (v := ?_) (a' := ?_) #[true, true, true, true, true, true, false, true, false, false, false, false, false, false] rfl rfl (any_of HT_.out (by kernel_rfl)) (fun _ _ _ h => h) (Or.inl ⟨by rfl, ?_⟩) ?_ ?_
                      rotate_left
                      ·intro w'
                       go_simp
                       with_reducible rfl
                      rotate_left
                      ·simp only [Act.put, List.setIfInBounds_toArray, List.set_cons_zero, List.set_cons_succ, i64_w, i32_w]
                       rfl
                      refine pure_ (i := 8) (N := some 55) (v := ?_) (a' := ?_) #[true, true, true, true, true, true, false, true, true, false, false, false, false, false] rfl rfl (any_of HT_.out (by kernel_rfl)) (fun _ _ _ h => h) (Or.inl ⟨by rfl, ?_⟩) ?_ ?_
                      rotate_left
                      ·intro w'
                       go_simp
                       with_reducible rfl
                      rotate_left
                      ·simp only [Act.put, List.setIfInBounds_toArray, List.set_cons_zero, List.set_cons_succ, i64_w, i32_w]
                       rfl
                      refine pure_ (i := 9) (N := some 56) (v := ?_) (a' := ?_) #[true, true, true, true, true, true, false, true, true, true, false, false, false, false] rfl rfl (any_of HT_.out (by kernel_rfl)) (fun _ _ _ h => h) (Or.inl ⟨by rfl, ?_⟩) ?_ ?_
                      rotate_left
                      ·intro w'
                       go_simp
                       with_reducible rfl
                      rotate_left
                      ·simp only [Act.put, List.setIfInBounds_toArray, List.set_cons_zero, List.set_cons_succ, i64_w, i32_w]
                       rfl
                      refine take_ (i := 6) (N := some 53) (v := ?_) (a' := ?_) #[true, true, true, true, true, true, true, true, true, true, false, false, false, false] rfl rfl (take_ofW HT_.out HW_.out (by kernel_rfl)) (fun _ _ _ h => h) (Or.inl ⟨by rfl, ?_⟩) hHeld ?_ ?_
                      rotate_left
                      ·rintro w' ⟨s0, s1, s2, s3, s4, s5, s6⟩
                       go_simp
                       with_reducible rfl
                      rotate_left
                      ·simp only [Act.put, List.setIfInBounds_toArray, List.set_cons_zero, List.set_cons_succ, i64_w, i32_w]
                       rfl
                      refine take_ (i := 10) (N := some 57) (v := ?_) (a' := ?_) #[true, true, true, true, true, true, true, true, true, true, true, false, false, false] rfl rfl (take_ofW HT_.out HW_.out (by kernel_rfl)) (fun _ _ _ h => h) (Or.inl ⟨by rfl, ?_⟩) hHeld ?_ ?_
                      rotate_left
                      ·rintro w' ⟨s0, s1, s2, s3, s4, s5, s6⟩
                       go_simp
                       with_reducible rfl
                      rotate_left
                      ·simp only [Act.put, List.setIfInBounds_toArray, List.set_cons_zero, List.set_cons_succ, i64_w, i32_w]
                       rfl
                      refine one_ (i := 11) (N := some 58) #[true, true, true, true, true, true, true, true, true, true, true, true, false, false] rfl rfl (one_of HT_.out (by kernel_rfl)) (by decide) (fun K hK => ?_)
                      refine goes_ Tryd.func46 (by kernel_rfl) rfl #[.agg #[.string ((rd_T69 l0 x1_3).f0), .int .i64 ((rd_T69 l0 x1_3).f1), .slice A330_2 ((rd_T69 l0 x1_3).f2).length c330_2, .string ((rd_T69 l0 x1_3).f3)], .agg #[.string ((rd_T71 l2 x8_2).f0), .string ((rd_T71 l2 x8_2).f1), .slice A331_2 ((rd_T71 l2 x8_2).f2).length c331_2]] (by rfl) rfl rfl au_ ?_
                      with_reducible refine (impl_fits.calls k3 ((rd_T69 l0 x1_3).f0) ((rd_T69 l0 x1_3).f1) _ _ ((rd_T69 l0 x1_3).f2) ((rd_T69 l0 x1_3).f3) ((rd_T71 l2 x8_2).f0) ((rd_T71 l2 x8_2).f1) _ _ ((rd_T71 l2 x8_2).f2) false _ ?side1 ?side2 ?side3 ?side4 A32.out).mono ?_
                      (case side1 => exact cs_ (Kd.C_below HR330_2.out HB.out))
                      (case side2 => exact HC330_2.out)
                      (case side3 => exact cs_ (Kd.C_below HR331_2.out HB.out))
                      (case side4 => exact HC331_2.out)
                      rintro e w40 ⟨rfl, hb⟩
                      refine ⟨_, rfl, ?_⟩
                      have n0_ := Aside0.mk (below_step bel_ hb)
                      clear HB
                      have HB := n0_
                      clear n0_
                      (try clear hb)
                      (try clear hb2)
                      (try clear hk)
                      (try clear hi)
                      refine hK.out _ _ ⟨(pw_cell_below HB.out hw330_0), (pw_cell_below HB.out hw330_1), (pw_cell_below HB.out hw330_2), (pw_cell_below HB.out hw330_3), (pw_cell_below HB.out hw331_0), (pw_cell_below HB.out hw331_1), (pw_cell_below HB.out hw331_2)⟩ (fun hHeld => ?_)
                      clear hK K
                      refine norm_ (a' := ?_) ?_ ?_
                      rotate_left
                      ·show Act.put _ (some 58) _ = _
                       simp only [Act.put, List.setIfInBounds_toArray, List.set_cons_zero, List.set_cons_succ, i64_w, i32_w]
                       rfl
                      refine pure_ (i := 12) (N := some 59) (v := ?_) (a' := ?_) #[true, true, true, true, true, true, true, true, true, true, true, true, true, false] rfl rfl (any_of HT_.out (by kernel_rfl)) (fun _ _ _ h => h) (Or.inl ⟨by rfl, ?_⟩) ?_ ?_
                      rotate_left
                      ·intro w'
                       go_simp
                       with_reducible rfl
                      rotate_left
                      ·simp only [Act.put, List.setIfInBounds_toArray, List.set_cons_zero, List.set_cons_succ, i64_w, i32_w]
                       rfl
                      refine pure_ (i := 13) (N := some 60) (v := ?_) (a' := ?_) #[true, true, true, true, true, true, true, true, true, true, true, true, true, true] rfl rfl (any_of HT_.out (by kernel_rfl)) (fun _ _ _ h => h) (Or.inl ⟨by rfl, ?_⟩) ?_ ?_
                      rotate_left
                      ·intro w'
                       go_simp
                       with_reducible rfl
                      rotate_left
                      ·simp only [Act.put, List.setIfInBounds_toArray, List.set_cons_zero, List.set_cons_succ, i64_w, i32_w]
                       rfl
                      refine done_ (done_of HT_.out (by kernel_rfl)) ?_
                      have p333 : 0 ≤ (x1_3 : Int) := of_decide_eq_true am_
                      have q333 : x1_3 < (l0.length : Int) := of_decide_eq_true am_
                      obtain ⟨ad333, A333_2, c333_2, e333, hx333_0, hx333_1, hx333_2, hx333_3, hl333_2, hi333_2⟩ := at_T69 HR0.out x1_3 p333 q333
                      obtain rfl : ad326 = ad333 := (by injection e333)
                      replace hx333_0 := pw_cell_below HB.out hx333_0
                      replace hx333_1 := pw_cell_below HB.out hx333_1
                      replace hx333_2 := pw_cell_below HB.out hx333_2
                      replace hx333_3 := pw_cell_below HB.out hx333_3
                      have HR333_2 := Aside0.mk hi333_2
                      have HC333_2 := Aside0.mk hl333_2
                      clear hi333_2 hl333_2
                      replace p333 := eq_true p333
                      replace q333 := eq_true q333
                      try go_wp2
                      go_roundg k3
                      case measure => have := HJ3.out; have := HK2.out; have := HK3.out; omega
                      case rel => exact ⟨((rd_T69 l0 x1_3).f1), sv_, H', ⟨by have := HJ3.out; have := HK2.out; have := HK3.out; omega⟩, ⟨bel_⟩⟩
                    ·rw [if_neg c31] at H
                     exact absurd H (by simp)
                   ·rw [if_neg c30] at H
                    exact absurd H (by simp)
                  ·rw [if_neg c29] at H
                   exact absurd H (by simp)
                 ·rw [if_neg c28] at H
                  exact absurd H (by simp)
                ·rw [if_neg c27] at H
                 have c27b0 : decide (0 ≤ x1_3) = false := decide_eq_false c27
                 clear c27
                 by_cases c41 : x1_3 < 0
                 ·rw [if_pos c41] at H
                  have c41b0 : decide (x1_3 < 0) = true := decide_eq_true c41
                  clear c41
                  obtain rfl := Option.some.inj H
                  try go_wp2
                  have n0_ := Aside0.mk (below_drew1 HB.out)
                  clear HB
                  have HB := n0_
                  clear n0_
                  refine start_ (n := 14) (S := fun w' => True) (ds := []) #[false, false, false, false, false, false, false, false, false, false, false, false, false, false] (by kernel_rfl) rfl rfl trivial (fun hHeld => ?_); refine with_tabW impl_Matches.tab10 impl_Matches.bits10 (fun HT_ HW_ => ?_)
                  generalize wr.drew = w42 at HB hHeld ⊢
                  refine pure_ (i := 0) (N := some 47) (v := ?_) (a' := ?_) #[true, false, false, false, false, false, false, false, false, false, false, false, false, false] rfl rfl (any_of HT_.out (by kernel_rfl)) (fun _ _ _ h => h) (Or.inl ⟨by rfl, ?_⟩) ?_ ?_
                  rotate_left
                  ·intro w'
                   go_simp
                   with_reducible rfl
                  rotate_left
                  ·simp only [Act.put, List.setIfInBounds_toArray, List.set_cons_zero, List.set_cons_succ, i64_w, i32_w]
                   rfl
                  refine pure_ (i := 1) (N := some 48) (v := ?_) (a' := ?_) #[true, true, false, false, false, false, false, false, false, false, false, false, false, false] rfl rfl (any_of HT_.out (by kernel_rfl)) (fun _ _ _ h => h) (Or.inl ⟨by rfl, ?_⟩) ?_ ?_
                  rotate_left
                  ·intro w'
                   go_simp
                   with_reducible rfl
                  rotate_left
                  ·simp only [Act.put, List.setIfInBounds_toArray, List.set_cons_zero, List.set_cons_succ, i64_w, i32_w]
                   rfl
                  refine pure_ (i := 2) (N := some 49) (v := ?_) (a' := ?_) #[true, true, true, false, false, false, false, false, false, false, false, false, false, false] rfl rfl (any_of HT_.out (by kernel_rfl)) (fun _ _ _ h => h) (Or.inl ⟨by rfl, ?_⟩) ?_ ?_
                  rotate_left
                  ·intro w'
                   go_simp
                   with_reducible rfl
                  rotate_left
                  ·simp only [Act.put, List.setIfInBounds_toArray, List.set_cons_zero, List.set_cons_succ, i64_w, i32_w]
                   rfl
                  refine pure_ (i := 3) (N := some 50) (v := undef) (a' := ?_) #[true, true, true, true, false, false, false, false, false, false, false, false, false, false] rfl rfl (any_of HT_.out (by kernel_rfl)) (fun _ _ _ h => h) (Or.inr ⟨by rfl, rfl⟩) ?_ ?_
                  rotate_left
                  ·simp only [Act.put, List.setIfInBounds_toArray, List.set_cons_zero, List.set_cons_succ, i64_w, i32_w]
                   rfl
                  refine pure_ (i := 4) (N := some 51) (v := undef) (a' := ?_) #[true, true, true, true, true, false, false, false, false, false, false, false, false, false] rfl rfl (any_of HT_.out (by kernel_rfl)) (fun _ _ _ h => h) (Or.inr ⟨by rfl, rfl⟩) ?_ ?_
                  rotate_left
                  ·simp only [Act.put, List.setIfInBounds_toArray, List.set_cons_zero, List.set_cons_succ, i64_w, i32_w]
                   rfl
                  refine pure_ (i := 5) (N := some 52) (v := undef) (a' := ?_) #[true, true, true, true, true, true, false, false, false, false, false, false, false, false] rfl rfl (any_of HT_.out (by kernel_rfl)) (fun _ _ _ h => h) (Or.inr ⟨by rfl, rfl⟩) ?_ ?_
                  rotate_left
                  ·simp only [Act.put, List.setIfInBounds_toArray, List.set_cons_zero, List.set_cons_succ, i64_w, i32_w]
                   rfl
                  refine pure_ (i := 6) (N := some 53) (v := undef) (a' := ?_) #[true, true, true, true, true, true, true, false, false, false, false, false, false, false] rfl rfl (any_of HT_.out (by kernel_rfl)) (fun _ _ _ h => h) (Or.inr ⟨by rfl, rfl⟩) ?_ ?_
                  rotate_left
                  ·simp only [Act.put, List.setIfInBounds_toArray, List.set_cons_zero, List.set_cons_succ, i64_w, i32_w]
                   rfl
                  refine pure_ (i := 7) (N := some 54) (v := undef) (a' := ?_) #[true, true, true, true, true, true, true, true, false, false, false, false, false, false] rfl rfl (any_of HT_.out (by kernel_rfl)) (fun _ _ _ h => h) (Or.inr ⟨by rfl, rfl⟩) ?_ ?_
                  rotate_left
                  ·simp only [Act.put, List.setIfInBounds_toArray, List.set_cons_zero, List.set_cons_succ, i64_w, i32_w]
                   rfl
                  refine pure_ (i := 8) (N := some 55) (v := undef) (a' := ?_) #[true, true, true, true, true, true, true, true, true, false, false, false, false, false] rfl rfl (any_of HT_.out (by kernel_rfl)) (fun _ _ _ h => h) (Or.inr ⟨by rfl, rfl⟩) ?_ ?_
                  rotate_left
                  ·simp only [Act.put, List.setIfInBounds_toArray, List.set_cons_zero, List.set_cons_succ, i64_w, i32_w]
                   rfl
                  refine pure_ (i := 9) (N := some 56) (v := undef) (a' := ?_) #[true, true, true, true, true, true, true, true, true, true, false, false, false, false] rfl rfl (any_of HT_.out (by kernel_rfl)) (fun _ _ _ h => h) (Or.inr ⟨by rfl, rfl⟩) ?_ ?_
                  rotate_left
                  ·simp only [Act.put, List.setIfInBounds_toArray, List.set_cons_zero, List.set_cons_succ, i64_w, i32_w]
                   rfl
                  refine pure_ (i := 10) (N := some 57) (v := undef) (a' := ?_) #[true, true, true, true, true, true, true, true, true, true, true, false, false, false] rfl rfl (any_of HT_.out (by kernel_rfl)) (fun _ _ _ h => h) (Or.inr ⟨by rfl, rfl⟩) ?_ ?_
                  rotate_left
                  ·simp only [Act.put, List.setIfInBounds_toArray, List.set_cons_zero, List.set_cons_succ, i64_w, i32_w]
                   rfl
                  refine pure_ (i := 11) (N := some 58) (v := undef) (a' := ?_) #[true, true, true, true, true, true, true, true, true, true, true, true, false, false] rfl rfl (any_of HT_.out (by kernel_rfl)) (fun _ _ _ h => h) (Or.inr ⟨by rfl, rfl⟩) ?_ ?_
                  rotate_left
                  ·simp only [Act.put, List.setIfInBounds_toArray, List.set_cons_zero, List.set_cons_succ, i64_w, i32_w]
                   rfl
                  refine pure_ (i := 12) (N := some 59) (v := undef) (a' := ?_) #[true, true, true, true, true, true, true, true, true, true, true, true, true, false] rfl rfl (any_of HT_.out (by kernel_rfl)) (fun _ _ _ h => h) (Or.inr ⟨by rfl, rfl⟩) ?_ ?_
                  rotate_left
                  ·simp only [Act.put, List.setIfInBounds_toArray, List.set_cons_zero, List.set_cons_succ, i64_w, i32_w]
                   rfl
                  refine pure_ (i := 13) (N := some 60) (v := ?_) (a' := ?_) #[true, true, true, true, true, true, true, true, true, true, true, true, true, true] rfl rfl (any_of HT_.out (by kernel_rfl)) (fun _ _ _ h => h) (Or.inl ⟨by rfl, ?_⟩) ?_ ?_
                  rotate_left
                  ·intro w'
                   go_simp
                   with_reducible rfl
                  rotate_left
                  ·simp only [Act.put, List.setIfInBounds_toArray, List.set_cons_zero, List.set_cons_succ, i64_w, i32_w]
                   rfl
                  refine done_ (done_of HT_.out (by kernel_rfl)) ?_
                  try go_wp2
                  go_ret
                  exact ⟨by first | rfl | (simp [errW_none, errW_some] <;> rfl) | (simp only [← hji17]; first | rfl | (simp [errW_none, errW_some] <;> rfl)) | (simp [*, errW_none, errW_some] <;> rfl), bel_⟩
                 ·rw [if_neg c41] at H
                  have c41b0 : decide (x1_3 < 0) = false := decide_eq_false c41
                  clear c41
                  have H' := Aside0.mk H
                  clear H
                  try go_wp2
                  have n0_ := Aside0.mk (below_drew1 HB.out)
                  clear HB
                  have HB := n0_
                  clear n0_
                  refine start_ (n := 14) (S := fun w' => True) (ds := []) #[false, false, false, false, false, false, false, false, false, false, false, false, false, false] (by kernel_rfl) rfl rfl trivial (fun hHeld => ?_); refine with_tabW impl_Matches.tab10 impl_Matches.bits10 (fun HT_ HW_ => ?_)
                  generalize wr.drew = w43 at HB hHeld ⊢
                  refine pure_ (i := 0) (N := some 47) (v := ?_) (a' := ?_) #[true, false, false, false, false, false, false, false, false, false, false, false, false, false] rfl rfl (any_of HT_.out (by kernel_rfl)) (fun _ _ _ h => h) (Or.inl ⟨by rfl, ?_⟩) ?_ ?_
                  rotate_left
                  ·intro w'
                   go_simp
                   with_reducible rfl
                  rotate_left
                  ·simp only [Act.put, List.setIfInBounds_toArray, List.set_cons_zero, List.set_cons_succ, i64_w, i32_w]
                   rfl
                  refine pure_ (i := 1) (N := some 48) (v := ?_) (a' := ?_) #[true, true, false, false, false, false, false, false, false, false, false, false, false, false] rfl rfl (any_of HT_.out (by kernel_rfl)) (fun _ _ _ h => h) (Or.inl ⟨by rfl, ?_⟩) ?_ ?_
                  rotate_left
                  ·intro w'
                   go_simp
                   with_reducible rfl
                  rotate_left
                  ·simp only [Act.put, List.setIfInBounds_toArray, List.set_cons_zero, List.set_cons_succ, i64_w, i32_w]
                   rfl
                  refine pure_ (i := 2) (N := some 49) (v := ?_) (a' := ?_) #[true, true, true, false, false, false, false, false, false, false, false, false, false, false] rfl rfl (any_of HT_.out (by kernel_rfl)) (fun _ _ _ h => h) (Or.inl ⟨by rfl, ?_⟩) ?_ ?_
                  rotate_left
                  ·intro w'
                   go_simp
                   with_reducible rfl
                  rotate_left
                  ·simp only [Act.put, List.setIfInBounds_toArray, List.set_cons_zero, List.set_cons_succ, i64_w, i32_w]
                   rfl
                  refine pure_ (i := 3) (N := some 50) (v := undef) (a' := ?_) #[true, true, true, true, false, false, false, false, false, false, false, false, false, false] rfl rfl (any_of HT_.out (by kernel_rfl)) (fun _ _ _ h => h) (Or.inr ⟨by rfl, rfl⟩) ?_ ?_
                  rotate_left
                  ·simp only [Act.put, List.setIfInBounds_toArray, List.set_cons_zero, List.set_cons_succ, i64_w, i32_w]
                   rfl
                  refine pure_ (i := 4) (N := some 51) (v := undef) (a' := ?_) #[true, true, true, true, true, false, false, false, false, false, false, false, false, false] rfl rfl (any_of HT_.out (by kernel_rfl)) (fun _ _ _ h => h) (Or.inr ⟨by rfl, rfl⟩) ?_ ?_
                  rotate_left
                  ·simp only [Act.put, List.setIfInBounds_toArray, List.set_cons_zero, List.set_cons_succ, i64_w, i32_w]
                   rfl
                  refine pure_ (i := 5) (N := some 52) (v := undef) (a' := ?_) #[true, true, true, true, true, true, false, false, false, false, false, false, false, false] rfl rfl (any_of HT_.out (by kernel_rfl)) (fun _ _ _ h => h) (Or.inr ⟨by rfl, rfl⟩) ?_ ?_
                  rotate_left
                  ·simp only [Act.put, List.setIfInBounds_toArray, List.set_cons_zero, List.set_cons_succ, i64_w, i32_w]
                   rfl
                  refine pure_ (i := 6) (N := some 53) (v := undef) (a' := ?_) #[true, true, true, true, true, true, true, false, false, false, false, false, false, false] rfl rfl (any_of HT_.out (by kernel_rfl)) (fun _ _ _ h => h) (Or.inr ⟨by rfl, rfl⟩) ?_ ?_
                  rotate_left
                  ·simp only [Act.put, List.setIfInBounds_toArray, List.set_cons_zero, List.set_cons_succ, i64_w, i32_w]
                   rfl
                  refine pure_ (i := 7) (N := some 54) (v := undef) (a' := ?_) #[true, true, true, true, true, true, true, true, false, false, false, false, false, false] rfl rfl (any_of HT_.out (by kernel_rfl)) (fun _ _ _ h => h) (Or.inr ⟨by rfl, rfl⟩) ?_ ?_
                  rotate_left
                  ·simp only [Act.put, List.setIfInBounds_toArray, List.set_cons_zero, List.set_cons_succ, i64_w, i32_w]
                   rfl
                  refine pure_ (i := 8) (N := some 55) (v := undef) (a' := ?_) #[true, true, true, true, true, true, true, true, true, false, false, false, false, false] rfl rfl (any_of HT_.out (by kernel_rfl)) (fun _ _ _ h => h) (Or.inr ⟨by rfl, rfl⟩) ?_ ?_
                  rotate_left
                  ·simp only [Act.put, List.setIfInBounds_toArray, List.set_cons_zero, List.set_cons_succ, i64_w, i32_w]
                   rfl
                  refine pure_ (i := 9) (N := some 56) (v := undef) (a' := ?_) #[true, true, true, true, true, true, true, true, true, true, false, false, false, false] rfl rfl (any_of HT_.out (by kernel_rfl)) (fun _ _ _ h => h) (Or.inr ⟨by rfl, rfl⟩) ?_ ?_
                  rotate_left
                  ·simp only [Act.put, List.setIfInBounds_toArray, List.set_cons_zero, List.set_cons_succ, i64_w, i32_w]
                   rfl
                  refine pure_ (i := 10) (N := some 57) (v := undef) (a' := ?_) #[true, true, true, true, true, true, true, true, true, true, true, false, false, false] rfl rfl (any_of HT_.out (by kernel_rfl)) (fun _ _ _ h => h) (Or.inr ⟨by rfl, rfl⟩) ?_ ?_
                  rotate_left
                  ·simp only [Act.put, List.setIfInBounds_toArray, List.set_cons_zero, List.set_cons_succ, i64_w, i32_w]
                   rfl
                  refine pure_ (i := 11) (N := some 58) (v := undef) (a' := ?_) #[true, true, true, true, true, true, true, true, true, true, true, true, false, false] rfl rfl (any_of HT_.out (by kernel_rfl)) (fun _ _ _ h => h) (Or.inr ⟨by rfl, rfl⟩) ?_ ?_
                  rotate_left
                  ·simp only [Act.put, List.setIfInBounds_toArray, List.set_cons_zero, List.set_cons_succ, i64_w, i32_w]
                   rfl
                  refine pure_ (i := 12) (N := some 59) (v := undef) (a' := ?_) #[true, true, true, true, true, true, true, true, true, true, true, true, true, false] rfl rfl (any_of HT_.out (by kernel_rfl)) (fun _ _ _ h => h) (Or.inr ⟨by rfl, rfl⟩) ?_ ?_
                  rotate_left
                  ·simp only [Act.put, List.setIfInBounds_toArray, List.set_cons_zero, List.set_cons_succ, i64_w, i32_w]
                   rfl
                  refine pure_ (i := 13) (N := some 60) (v := ?_) (a' := ?_) #[true, true, true, true, true, true, true, true, true, true, true, true, true, true] rfl rfl (any_of HT_.out (by kernel_rfl)) (fun _ _ _ h => h) (Or.inl ⟨by rfl, ?_⟩) ?_ ?_
                  rotate_left
                  ·intro w'
                   go_simp
                   with_reducible rfl
                  rotate_left
                  ·simp only [Act.put, List.setIfInBounds_toArray, List.set_cons_zero, List.set_cons_succ, i64_w, i32_w]
                   rfl
                  refine done_ (done_of HT_.out (by kernel_rfl)) ?_
                  try go_wp2
                  go_roundg k3
                  case measure => have := HJ3.out; have := HK2.out; have := HK3.out; omega
                  case rel => exact ⟨(x1_3), (wrap64 (x8_2 - 1)), sv_, sv_, H', ⟨by have := HJ3.out; have := HK2.out; have := HK3.out; omega⟩, ⟨bel_⟩⟩
             ·rw [if_neg c26] at H
              exact absurd H (by simp)
            ·rw [if_neg c25] at H
             exact absurd H (by simp)
           ·rw [if_neg c24] at H
            have c24b0 : decide (0 ≤ x8_2) = false := decide_eq_false c24
            clear c24
            obtain rfl := Option.some.inj H
            go_wp2
            go_ret
            exact ⟨by first | rfl | (simp [errW_none, errW_some] <;> rfl) | (simp only [← hji17]; first | rfl | (simp [errW_none, errW_some] <;> rfl)) | (simp [*, errW_none, errW_some] <;> rfl), bel_⟩
        ·replace c21 := Bool.eq_false_iff.mpr c21
         subst c21
         have H1 : (some false) = some r := by rw [if_neg (show ¬ (false = true) by decide)] at H; exact H
         clear H
         have H := H1
         clear H1
         obtain rfl := Option.some.inj H
         try go_wp2
         have n0_ := Aside0.mk (below_drew1 HB.out)
         clear HB
         have HB := n0_
         clear n0_
         have p326 : 0 ≤ (a1 : Int) := of_decide_eq_true am_
         have q326 : a1 < (l0.length : Int) := of_decide_eq_true am_
         obtain ⟨ad326, A326_2, c326_2, e326, hx326_0, hx326_1, hx326_2, hx326_3, hl326_2, hi326_2⟩ := at_T69 HR0.out a1 p326 q326
         have hw326_3 := hx326_3
         have hw326_2 := hx326_2
         have hw326_1 := hx326_1
         have hw326_0 := hx326_0
         cases e326
         replace hx326_0 := pw_cell_below HB.out hx326_0
         replace hx326_1 := pw_cell_below HB.out hx326_1
         replace hx326_2 := pw_cell_below HB.out hx326_2
         replace hx326_3 := pw_cell_below HB.out hx326_3
         have HR326_2 := Aside0.mk hi326_2
         have HC326_2 := Aside0.mk hl326_2
         clear hi326_2 hl326_2
         replace p326 := eq_true p326
         replace q326 := eq_true q326
         have p327 : 0 ≤ ((ji17) : Int) := of_decide_eq_true am_
         have q327 : (ji17) < (l2.length : Int) := of_decide_eq_true am_
         obtain ⟨ad327, A327_2, c327_2, e327, hx327_0, hx327_1, hx327_2, hl327_2, hi327_2⟩ := at_T71 HR2.out (ji17) p327 q327
         have hw327_2 := hx327_2
         have hw327_1 := hx327_1
         have hw327_0 := hx327_0
         cases e327
         replace hx327_0 := pw_cell_below HB.out hx327_0
         replace hx327_1 := pw_cell_below HB.out hx327_1
         replace hx327_2 := pw_cell_below HB.out hx327_2
         have HR327_2 := Aside0.mk hi327_2
         have HC327_2 := Aside0.mk hl327_2
         clear hi327_2 hl327_2
         replace p327 := eq_true p327
         replace q327 := eq_true q327
         refine start_ (n := 10) (S := fun w' => w'.cell? (ad326.add ((a1).toNat * 4)) = some (.string ((rd_T69 l0 a1).f0)) ∧ w'.cell? ⟨(ad326.add ((a1).toNat * 4)).block, (ad326.add ((a1).toNat * 4)).off + 1, none⟩ = some (.int .i64 ((rd_T69 l0 a1).f1)) ∧ w'.cell? ⟨(ad326.add ((a1).toNat * 4)).block, (ad326.add ((a1).toNat * 4)).off + 2, none⟩ = some (.slice A326_2 ((rd_T69 l0 a1).f2).length c326_2) ∧ w'.cell? ⟨(ad326.add ((a1).toNat * 4)).block, (ad326.add ((a1).toNat * 4)).off + 3, none⟩ = some (.string ((rd_T69 l0 a1).f3)) ∧ w'.cell? (ad327.add (((ji17)).toNat * 3)) = some (.string ((rd_T71 l2 (ji17)).f0)) ∧ w'.cell? ⟨(ad327.add (((ji17)).toNat * 3)).block, (ad327.add (((ji17)).toNat * 3)).off + 1, none⟩ = some (.string ((rd_T71 l2 (ji17)).f1)) ∧ w'.cell? ⟨(ad327.add (((ji17)).toNat * 3)).block, (ad327.add (((ji17)).toNat * 3)).off + 2, none⟩ = some (.slice A327_2 ((rd_T71 l2 (ji17)).f2).length c327_2)) (ds := []) #[false, false, false, false, false, false, false, false, false, false] (by kernel_rfl) rfl rfl ⟨(pw_cell_below HB.out hw326_0), (pw_cell_below HB.out hw326_1), (pw_cell_below HB.out hw326_2), (pw_cell_below HB.out hw326_3), (pw_cell_below HB.out hw327_0), (pw_cell_below HB.out hw327_1), (pw_cell_below HB.out hw327_2)⟩ (fun hHeld => ?_); refine with_tabW impl_Matches.tab4 impl_Matches.bits4 (fun HT_ HW_ => ?_)
         generalize wc.drew = w44 at HB HR326_2 HR327_2 hx326_0 hx326_1 hx326_2 hx326_3 hx327_0 hx327_1 hx327_2 hHeld ⊢
         refine pure_ (i := 0) (N := some 26) (v := ?_) (a' := ?_) #[true, false, false, false, false, false, false, false, false, false] rfl rfl (any_of HT_.out (by kernel_rfl)) (fun _ _ _ h => h) (Or.inl ⟨by rfl, ?_⟩) ?_ ?_
         rotate_left
         ·intro w'
          go_simp
          with_reducible rfl
         rotate_left
         ·simp only [Act.put, List.setIfInBounds_toArray, List.set_cons_zero, List.set_cons_succ, i64_w, i32_w]
          rfl
         refine pure_ (i := 1) (N := some 27) (v := ?_) (a' := ?_) #[true, true, false, false, false, false, false, false, false, false] rfl rfl (any_of HT_.out (by kernel_rfl)) (fun _ _ _ h => h) (Or.inl ⟨by rfl, ?_⟩) ?_ ?_
         rotate_left
         ·intro w'
          go_simp
          with_reducible rfl
         rotate_left
         ·simp only [Act.put, List.setIfInBounds_toArray, List.set_cons_zero, List.set_cons_succ, i64_w, i32_w]
          rfl
         refine pure_ (i := 2) (N := some 28) (v := ?_) (a' := ?_) #[true, true, true, false, false, false, false, false, false, false] rfl rfl (any_of HT_.out (by kernel_rfl)) (fun _ _ _ h => h) (Or.inl ⟨by rfl, ?_⟩) ?_ ?_
         rotate_left
         ·intro w'
          go_simp
          with_reducible rfl
         rotate_left
         ·simp only [Act.put, List.setIfInBounds_toArray, List.set_cons_zero, List.set_cons_succ, i64_w, i32_w]
          rfl
         refine pure_ (i := 4) (N := some 30) (v := ?_) (a' := ?_) #[true, true, true, false, true, false, false, false, false, false] rfl rfl (any_of HT_.out (by kernel_rfl)) (fun _ _ _ h => h) (Or.inl ⟨by rfl, ?_⟩) ?_ ?_
         rotate_left
         ·intro w'
          go_simp
          with_reducible rfl
         rotate_left
         ·simp only [Act.put, List.setIfInBounds_toArray, List.set_cons_zero, List.set_cons_succ, i64_w, i32_w]
          rfl
         refine pure_ (i := 5) (N := some 31) (v := ?_) (a' := ?_) #[true, true, true, false, true, true, false, false, false, false] rfl rfl (any_of HT_.out (by kernel_rfl)) (fun _ _ _ h => h) (Or.inl ⟨by rfl, ?_⟩) ?_ ?_
         rotate_left
         ·intro w'
          go_simp
          with_reducible rfl
         rotate_left
         ·simp only [Act.put, List.setIfInBounds_toArray, List.set_cons_zero, List.set_cons_succ, i64_w, i32_w]
          rfl
         refine pure_ (i := 6) (N := some 32) (v := ?_) (a' := ?_) #[true, true, true, false, true, true, true, false, false, false] rfl rfl (any_of HT_.out (by kernel_rfl)) (fun _ _ _ h => h) (Or.inl ⟨by rfl, ?_⟩) ?_ ?_
         rotate_left
         ·intro w'
          go_simp
          with_reducible rfl
         rotate_left
         ·simp only [Act.put, List.setIfInBounds_toArray, List.set_cons_zero, List.set_cons_succ, i64_w, i32_w]
          rfl
         refine take_ (i := 3) (N := some 29) (v := ?_) (a' := ?_) #[true, true, true, true, true, true, true, false, false, false] rfl rfl (take_ofW HT_.out HW_.out (by kernel_rfl)) (fun _ _ _ h => h) (Or.inl ⟨by rfl, ?_⟩) hHeld ?_ ?_
         rotate_left
         ·rintro w' ⟨s0, s1, s2, s3, s4, s5, s6⟩
          go_simp
          with_reducible rfl
         rotate_left
         ·simp only [Act.put, List.setIfInBounds_toArray, List.set_cons_zero, List.set_cons_succ, i64_w, i32_w]
          rfl
         refine take_ (i := 7) (N := some 33) (v := ?_) (a' := ?_) #[true, true, true, true, true, true, true, true, false, false] rfl rfl (take_ofW HT_.out HW_.out (by kernel_rfl)) (fun _ _ _ h => h) (Or.inl ⟨by rfl, ?_⟩) hHeld ?_ ?_
         rotate_left
         ·rintro w' ⟨s0, s1, s2, s3, s4, s5, s6⟩
          go_simp
          with_reducible rfl
         rotate_left
         ·simp only [Act.put, List.setIfInBounds_toArray, List.set_cons_zero, List.set_cons_succ, i64_w, i32_w]
          rfl
         refine one_ (i := 8) (N := some 34) #[true, true, true, true, true, true, true, true, true, false] rfl rfl (one_of HT_.out (by kernel_rfl)) (by decide) (fun K hK => ?_)
         refine goes_ Tryd.func46 (by kernel_rfl) rfl #[.agg #[.string ((rd_T69 l0 a1).f0), .int .i64 ((rd_T69 l0 a1).f1), .slice A326_2 ((rd_T69 l0 a1).f2).length c326_2, .string ((rd_T69 l0 a1).f3)], .agg #[.string ((rd_T71 l2 (ji17)).f0), .string ((rd_T71 l2 (ji17)).f1), .slice A327_2 ((rd_T71 l2 (ji17)).f2).length c327_2]] (by rfl) rfl rfl (by (try simp only [List.map_toArray, List.map_cons, List.map_nil]); first | done | (simp only [hji17]; rfl) | rfl | (simp only [List.length_drop, List.length_take]; rfl)) ?_
         with_reducible refine (impl_fits.calls kj3 ((rd_T69 l0 a1).f0) ((rd_T69 l0 a1).f1) _ _ ((rd_T69 l0 a1).f2) ((rd_T69 l0 a1).f3) ((rd_T71 l2 (ji17)).f0) ((rd_T71 l2 (ji17)).f1) _ _ ((rd_T71 l2 (ji17)).f2) false _ ?side1 ?side2 ?side3 ?side4 A20.out).mono ?_
         (case side1 => exact cs_ (Kd.C_below HR326_2.out HB.out))
         (case side2 => exact HC326_2.out)
         (case side3 => exact cs_ (Kd.C_below HR327_2.out HB.out))
         (case side4 => exact HC327_2.out)
         rintro e w45 ⟨rfl, hb⟩
         refine ⟨_, rfl, ?_⟩
         have n0_ := Aside0.mk (below_step bel_ hb)
         clear HB
         have HB := n0_
         clear n0_
         (try clear hb)
         (try clear hb2)
         (try clear hk)
         (try clear hi)
         refine hK.out _ _ ⟨(pw_cell_below HB.out hw326_0), (pw_cell_below HB.out hw326_1), (pw_cell_below HB.out hw326_2), (pw_cell_below HB.out hw326_3), (pw_cell_below HB.out hw327_0), (pw_cell_below HB.out hw327_1), (pw_cell_below HB.out hw327_2)⟩ (fun hHeld => ?_)
         clear hK K
         refine norm_ (a' := ?_) ?_ ?_
         rotate_left
         ·show Act.put _ (some 34) _ = _
          simp only [Act.put, List.setIfInBounds_toArray, List.set_cons_zero, List.set_cons_succ, i64_w, i32_w]
          rfl
         refine pure_ (i := 9) (N := some 35) (v := ?_) (a' := ?_) #[true, true, true, true, true, true, true, true, true, true] rfl rfl (any_of HT_.out (by kernel_rfl)) (fun _ _ _ h => h) (Or.inl ⟨by rfl, ?_⟩) ?_ ?_
         rotate_left
         ·intro w'
          go_simp
          with_reducible rfl
         rotate_left
         ·simp only [Act.put, List.setIfInBounds_toArray, List.set_cons_zero, List.set_cons_succ, i64_w, i32_w]
          rfl
         refine done_ (done_of HT_.out (by kernel_rfl)) ?_
         try go_wp2
         go_ret
         exact ⟨by first | rfl | (simp [errW_none, errW_some] <;> rfl) | (simp only [← hji17]; first | rfl | (simp [errW_none, errW_some] <;> rfl)) | (simp [*, errW_none, errW_some] <;> rfl), bel_⟩
       ·rw [if_neg c19] at H
        exact absurd H (by simp)
      ·rw [if_neg c18] at H
       exact absurd H (by simp)
     ·rw [if_neg c16] at H
      exact absurd H (by simp)
    ·rw [if_neg c15] at H
     exact absurd H (by simp)

end Go.Proofs.YtooilehdljeepaaDoor.PFnExactMatches
