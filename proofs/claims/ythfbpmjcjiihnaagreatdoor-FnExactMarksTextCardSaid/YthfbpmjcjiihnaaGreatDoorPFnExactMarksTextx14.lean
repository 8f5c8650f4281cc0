-- Laid by a program of this session out of the translation (its own run of the print). Lean checks it.
import Derived.Test.YthfbpmjcjiihnaaGreatDoorPFnExactMarksTextx0
import Derived.Test.YthfbpmjcjiihnaaGreatDoorPFnExactMarksTextx1
import Derived.Test.YthfbpmjcjiihnaaGreatDoorPFnExactMarksTextx6
import Derived.Test.YthfbpmjcjiihnaaGreatDoorPFnExactMarksTextx7
import Derived.Test.YthfbpmjcjiihnaaGreatDoorPFnExactMarksTextx12
import Derived.Test.YthfbpmjcjiihnaaGreatDoorPFnExactMarksTextx13
namespace Go.Proofs.YthfbpmjcjiihnaaGreatDoor.PFnExactMarksText
open Go.RowKit Go.Proofs.YthfbpmjcjiihnaaGreatDoorW.PrintWords Go.Proofs.YthfbpmjcjiihnaaGreatDoorW.PrintLast Go.Proofs.YthfbpmjcjiihnaaGreatDoorW.PrintMore
attribute [local go_sem] max2_int min2_int max_two min_two max_three min_three max_four min_four   -- for this text's walks alone
set_option linter.unusedVariables false
set_option linter.unusedSimpArgs false

/-! ### laws_FnExactMarksText: function 3 -/
def laws_FnExactMarksText.j0 : Nat → List (S33) → List (S38) → Bool → Option (Bool)
 | 0, _, _, _ => none
 | k + 1, x0, x6, x34 => if x34 = true then (some false) else ((laws_toNodeS.f k x0).bind fun t275 => ((laws_eqNodeS.f k x6 t275).bind fun t278 => (if t278 = true then (some true) else (some false))))
def laws_FnExactMarksText.f (k : Nat) (l0 : List (S33)) : Option (Bool) := (laws_szNodeS.f k l0 1048576).bind fun t264 => (if t264 < 0 then (some true) else ((laws_toNodeS.f k l0).bind fun t265 => ((spec_MarksText.f k t265).bind fun bt268 => ((laws_toNodeS.f k l0).bind fun t270 => ((impl_MarksText.f k t270).bind fun bt273 => (if bt273.1.toList = bt268.1.toList then (laws_FnExactMarksText.j0 k l0 t270 (bt273.2 != bt268.2)) else (laws_FnExactMarksText.j0 k l0 t270 true)))))))
set_option maxHeartbeats 8000000 in
set_option maxRecDepth 100000 in
theorem laws_FnExactMarksText.calls (k : Nat) (A0 : Option Addr) (c0 : Nat) (l0 : List (S33)) (r : Bool) (w : World) (hr0 : Kd.C k33 w A0 l0.length l0) (hc0 : l0.length ≤ c0) (h : laws_FnExactMarksText.f k l0 = some r) (hT_ : U8Tabs_ w) :
  Calls Tryz.prog 3 #[.slice A0 l0.length c0] w fun e w' => e = .returned (.bool r) ∧ Below w.heap.size w w' := by
 have HR0 := Aside0.mk hr0
 have HC0 := Aside0.mk hc0
 clear hr0 hc0
 have HB := Aside0.mk (Below.refl w.heap.size w)
 have H : ((laws_szNodeS.f k l0 1048576).bind fun t264 => (if t264 < 0 then (some true) else ((laws_toNodeS.f k l0).bind fun t265 => ((spec_MarksText.f k t265).bind fun bt268 => ((laws_toNodeS.f k l0).bind fun t270 => ((impl_MarksText.f k t270).bind fun bt273 => (if bt273.1.toList = bt268.1.toList then (laws_FnExactMarksText.j0 k l0 t270 (bt273.2 != bt268.2)) else (laws_FnExactMarksText.j0 k l0 t270 true)))))))) = some r := h
 clear h
 replace H := Option.bind_eq_some_iff.mp H
 obtain ⟨t264, A20, H⟩ := H
 replace H : (if t264 < 0 then (some true) else ((laws_toNodeS.f k l0).bind fun t265 => ((spec_MarksText.f k t265).bind fun bt268 => ((laws_toNodeS.f k l0).bind fun t270 => ((impl_MarksText.f k t270).bind fun bt273 => (if bt273.1.toList = bt268.1.toList then (laws_FnExactMarksText.j0 k l0 t270 (bt273.2 != bt268.2)) else (laws_FnExactMarksText.j0 k l0 t270 true))))))) = some r := H
 have A2 := Aside0.mk A20
 clear A20
 by_cases c3 : t264 < 0
 ·rw [if_pos c3] at H
  have c3b0 : decide (t264 < 0) = true := decide_eq_true c3
  clear c3
  obtain rfl := Option.some.inj H
  go_enter Tryz.func3, Tryz.ntmps3
  go_wp2_with (first | ((with_reducible refine gate_callee (f := 4) rfl ?_); refine goesL_ (some 11) rfl rfl Tryz.func4 (by kernel_rfl) rfl #[.slice A0 l0.length c0, .int .i64 1048576] rfl au_ ?_; (with_reducible refine (laws_szNodeS.calls k _ _ l0 1048576 t264 _ ?side1 ?side2 A2.out).mono ?_); (case side1 => exact cs_ HR0.out); (case side2 => exact HC0.out); rintro e w4 ⟨rfl, hb⟩; refine ⟨_, rfl, ?_⟩; have n0_ := Aside0.mk (below_step bel_ hb); clear HB; have HB := n0_; clear n0_; (try clear hb);(try clear hb2);(try clear hk);(try clear hi)))
  go_ret
  exact ⟨er_, bel_⟩
 ·rw [if_neg c3] at H
  have c3b0 : decide (t264 < 0) = false := decide_eq_false c3
  clear c3
  replace H := Option.bind_eq_some_iff.mp H
  obtain ⟨t265, A50, H⟩ := H
  replace H : ((spec_MarksText.f k t265).bind fun bt268 => ((laws_toNodeS.f k l0).bind fun t270 => ((impl_MarksText.f k t270).bind fun bt273 => (if bt273.1.toList = bt268.1.toList then (laws_FnExactMarksText.j0 k l0 t270 (bt273.2 != bt268.2)) else (laws_FnExactMarksText.j0 k l0 t270 true))))) = some r := H
  have A5 := Aside0.mk A50
  clear A50
  replace H := Option.bind_eq_some_iff.mp H
  obtain ⟨⟨t268, t269⟩, A60, H⟩ := H
  replace H : ((laws_toNodeS.f k l0).bind fun t270 => ((impl_MarksText.f k t270).bind fun bt273 => (if bt273.1.toList = t268.toList then (laws_FnExactMarksText.j0 k l0 t270 (bt273.2 != t269)) else (laws_FnExactMarksText.j0 k l0 t270 true)))) = some r := H
  have A6 := Aside0.mk A60
  clear A60
  replace H := Option.bind_eq_some_iff.mp H
  obtain ⟨t270, A70, H⟩ := H
  replace H : ((impl_MarksText.f k t270).bind fun bt273 => (if bt273.1.toList = t268.toList then (laws_FnExactMarksText.j0 k l0 t270 (bt273.2 != t269)) else (laws_FnExactMarksText.j0 k l0 t270 true))) = some r := H
  have A7 := Aside0.mk A70
  clear A70
  replace H := Option.bind_eq_some_iff.mp H
  obtain ⟨⟨t273, t274⟩, A80, H⟩ := H
  replace H : (if t273.toList = t268.toList then (laws_FnExactMarksText.j0 k l0 t270 (t274 != t269)) else (laws_FnExactMarksText.j0 k l0 t270 true)) = some r := H
  have A8 := Aside0.mk A80
  clear A80
  have HC9 := Aside0.mk H
  clear H
  go_enter Tryz.func3, Tryz.ntmps3
  go_upto_region 8 with (first | ((with_reducible refine gate_callee (f := 4) rfl ?_); refine goesL_ (some 11) rfl rfl Tryz.func4 (by kernel_rfl) rfl #[.slice A0 l0.length c0, .int .i64 1048576] rfl au_ ?_; (with_reducible refine (laws_szNodeS.calls k _ _ l0 1048576 t264 _ ?side1 ?side2 A2.out).mono ?_); (case side1 => exact cs_ HR0.out); (case side2 => exact HC0.out); rintro e w10 ⟨rfl, hb⟩; refine ⟨_, rfl, ?_⟩; have n0_ := Aside0.mk (below_step bel_ hb); clear HB; have HB := n0_; clear n0_; (try clear hb);(try clear hb2);(try clear hk);(try clear hi)) | ((with_reducible refine gate_callee (f := 6) rfl ?_); refine goesL_ (some 16) rfl rfl Tryz.func6 (by kernel_rfl) rfl #[.slice A0 l0.length c0] rfl au_ ?_; (with_reducible refine (laws_toNodeS.calls k _ _ l0 t265 _ ?side1 ?side2 A5.out).mono ?_); (case side1 => exact cs_ (Kd.C_below HR0.out HB.out)); (case side2 => exact HC0.out); rintro e w11 ⟨v266, rfl, ho0, hb⟩; refine ⟨_, rfl, ?_⟩; have n0_ := Aside0.mk (Kd.S_lower ho0 (below_size bel_)); have n1_ := Aside0.mk (below_step bel_ hb); clear HB; have HO267 := n0_; have HB := n1_; clear n0_ n1_; (try clear hb);(try clear hb2);(try clear hk);(try clear hi);(try clear ho0); obtain ⟨Ao12, co12, eo12⟩ := Kd.S_slice HO267.out; subst eo12) | ((with_reducible refine gate_callee (f := 5) rfl ?_); refine goesL_ (some 17) rfl rfl Tryz.func5 (by kernel_rfl) rfl #[.slice Ao12 t265.length co12] rfl au_ ?_; (with_reducible refine (spec_MarksText.calls k _ _ t265 t268 t269 _ ?side1 ?side2 A6.out).mono ?_); (case side1 => exact cs_ (Kd.S_reads' HO267.out).2.2); (case side2 => exact (Kd.S_reads' HO267.out).2.1); rintro e w13 ⟨rfl, hb⟩; refine ⟨_, rfl, ?_⟩; have n0_ := Aside0.mk (Kd.S_below (kdS_ HO267.out) hb); have n1_ := Aside0.mk (below_step bel_ hb); clear HO267; clear HB; have HO267 := n0_; have HB := n1_; clear n0_ n1_; (try clear hb);(try clear hb2);(try clear hk);(try clear hi)) | ((with_reducible refine gate_callee (f := 6) rfl ?_); refine goesL_ (some 21) rfl rfl Tryz.func6 (by kernel_rfl) rfl #[.slice A0 l0.length c0] rfl au_ ?_; (with_reducible refine (laws_toNodeS.calls k _ _ l0 t270 _ ?side1 ?side2 A7.out).mono ?_); (case side1 => exact cs_ (Kd.C_below HR0.out HB.out)); (case side2 => exact HC0.out); rintro e w14 ⟨v271, rfl, ho0, hb⟩; refine ⟨_, rfl, ?_⟩; have n0_ := Aside0.mk (Kd.S_elder' (kdS_ HO267.out) (Kd.S_base ho0) hb); have n1_ := Aside0.mk (Kd.S_lower (Kd.S_new' ho0 (Kd.S_lt (kdS_ HO267.out))) (below_size bel_)); have n2_ := Aside0.mk (below_step bel_ hb); clear HO267; clear HB; have HO267 := n0_; have HO272 := n1_; have HB := n2_; clear n0_ n1_ n2_; (try clear hb);(try clear hb2);(try clear hk);(try clear hi);(try clear ho0); obtain ⟨Ao15, co15, eo15⟩ := Kd.S_slice HO272.out; subst eo15) | ((with_reducible refine gate_callee (f := 7) rfl ?_); refine goesL_ (some 24) rfl rfl Tryz.func7 (by kernel_rfl) rfl #[.slice Ao15 t270.length co15] rfl au_ ?_; (with_reducible refine (impl_MarksText.calls k _ _ t270 t273 t274 _ ?side1 ?side2 A8.out ?hT_).mono ?_); (case hT_ => exact utf8_keep_ hT_ bel_); (case side1 => exact cs_ (Kd.S_reads' HO272.out).2.2); (case side2 => exact (Kd.S_reads' HO272.out).2.1); rintro e w16 ⟨rfl, hb⟩; refine ⟨_, rfl, ?_⟩; have n0_ := Aside0.mk (Kd.S_below (kdS_ HO267.out) hb); have n1_ := Aside0.mk (Kd.S_below (kdS_ HO272.out) hb); have n2_ := Aside0.mk (below_step bel_ hb); clear HO267; clear HO272; clear HB; have HO267 := n0_; have HO272 := n1_; have HB := n2_; clear n0_ n1_ n2_; (try clear hb);(try clear hb2);(try clear hk);(try clear hi)))
  (try simp only [Act.put, List.setIfInBounds_toArray, List.set_cons_zero, List.set_cons_succ])
  go_cut [34] (fun v34 wc => ∃ (kq : Nat) (x34_8 : Bool), v34 = .bool x34_8 ∧ Aside0 (laws_FnExactMarksText.j0 kq l0 t270 x34_8 = some r) ∧ Aside0 (kq ≤ k) ∧ Aside0 (Kd.S k38 38 wc w.heap.size (fun _ => True) (.slice Ao15 t270.length co15) t270) ∧ Aside0 (Below w.heap.size w wc))
  case first =>
   have H := HC9.out
   clear HC9
   by_cases c17 : t273.toList = t268.toList
   ·rw [if_pos c17] at H
    have c17b0 : (t273.toList == t268.toList) = true := beq_iff_eq.mpr c17
    have c17b1 : (t273.toList != t268.toList) = false := bne_eq_false_iff_eq.mpr c17
    clear c17
    (first | rw [c17b0] | (simp only [i64_w, i32_w]; rw [c17b0]) | skip)
    have H' := Aside0.mk H
    clear H
    go_wp2
    go_meet
    case rel => exact ⟨_, ((t274 != t269)), sv_, H', ⟨by first | omega | exact Nat.le_refl _⟩, ⟨by (with_reducible repeat (first | apply Kd.S_alloc | apply Kd.S_drewN | apply Kd.S_drew)); exact Kd.S_mono HO272.out (fun _ hk => trivial)⟩, ⟨bel_⟩⟩
   ·rw [if_neg c17] at H
    have c17b0 : (t273.toList == t268.toList) = false := beq_eq_false_iff_ne.mpr c17
    have c17b1 : (t273.toList != t268.toList) = true := bne_iff_ne.mpr c17
    (first | rw [c17b0] | (simp only [i64_w, i32_w]; rw [c17b0]) | skip)
    have H' := Aside0.mk H
    clear H
    go_wp2
    go_meet
    case rel => exact ⟨_, (true), sv_, H', ⟨by first | omega | exact Nat.le_refl _⟩, ⟨by (with_reducible repeat (first | apply Kd.S_alloc | apply Kd.S_drewN | apply Kd.S_drew)); exact Kd.S_mono HO272.out (fun _ hk => trivial)⟩, ⟨bel_⟩⟩
  case rest =>
   clear HC9
   (try clear c1);(try clear p2);(try clear c3);(try clear c3b0);(try clear c4);(try clear c5);(try clear c6);(try clear c7);(try clear c17);(try clear c17b0 c17b1)
   obtain ⟨kq, x34_8, rfl, HA, HJ8, HO_6, HB⟩ := hcut
   cases kq with
   | zero => exact absurd HA.out (by simp [laws_FnExactMarksText.j0])
   | succ kj8 =>
    have H := HA.out
    clear HA
    simp only [laws_FnExactMarksText.j0] at H
    by_cases c18 : x34_8 = true
    ·subst c18
     have H1 : (some false) = some r := by rw [if_pos rfl] at H; exact H
     clear H
     have H := H1
     clear H1
     obtain rfl := Option.some.inj H
     go_wp2
     go_ret
     exact ⟨er_, bel_⟩
    ·replace c18 := Bool.eq_false_iff.mpr c18
     subst c18
     have H1 : ((laws_toNodeS.f kj8 l0).bind fun t275 => ((laws_eqNodeS.f kj8 t270 t275).bind fun t278 => (if t278 = true then (some true) else (some false)))) = some r := by rw [if_neg (show ¬ (false = true) by decide)] at H; exact H
     clear H
     have H := H1
     clear H1
     replace H := Option.bind_eq_some_iff.mp H
     obtain ⟨t275, A190, H⟩ := H
     replace H : ((laws_eqNodeS.f kj8 t270 t275).bind fun t278 => (if t278 = true then (some true) else (some false))) = some r := H
     have A19 := Aside0.mk A190
     clear A190
     replace H := Option.bind_eq_some_iff.mp H
     obtain ⟨t278, A200, H⟩ := H
     replace H : (if t278 = true then (some true) else (some false)) = some r := H
     have A20 := Aside0.mk A200
     clear A200
     by_cases c21 : t278 = true
     ·subst c21
      have H1 : (some true) = some r := by rw [if_pos rfl] at H; exact H
      clear H
      have H := H1
      clear H1
      obtain rfl := Option.some.inj H
      go_wp2_with (first | ((with_reducible refine gate_callee (f := 6) rfl ?_); refine goesL_ (some 37) rfl rfl Tryz.func6 (by kernel_rfl) rfl #[.slice A0 l0.length c0] rfl au_ ?_; (with_reducible refine (laws_toNodeS.calls kj8 _ _ l0 t275 _ ?side1 ?side2 A19.out).mono ?_); (case side1 => exact cs_ (Kd.C_below HR0.out HB.out)); (case side2 => exact HC0.out); rintro e w22 ⟨v276, rfl, ho0, hb⟩; refine ⟨_, rfl, ?_⟩; have n0_ := Aside0.mk (Kd.S_elder' (kdS_ HO_6.out) (Kd.S_base ho0) hb); have n1_ := Aside0.mk (Kd.S_lower (Kd.S_new' ho0 (Kd.S_lt (kdS_ HO_6.out))) (below_size bel_)); have n2_ := Aside0.mk (below_step bel_ hb); clear HO_6; clear HB; have HO_6 := n0_; have HO277 := n1_; have HB := n2_; clear n0_ n1_ n2_; (try clear hb);(try clear hb2);(try clear hk);(try clear hi);(try clear ho0); obtain ⟨Ao23, co23, eo23⟩ := Kd.S_slice HO277.out; subst eo23) | ((with_reducible refine gate_callee (f := 8) rfl ?_); refine goesL_ (some 38) rfl rfl Tryz.func8 (by kernel_rfl) rfl #[.slice Ao15 t270.length co15, .slice Ao23 t275.length co23] rfl au_ ?_; (with_reducible refine (laws_eqNodeS.calls kj8 _ _ t270 _ _ t275 true _ ?side1 ?side2 ?side3 ?side4 A20.out).mono ?_); (case side1 => exact cs_ (Kd.S_reads' HO_6.out).2.2); (case side2 => exact (Kd.S_reads' HO_6.out).2.1); (case side3 => exact cs_ (Kd.S_reads' HO277.out).2.2); (case side4 => exact (Kd.S_reads' HO277.out).2.1); rintro e w24 ⟨rfl, hb⟩; refine ⟨_, rfl, ?_⟩; have n0_ := Aside0.mk (Kd.S_below (kdS_ HO_6.out) hb); have n1_ := Aside0.mk (Kd.S_below (kdS_ HO277.out) hb); have n2_ := Aside0.mk (below_step bel_ hb); clear HO_6; clear HO277; clear HB; have HO_6 := n0_; have HO277 := n1_; have HB := n2_; clear n0_ n1_ n2_; (try clear hb);(try clear hb2);(try clear hk);(try clear hi)))
      go_ret
      exact ⟨er_, bel_⟩
     ·replace c21 := Bool.eq_false_iff.mpr c21
      subst c21
      have H1 : (some false) = some r := by rw [if_neg (show ¬ (false = true) by decide)] at H; exact H
      clear H
      have H := H1
      clear H1
      obtain rfl := Option.some.inj H
      go_wp2_with (first | ((with_reducible refine gate_callee (f := 6) rfl ?_); refine goesL_ (some 37) rfl rfl Tryz.func6 (by kernel_rfl) rfl #[.slice A0 l0.length c0] rfl au_ ?_; (with_reducible refine (laws_toNodeS.calls kj8 _ _ l0 t275 _ ?side1 ?side2 A19.out).mono ?_); (case side1 => exact cs_ (Kd.C_below HR0.out HB.out)); (case side2 => exact HC0.out); rintro e w25 ⟨v276, rfl, ho0, hb⟩; refine ⟨_, rfl, ?_⟩; have n0_ := Aside0.mk (Kd.S_elder' (kdS_ HO_6.out) (Kd.S_base ho0) hb); have n1_ := Aside0.mk (Kd.S_lower (Kd.S_new' ho0 (Kd.S_lt (kdS_ HO_6.out))) (below_size bel_)); have n2_ := Aside0.mk (below_step bel_ hb); clear HO_6; clear HB; have HO_6 := n0_; have HO277 := n1_; have HB := n2_; clear n0_ n1_ n2_; (try clear hb);(try clear hb2);(try clear hk);(try clear hi);(try clear ho0); obtain ⟨Ao26, co26, eo26⟩ := Kd.S_slice HO277.out; subst eo26) | ((with_reducible refine gate_callee (f := 8) rfl ?_); refine goesL_ (some 38) rfl rfl Tryz.func8 (by kernel_rfl) rfl #[.slice Ao15 t270.length co15, .slice Ao26 t275.length co26] rfl au_ ?_; (with_reducible refine (laws_eqNodeS.calls kj8 _ _ t270 _ _ t275 false _ ?side1 ?side2 ?side3 ?side4 A20.out).mono ?_); (case side1 => exact cs_ (Kd.S_reads' HO_6.out).2.2); (case side2 => exact (Kd.S_reads' HO_6.out).2.1); (case side3 => exact cs_ (Kd.S_reads' HO277.out).2.2); (case side4 => exact (Kd.S_reads' HO277.out).2.1); rintro e w27 ⟨rfl, hb⟩; refine ⟨_, rfl, ?_⟩; have n0_ := Aside0.mk (Kd.S_below (kdS_ HO_6.out) hb); have n1_ := Aside0.mk (Kd.S_below (kdS_ HO277.out) hb); have n2_ := Aside0.mk (below_step bel_ hb); clear HO_6; clear HO277; clear HB; have HO_6 := n0_; have HO277 := n1_; have HB := n2_; clear n0_ n1_ n2_; (try clear hb);(try clear hb2);(try clear hk);(try clear hi)))
      go_ret
      exact ⟨er_, bel_⟩

end Go.Proofs.YthfbpmjcjiihnaaGreatDoor.PFnExactMarksText
