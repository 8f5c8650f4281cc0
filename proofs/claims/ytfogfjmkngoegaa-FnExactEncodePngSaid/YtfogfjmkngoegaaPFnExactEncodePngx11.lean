-- Laid by a program of this session out of the translation (its own run of the print). Lean checks it.
import Derived.Test.YtfogfjmkngoegaaPFnExactEncodePngx0
import Derived.Test.YtfogfjmkngoegaaPFnExactEncodePngx1
import Derived.Test.YtfogfjmkngoegaaPFnExactEncodePngx5
import Derived.Test.YtfogfjmkngoegaaPFnExactEncodePngx10
namespace Go.Proofs.Ytfogfjmkngoegaa.PFnExactEncodePng
open Go.RowKit Go.Proofs.YtfogfjmkngoegaaW.PrintWords Go.Proofs.YtfogfjmkngoegaaW.PrintLast Go.Proofs.YtfogfjmkngoegaaW.PrintMore
attribute [local go_sem] max2_int min2_int max_two min_two max_three min_three max_four min_four   -- for this text's walks alone
set_option linter.unusedVariables false
set_option linter.unusedSimpArgs false

/-! ### laws_FnExactEncodePng: function 5 -/
mutual
def laws_FnExactEncodePng.j0 : Nat → Int → Int → List Int → List Int → Bool → List Int → List Int → Bool → Bool → Option (Bool)
 | 0, _, _, _, _, _, _, _, _, _ => none
 | k + 1, x0, x1, x2, x7, x8, x9, x10, x11, x45 => if x45 = true then (some false) else ((laws_toByteS.f k x2).bind fun t406 => ((laws_eqByteS.f k x9 t406).bind fun t409 => (if t409 = true then ((laws_markByteS.f k x9 1).bind fun bt410 => (if bt410.1 < 0 then (laws_FnExactEncodePng.j1 k x0 x1 x2 x7 x8 x10 true) else ((laws_eqByteS.f k x10 x7).bind fun t412 => (if t412 = true then (laws_FnExactEncodePng.j1 k x0 x1 x2 x7 x8 x10 (x11 != x8)) else (laws_FnExactEncodePng.j1 k x0 x1 x2 x7 x8 x10 true))))) else (some false))))
def laws_FnExactEncodePng.j1 : Nat → Int → Int → List Int → List Int → Bool → List Int → Bool → Option (Bool)
 | 0, _, _, _, _, _, _, _ => none
 | k + 1, x0, x1, x2, x7, x8, x10, x66 => if x66 = true then (some false) else ((laws_markByteS.f k x10 1).bind fun bt413 => ((laws_heldByteS.f k bt413.2 1).bind fun t415 => (if t415 < 0 then (some false) else (if t415 = bt413.1 then ((laws_toByteS.f k x2).bind fun t416 => ((impl_EncodePng.f k x0 x1 t416).bind fun bt419 => ((laws_eqByteS.f k bt419.1 x7).bind fun t423 => (if t423 = true then (laws_FnExactEncodePng.j2 k bt413.2 bt413.1 (bt419.2 != x8)) else (laws_FnExactEncodePng.j2 k bt413.2 bt413.1 true))))) else (some false)))))
def laws_FnExactEncodePng.j2 : Nat → List Int → Int → Bool → Option (Bool)
 | 0, _, _, _ => none
 | k + 1, x10, x13, x94 => if x94 = true then (some false) else ((laws_heldByteS.f k x10 1).bind fun t424 => (if t424 < 0 then (some false) else (if t424 = x13 then (some true) else (some false))))
end
def laws_FnExactEncodePng.f (k : Nat) (a0 : Int) (a1 : Int) (l2 : List Int) : Option (Bool) := if (l2.length : Int) > 1048576 then (some true) else ((laws_toByteS.f k l2).bind fun t391 => ((spec_EncodePng.f k a0 a1 t391).bind fun bt394 => ((laws_toByteS.f k l2).bind fun t398 => ((impl_EncodePng.f k a0 a1 t398).bind fun bt401 => ((laws_eqByteS.f k bt401.1 bt394.1).bind fun t405 => (if t405 = true then (laws_FnExactEncodePng.j0 k a0 a1 l2 bt394.1 bt394.2 t398 bt401.1 bt401.2 (bt401.2 != bt394.2)) else (laws_FnExactEncodePng.j0 k a0 a1 l2 bt394.1 bt394.2 t398 bt401.1 bt401.2 true)))))))
set_option maxHeartbeats 8000000 in
set_option maxRecDepth 100000 in
theorem laws_FnExactEncodePng.calls (k : Nat) (a0 : Int) (a1 : Int) (A2 : Option Addr) (c2 : Nat) (l2 : List Int) (r : Bool) (w : World) (hr2 : Kd.C (Kd.int .u8) w A2 l2.length l2) (hc2 : l2.length ≤ c2) (h : laws_FnExactEncodePng.f k a0 a1 l2 = some r) :
  Calls Try.prog 5 #[.int .i64 a0, .int .i64 a1, .slice A2 l2.length c2] w fun e w' => e = .returned (.bool r) ∧ Below w.heap.size w w' := by
 have HR2 := Aside0.mk hr2
 have HC2 := Aside0.mk hc2
 clear hr2 hc2
 have HB := Aside0.mk (Below.refl w.heap.size w)
 have H : (if (l2.length : Int) > 1048576 then (some true) else ((laws_toByteS.f k l2).bind fun t391 => ((spec_EncodePng.f k a0 a1 t391).bind fun bt394 => ((laws_toByteS.f k l2).bind fun t398 => ((impl_EncodePng.f k a0 a1 t398).bind fun bt401 => ((laws_eqByteS.f k bt401.1 bt394.1).bind fun t405 => (if t405 = true then (laws_FnExactEncodePng.j0 k a0 a1 l2 bt394.1 bt394.2 t398 bt401.1 bt401.2 (bt401.2 != bt394.2)) else (laws_FnExactEncodePng.j0 k a0 a1 l2 bt394.1 bt394.2 t398 bt401.1 bt401.2 true)))))))) = some r := h
 clear h
 by_cases c4 : (l2.length : Int) > 1048576
 ·rw [if_pos c4] at H
  have c4b0 : decide (1048576 < (l2.length : Int)) = true := decide_eq_true c4
  have c4b1 : decide (1048576 < l2.length) = true := decide_eq_true (by omega)
  clear c4
  obtain rfl := Option.some.inj H
  go_enter Try.func5, Try.ntmps5
  go_wp2
  go_ret
  exact ⟨er_, bel_⟩
 ·rw [if_neg c4] at H
  have c4b0 : decide (1048576 < (l2.length : Int)) = false := decide_eq_false c4
  have c4b1 : decide (1048576 < l2.length) = false := decide_eq_false (by omega)
  clear c4
  replace H := Option.bind_eq_some_iff.mp H
  obtain ⟨t391, A50, H⟩ := H
  replace H : ((spec_EncodePng.f k a0 a1 t391).bind fun bt394 => ((laws_toByteS.f k l2).bind fun t398 => ((impl_EncodePng.f k a0 a1 t398).bind fun bt401 => ((laws_eqByteS.f k bt401.1 bt394.1).bind fun t405 => (if t405 = true then (laws_FnExactEncodePng.j0 k a0 a1 l2 bt394.1 bt394.2 t398 bt401.1 bt401.2 (bt401.2 != bt394.2)) else (laws_FnExactEncodePng.j0 k a0 a1 l2 bt394.1 bt394.2 t398 bt401.1 bt401.2 true)))))) = some r := H
  have A5 := Aside0.mk A50
  clear A50
  replace H := Option.bind_eq_some_iff.mp H
  obtain ⟨⟨t394, t395⟩, A60, H⟩ := H
  replace H : ((laws_toByteS.f k l2).bind fun t398 => ((impl_EncodePng.f k a0 a1 t398).bind fun bt401 => ((laws_eqByteS.f k bt401.1 t394).bind fun t405 => (if t405 = true then (laws_FnExactEncodePng.j0 k a0 a1 l2 t394 t395 t398 bt401.1 bt401.2 (bt401.2 != t395)) else (laws_FnExactEncodePng.j0 k a0 a1 l2 t394 t395 t398 bt401.1 bt401.2 true))))) = some r := H
  have A6 := Aside0.mk A60
  clear A60
  replace H := Option.bind_eq_some_iff.mp H
  obtain ⟨t398, A70, H⟩ := H
  replace H : ((impl_EncodePng.f k a0 a1 t398).bind fun bt401 => ((laws_eqByteS.f k bt401.1 t394).bind fun t405 => (if t405 = true then (laws_FnExactEncodePng.j0 k a0 a1 l2 t394 t395 t398 bt401.1 bt401.2 (bt401.2 != t395)) else (laws_FnExactEncodePng.j0 k a0 a1 l2 t394 t395 t398 bt401.1 bt401.2 true)))) = some r := H
  have A7 := Aside0.mk A70
  clear A70
  replace H := Option.bind_eq_some_iff.mp H
  obtain ⟨⟨t401, t404⟩, A80, H⟩ := H
  replace H : ((laws_eqByteS.f k t401 t394).bind fun t405 => (if t405 = true then (laws_FnExactEncodePng.j0 k a0 a1 l2 t394 t395 t398 t401 t404 (t404 != t395)) else (laws_FnExactEncodePng.j0 k a0 a1 l2 t394 t395 t398 t401 t404 true))) = some r := H
  have A8 := Aside0.mk A80
  clear A80
  have HC9 := Aside0.mk H
  clear H
  go_enter Try.func5, Try.ntmps5
  go_upto_region 6 with (first | ((with_reducible refine gate_callee (f := 8) rfl ?_); refine goesL_ (some 24) rfl rfl Try.func8 (by kernel_rfl) rfl #[.slice A2 l2.length c2] rfl au_ ?_; (with_reducible refine (laws_toByteS.calls k _ _ l2 t391 _ ?side1 ?side2 A5.out).mono ?_); (case side1 => exact cs_ HR2.out); (case side2 => exact HC2.out); rintro e w10 ⟨v392, rfl, ho0, hb⟩; refine ⟨_, rfl, ?_⟩; have n0_ := Aside0.mk (Kd.R_lower ho0 (below_size bel_)); have n1_ := Aside0.mk (below_step bel_ hb); clear HB; have HO393 := n0_; have HB := n1_; clear n0_ n1_; (try clear hb);(try clear hb2);(try clear hk);(try clear hi);(try clear ho0); obtain ⟨Ao11, co11, eo11⟩ := Kd.R_slice HO393.out; subst eo11) | ((with_reducible refine gate_callee (f := 15) rfl ?_); refine goesL_ (some 25) rfl rfl Try.func15 (by kernel_rfl) rfl #[.int .i64 a0, .int .i64 a1, .slice Ao11 t391.length co11] rfl au_ ?_; (with_reducible refine (spec_EncodePng.calls k a0 a1 _ _ t391 t394 t395 _ ?side1 ?side2 A6.out).mono ?_); (case side1 => exact cs_ (Kd.R_reads' HO393.out).2.2); (case side2 => exact (Kd.R_reads' HO393.out).2.1); rintro e w12 ⟨v396, rfl, ho0, hb⟩; refine ⟨_, rfl, ?_⟩; have n0_ := Aside0.mk (Kd.R_elder' (kdR_ HO393.out) (Kd.R_base ho0) hb); have n1_ := Aside0.mk (Kd.R_lower (Kd.R_new' ho0 (Kd.R_lt (kdR_ HO393.out))) (below_size bel_)); have n2_ := Aside0.mk (below_step bel_ hb); clear HO393; clear HB; have HO393 := n0_; have HO397 := n1_; have HB := n2_; clear n0_ n1_ n2_; (try clear hb);(try clear hb2);(try clear hk);(try clear hi);(try clear ho0)) | ((with_reducible refine gate_callee (f := 8) rfl ?_); refine goesL_ (some 29) rfl rfl Try.func8 (by kernel_rfl) rfl #[.slice A2 l2.length c2] rfl au_ ?_; (with_reducible refine (laws_toByteS.calls k _ _ l2 t398 _ ?side1 ?side2 A7.out).mono ?_); (case side1 => exact cs_ (Kd.C_below HR2.out HB.out)); (case side2 => exact HC2.out); rintro e w13 ⟨v399, rfl, ho0, hb⟩; refine ⟨_, rfl, ?_⟩; have n0_ := Aside0.mk (Kd.R_elder' (kdR_ HO393.out) (Kd.R_base ho0) hb); have n1_ := Aside0.mk (Kd.R_elder' (kdR_ HO397.out) (Kd.R_base ho0) hb); have n2_ := Aside0.mk (Kd.R_lower (Kd.R_new' (Kd.R_new' ho0 (Kd.R_lt (kdR_ HO393.out))) (Kd.R_lt (kdR_ HO397.out))) (below_size bel_)); have n3_ := Aside0.mk (below_step bel_ hb); clear HO393; clear HO397; clear HB; have HO393 := n0_; have HO397 := n1_; have HO400 := n2_; have HB := n3_; clear n0_ n1_ n2_ n3_; (try clear hb);(try clear hb2);(try clear hk);(try clear hi);(try clear ho0); obtain ⟨Ao14, co14, eo14⟩ := Kd.R_slice HO400.out; subst eo14) | ((with_reducible refine gate_callee (f := 16) rfl ?_); refine goesL_ (some 34) rfl rfl Try.func16 (by kernel_rfl) rfl #[.int .i64 a0, .int .i64 a1, .slice Ao14 t398.length co14] rfl au_ ?_; (with_reducible refine (impl_EncodePng.calls k a0 a1 (fun k_ => some k_ = (.slice Ao14 t398.length co14 : Value).ownBlock) _ _ t398 t401 t404 _ ?side1 A8.out).mono ?_); (case side1 => exact Kd.R_V (Kd.R_tight rfl (HO400.out))); rintro e w15 ⟨v402, rfl, ho0, hb⟩; refine ⟨_, rfl, ?_⟩; have n0_ := Aside0.mk (Kd.R_elder' (kdR_ HO393.out) (Kd.R_base ho0) hb); have n1_ := Aside0.mk (Kd.R_elder' (kdR_ HO397.out) (Kd.R_base ho0) hb); have n2_ := Aside0.mk (Kd.R_elder' (kdR_ HO400.out) (Kd.R_base ho0) hb); have n3_ := Aside0.mk (Kd.R_lower (Kd.R_new' (Kd.R_new' (Kd.R_new' (Kd.R_mono (ok' := fun k_ => True) ho0 (fun _ hk_ => trivial)) (Kd.R_lt (kdR_ HO393.out))) (Kd.R_lt (kdR_ HO397.out))) (Kd.R_lt (kdR_ HO400.out))) (below_size bel_)); have n4_ := Aside0.mk (below_step bel_ hb); clear HO393; clear HO397; clear HO400; clear HB; have HO393 := n0_; have HO397 := n1_; have HO400 := n2_; have HO403 := n3_; have HB := n4_; clear n0_ n1_ n2_ n3_ n4_; (try clear hb);(try clear hb2);(try clear hk);(try clear hi);(try clear ho0)))
  (try simp only [Act.put, List.setIfInBounds_toArray, List.set_cons_zero, List.set_cons_succ])
  go_cut [45] (fun v45 wc => ∃ (kq : Nat) (x45_8 : Bool), v45 = .bool x45_8 ∧ Aside0 (laws_FnExactEncodePng.j0 kq a0 a1 l2 t394 t395 t398 t401 t404 x45_8 = some r) ∧ Aside0 (kq ≤ k) ∧ Aside0 (Kd.R (Kd.int .u8) 5 wc w.heap.size (fun k_ => some k_ ≠ ((.slice Ao14 t398.length co14) : Value).ownBlock ∧ some k_ ≠ (v402 : Value).ownBlock) v396 t394) ∧ Aside0 (Kd.R (Kd.int .u8) 5 wc w.heap.size (fun k_ => some k_ ≠ (v396 : Value).ownBlock ∧ some k_ ≠ (v402 : Value).ownBlock) (.slice Ao14 t398.length co14) t398) ∧ Aside0 (Kd.R (Kd.int .u8) 5 wc w.heap.size (fun k_ => some k_ ≠ (v396 : Value).ownBlock ∧ some k_ ≠ ((.slice Ao14 t398.length co14) : Value).ownBlock) v402 t401) ∧ Aside0 (Below w.heap.size w wc))
  case first =>
   have H := HC9.out
   clear HC9
   replace H := Option.bind_eq_some_iff.mp H
   obtain ⟨t405, A160, H⟩ := H
   replace H : (if t405 = true then (laws_FnExactEncodePng.j0 k a0 a1 l2 t394 t395 t398 t401 t404 (t404 != t395)) else (laws_FnExactEncodePng.j0 k a0 a1 l2 t394 t395 t398 t401 t404 true)) = some r := H
   have A16 := Aside0.mk A160
   clear A160
   by_cases c17 : t405 = true
   ·subst c17
    have H1 : (laws_FnExactEncodePng.j0 k a0 a1 l2 t394 t395 t398 t401 t404 (t404 != t395)) = some r := by rw [if_pos rfl] at H; exact H
    clear H
    have H := H1
    clear H1
    have H' := Aside0.mk H
    clear H
    obtain ⟨Ao18, co18, eo18⟩ := Kd.R_slice HO403.out
    subst eo18
    obtain ⟨Ao19, co19, eo19⟩ := Kd.R_slice HO397.out
    subst eo19
    go_wp2_with (first | ((with_reducible refine gate_callee (f := 10) rfl ?_); refine goesL_ (some 39) rfl rfl Try.func10 (by kernel_rfl) rfl #[.slice Ao18 t401.length co18, .slice Ao19 t394.length co19] rfl au_ ?_; (with_reducible refine (laws_eqByteS.calls k _ _ t401 _ _ t394 true _ ?side1 ?side2 ?side3 ?side4 A16.out).mono ?_); (case side1 => exact cs_ (Kd.R_reads' HO403.out).2.2); (case side2 => exact (Kd.R_reads' HO403.out).2.1); (case side3 => exact cs_ (Kd.R_reads' HO397.out).2.2); (case side4 => exact (Kd.R_reads' HO397.out).2.1); rintro e w' ⟨rfl, ⟨nd, rfl⟩⟩; refine ⟨_, rfl, ?_⟩))
    go_meet
    case rel => exact ⟨_, ((t404 != t395)), sv_, H', ⟨by first | omega | exact Nat.le_refl _⟩, ⟨by (with_reducible repeat (first | apply Kd.R_alloc | apply Kd.R_drewN | apply Kd.R_drew)); exact Kd.R_mono HO397.out (fun _ hk => ⟨hk.1.2, hk.2⟩)⟩, ⟨by (with_reducible repeat (first | apply Kd.R_alloc | apply Kd.R_drewN | apply Kd.R_drew)); exact Kd.R_mono HO400.out (fun _ hk => ⟨hk.1.2, hk.2⟩)⟩, ⟨by (with_reducible repeat (first | apply Kd.R_alloc | apply Kd.R_drewN | apply Kd.R_drew)); exact Kd.R_mono HO403.out (fun _ hk => ⟨hk.1.2, hk.2⟩)⟩, ⟨bel_⟩⟩
   ·replace c17 := Bool.eq_false_iff.mpr c17
    subst c17
    have H1 : (laws_FnExactEncodePng.j0 k a0 a1 l2 t394 t395 t398 t401 t404 true) = some r := by rw [if_neg (show ¬ (false = true) by decide)] at H; exact H
    clear H
    have H := H1
    clear H1
    have H' := Aside0.mk H
    clear H
    obtain ⟨Ao20, co20, eo20⟩ := Kd.R_slice HO403.out
    subst eo20
    obtain ⟨Ao21, co21, eo21⟩ := Kd.R_slice HO397.out
    subst eo21
    go_wp2_with (first | ((with_reducible refine gate_callee (f := 10) rfl ?_); refine goesL_ (some 39) rfl rfl Try.func10 (by kernel_rfl) rfl #[.slice Ao20 t401.length co20, .slice Ao21 t394.length co21] rfl au_ ?_; (with_reducible refine (laws_eqByteS.calls k _ _ t401 _ _ t394 false _ ?side1 ?side2 ?side3 ?side4 A16.out).mono ?_); (case side1 => exact cs_ (Kd.R_reads' HO403.out).2.2); (case side2 => exact (Kd.R_reads' HO403.out).2.1); (case side3 => exact cs_ (Kd.R_reads' HO397.out).2.2); (case side4 => exact (Kd.R_reads' HO397.out).2.1); rintro e w' ⟨rfl, ⟨nd, rfl⟩⟩; refine ⟨_, rfl, ?_⟩))
    go_meet
    case rel => exact ⟨_, (true), sv_, H', ⟨by first | omega | exact Nat.le_refl _⟩, ⟨by (with_reducible repeat (first | apply Kd.R_alloc | apply Kd.R_drewN | apply Kd.R_drew)); exact Kd.R_mono HO397.out (fun _ hk => ⟨hk.1.2, hk.2⟩)⟩, ⟨by (with_reducible repeat (first | apply Kd.R_alloc | apply Kd.R_drewN | apply Kd.R_drew)); exact Kd.R_mono HO400.out (fun _ hk => ⟨hk.1.2, hk.2⟩)⟩, ⟨by (with_reducible repeat (first | apply Kd.R_alloc | apply Kd.R_drewN | apply Kd.R_drew)); exact Kd.R_mono HO403.out (fun _ hk => ⟨hk.1.2, hk.2⟩)⟩, ⟨bel_⟩⟩
  case rest =>
   clear HC9
   (try clear c1);(try clear c2);(try clear p2);(try clear c4);(try clear c4b0 c4b1);(try clear c5);(try clear c8);(try clear c10);(try clear c15);(try clear c16);(try clear c17)
   obtain ⟨kq, x45_8, rfl, HA, HJ8, HO_7, HO_9, HO_10, HB⟩ := hcut
   cases kq with
   | zero => exact absurd HA.out (by simp [laws_FnExactEncodePng.j0])
   | succ kj8 =>
    have H := HA.out
    clear HA
    simp only [laws_FnExactEncodePng.j0] at H
    by_cases c22 : x45_8 = true
    ·subst c22
     have H1 : (some false) = some r := by rw [if_pos rfl] at H; exact H
     clear H
     have H := H1
     clear H1
     obtain rfl := Option.some.inj H
     go_wp2
     go_ret
     exact ⟨er_, bel_⟩
    ·replace c22 := Bool.eq_false_iff.mpr c22
     subst c22
     have H1 : ((laws_toByteS.f kj8 l2).bind fun t406 => ((laws_eqByteS.f kj8 t398 t406).bind fun t409 => (if t409 = true then ((laws_markByteS.f kj8 t398 1).bind fun bt410 => (if bt410.1 < 0 then (laws_FnExactEncodePng.j1 kj8 a0 a1 l2 t394 t395 t401 true) else ((laws_eqByteS.f kj8 t401 t394).bind fun t412 => (if t412 = true then (laws_FnExactEncodePng.j1 kj8 a0 a1 l2 t394 t395 t401 (t404 != t395)) else (laws_FnExactEncodePng.j1 kj8 a0 a1 l2 t394 t395 t401 true))))) else (some false)))) = some r := by rw [if_neg (show ¬ (false = true) by decide)] at H; exact H
     clear H
     have H := H1
     clear H1
     replace H := Option.bind_eq_some_iff.mp H
     obtain ⟨t406, A230, H⟩ := H
     replace H : ((laws_eqByteS.f kj8 t398 t406).bind fun t409 => (if t409 = true then ((laws_markByteS.f kj8 t398 1).bind fun bt410 => (if bt410.1 < 0 then (laws_FnExactEncodePng.j1 kj8 a0 a1 l2 t394 t395 t401 true) else ((laws_eqByteS.f kj8 t401 t394).bind fun t412 => (if t412 = true then (laws_FnExactEncodePng.j1 kj8 a0 a1 l2 t394 t395 t401 (t404 != t395)) else (laws_FnExactEncodePng.j1 kj8 a0 a1 l2 t394 t395 t401 true))))) else (some false))) = some r := H
     have A23 := Aside0.mk A230
     clear A230
     replace H := Option.bind_eq_some_iff.mp H
     obtain ⟨t409, A240, H⟩ := H
     replace H : (if t409 = true then ((laws_markByteS.f kj8 t398 1).bind fun bt410 => (if bt410.1 < 0 then (laws_FnExactEncodePng.j1 kj8 a0 a1 l2 t394 t395 t401 true) else ((laws_eqByteS.f kj8 t401 t394).bind fun t412 => (if t412 = true then (laws_FnExactEncodePng.j1 kj8 a0 a1 l2 t394 t395 t401 (t404 != t395)) else (laws_FnExactEncodePng.j1 kj8 a0 a1 l2 t394 t395 t401 true))))) else (some false)) = some r := H
     have A24 := Aside0.mk A240
     clear A240
     by_cases c25 : t409 = true
     ·subst c25
      have H1 : ((laws_markByteS.f kj8 t398 1).bind fun bt410 => (if bt410.1 < 0 then (laws_FnExactEncodePng.j1 kj8 a0 a1 l2 t394 t395 t401 true) else ((laws_eqByteS.f kj8 t401 t394).bind fun t412 => (if t412 = true then (laws_FnExactEncodePng.j1 kj8 a0 a1 l2 t394 t395 t401 (t404 != t395)) else (laws_FnExactEncodePng.j1 kj8 a0 a1 l2 t394 t395 t401 true))))) = some r := by rw [if_pos rfl] at H; exact H
      clear H
      have H := H1
      clear H1
      replace H := Option.bind_eq_some_iff.mp H
      obtain ⟨⟨t410, t411⟩, A260, H⟩ := H
      replace H : (if t410 < 0 then (laws_FnExactEncodePng.j1 kj8 a0 a1 l2 t394 t395 t401 true) else ((laws_eqByteS.f kj8 t401 t394).bind fun t412 => (if t412 = true then (laws_FnExactEncodePng.j1 kj8 a0 a1 l2 t394 t395 t401 (t404 != t395)) else (laws_FnExactEncodePng.j1 kj8 a0 a1 l2 t394 t395 t401 true)))) = some r := H
      have A26 := Aside0.mk A260
      clear A260
      have HC27 := Aside0.mk H
      clear H
      go_upto_region 12 with (first | ((with_reducible refine gate_callee (f := 8) rfl ?_); refine goesL_ (some 48) rfl rfl Try.func8 (by kernel_rfl) rfl #[.slice A2 l2.length c2] rfl au_ ?_; (with_reducible refine (laws_toByteS.calls kj8 _ _ l2 t406 _ ?side1 ?side2 A23.out).mono ?_); (case side1 => exact cs_ (Kd.C_below HR2.out HB.out)); (case side2 => exact HC2.out); rintro e w28 ⟨v407, rfl, ho0, hb⟩; refine ⟨_, rfl, ?_⟩; have n0_ := Aside0.mk (Kd.R_elder' (kdR_ HO_7.out) (Kd.R_base ho0) hb); have n1_ := Aside0.mk (Kd.R_elder' (kdR_ HO_9.out) (Kd.R_base ho0) hb); have n2_ := Aside0.mk (Kd.R_elder' (kdR_ HO_10.out) (Kd.R_base ho0) hb); have n3_ := Aside0.mk (Kd.R_lower (Kd.R_new' (Kd.R_new' (Kd.R_new' ho0 (Kd.R_lt (kdR_ HO_7.out))) (Kd.R_lt (kdR_ HO_9.out))) (Kd.R_lt (kdR_ HO_10.out))) (below_size bel_)); have n4_ := Aside0.mk (below_step bel_ hb); clear HO_7; clear HO_9; clear HO_10; clear HB; have HO_7 := n0_; have HO_9 := n1_; have HO_10 := n2_; have HO408 := n3_; have HB := n4_; clear n0_ n1_ n2_ n3_ n4_; (try clear hb);(try clear hb2);(try clear hk);(try clear hi);(try clear ho0); obtain ⟨Ao29, co29, eo29⟩ := Kd.R_slice HO408.out; subst eo29) | ((with_reducible refine gate_callee (f := 10) rfl ?_); refine goesL_ (some 49) rfl rfl Try.func10 (by kernel_rfl) rfl #[.slice Ao14 t398.length co14, .slice Ao29 t406.length co29] rfl au_ ?_; (with_reducible refine (laws_eqByteS.calls kj8 _ _ t398 _ _ t406 true _ ?side1 ?side2 ?side3 ?side4 A24.out).mono ?_); (case side1 => exact cs_ (Kd.R_reads' HO_9.out).2.2); (case side2 => exact (Kd.R_reads' HO_9.out).2.1); (case side3 => exact cs_ (Kd.R_reads' HO408.out).2.2); (case side4 => exact (Kd.R_reads' HO408.out).2.1); rintro e w' ⟨rfl, ⟨nd, rfl⟩⟩; refine ⟨_, rfl, ?_⟩) | ((with_reducible refine gate_callee (f := 11) rfl ?_); refine goesL_ (some 53) rfl rfl Try.func11 (by kernel_rfl) rfl #[.slice Ao14 t398.length co14, .int .i64 1] rfl au_ ?_; (with_reducible refine (laws_markByteS.calls kj8 (fun k_ => some k_ = (.slice Ao14 t398.length co14 : Value).ownBlock) (.slice Ao14 t398.length co14) t398 1 t410 t411 w _ ?side1 ?side2 A26.out).mono ?_); (case side1 => repeat (first | (with_reducible first | exact HB.out | apply below_alloc | apply pw_below_drewN | apply below_drew1) | exact HB.out)); (case side2 => exact Kd.R_tight rfl HO_9.out); rintro e w30 ⟨rfl, hy0, hb, hkp⟩; refine ⟨_, rfl, ?_⟩; have n0_ := Aside0.mk (Kd.R_mono (ok' := fun k_ => some k_ ≠ (.slice Ao14 t398.length co14 : Value).ownBlock ∧ some k_ ≠ (v402 : Value).ownBlock ∧ some k_ ≠ (.slice Ao29 t406.length co29 : Value).ownBlock) (Kd.R_keptB (HO_7.out) hkp (fun k_ hk_ hs_ => (hk_.1.1) hs_)) (fun k_ hk_ => ⟨hk_.1.1.1, hk_.1.1.2, hk_.1.2⟩)); have n1_ := Aside0.mk (Kd.R_reok rfl hy0 (fun k_ e_ => HO_9.out.1 k_ e_)); have n2_ := Aside0.mk (Kd.R_mono (ok' := fun k_ => some k_ ≠ (v396 : Value).ownBlock ∧ some k_ ≠ (.slice Ao14 t398.length co14 : Value).ownBlock ∧ some k_ ≠ (.slice Ao29 t406.length co29 : Value).ownBlock) (Kd.R_keptB (HO_10.out) hkp (fun k_ hk_ hs_ => (hk_.1.2) hs_)) (fun k_ hk_ => ⟨hk_.1.1.1, hk_.1.1.2, hk_.1.2⟩)); have n3_ := Aside0.mk (Kd.R_mono (ok' := fun k_ => some k_ ≠ (v396 : Value).ownBlock ∧ some k_ ≠ (.slice Ao14 t398.length co14 : Value).ownBlock ∧ some k_ ≠ (v402 : Value).ownBlock) (Kd.R_keptB (HO408.out) hkp (fun k_ hk_ hs_ => (hk_.1.2) hs_)) (fun k_ hk_ => ⟨hk_.1.1.1.2, hk_.1.1.2, hk_.1.2⟩)); have n4_ := Aside0.mk (hb); clear HO_7; clear HO_9; clear HO_10; clear HO408; clear HB; have HO_7 := n0_; have HO_9 := n1_; have HO_10 := n2_; have HO408 := n3_; have HB := n4_; clear n0_ n1_ n2_ n3_ n4_; (try clear hb);(try clear hkp);(try clear hy0)))
      (try simp only [Act.put, List.setIfInBounds_toArray, List.set_cons_zero, List.set_cons_succ])
      go_cut [66] (fun v66 wc => ∃ (kq : Nat) (x66_26 : Bool), v66 = .bool x66_26 ∧ Aside0 (laws_FnExactEncodePng.j1 kq a0 a1 l2 t394 t395 t401 x66_26 = some r) ∧ Aside0 (kq ≤ kj8) ∧ Aside0 (Kd.R (Kd.int .u8) 5 wc w.heap.size (fun k_ => some k_ ≠ (v402 : Value).ownBlock) v396 t394) ∧ Aside0 (Kd.R (Kd.int .u8) 5 wc w.heap.size (fun k_ => some k_ ≠ (v396 : Value).ownBlock) v402 t401) ∧ Aside0 (Below w.heap.size w wc))
      case first =>
       have H := HC27.out
       clear HC27
       by_cases c31 : t410 < 0
       ·rw [if_pos c31] at H
        have c31b0 : decide (t410 < 0) = true := decide_eq_true c31
        clear c31
        (first | rw [c31b0] | (simp only [i64_w, i32_w]; rw [c31b0]) | skip)
        have H' := Aside0.mk H
        clear H
        go_wp2
        go_meet
        case rel => exact ⟨_, (true), sv_, H', ⟨by have := HJ8.out; first | omega | exact Nat.le_refl _⟩, ⟨by (with_reducible repeat (first | apply Kd.R_alloc | apply Kd.R_drewN | apply Kd.R_drew)); exact Kd.R_mono HO_7.out (fun _ hk => hk.2.1)⟩, ⟨by (with_reducible repeat (first | apply Kd.R_alloc | apply Kd.R_drewN | apply Kd.R_drew)); exact Kd.R_mono HO_10.out (fun _ hk => hk.1)⟩, ⟨bel_⟩⟩
       ·rw [if_neg c31] at H
        have c31b0 : decide (t410 < 0) = false := decide_eq_false c31
        clear c31
        (first | rw [c31b0] | (simp only [i64_w, i32_w]; rw [c31b0]) | skip)
        replace H := Option.bind_eq_some_iff.mp H
        obtain ⟨t412, A320, H⟩ := H
        replace H : (if t412 = true then (laws_FnExactEncodePng.j1 kj8 a0 a1 l2 t394 t395 t401 (t404 != t395)) else (laws_FnExactEncodePng.j1 kj8 a0 a1 l2 t394 t395 t401 true)) = some r := H
        have A32 := Aside0.mk A320
        clear A320
        by_cases c33 : t412 = true
        ·subst c33
         have H1 : (laws_FnExactEncodePng.j1 kj8 a0 a1 l2 t394 t395 t401 (t404 != t395)) = some r := by rw [if_pos rfl] at H; exact H
         clear H
         have H := H1
         clear H1
         have H' := Aside0.mk H
         clear H
         obtain ⟨Ao34, co34, eo34⟩ := Kd.R_slice HO_10.out
         subst eo34
         obtain ⟨Ao35, co35, eo35⟩ := Kd.R_slice HO_7.out
         subst eo35
         go_wp2_with (first | (go_at_call 10; (with_reducible refine (laws_eqByteS.calls kj8 _ _ t401 _ _ t394 true _ ?side1 ?side2 ?side3 ?side4 A32.out).mono ?_); (case side1 => exact cs_ (Kd.R_reads' HO_10.out).2.2); (case side2 => exact (Kd.R_reads' HO_10.out).2.1); (case side3 => exact cs_ (Kd.R_reads' HO_7.out).2.2); (case side4 => exact (Kd.R_reads' HO_7.out).2.1); rintro e w' ⟨rfl, ⟨nd, rfl⟩⟩))
         go_meet
         case rel => exact ⟨_, ((t404 != t395)), sv_, H', ⟨by have := HJ8.out; first | omega | exact Nat.le_refl _⟩, ⟨by (with_reducible repeat (first | apply Kd.R_alloc | apply Kd.R_drewN | apply Kd.R_drew)); exact Kd.R_mono HO_7.out (fun _ hk => hk.2.1)⟩, ⟨by (with_reducible repeat (first | apply Kd.R_alloc | apply Kd.R_drewN | apply Kd.R_drew)); exact Kd.R_mono HO_10.out (fun _ hk => hk.1)⟩, ⟨bel_⟩⟩
        ·replace c33 := Bool.eq_false_iff.mpr c33
         subst c33
         have H1 : (laws_FnExactEncodePng.j1 kj8 a0 a1 l2 t394 t395 t401 true) = some r := by rw [if_neg (show ¬ (false = true) by decide)] at H; exact H
         clear H
         have H := H1
         clear H1
         have H' := Aside0.mk H
         clear H
         obtain ⟨Ao36, co36, eo36⟩ := Kd.R_slice HO_10.out
         subst eo36
         obtain ⟨Ao37, co37, eo37⟩ := Kd.R_slice HO_7.out
         subst eo37
         go_wp2_with (first | (go_at_call 10; (with_reducible refine (laws_eqByteS.calls kj8 _ _ t401 _ _ t394 false _ ?side1 ?side2 ?side3 ?side4 A32.out).mono ?_); (case side1 => exact cs_ (Kd.R_reads' HO_10.out).2.2); (case side2 => exact (Kd.R_reads' HO_10.out).2.1); (case side3 => exact cs_ (Kd.R_reads' HO_7.out).2.2); (case side4 => exact (Kd.R_reads' HO_7.out).2.1); rintro e w' ⟨rfl, ⟨nd, rfl⟩⟩))
         go_meet
         case rel => exact ⟨_, (true), sv_, H', ⟨by have := HJ8.out; first | omega | exact Nat.le_refl _⟩, ⟨by (with_reducible repeat (first | apply Kd.R_alloc | apply Kd.R_drewN | apply Kd.R_drew)); exact Kd.R_mono HO_7.out (fun _ hk => hk.2.1)⟩, ⟨by (with_reducible repeat (first | apply Kd.R_alloc | apply Kd.R_drewN | apply Kd.R_drew)); exact Kd.R_mono HO_10.out (fun _ hk => hk.1)⟩, ⟨bel_⟩⟩
      case rest =>
       clear HC27
       (try clear c1);(try clear c2);(try clear p2);(try clear c3);(try clear c4);(try clear c4b0 c4b1);(try clear c5);(try clear c8);(try clear c10);(try clear c11);(try clear c15);(try clear c16);(try clear c17);(try clear c22);(try clear c25);(try clear c31);(try clear c31b0);(try clear c33);(try clear p2)
       obtain ⟨kq, x66_26, rfl, HA, HJ26, HO_7, HO_10, HB⟩ := hcut
       cases kq with
       | zero => exact absurd HA.out (by simp [laws_FnExactEncodePng.j1])
       | succ kj26 =>
        have H := HA.out
        clear HA
        simp only [laws_FnExactEncodePng.j1] at H
        by_cases c38 : x66_26 = true
        ·subst c38
         have H1 : (some false) = some r := by rw [if_pos rfl] at H; exact H
         clear H
         have H := H1
         clear H1
         obtain rfl := Option.some.inj H
         go_wp2
         go_ret
         exact ⟨er_, bel_⟩
        ·replace c38 := Bool.eq_false_iff.mpr c38
         subst c38
         have H1 : ((laws_markByteS.f kj26 t401 1).bind fun bt413 => ((laws_heldByteS.f kj26 bt413.2 1).bind fun t415 => (if t415 < 0 then (some false) else (if t415 = bt413.1 then ((laws_toByteS.f kj26 l2).bind fun t416 => ((impl_EncodePng.f kj26 a0 a1 t416).bind fun bt419 => ((laws_eqByteS.f kj26 bt419.1 t394).bind fun t423 => (if t423 = true then (laws_FnExactEncodePng.j2 kj26 bt413.2 bt413.1 (bt419.2 != t395)) else (laws_FnExactEncodePng.j2 kj26 bt413.2 bt413.1 true))))) else (some false))))) = some r := by rw [if_neg (show ¬ (false = true) by decide)] at H; exact H
         clear H
         have H := H1
         clear H1
         replace H := Option.bind_eq_some_iff.mp H
         obtain ⟨⟨t413, t414⟩, A390, H⟩ := H
         replace H : ((laws_heldByteS.f kj26 t414 1).bind fun t415 => (if t415 < 0 then (some false) else (if t415 = t413 then ((laws_toByteS.f kj26 l2).bind fun t416 => ((impl_EncodePng.f kj26 a0 a1 t416).bind fun bt419 => ((laws_eqByteS.f kj26 bt419.1 t394).bind fun t423 => (if t423 = true then (laws_FnExactEncodePng.j2 kj26 t414 t413 (bt419.2 != t395)) else (laws_FnExactEncodePng.j2 kj26 t414 t413 true))))) else (some false)))) = some r := H
         have A39 := Aside0.mk A390
         clear A390
         replace H := Option.bind_eq_some_iff.mp H
         obtain ⟨t415, A400, H⟩ := H
         replace H : (if t415 < 0 then (some false) else (if t415 = t413 then ((laws_toByteS.f kj26 l2).bind fun t416 => ((impl_EncodePng.f kj26 a0 a1 t416).bind fun bt419 => ((laws_eqByteS.f kj26 bt419.1 t394).bind fun t423 => (if t423 = true then (laws_FnExactEncodePng.j2 kj26 t414 t413 (bt419.2 != t395)) else (laws_FnExactEncodePng.j2 kj26 t414 t413 true))))) else (some false))) = some r := H
         have A40 := Aside0.mk A400
         clear A400
         by_cases c41 : t415 < 0
         ·rw [if_pos c41] at H
          have c41b0 : decide (t415 < 0) = true := decide_eq_true c41
          clear c41
          obtain rfl := Option.some.inj H
          obtain ⟨Ao42, co42, eo42⟩ := Kd.R_slice HO_10.out
          subst eo42
          go_wp2_with (first | ((with_reducible refine gate_callee (f := 11) rfl ?_); refine goesL_ (some 69) rfl rfl Try.func11 (by kernel_rfl) rfl #[.slice Ao42 t401.length co42, .int .i64 1] rfl au_ ?_; (with_reducible refine (laws_markByteS.calls kj26 (fun k_ => some k_ = (.slice Ao42 t401.length co42 : Value).ownBlock) (.slice Ao42 t401.length co42) t401 1 t413 t414 w _ ?side1 ?side2 A39.out).mono ?_); (case side1 => repeat (first | (with_reducible first | exact HB.out | apply below_alloc | apply pw_below_drewN | apply below_drew1) | exact HB.out)); (case side2 => exact Kd.R_tight rfl HO_10.out); rintro e w43 ⟨rfl, hy0, hb, hkp⟩; refine ⟨_, rfl, ?_⟩; have n0_ := Aside0.mk (Kd.R_mono (ok' := fun k_ => some k_ ≠ (.slice Ao42 t401.length co42 : Value).ownBlock) (Kd.R_keptB (HO_7.out) hkp (fun k_ hk_ hs_ => (hk_) hs_)) (fun k_ hk_ => hk_.1)); have n1_ := Aside0.mk (Kd.R_reok rfl hy0 (fun k_ e_ => HO_10.out.1 k_ e_)); have n2_ := Aside0.mk (hb); clear HO_7; clear HO_10; clear HB; have HO_7 := n0_; have HO_10 := n1_; have HB := n2_; clear n0_ n1_ n2_; (try clear hb);(try clear hkp);(try clear hy0)) | ((with_reducible refine gate_callee (f := 12) rfl ?_); refine goesL_ (some 72) rfl rfl Try.func12 (by kernel_rfl) rfl #[.slice Ao42 t414.length co42, .int .i64 1] rfl (by (try simp only [List.map_toArray, List.map_cons, List.map_nil]); first | done | (rw [show t414.length = t401.length from (Kd.R_reads' HO_10.out).1.symm] <;> rfl) | rfl | (simp only [List.length_drop, List.length_take]; rfl)) ?_; (with_reducible refine (laws_heldByteS.calls kj26 _ _ t414 1 t415 _ ?side1 ?side2 A40.out).mono ?_); (case side1 => exact cs_ (Kd.R_reads' HO_10.out).2.2); (case side2 => rw [show t414.length = t401.length from (Kd.R_reads' HO_10.out).1.symm]; exact (Kd.R_reads' HO_10.out).2.1); rintro e w' ⟨rfl, ⟨nd, rfl⟩⟩; refine ⟨_, rfl, ?_⟩))
          go_ret
          exact ⟨er_, bel_⟩
         ·rw [if_neg c41] at H
          have c41b0 : decide (t415 < 0) = false := decide_eq_false c41
          clear c41
          by_cases c44 : t415 = t413
          ·rw [if_pos c44] at H
           have c44b0 : (t415 == t413) = true := beq_iff_eq.mpr c44
           have c44b1 : (t415 != t413) = false := bne_eq_false_iff_eq.mpr c44
           clear c44
           replace H := Option.bind_eq_some_iff.mp H
           obtain ⟨t416, A450, H⟩ := H
           replace H : ((impl_EncodePng.f kj26 a0 a1 t416).bind fun bt419 => ((laws_eqByteS.f kj26 bt419.1 t394).bind fun t423 => (if t423 = true then (laws_FnExactEncodePng.j2 kj26 t414 t413 (bt419.2 != t395)) else (laws_FnExactEncodePng.j2 kj26 t414 t413 true)))) = some r := H
           have A45 := Aside0.mk A450
           clear A450
           replace H := Option.bind_eq_some_iff.mp H
           obtain ⟨⟨t419, t422⟩, A460, H⟩ := H
           replace H : ((laws_eqByteS.f kj26 t419 t394).bind fun t423 => (if t423 = true then (laws_FnExactEncodePng.j2 kj26 t414 t413 (t422 != t395)) else (laws_FnExactEncodePng.j2 kj26 t414 t413 true))) = some r := H
           have A46 := Aside0.mk A460
           clear A460
           have HC47 := Aside0.mk H
           clear H
           obtain ⟨Ao48, co48, eo48⟩ := Kd.R_slice HO_10.out
           subst eo48
           go_upto_region 23 with (first | ((with_reducible refine gate_callee (f := 11) rfl ?_); refine goesL_ (some 69) rfl rfl Try.func11 (by kernel_rfl) rfl #[.slice Ao48 t401.length co48, .int .i64 1] rfl au_ ?_; (with_reducible refine (laws_markByteS.calls kj26 (fun k_ => some k_ = (.slice Ao48 t401.length co48 : Value).ownBlock) (.slice Ao48 t401.length co48) t401 1 t413 t414 w _ ?side1 ?side2 A39.out).mono ?_); (case side1 => repeat (first | (with_reducible first | exact HB.out | apply below_alloc | apply pw_below_drewN | apply below_drew1) | exact HB.out)); (case side2 => exact Kd.R_tight rfl HO_10.out); rintro e w49 ⟨rfl, hy0, hb, hkp⟩; refine ⟨_, rfl, ?_⟩; have n0_ := Aside0.mk (Kd.R_mono (ok' := fun k_ => some k_ ≠ (.slice Ao48 t401.length co48 : Value).ownBlock) (Kd.R_keptB (HO_7.out) hkp (fun k_ hk_ hs_ => (hk_) hs_)) (fun k_ hk_ => hk_.1)); have n1_ := Aside0.mk (Kd.R_reok rfl hy0 (fun k_ e_ => HO_10.out.1 k_ e_)); have n2_ := Aside0.mk (hb); clear HO_7; clear HO_10; clear HB; have HO_7 := n0_; have HO_10 := n1_; have HB := n2_; clear n0_ n1_ n2_; (try clear hb);(try clear hkp);(try clear hy0)) | ((with_reducible refine gate_callee (f := 12) rfl ?_); refine goesL_ (some 72) rfl rfl Try.func12 (by kernel_rfl) rfl #[.slice Ao48 t414.length co48, .int .i64 1] rfl (by (try simp only [List.map_toArray, List.map_cons, List.map_nil]); first | done | (rw [show t414.length = t401.length from (Kd.R_reads' HO_10.out).1.symm] <;> rfl) | rfl | (simp only [List.length_drop, List.length_take]; rfl)) ?_; (with_reducible refine (laws_heldByteS.calls kj26 _ _ t414 1 t415 _ ?side1 ?side2 A40.out).mono ?_); (case side1 => exact cs_ (Kd.R_reads' HO_10.out).2.2); (case side2 => rw [show t414.length = t401.length from (Kd.R_reads' HO_10.out).1.symm]; exact (Kd.R_reads' HO_10.out).2.1); rintro e w' ⟨rfl, ⟨nd, rfl⟩⟩; refine ⟨_, rfl, ?_⟩) | ((with_reducible refine gate_callee (f := 8) rfl ?_); refine goesL_ (some 82) rfl rfl Try.func8 (by kernel_rfl) rfl #[.slice A2 l2.length c2] rfl au_ ?_; (with_reducible refine (laws_toByteS.calls kj26 _ _ l2 t416 _ ?side1 ?side2 A45.out).mono ?_); (case side1 => repeat (first | exact (Kd.C_below HR2.out bel_) | (with_reducible refine Kd.C_alloc ?_ _) | (with_reducible refine Kd.C_drewN ?_ _) | (with_reducible refine Kd.C_drew ?_))); (case side2 => exact HC2.out); rintro e w50 ⟨v417, rfl, ho0, hb⟩; refine ⟨_, rfl, ?_⟩; have n0_ := Aside0.mk (Kd.R_elder' (kdR_ HO_7.out) (Kd.R_base ho0) hb); have n1_ := Aside0.mk (Kd.R_elder' (kdR_ HO_10.out) (Kd.R_base ho0) hb); have n2_ := Aside0.mk (Kd.R_lower (Kd.R_new' (Kd.R_new' ho0 (Kd.R_lt (kdR_ HO_7.out))) (Kd.R_lt (kdR_ HO_10.out))) (below_size bel_)); have n3_ := Aside0.mk (below_step bel_ hb); clear HO_7; clear HO_10; clear HB; have HO_7 := n0_; have HO_10 := n1_; have HO418 := n2_; have HB := n3_; clear n0_ n1_ n2_ n3_; (try clear hb);(try clear hb2);(try clear hk);(try clear hi);(try clear ho0); obtain ⟨Ao51, co51, eo51⟩ := Kd.R_slice HO418.out; subst eo51) | ((with_reducible refine gate_callee (f := 16) rfl ?_); refine goesL_ (some 83) rfl rfl Try.func16 (by kernel_rfl) rfl #[.int .i64 a0, .int .i64 a1, .slice Ao51 t416.length co51] rfl au_ ?_; (with_reducible refine (impl_EncodePng.calls kj26 a0 a1 (fun k_ => some k_ = (.slice Ao51 t416.length co51 : Value).ownBlock) _ _ t416 t419 t422 _ ?side1 A46.out).mono ?_); (case side1 => exact Kd.R_V (Kd.R_tight rfl (HO418.out))); rintro e w52 ⟨v420, rfl, ho0, hb⟩; refine ⟨_, rfl, ?_⟩; have n0_ := Aside0.mk (Kd.R_elder' (kdR_ HO_7.out) (Kd.R_base ho0) hb); have n1_ := Aside0.mk (Kd.R_elder' (kdR_ HO_10.out) (Kd.R_base ho0) hb); have n2_ := Aside0.mk (Kd.R_elder' (kdR_ HO418.out) (Kd.R_base ho0) hb); have n3_ := Aside0.mk (Kd.R_lower (Kd.R_new' (Kd.R_new' (Kd.R_new' (Kd.R_mono (ok' := fun k_ => True) ho0 (fun _ hk_ => trivial)) (Kd.R_lt (kdR_ HO_7.out))) (Kd.R_lt (kdR_ HO_10.out))) (Kd.R_lt (kdR_ HO418.out))) (below_size bel_)); have n4_ := Aside0.mk (below_step bel_ hb); clear HO_7; clear HO_10; clear HO418; clear HB; have HO_7 := n0_; have HO_10 := n1_; have HO418 := n2_; have HO421 := n3_; have HB := n4_; clear n0_ n1_ n2_ n3_ n4_; (try clear hb);(try clear hb2);(try clear hk);(try clear hi);(try clear ho0)))
           (try simp only [Act.put, List.setIfInBounds_toArray, List.set_cons_zero, List.set_cons_succ])
           go_cut [94] (fun v94 wc => ∃ (kq : Nat) (x94_46 : Bool), v94 = .bool x94_46 ∧ Aside0 (laws_FnExactEncodePng.j2 kq t414 t413 x94_46 = some r) ∧ Aside0 (kq ≤ kj26) ∧ Aside0 (Kd.R (Kd.int .u8) 5 wc w.heap.size (fun _ => True) (.slice Ao48 t401.length co48) t414) ∧ Aside0 (Below w.heap.size w wc))
           case first =>
            have H := HC47.out
            clear HC47
            replace H := Option.bind_eq_some_iff.mp H
            obtain ⟨t423, A530, H⟩ := H
            replace H : (if t423 = true then (laws_FnExactEncodePng.j2 kj26 t414 t413 (t422 != t395)) else (laws_FnExactEncodePng.j2 kj26 t414 t413 true)) = some r := H
            have A53 := Aside0.mk A530
            clear A530
            by_cases c54 : t423 = true
            ·subst c54
             have H1 : (laws_FnExactEncodePng.j2 kj26 t414 t413 (t422 != t395)) = some r := by rw [if_pos rfl] at H; exact H
             clear H
             have H := H1
             clear H1
             have H' := Aside0.mk H
             clear H
             obtain ⟨Ao55, co55, eo55⟩ := Kd.R_slice HO421.out
             subst eo55
             obtain ⟨Ao56, co56, eo56⟩ := Kd.R_slice HO_7.out
             subst eo56
             go_wp2_with (first | ((with_reducible refine gate_callee (f := 10) rfl ?_); refine goesL_ (some 88) rfl rfl Try.func10 (by kernel_rfl) rfl #[.slice Ao55 t419.length co55, .slice Ao56 t394.length co56] rfl au_ ?_; (with_reducible refine (laws_eqByteS.calls kj26 _ _ t419 _ _ t394 true _ ?side1 ?side2 ?side3 ?side4 A53.out).mono ?_); (case side1 => exact cs_ (Kd.R_reads' HO421.out).2.2); (case side2 => exact (Kd.R_reads' HO421.out).2.1); (case side3 => exact cs_ (Kd.R_reads' HO_7.out).2.2); (case side4 => exact (Kd.R_reads' HO_7.out).2.1); rintro e w' ⟨rfl, ⟨nd, rfl⟩⟩; refine ⟨_, rfl, ?_⟩))
             go_meet
             case rel => exact ⟨_, ((t422 != t395)), sv_, H', ⟨by have := HJ8.out; have := HJ26.out; first | omega | exact Nat.le_refl _⟩, ⟨by (with_reducible repeat (first | apply Kd.R_alloc | apply Kd.R_drewN | apply Kd.R_drew)); exact Kd.R_mono HO_10.out (fun _ hk => trivial)⟩, ⟨bel_⟩⟩
            ·replace c54 := Bool.eq_false_iff.mpr c54
             subst c54
             have H1 : (laws_FnExactEncodePng.j2 kj26 t414 t413 true) = some r := by rw [if_neg (show ¬ (false = true) by decide)] at H; exact H
             clear H
             have H := H1
             clear H1
             have H' := Aside0.mk H
             clear H
             obtain ⟨Ao57, co57, eo57⟩ := Kd.R_slice HO421.out
             subst eo57
             obtain ⟨Ao58, co58, eo58⟩ := Kd.R_slice HO_7.out
             subst eo58
             go_wp2_with (first | ((with_reducible refine gate_callee (f := 10) rfl ?_); refine goesL_ (some 88) rfl rfl Try.func10 (by kernel_rfl) rfl #[.slice Ao57 t419.length co57, .slice Ao58 t394.length co58] rfl au_ ?_; (with_reducible refine (laws_eqByteS.calls kj26 _ _ t419 _ _ t394 false _ ?side1 ?side2 ?side3 ?side4 A53.out).mono ?_); (case side1 => exact cs_ (Kd.R_reads' HO421.out).2.2); (case side2 => exact (Kd.R_reads' HO421.out).2.1); (case side3 => exact cs_ (Kd.R_reads' HO_7.out).2.2); (case side4 => exact (Kd.R_reads' HO_7.out).2.1); rintro e w' ⟨rfl, ⟨nd, rfl⟩⟩; refine ⟨_, rfl, ?_⟩))
             go_meet
             case rel => exact ⟨_, (true), sv_, H', ⟨by have := HJ8.out; have := HJ26.out; first | omega | exact Nat.le_refl _⟩, ⟨by (with_reducible repeat (first | apply Kd.R_alloc | apply Kd.R_drewN | apply Kd.R_drew)); exact Kd.R_mono HO_10.out (fun _ hk => trivial)⟩, ⟨bel_⟩⟩
           case rest =>
            clear HC47
            (try clear c1);(try clear c2);(try clear p2);(try clear c3);(try clear c4);(try clear c4b0 c4b1);(try clear c5);(try clear c8);(try clear c10);(try clear c11);(try clear c12);(try clear c15);(try clear c16);(try clear c17);(try clear c22);(try clear c25);(try clear c31);(try clear c31b0);(try clear c33);(try clear c38);(try clear c41);(try clear c41b0);(try clear c44);(try clear c44b0 c44b1);(try clear c54);(try clear p2)
            obtain ⟨kq, x94_46, rfl, HA, HJ46, HO_10, HB⟩ := hcut
            have hl10_46 := (Kd.R_reads' HO_10.out).1
            rw [hl10_46] at HO_10
            (try simp only [hl10_46])
            cases kq with
            | zero => exact absurd HA.out (by simp [laws_FnExactEncodePng.j2])
            | succ kj46 =>
             have H := HA.out
             clear HA
             simp only [laws_FnExactEncodePng.j2] at H
             by_cases c59 : x94_46 = true
             ·subst c59
              have H1 : (some false) = some r := by rw [if_pos rfl] at H; exact H
              clear H
              have H := H1
              clear H1
              obtain rfl := Option.some.inj H
              go_wp2
              go_ret
              exact ⟨er_, bel_⟩
             ·replace c59 := Bool.eq_false_iff.mpr c59
              subst c59
              have H1 : ((laws_heldByteS.f kj46 t414 1).bind fun t424 => (if t424 < 0 then (some false) else (if t424 = t413 then (some true) else (some false)))) = some r := by rw [if_neg (show ¬ (false = true) by decide)] at H; exact H
              clear H
              have H := H1
              clear H1
              replace H := Option.bind_eq_some_iff.mp H
              obtain ⟨t424, A600, H⟩ := H
              replace H : (if t424 < 0 then (some false) else (if t424 = t413 then (some true) else (some false))) = some r := H
              have A60 := Aside0.mk A600
              clear A600
              by_cases c61 : t424 < 0
              ·rw [if_pos c61] at H
               have c61b0 : decide (t424 < 0) = true := decide_eq_true c61
               clear c61
               obtain rfl := Option.some.inj H
               go_wp2_with (first | ((with_reducible refine gate_callee (f := 12) rfl ?_); refine goesL_ (some 97) rfl rfl Try.func12 (by kernel_rfl) rfl #[.slice Ao48 t414.length co48, .int .i64 1] rfl au_ ?_; (with_reducible refine (laws_heldByteS.calls kj46 _ _ t414 1 t424 _ ?side1 ?side2 A60.out).mono ?_); (case side1 => exact cs_ (Kd.R_reads' HO_10.out).2.2); (case side2 => exact (Kd.R_reads' HO_10.out).2.1); rintro e w' ⟨rfl, ⟨nd, rfl⟩⟩; refine ⟨_, rfl, ?_⟩))
               go_ret
               exact ⟨er_, bel_⟩
              ·rw [if_neg c61] at H
               have c61b0 : decide (t424 < 0) = false := decide_eq_false c61
               clear c61
               by_cases c62 : t424 = t413
               ·rw [if_pos c62] at H
                have c62b0 : (t424 == t413) = true := beq_iff_eq.mpr c62
                have c62b1 : (t424 != t413) = false := bne_eq_false_iff_eq.mpr c62
                clear c62
                obtain rfl := Option.some.inj H
                go_wp2_with (first | ((with_reducible refine gate_callee (f := 12) rfl ?_); refine goesL_ (some 97) rfl rfl Try.func12 (by kernel_rfl) rfl #[.slice Ao48 t414.length co48, .int .i64 1] rfl au_ ?_; (with_reducible refine (laws_heldByteS.calls kj46 _ _ t414 1 t424 _ ?side1 ?side2 A60.out).mono ?_); (case side1 => exact cs_ (Kd.R_reads' HO_10.out).2.2); (case side2 => exact (Kd.R_reads' HO_10.out).2.1); rintro e w' ⟨rfl, ⟨nd, rfl⟩⟩; refine ⟨_, rfl, ?_⟩))
                go_ret
                exact ⟨er_, bel_⟩
               ·rw [if_neg c62] at H
                have c62b0 : (t424 == t413) = false := beq_eq_false_iff_ne.mpr c62
                have c62b1 : (t424 != t413) = true := bne_iff_ne.mpr c62
                obtain rfl := Option.some.inj H
                go_wp2_with (first | ((with_reducible refine gate_callee (f := 12) rfl ?_); refine goesL_ (some 97) rfl rfl Try.func12 (by kernel_rfl) rfl #[.slice Ao48 t414.length co48, .int .i64 1] rfl au_ ?_; (with_reducible refine (laws_heldByteS.calls kj46 _ _ t414 1 t424 _ ?side1 ?side2 A60.out).mono ?_); (case side1 => exact cs_ (Kd.R_reads' HO_10.out).2.2); (case side2 => exact (Kd.R_reads' HO_10.out).2.1); rintro e w' ⟨rfl, ⟨nd, rfl⟩⟩; refine ⟨_, rfl, ?_⟩))
                go_ret
                exact ⟨er_, bel_⟩
          ·rw [if_neg c44] at H
           have c44b0 : (t415 == t413) = false := beq_eq_false_iff_ne.mpr c44
           have c44b1 : (t415 != t413) = true := bne_iff_ne.mpr c44
           obtain rfl := Option.some.inj H
           obtain ⟨Ao63, co63, eo63⟩ := Kd.R_slice HO_10.out
           subst eo63
           go_wp2_with (first | ((with_reducible refine gate_callee (f := 11) rfl ?_); refine goesL_ (some 69) rfl rfl Try.func11 (by kernel_rfl) rfl #[.slice Ao63 t401.length co63, .int .i64 1] rfl au_ ?_; (with_reducible refine (laws_markByteS.calls kj26 (fun k_ => some k_ = (.slice Ao63 t401.length co63 : Value).ownBlock) (.slice Ao63 t401.length co63) t401 1 t413 t414 w _ ?side1 ?side2 A39.out).mono ?_); (case side1 => repeat (first | (with_reducible first | exact HB.out | apply below_alloc | apply pw_below_drewN | apply below_drew1) | exact HB.out)); (case side2 => exact Kd.R_tight rfl HO_10.out); rintro e w64 ⟨rfl, hy0, hb, hkp⟩; refine ⟨_, rfl, ?_⟩; have n0_ := Aside0.mk (Kd.R_mono (ok' := fun k_ => some k_ ≠ (.slice Ao63 t401.length co63 : Value).ownBlock) (Kd.R_keptB (HO_7.out) hkp (fun k_ hk_ hs_ => (hk_) hs_)) (fun k_ hk_ => hk_.1)); have n1_ := Aside0.mk (Kd.R_reok rfl hy0 (fun k_ e_ => HO_10.out.1 k_ e_)); have n2_ := Aside0.mk (hb); clear HO_7; clear HO_10; clear HB; have HO_7 := n0_; have HO_10 := n1_; have HB := n2_; clear n0_ n1_ n2_; (try clear hb);(try clear hkp);(try clear hy0)) | ((with_reducible refine gate_callee (f := 12) rfl ?_); refine goesL_ (some 72) rfl rfl Try.func12 (by kernel_rfl) rfl #[.slice Ao63 t414.length co63, .int .i64 1] rfl (by (try simp only [List.map_toArray, List.map_cons, List.map_nil]); first | done | (rw [show t414.length = t401.length from (Kd.R_reads' HO_10.out).1.symm] <;> rfl) | rfl | (simp only [List.length_drop, List.length_take]; rfl)) ?_; (with_reducible refine (laws_heldByteS.calls kj26 _ _ t414 1 t415 _ ?side1 ?side2 A40.out).mono ?_); (case side1 => exact cs_ (Kd.R_reads' HO_10.out).2.2); (case side2 => rw [show t414.length = t401.length from (Kd.R_reads' HO_10.out).1.symm]; exact (Kd.R_reads' HO_10.out).2.1); rintro e w' ⟨rfl, ⟨nd, rfl⟩⟩; refine ⟨_, rfl, ?_⟩))
           go_ret
           exact ⟨er_, bel_⟩
     ·replace c25 := Bool.eq_false_iff.mpr c25
      subst c25
      have H1 : (some false) = some r := by rw [if_neg (show ¬ (false = true) by decide)] at H; exact H
      clear H
      have H := H1
      clear H1
      obtain rfl := Option.some.inj H
      go_wp2_with (first | ((with_reducible refine gate_callee (f := 8) rfl ?_); refine goesL_ (some 48) rfl rfl Try.func8 (by kernel_rfl) rfl #[.slice A2 l2.length c2] rfl au_ ?_; (with_reducible refine (laws_toByteS.calls kj8 _ _ l2 t406 _ ?side1 ?side2 A23.out).mono ?_); (case side1 => exact cs_ (Kd.C_below HR2.out HB.out)); (case side2 => exact HC2.out); rintro e w65 ⟨v407, rfl, ho0, hb⟩; refine ⟨_, rfl, ?_⟩; have n0_ := Aside0.mk (Kd.R_elder' (kdR_ HO_7.out) (Kd.R_base ho0) hb); have n1_ := Aside0.mk (Kd.R_elder' (kdR_ HO_9.out) (Kd.R_base ho0) hb); have n2_ := Aside0.mk (Kd.R_elder' (kdR_ HO_10.out) (Kd.R_base ho0) hb); have n3_ := Aside0.mk (Kd.R_lower (Kd.R_new' (Kd.R_new' (Kd.R_new' ho0 (Kd.R_lt (kdR_ HO_7.out))) (Kd.R_lt (kdR_ HO_9.out))) (Kd.R_lt (kdR_ HO_10.out))) (below_size bel_)); have n4_ := Aside0.mk (below_step bel_ hb); clear HO_7; clear HO_9; clear HO_10; clear HB; have HO_7 := n0_; have HO_9 := n1_; have HO_10 := n2_; have HO408 := n3_; have HB := n4_; clear n0_ n1_ n2_ n3_ n4_; (try clear hb);(try clear hb2);(try clear hk);(try clear hi);(try clear ho0); obtain ⟨Ao66, co66, eo66⟩ := Kd.R_slice HO408.out; subst eo66) | ((with_reducible refine gate_callee (f := 10) rfl ?_); refine goesL_ (some 49) rfl rfl Try.func10 (by kernel_rfl) rfl #[.slice Ao14 t398.length co14, .slice Ao66 t406.length co66] rfl au_ ?_; (with_reducible refine (laws_eqByteS.calls kj8 _ _ t398 _ _ t406 false _ ?side1 ?side2 ?side3 ?side4 A24.out).mono ?_); (case side1 => exact cs_ (Kd.R_reads' HO_9.out).2.2); (case side2 => exact (Kd.R_reads' HO_9.out).2.1); (case side3 => exact cs_ (Kd.R_reads' HO408.out).2.2); (case side4 => exact (Kd.R_reads' HO408.out).2.1); rintro e w' ⟨rfl, ⟨nd, rfl⟩⟩; refine ⟨_, rfl, ?_⟩))
      go_ret
      exact ⟨er_, bel_⟩

/-- THE ONE PURE STATEMENT of laws_FnExactEncodePng: yours. -/
def laws_FnExactEncodePng.Pure : Prop := ∀ (a0 : Int) (a1 : Int) (l2 : List Int), (Lit.int .i64 a0).wf = true → (Lit.int .i64 a1).wf = true → l2.length ≤ maxLen → l2.length * 1 ≤ 140737488351232 → (∀ x ∈ l2, (Lit.int .u8 x).wf = true) → ∃ k, laws_FnExactEncodePng.f k a0 a1 l2 = some true
theorem laws_FnExactEncodePng.walk (P : laws_FnExactEncodePng.Pure) (a0 : Int) (a1 : Int) (a2 : Option Addr) (len2 cap2 : Nat) (z2 : List Int) (w : World) (w0 : (Lit.int .i64 a0).wf = true) (w1 : (Lit.int .i64 a1).wf = true) (w2 : (a2 = none ∧ len2 = 0 ∧ cap2 = 0 ∧ z2 = []) ∨ ∃ x, a2 = some x ∧ len2 ≤ cap2 ∧ cap2 ≤ maxLen ∧ z2.length = cap2 ∧ (∀ i, i < z2.length → w.cell? (x.add i) = some (.int .u8 (z2.getD i 0))) ∧ ∀ n ∈ z2, (Lit.int .u8 n).wf = true) (y2 : len2 * 1 ≤ 140737488351232) :
  Calls Try.prog 5 #[.int .i64 a0, .int .i64 a1, .slice a2 len2 cap2] w fun e w' => e = .returned (.bool true) ∧ Below w.heap.size w w' := by
 obtain ⟨l2, rfl, hr2, hm2, hw2, hc2⟩ := ReadsInt.ofRowC w2
 obtain ⟨k, h⟩ := P a0 a1 l2 w0 w1 hm2 y2 hw2
 refine (laws_FnExactEncodePng.calls k a0 a1 _ _ l2 true w (Kd.C_of_reads (d := (0 : Int)) (h1 := fun _ => rfl) hr2) hc2 h).mono ?_
 rintro e w' ⟨rfl, hd⟩
 exact ⟨rfl, hd⟩

end Go.Proofs.Ytfogfjmkngoegaa.PFnExactEncodePng
