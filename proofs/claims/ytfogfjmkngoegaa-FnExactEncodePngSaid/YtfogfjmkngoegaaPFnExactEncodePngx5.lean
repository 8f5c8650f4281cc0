-- Laid by a program of this session out of the translation (its own run of the print). Lean checks it.
import Derived.Test.YtfogfjmkngoegaaPFnExactEncodePngx0
import Derived.Test.YtfogfjmkngoegaaPFnExactEncodePngx1
import Derived.Test.YtfogfjmkngoegaaPFnExactEncodePngx2
import Derived.Test.YtfogfjmkngoegaaPFnExactEncodePngx3
import Derived.Test.YtfogfjmkngoegaaPFnExactEncodePngx4
namespace Go.Proofs.Ytfogfjmkngoegaa.PFnExactEncodePng
open Go.RowKit Go.Proofs.YtfogfjmkngoegaaW.PrintWords Go.Proofs.YtfogfjmkngoegaaW.PrintLast Go.Proofs.YtfogfjmkngoegaaW.PrintMore
attribute [local go_sem] max2_int min2_int max_two min_two max_three min_three max_four min_four   -- for this text's walks alone
set_option linter.unusedVariables false
set_option linter.unusedSimpArgs false

/-! ### spec_l3Pack: function 58 -/
def spec_l3Pack.l0 : Nat → Int → Int → List Int → List Int → List Int → Int → Option (List Int)
 | 0, _, _, _, _, _, _ => none
 | k + 1, x0, x1, x2, x7, x8, x9 => if x9 < x1 then (if 0 ≤ (wrap64 ((wrap64 (4 * x0)) * x9)) then (if (wrap64 ((wrap64 (4 * x0)) * x9)) ≤ (wrap64 ((wrap64 (4 * x0)) * (wrap64 (x9 + 1)))) then (if (wrap64 ((wrap64 (4 * x0)) * (wrap64 (x9 + 1)))) ≤ (x2.length : Int) then ((some ((x2.take ((wrap64 ((wrap64 (4 * x0)) * (wrap64 (x9 + 1)))) : Int).toNat).drop ((wrap64 ((wrap64 (4 * x0)) * x9)) : Int).toNat : List Int)).bind fun y167 => ((spec_l3Best.f k y167 x8).bind fun t172 => (if x7.length < 140737488355328 then ((some (x7 ++ [(t172) % 256] : List Int)).bind fun y173 => ((spec_l3Filter.f k t172 y167 x8).bind fun t176 => (if y173.length + t176.length < 140737488355328 then (spec_l3Pack.l0 k x0 x1 x2 (y173 ++ t176) y167 (wrap64 (x9 + 1))) else (none)))) else (none)))) else (none)) else (none)) else (none)) else ((some (([120, 1] : List Int) : List Int)).bind fun y182 => ((spec_l2Best.f k x7).bind fun t185 => (if y182.length + t185.length < 140737488355328 then ((some (y182 ++ t185 : List Int)).bind fun y188 => ((spec_l3Adler.f k x7).bind fun t191 => ((spec_l3Four.f t191).bind fun t192 => (if y188.length + t192.length < 140737488355328 then (some (y188 ++ t192)) else (none))))) else (none))))
def spec_l3Pack.f (k : Nat) (a0 : Int) (a1 : Int) (l2 : List Int) : Option (List Int) := if 0 ≤ (wrap64 (4 * a0)) then (if (wrap64 (4 * a0) : Int).toNat ≤ 281474976710656 then (spec_l3Pack.l0 k a0 a1 l2 ([] : List Int) (List.replicate (wrap64 (4 * a0) : Int).toNat 0) 0) else (none)) else (none)
set_option maxHeartbeats 8000000 in
set_option maxRecDepth 100000 in
theorem spec_l3Pack.calls (k : Nat) (a0 : Int) (a1 : Int) (P2_ : Nat → Prop) (A2 : Option Addr) (c2 : Nat) (l2 : List Int) (r : List Int) (w : World) (hs2 : Kd.V (Kd.int .u8) 5 w w.heap.size (fun k_ => P2_ k_) (.slice A2 l2.length c2) l2) (h : spec_l3Pack.f k a0 a1 l2 = some r) :
  Calls Try.prog 58 #[.int .i64 a0, .int .i64 a1, .slice A2 l2.length c2] w fun e w' => ∃ v0_ : Value, e = .returned (v0_) ∧ Kd.R (Kd.int .u8) 5 w' w.heap.size (fun k_ => (w.heap.size ≤ k_)) v0_ r ∧ Below w.heap.size w w' := by
 have HO2 := Aside0.mk (show Kd.V (Kd.int .u8) 5 w w.heap.size (fun k_ => (P2_ k_ ∨ w.heap.size ≤ k_)) (.slice A2 l2.length c2) l2 from Kd.V_mono hs2 (fun k_ hk => .inl hk))
 have HB := Aside0.mk (Below.refl w.heap.size w)
 have H : (if 0 ≤ (wrap64 (4 * a0)) then (if (wrap64 (4 * a0) : Int).toNat ≤ 281474976710656 then (spec_l3Pack.l0 k a0 a1 l2 ([] : List Int) (List.replicate (wrap64 (4 * a0) : Int).toNat 0) 0) else (none)) else (none)) = some r := h
 clear h
 obtain ⟨ji4, hji4⟩ : ∃ j_ : Int, (wrap64 (4 * a0)) = j_ := ⟨_, rfl⟩
 replace H : (if 0 ≤ (ji4) then (if (ji4 : Int).toNat ≤ 281474976710656 then (spec_l3Pack.l0 k a0 a1 l2 ([] : List Int) (List.replicate (ji4 : Int).toNat 0) 0) else (none)) else (none)) = some r := by first | (rw [hji4] at H; exact H) | (simp only [hji4] at H ⊢; exact H)
 have hji4w : (IntKind.i64.wrap (4 * a0)) = ji4 := (i64_w _).trans hji4
 by_cases c5 : 0 ≤ (ji4)
 ·rw [if_pos c5] at H
  have c5b0 := eq_true c5
  have c5b1 : decide (0 ≤ (ji4)) = true := decide_eq_true c5
  clear c5
  by_cases c6 : (ji4 : Int).toNat ≤ 281474976710656
  ·rw [if_pos c6] at H
   have c6b0 := eq_true c6
   have c6b1 : decide ((ji4 : Int).toNat ≤ 281474976710656) = true := decide_eq_true c6
   clear c6
   obtain ⟨y164, hy164⟩ : ∃ y_ : List Int, y_ = (List.replicate (ji4 : Int).toNat 0) := ⟨_, rfl⟩
   replace H : (spec_l3Pack.l0 k a0 a1 l2 ([] : List Int) y164 0) = some r := by first | (rw [hy164]; with_reducible exact H) | (have H2_ := (Option.bind_some _ _).symm.trans H; rw [hy164]; with_reducible exact H2_) | (have H2_ := (Option.bind_some _ _).symm.trans H; with_reducible exact H2_) | with_reducible exact H | (rw [hy164]; exact H) | exact H
   have Ny164 := Aside0.mk hy164
   clear hy164
   have H' := Aside0.mk H
   clear H
   go_enter Try.func58, Try.ntmps58
   go_wp2_with (first | ((with_reducible refine gate_dst (N := 15) rfl ?_); refine Kd.R_make (Kd.int .u8) _ 5 rfl (N := 15) rfl 22 _ _ rfl ji4 rfl rfl Try.underlying22 (.int .u8 0) 1 info5 rfl (by decide) (by omega) 0 (ok := fun _ => True) (okp := fun _ => True) rfl (fun _ hk => hk) trivial (of_decide_eq_true am_) (Nat.le_trans (Nat.mul_le_mul_right _ (of_decide_eq_true am_ : ji4.toNat ≤ 281474976710656)) (by omega)) (Below.refl _ _) (Nat.le_refl _) ?_; intro v165 w7 ho8 hb hg_ hnew_; clear hg_ hnew_; (first | rw [← Ny164.out] at ho8 | (simp only [Int.reduceToNat] at ho8; rw [← Ny164.out] at ho8)); have n0_ := Aside0.mk (Kd.V_elder' (by (with_reducible repeat (first | apply Kd.V_alloc | apply Kd.V_drewN | apply Kd.V_drew)); exact HO2.out) (Kd.R_base ho8) hb); have n1_ := Aside0.mk (Kd.R_lower (Kd.R_newM (M := fun k_ => (w.heap.size ≤ k_)) ho8 (below_size bel_) (fun k_ h_ => h_)) (below_size bel_)); have n2_ := Aside0.mk (below_step bel_ hb); clear HO2; clear HB; have HO2 := n0_; have HO166 := n1_; have HB := n2_; clear n0_ n1_ n2_; clear hb ho8))
   go_loopg [7, 8, 9] k (fun kq v7 v8 v9 w' => ∃ (x7_1 : List Int) (x8_1 : List Int) (x9_1 : Int), v9 = .int .i64 x9_1 ∧ Aside0 (spec_l3Pack.l0 kq a0 a1 l2 x7_1 x8_1 x9_1 = some r) ∧ Aside0 (kq ≤ k) ∧ Aside0 (Kd.V (Kd.int .u8) 5 w' w.heap.size (fun k_ => (P2_ k_ ∨ w.heap.size ≤ k_) ∧ some k_ ≠ (v7 : Value).ownBlock) (.slice A2 l2.length c2) l2) ∧ Aside0 (Kd.R (Kd.int .u8) 5 w' w.heap.size (fun k_ => (w.heap.size ≤ k_)) v7 x7_1) ∧ Aside0 (Kd.V (Kd.int .u8) 5 w' w.heap.size (fun k_ => (P2_ k_ ∨ w.heap.size ≤ k_) ∧ some k_ ≠ (v7 : Value).ownBlock) v8 x8_1) ∧ Aside0 (Below w.heap.size w w'))
   case atStart => exact ⟨(([] : List Int)), (y164), (0), sv_, H', ⟨Nat.le_refl _⟩, ⟨by (with_reducible repeat (first | apply Kd.V_alloc | apply Kd.V_drewN | apply Kd.V_drew)); exact Kd.V_mono HO2.out (fun _ hk => ⟨hk.1, (by simp [Value.ownBlock])⟩)⟩, ⟨by first | exact Kd.R_nil _ _ _ _ _ | exact Kd.N_nil _ _ _ _ _ | exact Kd.V_nil _ _ _ _ _ | exact Kd.Q_nil _ _ _ _ _ | exact Kd.S_nil _ _ _ _ _⟩, ⟨Kd.V_mono (Kd.R_V (kdR_ HO166.out)) (fun k_ hk => by first | exact ⟨(.inr (hk.1)), (by simp [Value.ownBlock])⟩ | exact ⟨(.inr (hk)), (by simp [Value.ownBlock])⟩ | exact ⟨(.inr (hk.1)), hk.2⟩ | exact (.inr (hk)))⟩, ⟨bel_⟩⟩
   case round =>
    (try clear hji4w);(try clear hji4)
    clear H'
    (try clear c2);(try clear p2);(try clear c5);(try clear c5b0 c5b1);(try clear c6);(try clear c6b0 c6b1);(try clear p6)
    obtain ⟨x7_1, x8_1, x9_1, rfl, HA, HK1, HO_2, HO_7, HO_8, HB⟩ := hrel
    cases gk with
    | zero => exact absurd HA.out (by simp [spec_l3Pack.l0])
    | succ k1 =>
     have H := HA.out
     clear HA
     simp only [spec_l3Pack.l0] at H
     by_cases c9 : x9_1 < a1
     ·rw [if_pos c9] at H
      have c9b0 : decide (x9_1 < a1) = true := decide_eq_true c9
      clear c9
      obtain ⟨ji10, hji10⟩ : ∃ j_ : Int, (wrap64 ((wrap64 (4 * a0)) * x9_1)) = j_ := ⟨_, rfl⟩
      replace H : (if 0 ≤ (ji10) then (if (ji10) ≤ (wrap64 ((wrap64 (4 * a0)) * (wrap64 (x9_1 + 1)))) then (if (wrap64 ((wrap64 (4 * a0)) * (wrap64 (x9_1 + 1)))) ≤ (l2.length : Int) then ((some ((l2.take ((wrap64 ((wrap64 (4 * a0)) * (wrap64 (x9_1 + 1)))) : Int).toNat).drop ((ji10) : Int).toNat : List Int)).bind fun y167 => ((spec_l3Best.f k1 y167 x8_1).bind fun t172 => (if x7_1.length < 140737488355328 then ((some (x7_1 ++ [(t172) % 256] : List Int)).bind fun y173 => ((spec_l3Filter.f k1 t172 y167 x8_1).bind fun t176 => (if y173.length + t176.length < 140737488355328 then (spec_l3Pack.l0 k1 a0 a1 l2 (y173 ++ t176) y167 (wrap64 (x9_1 + 1))) else (none)))) else (none)))) else (none)) else (none)) else (none)) = some r := by first | (rw [hji10] at H; exact H) | (simp only [hji10] at H ⊢; exact H)
      have hji10w : (IntKind.i64.wrap ((wrap64 (4 * a0)) * x9_1)) = ji10 := (i64_w _).trans hji10
      by_cases c11 : 0 ≤ (ji10)
      ·rw [if_pos c11] at H
       have c11b0 := eq_true c11
       have c11b1 : decide (0 ≤ (ji10)) = true := decide_eq_true c11
       clear c11
       by_cases c12 : (ji10) ≤ (wrap64 ((wrap64 (4 * a0)) * (wrap64 (x9_1 + 1))))
       ·rw [if_pos c12] at H
        have c12b0 := eq_true c12
        have c12b1 : decide ((ji10) ≤ (wrap64 ((wrap64 (4 * a0)) * (wrap64 (x9_1 + 1))))) = true := decide_eq_true c12
        by_cases c13 : (wrap64 ((wrap64 (4 * a0)) * (wrap64 (x9_1 + 1)))) ≤ (l2.length : Int)
        ·rw [if_pos c13] at H
         have c13b0 := eq_true c13
         have c13b1 : decide ((wrap64 ((wrap64 (4 * a0)) * (wrap64 (x9_1 + 1)))) ≤ (l2.length : Int)) = true := decide_eq_true c13
         obtain ⟨y167, hy167⟩ : ∃ y_ : List Int, y_ = ((l2.take ((wrap64 ((wrap64 (4 * a0)) * (wrap64 (x9_1 + 1)))) : Int).toNat).drop ((ji10) : Int).toNat) := ⟨_, rfl⟩
         replace H : ((spec_l3Best.f k1 y167 x8_1).bind fun t172 => (if x7_1.length < 140737488355328 then ((some (x7_1 ++ [(t172) % 256] : List Int)).bind fun y173 => ((spec_l3Filter.f k1 t172 y167 x8_1).bind fun t176 => (if y173.length + t176.length < 140737488355328 then (spec_l3Pack.l0 k1 a0 a1 l2 (y173 ++ t176) y167 (wrap64 (x9_1 + 1))) else (none)))) else (none))) = some r := by first | (rw [hy167]; with_reducible exact H) | (have H2_ := (Option.bind_some _ _).symm.trans H; rw [hy167]; with_reducible exact H2_) | (have H2_ := (Option.bind_some _ _).symm.trans H; with_reducible exact H2_) | with_reducible exact H | (rw [hy167]; exact H) | exact H
         have Ny167 := Aside0.mk hy167
         clear hy167
         replace H := Option.bind_eq_some_iff.mp H
         obtain ⟨t172, A140, H⟩ := H
         replace H : (if x7_1.length < 140737488355328 then ((some (x7_1 ++ [(t172) % 256] : List Int)).bind fun y173 => ((spec_l3Filter.f k1 t172 y167 x8_1).bind fun t176 => (if y173.length + t176.length < 140737488355328 then (spec_l3Pack.l0 k1 a0 a1 l2 (y173 ++ t176) y167 (wrap64 (x9_1 + 1))) else (none)))) else (none)) = some r := H
         have A14 := Aside0.mk A140
         clear A140
         by_cases c15 : x7_1.length < 140737488355328
         ·rw [if_pos c15] at H
          have LMc15 := Aside0.mk c15
          clear c15
          obtain ⟨y173, hy173⟩ : ∃ y_ : List Int, y_ = (x7_1 ++ [(t172) % 256]) := ⟨_, rfl⟩
          replace H : ((spec_l3Filter.f k1 t172 y167 x8_1).bind fun t176 => (if y173.length + t176.length < 140737488355328 then (spec_l3Pack.l0 k1 a0 a1 l2 (y173 ++ t176) y167 (wrap64 (x9_1 + 1))) else (none))) = some r := by first | (rw [hy173]; with_reducible exact H) | (have H2_ := (Option.bind_some _ _).symm.trans H; rw [hy173]; with_reducible exact H2_) | (have H2_ := (Option.bind_some _ _).symm.trans H; with_reducible exact H2_) | with_reducible exact H | (rw [hy173]; exact H) | exact H
          have Ny173 := Aside0.mk hy173
          clear hy173
          replace H := Option.bind_eq_some_iff.mp H
          obtain ⟨t176, A160, H⟩ := H
          replace H : (if y173.length + t176.length < 140737488355328 then (spec_l3Pack.l0 k1 a0 a1 l2 (y173 ++ t176) y167 (wrap64 (x9_1 + 1))) else (none)) = some r := H
          have A16 := Aside0.mk A160
          clear A160
          by_cases c17 : y173.length + t176.length < 140737488355328
          ·rw [if_pos c17] at H
           have LMc17 := Aside0.mk c17
           clear c17
           obtain ⟨y179, hy179⟩ : ∃ y_ : List Int, y_ = (y173 ++ t176) := ⟨_, rfl⟩
           replace H : (spec_l3Pack.l0 k1 a0 a1 l2 y179 y167 (wrap64 (x9_1 + 1))) = some r := by first | (rw [hy179]; with_reducible exact H) | (have H2_ := (Option.bind_some _ _).symm.trans H; rw [hy179]; with_reducible exact H2_) | (have H2_ := (Option.bind_some _ _).symm.trans H; with_reducible exact H2_) | with_reducible exact H | (rw [hy179]; exact H) | exact H
           have Ny179 := Aside0.mk hy179
           clear hy179
           have H' := Aside0.mk H
           clear H
           have q18 : ((wrap64 ((wrap64 (4 * a0)) * (wrap64 (x9_1 + 1)))) : Int) ≤ ((l2.length : Int) : Int) := of_decide_eq_true am_
           obtain ⟨i018, hi018, _, hsz18, _⟩ := info_parts info5
           have hroom18 : l2.length ≤ c2 := (Kd.V_reads' HO_2.out).2.1
           have hC18 : Kd.F (Kd.int .u8) _ _ A2 l2.length l2 := (Kd.V_at (base := w.heap.size) HO_2.out).2.2
           have ql18 : ((ji10) : Int) ≤ ((wrap64 ((wrap64 (4 * a0)) * (wrap64 (x9_1 + 1)))) : Int) := of_decide_eq_true am_
           have q018 : (0 : Int) ≤ ((ji10) : Int) := of_decide_eq_true am_
           have hcut18 := cut_mid (P := Try.prog) 22 5 .i64 .i64 Try.underlying22 hi018 1 hsz18 A2 l2.length c2 (ji10) (wrap64 ((wrap64 (4 * a0)) * (wrap64 (x9_1 + 1)))) q018 ql18 q18 hroom18
           have hr18 := Kd.F_mid (lo := ((ji10) : Int).toNat) (hi := ((wrap64 ((wrap64 (4 * a0)) * (wrap64 (x9_1 + 1)))) : Int).toNat) (c := c2) hC18 (by omega) (by omega) hroom18
           obtain ⟨A18, hA18⟩ : ∃ A1, A1 = (if c2 = ((ji10) : Int).toNat then A2 else (A2 : Option Addr).map (·.add (((ji10) : Int).toNat * 1))) := ⟨_, rfl⟩
           obtain ⟨c18, hc18⟩ : ∃ c1, c1 = c2 - ((ji10) : Int).toNat := ⟨_, rfl⟩
           have hy18 : y167.length = ((wrap64 ((wrap64 (4 * a0)) * (wrap64 (x9_1 + 1)))) : Int).toNat - ((ji10) : Int).toNat := (by rw [Ny167.out, List.length_drop, List.length_take] <;> omega)
           rw [show ((l2).take ((wrap64 ((wrap64 (4 * a0)) * (wrap64 (x9_1 + 1)))) : Int).toNat).drop ((ji10) : Int).toNat = y167 from Ny167.out.symm] at hr18
           replace hr18 : Kd.F (Kd.int .u8) _ _ A18 y167.length y167 := (by rw [hA18]; exact hr18)
           rw [← hy18, ← hA18, ← hc18] at hcut18
           have HO171 := Aside0.mk (show Kd.V (Kd.int .u8) 5 _ w.heap.size _ (.slice A18 y167.length c18) y167 from Kd.V_mk (by rw [hy18, hc18]; exact Nat.sub_le_sub_right (Nat.le_trans (by omega) hroom18) _) hr18)
           have HC171 := Aside0.mk (show y167.length ≤ c18 from by rw [hy18, hc18]; exact Nat.sub_le_sub_right (Nat.le_trans (by omega) hroom18) _)
           clear hr18 hC18 hroom18 hi018 hsz18 hc18
           have KY18 := Aside0.mk hy18
           have KA18 := Aside0.mk hA18
           clear hy18 hA18
           replace q18 := eq_true q18
           obtain ⟨Ao19, co19, eo19⟩ := Kd.V_slice HO_8.out
           subst eo19
           go_wp2_with (first | ((with_reducible refine gate_callee (f := 67) rfl ?_); refine goesL_ (some 34) rfl rfl Try.func67 (by kernel_rfl) rfl #[.slice A18 y167.length c18, .slice Ao19 x8_1.length co19] rfl au_ ?_; (with_reducible refine (spec_l3Best.calls k1 _ _ y167 _ _ x8_1 t172 _ ?side1 ?side2 ?side3 ?side4 A14.out).mono ?_); (case side1 => repeat (first | exact (Kd.V_reads' HO171.out).2.2 | (with_reducible refine Kd.C_alloc ?_ _) | (with_reducible refine Kd.C_drewN ?_ _) | (with_reducible refine Kd.C_drew ?_))); (case side2 => exact (Kd.V_reads' HO171.out).2.1); (case side3 => repeat (first | exact (Kd.V_reads' HO_8.out).2.2 | (with_reducible refine Kd.C_alloc ?_ _) | (with_reducible refine Kd.C_drewN ?_ _) | (with_reducible refine Kd.C_drew ?_))); (case side4 => exact (Kd.V_reads' HO_8.out).2.1); rintro e w20 ⟨rfl, hb⟩; refine ⟨_, rfl, ?_⟩; have n0_ := Aside0.mk (Kd.V_below (by (with_reducible repeat (first | apply Kd.V_alloc | apply Kd.V_drewN | apply Kd.V_drew)); exact HO_2.out) hb); have n1_ := Aside0.mk (Kd.R_below (kdR_ HO_7.out) hb); have n2_ := Aside0.mk (Kd.V_below (by (with_reducible repeat (first | apply Kd.V_alloc | apply Kd.V_drewN | apply Kd.V_drew)); exact HO_8.out) hb); have n3_ := Aside0.mk (Kd.V_below (by (with_reducible repeat (first | apply Kd.V_alloc | apply Kd.V_drewN | apply Kd.V_drew)); exact HO171.out) hb); have n4_ := Aside0.mk (below_step bel_ hb); clear HO_2; clear HO_7; clear HO_8; clear HO171; clear HB; have HO_2 := n0_; have HO_7 := n1_; have HO_8 := n2_; have HO171 := n3_; have HB := n4_; clear n0_ n1_ n2_ n3_ n4_; (try clear hb);(try clear hb2);(try clear hk);(try clear hi)) | ((with_reducible refine gate_builtin (b := .append) (xs := #[.tmp 35, .tmp 38]) rfl ?_); at_builtin; refine Kd.R_append (Kd.int .u8) (w0 := w) w.heap.size rfl (.tmp 35) (.tmp 38) 22 5 (.int .u8 0) 1 rfl Try.underlying22 info5 rfl (by decide) (by omega) u7 x7_1 ((t172) % 256) [.int .u8 ((t172) % 256)] (fun k_ => (w.heap.size ≤ k_)) (fun _ => False) rfl rfl ?aP (fun _ hk => hk.elim) ?aF ?aO ?aB ?aS ?aL ?_; (case aP => exact rfl); (case aB => exact bel_); (case aF => exact (fun k_ hk => (Nat.le_trans (below_size bel_) hk))); (case aO => exact (kdR_ HO_7.out)); (case aS => exact (below_size bel_)); (case aL => have := LMc15.out; omega); intro v174 w21 ho hb hg hat; rw [← Ny173.out] at ho; have n0_ := Aside0.mk (Kd.V_afterv (ok := (fun k_ => (P2_ k_ ∨ w.heap.size ≤ k_))) (by (with_reducible repeat (first | apply Kd.V_alloc | apply Kd.V_drewN | apply Kd.V_drew)); exact HO_2.out) hg hat); have n1_ := Aside0.mk (Kd.V_afterv (ok := (fun k_ => (P2_ k_ ∨ w.heap.size ≤ k_))) (by (with_reducible repeat (first | apply Kd.V_alloc | apply Kd.V_drewN | apply Kd.V_drew)); exact HO_8.out) hg hat); have n2_ := Aside0.mk (Kd.V_afterv (ok := (fun k_ => (P2_ k_ ∨ w.heap.size ≤ k_))) (by (with_reducible repeat (first | apply Kd.V_alloc | apply Kd.V_drewN | apply Kd.V_drew)); exact HO171.out) hg hat); have n3_ := Aside0.mk (hb); have n4_ := Aside0.mk (ho); clear HO_2; clear HO_8; clear HO171; clear HB; clear HO_7; have HO_2 := n0_; have HO_8 := n1_; have HO171 := n2_; have HB := n3_; have HO175 := n4_; clear n0_ n1_ n2_ n3_ n4_; clear ho hb hg hat) | ((with_reducible refine gate_callee (f := 68) rfl ?_); refine goesL_ (some 44) rfl rfl Try.func68 (by kernel_rfl) rfl #[.int .i64 t172, .slice A18 y167.length c18, .slice Ao19 x8_1.length co19] rfl au_ ?_; (with_reducible refine (spec_l3Filter.calls k1 t172 _ _ y167 _ _ x8_1 t176 _ ?side1 ?side2 ?side3 ?side4 A16.out).mono ?_); (case side1 => repeat (first | exact (Kd.V_reads' HO171.out).2.2 | (with_reducible refine Kd.C_alloc ?_ _) | (with_reducible refine Kd.C_drewN ?_ _) | (with_reducible refine Kd.C_drew ?_))); (case side2 => exact (Kd.V_reads' HO171.out).2.1); (case side3 => repeat (first | exact (Kd.V_reads' HO_8.out).2.2 | (with_reducible refine Kd.C_alloc ?_ _) | (with_reducible refine Kd.C_drewN ?_ _) | (with_reducible refine Kd.C_drew ?_))); (case side4 => exact (Kd.V_reads' HO_8.out).2.1); rintro e w22 ⟨v177, rfl, ho0, hb⟩; refine ⟨_, rfl, ?_⟩; have n0_ := Aside0.mk (Kd.V_elder' (by (with_reducible repeat (first | apply Kd.V_alloc | apply Kd.V_drewN | apply Kd.V_drew)); exact HO_2.out) (Kd.R_base ho0) hb); have n1_ := Aside0.mk (Kd.V_elder' (by (with_reducible repeat (first | apply Kd.V_alloc | apply Kd.V_drewN | apply Kd.V_drew)); exact HO_8.out) (Kd.R_base ho0) hb); have n2_ := Aside0.mk (Kd.V_elder' (by (with_reducible repeat (first | apply Kd.V_alloc | apply Kd.V_drewN | apply Kd.V_drew)); exact HO171.out) (Kd.R_base ho0) hb); have n3_ := Aside0.mk (Kd.R_elder' (kdR_ HO175.out) (Kd.R_base ho0) hb); have n4_ := Aside0.mk (Kd.R_lower (Kd.R_new' (Kd.R_newM (M := fun k_ => (w.heap.size ≤ k_)) ho0 (below_size bel_) (fun k_ h_ => h_)) (Kd.R_lt (kdR_ HO175.out))) (below_size bel_)); have n5_ := Aside0.mk (below_step bel_ hb); clear HO_2; clear HO_8; clear HO171; clear HO175; clear HB; have HO_2 := n0_; have HO_8 := n1_; have HO171 := n2_; have HO175 := n3_; have HO178 := n4_; have HB := n5_; clear n0_ n1_ n2_ n3_ n4_ n5_; (try clear hb);(try clear hb2);(try clear hk);(try clear hi);(try clear ho0); obtain ⟨Ao24, co24, eo24⟩ := Kd.R_slice HO178.out; subst eo24) | ((with_reducible refine gate_builtin (b := .append) (xs := #[.tmp 40, .tmp 44]) rfl ?_); at_builtin; refine Kd.R_append_rows (Kd.int .u8) (w0 := w) w.heap.size rfl (.tmp 40) (.tmp 44) 22 5 (.int .u8 0) 1 rfl Try.underlying22 info5 rfl (by decide) (by omega) v174 y173 t176 _ _ _ (fun k_ => (w.heap.size ≤ k_) ∧ some k_ ≠ (.slice Ao24 t176.length co24 : Value).ownBlock) (fun _ => False) rfl rfl ?aO ?aR (fun _ _ h => h) (fun _ h => h.elim) ?aF ?aB ?aS ?aL ?_; (case aR => exact cs_ (Kd.R_reads' HO178.out).2.2); (case aB => exact bel_); (case aF => exact (fun k_ hk => ⟨(Nat.le_trans (below_size bel_) hk), Kd.fresh' (Kd.R_lt (kdR_ HO178.out)) k_ hk⟩)); (case aO => exact (kdR_ HO175.out)); (case aS => exact (below_size bel_)); (case aL => have := LMc17.out; omega); intro v180 w23 ho hb hg hat; rw [← Ny179.out] at ho; have n0_ := Aside0.mk (Kd.V_afterv (ok := (fun k_ => (P2_ k_ ∨ w.heap.size ≤ k_) ∧ some k_ ≠ (.slice Ao24 t176.length co24 : Value).ownBlock)) (by (with_reducible repeat (first | apply Kd.V_alloc | apply Kd.V_drewN | apply Kd.V_drew)); exact Kd.V_mono HO_2.out (fun _ hk => ⟨⟨hk.1.1, hk.2⟩, hk.1.2⟩)) hg hat); have n1_ := Aside0.mk (Kd.V_afterv (ok := (fun k_ => (P2_ k_ ∨ w.heap.size ≤ k_) ∧ some k_ ≠ (.slice Ao24 t176.length co24 : Value).ownBlock)) (by (with_reducible repeat (first | apply Kd.V_alloc | apply Kd.V_drewN | apply Kd.V_drew)); exact Kd.V_mono HO_8.out (fun _ hk => ⟨⟨hk.1.1, hk.2⟩, hk.1.2⟩)) hg hat); have n2_ := Aside0.mk (Kd.V_afterv (ok := (fun k_ => (P2_ k_ ∨ w.heap.size ≤ k_) ∧ some k_ ≠ (.slice Ao24 t176.length co24 : Value).ownBlock)) (by (with_reducible repeat (first | apply Kd.V_alloc | apply Kd.V_drewN | apply Kd.V_drew)); exact Kd.V_mono HO171.out (fun _ hk => ⟨⟨hk.1.1, hk.2⟩, hk.1.2⟩)) hg hat); have n3_ := Aside0.mk (Kd.R_after (ok := (fun k_ => (w.heap.size ≤ k_))) (by (with_reducible repeat (first | apply Kd.R_alloc | apply Kd.R_drewN | apply Kd.R_drew)); exact Kd.R_mono HO178.out (fun _ hk => ⟨hk.1.1, hk.2⟩)) hg hat); have n4_ := Aside0.mk (hb); have n5_ := Aside0.mk (ho); clear HO_2; clear HO_8; clear HO171; clear HO178; clear HB; clear HO175; have HO_2 := n0_; have HO_8 := n1_; have HO171 := n2_; have HO178 := n3_; have HB := n4_; have HO181 := n5_; clear n0_ n1_ n2_ n3_ n4_ n5_; clear ho hb hg hat))
           go_roundg k1
           case measure => have := HK1.out; omega
           case rel => exact ⟨(y179), (y167), (wrap64 (x9_1 + 1)), sv_, H', ⟨by have := HK1.out; omega⟩, ⟨by (with_reducible repeat (first | apply Kd.V_alloc | apply Kd.V_drewN | apply Kd.V_drew)); exact Kd.V_mono HO_2.out (fun _ hk => ⟨hk.1.1, hk.2⟩)⟩, ⟨by (with_reducible repeat (first | apply Kd.R_alloc | apply Kd.R_drewN | apply Kd.R_drew)); exact Kd.R_mono HO181.out (fun _ hk => hk.1)⟩, ⟨by (with_reducible repeat (first | apply Kd.V_alloc | apply Kd.V_drewN | apply Kd.V_drew)); exact Kd.V_mono HO171.out (fun _ hk => ⟨hk.1.1, hk.2⟩)⟩, ⟨bel_⟩⟩
          ·rw [if_neg c17] at H
           exact absurd H (by simp)
         ·rw [if_neg c15] at H
          exact absurd H (by simp)
        ·rw [if_neg c13] at H
         exact absurd H (by simp)
       ·rw [if_neg c12] at H
        exact absurd H (by simp)
      ·rw [if_neg c11] at H
       exact absurd H (by simp)
     ·rw [if_neg c9] at H
      have c9b0 : decide (x9_1 < a1) = false := decide_eq_false c9
      clear c9
      obtain ⟨y182, hy182⟩ : ∃ y_ : List Int, y_ = (([120, 1] : List Int)) := ⟨_, rfl⟩
      replace H : ((spec_l2Best.f k1 x7_1).bind fun t185 => (if y182.length + t185.length < 140737488355328 then ((some (y182 ++ t185 : List Int)).bind fun y188 => ((spec_l3Adler.f k1 x7_1).bind fun t191 => ((spec_l3Four.f t191).bind fun t192 => (if y188.length + t192.length < 140737488355328 then (some (y188 ++ t192)) else (none))))) else (none))) = some r := by first | (rw [hy182]; with_reducible exact H) | (have H2_ := (Option.bind_some _ _).symm.trans H; rw [hy182]; with_reducible exact H2_) | (have H2_ := (Option.bind_some _ _).symm.trans H; with_reducible exact H2_) | with_reducible exact H | (rw [hy182]; exact H) | exact H
      have Ny182 := Aside0.mk hy182
      clear hy182
      replace H := Option.bind_eq_some_iff.mp H
      obtain ⟨t185, A250, H⟩ := H
      replace H : (if y182.length + t185.length < 140737488355328 then ((some (y182 ++ t185 : List Int)).bind fun y188 => ((spec_l3Adler.f k1 x7_1).bind fun t191 => ((spec_l3Four.f t191).bind fun t192 => (if y188.length + t192.length < 140737488355328 then (some (y188 ++ t192)) else (none))))) else (none)) = some r := H
      have A25 := Aside0.mk A250
      clear A250
      by_cases c26 : y182.length + t185.length < 140737488355328
      ·rw [if_pos c26] at H
       have LMc26 := Aside0.mk c26
       clear c26
       obtain ⟨y188, hy188⟩ : ∃ y_ : List Int, y_ = (y182 ++ t185) := ⟨_, rfl⟩
       replace H : ((spec_l3Adler.f k1 x7_1).bind fun t191 => ((spec_l3Four.f t191).bind fun t192 => (if y188.length + t192.length < 140737488355328 then (some (y188 ++ t192)) else (none)))) = some r := by first | (rw [hy188]; with_reducible exact H) | (have H2_ := (Option.bind_some _ _).symm.trans H; rw [hy188]; with_reducible exact H2_) | (have H2_ := (Option.bind_some _ _).symm.trans H; with_reducible exact H2_) | with_reducible exact H | (rw [hy188]; exact H) | exact H
       have Ny188 := Aside0.mk hy188
       clear hy188
       replace H := Option.bind_eq_some_iff.mp H
       obtain ⟨t191, A270, H⟩ := H
       replace H : ((spec_l3Four.f t191).bind fun t192 => (if y188.length + t192.length < 140737488355328 then (some (y188 ++ t192)) else (none))) = some r := H
       have A27 := Aside0.mk A270
       clear A270
       replace H := Option.bind_eq_some_iff.mp H
       obtain ⟨t192, A280, H⟩ := H
       replace H : (if y188.length + t192.length < 140737488355328 then (some (y188 ++ t192)) else (none)) = some r := H
       have A28 := Aside0.mk A280
       clear A280
       by_cases c29 : y188.length + t192.length < 140737488355328
       ·rw [if_pos c29] at H
        have LMc29 := Aside0.mk c29
        clear c29
        obtain ⟨y195, hy195⟩ : ∃ y_ : List Int, y_ = (y188 ++ t192) := ⟨_, rfl⟩
        replace H : (some y195) = some r := by first | (rw [hy195]; with_reducible exact H) | (have H2_ := (Option.bind_some _ _).symm.trans H; rw [hy195]; with_reducible exact H2_) | (have H2_ := (Option.bind_some _ _).symm.trans H; with_reducible exact H2_) | with_reducible exact H | (rw [hy195]; exact H) | exact H
        have Ny195 := Aside0.mk hy195
        clear hy195
        obtain rfl := Option.some.inj H
        go_wp2_with (first | ((with_reducible refine gate_dst (N := 47) rfl ?_); refine Kd.R_lit (Kd.int .u8) _ 5 ?hg (N := 47) ?hd (xs := ([120, 1] : List Int)) (inner := [.int .u8 120, .int .u8 1]) (ok := fun _ => True) (okp := fun _ => True) ?hr ?hp (fun _ hk => hk) trivial (Below.refl _ _) (Nat.le_refl _) (by simp) ?_; (case hd => rfl); (case hg => rfl); (case hr => first | (go_simp; done) | (go_simp; rfl)); (case hp => exact (Reps.one (show Kd.M (Kd.int .u8) _ _ _ 120 [.int .u8 120] from rfl) (Reps.one (show Kd.M (Kd.int .u8) _ _ _ 1 [.int .u8 1] from rfl) (Reps.none _ _)))); intro v183 w30 ho31 hb hg_ hnew_; clear hg_ hnew_; (first | rw [← Ny182.out] at ho31 | (simp only [Int.reduceToNat] at ho31; rw [← Ny182.out] at ho31)); have n0_ := Aside0.mk (Kd.V_elder' (by (with_reducible repeat (first | apply Kd.V_alloc | apply Kd.V_drewN | apply Kd.V_drew)); exact HO_2.out) (Kd.R_base ho31) hb); have n1_ := Aside0.mk (Kd.R_elder' (kdR_ HO_7.out) (Kd.R_base ho31) hb); have n2_ := Aside0.mk (Kd.V_elder' (by (with_reducible repeat (first | apply Kd.V_alloc | apply Kd.V_drewN | apply Kd.V_drew)); exact HO_8.out) (Kd.R_base ho31) hb); have n3_ := Aside0.mk (Kd.R_lower (Kd.R_new' (Kd.R_newM (M := fun k_ => (w.heap.size ≤ k_)) ho31 (below_size bel_) (fun k_ h_ => h_)) (Kd.R_lt (kdR_ HO_7.out))) (below_size bel_)); have n4_ := Aside0.mk (below_step bel_ hb); clear HO_2; clear HO_7; clear HO_8; clear HB; have HO_2 := n0_; have HO_7 := n1_; have HO_8 := n2_; have HO184 := n3_; have HB := n4_; clear n0_ n1_ n2_ n3_ n4_; clear hb ho31; obtain ⟨Ao32, co32, eo32⟩ := Kd.R_slice HO_7.out; subst eo32) | ((with_reducible refine gate_callee (f := 28) rfl ?_); refine goesL_ (some 49) rfl rfl Try.func28 (by kernel_rfl) rfl #[.slice Ao32 x7_1.length co32] rfl au_ ?_; (with_reducible refine (spec_l2Best.calls k1 _ _ x7_1 t185 _ ?side1 ?side2 A25.out).mono ?_); (case side1 => exact cs_ (Kd.R_reads' HO_7.out).2.2); (case side2 => exact (Kd.R_reads' HO_7.out).2.1); rintro e w33 ⟨v186, rfl, ho0, hb⟩; refine ⟨_, rfl, ?_⟩; have n0_ := Aside0.mk (Kd.V_elder' (by (with_reducible repeat (first | apply Kd.V_alloc | apply Kd.V_drewN | apply Kd.V_drew)); exact HO_2.out) (Kd.R_base ho0) hb); have n1_ := Aside0.mk (Kd.R_elder' (kdR_ HO_7.out) (Kd.R_base ho0) hb); have n2_ := Aside0.mk (Kd.V_elder' (by (with_reducible repeat (first | apply Kd.V_alloc | apply Kd.V_drewN | apply Kd.V_drew)); exact HO_8.out) (Kd.R_base ho0) hb); have n3_ := Aside0.mk (Kd.R_elder' (kdR_ HO184.out) (Kd.R_base ho0) hb); have n4_ := Aside0.mk (Kd.R_lower (Kd.R_new' (Kd.R_new' (Kd.R_newM (M := fun k_ => (w.heap.size ≤ k_)) ho0 (below_size bel_) (fun k_ h_ => h_)) (Kd.R_lt (kdR_ HO_7.out))) (Kd.R_lt (kdR_ HO184.out))) (below_size bel_)); have n5_ := Aside0.mk (below_step bel_ hb); clear HO_2; clear HO_7; clear HO_8; clear HO184; clear HB; have HO_2 := n0_; have HO_7 := n1_; have HO_8 := n2_; have HO184 := n3_; have HO187 := n4_; have HB := n5_; clear n0_ n1_ n2_ n3_ n4_ n5_; (try clear hb);(try clear hb2);(try clear hk);(try clear hi);(try clear ho0); obtain ⟨Ao35, co35, eo35⟩ := Kd.R_slice HO187.out; subst eo35) | ((with_reducible refine gate_builtin (b := .append) (xs := #[.tmp 47, .tmp 49]) rfl ?_); at_builtin; refine Kd.R_append_rows (Kd.int .u8) (w0 := w) w.heap.size rfl (.tmp 47) (.tmp 49) 22 5 (.int .u8 0) 1 rfl Try.underlying22 info5 rfl (by decide) (by omega) v183 y182 t185 _ _ _ (fun k_ => (w.heap.size ≤ k_) ∧ some k_ ≠ (.slice Ao32 x7_1.length co32 : Value).ownBlock ∧ some k_ ≠ (.slice Ao35 t185.length co35 : Value).ownBlock) (fun _ => False) rfl rfl ?aO ?aR (fun _ _ h => h) (fun _ h => h.elim) ?aF ?aB ?aS ?aL ?_; (case aR => exact cs_ (Kd.R_reads' HO187.out).2.2); (case aB => exact bel_); (case aF => exact (fun k_ hk => ⟨(Nat.le_trans (below_size bel_) hk), Kd.fresh' (Kd.R_lt (kdR_ HO_7.out)) k_ hk, Kd.fresh' (Kd.R_lt (kdR_ HO187.out)) k_ hk⟩)); (case aO => exact (by (with_reducible repeat (first | apply Kd.R_alloc | apply Kd.R_drewN | apply Kd.R_drew)); exact Kd.R_mono HO184.out (fun _ hk => ⟨hk.1.1.1, ⟨hk.1.2, hk.2⟩⟩))); (case aS => exact (below_size bel_)); (case aL => have := LMc26.out; omega); intro v189 w34 ho hb hg hat; rw [← Ny188.out] at ho; have n0_ := Aside0.mk (Kd.V_afterv (ok := (fun k_ => (P2_ k_ ∨ w.heap.size ≤ k_) ∧ some k_ ≠ (.slice Ao32 x7_1.length co32 : Value).ownBlock ∧ some k_ ≠ (.slice Ao35 t185.length co35 : Value).ownBlock)) (by (with_reducible repeat (first | apply Kd.V_alloc | apply Kd.V_drewN | apply Kd.V_drew)); exact Kd.V_mono HO_2.out (fun _ hk => ⟨⟨hk.1.1.1, ⟨hk.1.1.2, hk.2⟩⟩, hk.1.2⟩)) hg hat); have n1_ := Aside0.mk (Kd.R_after (ok := (fun k_ => (w.heap.size ≤ k_) ∧ some k_ ≠ (.slice Ao35 t185.length co35 : Value).ownBlock)) (by (with_reducible repeat (first | apply Kd.R_alloc | apply Kd.R_drewN | apply Kd.R_drew)); exact Kd.R_mono HO_7.out (fun _ hk => ⟨⟨hk.1.1, hk.2⟩, hk.1.2⟩)) hg hat); have n2_ := Aside0.mk (Kd.V_afterv (ok := (fun k_ => (P2_ k_ ∨ w.heap.size ≤ k_) ∧ some k_ ≠ (.slice Ao32 x7_1.length co32 : Value).ownBlock ∧ some k_ ≠ (.slice Ao35 t185.length co35 : Value).ownBlock)) (by (with_reducible repeat (first | apply Kd.V_alloc | apply Kd.V_drewN | apply Kd.V_drew)); exact Kd.V_mono HO_8.out (fun _ hk => ⟨⟨hk.1.1.1, ⟨hk.1.1.2, hk.2⟩⟩, hk.1.2⟩)) hg hat); have n3_ := Aside0.mk (Kd.R_after (ok := (fun k_ => (w.heap.size ≤ k_) ∧ some k_ ≠ (.slice Ao32 x7_1.length co32 : Value).ownBlock)) (by (with_reducible repeat (first | apply Kd.R_alloc | apply Kd.R_drewN | apply Kd.R_drew)); exact Kd.R_mono HO187.out (fun _ hk => ⟨⟨hk.1.1.1, hk.1.2⟩, hk.2⟩)) hg hat); have n4_ := Aside0.mk (hb); have n5_ := Aside0.mk (ho); clear HO_2; clear HO_7; clear HO_8; clear HO187; clear HB; clear HO184; have HO_2 := n0_; have HO_7 := n1_; have HO_8 := n2_; have HO187 := n3_; have HB := n4_; have HO190 := n5_; clear n0_ n1_ n2_ n3_ n4_ n5_; clear ho hb hg hat) | ((with_reducible refine gate_callee (f := 62) rfl ?_); refine goesL_ (some 53) rfl rfl Try.func62 (by kernel_rfl) rfl #[.slice Ao32 x7_1.length co32] rfl au_ ?_; (with_reducible refine (spec_l3Adler.calls k1 _ _ x7_1 t191 _ ?side1 ?side2 A27.out).mono ?_); (case side1 => exact cs_ (Kd.R_reads' HO_7.out).2.2); (case side2 => exact (Kd.R_reads' HO_7.out).2.1); rintro e w' ⟨rfl, ⟨nd, rfl⟩⟩; refine ⟨_, rfl, ?_⟩) | ((with_reducible refine gate_callee (f := 40) rfl ?_); refine goesL_ (some 54) rfl rfl Try.func40 (by kernel_rfl) rfl #[.int .u32 t191] rfl au_ ?_; (with_reducible refine (spec_l3Four.calls t191 t192 _ A28.out).mono ?_); rintro e w36 ⟨v193, rfl, ho0, hb⟩; refine ⟨_, rfl, ?_⟩; have n0_ := Aside0.mk (Kd.V_elder' (by (with_reducible repeat (first | apply Kd.V_alloc | apply Kd.V_drewN | apply Kd.V_drew)); exact HO_2.out) (Kd.R_base ho0) hb); have n1_ := Aside0.mk (Kd.R_elder' (kdR_ HO_7.out) (Kd.R_base ho0) hb); have n2_ := Aside0.mk (Kd.V_elder' (by (with_reducible repeat (first | apply Kd.V_alloc | apply Kd.V_drewN | apply Kd.V_drew)); exact HO_8.out) (Kd.R_base ho0) hb); have n3_ := Aside0.mk (Kd.R_elder' (kdR_ HO187.out) (Kd.R_base ho0) hb); have n4_ := Aside0.mk (Kd.R_elder' (kdR_ HO190.out) (Kd.R_base ho0) hb); have n5_ := Aside0.mk (Kd.R_lower (Kd.R_new' (Kd.R_new' (Kd.R_new' (Kd.R_newM (M := fun k_ => (w.heap.size ≤ k_)) ho0 (below_size bel_) (fun k_ h_ => h_)) (Kd.R_lt (kdR_ HO_7.out))) (Kd.R_lt (kdR_ HO187.out))) (Kd.R_lt (kdR_ HO190.out))) (below_size bel_)); have n6_ := Aside0.mk (below_step bel_ hb); clear HO_2; clear HO_7; clear HO_8; clear HO187; clear HO190; clear HB; have HO_2 := n0_; have HO_7 := n1_; have HO_8 := n2_; have HO187 := n3_; have HO190 := n4_; have HO194 := n5_; have HB := n6_; clear n0_ n1_ n2_ n3_ n4_ n5_ n6_; (try clear hb);(try clear hb2);(try clear hk);(try clear hi);(try clear ho0); obtain ⟨Ao38, co38, eo38⟩ := Kd.R_slice HO194.out; subst eo38) | ((with_reducible refine gate_builtin (b := .append) (xs := #[.tmp 51, .tmp 54]) rfl ?_); at_builtin; refine Kd.R_append_rows (Kd.int .u8) (w0 := w) w.heap.size rfl (.tmp 51) (.tmp 54) 22 5 (.int .u8 0) 1 rfl Try.underlying22 info5 rfl (by decide) (by omega) v189 y188 t192 _ _ _ (fun k_ => (w.heap.size ≤ k_) ∧ some k_ ≠ (.slice Ao32 x7_1.length co32 : Value).ownBlock ∧ some k_ ≠ (.slice Ao35 t185.length co35 : Value).ownBlock ∧ some k_ ≠ (.slice Ao38 t192.length co38 : Value).ownBlock) (fun _ => False) rfl rfl ?aO ?aR (fun _ _ h => h) (fun _ h => h.elim) ?aF ?aB ?aS ?aL ?_; (case aR => exact cs_ (Kd.R_reads' HO194.out).2.2); (case aB => exact bel_); (case aF => exact (fun k_ hk => ⟨(Nat.le_trans (below_size bel_) hk), Kd.fresh' (Kd.R_lt (kdR_ HO_7.out)) k_ hk, Kd.fresh' (Kd.R_lt (kdR_ HO187.out)) k_ hk, Kd.fresh' (Kd.R_lt (kdR_ HO194.out)) k_ hk⟩)); (case aO => exact (by (with_reducible repeat (first | apply Kd.R_alloc | apply Kd.R_drewN | apply Kd.R_drew)); exact Kd.R_mono HO190.out (fun _ hk => ⟨hk.1.1, ⟨hk.1.2.1, ⟨hk.1.2.2, hk.2⟩⟩⟩))); (case aS => exact (below_size bel_)); (case aL => have := LMc29.out; omega); intro v196 w37 ho hb hg hat; rw [← Ny195.out] at ho; have n0_ := Aside0.mk (Kd.V_afterv (ok := (fun k_ => (P2_ k_ ∨ w.heap.size ≤ k_) ∧ some k_ ≠ (.slice Ao32 x7_1.length co32 : Value).ownBlock ∧ some k_ ≠ (.slice Ao35 t185.length co35 : Value).ownBlock ∧ some k_ ≠ (.slice Ao38 t192.length co38 : Value).ownBlock)) (by (with_reducible repeat (first | apply Kd.V_alloc | apply Kd.V_drewN | apply Kd.V_drew)); exact Kd.V_mono HO_2.out (fun _ hk => ⟨⟨hk.1.1.1, ⟨hk.1.1.2.1, ⟨hk.1.1.2.2, hk.2⟩⟩⟩, hk.1.2⟩)) hg hat); have n1_ := Aside0.mk (Kd.R_after (ok := (fun k_ => (w.heap.size ≤ k_) ∧ some k_ ≠ (.slice Ao35 t185.length co35 : Value).ownBlock ∧ some k_ ≠ (.slice Ao38 t192.length co38 : Value).ownBlock)) (by (with_reducible repeat (first | apply Kd.R_alloc | apply Kd.R_drewN | apply Kd.R_drew)); exact Kd.R_mono HO_7.out (fun _ hk => ⟨⟨hk.1.1.1, ⟨hk.1.1.2, hk.2⟩⟩, hk.1.2⟩)) hg hat); have n2_ := Aside0.mk (Kd.V_afterv (ok := (fun k_ => (P2_ k_ ∨ w.heap.size ≤ k_) ∧ some k_ ≠ (.slice Ao32 x7_1.length co32 : Value).ownBlock ∧ some k_ ≠ (.slice Ao35 t185.length co35 : Value).ownBlock ∧ some k_ ≠ (.slice Ao38 t192.length co38 : Value).ownBlock)) (by (with_reducible repeat (first | apply Kd.V_alloc | apply Kd.V_drewN | apply Kd.V_drew)); exact Kd.V_mono HO_8.out (fun _ hk => ⟨⟨hk.1.1.1, ⟨hk.1.1.2.1, ⟨hk.1.1.2.2, hk.2⟩⟩⟩, hk.1.2⟩)) hg hat); have n3_ := Aside0.mk (Kd.R_after (ok := (fun k_ => (w.heap.size ≤ k_) ∧ some k_ ≠ (.slice Ao32 x7_1.length co32 : Value).ownBlock ∧ some k_ ≠ (.slice Ao38 t192.length co38 : Value).ownBlock)) (by (with_reducible repeat (first | apply Kd.R_alloc | apply Kd.R_drewN | apply Kd.R_drew)); exact Kd.R_mono HO187.out (fun _ hk => ⟨⟨hk.1.1.1, ⟨hk.1.1.2, hk.2⟩⟩, hk.1.2⟩)) hg hat); have n4_ := Aside0.mk (Kd.R_after (ok := (fun k_ => (w.heap.size ≤ k_) ∧ some k_ ≠ (.slice Ao32 x7_1.length co32 : Value).ownBlock ∧ some k_ ≠ (.slice Ao35 t185.length co35 : Value).ownBlock)) (by (with_reducible repeat (first | apply Kd.R_alloc | apply Kd.R_drewN | apply Kd.R_drew)); exact Kd.R_mono HO194.out (fun _ hk => ⟨⟨hk.1.1.1.1, ⟨hk.1.1.2, hk.1.2⟩⟩, hk.2⟩)) hg hat); have n5_ := Aside0.mk (hb); have n6_ := Aside0.mk (ho); clear HO_2; clear HO_7; clear HO_8; clear HO187; clear HO194; clear HB; clear HO190; have HO_2 := n0_; have HO_7 := n1_; have HO_8 := n2_; have HO187 := n3_; have HO194 := n4_; have HB := n5_; have HO197 := n6_; clear n0_ n1_ n2_ n3_ n4_ n5_ n6_; clear ho hb hg hat))
        go_ret
        exact ⟨_, by first | rfl | (simp [errW_none, errW_some] <;> rfl) | (simp only [← hji4]; first | rfl | (simp [errW_none, errW_some] <;> rfl)) | (simp [*, errW_none, errW_some] <;> rfl), by (with_reducible repeat (first | apply Kd.R_alloc | apply Kd.R_drewN | apply Kd.R_drew)); exact Kd.R_mono HO197.out (fun _ hk => hk.1), bel_⟩
       ·rw [if_neg c29] at H
        exact absurd H (by simp)
      ·rw [if_neg c26] at H
       exact absurd H (by simp)
  ·rw [if_neg c6] at H
   exact absurd H (by simp)
 ·rw [if_neg c5] at H
  exact absurd H (by simp)

/-! ### spec_l3Encode: function 31 -/
def spec_l3Encode.f (k : Nat) (a0 : Int) (a1 : Int) (l2 : List Int) : Option (List Int) := (spec_l3Four.f ((a0) % 4294967296)).bind fun t198 => ((spec_l3Four.f ((a1) % 4294967296)).bind fun t201 => (if t198.length + t201.length < 140737488355328 then ((some (t198 ++ t201 : List Int)).bind fun y204 => ((some (([8, 6, 0, 0, 0] : List Int) : List Int)).bind fun y207 => (if y204.length + y207.length < 140737488355328 then ((spec_l3Mark.f).bind fun t213 => ((spec_l3Chunk.f k t213 (⟨#[73, 72, 68, 82]⟩ : ByteArray) (y204 ++ y207)).bind fun t216 => ((spec_l3Pack.f k a0 a1 l2).bind fun t219 => ((spec_l3Chunk.f k t216 (⟨#[73, 68, 65, 84]⟩ : ByteArray) t219).bind fun t222 => ((spec_l3Chunk.f k t222 (⟨#[73, 69, 78, 68]⟩ : ByteArray) ([] : List Int)).bind fun t225 => (some t225)))))) else (none)))) else (none)))
set_option maxHeartbeats 8000000 in
set_option maxRecDepth 100000 in
theorem spec_l3Encode.calls (k : Nat) (a0 : Int) (a1 : Int) (A2 : Option Addr) (c2 : Nat) (l2 : List Int) (r : List Int) (w : World) (hr2 : Kd.C (Kd.int .u8) w A2 l2.length l2) (hc2 : l2.length ≤ c2) (h : spec_l3Encode.f k a0 a1 l2 = some r) :
  Calls Try.prog 31 #[.int .i64 a0, .int .i64 a1, .slice A2 l2.length c2] w fun e w' => ∃ v0_ : Value, e = .returned (v0_) ∧ Kd.R (Kd.int .u8) 5 w' w.heap.size (fun _ => True) v0_ r ∧ Below w.heap.size w w' := by
 have HR2 := Aside0.mk hr2
 have HC2 := Aside0.mk hc2
 clear hr2 hc2
 have HB := Aside0.mk (Below.refl w.heap.size w)
 have H : ((spec_l3Four.f ((a0) % 4294967296)).bind fun t198 => ((spec_l3Four.f ((a1) % 4294967296)).bind fun t201 => (if t198.length + t201.length < 140737488355328 then ((some (t198 ++ t201 : List Int)).bind fun y204 => ((some (([8, 6, 0, 0, 0] : List Int) : List Int)).bind fun y207 => (if y204.length + y207.length < 140737488355328 then ((spec_l3Mark.f).bind fun t213 => ((spec_l3Chunk.f k t213 (⟨#[73, 72, 68, 82]⟩ : ByteArray) (y204 ++ y207)).bind fun t216 => ((spec_l3Pack.f k a0 a1 l2).bind fun t219 => ((spec_l3Chunk.f k t216 (⟨#[73, 68, 65, 84]⟩ : ByteArray) t219).bind fun t222 => ((spec_l3Chunk.f k t222 (⟨#[73, 69, 78, 68]⟩ : ByteArray) ([] : List Int)).bind fun t225 => (some t225)))))) else (none)))) else (none)))) = some r := h
 clear h
 replace H := Option.bind_eq_some_iff.mp H
 obtain ⟨t198, A40, H⟩ := H
 replace H : ((spec_l3Four.f ((a1) % 4294967296)).bind fun t201 => (if t198.length + t201.length < 140737488355328 then ((some (t198 ++ t201 : List Int)).bind fun y204 => ((some (([8, 6, 0, 0, 0] : List Int) : List Int)).bind fun y207 => (if y204.length + y207.length < 140737488355328 then ((spec_l3Mark.f).bind fun t213 => ((spec_l3Chunk.f k t213 (⟨#[73, 72, 68, 82]⟩ : ByteArray) (y204 ++ y207)).bind fun t216 => ((spec_l3Pack.f k a0 a1 l2).bind fun t219 => ((spec_l3Chunk.f k t216 (⟨#[73, 68, 65, 84]⟩ : ByteArray) t219).bind fun t222 => ((spec_l3Chunk.f k t222 (⟨#[73, 69, 78, 68]⟩ : ByteArray) ([] : List Int)).bind fun t225 => (some t225)))))) else (none)))) else (none))) = some r := H
 have A4 := Aside0.mk A40
 clear A40
 replace H := Option.bind_eq_some_iff.mp H
 obtain ⟨t201, A50, H⟩ := H
 replace H : (if t198.length + t201.length < 140737488355328 then ((some (t198 ++ t201 : List Int)).bind fun y204 => ((some (([8, 6, 0, 0, 0] : List Int) : List Int)).bind fun y207 => (if y204.length + y207.length < 140737488355328 then ((spec_l3Mark.f).bind fun t213 => ((spec_l3Chunk.f k t213 (⟨#[73, 72, 68, 82]⟩ : ByteArray) (y204 ++ y207)).bind fun t216 => ((spec_l3Pack.f k a0 a1 l2).bind fun t219 => ((spec_l3Chunk.f k t216 (⟨#[73, 68, 65, 84]⟩ : ByteArray) t219).bind fun t222 => ((spec_l3Chunk.f k t222 (⟨#[73, 69, 78, 68]⟩ : ByteArray) ([] : List Int)).bind fun t225 => (some t225)))))) else (none)))) else (none)) = some r := H
 have A5 := Aside0.mk A50
 clear A50
 by_cases c6 : t198.length + t201.length < 140737488355328
 ·rw [if_pos c6] at H
  have LMc6 := Aside0.mk c6
  clear c6
  obtain ⟨y204, hy204⟩ : ∃ y_ : List Int, y_ = (t198 ++ t201) := ⟨_, rfl⟩
  replace H : ((some (([8, 6, 0, 0, 0] : List Int) : List Int)).bind fun y207 => (if y204.length + y207.length < 140737488355328 then ((spec_l3Mark.f).bind fun t213 => ((spec_l3Chunk.f k t213 (⟨#[73, 72, 68, 82]⟩ : ByteArray) (y204 ++ y207)).bind fun t216 => ((spec_l3Pack.f k a0 a1 l2).bind fun t219 => ((spec_l3Chunk.f k t216 (⟨#[73, 68, 65, 84]⟩ : ByteArray) t219).bind fun t222 => ((spec_l3Chunk.f k t222 (⟨#[73, 69, 78, 68]⟩ : ByteArray) ([] : List Int)).bind fun t225 => (some t225)))))) else (none))) = some r := by first | (rw [hy204]; with_reducible exact H) | (have H2_ := (Option.bind_some _ _).symm.trans H; rw [hy204]; with_reducible exact H2_) | (have H2_ := (Option.bind_some _ _).symm.trans H; with_reducible exact H2_) | with_reducible exact H | (rw [hy204]; exact H) | exact H
  have Ny204 := Aside0.mk hy204
  clear hy204
  obtain ⟨y207, hy207⟩ : ∃ y_ : List Int, y_ = (([8, 6, 0, 0, 0] : List Int)) := ⟨_, rfl⟩
  replace H : (if y204.length + y207.length < 140737488355328 then ((spec_l3Mark.f).bind fun t213 => ((spec_l3Chunk.f k t213 (⟨#[73, 72, 68, 82]⟩ : ByteArray) (y204 ++ y207)).bind fun t216 => ((spec_l3Pack.f k a0 a1 l2).bind fun t219 => ((spec_l3Chunk.f k t216 (⟨#[73, 68, 65, 84]⟩ : ByteArray) t219).bind fun t222 => ((spec_l3Chunk.f k t222 (⟨#[73, 69, 78, 68]⟩ : ByteArray) ([] : List Int)).bind fun t225 => (some t225)))))) else (none)) = some r := by first | (rw [hy207]; with_reducible exact H) | (have H2_ := (Option.bind_some _ _).symm.trans H; rw [hy207]; with_reducible exact H2_) | (have H2_ := (Option.bind_some _ _).symm.trans H; with_reducible exact H2_) | with_reducible exact H | (rw [hy207]; exact H) | exact H
  have Ny207 := Aside0.mk hy207
  clear hy207
  by_cases c7 : y204.length + y207.length < 140737488355328
  ·rw [if_pos c7] at H
   have LMc7 := Aside0.mk c7
   clear c7
   obtain ⟨y210, hy210⟩ : ∃ y_ : List Int, y_ = (y204 ++ y207) := ⟨_, rfl⟩
   replace H : ((spec_l3Mark.f).bind fun t213 => ((spec_l3Chunk.f k t213 (⟨#[73, 72, 68, 82]⟩ : ByteArray) y210).bind fun t216 => ((spec_l3Pack.f k a0 a1 l2).bind fun t219 => ((spec_l3Chunk.f k t216 (⟨#[73, 68, 65, 84]⟩ : ByteArray) t219).bind fun t222 => ((spec_l3Chunk.f k t222 (⟨#[73, 69, 78, 68]⟩ : ByteArray) ([] : List Int)).bind fun t225 => (some t225)))))) = some r := by first | (rw [hy210]; with_reducible exact H) | (have H2_ := (Option.bind_some _ _).symm.trans H; rw [hy210]; with_reducible exact H2_) | (have H2_ := (Option.bind_some _ _).symm.trans H; with_reducible exact H2_) | with_reducible exact H | (rw [hy210]; exact H) | exact H
   have Ny210 := Aside0.mk hy210
   clear hy210
   replace H := Option.bind_eq_some_iff.mp H
   obtain ⟨t213, A80, H⟩ := H
   replace H : ((spec_l3Chunk.f k t213 (⟨#[73, 72, 68, 82]⟩ : ByteArray) y210).bind fun t216 => ((spec_l3Pack.f k a0 a1 l2).bind fun t219 => ((spec_l3Chunk.f k t216 (⟨#[73, 68, 65, 84]⟩ : ByteArray) t219).bind fun t222 => ((spec_l3Chunk.f k t222 (⟨#[73, 69, 78, 68]⟩ : ByteArray) ([] : List Int)).bind fun t225 => (some t225))))) = some r := H
   have A8 := Aside0.mk A80
   clear A80
   replace H := Option.bind_eq_some_iff.mp H
   obtain ⟨t216, A90, H⟩ := H
   replace H : ((spec_l3Pack.f k a0 a1 l2).bind fun t219 => ((spec_l3Chunk.f k t216 (⟨#[73, 68, 65, 84]⟩ : ByteArray) t219).bind fun t222 => ((spec_l3Chunk.f k t222 (⟨#[73, 69, 78, 68]⟩ : ByteArray) ([] : List Int)).bind fun t225 => (some t225)))) = some r := H
   have A9 := Aside0.mk A90
   clear A90
   replace H := Option.bind_eq_some_iff.mp H
   obtain ⟨t219, A100, H⟩ := H
   replace H : ((spec_l3Chunk.f k t216 (⟨#[73, 68, 65, 84]⟩ : ByteArray) t219).bind fun t222 => ((spec_l3Chunk.f k t222 (⟨#[73, 69, 78, 68]⟩ : ByteArray) ([] : List Int)).bind fun t225 => (some t225))) = some r := H
   have A10 := Aside0.mk A100
   clear A100
   replace H := Option.bind_eq_some_iff.mp H
   obtain ⟨t222, A110, H⟩ := H
   replace H : ((spec_l3Chunk.f k t222 (⟨#[73, 69, 78, 68]⟩ : ByteArray) ([] : List Int)).bind fun t225 => (some t225)) = some r := H
   have A11 := Aside0.mk A110
   clear A110
   replace H := Option.bind_eq_some_iff.mp H
   obtain ⟨t225, A120, H⟩ := H
   replace H : (some t225) = some r := H
   have A12 := Aside0.mk A120
   clear A120
   obtain rfl := Option.some.inj H
   go_enter Try.func31, Try.ntmps31
   go_wp2_with (first | ((with_reducible refine gate_callee (f := 40) rfl ?_); refine goesL_ (some 11) rfl rfl Try.func40 (by kernel_rfl) rfl #[.int .u32 ((a0) % 4294967296)] rfl au_ ?_; (with_reducible refine (spec_l3Four.calls ((a0) % 4294967296) t198 _ A4.out).mono ?_); rintro e w13 ⟨v199, rfl, ho0, hb⟩; refine ⟨_, rfl, ?_⟩; have n0_ := Aside0.mk (Kd.R_lower ho0 (below_size bel_)); have n1_ := Aside0.mk (below_step bel_ hb); clear HB; have HO200 := n0_; have HB := n1_; clear n0_ n1_; (try clear hb);(try clear hb2);(try clear hk);(try clear hi);(try clear ho0)) | ((with_reducible refine gate_callee (f := 40) rfl ?_); refine goesL_ (some 14) rfl rfl Try.func40 (by kernel_rfl) rfl #[.int .u32 ((a1) % 4294967296)] rfl au_ ?_; (with_reducible refine (spec_l3Four.calls ((a1) % 4294967296) t201 _ A5.out).mono ?_); rintro e w14 ⟨v202, rfl, ho0, hb⟩; refine ⟨_, rfl, ?_⟩; have n0_ := Aside0.mk (Kd.R_elder' (kdR_ HO200.out) (Kd.R_base ho0) hb); have n1_ := Aside0.mk (Kd.R_lower (Kd.R_new' ho0 (Kd.R_lt (kdR_ HO200.out))) (below_size bel_)); have n2_ := Aside0.mk (below_step bel_ hb); clear HO200; clear HB; have HO200 := n0_; have HO203 := n1_; have HB := n2_; clear n0_ n1_ n2_; (try clear hb);(try clear hb2);(try clear hk);(try clear hi);(try clear ho0); obtain ⟨Ao16, co16, eo16⟩ := Kd.R_slice HO203.out; subst eo16) | ((with_reducible refine gate_builtin (b := .append) (xs := #[.tmp 11, .tmp 14]) rfl ?_); at_builtin; refine Kd.R_append_rows (Kd.int .u8) (w0 := w) w.heap.size rfl (.tmp 11) (.tmp 14) 22 5 (.int .u8 0) 1 rfl Try.underlying22 info5 rfl (by decide) (by omega) v199 t198 t201 _ _ _ (fun k_ => some k_ ≠ (.slice Ao16 t201.length co16 : Value).ownBlock) (fun _ => False) rfl rfl ?aO ?aR (fun _ _ h => h) (fun _ h => h.elim) ?aF ?aB ?aS ?aL ?_; (case aR => exact cs_ (Kd.R_reads' HO203.out).2.2); (case aB => exact bel_); (case aF => exact (fun k_ hk => Kd.fresh' (Kd.R_lt (kdR_ HO203.out)) k_ hk)); (case aO => exact (by (with_reducible repeat (first | apply Kd.R_alloc | apply Kd.R_drewN | apply Kd.R_drew)); exact Kd.R_mono HO200.out (fun _ hk => hk.2))); (case aS => exact (below_size bel_)); (case aL => have := LMc6.out; omega); intro v205 w15 ho hb hg hat; rw [← Ny204.out] at ho; have n0_ := Aside0.mk (Kd.R_after (ok := (fun _ => True)) (kdR_ HO203.out) hg hat); have n1_ := Aside0.mk (hb); have n2_ := Aside0.mk (ho); clear HO203; clear HB; clear HO200; have HO203 := n0_; have HB := n1_; have HO206 := n2_; clear n0_ n1_ n2_; clear ho hb hg hat) | ((with_reducible refine gate_dst (N := 17) rfl ?_); refine Kd.R_lit (Kd.int .u8) _ 5 ?hg (N := 17) ?hd (xs := ([8, 6, 0, 0, 0] : List Int)) (inner := [.int .u8 8, .int .u8 6, .int .u8 0, .int .u8 0, .int .u8 0]) (ok := fun _ => True) (okp := fun _ => True) ?hr ?hp (fun _ hk => hk) trivial (Below.refl _ _) (Nat.le_refl _) (by simp) ?_; (case hd => rfl); (case hg => rfl); (case hr => first | (go_simp; done) | (go_simp; rfl)); (case hp => exact (Reps.one (show Kd.M (Kd.int .u8) _ _ _ 8 [.int .u8 8] from rfl) (Reps.one (show Kd.M (Kd.int .u8) _ _ _ 6 [.int .u8 6] from rfl) (Reps.one (show Kd.M (Kd.int .u8) _ _ _ 0 [.int .u8 0] from rfl) (Reps.one (show Kd.M (Kd.int .u8) _ _ _ 0 [.int .u8 0] from rfl) (Reps.one (show Kd.M (Kd.int .u8) _ _ _ 0 [.int .u8 0] from rfl) (Reps.none _ _))))))); intro v208 w17 ho18 hb hg_ hnew_; clear hg_ hnew_; (first | rw [← Ny207.out] at ho18 | (simp only [Int.reduceToNat] at ho18; rw [← Ny207.out] at ho18)); have n0_ := Aside0.mk (Kd.R_elder' (kdR_ HO203.out) (Kd.R_base ho18) hb); have n1_ := Aside0.mk (Kd.R_elder' (kdR_ HO206.out) (Kd.R_base ho18) hb); have n2_ := Aside0.mk (Kd.R_lower (Kd.R_new' (Kd.R_new' ho18 (Kd.R_lt (kdR_ HO203.out))) (Kd.R_lt (kdR_ HO206.out))) (below_size bel_)); have n3_ := Aside0.mk (below_step bel_ hb); clear HO203; clear HO206; clear HB; have HO203 := n0_; have HO206 := n1_; have HO209 := n2_; have HB := n3_; clear n0_ n1_ n2_ n3_; clear hb ho18; obtain ⟨Ao20, co20, eo20⟩ := Kd.R_slice HO209.out; subst eo20) | ((with_reducible refine gate_builtin (b := .append) (xs := #[.tmp 16, .tmp 17]) rfl ?_); at_builtin; refine Kd.R_append_rows (Kd.int .u8) (w0 := w) w.heap.size rfl (.tmp 16) (.tmp 17) 22 5 (.int .u8 0) 1 rfl Try.underlying22 info5 rfl (by decide) (by omega) v205 y204 y207 _ _ _ (fun k_ => some k_ ≠ (.slice Ao16 t201.length co16 : Value).ownBlock ∧ some k_ ≠ (.slice Ao20 y207.length co20 : Value).ownBlock) (fun _ => False) rfl rfl ?aO ?aR (fun _ _ h => h) (fun _ h => h.elim) ?aF ?aB ?aS ?aL ?_; (case aR => exact cs_ (Kd.R_reads' HO209.out).2.2); (case aB => exact bel_); (case aF => exact (fun k_ hk => ⟨Kd.fresh' (Kd.R_lt (kdR_ HO203.out)) k_ hk, Kd.fresh' (Kd.R_lt (kdR_ HO209.out)) k_ hk⟩)); (case aO => exact (kdR_ HO206.out)); (case aS => exact (below_size bel_)); (case aL => have := LMc7.out; omega); intro v211 w19 ho hb hg hat; rw [← Ny210.out] at ho; have n0_ := Aside0.mk (Kd.R_after (ok := (fun k_ => some k_ ≠ (.slice Ao20 y207.length co20 : Value).ownBlock)) (by (with_reducible repeat (first | apply Kd.R_alloc | apply Kd.R_drewN | apply Kd.R_drew)); exact Kd.R_mono HO203.out (fun _ hk => ⟨hk.2, hk.1.2⟩)) hg hat); have n1_ := Aside0.mk (Kd.R_after (ok := (fun k_ => some k_ ≠ (.slice Ao16 t201.length co16 : Value).ownBlock)) (by (with_reducible repeat (first | apply Kd.R_alloc | apply Kd.R_drewN | apply Kd.R_drew)); exact Kd.R_mono HO209.out (fun _ hk => ⟨hk.1.2, hk.2⟩)) hg hat); have n2_ := Aside0.mk (hb); have n3_ := Aside0.mk (ho); clear HO203; clear HO209; clear HB; clear HO206; have HO203 := n0_; have HO209 := n1_; have HB := n2_; have HO212 := n3_; clear n0_ n1_ n2_ n3_; clear ho hb hg hat) | ((with_reducible refine gate_callee (f := 38) rfl ?_); refine goesL_ (some 19) rfl rfl Try.func38 (by kernel_rfl) rfl #[] rfl au_ ?_; (with_reducible refine (spec_l3Mark.calls  t213 _ A8.out).mono ?_); rintro e w21 ⟨v214, rfl, ho0, hb⟩; refine ⟨_, rfl, ?_⟩; have n0_ := Aside0.mk (Kd.R_elder' (kdR_ HO203.out) (Kd.R_base ho0) hb); have n1_ := Aside0.mk (Kd.R_elder' (kdR_ HO209.out) (Kd.R_base ho0) hb); have n2_ := Aside0.mk (Kd.R_elder' (kdR_ HO212.out) (Kd.R_base ho0) hb); have n3_ := Aside0.mk (Kd.R_lower (Kd.R_new' (Kd.R_new' (Kd.R_new' ho0 (Kd.R_lt (kdR_ HO203.out))) (Kd.R_lt (kdR_ HO209.out))) (Kd.R_lt (kdR_ HO212.out))) (below_size bel_)); have n4_ := Aside0.mk (below_step bel_ hb); clear HO203; clear HO209; clear HO212; clear HB; have HO203 := n0_; have HO209 := n1_; have HO212 := n2_; have HO215 := n3_; have HB := n4_; clear n0_ n1_ n2_ n3_ n4_; (try clear hb);(try clear hb2);(try clear hk);(try clear hi);(try clear ho0); obtain ⟨Ao22, co22, eo22⟩ := Kd.R_slice HO215.out; subst eo22; obtain ⟨Ao23, co23, eo23⟩ := Kd.R_slice HO212.out; subst eo23) | ((with_reducible refine gate_callee (f := 57) rfl ?_); refine goesL_ (some 21) rfl rfl Try.func57 (by kernel_rfl) rfl #[.slice Ao22 t213.length co22, .string (⟨#[73, 72, 68, 82]⟩ : ByteArray), .slice Ao23 y210.length co23] rfl au_ ?_; (with_reducible refine (spec_l3Chunk.calls k (fun k_ => some k_ = (.slice Ao22 t213.length co22 : Value).ownBlock) (.slice Ao22 t213.length co22) t213 (⟨#[73, 72, 68, 82]⟩ : ByteArray) _ _ y210 t216 w _ ?side1 ?side2 ?side3 ?side4 A9.out).mono ?_); (case side1 => repeat (first | (with_reducible first | exact HB.out | apply below_alloc | apply pw_below_drewN | apply below_drew1) | exact HB.out)); (case side2 => exact Kd.R_tight rfl HO215.out); (case side3 => exact Kd.C_kept_own (HO212.out) (fun k_ hk_ hs_ => (hk_.2) hs_)); (case side4 => exact (Kd.R_reads' HO212.out).2.1); rintro e w24 ⟨v217, rfl, ho0, hb, hkp⟩; refine ⟨_, rfl, ?_⟩; have n0_ := Aside0.mk (Kd.R_mono (ok' := fun k_ => some k_ ≠ (.slice Ao20 y207.length co20 : Value).ownBlock ∧ some k_ ≠ (.slice Ao23 y210.length co23 : Value).ownBlock ∧ some k_ ≠ (v217 : Value).ownBlock) (Kd.R_keptB (HO203.out) hkp (fun k_ hk_ hs_ => (hk_.2) hs_)) (fun k_ hk_ => ⟨hk_.1.1.1, hk_.1.1.2, fun e_ => Or.elim (ho0.1 k_ e_.symm) (fun hs_ => hk_.2.1 hs_) (fun hn_ => Nat.not_le.2 hk_.2.2 hn_)⟩)); have n1_ := Aside0.mk (Kd.R_mono (ok' := fun k_ => some k_ ≠ (.slice Ao16 t201.length co16 : Value).ownBlock ∧ some k_ ≠ (.slice Ao23 y210.length co23 : Value).ownBlock ∧ some k_ ≠ (v217 : Value).ownBlock) (Kd.R_keptB (HO209.out) hkp (fun k_ hk_ hs_ => (hk_.2) hs_)) (fun k_ hk_ => ⟨hk_.1.1.1, hk_.1.1.2, fun e_ => Or.elim (ho0.1 k_ e_.symm) (fun hs_ => hk_.2.1 hs_) (fun hn_ => Nat.not_le.2 hk_.2.2 hn_)⟩)); have n2_ := Aside0.mk (Kd.R_mono (ok' := fun k_ => some k_ ≠ (.slice Ao16 t201.length co16 : Value).ownBlock ∧ some k_ ≠ (.slice Ao20 y207.length co20 : Value).ownBlock ∧ some k_ ≠ (v217 : Value).ownBlock) (Kd.R_keptB (HO212.out) hkp (fun k_ hk_ hs_ => (hk_.2) hs_)) (fun k_ hk_ => ⟨hk_.1.1.1, hk_.1.1.2, fun e_ => Or.elim (ho0.1 k_ e_.symm) (fun hs_ => hk_.2.1 hs_) (fun hn_ => Nat.not_le.2 hk_.2.2 hn_)⟩)); have n3_ := Aside0.mk (Kd.R_mono (ok' := fun k_ => some k_ ≠ (.slice Ao16 t201.length co16 : Value).ownBlock ∧ some k_ ≠ (.slice Ao20 y207.length co20 : Value).ownBlock ∧ some k_ ≠ (.slice Ao23 y210.length co23 : Value).ownBlock) ho0 (fun k_ hk_ => ⟨Or.elim hk_ (fun hs_ => fun e_ => (((HO203.out).1 k_ e_.symm).2) hs_) (fun hn_ => (Kd.fresh' (Kd.R_lt (kdR_ HO203.out)) k_ hn_)), Or.elim hk_ (fun hs_ => fun e_ => (((HO209.out).1 k_ e_.symm).2) hs_) (fun hn_ => (Kd.fresh' (Kd.R_lt (kdR_ HO209.out)) k_ hn_)), Or.elim hk_ (fun hs_ => fun e_ => (((HO212.out).1 k_ e_.symm).2) hs_) (fun hn_ => (Kd.fresh' (Kd.R_lt (kdR_ HO212.out)) k_ hn_))⟩)); have n4_ := Aside0.mk (hb); clear HO203; clear HO209; clear HO212; clear HB; clear HO215; have HO203 := n0_; have HO209 := n1_; have HO212 := n2_; have HO218 := n3_; have HB := n4_; clear n0_ n1_ n2_ n3_ n4_; (try clear hb);(try clear hkp);(try clear ho0)) | ((with_reducible refine gate_callee (f := 58) rfl ?_); refine goesL_ (some 26) rfl rfl Try.func58 (by kernel_rfl) rfl #[.int .i64 a0, .int .i64 a1, .slice A2 l2.length c2] rfl au_ ?_; (with_reducible refine (spec_l3Pack.calls k a0 a1 (fun k_ => k_ < w.heap.size) _ _ l2 t219 _ ?side1 A10.out).mono ?_); (case side1 => exact Kd.V_mk HC2.out (Kd.F_below (Kd.C_F (Kd.heap_int .u8) HR2.out) bel_)); rintro e w25 ⟨v220, rfl, ho0, hb⟩; refine ⟨_, rfl, ?_⟩; have n0_ := Aside0.mk (Kd.R_elder' (kdR_ HO203.out) (Kd.R_base ho0) hb); have n1_ := Aside0.mk (Kd.R_elder' (kdR_ HO209.out) (Kd.R_base ho0) hb); have n2_ := Aside0.mk (Kd.R_elder' (kdR_ HO212.out) (Kd.R_base ho0) hb); have n3_ := Aside0.mk (Kd.R_elder' (kdR_ HO218.out) (Kd.R_base ho0) hb); have n4_ := Aside0.mk (Kd.R_lower (Kd.R_new' (Kd.R_new' (Kd.R_new' (Kd.R_new' (Kd.R_mono (ok' := fun k_ => True) ho0 (fun _ hk_ => trivial)) (Kd.R_lt (kdR_ HO203.out))) (Kd.R_lt (kdR_ HO209.out))) (Kd.R_lt (kdR_ HO212.out))) (Kd.R_lt (kdR_ HO218.out))) (below_size bel_)); have n5_ := Aside0.mk (below_step bel_ hb); clear HO203; clear HO209; clear HO212; clear HO218; clear HB; have HO203 := n0_; have HO209 := n1_; have HO212 := n2_; have HO218 := n3_; have HO221 := n4_; have HB := n5_; clear n0_ n1_ n2_ n3_ n4_ n5_; (try clear hb);(try clear hb2);(try clear hk);(try clear hi);(try clear ho0); obtain ⟨Ao26, co26, eo26⟩ := Kd.R_slice HO218.out; subst eo26; obtain ⟨Ao27, co27, eo27⟩ := Kd.R_slice HO221.out; subst eo27) | ((with_reducible refine gate_callee (f := 57) rfl ?_); refine goesL_ (some 27) rfl rfl Try.func57 (by kernel_rfl) rfl #[.slice Ao26 t216.length co26, .string (⟨#[73, 68, 65, 84]⟩ : ByteArray), .slice Ao27 t219.length co27] rfl au_ ?_; (with_reducible refine (spec_l3Chunk.calls k (fun k_ => some k_ = (.slice Ao26 t216.length co26 : Value).ownBlock) (.slice Ao26 t216.length co26) t216 (⟨#[73, 68, 65, 84]⟩ : ByteArray) _ _ t219 t222 w _ ?side1 ?side2 ?side3 ?side4 A11.out).mono ?_); (case side1 => repeat (first | (with_reducible first | exact HB.out | apply below_alloc | apply pw_below_drewN | apply below_drew1) | exact HB.out)); (case side2 => exact Kd.R_tight rfl HO218.out); (case side3 => exact Kd.C_kept_own (HO221.out) (fun k_ hk_ hs_ => (hk_.2) hs_)); (case side4 => exact (Kd.R_reads' HO221.out).2.1); rintro e w28 ⟨v223, rfl, ho0, hb, hkp⟩; refine ⟨_, rfl, ?_⟩; have n0_ := Aside0.mk (Kd.R_mono (ok' := fun k_ => some k_ ≠ (.slice Ao20 y207.length co20 : Value).ownBlock ∧ some k_ ≠ (.slice Ao23 y210.length co23 : Value).ownBlock ∧ some k_ ≠ (.slice Ao27 t219.length co27 : Value).ownBlock ∧ some k_ ≠ (v223 : Value).ownBlock) (Kd.R_keptB (HO203.out) hkp (fun k_ hk_ hs_ => (hk_.1.2.2) hs_)) (fun k_ hk_ => ⟨hk_.1.1.1, hk_.1.1.2.1, hk_.1.2, fun e_ => Or.elim (ho0.1 k_ e_.symm) (fun hs_ => hk_.2.1 hs_) (fun hn_ => Nat.not_le.2 hk_.2.2 hn_)⟩)); have n1_ := Aside0.mk (Kd.R_mono (ok' := fun k_ => some k_ ≠ (.slice Ao16 t201.length co16 : Value).ownBlock ∧ some k_ ≠ (.slice Ao23 y210.length co23 : Value).ownBlock ∧ some k_ ≠ (.slice Ao27 t219.length co27 : Value).ownBlock ∧ some k_ ≠ (v223 : Value).ownBlock) (Kd.R_keptB (HO209.out) hkp (fun k_ hk_ hs_ => (hk_.1.2.2) hs_)) (fun k_ hk_ => ⟨hk_.1.1.1, hk_.1.1.2.1, hk_.1.2, fun e_ => Or.elim (ho0.1 k_ e_.symm) (fun hs_ => hk_.2.1 hs_) (fun hn_ => Nat.not_le.2 hk_.2.2 hn_)⟩)); have n2_ := Aside0.mk (Kd.R_mono (ok' := fun k_ => some k_ ≠ (.slice Ao16 t201.length co16 : Value).ownBlock ∧ some k_ ≠ (.slice Ao20 y207.length co20 : Value).ownBlock ∧ some k_ ≠ (.slice Ao27 t219.length co27 : Value).ownBlock ∧ some k_ ≠ (v223 : Value).ownBlock) (Kd.R_keptB (HO212.out) hkp (fun k_ hk_ hs_ => (hk_.1.2.2) hs_)) (fun k_ hk_ => ⟨hk_.1.1.1, hk_.1.1.2.1, hk_.1.2, fun e_ => Or.elim (ho0.1 k_ e_.symm) (fun hs_ => hk_.2.1 hs_) (fun hn_ => Nat.not_le.2 hk_.2.2 hn_)⟩)); have n3_ := Aside0.mk (Kd.R_mono (ok' := fun k_ => some k_ ≠ (.slice Ao16 t201.length co16 : Value).ownBlock ∧ some k_ ≠ (.slice Ao20 y207.length co20 : Value).ownBlock ∧ some k_ ≠ (.slice Ao23 y210.length co23 : Value).ownBlock ∧ some k_ ≠ (v223 : Value).ownBlock) (Kd.R_keptB (HO221.out) hkp (fun k_ hk_ hs_ => (hk_.2) hs_)) (fun k_ hk_ => ⟨hk_.1.1.1.1.2, hk_.1.1.1.2, hk_.1.1.2, fun e_ => Or.elim (ho0.1 k_ e_.symm) (fun hs_ => hk_.2.1 hs_) (fun hn_ => Nat.not_le.2 hk_.2.2 hn_)⟩)); have n4_ := Aside0.mk (Kd.R_mono (ok' := fun k_ => some k_ ≠ (.slice Ao16 t201.length co16 : Value).ownBlock ∧ some k_ ≠ (.slice Ao20 y207.length co20 : Value).ownBlock ∧ some k_ ≠ (.slice Ao23 y210.length co23 : Value).ownBlock ∧ some k_ ≠ (.slice Ao27 t219.length co27 : Value).ownBlock) ho0 (fun k_ hk_ => ⟨Or.elim hk_ (fun hs_ => fun e_ => (((HO203.out).1 k_ e_.symm).1.2.2) hs_) (fun hn_ => (Kd.fresh' (Kd.R_lt (kdR_ HO203.out)) k_ hn_)), Or.elim hk_ (fun hs_ => fun e_ => (((HO209.out).1 k_ e_.symm).1.2.2) hs_) (fun hn_ => (Kd.fresh' (Kd.R_lt (kdR_ HO209.out)) k_ hn_)), Or.elim hk_ (fun hs_ => fun e_ => (((HO212.out).1 k_ e_.symm).1.2.2) hs_) (fun hn_ => (Kd.fresh' (Kd.R_lt (kdR_ HO212.out)) k_ hn_)), Or.elim hk_ (fun hs_ => fun e_ => (((HO221.out).1 k_ e_.symm).2) hs_) (fun hn_ => (Kd.fresh' (Kd.R_lt (kdR_ HO221.out)) k_ hn_))⟩)); have n5_ := Aside0.mk (hb); clear HO203; clear HO209; clear HO212; clear HO221; clear HB; clear HO218; have HO203 := n0_; have HO209 := n1_; have HO212 := n2_; have HO221 := n3_; have HO224 := n4_; have HB := n5_; clear n0_ n1_ n2_ n3_ n4_ n5_; (try clear hb);(try clear hkp);(try clear ho0); obtain ⟨Ao29, co29, eo29⟩ := Kd.R_slice HO224.out; subst eo29) | ((with_reducible refine gate_callee (f := 57) rfl ?_); refine goesL_ (some 29) rfl rfl Try.func57 (by kernel_rfl) rfl #[.slice Ao29 t222.length co29, .string (⟨#[73, 69, 78, 68]⟩ : ByteArray), .slice none 0 0] rfl au_ ?_; (refine (spec_l3Chunk.calls k (fun k_ => some k_ = (.slice Ao29 t222.length co29 : Value).ownBlock) (.slice Ao29 t222.length co29) t222 (⟨#[73, 69, 78, 68]⟩ : ByteArray) _ _ ([] : List Int) t225 w _ ?side1 ?side2 ?side3 ?side4 A12.out).mono ?_); (case side1 => repeat (first | (with_reducible first | exact HB.out | apply below_alloc | apply pw_below_drewN | apply below_drew1) | exact HB.out)); (case side2 => exact Kd.R_tight rfl HO224.out); (case side3 => exact Kd.C_kept_nil); (case side4 => exact Nat.le_refl _); rintro e w30 ⟨v226, rfl, ho0, hb, hkp⟩; refine ⟨_, rfl, ?_⟩; have n0_ := Aside0.mk (Kd.R_mono (ok' := fun k_ => some k_ ≠ (.slice Ao20 y207.length co20 : Value).ownBlock ∧ some k_ ≠ (.slice Ao23 y210.length co23 : Value).ownBlock ∧ some k_ ≠ (.slice Ao27 t219.length co27 : Value).ownBlock ∧ some k_ ≠ (v226 : Value).ownBlock) (Kd.R_keptB (HO203.out) hkp (fun k_ hk_ hs_ => (hk_.2.2.2) hs_)) (fun k_ hk_ => ⟨hk_.1.1, hk_.1.2.1, hk_.1.2.2.1, fun e_ => Or.elim (ho0.1 k_ e_.symm) (fun hs_ => hk_.2.1 hs_) (fun hn_ => Nat.not_le.2 hk_.2.2 hn_)⟩)); have n1_ := Aside0.mk (Kd.R_mono (ok' := fun k_ => some k_ ≠ (.slice Ao16 t201.length co16 : Value).ownBlock ∧ some k_ ≠ (.slice Ao23 y210.length co23 : Value).ownBlock ∧ some k_ ≠ (.slice Ao27 t219.length co27 : Value).ownBlock ∧ some k_ ≠ (v226 : Value).ownBlock) (Kd.R_keptB (HO209.out) hkp (fun k_ hk_ hs_ => (hk_.2.2.2) hs_)) (fun k_ hk_ => ⟨hk_.1.1, hk_.1.2.1, hk_.1.2.2.1, fun e_ => Or.elim (ho0.1 k_ e_.symm) (fun hs_ => hk_.2.1 hs_) (fun hn_ => Nat.not_le.2 hk_.2.2 hn_)⟩)); have n2_ := Aside0.mk (Kd.R_mono (ok' := fun k_ => some k_ ≠ (.slice Ao16 t201.length co16 : Value).ownBlock ∧ some k_ ≠ (.slice Ao20 y207.length co20 : Value).ownBlock ∧ some k_ ≠ (.slice Ao27 t219.length co27 : Value).ownBlock ∧ some k_ ≠ (v226 : Value).ownBlock) (Kd.R_keptB (HO212.out) hkp (fun k_ hk_ hs_ => (hk_.2.2.2) hs_)) (fun k_ hk_ => ⟨hk_.1.1, hk_.1.2.1, hk_.1.2.2.1, fun e_ => Or.elim (ho0.1 k_ e_.symm) (fun hs_ => hk_.2.1 hs_) (fun hn_ => Nat.not_le.2 hk_.2.2 hn_)⟩)); have n3_ := Aside0.mk (Kd.R_mono (ok' := fun k_ => some k_ ≠ (.slice Ao16 t201.length co16 : Value).ownBlock ∧ some k_ ≠ (.slice Ao20 y207.length co20 : Value).ownBlock ∧ some k_ ≠ (.slice Ao23 y210.length co23 : Value).ownBlock ∧ some k_ ≠ (v226 : Value).ownBlock) (Kd.R_keptB (HO221.out) hkp (fun k_ hk_ hs_ => (hk_.2.2.2) hs_)) (fun k_ hk_ => ⟨hk_.1.1, hk_.1.2.1, hk_.1.2.2.1, fun e_ => Or.elim (ho0.1 k_ e_.symm) (fun hs_ => hk_.2.1 hs_) (fun hn_ => Nat.not_le.2 hk_.2.2 hn_)⟩)); have n4_ := Aside0.mk (Kd.R_mono (ok' := fun k_ => some k_ ≠ (.slice Ao16 t201.length co16 : Value).ownBlock ∧ some k_ ≠ (.slice Ao20 y207.length co20 : Value).ownBlock ∧ some k_ ≠ (.slice Ao23 y210.length co23 : Value).ownBlock ∧ some k_ ≠ (.slice Ao27 t219.length co27 : Value).ownBlock) ho0 (fun k_ hk_ => ⟨Or.elim hk_ (fun hs_ => fun e_ => (((HO203.out).1 k_ e_.symm).2.2.2) hs_) (fun hn_ => (Kd.fresh' (Kd.R_lt (kdR_ HO203.out)) k_ hn_)), Or.elim hk_ (fun hs_ => fun e_ => (((HO209.out).1 k_ e_.symm).2.2.2) hs_) (fun hn_ => (Kd.fresh' (Kd.R_lt (kdR_ HO209.out)) k_ hn_)), Or.elim hk_ (fun hs_ => fun e_ => (((HO212.out).1 k_ e_.symm).2.2.2) hs_) (fun hn_ => (Kd.fresh' (Kd.R_lt (kdR_ HO212.out)) k_ hn_)), Or.elim hk_ (fun hs_ => fun e_ => (((HO221.out).1 k_ e_.symm).2.2.2) hs_) (fun hn_ => (Kd.fresh' (Kd.R_lt (kdR_ HO221.out)) k_ hn_))⟩)); have n5_ := Aside0.mk (hb); clear HO203; clear HO209; clear HO212; clear HO221; clear HB; clear HO224; have HO203 := n0_; have HO209 := n1_; have HO212 := n2_; have HO221 := n3_; have HO227 := n4_; have HB := n5_; clear n0_ n1_ n2_ n3_ n4_ n5_; (try clear hb);(try clear hkp);(try clear ho0)))
   go_ret
   exact ⟨_, er_, by (with_reducible repeat (first | apply Kd.R_alloc | apply Kd.R_drewN | apply Kd.R_drew)); exact Kd.R_mono HO227.out (fun _ hk => trivial), bel_⟩
  ·rw [if_neg c7] at H
   exact absurd H (by simp)
 ·rw [if_neg c6] at H
  exact absurd H (by simp)

/-! ### spec_EncodePng: function 15 -/
def spec_EncodePng.f (k : Nat) (a0 : Int) (a1 : Int) (l2 : List Int) : Option (List Int × Bool) := (spec_l3Side.f a0).bind fun t228 => (if t228 = true then ((spec_l3Side.f a1).bind fun t229 => (if t229 = true then (if (l2.length : Int) = (wrap64 ((wrap64 (4 * a0)) * a1)) then ((spec_l3Encode.f k a0 a1 l2).bind fun t230 => (some (t230, true))) else (some (([] : List Int), false))) else (some (([] : List Int), false)))) else (some (([] : List Int), false)))
set_option maxHeartbeats 8000000 in
set_option maxRecDepth 100000 in
theorem spec_EncodePng.calls (k : Nat) (a0 : Int) (a1 : Int) (A2 : Option Addr) (c2 : Nat) (l2 : List Int) (r1 : List Int) (r2 : Bool) (w : World) (hr2 : Kd.C (Kd.int .u8) w A2 l2.length l2) (hc2 : l2.length ≤ c2) (h : spec_EncodePng.f k a0 a1 l2 = some (r1, r2)) :
  Calls Try.prog 15 #[.int .i64 a0, .int .i64 a1, .slice A2 l2.length c2] w fun e w' => ∃ v0_ : Value, e = .returned (.tuple #[v0_, .bool r2]) ∧ Kd.R (Kd.int .u8) 5 w' w.heap.size (fun _ => True) v0_ r1 ∧ Below w.heap.size w w' := by
 have HR2 := Aside0.mk hr2
 have HC2 := Aside0.mk hc2
 clear hr2 hc2
 have HB := Aside0.mk (Below.refl w.heap.size w)
 have H : ((spec_l3Side.f a0).bind fun t228 => (if t228 = true then ((spec_l3Side.f a1).bind fun t229 => (if t229 = true then (if (l2.length : Int) = (wrap64 ((wrap64 (4 * a0)) * a1)) then ((spec_l3Encode.f k a0 a1 l2).bind fun t230 => (some (t230, true))) else (some (([] : List Int), false))) else (some (([] : List Int), false)))) else (some (([] : List Int), false)))) = some (r1, r2) := h
 clear h
 replace H := Option.bind_eq_some_iff.mp H
 obtain ⟨t228, A40, H⟩ := H
 replace H : (if t228 = true then ((spec_l3Side.f a1).bind fun t229 => (if t229 = true then (if (l2.length : Int) = (wrap64 ((wrap64 (4 * a0)) * a1)) then ((spec_l3Encode.f k a0 a1 l2).bind fun t230 => (some (t230, true))) else (some (([] : List Int), false))) else (some (([] : List Int), false)))) else (some (([] : List Int), false))) = some (r1, r2) := H
 have A4 := Aside0.mk A40
 clear A40
 by_cases c5 : t228 = true
 ·subst c5
  have H1 : ((spec_l3Side.f a1).bind fun t229 => (if t229 = true then (if (l2.length : Int) = (wrap64 ((wrap64 (4 * a0)) * a1)) then ((spec_l3Encode.f k a0 a1 l2).bind fun t230 => (some (t230, true))) else (some (([] : List Int), false))) else (some (([] : List Int), false)))) = some (r1, r2) := by rw [if_pos rfl] at H; exact H
  clear H
  have H := H1
  clear H1
  replace H := Option.bind_eq_some_iff.mp H
  obtain ⟨t229, A60, H⟩ := H
  replace H : (if t229 = true then (if (l2.length : Int) = (wrap64 ((wrap64 (4 * a0)) * a1)) then ((spec_l3Encode.f k a0 a1 l2).bind fun t230 => (some (t230, true))) else (some (([] : List Int), false))) else (some (([] : List Int), false))) = some (r1, r2) := H
  have A6 := Aside0.mk A60
  clear A60
  by_cases c7 : t229 = true
  ·subst c7
   have H1 : (if (l2.length : Int) = (wrap64 ((wrap64 (4 * a0)) * a1)) then ((spec_l3Encode.f k a0 a1 l2).bind fun t230 => (some (t230, true))) else (some (([] : List Int), false))) = some (r1, r2) := by rw [if_pos rfl] at H; exact H
   clear H
   have H := H1
   clear H1
   by_cases c8 : (l2.length : Int) = (wrap64 ((wrap64 (4 * a0)) * a1))
   ·rw [if_pos c8] at H
    have c8b0 : ((l2.length : Int) == (wrap64 ((wrap64 (4 * a0)) * a1))) = true := beq_iff_eq.mpr c8
    have c8b1 : ((l2.length : Int) != (wrap64 ((wrap64 (4 * a0)) * a1))) = false := bne_eq_false_iff_eq.mpr c8
    clear c8
    replace H := Option.bind_eq_some_iff.mp H
    obtain ⟨t230, A90, H⟩ := H
    replace H : (some (t230, true)) = some (r1, r2) := H
    have A9 := Aside0.mk A90
    clear A90
    simp only [Option.some.injEq, Prod.mk.injEq] at H
    obtain ⟨rfl, rfl⟩ := H
    go_enter Try.func15, Try.ntmps15
    go_wp2_with (first | ((with_reducible refine gate_callee (f := 30) rfl ?_); refine goesL_ (some 9) rfl rfl Try.func30 (by kernel_rfl) rfl #[.int .i64 a0] rfl au_ ?_; (with_reducible refine (spec_l3Side.calls a0 true _ A4.out).mono ?_); rintro e w' ⟨rfl, ⟨nd, rfl⟩⟩; refine ⟨_, rfl, ?_⟩) | (go_at_call 30; (with_reducible refine (spec_l3Side.calls a1 true _ A6.out).mono ?_); rintro e w' ⟨rfl, ⟨nd, rfl⟩⟩) | ((with_reducible refine gate_callee (f := 31) rfl ?_); refine goesL_ (some 28) rfl rfl Try.func31 (by kernel_rfl) rfl #[.int .i64 a0, .int .i64 a1, .slice A2 l2.length c2] rfl au_ ?_; (with_reducible refine (spec_l3Encode.calls k a0 a1 _ _ l2 t230 _ ?side1 ?side2 A9.out).mono ?_); (case side1 => exact cs_ HR2.out); (case side2 => exact HC2.out); rintro e w10 ⟨v231, rfl, ho0, hb⟩; refine ⟨_, rfl, ?_⟩; have n0_ := Aside0.mk (Kd.R_lower ho0 (below_size bel_)); have n1_ := Aside0.mk (below_step bel_ hb); clear HB; have HO232 := n0_; have HB := n1_; clear n0_ n1_; (try clear hb);(try clear hb2);(try clear hk);(try clear hi);(try clear ho0)))
    go_ret2
    exact ⟨_, er_, by (with_reducible repeat (first | apply Kd.R_alloc | apply Kd.R_drewN | apply Kd.R_drew)); exact HO232.out, bel_⟩
   ·rw [if_neg c8] at H
    have c8b0 : ((l2.length : Int) == (wrap64 ((wrap64 (4 * a0)) * a1))) = false := beq_eq_false_iff_ne.mpr c8
    have c8b1 : ((l2.length : Int) != (wrap64 ((wrap64 (4 * a0)) * a1))) = true := bne_iff_ne.mpr c8
    simp only [Option.some.injEq, Prod.mk.injEq] at H
    obtain ⟨rfl, rfl⟩ := H
    go_enter Try.func15, Try.ntmps15
    go_wp2_with (first | ((with_reducible refine gate_callee (f := 30) rfl ?_); refine goesL_ (some 9) rfl rfl Try.func30 (by kernel_rfl) rfl #[.int .i64 a0] rfl au_ ?_; (with_reducible refine (spec_l3Side.calls a0 true _ A4.out).mono ?_); rintro e w' ⟨rfl, ⟨nd, rfl⟩⟩; refine ⟨_, rfl, ?_⟩) | (go_at_call 30; (with_reducible refine (spec_l3Side.calls a1 true _ A6.out).mono ?_); rintro e w' ⟨rfl, ⟨nd, rfl⟩⟩))
    go_ret2
    exact ⟨_, er_, by first | exact Kd.R_nil _ _ _ _ _ | exact Kd.N_nil _ _ _ _ _ | exact Kd.V_nil _ _ _ _ _ | exact Kd.Q_nil _ _ _ _ _ | exact Kd.S_nil _ _ _ _ _, bel_⟩
  ·replace c7 := Bool.eq_false_iff.mpr c7
   subst c7
   have H1 : (some (([] : List Int), false)) = some (r1, r2) := by rw [if_neg (show ¬ (false = true) by decide)] at H; exact H
   clear H
   have H := H1
   clear H1
   simp only [Option.some.injEq, Prod.mk.injEq] at H
   obtain ⟨rfl, rfl⟩ := H
   go_enter Try.func15, Try.ntmps15
   go_wp2_with (first | ((with_reducible refine gate_callee (f := 30) rfl ?_); refine goesL_ (some 9) rfl rfl Try.func30 (by kernel_rfl) rfl #[.int .i64 a0] rfl au_ ?_; (with_reducible refine (spec_l3Side.calls a0 true _ A4.out).mono ?_); rintro e w' ⟨rfl, ⟨nd, rfl⟩⟩; refine ⟨_, rfl, ?_⟩) | (go_at_call 30; (with_reducible refine (spec_l3Side.calls a1 false _ A6.out).mono ?_); rintro e w' ⟨rfl, ⟨nd, rfl⟩⟩))
   go_ret2
   exact ⟨_, er_, by first | exact Kd.R_nil _ _ _ _ _ | exact Kd.N_nil _ _ _ _ _ | exact Kd.V_nil _ _ _ _ _ | exact Kd.Q_nil _ _ _ _ _ | exact Kd.S_nil _ _ _ _ _, bel_⟩
 ·replace c5 := Bool.eq_false_iff.mpr c5
  subst c5
  have H1 : (some (([] : List Int), false)) = some (r1, r2) := by rw [if_neg (show ¬ (false = true) by decide)] at H; exact H
  clear H
  have H := H1
  clear H1
  simp only [Option.some.injEq, Prod.mk.injEq] at H
  obtain ⟨rfl, rfl⟩ := H
  go_enter Try.func15, Try.ntmps15
  go_wp2_with (first | ((with_reducible refine gate_callee (f := 30) rfl ?_); refine goesL_ (some 9) rfl rfl Try.func30 (by kernel_rfl) rfl #[.int .i64 a0] rfl au_ ?_; (with_reducible refine (spec_l3Side.calls a0 false _ A4.out).mono ?_); rintro e w' ⟨rfl, ⟨nd, rfl⟩⟩; refine ⟨_, rfl, ?_⟩))
  go_ret2
  exact ⟨_, er_, by first | exact Kd.R_nil _ _ _ _ _ | exact Kd.N_nil _ _ _ _ _ | exact Kd.V_nil _ _ _ _ _ | exact Kd.Q_nil _ _ _ _ _ | exact Kd.S_nil _ _ _ _ _, bel_⟩

/-! ### impl_fixedLengths: function 20 -/
def impl_fixedLengths.l0 : Nat → List Int → Int → Option (List Int)
 | 0, _, _ => none
 | k + 1, x1, x4 => if x4 < 288 then (if x4 < 144 then (if x1.length < 17592186044416 then (impl_fixedLengths.l0 k (x1 ++ [8]) (wrap64 (x4 + 1))) else (none)) else (if x4 < 256 then (if x1.length < 17592186044416 then (impl_fixedLengths.l0 k (x1 ++ [9]) (wrap64 (x4 + 1))) else (none)) else (if x4 < 280 then (if x1.length < 17592186044416 then (impl_fixedLengths.l0 k (x1 ++ [7]) (wrap64 (x4 + 1))) else (none)) else (if x1.length < 17592186044416 then (impl_fixedLengths.l0 k (x1 ++ [8]) (wrap64 (x4 + 1))) else (none))))) else (some x1)
def impl_fixedLengths.f (k : Nat)  : Option (List Int) := impl_fixedLengths.l0 k (([] : List Int)) 0
set_option maxHeartbeats 8000000 in
set_option maxRecDepth 100000 in
theorem impl_fixedLengths.calls (k : Nat)  (r : List Int) (w : World) (h : impl_fixedLengths.f k  = some r) :
  Calls Try.prog 20 #[] w fun e w' => ∃ v0_ : Value, e = .returned (v0_) ∧ Kd.R (Kd.int .i64) 3 w' w.heap.size (fun _ => True) v0_ r ∧ Below w.heap.size w w' := by
 have HB := Aside0.mk (Below.refl w.heap.size w)
 have H : (impl_fixedLengths.l0 k (([] : List Int)) 0) = some r := h
 clear h
 obtain ⟨y233, hy233⟩ : ∃ y_ : List Int, y_ = (([] : List Int)) := ⟨_, rfl⟩
 replace H : (impl_fixedLengths.l0 k y233 0) = some r := by first | (rw [hy233]; with_reducible exact H) | (have H2_ := (Option.bind_some _ _).symm.trans H; rw [hy233]; with_reducible exact H2_) | (have H2_ := (Option.bind_some _ _).symm.trans H; with_reducible exact H2_) | with_reducible exact H | (rw [hy233]; exact H) | exact H
 have Ny233 := Aside0.mk hy233
 clear hy233
 have H' := Aside0.mk H
 clear H
 go_enter Try.func20, Try.ntmps20
 go_wp2_with (first | ((with_reducible refine gate_dst (N := 3) rfl ?_); refine Kd.R_lit (Kd.int .i64) _ 3 ?hg (N := 3) ?hd (xs := ([] : List Int)) (inner := []) (ok := fun _ => True) (okp := fun _ => True) ?hr ?hp (fun _ hk => hk) trivial (Below.refl _ _) (Nat.le_refl _) (by simp) ?_; (case hd => rfl); (case hg => rfl); (case hr => first | (go_simp; done) | (go_simp; rfl)); (case hp => exact (Reps.none _ _)); intro v234 w1 ho2 hb hg_ hnew_; clear hg_ hnew_; (first | rw [← Ny233.out] at ho2 | (simp only [Int.reduceToNat] at ho2; rw [← Ny233.out] at ho2)); have n0_ := Aside0.mk (Kd.R_lower ho2 (below_size bel_)); have n1_ := Aside0.mk (below_step bel_ hb); clear HB; have HO235 := n0_; have HB := n1_; clear n0_ n1_; clear hb ho2))
 go_loopg [1, 4] k (fun kq v1 v4 w' => ∃ (x1_1 : List Int) (x4_1 : Int), v4 = .int .i64 x4_1 ∧ Aside0 (impl_fixedLengths.l0 kq x1_1 x4_1 = some r) ∧ Aside0 (kq ≤ k) ∧ Aside0 (Kd.R (Kd.int .i64) 3 w' w.heap.size (fun _ => True) v1 x1_1) ∧ Aside0 (Below w.heap.size w w'))
 case atStart => exact ⟨(y233), (0), sv_, H', ⟨Nat.le_refl _⟩, ⟨by (with_reducible repeat (first | apply Kd.R_alloc | apply Kd.R_drewN | apply Kd.R_drew)); exact HO235.out⟩, ⟨bel_⟩⟩
 case round =>
  clear H'
  (try clear c2);(try clear p2)
  obtain ⟨x1_1, x4_1, rfl, HA, HK1, HO_1, HB⟩ := hrel
  cases gk with
  | zero => exact absurd HA.out (by simp [impl_fixedLengths.l0])
  | succ k1 =>
   have H := HA.out
   clear HA
   simp only [impl_fixedLengths.l0] at H
   by_cases c3 : x4_1 < 288
   ·rw [if_pos c3] at H
    have c3b0 : decide (x4_1 < 288) = true := decide_eq_true c3
    clear c3
    by_cases c4 : x4_1 < 144
    ·rw [if_pos c4] at H
     have c4b0 : decide (x4_1 < 144) = true := decide_eq_true c4
     clear c4
     by_cases c5 : x1_1.length < 17592186044416
     ·rw [if_pos c5] at H
      have LMc5 := Aside0.mk c5
      clear c5
      obtain ⟨y236, hy236⟩ : ∃ y_ : List Int, y_ = (x1_1 ++ [8]) := ⟨_, rfl⟩
      replace H : (impl_fixedLengths.l0 k1 y236 (wrap64 (x4_1 + 1))) = some r := by first | (rw [hy236]; with_reducible exact H) | (have H2_ := (Option.bind_some _ _).symm.trans H; rw [hy236]; with_reducible exact H2_) | (have H2_ := (Option.bind_some _ _).symm.trans H; with_reducible exact H2_) | with_reducible exact H | (rw [hy236]; exact H) | exact H
      have Ny236 := Aside0.mk hy236
      clear hy236
      have H' := Aside0.mk H
      clear H
      go_wp2_with (first | ((with_reducible refine gate_builtin (b := .append) (xs := #[.tmp 13, .tmp 14]) rfl ?_); at_builtin; refine Kd.R_append (Kd.int .i64) (w0 := w) w.heap.size rfl (.tmp 13) (.tmp 14) 33 3 (.int .i64 0) 8 rfl Try.underlying33 info3 rfl (by decide) (by omega) u1 x1_1 8 [.int .i64 8] (fun _ => True) (fun _ => False) rfl rfl ?aP (fun _ hk => hk.elim) ?aF ?aO ?aB ?aS ?aL ?_; (case aP => exact rfl); (case aB => exact bel_); (case aF => exact (fun _ _ => trivial)); (case aO => exact (kdR_ HO_1.out)); (case aS => exact (below_size bel_)); (case aL => have := LMc5.out; omega); intro v237 w6 ho hb hg hat; rw [← Ny236.out] at ho; have n0_ := Aside0.mk (hb); have n1_ := Aside0.mk (ho); clear HB; clear HO_1; have HB := n0_; have HO238 := n1_; clear n0_ n1_; clear ho hb hg hat))
      go_roundg k1
      case measure => have := HK1.out; omega
      case rel => exact ⟨(y236), (wrap64 (x4_1 + 1)), sv_, H', ⟨by have := HK1.out; omega⟩, ⟨by (with_reducible repeat (first | apply Kd.R_alloc | apply Kd.R_drewN | apply Kd.R_drew)); exact HO238.out⟩, ⟨bel_⟩⟩
     ·rw [if_neg c5] at H
      exact absurd H (by simp)
    ·rw [if_neg c4] at H
     have c4b0 : decide (x4_1 < 144) = false := decide_eq_false c4
     clear c4
     by_cases c7 : x4_1 < 256
     ·rw [if_pos c7] at H
      have c7b0 : decide (x4_1 < 256) = true := decide_eq_true c7
      clear c7
      by_cases c8 : x1_1.length < 17592186044416
      ·rw [if_pos c8] at H
       have LMc8 := Aside0.mk c8
       clear c8
       obtain ⟨y239, hy239⟩ : ∃ y_ : List Int, y_ = (x1_1 ++ [9]) := ⟨_, rfl⟩
       replace H : (impl_fixedLengths.l0 k1 y239 (wrap64 (x4_1 + 1))) = some r := by first | (rw [hy239]; with_reducible exact H) | (have H2_ := (Option.bind_some _ _).symm.trans H; rw [hy239]; with_reducible exact H2_) | (have H2_ := (Option.bind_some _ _).symm.trans H; with_reducible exact H2_) | with_reducible exact H | (rw [hy239]; exact H) | exact H
       have Ny239 := Aside0.mk hy239
       clear hy239
       have H' := Aside0.mk H
       clear H
       go_wp2_with (first | ((with_reducible refine gate_builtin (b := .append) (xs := #[.tmp 19, .tmp 20]) rfl ?_); at_builtin; refine Kd.R_append (Kd.int .i64) (w0 := w) w.heap.size rfl (.tmp 19) (.tmp 20) 33 3 (.int .i64 0) 8 rfl Try.underlying33 info3 rfl (by decide) (by omega) u1 x1_1 9 [.int .i64 9] (fun _ => True) (fun _ => False) rfl rfl ?aP (fun _ hk => hk.elim) ?aF ?aO ?aB ?aS ?aL ?_; (case aP => exact rfl); (case aB => exact bel_); (case aF => exact (fun _ _ => trivial)); (case aO => exact (kdR_ HO_1.out)); (case aS => exact (below_size bel_)); (case aL => have := LMc8.out; omega); intro v240 w9 ho hb hg hat; rw [← Ny239.out] at ho; have n0_ := Aside0.mk (hb); have n1_ := Aside0.mk (ho); clear HB; clear HO_1; have HB := n0_; have HO241 := n1_; clear n0_ n1_; clear ho hb hg hat))
       go_roundg k1
       case measure => have := HK1.out; omega
       case rel => exact ⟨(y239), (wrap64 (x4_1 + 1)), sv_, H', ⟨by have := HK1.out; omega⟩, ⟨by (with_reducible repeat (first | apply Kd.R_alloc | apply Kd.R_drewN | apply Kd.R_drew)); exact HO241.out⟩, ⟨bel_⟩⟩
      ·rw [if_neg c8] at H
       exact absurd H (by simp)
     ·rw [if_neg c7] at H
      have c7b0 : decide (x4_1 < 256) = false := decide_eq_false c7
      clear c7
      by_cases c10 : x4_1 < 280
      ·rw [if_pos c10] at H
       have c10b0 : decide (x4_1 < 280) = true := decide_eq_true c10
       clear c10
       by_cases c11 : x1_1.length < 17592186044416
       ·rw [if_pos c11] at H
        have LMc11 := Aside0.mk c11
        clear c11
        obtain ⟨y242, hy242⟩ : ∃ y_ : List Int, y_ = (x1_1 ++ [7]) := ⟨_, rfl⟩
        replace H : (impl_fixedLengths.l0 k1 y242 (wrap64 (x4_1 + 1))) = some r := by first | (rw [hy242]; with_reducible exact H) | (have H2_ := (Option.bind_some _ _).symm.trans H; rw [hy242]; with_reducible exact H2_) | (have H2_ := (Option.bind_some _ _).symm.trans H; with_reducible exact H2_) | with_reducible exact H | (rw [hy242]; exact H) | exact H
        have Ny242 := Aside0.mk hy242
        clear hy242
        have H' := Aside0.mk H
        clear H
        go_wp2_with (first | ((with_reducible refine gate_builtin (b := .append) (xs := #[.tmp 25, .tmp 26]) rfl ?_); at_builtin; refine Kd.R_append (Kd.int .i64) (w0 := w) w.heap.size rfl (.tmp 25) (.tmp 26) 33 3 (.int .i64 0) 8 rfl Try.underlying33 info3 rfl (by decide) (by omega) u1 x1_1 7 [.int .i64 7] (fun _ => True) (fun _ => False) rfl rfl ?aP (fun _ hk => hk.elim) ?aF ?aO ?aB ?aS ?aL ?_; (case aP => exact rfl); (case aB => exact bel_); (case aF => exact (fun _ _ => trivial)); (case aO => exact (kdR_ HO_1.out)); (case aS => exact (below_size bel_)); (case aL => have := LMc11.out; omega); intro v243 w12 ho hb hg hat; rw [← Ny242.out] at ho; have n0_ := Aside0.mk (hb); have n1_ := Aside0.mk (ho); clear HB; clear HO_1; have HB := n0_; have HO244 := n1_; clear n0_ n1_; clear ho hb hg hat))
        go_roundg k1
        case measure => have := HK1.out; omega
        case rel => exact ⟨(y242), (wrap64 (x4_1 + 1)), sv_, H', ⟨by have := HK1.out; omega⟩, ⟨by (with_reducible repeat (first | apply Kd.R_alloc | apply Kd.R_drewN | apply Kd.R_drew)); exact HO244.out⟩, ⟨bel_⟩⟩
       ·rw [if_neg c11] at H
        exact absurd H (by simp)
      ·rw [if_neg c10] at H
       have c10b0 : decide (x4_1 < 280) = false := decide_eq_false c10
       clear c10
       by_cases c13 : x1_1.length < 17592186044416
       ·rw [if_pos c13] at H
        have LMc13 := Aside0.mk c13
        clear c13
        obtain ⟨y245, hy245⟩ : ∃ y_ : List Int, y_ = (x1_1 ++ [8]) := ⟨_, rfl⟩
        replace H : (impl_fixedLengths.l0 k1 y245 (wrap64 (x4_1 + 1))) = some r := by first | (rw [hy245]; with_reducible exact H) | (have H2_ := (Option.bind_some _ _).symm.trans H; rw [hy245]; with_reducible exact H2_) | (have H2_ := (Option.bind_some _ _).symm.trans H; with_reducible exact H2_) | with_reducible exact H | (rw [hy245]; exact H) | exact H
        have Ny245 := Aside0.mk hy245
        clear hy245
        have H' := Aside0.mk H
        clear H
        go_wp2_with (first | ((with_reducible refine gate_builtin (b := .append) (xs := #[.tmp 7, .tmp 8]) rfl ?_); at_builtin; refine Kd.R_append (Kd.int .i64) (w0 := w) w.heap.size rfl (.tmp 7) (.tmp 8) 33 3 (.int .i64 0) 8 rfl Try.underlying33 info3 rfl (by decide) (by omega) u1 x1_1 8 [.int .i64 8] (fun _ => True) (fun _ => False) rfl rfl ?aP (fun _ hk => hk.elim) ?aF ?aO ?aB ?aS ?aL ?_; (case aP => exact rfl); (case aB => exact bel_); (case aF => exact (fun _ _ => trivial)); (case aO => exact (kdR_ HO_1.out)); (case aS => exact (below_size bel_)); (case aL => have := LMc13.out; omega); intro v246 w14 ho hb hg hat; rw [← Ny245.out] at ho; have n0_ := Aside0.mk (hb); have n1_ := Aside0.mk (ho); clear HB; clear HO_1; have HB := n0_; have HO247 := n1_; clear n0_ n1_; clear ho hb hg hat))
        go_roundg k1
        case measure => have := HK1.out; omega
        case rel => exact ⟨(y245), (wrap64 (x4_1 + 1)), sv_, H', ⟨by have := HK1.out; omega⟩, ⟨by (with_reducible repeat (first | apply Kd.R_alloc | apply Kd.R_drewN | apply Kd.R_drew)); exact HO247.out⟩, ⟨bel_⟩⟩
       ·rw [if_neg c13] at H
        exact absurd H (by simp)
   ·rw [if_neg c3] at H
    have c3b0 : decide (x4_1 < 288) = false := decide_eq_false c3
    clear c3
    obtain rfl := Option.some.inj H
    go_wp2
    go_ret
    exact ⟨_, er_, by (with_reducible repeat (first | apply Kd.R_alloc | apply Kd.R_drewN | apply Kd.R_drew)); exact HO_1.out, bel_⟩

/-! ### impl_codesBy: function 21 -/
mutual
def impl_codesBy.l0 : Nat → List Int → List Int → Int → Int → Int → Option (List Int × Int)
 | 0, _, _, _, _, _ => none
 | k + 1, x0, x4, x5, x6, x7 => if x7 ≤ 15 then (impl_codesBy.l1 k x0 x4 x5 (wrap64 (x6 * 2)) x7 x0 (x0.length : Int) 0) else (some (x4, x5))
def impl_codesBy.l1 : Nat → List Int → List Int → Int → Int → Int → List Int → Int → Int → Option (List Int × Int)
 | 0, _, _, _, _, _, _, _, _ => none
 | k + 1, x0, x4, x5, x6, x7, x19, x20, x21 => if x21 < x20 then (if 0 ≤ x21 then (if x21 < (x19.length : Int) then (if (rd x19 x21) = x7 then (if x21 < (x4.length : Int) then (if 0 ≤ (wrap64 (15 - x7)) then (impl_codesBy.l1 k x0 (x4.set (x21 : Int).toNat x6) (wrap64 (x5 + (shl .i64 1 (wrap64 (15 - x7))))) (wrap64 (x6 + 1)) x7 x19 x20 (wrap64 (x21 + 1))) else (none)) else (none)) else (impl_codesBy.l1 k x0 x4 x5 x6 x7 x19 x20 (wrap64 (x21 + 1)))) else (none)) else (none)) else (impl_codesBy.l0 k x0 x4 x5 x6 (wrap64 (x7 + 1)))
end
def impl_codesBy.f (k : Nat) (l0 : List Int) : Option (List Int × Int) := if 0 ≤ (l0.length : Int) then (if ((l0.length : Int) : Int).toNat ≤ 35184372088832 then (impl_codesBy.l0 k l0 (List.replicate ((l0.length : Int) : Int).toNat 0) 0 0 1) else (none)) else (none)
set_option maxHeartbeats 8000000 in
set_option maxRecDepth 100000 in
theorem impl_codesBy.calls (k : Nat) (A0 : Option Addr) (c0 : Nat) (l0 : List Int) (r1 : List Int) (r2 : Int) (w : World) (hr0 : Kd.C (Kd.int .i64) w A0 l0.length l0) (hc0 : l0.length ≤ c0) (h : impl_codesBy.f k l0 = some (r1, r2)) :
  Calls Try.prog 21 #[.slice A0 l0.length c0] w fun e w' => ∃ v0_ : Value, e = .returned (.tuple #[v0_, .int .i64 r2]) ∧ Kd.R (Kd.int .i64) 3 w' w.heap.size (fun _ => True) v0_ r1 ∧ Below w.heap.size w w' := by
 have HR0 := Aside0.mk hr0
 have HC0 := Aside0.mk hc0
 clear hr0 hc0
 have HB := Aside0.mk (Below.refl w.heap.size w)
 have H : (if 0 ≤ (l0.length : Int) then (if ((l0.length : Int) : Int).toNat ≤ 35184372088832 then (impl_codesBy.l0 k l0 (List.replicate ((l0.length : Int) : Int).toNat 0) 0 0 1) else (none)) else (none)) = some (r1, r2) := h
 clear h
 by_cases c2 : 0 ≤ (l0.length : Int)
 ·rw [if_pos c2] at H
  have c2b0 := eq_true c2
  have c2b1 : decide (0 ≤ (l0.length : Int)) = true := decide_eq_true c2
  clear c2
  by_cases c3 : ((l0.length : Int) : Int).toNat ≤ 35184372088832
  ·rw [if_pos c3] at H
   have c3b0 := eq_true c3
   have c3b1 : decide (((l0.length : Int) : Int).toNat ≤ 35184372088832) = true := decide_eq_true c3
   clear c3
   obtain ⟨y248, hy248⟩ : ∃ y_ : List Int, y_ = (List.replicate ((l0.length : Int) : Int).toNat 0) := ⟨_, rfl⟩
   replace H : (impl_codesBy.l0 k l0 y248 0 0 1) = some (r1, r2) := by first | (rw [hy248]; with_reducible exact H) | (have H2_ := (Option.bind_some _ _).symm.trans H; rw [hy248]; with_reducible exact H2_) | (have H2_ := (Option.bind_some _ _).symm.trans H; with_reducible exact H2_) | with_reducible exact H | (rw [hy248]; exact H) | exact H
   have Ny248 := Aside0.mk hy248
   clear hy248
   have H' := Aside0.mk H
   clear H
   go_enter Try.func21, Try.ntmps21
   go_wp2_with (first | ((with_reducible refine gate_dst (N := 12) rfl ?_); refine Kd.R_make (Kd.int .i64) _ 3 rfl (N := 12) rfl 33 _ _ rfl (l0.length : Int) rfl rfl Try.underlying33 (.int .i64 0) 8 info3 rfl (by decide) (by omega) 0 (ok := fun _ => True) (okp := fun _ => True) rfl (fun _ hk => hk) trivial (of_decide_eq_true am_) (Nat.le_trans (Nat.mul_le_mul_right _ (of_decide_eq_true am_ : (l0.length : Int).toNat ≤ 35184372088832)) (by omega)) (Below.refl _ _) (Nat.le_refl _) ?_; intro v249 w4 ho5 hb hg_ hnew_; clear hg_ hnew_; (first | rw [← Ny248.out] at ho5 | (simp only [Int.reduceToNat] at ho5; rw [← Ny248.out] at ho5)); have n0_ := Aside0.mk (Kd.R_lower ho5 (below_size bel_)); have n1_ := Aside0.mk (below_step bel_ hb); clear HB; have HO250 := n0_; have HB := n1_; clear n0_ n1_; clear hb ho5))
   go_loopg [5, 6, 7] k (fun kq v5 v6 v7 w' => ∃ (x4_1 : List Int) (x5_1 : Int) (x6_1 : Int) (x7_1 : Int), v5 = .int .i64 x5_1 ∧ v6 = .int .i64 x6_1 ∧ v7 = .int .i64 x7_1 ∧ Aside0 (impl_codesBy.l0 kq l0 x4_1 x5_1 x6_1 x7_1 = some (r1, r2)) ∧ Aside0 (kq ≤ k) ∧ Aside0 (Kd.R (Kd.int .i64) 3 w' w.heap.size (fun _ => True) v249 x4_1) ∧ Aside0 (Below w.heap.size w w'))
   case atStart => exact ⟨(y248), (0), (0), (1), sv_, sv_, sv_, H', ⟨Nat.le_refl _⟩, ⟨by (with_reducible repeat (first | apply Kd.R_alloc | apply Kd.R_drewN | apply Kd.R_drew)); exact HO250.out⟩, ⟨bel_⟩⟩
   case round =>
    clear H'
    (try clear c2);(try clear c2b0 c2b1);(try clear p2);(try clear c3);(try clear c3b0 c3b1)
    obtain ⟨x4_1, x5_1, x6_1, x7_1, rfl, rfl, rfl, HA, HK1, HO_4, HB⟩ := hrel
    cases gk with
    | zero => exact absurd HA.out (by simp [impl_codesBy.l0])
    | succ k1 =>
     have H := HA.out
     clear HA
     simp only [impl_codesBy.l0] at H
     by_cases c6 : x7_1 ≤ 15
     ·rw [if_pos c6] at H
      have c6b0 : decide (x7_1 ≤ 15) = true := decide_eq_true c6
      clear c6
      have H' := Aside0.mk H
      clear H
      go_wp2
      go_loopg [5, 6, 21] k1 (fun kq v5 v6 v21 w' => ∃ (x4_2 : List Int) (x5_2 : Int) (x6_2 : Int) (x21_2 : Int), v5 = .int .i64 x5_2 ∧ v6 = .int .i64 x6_2 ∧ v21 = .int .i64 x21_2 ∧ Aside0 (impl_codesBy.l1 kq l0 x4_2 x5_2 x6_2 x7_1 l0 (l0.length : Int) x21_2 = some (r1, r2)) ∧ Aside0 (kq ≤ k1) ∧ Aside0 (Kd.R (Kd.int .i64) 3 w' w.heap.size (fun _ => True) v249 x4_2) ∧ Aside0 (Below w.heap.size w w'))
      case atStart => exact ⟨(x4_1), (x5_1), (wrap64 (x6_1 * 2)), (0), sv_, sv_, sv_, H', ⟨Nat.le_refl _⟩, ⟨by (with_reducible repeat (first | apply Kd.R_alloc | apply Kd.R_drewN | apply Kd.R_drew)); exact HO_4.out⟩, ⟨bel_⟩⟩
      case round =>
       clear H'
       (try clear c2);(try clear c2b0 c2b1);(try clear p2);(try clear c3);(try clear c3b0 c3b1);(try clear c6);(try clear c6b0);(try clear p6);(try clear p2)
       obtain ⟨x4_2, x5_2, x6_2, x21_2, rfl, rfl, rfl, HA, HK2, HO_4, HB⟩ := hrel
       cases gk with
       | zero => exact absurd HA.out (by simp [impl_codesBy.l1])
       | succ k2 =>
        have H := HA.out
        clear HA
        simp only [impl_codesBy.l1] at H
        by_cases c7 : x21_2 < (l0.length : Int)
        ·rw [if_pos c7] at H
         have c7b0 : decide (x21_2 < (l0.length : Int)) = true := decide_eq_true c7
         clear c7
         by_cases c8 : 0 ≤ x21_2
         ·rw [if_pos c8] at H
          have c8b0 : decide (0 ≤ x21_2) = true := decide_eq_true c8
          clear c8
          by_cases c9 : x21_2 < (l0.length : Int)
          ·rw [if_pos c9] at H
           have c9b0 : decide (x21_2 < (l0.length : Int)) = true := decide_eq_true c9
           clear c9
           by_cases c10 : (rd l0 x21_2) = x7_1
           ·rw [if_pos c10] at H
            have c10b0 : ((rd l0 x21_2) == x7_1) = true := beq_iff_eq.mpr c10
            have c10b1 : ((rd l0 x21_2) != x7_1) = false := bne_eq_false_iff_eq.mpr c10
            clear c10
            by_cases c11 : x21_2 < (x4_2.length : Int)
            ·rw [if_pos c11] at H
             have c11b0 : decide (x21_2 < (x4_2.length : Int)) = true := decide_eq_true c11
             clear c11
             obtain ⟨y252, hy252⟩ : ∃ y_ : List Int, y_ = (x4_2.set (x21_2 : Int).toNat x6_2) := ⟨_, rfl⟩
             replace H : (if 0 ≤ (wrap64 (15 - x7_1)) then (impl_codesBy.l1 k2 l0 y252 (wrap64 (x5_2 + (shl .i64 1 (wrap64 (15 - x7_1))))) (wrap64 (x6_2 + 1)) x7_1 l0 (l0.length : Int) (wrap64 (x21_2 + 1))) else (none)) = some (r1, r2) := by first | (rw [hy252]; with_reducible exact H) | (have H2_ := (Option.bind_some _ _).symm.trans H; rw [hy252]; with_reducible exact H2_) | (have H2_ := (Option.bind_some _ _).symm.trans H; with_reducible exact H2_) | with_reducible exact H | (rw [hy252]; exact H) | exact H
             have Ny252 := Aside0.mk hy252
             clear hy252
             obtain ⟨ji13, hji13⟩ : ∃ j_ : Int, (wrap64 (15 - x7_1)) = j_ := ⟨_, rfl⟩
             replace H : (if 0 ≤ (ji13) then (impl_codesBy.l1 k2 l0 y252 (wrap64 (x5_2 + (shl .i64 1 (ji13)))) (wrap64 (x6_2 + 1)) x7_1 l0 (l0.length : Int) (wrap64 (x21_2 + 1))) else (none)) = some (r1, r2) := by first | (rw [hji13] at H; exact H) | (simp only [hji13] at H ⊢; exact H)
             have hji13w : (IntKind.i64.wrap (15 - x7_1)) = ji13 := (i64_w _).trans hji13
             by_cases c14 : 0 ≤ (ji13)
             ·rw [if_pos c14] at H
              have c14b0 := eq_true c14
              have c14b1 : decide (0 ≤ (ji13)) = true := decide_eq_true c14
              clear c14
              obtain ⟨ji15, hji15⟩ : ∃ j_ : Int, (shl .i64 1 (ji13)) = j_ := ⟨_, rfl⟩
              replace H : (impl_codesBy.l1 k2 l0 y252 (wrap64 (x5_2 + (ji15))) (wrap64 (x6_2 + 1)) x7_1 l0 (l0.length : Int) (wrap64 (x21_2 + 1))) = some (r1, r2) := by first | (rw [hji15] at H; exact H) | (simp only [hji15] at H ⊢; exact H)
              have hji15_ : (IntKind.i64.wrap (1 * 2 ^ min (ji13).toNat 64)) = ji15 := hji15
              have hji15z : (ji13) ≤ 64 → (IntKind.i64.wrap (1 * 2 ^ (ji13).toNat)) = ji15 := shl_small hji15
              have hji15u : (IntKind.i64.wrap (2 ^ min (ji13).toNat 64)) = ji15 := by have h_ := hji15_; rw [Int.one_mul] at h_; exact h_
              have hji15v : (ji13) ≤ 64 → (IntKind.i64.wrap (2 ^ (ji13).toNat)) = ji15 := fun hle_ => by have h_ := hji15z hle_; rw [Int.one_mul] at h_; exact h_
              have hji15y : (wrap64 (1 * 2 ^ min (ji13).toNat 64)) = ji15 := (i64_w _).symm.trans hji15_
              have hji15x : (ji13) ≤ 64 → (wrap64 (1 * 2 ^ (ji13).toNat)) = ji15 := fun h_ => (i64_w _).symm.trans (hji15z h_)
              have H' := Aside0.mk H
              clear H
              have p251 : 0 ≤ (x21_2 : Int) := of_decide_eq_true am_
              have q251 : x21_2 < (l0.length : Int) := of_decide_eq_true am_
              obtain ⟨ad251, e251, hx251_0⟩ := Kd.at_int HR0.out x21_2 p251 q251
              cases e251
              replace hx251_0 := pw_cell_below HB.out hx251_0
              replace p251 := eq_true p251
              replace q251 := eq_true q251
              have p12 : 0 ≤ (x21_2 : Int) := of_decide_eq_true am_
              have q12 : (x21_2 : Int) < ((x4_2.length : Int) : Int) := of_decide_eq_true am_
              obtain ⟨go12, co12, eo12, gb12, gl12, cl12, HG12⟩ := Kd.R_form HO_4.out (by omega)
              (first | cases eo12 | (injection eo12 with ea_ en_ ec_; (first | subst ea_ | (injection ea_ with ea_; subst ea_)); subst ec_; clear en_))
              have GB12 := Aside0.mk gb12
              have GG12 := Aside0.mk HG12
              clear gb12 gl12 HG12
              obtain ⟨hx12_0, hf12_0⟩ := Kd.R_celln 0 HO_4.out (x21_2 : Int) p12 q12
              replace p12 := eq_true p12
              replace q12 := eq_true q12
              have HP16 := Kd.R_putg HO_4.out (x21_2 : Int) x6_2
              go_wp2_with (first | ((with_reducible refine gate_store (t := 3) (p := 32) rfl ?_); refine store_event (t := 3) (p := 32) (v := ?vo_w17) (w1 := (wr.setCell ⟨go12, (x21_2 : Int).toNat, none⟩ (.int .i64 x6_2))) ?hg ?ho ?hn ?hr ?_; (case ho => rfl); (case hg => rfl); (case hn => rfl); (case hr => first | (go_simp; done) | (go_simp; rfl)); intro w17 hw; have hg : wr.grownBy w17 (some go12) := (by rw [hw]; exact HP16.2); have hp_ : Kd.R (Kd.int .i64) 3 w17 w.heap.size (fun _ => True) (.slice (some ⟨go12, 0, none⟩) x4_2.length co12) y252 := (by rw [hw, Ny252.out]; exact HP16.1); clear HP16; have n0_ := Aside0.mk (hp_); have n1_ := Aside0.mk ((by rw [hw]; exact below_set (HB.out) GB12.out : Below w.heap.size w w17)); clear HO_4; clear HB; have HO_4 := n0_; have HB := n1_; clear n0_ n1_; clear hg hw hp_))
              go_roundg k2
              case measure => have := HK1.out; have := HK2.out; omega
              case rel => exact ⟨(y252), (wrap64 (x5_2 + (ji15))), (wrap64 (x6_2 + 1)), (wrap64 (x21_2 + 1)), (by first | rfl | (simp; done) | (simp only [← hji15] <;> (first | rfl | simp)) | (simp [*]; done)), sv_, sv_, H', ⟨by have := HK1.out; have := HK2.out; omega⟩, ⟨by (with_reducible repeat (first | apply Kd.R_alloc | apply Kd.R_drewN | apply Kd.R_drew)); exact HO_4.out⟩, ⟨bel_⟩⟩
             ·rw [if_neg c14] at H
              exact absurd H (by simp)
            ·rw [if_neg c11] at H
             exact absurd H (by simp)
           ·rw [if_neg c10] at H
            have c10b0 : ((rd l0 x21_2) == x7_1) = false := beq_eq_false_iff_ne.mpr c10
            have c10b1 : ((rd l0 x21_2) != x7_1) = true := bne_iff_ne.mpr c10
            have H' := Aside0.mk H
            clear H
            have p251 : 0 ≤ (x21_2 : Int) := of_decide_eq_true am_
            have q251 : x21_2 < (l0.length : Int) := of_decide_eq_true am_
            obtain ⟨ad251, e251, hx251_0⟩ := Kd.at_int HR0.out x21_2 p251 q251
            cases e251
            replace hx251_0 := pw_cell_below HB.out hx251_0
            replace p251 := eq_true p251
            replace q251 := eq_true q251
            go_wp2
            go_roundg k2
            case measure => have := HK1.out; have := HK2.out; omega
            case rel => exact ⟨(x4_2), (x5_2), (x6_2), (wrap64 (x21_2 + 1)), sv_, sv_, sv_, H', ⟨by have := HK1.out; have := HK2.out; omega⟩, ⟨by (with_reducible repeat (first | apply Kd.R_alloc | apply Kd.R_drewN | apply Kd.R_drew)); exact HO_4.out⟩, ⟨bel_⟩⟩
          ·rw [if_neg c9] at H
           exact absurd H (by simp)
         ·rw [if_neg c8] at H
          exact absurd H (by simp)
        ·rw [if_neg c7] at H
         have c7b0 : decide (x21_2 < (l0.length : Int)) = false := decide_eq_false c7
         clear c7
         have H' := Aside0.mk H
         clear H
         go_wp2
         go_roundg k2
         case measure => have := HK1.out; have := HK2.out; omega
         case rel => exact ⟨(x4_2), (x5_2), (x6_2), (wrap64 (x7_1 + 1)), sv_, sv_, sv_, H', ⟨by have := HK1.out; have := HK2.out; omega⟩, ⟨by (with_reducible repeat (first | apply Kd.R_alloc | apply Kd.R_drewN | apply Kd.R_drew)); exact HO_4.out⟩, ⟨bel_⟩⟩
     ·rw [if_neg c6] at H
      have c6b0 : decide (x7_1 ≤ 15) = false := decide_eq_false c6
      clear c6
      simp only [Option.some.injEq, Prod.mk.injEq] at H
      obtain ⟨rfl, rfl⟩ := H
      go_wp2
      go_ret2
      exact ⟨_, er_, by (with_reducible repeat (first | apply Kd.R_alloc | apply Kd.R_drewN | apply Kd.R_drew)); exact HO_4.out, bel_⟩
  ·rw [if_neg c3] at H
   exact absurd H (by simp)
 ·rw [if_neg c2] at H
  exact absurd H (by simp)

end Go.Proofs.Ytfogfjmkngoegaa.PFnExactEncodePng
