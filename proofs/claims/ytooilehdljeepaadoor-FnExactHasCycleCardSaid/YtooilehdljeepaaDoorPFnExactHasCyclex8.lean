-- Laid by a program of this session out of the translation (its own run of the print). Lean checks it.
import Derived.Test.YtooilehdljeepaaDoorPFnExactHasCyclex0
import Derived.Test.YtooilehdljeepaaDoorPFnExactHasCyclex7
namespace Go.Proofs.YtooilehdljeepaaDoor.PFnExactHasCycle
open Go.RowKit Go.Proofs.YtooilehdljeepaaDoorW.PrintWords Go.Proofs.YtooilehdljeepaaDoorW.PrintLast Go.Proofs.YtooilehdljeepaaDoorW.PrintMore
attribute [local go_sem] max2_int min2_int max_two min_two max_three min_three max_four min_four   -- for this text's walks alone
set_option linter.unusedVariables false
set_option linter.unusedSimpArgs false

/-! ### spec_l8Uses: function 49 -/
mutual
def spec_l8Uses.l0 : Nat → List (S69) → Int → List Bool → Int → Option (List Int)
 | 0, _, _, _, _ => none
 | k + 1, x0, x1, x5, x6 => if x6 < (x0.length : Int) then (if 0 ≤ x6 then (if ((rd_T69 x0 x6).f0).toList = ([117, 115, 101] : List UInt8) then ((spec_l8Below.f k x0 x6 x1).bind fun t198 => (spec_l8Uses.j1 k x0 x1 x5 x6 (!t198))) else (spec_l8Uses.j1 k x0 x1 x5 x6 true)) else (none)) else (spec_l8Uses.l1 k ([] : List Int) x5 (x5.length : Int) 0)
def spec_l8Uses.j1 : Nat → List (S69) → Int → List Bool → Int → Bool → Option (List Int)
 | 0, _, _, _, _, _ => none
 | k + 1, x0, x1, x5, x6, x33 => if x33 = true then (spec_l8Uses.l0 k x0 x1 x5 (wrap64 (x6 + 1))) else (if 0 ≤ x6 then (if x6 < (x0.length : Int) then ((spec_HrefOf.f k ((rd_T69 x0 x6).f0) ((rd_T69 x0 x6).f1) ((rd_T69 x0 x6).f2) ((rd_T69 x0 x6).f3)).bind fun t200 => ((spec_l8Node.f k x0 t200).bind fun t201 => (if t201 ≥ 0 then (if 0 ≤ t201 then (if t201 < (x5.length : Int) then (spec_l8Uses.l0 k x0 x1 (x5.set (t201 : Int).toNat true) (wrap64 (x6 + 1))) else (none)) else (none)) else (spec_l8Uses.l0 k x0 x1 x5 (wrap64 (x6 + 1)))))) else (none)) else (none))
def spec_l8Uses.l1 : Nat → List Int → List Bool → Int → Int → Option (List Int)
 | 0, _, _, _, _ => none
 | k + 1, x8, x46, x47, x48 => if x48 < x47 then (if 0 ≤ x48 then (if x48 < (x46.length : Int) then (if rdOf false x46 x48 = true then (if x8.length < 17592186044416 then (spec_l8Uses.l1 k (x8 ++ [x48]) x46 x47 (wrap64 (x48 + 1))) else (none)) else (spec_l8Uses.l1 k x8 x46 x47 (wrap64 (x48 + 1)))) else (none)) else (none)) else (some x8)
end
def spec_l8Uses.f (k : Nat) (l0 : List (S69)) (a1 : Int) : Option (List Int) := if 0 ≤ (l0.length : Int) then (if ((l0.length : Int) : Int).toNat ≤ 281474976710656 then (spec_l8Uses.l0 k l0 a1 (List.replicate ((l0.length : Int) : Int).toNat false) a1) else (none)) else (none)
set_option maxHeartbeats 8000000 in
set_option maxRecDepth 100000 in
theorem spec_l8Uses.calls (k : Nat) (A0 : Option Addr) (c0 : Nat) (l0 : List (S69)) (a1 : Int) (r : List Int) (w : World) (hr0 : Kd.C k69 w A0 l0.length l0) (hc0 : l0.length ≤ c0) (h : spec_l8Uses.f k l0 a1 = some r) :
  Calls Tryd.prog 49 #[.slice A0 l0.length c0, .int .i64 a1] w fun e w' => ∃ v0_ : Value, e = .returned (v0_) ∧ Kd.R (Kd.int .i64) 3 w' w.heap.size (fun _ => True) v0_ r ∧ Below w.heap.size w w' := by
 have hu69 := Tryd.underlying69
 have HR0 := Aside0.mk hr0
 have HC0 := Aside0.mk hc0
 clear hr0 hc0
 have HB := Aside0.mk (Below.refl w.heap.size w)
 have H : (if 0 ≤ (l0.length : Int) then (if ((l0.length : Int) : Int).toNat ≤ 281474976710656 then (spec_l8Uses.l0 k l0 a1 (List.replicate ((l0.length : Int) : Int).toNat false) a1) else (none)) else (none)) = some r := h
 clear h
 by_cases c3 : 0 ≤ (l0.length : Int)
 ·rw [if_pos c3] at H
  have c3b0 := eq_true c3
  have c3b1 : decide (0 ≤ (l0.length : Int)) = true := decide_eq_true c3
  clear c3
  by_cases c4 : ((l0.length : Int) : Int).toNat ≤ 281474976710656
  ·rw [if_pos c4] at H
   have c4b0 := eq_true c4
   have c4b1 : decide (((l0.length : Int) : Int).toNat ≤ 281474976710656) = true := decide_eq_true c4
   clear c4
   obtain ⟨y194, hy194⟩ : ∃ y_ : List Bool, y_ = (List.replicate ((l0.length : Int) : Int).toNat false) := ⟨_, rfl⟩
   replace H : (spec_l8Uses.l0 k l0 a1 y194 a1) = some r := by first | (rw [hy194]; with_reducible exact H) | (have H2_ := (Option.bind_some _ _).symm.trans H; rw [hy194]; with_reducible exact H2_) | (have H2_ := (Option.bind_some _ _).symm.trans H; with_reducible exact H2_) | with_reducible exact H | (rw [hy194]; exact H) | exact H
   have Ny194 := Aside0.mk hy194
   clear hy194
   have H' := Aside0.mk H
   clear H
   go_enter Tryd.func49, Tryd.ntmps49
   go_wp2_with (first | ((with_reducible refine gate_dst (N := 13) rfl ?_); refine Kd.R_make Kd.bool _ 4 rfl (N := 13) rfl 76 _ _ rfl (l0.length : Int) rfl rfl Tryd.underlying76 (.bool false) 1 info4 rfl (by decide) (by omega) false (ok := fun _ => True) (okp := fun _ => True) rfl (fun _ hk => hk) trivial (of_decide_eq_true am_) (Nat.le_trans (Nat.mul_le_mul_right _ (of_decide_eq_true am_ : (l0.length : Int).toNat ≤ 281474976710656)) (by omega)) (Below.refl _ _) (Nat.le_refl _) ?_; intro v195 w5 ho6 hb hg_ hnew_; clear hg_ hnew_; (first | rw [← Ny194.out] at ho6 | (simp only [Int.reduceToNat] at ho6; rw [← Ny194.out] at ho6)); have n0_ := Aside0.mk (Kd.R_lower ho6 (below_size bel_)); have n1_ := Aside0.mk (below_step bel_ hb); clear HB; have HO196 := n0_; have HB := n1_; clear n0_ n1_; clear hb ho6))
   go_loopg [6] k (fun kq v6 w' => ∃ (x5_1 : List Bool) (x6_1 : Int), v6 = .int .i64 x6_1 ∧ Aside0 (spec_l8Uses.l0 kq l0 a1 x5_1 x6_1 = some r) ∧ Aside0 (kq ≤ k) ∧ Aside0 (Kd.R Kd.bool 4 w' w.heap.size (fun _ => True) v195 x5_1) ∧ Aside0 (Below w.heap.size w w'))
   case atStart => exact ⟨(y194), (a1), sv_, H', ⟨Nat.le_refl _⟩, ⟨by (with_reducible repeat (first | apply Kd.R_alloc | apply Kd.R_drewN | apply Kd.R_drew)); exact HO196.out⟩, ⟨bel_⟩⟩
   case round =>
    clear H'
    (try clear p2);(try clear c3);(try clear c3b0 c3b1);(try clear c4);(try clear c4b0 c4b1)
    obtain ⟨x5_1, x6_1, rfl, HA, HK1, HO_5, HB⟩ := hrel
    cases gk with
    | zero => exact absurd HA.out (by simp [spec_l8Uses.l0])
    | succ k1 =>
     have H := HA.out
     clear HA
     simp only [spec_l8Uses.l0] at H
     by_cases c7 : x6_1 < (l0.length : Int)
     ·rw [if_pos c7] at H
      have c7b0 : decide (x6_1 < (l0.length : Int)) = true := decide_eq_true c7
      clear c7
      have HC8 := Aside0.mk H
      clear H
      go_upto_region 5 with (fail)
      go_cut [33] (fun v33 wc => ∃ (kq : Nat) (x33_7 : Bool), v33 = .bool x33_7 ∧ Aside0 (spec_l8Uses.j1 kq l0 a1 x5_1 x6_1 x33_7 = some r) ∧ Aside0 (kq ≤ k1) ∧ Aside0 (Kd.R Kd.bool 4 wc w.heap.size (fun _ => True) v195 x5_1) ∧ Aside0 (Below w.heap.size w wc))
      case first =>
       have H := HC8.out
       clear HC8
       by_cases c9 : 0 ≤ x6_1
       ·rw [if_pos c9] at H
        have c9b0 : decide (0 ≤ x6_1) = true := decide_eq_true c9
        clear c9
        (first | rw [c9b0] | (simp only [i64_w, i32_w]; rw [c9b0]) | skip)
        by_cases c10 : ((rd_T69 l0 x6_1).f0).toList = ([117, 115, 101] : List UInt8)
        ·rw [if_pos c10] at H
         have c10b0 : (((rd_T69 l0 x6_1).f0).toList == ([117, 115, 101] : List UInt8)) = true := beq_iff_eq.mpr c10
         have c10b1 : (((rd_T69 l0 x6_1).f0).toList != ([117, 115, 101] : List UInt8)) = false := bne_eq_false_iff_eq.mpr c10
         clear c10
         replace H := Option.bind_eq_some_iff.mp H
         obtain ⟨t198, A110, H⟩ := H
         replace H : (spec_l8Uses.j1 k1 l0 a1 x5_1 x6_1 (!t198)) = some r := H
         have A11 := Aside0.mk A110
         clear A110
         have H' := Aside0.mk H
         clear H
         have p197 : 0 ≤ (x6_1 : Int) := of_decide_eq_true am_
         have q197 : x6_1 < (l0.length : Int) := of_decide_eq_true am_
         obtain ⟨ad197, A197_2, c197_2, e197, hx197_0, hx197_1, hx197_2, hx197_3, hl197_2, hi197_2⟩ := at_T69 HR0.out x6_1 p197 q197
         cases e197
         replace hx197_0 := pw_cell_below HB.out hx197_0
         replace hx197_1 := pw_cell_below HB.out hx197_1
         replace hx197_2 := pw_cell_below HB.out hx197_2
         replace hx197_3 := pw_cell_below HB.out hx197_3
         have HR197_2 := Aside0.mk hi197_2
         have HC197_2 := Aside0.mk hl197_2
         clear hi197_2 hl197_2
         replace p197 := eq_true p197
         replace q197 := eq_true q197
         go_wp2_with (first | (go_at_call 93; (with_reducible refine (spec_l8Below.calls k1 _ _ l0 x6_1 a1 t198 _ ?side1 ?side2 A11.out).mono ?_); (case side1 => exact cs_ (Kd.C_below HR0.out HB.out)); (case side2 => exact HC0.out); rintro e w' ⟨rfl, ⟨nd, rfl⟩⟩))
         go_meet
         case rel => exact ⟨_, (!t198), sv_, H', ⟨by have := HK1.out; first | omega | exact Nat.le_refl _⟩, ⟨by (with_reducible repeat (first | apply Kd.R_alloc | apply Kd.R_drewN | apply Kd.R_drew)); exact HO_5.out⟩, ⟨bel_⟩⟩
        ·rw [if_neg c10] at H
         have c10b0 : (((rd_T69 l0 x6_1).f0).toList == ([117, 115, 101] : List UInt8)) = false := beq_eq_false_iff_ne.mpr c10
         have c10b1 : (((rd_T69 l0 x6_1).f0).toList != ([117, 115, 101] : List UInt8)) = true := bne_iff_ne.mpr c10
         have H' := Aside0.mk H
         clear H
         have p197 : 0 ≤ (x6_1 : Int) := of_decide_eq_true am_
         have q197 : x6_1 < (l0.length : Int) := of_decide_eq_true am_
         obtain ⟨ad197, A197_2, c197_2, e197, hx197_0, hx197_1, hx197_2, hx197_3, hl197_2, hi197_2⟩ := at_T69 HR0.out x6_1 p197 q197
         cases e197
         replace hx197_0 := pw_cell_below HB.out hx197_0
         replace hx197_1 := pw_cell_below HB.out hx197_1
         replace hx197_2 := pw_cell_below HB.out hx197_2
         replace hx197_3 := pw_cell_below HB.out hx197_3
         have HR197_2 := Aside0.mk hi197_2
         have HC197_2 := Aside0.mk hl197_2
         clear hi197_2 hl197_2
         replace p197 := eq_true p197
         replace q197 := eq_true q197
         go_wp2
         go_meet
         case rel => exact ⟨_, (true), sv_, H', ⟨by have := HK1.out; first | omega | exact Nat.le_refl _⟩, ⟨by (with_reducible repeat (first | apply Kd.R_alloc | apply Kd.R_drewN | apply Kd.R_drew)); exact HO_5.out⟩, ⟨bel_⟩⟩
       ·rw [if_neg c9] at H
        exact absurd H (by simp)
      case rest =>
       clear HC8
       (try clear c1);(try clear p1);(try clear q1);(try clear hx1);(try clear p2);(try clear c3);(try clear c3b0 c3b1);(try clear c4);(try clear c4b0 c4b1);(try clear c7);(try clear c7b0);(try clear c9);(try clear c9b0);(try clear c10);(try clear c10b0 c10b1);(try clear hx197_0);(try clear hx197_1);(try clear hx197_2);(try clear hx197_3);(try clear p197);(try clear p2);(try clear q197)
       obtain ⟨kq, x33_7, rfl, HA, HJ7, HO_5, HB⟩ := hcut
       cases kq with
       | zero => exact absurd HA.out (by simp [spec_l8Uses.j1])
       | succ kj7 =>
        have H := HA.out
        clear HA
        simp only [spec_l8Uses.j1] at H
        by_cases c12 : x33_7 = true
        ·subst c12
         have H1 : (spec_l8Uses.l0 kj7 l0 a1 x5_1 (wrap64 (x6_1 + 1))) = some r := by rw [if_pos rfl] at H; exact H
         clear H
         have H := H1
         clear H1
         have H' := Aside0.mk H
         clear H
         go_wp2
         go_roundg kj7
         case measure => have := HK1.out; have := HJ7.out; omega
         case rel => exact ⟨(x5_1), (wrap64 (x6_1 + 1)), sv_, H', ⟨by have := HK1.out; have := HJ7.out; omega⟩, ⟨by (with_reducible repeat (first | apply Kd.R_alloc | apply Kd.R_drewN | apply Kd.R_drew)); exact HO_5.out⟩, ⟨bel_⟩⟩
        ·replace c12 := Bool.eq_false_iff.mpr c12
         subst c12
         have H1 : (if 0 ≤ x6_1 then (if x6_1 < (l0.length : Int) then ((spec_HrefOf.f kj7 ((rd_T69 l0 x6_1).f0) ((rd_T69 l0 x6_1).f1) ((rd_T69 l0 x6_1).f2) ((rd_T69 l0 x6_1).f3)).bind fun t200 => ((spec_l8Node.f kj7 l0 t200).bind fun t201 => (if t201 ≥ 0 then (if 0 ≤ t201 then (if t201 < (x5_1.length : Int) then (spec_l8Uses.l0 kj7 l0 a1 (x5_1.set (t201 : Int).toNat true) (wrap64 (x6_1 + 1))) else (none)) else (none)) else (spec_l8Uses.l0 kj7 l0 a1 x5_1 (wrap64 (x6_1 + 1)))))) else (none)) else (none)) = some r := by rw [if_neg (show ¬ (false = true) by decide)] at H; exact H
         clear H
         have H := H1
         clear H1
         by_cases c13 : 0 ≤ x6_1
         ·rw [if_pos c13] at H
          have c13b0 : decide (0 ≤ x6_1) = true := decide_eq_true c13
          clear c13
          by_cases c14 : x6_1 < (l0.length : Int)
          ·rw [if_pos c14] at H
           have c14b0 : decide (x6_1 < (l0.length : Int)) = true := decide_eq_true c14
           clear c14
           replace H := Option.bind_eq_some_iff.mp H
           obtain ⟨t200, A150, H⟩ := H
           replace H : ((spec_l8Node.f kj7 l0 t200).bind fun t201 => (if t201 ≥ 0 then (if 0 ≤ t201 then (if t201 < (x5_1.length : Int) then (spec_l8Uses.l0 kj7 l0 a1 (x5_1.set (t201 : Int).toNat true) (wrap64 (x6_1 + 1))) else (none)) else (none)) else (spec_l8Uses.l0 kj7 l0 a1 x5_1 (wrap64 (x6_1 + 1))))) = some r := H
           have A15 := Aside0.mk A150
           clear A150
           replace H := Option.bind_eq_some_iff.mp H
           obtain ⟨t201, A160, H⟩ := H
           replace H : (if t201 ≥ 0 then (if 0 ≤ t201 then (if t201 < (x5_1.length : Int) then (spec_l8Uses.l0 kj7 l0 a1 (x5_1.set (t201 : Int).toNat true) (wrap64 (x6_1 + 1))) else (none)) else (none)) else (spec_l8Uses.l0 kj7 l0 a1 x5_1 (wrap64 (x6_1 + 1)))) = some r := H
           have A16 := Aside0.mk A160
           clear A160
           by_cases c17 : t201 ≥ 0
           ·rw [if_pos c17] at H
            have c17b0 : decide (0 ≤ t201) = true := decide_eq_true c17
            clear c17
            by_cases c18 : 0 ≤ t201
            ·rw [if_pos c18] at H
             have c18b0 : decide (0 ≤ t201) = true := decide_eq_true c18
             clear c18
             by_cases c19 : t201 < (x5_1.length : Int)
             ·rw [if_pos c19] at H
              have c19b0 : decide (t201 < (x5_1.length : Int)) = true := decide_eq_true c19
              clear c19
              obtain ⟨y202, hy202⟩ : ∃ y_ : List Bool, y_ = (x5_1.set (t201 : Int).toNat true) := ⟨_, rfl⟩
              replace H : (spec_l8Uses.l0 kj7 l0 a1 y202 (wrap64 (x6_1 + 1))) = some r := by first | (rw [hy202]; with_reducible exact H) | (have H2_ := (Option.bind_some _ _).symm.trans H; rw [hy202]; with_reducible exact H2_) | (have H2_ := (Option.bind_some _ _).symm.trans H; with_reducible exact H2_) | with_reducible exact H | (rw [hy202]; exact H) | exact H
              have Ny202 := Aside0.mk hy202
              clear hy202
              have H' := Aside0.mk H
              clear H
              have p199 : 0 ≤ (x6_1 : Int) := of_decide_eq_true am_
              have q199 : x6_1 < (l0.length : Int) := of_decide_eq_true am_
              obtain ⟨ad199, A199_2, c199_2, e199, hx199_0, hx199_1, hx199_2, hx199_3, hl199_2, hi199_2⟩ := at_T69 HR0.out x6_1 p199 q199
              cases e199
              replace hx199_0 := pw_cell_below HB.out hx199_0
              replace hx199_1 := pw_cell_below HB.out hx199_1
              replace hx199_2 := pw_cell_below HB.out hx199_2
              replace hx199_3 := pw_cell_below HB.out hx199_3
              have HR199_2 := Aside0.mk hi199_2
              have HC199_2 := Aside0.mk hl199_2
              clear hi199_2 hl199_2
              replace p199 := eq_true p199
              replace q199 := eq_true q199
              go_wp2_with (first | ((with_reducible refine gate_callee (f := 95) rfl ?_); refine goesL_ (some 39) rfl rfl Tryd.func95 (by kernel_rfl) rfl #[.agg #[.string ((rd_T69 l0 x6_1).f0), .int .i64 ((rd_T69 l0 x6_1).f1), .slice A199_2 ((rd_T69 l0 x6_1).f2).length c199_2, .string ((rd_T69 l0 x6_1).f3)]] rfl au_ ?_; (with_reducible refine (spec_HrefOf.calls kj7 ((rd_T69 l0 x6_1).f0) ((rd_T69 l0 x6_1).f1) _ _ ((rd_T69 l0 x6_1).f2) ((rd_T69 l0 x6_1).f3) t200 _ ?side1 ?side2 A15.out).mono ?_); (case side1 => exact cs_ (Kd.C_below HR199_2.out HB.out)); (case side2 => exact HC199_2.out); rintro e w21 ⟨rfl, hb⟩; refine ⟨_, rfl, ?_⟩; have n0_ := Aside0.mk (Kd.R_below (kdR_ HO_5.out) hb); have n1_ := Aside0.mk (below_step bel_ hb); clear HO_5; clear HB; have HO_5 := n0_; have HB := n1_; clear n0_ n1_; (try clear hb);(try clear hb2);(try clear hk);(try clear hi)) | ((with_reducible refine gate_callee (f := 94) rfl ?_); refine goesL_ (some 40) rfl rfl Tryd.func94 (by kernel_rfl) rfl #[.slice (some ad199) l0.length c0, .string t200] rfl au_ ?_; (with_reducible refine (spec_l8Node.calls kj7 _ _ l0 t200 t201 _ ?side1 ?side2 A16.out).mono ?_); (case side1 => exact cs_ (Kd.C_below HR0.out HB.out)); (case side2 => exact HC0.out); rintro e w22 ⟨rfl, hb⟩; refine ⟨_, rfl, ?_⟩; have n0_ := Aside0.mk (Kd.R_below (kdR_ HO_5.out) hb); have n1_ := Aside0.mk (below_step bel_ hb); clear HO_5; clear HB; have HO_5 := n0_; have HB := n1_; clear n0_ n1_; (try clear hb);(try clear hb2);(try clear hk);(try clear hi); have p20 : 0 ≤ (t201 : Int) := of_decide_eq_true am_; have q20 : (t201 : Int) < ((x5_1.length : Int) : Int) := of_decide_eq_true am_; obtain ⟨go20, co20, eo20, gb20, gl20, cl20, HG20⟩ := Kd.R_form HO_5.out (by omega); (first | cases eo20 | (injection eo20 with ea_ en_ ec_; (first | subst ea_ | (injection ea_ with ea_; subst ea_)); subst ec_; clear en_)); have GB20 := Aside0.mk gb20; have GG20 := Aside0.mk HG20; clear gb20 gl20 HG20; obtain ⟨hx20_0, hf20_0⟩ := Kd.R_celln false HO_5.out (t201 : Int) p20 q20; replace p20 := eq_true p20; replace q20 := eq_true q20; obtain ⟨hy23_, hz23_⟩ := Kd.R_celln false HO_5.out (t201 : Int) (of_decide_eq_true am_) (of_decide_eq_true am_); have HP23 := Kd.R_putg HO_5.out (t201 : Int) true) | ((with_reducible refine gate_store (t := 4) (p := 45) rfl ?_); refine store_event (t := 4) (p := 45) (v := ?vo_w24) (w1 := (w22.setCell ⟨go20, (t201 : Int).toNat, none⟩ (.bool true))) ?hg ?ho ?hn ?hr ?_; (case ho => rfl); (case hg => rfl); (case hn => rfl); (case hr => first | (go_simp; done) | (go_simp; rfl)); intro w24 hw; have hg : w22.grownBy w24 (some go20) := (by rw [hw]; exact HP23.2); have hp_ : Kd.R Kd.bool 4 w24 w.heap.size (fun _ => True) (.slice (some ⟨go20, 0, none⟩) x5_1.length co20) y202 := (by rw [hw, Ny202.out]; exact HP23.1); clear HP23; have n0_ := Aside0.mk (hp_); have n1_ := Aside0.mk ((by rw [hw]; exact below_set (HB.out) GB20.out : Below w.heap.size w w24)); clear HO_5; clear HB; have HO_5 := n0_; have HB := n1_; clear n0_ n1_; clear hg hw hp_))
              go_roundg kj7
              case measure => have := HK1.out; have := HJ7.out; omega
              case rel => exact ⟨(y202), (wrap64 (x6_1 + 1)), sv_, H', ⟨by have := HK1.out; have := HJ7.out; omega⟩, ⟨by (with_reducible repeat (first | apply Kd.R_alloc | apply Kd.R_drewN | apply Kd.R_drew)); exact HO_5.out⟩, ⟨bel_⟩⟩
             ·rw [if_neg c19] at H
              exact absurd H (by simp)
            ·rw [if_neg c18] at H
             exact absurd H (by simp)
           ·rw [if_neg c17] at H
            have c17b0 : decide (0 ≤ t201) = false := decide_eq_false c17
            clear c17
            have H' := Aside0.mk H
            clear H
            have p199 : 0 ≤ (x6_1 : Int) := of_decide_eq_true am_
            have q199 : x6_1 < (l0.length : Int) := of_decide_eq_true am_
            obtain ⟨ad199, A199_2, c199_2, e199, hx199_0, hx199_1, hx199_2, hx199_3, hl199_2, hi199_2⟩ := at_T69 HR0.out x6_1 p199 q199
            cases e199
            replace hx199_0 := pw_cell_below HB.out hx199_0
            replace hx199_1 := pw_cell_below HB.out hx199_1
            replace hx199_2 := pw_cell_below HB.out hx199_2
            replace hx199_3 := pw_cell_below HB.out hx199_3
            have HR199_2 := Aside0.mk hi199_2
            have HC199_2 := Aside0.mk hl199_2
            clear hi199_2 hl199_2
            replace p199 := eq_true p199
            replace q199 := eq_true q199
            go_wp2_with (first | ((with_reducible refine gate_callee (f := 95) rfl ?_); refine goesL_ (some 39) rfl rfl Tryd.func95 (by kernel_rfl) rfl #[.agg #[.string ((rd_T69 l0 x6_1).f0), .int .i64 ((rd_T69 l0 x6_1).f1), .slice A199_2 ((rd_T69 l0 x6_1).f2).length c199_2, .string ((rd_T69 l0 x6_1).f3)]] rfl au_ ?_; (with_reducible refine (spec_HrefOf.calls kj7 ((rd_T69 l0 x6_1).f0) ((rd_T69 l0 x6_1).f1) _ _ ((rd_T69 l0 x6_1).f2) ((rd_T69 l0 x6_1).f3) t200 _ ?side1 ?side2 A15.out).mono ?_); (case side1 => exact cs_ (Kd.C_below HR199_2.out HB.out)); (case side2 => exact HC199_2.out); rintro e w25 ⟨rfl, hb⟩; refine ⟨_, rfl, ?_⟩; have n0_ := Aside0.mk (Kd.R_below (kdR_ HO_5.out) hb); have n1_ := Aside0.mk (below_step bel_ hb); clear HO_5; clear HB; have HO_5 := n0_; have HB := n1_; clear n0_ n1_; (try clear hb);(try clear hb2);(try clear hk);(try clear hi)) | ((with_reducible refine gate_callee (f := 94) rfl ?_); refine goesL_ (some 40) rfl rfl Tryd.func94 (by kernel_rfl) rfl #[.slice (some ad199) l0.length c0, .string t200] rfl au_ ?_; (with_reducible refine (spec_l8Node.calls kj7 _ _ l0 t200 t201 _ ?side1 ?side2 A16.out).mono ?_); (case side1 => exact cs_ (Kd.C_below HR0.out HB.out)); (case side2 => exact HC0.out); rintro e w26 ⟨rfl, hb⟩; refine ⟨_, rfl, ?_⟩; have n0_ := Aside0.mk (Kd.R_below (kdR_ HO_5.out) hb); have n1_ := Aside0.mk (below_step bel_ hb); clear HO_5; clear HB; have HO_5 := n0_; have HB := n1_; clear n0_ n1_; (try clear hb);(try clear hb2);(try clear hk);(try clear hi)))
            go_roundg kj7
            case measure => have := HK1.out; have := HJ7.out; omega
            case rel => exact ⟨(x5_1), (wrap64 (x6_1 + 1)), sv_, H', ⟨by have := HK1.out; have := HJ7.out; omega⟩, ⟨by (with_reducible repeat (first | apply Kd.R_alloc | apply Kd.R_drewN | apply Kd.R_drew)); exact HO_5.out⟩, ⟨bel_⟩⟩
          ·rw [if_neg c14] at H
           exact absurd H (by simp)
         ·rw [if_neg c13] at H
          exact absurd H (by simp)
     ·rw [if_neg c7] at H
      have c7b0 : decide (x6_1 < (l0.length : Int)) = false := decide_eq_false c7
      clear c7
      have H' := Aside0.mk H
      clear H
      obtain ⟨Ao27, co27, eo27⟩ := Kd.R_slice HO_5.out
      subst eo27
      go_wp2
      go_loopg [8, 48] k1 (fun kq v8 v48 w' => ∃ (x8_2 : List Int) (x48_2 : Int), v48 = .int .i64 x48_2 ∧ Aside0 (spec_l8Uses.l1 kq x8_2 x5_1 (x5_1.length : Int) x48_2 = some r) ∧ Aside0 (kq ≤ k1) ∧ Aside0 (Kd.R (Kd.int .i64) 3 w' w.heap.size (fun _ => True) v8 x8_2) ∧ Aside0 (Kd.R Kd.bool 4 w' w.heap.size (fun _ => True) (.slice Ao27 x5_1.length co27) x5_1) ∧ Aside0 (Below w.heap.size w w'))
      case atStart => exact ⟨(([] : List Int)), (0), sv_, H', ⟨Nat.le_refl _⟩, ⟨by first | exact Kd.R_nil _ _ _ _ _ | exact Kd.N_nil _ _ _ _ _ | exact Kd.V_nil _ _ _ _ _ | exact Kd.Q_nil _ _ _ _ _ | exact Kd.S_nil _ _ _ _ _⟩, ⟨by (with_reducible repeat (first | apply Kd.R_alloc | apply Kd.R_drewN | apply Kd.R_drew)); exact HO_5.out⟩, ⟨bel_⟩⟩
      case round =>
       clear H'
       (try clear c1);(try clear p1);(try clear q1);(try clear hx1);(try clear p2);(try clear q2);(try clear hx2);(try clear hf2);(try clear c3);(try clear c3b0 c3b1);(try clear c4);(try clear c4b0 c4b1);(try clear p6);(try clear c7);(try clear c7b0);(try clear c9);(try clear c9b0);(try clear c10);(try clear c10b0 c10b1);(try clear c12);(try clear c13);(try clear c13b0);(try clear c14);(try clear c14b0);(try clear c17);(try clear c17b0);(try clear c18);(try clear c18b0);(try clear c19);(try clear c19b0);(try clear p19);(try clear q19);(try clear hx19);(try clear p20);(try clear q20);(try clear hx20);(try clear hf20);(try clear hx197_0);(try clear hx197_1);(try clear hx197_2);(try clear hx197_3);(try clear hx199_0);(try clear hx199_1);(try clear hx199_2);(try clear hx199_3);(try clear hx20_0);(try clear p1);(try clear p197);(try clear p199);(try clear p2);(try clear p20)
       (try clear q1);(try clear q197);(try clear q199);(try clear q20)
       obtain ⟨x8_2, x48_2, rfl, HA, HK2, HO_8, HO_46, HB⟩ := hrel
       cases gk with
       | zero => exact absurd HA.out (by simp [spec_l8Uses.l1])
       | succ k2 =>
        have H := HA.out
        clear HA
        simp only [spec_l8Uses.l1] at H
        by_cases c28 : x48_2 < (x5_1.length : Int)
        ·rw [if_pos c28] at H
         have c28b0 : decide (x48_2 < (x5_1.length : Int)) = true := decide_eq_true c28
         clear c28
         by_cases c29 : 0 ≤ x48_2
         ·rw [if_pos c29] at H
          have c29b0 : decide (0 ≤ x48_2) = true := decide_eq_true c29
          clear c29
          by_cases c30 : x48_2 < (x5_1.length : Int)
          ·rw [if_pos c30] at H
           have c30b0 : decide (x48_2 < (x5_1.length : Int)) = true := decide_eq_true c30
           clear c30
           obtain ⟨bq31, hbq31⟩ : ∃ b_ : Bool, b_ = (rdOf false x5_1 x48_2) := ⟨_, rfl⟩
           replace H : (if bq31 = true then (if x8_2.length < 17592186044416 then (spec_l8Uses.l1 k2 (x8_2 ++ [x48_2]) x5_1 (x5_1.length : Int) (wrap64 (x48_2 + 1))) else (none)) else (spec_l8Uses.l1 k2 x8_2 x5_1 (x5_1.length : Int) (wrap64 (x48_2 + 1)))) = some r := by rw [← hbq31] at H; exact H
           have Nbq31 := Aside0.mk hbq31
           clear hbq31
           by_cases c32 : bq31 = true
           ·subst c32
            have H1 : (if x8_2.length < 17592186044416 then (spec_l8Uses.l1 k2 (x8_2 ++ [x48_2]) x5_1 (x5_1.length : Int) (wrap64 (x48_2 + 1))) else (none)) = some r := by rw [if_pos rfl] at H; exact H
            clear H
            have H := H1
            clear H1
            by_cases c33 : x8_2.length < 17592186044416
            ·rw [if_pos c33] at H
             have LMc33 := Aside0.mk c33
             clear c33
             obtain ⟨y204, hy204⟩ : ∃ y_ : List Int, y_ = (x8_2 ++ [x48_2]) := ⟨_, rfl⟩
             replace H : (spec_l8Uses.l1 k2 y204 x5_1 (x5_1.length : Int) (wrap64 (x48_2 + 1))) = some r := by first | (rw [hy204]; with_reducible exact H) | (have H2_ := (Option.bind_some _ _).symm.trans H; rw [hy204]; with_reducible exact H2_) | (have H2_ := (Option.bind_some _ _).symm.trans H; with_reducible exact H2_) | with_reducible exact H | (rw [hy204]; exact H) | exact H
             have Ny204 := Aside0.mk hy204
             clear hy204
             have H' := Aside0.mk H
             clear H
             have p203 : 0 ≤ (x48_2 : Int) := of_decide_eq_true am_
             have q203 : x48_2 < (x5_1.length : Int) := of_decide_eq_true am_
             obtain ⟨ad203, e203, hx203_0⟩ := Kd.at_bool (Kd.R_reads' HO_46.out).2.2 x48_2 p203 q203
             (try rw [← Nbq31.out] at hx203_0)
             cases e203
             replace p203 := eq_true p203
             replace q203 := eq_true q203
             go_wp2_with (first | ((with_reducible refine gate_builtin (b := .append) (xs := #[.tmp 54, .tmp 56]) rfl ?_); at_builtin; refine Kd.R_append (Kd.int .i64) (w0 := w) w.heap.size rfl (.tmp 54) (.tmp 56) 77 3 (.int .i64 0) 8 rfl Tryd.underlying77 info3 rfl (by decide) (by omega) u8 x8_2 x48_2 [.int .i64 x48_2] (fun _ => True) (fun _ => False) rfl rfl ?aP (fun _ hk => hk.elim) ?aF ?aO ?aB ?aS ?aL ?_; (case aP => exact rfl); (case aB => exact bel_); (case aF => exact (fun _ _ => trivial)); (case aO => exact (kdR_ HO_8.out)); (case aS => exact (below_size bel_)); (case aL => have := LMc33.out; omega); intro v205 w34 ho hb hg hat; rw [← Ny204.out] at ho; have n0_ := Aside0.mk (Kd.R_over' (kdR_ HO_46.out) (Kd.R_typed (kdR_ HO_8.out)) (by decide) hg); have n1_ := Aside0.mk (hb); have n2_ := Aside0.mk (ho); clear HO_46; clear HB; clear HO_8; have HO_46 := n0_; have HB := n1_; have HO206 := n2_; clear n0_ n1_ n2_; clear ho hb hg hat))
             go_roundg k2
             case measure => have := HK1.out; have := HK2.out; omega
             case rel => exact ⟨(y204), (wrap64 (x48_2 + 1)), sv_, H', ⟨by have := HK1.out; have := HK2.out; omega⟩, ⟨by (with_reducible repeat (first | apply Kd.R_alloc | apply Kd.R_drewN | apply Kd.R_drew)); exact HO206.out⟩, ⟨by (with_reducible repeat (first | apply Kd.R_alloc | apply Kd.R_drewN | apply Kd.R_drew)); exact HO_46.out⟩, ⟨bel_⟩⟩
            ·rw [if_neg c33] at H
             exact absurd H (by simp)
           ·replace c32 := Bool.eq_false_iff.mpr c32
            subst c32
            have H1 : (spec_l8Uses.l1 k2 x8_2 x5_1 (x5_1.length : Int) (wrap64 (x48_2 + 1))) = some r := by rw [if_neg (show ¬ (false = true) by decide)] at H; exact H
            clear H
            have H := H1
            clear H1
            have H' := Aside0.mk H
            clear H
            have p203 : 0 ≤ (x48_2 : Int) := of_decide_eq_true am_
            have q203 : x48_2 < (x5_1.length : Int) := of_decide_eq_true am_
            obtain ⟨ad203, e203, hx203_0⟩ := Kd.at_bool (Kd.R_reads' HO_46.out).2.2 x48_2 p203 q203
            (try rw [← Nbq31.out] at hx203_0)
            cases e203
            replace p203 := eq_true p203
            replace q203 := eq_true q203
            go_wp2
            go_roundg k2
            case measure => have := HK1.out; have := HK2.out; omega
            case rel => exact ⟨(x8_2), (wrap64 (x48_2 + 1)), sv_, H', ⟨by have := HK1.out; have := HK2.out; omega⟩, ⟨by (with_reducible repeat (first | apply Kd.R_alloc | apply Kd.R_drewN | apply Kd.R_drew)); exact HO_8.out⟩, ⟨by (with_reducible repeat (first | apply Kd.R_alloc | apply Kd.R_drewN | apply Kd.R_drew)); exact HO_46.out⟩, ⟨bel_⟩⟩
          ·rw [if_neg c30] at H
           exact absurd H (by simp)
         ·rw [if_neg c29] at H
          exact absurd H (by simp)
        ·rw [if_neg c28] at H
         have c28b0 : decide (x48_2 < (x5_1.length : Int)) = false := decide_eq_false c28
         clear c28
         obtain rfl := Option.some.inj H
         go_wp2
         go_ret
         exact ⟨_, er_, by (with_reducible repeat (first | apply Kd.R_alloc | apply Kd.R_drewN | apply Kd.R_drew)); exact HO_8.out, bel_⟩
  ·rw [if_neg c4] at H
   exact absurd H (by simp)
 ·rw [if_neg c3] at H
  exact absurd H (by simp)

end Go.Proofs.YtooilehdljeepaaDoor.PFnExactHasCycle
