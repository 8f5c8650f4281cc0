-- Laid by a program of this session out of the translation (its own run of the print). Lean checks it.
import Derived.Test.YtooilehdljeepaaDoorPFnExactHasCyclex0
import Derived.Test.YtooilehdljeepaaDoorPFnExactHasCyclex6
import Derived.Test.YtooilehdljeepaaDoorPFnExactHasCyclex8
namespace Go.Proofs.YtooilehdljeepaaDoor.PFnExactHasCycle
open Go.RowKit Go.Proofs.YtooilehdljeepaaDoorW.PrintWords Go.Proofs.YtooilehdljeepaaDoorW.PrintLast Go.Proofs.YtooilehdljeepaaDoorW.PrintMore
attribute [local go_sem] max2_int min2_int max_two min_two max_three min_three max_four min_four   -- for this text's walks alone
set_option linter.unusedVariables false
set_option linter.unusedSimpArgs false

/-! ### spec_HasCycle: function 18 -/
mutual
def spec_HasCycle.l0 : Nat → List (S69) → List (S69) → Int → Int → Option (Bool × Bool)
 | 0, _, _, _, _ => none
 | k + 1, x0, x12, x13, x14 => if x14 < x13 then (if 0 ≤ x14 then (if x14 < (x12.length : Int) then (if ((rd_T69 x12 x14).f0).toList = ([] : List UInt8) then (spec_HasCycle.l0 k x0 x12 x13 (wrap64 (x14 + 1))) else (if 0 ≤ (x0.length : Int) then (if ((x0.length : Int) : Int).toNat ≤ 281474976710656 then ((spec_l8Uses.f k x0 x14).bind fun t213 => (spec_HasCycle.l1 k x0 x14 (List.replicate ((x0.length : Int) : Int).toNat false) t213 x12 x13 x14)) else (none)) else (none))) else (none)) else (none)) else (some (false, true))
def spec_HasCycle.l1 : Nat → List (S69) → Int → List Bool → List Int → List (S69) → Int → Int → Option (Bool × Bool)
 | 0, _, _, _, _, _, _, _ => none
 | k + 1, x0, x4, x6, x7, x12, x13, x14 => if (x7.length : Int) > 0 then (if 0 < (x7.length : Int) then (if 1 ≤ (x7.length : Int) then ((some (x7.drop (1 : Int).toNat : List Int)).bind fun y217 => (if (rd x7 0) = x4 then (some (true, true)) else (if 0 ≤ (rd x7 0) then (if (rd x7 0) < (x6.length : Int) then (if (rdOf false x6 (rd x7 0) = true) then (spec_HasCycle.l1 k x0 x4 x6 y217 x12 x13 x14) else ((spec_l8Uses.f k x0 (rd x7 0)).bind fun t222 => (if y217.length + t222.length < 17592186044416 then (spec_HasCycle.l1 k x0 x4 (x6.set ((rd x7 0) : Int).toNat true) (y217 ++ t222) x12 x13 x14) else (none)))) else (none)) else (none)))) else (none)) else (none)) else (spec_HasCycle.l0 k x0 x12 x13 (wrap64 (x14 + 1)))
end
def spec_HasCycle.f (k : Nat) (l0 : List (S69)) : Option (Bool × Bool) := (spec_GoodNodes.f k l0).bind fun t207 => (if t207 = true then (spec_HasCycle.l0 k l0 l0 (l0.length : Int) 0) else (some (false, false)))
set_option maxHeartbeats 8000000 in
set_option maxRecDepth 100000 in
theorem spec_HasCycle.calls (k : Nat) (A0 : Option Addr) (c0 : Nat) (l0 : List (S69)) (r1 : Bool) (r2 : Bool) (w : World) (hr0 : Kd.C k69 w A0 l0.length l0) (hc0 : l0.length ≤ c0) (h : spec_HasCycle.f k l0 = some (r1, r2)) :
  Calls Tryd.prog 18 #[.slice A0 l0.length c0] w fun e w' => e = .returned (.tuple #[.bool r1, .bool r2]) ∧ Below w.heap.size w w' := by
 have hu69 := Tryd.underlying69
 have HR0 := Aside0.mk hr0
 have HC0 := Aside0.mk hc0
 clear hr0 hc0
 have HB := Aside0.mk (Below.refl w.heap.size w)
 have H : ((spec_GoodNodes.f k l0).bind fun t207 => (if t207 = true then (spec_HasCycle.l0 k l0 l0 (l0.length : Int) 0) else (some (false, false)))) = some (r1, r2) := h
 clear h
 replace H := Option.bind_eq_some_iff.mp H
 obtain ⟨t207, A20, H⟩ := H
 replace H : (if t207 = true then (spec_HasCycle.l0 k l0 l0 (l0.length : Int) 0) else (some (false, false))) = some (r1, r2) := H
 have A2 := Aside0.mk A20
 clear A20
 by_cases c3 : t207 = true
 ·subst c3
  have H1 : (spec_HasCycle.l0 k l0 l0 (l0.length : Int) 0) = some (r1, r2) := by rw [if_pos rfl] at H; exact H
  clear H
  have H := H1
  clear H1
  have H' := Aside0.mk H
  clear H
  go_enter Tryd.func18, Tryd.ntmps18
  go_wp2_with (first | ((with_reducible refine gate_callee (f := 37) rfl ?_); refine goesL_ (some 10) rfl rfl Tryd.func37 (by kernel_rfl) rfl #[.slice A0 l0.length c0] rfl au_ ?_; (with_reducible refine (spec_GoodNodes.calls k _ _ l0 true _ ?side1 ?side2 A2.out).mono ?_); (case side1 => exact cs_ HR0.out); (case side2 => exact HC0.out); rintro e w4 ⟨rfl, hb⟩; refine ⟨_, rfl, ?_⟩; have n0_ := Aside0.mk (below_step bel_ hb); clear HB; have HB := n0_; clear n0_; (try clear hb);(try clear hb2);(try clear hk);(try clear hi)))
  go_loopg [14] k (fun kq v14 w' => ∃ (x14_1 : Int), v14 = .int .i64 x14_1 ∧ Aside0 (spec_HasCycle.l0 kq l0 l0 (l0.length : Int) x14_1 = some (r1, r2)) ∧ Aside0 (kq ≤ k) ∧ Aside0 (Below w.heap.size w w'))
  case atStart => exact ⟨(0), sv_, H', ⟨Nat.le_refl _⟩, ⟨bel_⟩⟩
  case round =>
   clear H'
   (try clear c1);(try clear p2);(try clear c3)
   obtain ⟨x14_1, rfl, HA, HK1, HB⟩ := hrel
   cases gk with
   | zero => exact absurd HA.out (by simp [spec_HasCycle.l0])
   | succ k1 =>
    have H := HA.out
    clear HA
    simp only [spec_HasCycle.l0] at H
    by_cases c5 : x14_1 < (l0.length : Int)
    ·rw [if_pos c5] at H
     have c5b0 : decide (x14_1 < (l0.length : Int)) = true := decide_eq_true c5
     clear c5
     by_cases c6 : 0 ≤ x14_1
     ·rw [if_pos c6] at H
      have c6b0 : decide (0 ≤ x14_1) = true := decide_eq_true c6
      clear c6
      by_cases c7 : x14_1 < (l0.length : Int)
      ·rw [if_pos c7] at H
       have c7b0 : decide (x14_1 < (l0.length : Int)) = true := decide_eq_true c7
       clear c7
       by_cases c8 : ((rd_T69 l0 x14_1).f0).toList = ([] : List UInt8)
       ·rw [if_pos c8] at H
        have c8b0 : (((rd_T69 l0 x14_1).f0).toList == ([] : List UInt8)) = true := beq_iff_eq.mpr c8
        have c8b7 : ((rd_T69 l0 x14_1).f0).toList.isEmpty = true := by rw [beq_iff_eq.mp c8b0]; rfl
        have c8b8 : ¬ (((rd_T69 l0 x14_1).f0).toList.isEmpty = false) := fun h_ => by have h9_ := beq_iff_eq.mp c8b0; rw [h9_] at h_; cases h_
        have c8b1 : (((rd_T69 l0 x14_1).f0).toList != ([] : List UInt8)) = false := bne_eq_false_iff_eq.mpr c8
        clear c8
        have H' := Aside0.mk H
        clear H
        have p208 : 0 ≤ (x14_1 : Int) := of_decide_eq_true am_
        have q208 : x14_1 < (l0.length : Int) := of_decide_eq_true am_
        obtain ⟨ad208, A208_2, c208_2, e208, hx208_0, hx208_1, hx208_2, hx208_3, hl208_2, hi208_2⟩ := at_T69 HR0.out x14_1 p208 q208
        cases e208
        replace hx208_0 := pw_cell_below HB.out hx208_0
        replace hx208_1 := pw_cell_below HB.out hx208_1
        replace hx208_2 := pw_cell_below HB.out hx208_2
        replace hx208_3 := pw_cell_below HB.out hx208_3
        have HR208_2 := Aside0.mk hi208_2
        have HC208_2 := Aside0.mk hl208_2
        clear hi208_2 hl208_2
        replace p208 := eq_true p208
        replace q208 := eq_true q208
        go_wp2_with (first | ((with_reducible refine gate_dst (N := 5) rfl ?_); refine box_event ?hg (N := 5) ?hd (cs := #[.string (⟨#[]⟩ : ByteArray), .int .i64 0, .slice none 0 0, .string (⟨#[]⟩ : ByteArray)]) (t := 69) ?hr ?_; (case hd => rfl); (case hg => rfl); (case hr => first | (go_simp; done) | (go_simp; rfl)); intro gb209 hg w9 hbox hb; have n0_ := Aside0.mk (below_step bel_ hb); have n1_ := Aside0.mk (hbox); have n2_ := Aside0.mk ((by rw [hg]; exact (below_size bel_) : w.heap.size ≤ gb209)); have n3_ := Aside0.mk ((by rw [hg]; exact (below_size bel_) : w.heap.size ≤ gb209)); clear HB; have HB := n0_; have BK209 := n1_; have GW209 := n2_; have GE209 := n3_; clear n0_ n1_ n2_ n3_; clear hb hbox hg; have hcz10_0 := bc4_0 BK209.out; have hcz10_1 := bc4_1 BK209.out; have hcz10_2 := bc4_2 BK209.out; have hcz10_3 := bc4_3 BK209.out; have hfz10_0 := blk_frozen BK209.out 0; have hfz10_1 := blk_frozen BK209.out 1; have hfz10_2 := blk_frozen BK209.out 2; have hfz10_3 := blk_frozen BK209.out 3))
        go_roundg k1
        case measure => have := HK1.out; omega
        case rel => exact ⟨(wrap64 (x14_1 + 1)), sv_, H', ⟨by have := HK1.out; omega⟩, ⟨bes_⟩⟩
       ·rw [if_neg c8] at H
        have c8b0 : (((rd_T69 l0 x14_1).f0).toList == ([] : List UInt8)) = false := beq_eq_false_iff_ne.mpr c8
        have c8b7 : ((rd_T69 l0 x14_1).f0).toList.isEmpty = false := Bool.eq_false_iff.mpr (fun h_ => absurd (List.isEmpty_iff.mp h_) (beq_eq_false_iff_ne.mp c8b0))
        have c8b8 : ¬ (((rd_T69 l0 x14_1).f0).toList.isEmpty = true) := fun h_ => absurd (List.isEmpty_iff.mp h_) (beq_eq_false_iff_ne.mp c8b0)
        have c8b1 : (((rd_T69 l0 x14_1).f0).toList != ([] : List UInt8)) = true := bne_iff_ne.mpr c8
        by_cases c11 : 0 ≤ (l0.length : Int)
        ·rw [if_pos c11] at H
         have c11b0 := eq_true c11
         have c11b1 : decide (0 ≤ (l0.length : Int)) = true := decide_eq_true c11
         clear c11
         by_cases c12 : ((l0.length : Int) : Int).toNat ≤ 281474976710656
         ·rw [if_pos c12] at H
          have c12b0 := eq_true c12
          have c12b1 : decide (((l0.length : Int) : Int).toNat ≤ 281474976710656) = true := decide_eq_true c12
          clear c12
          obtain ⟨y210, hy210⟩ : ∃ y_ : List Bool, y_ = (List.replicate ((l0.length : Int) : Int).toNat false) := ⟨_, rfl⟩
          replace H : ((spec_l8Uses.f k1 l0 x14_1).bind fun t213 => (spec_HasCycle.l1 k1 l0 x14_1 y210 t213 l0 (l0.length : Int) x14_1)) = some (r1, r2) := by first | (rw [hy210]; with_reducible exact H) | (have H2_ := (Option.bind_some _ _).symm.trans H; rw [hy210]; with_reducible exact H2_) | (have H2_ := (Option.bind_some _ _).symm.trans H; with_reducible exact H2_) | with_reducible exact H | (rw [hy210]; exact H) | exact H
          have Ny210 := Aside0.mk hy210
          clear hy210
          replace H := Option.bind_eq_some_iff.mp H
          obtain ⟨t213, A130, H⟩ := H
          replace H : (spec_HasCycle.l1 k1 l0 x14_1 y210 t213 l0 (l0.length : Int) x14_1) = some (r1, r2) := H
          have A13 := Aside0.mk A130
          clear A130
          have H' := Aside0.mk H
          clear H
          have p208 : 0 ≤ (x14_1 : Int) := of_decide_eq_true am_
          have q208 : x14_1 < (l0.length : Int) := of_decide_eq_true am_
          obtain ⟨ad208, A208_2, c208_2, e208, hx208_0, hx208_1, hx208_2, hx208_3, hl208_2, hi208_2⟩ := at_T69 HR0.out x14_1 p208 q208
          cases e208
          replace hx208_0 := pw_cell_below HB.out hx208_0
          replace hx208_1 := pw_cell_below HB.out hx208_1
          replace hx208_2 := pw_cell_below HB.out hx208_2
          replace hx208_3 := pw_cell_below HB.out hx208_3
          have HR208_2 := Aside0.mk hi208_2
          have HC208_2 := Aside0.mk hl208_2
          clear hi208_2 hl208_2
          replace p208 := eq_true p208
          replace q208 := eq_true q208
          go_wp2_with (first | ((with_reducible refine gate_dst (N := 5) rfl ?_); refine box_event ?hg (N := 5) ?hd (cs := #[.string (⟨#[]⟩ : ByteArray), .int .i64 0, .slice none 0 0, .string (⟨#[]⟩ : ByteArray)]) (t := 69) ?hr ?_; (case hd => rfl); (case hg => rfl); (case hr => first | (go_simp; done) | (go_simp; rfl)); intro gb209 hg w14 hbox hb; have n0_ := Aside0.mk (below_step bel_ hb); have n1_ := Aside0.mk (hbox); have n2_ := Aside0.mk ((by rw [hg]; exact (below_size bel_) : w.heap.size ≤ gb209)); have n3_ := Aside0.mk ((by rw [hg]; exact (below_size bel_) : w.heap.size ≤ gb209)); clear HB; have HB := n0_; have BK209 := n1_; have GW209 := n2_; have GE209 := n3_; clear n0_ n1_ n2_ n3_; clear hb hbox hg; have hcz15_0 := bc4_0 BK209.out; have hcz15_1 := bc4_1 BK209.out; have hcz15_2 := bc4_2 BK209.out; have hcz15_3 := bc4_3 BK209.out; have hfz15_0 := blk_frozen BK209.out 0; have hfz15_1 := blk_frozen BK209.out 1; have hfz15_2 := blk_frozen BK209.out 2; have hfz15_3 := blk_frozen BK209.out 3) | ((with_reducible refine gate_dst (N := 24) rfl ?_); refine Kd.R_make Kd.bool _ 4 rfl (N := 24) rfl 76 _ _ rfl (l0.length : Int) rfl rfl Tryd.underlying76 (.bool false) 1 info4 rfl (by decide) (by omega) false (ok := fun _ => True) (okp := fun _ => True) rfl (fun _ hk => hk) trivial (of_decide_eq_true am_) (Nat.le_trans (Nat.mul_le_mul_right _ (of_decide_eq_true am_ : (l0.length : Int).toNat ≤ 281474976710656)) (by omega)) (Below.refl _ _) (Nat.le_refl _) ?_; intro v211 w16 ho17 hb hg_ hnew_; clear hg_ hnew_; (first | rw [← Ny210.out] at ho17 | (simp only [Int.reduceToNat] at ho17; rw [← Ny210.out] at ho17)); have n0_ := Aside0.mk (Kd.R_lower ho17 (below_size bes_)); have n1_ := Aside0.mk (blk_below (g := gb209) (o := .cells #[.string ((rd_T69 l0 x14_1).f0), .int .i64 ((rd_T69 l0 x14_1).f1), .slice A208_2 ((rd_T69 l0 x14_1).f2).length c208_2, .string ((rd_T69 l0 x14_1).f3)] 69 (0, 0)) (by (with_reducible repeat (first | refine blk_drewN ?_ _ | refine blk_drew ?_ | refine blk_alloc ?_ _)); refine blk_put (cs := #[.string ((rd_T69 l0 x14_1).f0), .int .i64 ((rd_T69 l0 x14_1).f1), .slice A208_2 ((rd_T69 l0 x14_1).f2).length c208_2, .string (⟨#[]⟩ : ByteArray)]) ?_ 3 _ rfl; (with_reducible repeat (first | refine blk_drewN ?_ _ | refine blk_drew ?_ | refine blk_alloc ?_ _)); refine blk_put (cs := #[.string ((rd_T69 l0 x14_1).f0), .int .i64 ((rd_T69 l0 x14_1).f1), .slice none 0 0, .string (⟨#[]⟩ : ByteArray)]) ?_ 2 _ rfl; (with_reducible repeat (first | refine blk_drewN ?_ _ | refine blk_drew ?_ | refine blk_alloc ?_ _)); refine blk_put (cs := #[.string ((rd_T69 l0 x14_1).f0), .int .i64 0, .slice none 0 0, .string (⟨#[]⟩ : ByteArray)]) ?_ 1 _ rfl; (with_reducible repeat (first | refine blk_drewN ?_ _ | refine blk_drew ?_ | refine blk_alloc ?_ _)); refine blk_put (cs := #[.string (⟨#[]⟩ : ByteArray), .int .i64 0, .slice none 0 0, .string (⟨#[]⟩ : ByteArray)]) ?_ 0 _ rfl; (with_reducible repeat (first | refine blk_drewN ?_ _ | refine blk_drew ?_ | refine blk_alloc ?_ _)); exact BK209.out) hb); have n2_ := Aside0.mk (below_step bes_ hb); clear BK209; clear HB; have HO212 := n0_; have BK209 := n1_; have HB := n2_; clear n0_ n1_ n2_; clear hb ho17) | ((with_reducible refine gate_callee (f := 49) rfl ?_); refine goesL_ (some 27) rfl rfl Tryd.func49 (by kernel_rfl) rfl #[.slice (some ad208) l0.length c0, .int .i64 x14_1] rfl au_ ?_; (with_reducible refine (spec_l8Uses.calls k1 _ _ l0 x14_1 t213 _ ?side1 ?side2 A13.out).mono ?_); (case side1 => exact cs_ (Kd.C_below HR0.out HB.out)); (case side2 => exact HC0.out); rintro e w18 ⟨v214, rfl, ho0, hb⟩; refine ⟨_, rfl, ?_⟩; have n0_ := Aside0.mk (Kd.R_below (kdR_ HO212.out) hb); have n1_ := Aside0.mk (Kd.R_lower ho0 (below_size bes_)); have n2_ := Aside0.mk (blk_below (g := gb209) (o := .cells #[.string ((rd_T69 l0 x14_1).f0), .int .i64 ((rd_T69 l0 x14_1).f1), .slice A208_2 ((rd_T69 l0 x14_1).f2).length c208_2, .string ((rd_T69 l0 x14_1).f3)] 69 (0, 0)) (bk_ BK209.out) hb); have n3_ := Aside0.mk (below_step bes_ hb); clear HO212; clear BK209; clear HB; have HO212 := n0_; have HO215 := n1_; have BK209 := n2_; have HB := n3_; clear n0_ n1_ n2_ n3_; (try clear hb);(try clear hb2);(try clear hk);(try clear hi);(try clear ho0)))
          go_loopg [7] k1 (fun kq v7 w' => ∃ (x6_2 : List Bool) (x7_2 : List Int), Aside0 (spec_HasCycle.l1 kq l0 x14_1 x6_2 x7_2 l0 (l0.length : Int) x14_1 = some (r1, r2)) ∧ Aside0 (kq ≤ k1) ∧ Aside0 (Kd.R Kd.bool 4 w' w.heap.size (fun _ => True) v211 x6_2) ∧ Aside0 (Kd.Q (Kd.int .i64) 3 w' w.heap.size (fun _ => True) v7 x7_2) ∧ Aside0 (w'.heap[gb209]? = some (.cells #[.string ((rd_T69 l0 x14_1).f0), .int .i64 ((rd_T69 l0 x14_1).f1), (.slice A208_2 ((rd_T69 l0 x14_1).f2).length c208_2), .string ((rd_T69 l0 x14_1).f3)] 69 (0, 0))) ∧ Aside0 (Below w.heap.size w w'))
          case atStart => exact ⟨(y210), (t213), H', ⟨Nat.le_refl _⟩, ⟨by (with_reducible repeat (first | apply Kd.R_alloc | apply Kd.R_drewN | apply Kd.R_drew)); exact HO212.out⟩, ⟨Kd.Q_of_R (kdR_ HO215.out)⟩, ⟨by (with_reducible repeat (first | refine blk_drewN ?_ _ | refine blk_drew ?_ | refine blk_alloc ?_ _)); exact BK209.out⟩, ⟨bes_⟩⟩
          case round =>
           clear H'
           (try clear c1);(try clear c2);(try clear p2);(try clear q2);(try clear hx2);(try clear c3);(try clear c4);(try clear c5);(try clear c5b0);(try clear c6);(try clear c6b0);(try clear p6);(try clear c7);(try clear c7b0);(try clear c8);(try clear c8b0 c8b1);(try clear c11);(try clear c11b0 c11b1);(try clear c12);(try clear c12b0 c12b1);(try clear c18);(try clear hcz10_0 hcz10_1 hcz10_2 hcz10_3);(try clear hcz15_0 hcz15_1 hcz15_2 hcz15_3);(try clear hfz10_0 hfz10_1 hfz10_2 hfz10_3);(try clear hfz15_0 hfz15_1 hfz15_2 hfz15_3);(try clear hx208_0);(try clear hx208_1);(try clear hx208_2);(try clear hx208_3);(try clear p2);(try clear p208);(try clear q208)
           obtain ⟨x6_2, x7_2, HA, HK2, HO_6, HO_7, BK209, HB⟩ := hrel
           cases gk with
           | zero => exact absurd HA.out (by simp [spec_HasCycle.l1])
           | succ k2 =>
            have H := HA.out
            clear HA
            simp only [spec_HasCycle.l1] at H
            by_cases c19 : (x7_2.length : Int) > 0
            ·rw [if_pos c19] at H
             have c19b0 : decide (0 < (x7_2.length : Int)) = true := decide_eq_true c19
             have c19b1 : decide (0 < x7_2.length) = true := decide_eq_true (by omega)
             clear c19
             by_cases c20 : 0 < (x7_2.length : Int)
             ·rw [if_pos c20] at H
              have c20b0 : decide (0 < (x7_2.length : Int)) = true := decide_eq_true c20
              have c20b1 : decide (0 < x7_2.length) = true := decide_eq_true (by omega)
              clear c20
              by_cases c21 : 1 ≤ (x7_2.length : Int)
              ·rw [if_pos c21] at H
               have c21b0 := eq_true c21
               have c21b1 : decide (1 ≤ (x7_2.length : Int)) = true := decide_eq_true c21
               clear c21
               obtain ⟨y217, hy217⟩ : ∃ y_ : List Int, y_ = (x7_2.drop (1 : Int).toNat) := ⟨_, rfl⟩
               replace H : (if (rd x7_2 0) = x14_1 then (some (true, true)) else (if 0 ≤ (rd x7_2 0) then (if (rd x7_2 0) < (x6_2.length : Int) then (if (rdOf false x6_2 (rd x7_2 0) = true) then (spec_HasCycle.l1 k2 l0 x14_1 x6_2 y217 l0 (l0.length : Int) x14_1) else ((spec_l8Uses.f k2 l0 (rd x7_2 0)).bind fun t222 => (if y217.length + t222.length < 17592186044416 then (spec_HasCycle.l1 k2 l0 x14_1 (x6_2.set ((rd x7_2 0) : Int).toNat true) (y217 ++ t222) l0 (l0.length : Int) x14_1) else (none)))) else (none)) else (none))) = some (r1, r2) := by first | (rw [hy217]; with_reducible exact H) | (have H2_ := (Option.bind_some _ _).symm.trans H; rw [hy217]; with_reducible exact H2_) | (have H2_ := (Option.bind_some _ _).symm.trans H; with_reducible exact H2_) | with_reducible exact H | (rw [hy217]; exact H) | exact H
               have Ny217 := Aside0.mk hy217
               clear hy217
               by_cases c22 : (rd x7_2 0) = x14_1
               ·rw [if_pos c22] at H
                have c22b0 : ((rd x7_2 0) == x14_1) = true := beq_iff_eq.mpr c22
                have c22b1 : ((rd x7_2 0) != x14_1) = false := bne_eq_false_iff_eq.mpr c22
                clear c22
                simp only [Option.some.injEq, Prod.mk.injEq] at H
                obtain ⟨rfl, rfl⟩ := H
                obtain ⟨Ao23, co23, eo23, _⟩ := Kd.Q_slice HO_7.out
                subst eo23
                have p216 : 0 ≤ (0 : Int) := (by omega)
                have q216 : 0 < (x7_2.length : Int) := of_decide_eq_true am_
                obtain ⟨ad216, e216, hx216_0⟩ := Kd.at_int (Kd.Q_reads' HO_7.out).2.2 0 p216 q216
                cases e216
                have qi216 : (0 < x7_2.length) = True := eq_true (by omega)
                (try rw [show ((0 : Int)).toNat = 0 from rfl] at hx216_0)
                (try rw [Addr.add_zero'] at hx216_0)
                replace p216 := eq_true p216
                replace q216 := eq_true q216
                have q24 : (1 : Int) ≤ ((x7_2.length : Int) : Int) := of_decide_eq_true am_
                obtain ⟨i024, hi024, _, hsz24, _⟩ := info_parts info3
                have hcut24 := cut_from (P := Tryd.prog) 77 3 .i64 Tryd.underlying77 hi024 1 hsz24 (some ad216) x7_2.length co23 1 (by omega) q24
                have hr24 := Kd.Q_drop (k := (1 : Int).toNat) HO_7.out (by omega)
                obtain ⟨A24, hA24⟩ : ∃ A1, A1 = (if co23 = (1 : Int).toNat then (some ad216) else ((some ad216) : Option Addr).map (·.add ((1 : Int).toNat * 1))) := ⟨_, rfl⟩
                obtain ⟨c24, hc24⟩ : ∃ c1, c1 = co23 - (1 : Int).toNat := ⟨_, rfl⟩
                have hy24 : y217.length = x7_2.length - (1 : Int).toNat := (by rw [Ny217.out, List.length_drop])
                rw [← Ny217.out] at hr24
                rw [← hy24, ← hA24, ← hc24] at hcut24
                replace hr24 : Kd.Q (Kd.int .i64) 3 wr w.heap.size (fun _ => True) (.slice A24 y217.length c24) y217 := (by rw [hA24, hc24, hy24]; exact hr24)
                have HE24 : Aside0 ((Value.slice A24 y217.length c24).ownBlock = (.slice (some ad216) x7_2.length co23 : Value).ownBlock) := ⟨by rw [hA24]; split <;> (cases ((some ad216) : Option Addr) <;> rfl)⟩
                clear hy24 hi024 hsz24 HO_7 hA24 hc24
                have HO219 := Aside0.mk hr24
                clear hr24
                replace q24 := eq_true q24
                go_wp2
                go_ret2
                exact ⟨er_, bes_⟩
               ·rw [if_neg c22] at H
                have c22b0 : ((rd x7_2 0) == x14_1) = false := beq_eq_false_iff_ne.mpr c22
                have c22b1 : ((rd x7_2 0) != x14_1) = true := bne_iff_ne.mpr c22
                by_cases c25 : 0 ≤ (rd x7_2 0)
                ·rw [if_pos c25] at H
                 have c25b0 : decide (0 ≤ (rd x7_2 0)) = true := decide_eq_true c25
                 clear c25
                 by_cases c26 : (rd x7_2 0) < (x6_2.length : Int)
                 ·rw [if_pos c26] at H
                  have c26b0 : decide ((rd x7_2 0) < (x6_2.length : Int)) = true := decide_eq_true c26
                  clear c26
                  obtain ⟨bq27, hbq27⟩ : ∃ b_ : Bool, b_ = (rdOf false x6_2 (rd x7_2 0)) := ⟨_, rfl⟩
                  replace H : (if (bq27 = true) then (spec_HasCycle.l1 k2 l0 x14_1 x6_2 y217 l0 (l0.length : Int) x14_1) else ((spec_l8Uses.f k2 l0 (rd x7_2 0)).bind fun t222 => (if y217.length + t222.length < 17592186044416 then (spec_HasCycle.l1 k2 l0 x14_1 (x6_2.set ((rd x7_2 0) : Int).toNat true) (y217 ++ t222) l0 (l0.length : Int) x14_1) else (none)))) = some (r1, r2) := by rw [← hbq27] at H; exact H
                  have Nbq27 := Aside0.mk hbq27
                  clear hbq27
                  by_cases c28 : (bq27 = true)
                  ·subst c28
                   have H1 : (spec_HasCycle.l1 k2 l0 x14_1 x6_2 y217 l0 (l0.length : Int) x14_1) = some (r1, r2) := by rw [if_pos rfl] at H; exact H
                   clear H
                   have H := H1
                   clear H1
                   have H' := Aside0.mk H
                   clear H
                   obtain ⟨Ao29, co29, eo29, _⟩ := Kd.Q_slice HO_7.out
                   subst eo29
                   have p216 : 0 ≤ (0 : Int) := (by omega)
                   have q216 : 0 < (x7_2.length : Int) := of_decide_eq_true am_
                   obtain ⟨ad216, e216, hx216_0⟩ := Kd.at_int (Kd.Q_reads' HO_7.out).2.2 0 p216 q216
                   cases e216
                   have qi216 : (0 < x7_2.length) = True := eq_true (by omega)
                   (try rw [show ((0 : Int)).toNat = 0 from rfl] at hx216_0)
                   (try rw [Addr.add_zero'] at hx216_0)
                   replace p216 := eq_true p216
                   replace q216 := eq_true q216
                   have q30 : (1 : Int) ≤ ((x7_2.length : Int) : Int) := of_decide_eq_true am_
                   obtain ⟨i030, hi030, _, hsz30, _⟩ := info_parts info3
                   have hcut30 := cut_from (P := Tryd.prog) 77 3 .i64 Tryd.underlying77 hi030 1 hsz30 (some ad216) x7_2.length co29 1 (by omega) q30
                   have hr30 := Kd.Q_drop (k := (1 : Int).toNat) HO_7.out (by omega)
                   obtain ⟨A30, hA30⟩ : ∃ A1, A1 = (if co29 = (1 : Int).toNat then (some ad216) else ((some ad216) : Option Addr).map (·.add ((1 : Int).toNat * 1))) := ⟨_, rfl⟩
                   obtain ⟨c30, hc30⟩ : ∃ c1, c1 = co29 - (1 : Int).toNat := ⟨_, rfl⟩
                   have hy30 : y217.length = x7_2.length - (1 : Int).toNat := (by rw [Ny217.out, List.length_drop])
                   rw [← Ny217.out] at hr30
                   rw [← hy30, ← hA30, ← hc30] at hcut30
                   replace hr30 : Kd.Q (Kd.int .i64) 3 wr w.heap.size (fun _ => True) (.slice A30 y217.length c30) y217 := (by rw [hA30, hc30, hy30]; exact hr30)
                   have HE30 : Aside0 ((Value.slice A30 y217.length c30).ownBlock = (.slice (some ad216) x7_2.length co29 : Value).ownBlock) := ⟨by rw [hA30]; split <;> (cases ((some ad216) : Option Addr) <;> rfl)⟩
                   clear hy30 hi030 hsz30 HO_7 hA30 hc30
                   have HO219 := Aside0.mk hr30
                   clear hr30
                   replace q30 := eq_true q30
                   obtain ⟨Ao31, co31, eo31⟩ := Kd.R_slice HO_6.out
                   subst eo31
                   have p220 : 0 ≤ ((rd x7_2 0) : Int) := of_decide_eq_true am_
                   have q220 : (rd x7_2 0) < (x6_2.length : Int) := of_decide_eq_true am_
                   obtain ⟨ad220, e220, hx220_0⟩ := Kd.at_bool (Kd.R_reads' HO_6.out).2.2 (rd x7_2 0) p220 q220
                   (try rw [← Nbq27.out] at hx220_0)
                   cases e220
                   replace p220 := eq_true p220
                   replace q220 := eq_true q220
                   go_wp2
                   go_roundg k2
                   case measure => have := HK1.out; have := HK2.out; omega
                   case rel => exact ⟨(x6_2), (y217), H', ⟨by have := HK1.out; have := HK2.out; omega⟩, ⟨by (with_reducible repeat (first | apply Kd.R_alloc | apply Kd.R_drewN | apply Kd.R_drew)); exact HO_6.out⟩, ⟨by (with_reducible repeat (first | apply Kd.Q_alloc | apply Kd.Q_drewN | apply Kd.Q_drew)); exact HO219.out⟩, ⟨by (with_reducible repeat (first | refine blk_drewN ?_ _ | refine blk_drew ?_ | refine blk_alloc ?_ _)); exact BK209.out⟩, ⟨bes_⟩⟩
                  ·replace c28 := Bool.eq_false_iff.mpr c28
                   subst c28
                   have H1 : ((spec_l8Uses.f k2 l0 (rd x7_2 0)).bind fun t222 => (if y217.length + t222.length < 17592186044416 then (spec_HasCycle.l1 k2 l0 x14_1 (x6_2.set ((rd x7_2 0) : Int).toNat true) (y217 ++ t222) l0 (l0.length : Int) x14_1) else (none))) = some (r1, r2) := by rw [if_neg (show ¬ (false = true) by decide)] at H; exact H
                   clear H
                   have H := H1
                   clear H1
                   obtain ⟨y221, hy221⟩ : ∃ y_ : List Bool, y_ = (x6_2.set ((rd x7_2 0) : Int).toNat true) := ⟨_, rfl⟩
                   replace H : ((spec_l8Uses.f k2 l0 (rd x7_2 0)).bind fun t222 => (if y217.length + t222.length < 17592186044416 then (spec_HasCycle.l1 k2 l0 x14_1 y221 (y217 ++ t222) l0 (l0.length : Int) x14_1) else (none))) = some (r1, r2) := by first | (rw [hy221]; with_reducible exact H) | (have H2_ := (Option.bind_some _ _).symm.trans H; rw [hy221]; with_reducible exact H2_) | (have H2_ := (Option.bind_some _ _).symm.trans H; with_reducible exact H2_) | with_reducible exact H | (rw [hy221]; exact H) | exact H
                   have Ny221 := Aside0.mk hy221
                   clear hy221
                   replace H := Option.bind_eq_some_iff.mp H
                   obtain ⟨t222, A330, H⟩ := H
                   replace H : (if y217.length + t222.length < 17592186044416 then (spec_HasCycle.l1 k2 l0 x14_1 y221 (y217 ++ t222) l0 (l0.length : Int) x14_1) else (none)) = some (r1, r2) := H
                   have A33 := Aside0.mk A330
                   clear A330
                   by_cases c34 : y217.length + t222.length < 17592186044416
                   ·rw [if_pos c34] at H
                    have LMc34 := Aside0.mk c34
                    clear c34
                    obtain ⟨y225, hy225⟩ : ∃ y_ : List Int, y_ = (y217 ++ t222) := ⟨_, rfl⟩
                    replace H : (spec_HasCycle.l1 k2 l0 x14_1 y221 y225 l0 (l0.length : Int) x14_1) = some (r1, r2) := by first | (rw [hy225]; with_reducible exact H) | (have H2_ := (Option.bind_some _ _).symm.trans H; rw [hy225]; with_reducible exact H2_) | (have H2_ := (Option.bind_some _ _).symm.trans H; with_reducible exact H2_) | with_reducible exact H | (rw [hy225]; exact H) | exact H
                    have Ny225 := Aside0.mk hy225
                    clear hy225
                    have H' := Aside0.mk H
                    clear H
                    obtain ⟨Ao35, co35, eo35, _⟩ := Kd.Q_slice HO_7.out
                    subst eo35
                    have p216 : 0 ≤ (0 : Int) := (by omega)
                    have q216 : 0 < (x7_2.length : Int) := of_decide_eq_true am_
                    obtain ⟨ad216, e216, hx216_0⟩ := Kd.at_int (Kd.Q_reads' HO_7.out).2.2 0 p216 q216
                    cases e216
                    have qi216 : (0 < x7_2.length) = True := eq_true (by omega)
                    (try rw [show ((0 : Int)).toNat = 0 from rfl] at hx216_0)
                    (try rw [Addr.add_zero'] at hx216_0)
                    replace p216 := eq_true p216
                    replace q216 := eq_true q216
                    have q36 : (1 : Int) ≤ ((x7_2.length : Int) : Int) := of_decide_eq_true am_
                    obtain ⟨i036, hi036, _, hsz36, _⟩ := info_parts info3
                    have hcut36 := cut_from (P := Tryd.prog) 77 3 .i64 Tryd.underlying77 hi036 1 hsz36 (some ad216) x7_2.length co35 1 (by omega) q36
                    have hr36 := Kd.Q_drop (k := (1 : Int).toNat) HO_7.out (by omega)
                    obtain ⟨A36, hA36⟩ : ∃ A1, A1 = (if co35 = (1 : Int).toNat then (some ad216) else ((some ad216) : Option Addr).map (·.add ((1 : Int).toNat * 1))) := ⟨_, rfl⟩
                    obtain ⟨c36, hc36⟩ : ∃ c1, c1 = co35 - (1 : Int).toNat := ⟨_, rfl⟩
                    have hy36 : y217.length = x7_2.length - (1 : Int).toNat := (by rw [Ny217.out, List.length_drop])
                    rw [← Ny217.out] at hr36
                    rw [← hy36, ← hA36, ← hc36] at hcut36
                    replace hr36 : Kd.Q (Kd.int .i64) 3 wr w.heap.size (fun _ => True) (.slice A36 y217.length c36) y217 := (by rw [hA36, hc36, hy36]; exact hr36)
                    have HE36 : Aside0 ((Value.slice A36 y217.length c36).ownBlock = (.slice (some ad216) x7_2.length co35 : Value).ownBlock) := ⟨by rw [hA36]; split <;> (cases ((some ad216) : Option Addr) <;> rfl)⟩
                    clear hy36 hi036 hsz36 HO_7 hA36 hc36
                    have HO219 := Aside0.mk hr36
                    clear hr36
                    replace q36 := eq_true q36
                    obtain ⟨Ao37, co37, eo37⟩ := Kd.R_slice HO_6.out
                    subst eo37
                    have p220 : 0 ≤ ((rd x7_2 0) : Int) := of_decide_eq_true am_
                    have q220 : (rd x7_2 0) < (x6_2.length : Int) := of_decide_eq_true am_
                    obtain ⟨ad220, e220, hx220_0⟩ := Kd.at_bool (Kd.R_reads' HO_6.out).2.2 (rd x7_2 0) p220 q220
                    (try rw [← Nbq27.out] at hx220_0)
                    (try rw [← Nbq27.out] at A33)
                    cases e220
                    replace p220 := eq_true p220
                    replace q220 := eq_true q220
                    have p32 : 0 ≤ ((rd x7_2 0) : Int) := of_decide_eq_true am_
                    have q32 : ((rd x7_2 0) : Int) < ((x6_2.length : Int) : Int) := of_decide_eq_true am_
                    obtain ⟨go32, co32, eo32, gb32, gl32, cl32, HG32⟩ := Kd.R_form HO_6.out (by omega)
                    (first | cases eo32 | (injection eo32 with ea_ en_ ec_; (first | subst ea_ | (injection ea_ with ea_; subst ea_)); subst ec_; clear en_))
                    have GB32 := Aside0.mk gb32
                    have GG32 := Aside0.mk HG32
                    clear gb32 gl32 HG32
                    (first | simp only [add_plain] at hx220_0 | skip)
                    obtain ⟨hx32_0, hf32_0⟩ := Kd.R_celln false HO_6.out ((rd x7_2 0) : Int) p32 q32
                    replace p32 := eq_true p32
                    replace q32 := eq_true q32
                    have HP38 := Kd.R_putg HO_6.out ((rd x7_2 0) : Int) true
                    go_wp2_with (first | ((with_reducible refine gate_store (t := 4) (p := 46) rfl ?_); refine store_event (t := 4) (p := 46) (v := ?vo_w39) (w1 := (wr.setCell ⟨go32, ((rd x7_2 0) : Int).toNat, none⟩ (.bool true))) ?hg ?ho ?hn ?hr ?_; (case ho => rfl); (case hg => rfl); (case hn => rfl); (case hr => first | (go_simp; done) | (go_simp; rfl)); intro w39 hw; have hg : wr.grownBy w39 (some go32) := (by rw [hw]; exact HP38.2); have hp_ : Kd.R Kd.bool 4 w39 w.heap.size (fun _ => True) (.slice (some ⟨go32, 0, none⟩) x6_2.length co37) y221 := (by rw [hw, Ny221.out]; exact HP38.1); clear HP38; have n0_ := Aside0.mk (hp_); have n1_ := Aside0.mk (Kd.Q_over' (v := (.slice (some ⟨go32, 0, none⟩) x6_2.length co37)) (by (with_reducible repeat (first | apply Kd.Q_alloc | apply Kd.Q_drewN | apply Kd.Q_drew)); exact HO219.out) (Kd.R_typed HO_6.out) (by decide) hg); have n2_ := Aside0.mk (blk_grown (g := gb209) (o := .cells #[.string ((rd_T69 l0 x14_1).f0), .int .i64 ((rd_T69 l0 x14_1).f1), .slice A208_2 ((rd_T69 l0 x14_1).f2).length c208_2, .string ((rd_T69 l0 x14_1).f3)] 69 (0, 0)) (bk_ BK209.out) hg (Kd.R_ne HO_6.out BK209.out (by decide))); have n3_ := Aside0.mk ((by rw [hw]; exact below_set (HB.out) GB32.out : Below w.heap.size w w39)); clear HO_6; clear HO219; clear BK209; clear HB; have HO_6 := n0_; have HO219 := n1_; have BK209 := n2_; have HB := n3_; clear n0_ n1_ n2_ n3_; clear hg hw hp_) | ((with_reducible refine gate_callee (f := 49) rfl ?_); refine goesL_ (some 50) rfl rfl Tryd.func49 (by kernel_rfl) rfl #[.slice (some ad208) l0.length c0, .int .i64 (rd x7_2 0)] rfl au_ ?_; (with_reducible refine (spec_l8Uses.calls k2 _ _ l0 (rd x7_2 0) t222 _ ?side1 ?side2 A33.out).mono ?_); (case side1 => exact cs_ (Kd.C_below HR0.out HB.out)); (case side2 => exact HC0.out); rintro e w40 ⟨v223, rfl, ho0, hb⟩; refine ⟨_, rfl, ?_⟩; have n0_ := Aside0.mk (Kd.R_below (kdR_ HO_6.out) hb); have n1_ := Aside0.mk (Kd.Q_elder' (by (with_reducible repeat (first | apply Kd.Q_alloc | apply Kd.Q_drewN | apply Kd.Q_drew)); exact HO219.out) (Kd.R_base ho0) hb); have n2_ := Aside0.mk (Kd.R_lower (Kd.R_new' ho0 (Kd.Q_lt (by (with_reducible repeat (first | apply Kd.Q_alloc | apply Kd.Q_drewN | apply Kd.Q_drew)); exact HO219.out))) (below_size bes_)); have n3_ := Aside0.mk (blk_below (g := gb209) (o := .cells #[.string ((rd_T69 l0 x14_1).f0), .int .i64 ((rd_T69 l0 x14_1).f1), .slice A208_2 ((rd_T69 l0 x14_1).f2).length c208_2, .string ((rd_T69 l0 x14_1).f3)] 69 (0, 0)) (bk_ BK209.out) hb); have n4_ := Aside0.mk (below_step bes_ hb); clear HO_6; clear HO219; clear BK209; clear HB; have HO_6 := n0_; have HO219 := n1_; have HO224 := n2_; have BK209 := n3_; have HB := n4_; clear n0_ n1_ n2_ n3_ n4_; (try clear hb);(try clear hb2);(try clear hk);(try clear hi);(try clear ho0); obtain ⟨Ao42, co42, eo42⟩ := Kd.R_slice HO224.out; subst eo42) | ((with_reducible refine gate_builtin (b := .append) (xs := #[.tmp 47, .tmp 50]) rfl ?_); at_builtin; refine Q_append_rows_ (Kd.int .i64) (w0 := w) w.heap.size rfl (.tmp 47) (.tmp 50) 77 3 (.int .i64 0) 8 rfl Tryd.underlying77 info3 rfl (by decide) (by omega) (.slice A36 y217.length c36) y217 t222 _ _ _ (fun k_ => some k_ ≠ (.slice Ao42 t222.length co42 : Value).ownBlock) (fun _ => False) rfl rfl ?aO ?aR (fun _ _ h => h) (fun _ h => h.elim) ?aF ?aB ?aS ?aL ?_; (case aR => exact cs_ (Kd.R_reads' HO224.out).2.2); (case aB => exact bes_); (case aF => exact (fun k_ hk => Kd.fresh' (Kd.R_lt (kdR_ HO224.out)) k_ hk)); (case aO => exact (by (with_reducible repeat (first | apply Kd.Q_alloc | apply Kd.Q_drewN | apply Kd.Q_drew)); exact Kd.Q_mono HO219.out (fun _ hk => hk.2))); (case aS => exact (below_size bes_)); (case aL => have := LMc34.out; omega); intro v226 w41 ho hb hg hat; rw [← Ny225.out] at ho; have n0_ := Aside0.mk (Kd.R_over' (kdR_ HO_6.out) (Kd.Q_typed (by (with_reducible repeat (first | apply Kd.Q_alloc | apply Kd.Q_drewN | apply Kd.Q_drew)); exact HO219.out)) (by decide) hg); have n1_ := Aside0.mk (blk_grown (g := gb209) (o := .cells #[.string ((rd_T69 l0 x14_1).f0), .int .i64 ((rd_T69 l0 x14_1).f1), .slice A208_2 ((rd_T69 l0 x14_1).f2).length c208_2, .string ((rd_T69 l0 x14_1).f3)] 69 (0, 0)) (bk_ BK209.out) hg (Kd.Q_ne HO219.out BK209.out (by decide))); have n2_ := Aside0.mk (Kd.R_after (ok := (fun _ => True)) (kdR_ HO224.out) hg hat); have n3_ := Aside0.mk (hb); have n4_ := Aside0.mk (ho); clear HO_6; clear BK209; clear HO224; clear HB; clear HO219; have HO_6 := n0_; have BK209 := n1_; have HO224 := n2_; have HB := n3_; have HO227 := n4_; clear n0_ n1_ n2_ n3_ n4_; clear ho hb hg hat))
                    go_roundg k2
                    case measure => have := HK1.out; have := HK2.out; omega
                    case rel => exact ⟨(y221), (y225), H', ⟨by have := HK1.out; have := HK2.out; omega⟩, ⟨by (with_reducible repeat (first | apply Kd.R_alloc | apply Kd.R_drewN | apply Kd.R_drew)); exact HO_6.out⟩, ⟨by (with_reducible repeat (first | apply Kd.Q_alloc | apply Kd.Q_drewN | apply Kd.Q_drew)); exact Kd.Q_mono HO227.out (fun _ hk => trivial)⟩, ⟨by (with_reducible repeat (first | refine blk_drewN ?_ _ | refine blk_drew ?_ | refine blk_alloc ?_ _)); exact BK209.out⟩, ⟨bes_⟩⟩
                   ·rw [if_neg c34] at H
                    exact absurd H (by simp)
                 ·rw [if_neg c26] at H
                  exact absurd H (by simp)
                ·rw [if_neg c25] at H
                 exact absurd H (by simp)
              ·rw [if_neg c21] at H
               exact absurd H (by simp)
             ·rw [if_neg c20] at H
              exact absurd H (by simp)
            ·rw [if_neg c19] at H
             have c19b0 : decide (0 < (x7_2.length : Int)) = false := decide_eq_false c19
             have c19b1 : decide (0 < x7_2.length) = false := decide_eq_false (by omega)
             clear c19
             have H' := Aside0.mk H
             clear H
             obtain ⟨Ao43, co43, eo43, _⟩ := Kd.Q_slice HO_7.out
             subst eo43
             go_wp2
             go_roundg k2
             case measure => have := HK1.out; have := HK2.out; omega
             case rel => exact ⟨(wrap64 (x14_1 + 1)), sv_, H', ⟨by have := HK1.out; have := HK2.out; omega⟩, ⟨bes_⟩⟩
         ·rw [if_neg c12] at H
          exact absurd H (by simp)
        ·rw [if_neg c11] at H
         exact absurd H (by simp)
      ·rw [if_neg c7] at H
       exact absurd H (by simp)
     ·rw [if_neg c6] at H
      exact absurd H (by simp)
    ·rw [if_neg c5] at H
     have c5b0 : decide (x14_1 < (l0.length : Int)) = false := decide_eq_false c5
     clear c5
     simp only [Option.some.injEq, Prod.mk.injEq] at H
     obtain ⟨rfl, rfl⟩ := H
     go_wp2
     go_ret2
     exact ⟨er_, bel_⟩
 ·replace c3 := Bool.eq_false_iff.mpr c3
  subst c3
  have H1 : (some (false, false)) = some (r1, r2) := by rw [if_neg (show ¬ (false = true) by decide)] at H; exact H
  clear H
  have H := H1
  clear H1
  simp only [Option.some.injEq, Prod.mk.injEq] at H
  obtain ⟨rfl, rfl⟩ := H
  go_enter Tryd.func18, Tryd.ntmps18
  go_wp2_with (first | ((with_reducible refine gate_callee (f := 37) rfl ?_); refine goesL_ (some 10) rfl rfl Tryd.func37 (by kernel_rfl) rfl #[.slice A0 l0.length c0] rfl au_ ?_; (with_reducible refine (spec_GoodNodes.calls k _ _ l0 false _ ?side1 ?side2 A2.out).mono ?_); (case side1 => exact cs_ HR0.out); (case side2 => exact HC0.out); rintro e w44 ⟨rfl, hb⟩; refine ⟨_, rfl, ?_⟩; have n0_ := Aside0.mk (below_step bel_ hb); clear HB; have HB := n0_; clear n0_; (try clear hb);(try clear hb2);(try clear hk);(try clear hi)))
  go_ret2
  exact ⟨er_, bel_⟩

/-! ### impl_within: function 33 -/
def impl_within.f (a0 : Int) (a1 : Int) (a2 : Int) : Option (Bool) := if a1 ≤ a0 then (some (decide (a0 ≤ a2))) else (some false)
set_option maxHeartbeats 8000000 in
set_option maxRecDepth 100000 in
theorem impl_within.calls (a0 : Int) (a1 : Int) (a2 : Int) (r : Bool) (w : World) (h : impl_within.f a0 a1 a2 = some r) :
  Calls Tryd.prog 33 #[.int .i64 a0, .int .i64 a1, .int .i64 a2] w fun e w' => e = .returned (.bool r) ∧ Drawn0 w w' := by
 have H : (if a1 ≤ a0 then (some (decide (a0 ≤ a2))) else (some false)) = some r := h
 clear h
 by_cases c4 : a1 ≤ a0
 ·rw [if_pos c4] at H
  have c4b0 : decide (a1 ≤ a0) = true := decide_eq_true c4
  clear c4
  obtain rfl := Option.some.inj H
  go_enter Tryd.func33, Tryd.ntmps33
  go_wp2
  go_ret
  exact ⟨by first | rfl | (simp; done) | (simp [*]; done), by repeat (first | exact Drawn0.refl _ | apply Drawn0.step)⟩
 ·rw [if_neg c4] at H
  have c4b0 : decide (a1 ≤ a0) = false := decide_eq_false c4
  clear c4
  obtain rfl := Option.some.inj H
  go_enter Tryd.func33, Tryd.ntmps33
  go_wp2
  go_ret
  exact ⟨by first | rfl | (simp; done) | (simp [*]; done), by repeat (first | exact Drawn0.refl _ | apply Drawn0.step)⟩

-- NOT PRINTED: function 162 (utf8_decodeRuneInStringSlow)

/-! ### utf8_DecodeRuneInString: function 137 -/
def laid197_ren_ : Go.Shelf.Ren := ⟨fun | 197 => 137 | 260 => 162 | n => n, fun | 46 => 158 | 105 => 149 | 119 => 182 | 138 => 184 | 139 => 185 | n => n, fun | 1 => 0 | 3 => 1 | 4 => 2 | n => n⟩
theorem laid197_ : Go.Proofs.Lays.n197 Tryd.prog laid197_ren_ := {
 mixed := by kernel_rfl
 f197 := Tryd.func137.trans (congrArg some (by kernel_rfl))
 f260 := Tryd.func162.trans (congrArg some (by kernel_rfl))
 t0 := Tryd.underlying0
 a0 := Tryd.isAgg0
 z0 := Tryd.sizeOf0
 v0 := Tryd.zeroValue0
 t3 := Tryd.underlying3
 a3 := Tryd.isAgg3
 z3 := Tryd.sizeOf3
 v3 := Tryd.zeroValue3
 t4 := Tryd.underlying4
 a4 := Tryd.isAgg4
 z4 := Tryd.sizeOf4
 v4 := Tryd.zeroValue4
 t5 := Tryd.underlying5
 a5 := Tryd.isAgg5
 z5 := Tryd.sizeOf5
 v5 := Tryd.zeroValue5
 t9 := Tryd.underlying9
 a9 := Tryd.isAgg9
 z9 := Tryd.sizeOf9
 v9 := Tryd.zeroValue9
 t21 := Tryd.underlying21
 a21 := Tryd.isAgg21
 z21 := Tryd.sizeOf21
 v21 := Tryd.zeroValue21
 t46 := Tryd.underlying158
 a46 := Tryd.isAgg158
 z46 := Tryd.sizeOf158
 v46 := Tryd.zeroValue158
 t105 := Tryd.underlying149
 a105 := Tryd.isAgg149
 z105 := Tryd.sizeOf149
 v105 := Tryd.zeroValue149
 t119 := Tryd.underlying182
 a119 := Tryd.isAgg182
 z119 := Tryd.sizeOf182
 t138 := Tryd.underlying184
 a138 := Tryd.isAgg184
 z138 := Tryd.sizeOf184
 v138 := Tryd.zeroValue184
 t139 := Tryd.underlying185
 a139 := Tryd.isAgg185
 z139 := Tryd.sizeOf185
 v139 := Tryd.zeroValue185
 g3 := by kernel_rfl
 g4 := by kernel_rfl }

theorem laid260_ : Go.Proofs.Lays.n260 Tryd.prog laid197_ren_ := { laid197_ with }
/-- the two tables of unicode/utf8 lie in this world. -/
def U8Tabs_ (w : World) : Prop := Lib.Utf8Tabs (laid197_ren_.g 3) (laid197_ren_.g 4) w
theorem utf8_keep_ {w w' : World} (h : U8Tabs_ w) (hb : Below w.heap.size w w') : U8Tabs_ w' := by
 have key : ∀ (g i : Nat) (v : Value), w.cell? ⟨g, i, none⟩ = some v → w'.cell? ⟨g, i, none⟩ = some v := by
  intro g i v hc
  exact (hb.cell (World.block_lt_of_cell? w _ hc)).trans hc
 exact ⟨fun c hc => key _ _ _ (h.1 c hc), fun i hi => ⟨key _ _ _ (h.2 i hi).1, key _ _ _ (h.2 i hi).2⟩⟩
theorem utf8_drawn_ {w w' : World} (h : U8Tabs_ w) (hb : Drawn0 w w') : U8Tabs_ w' := by
 obtain ⟨n, rfl⟩ := hb
 exact utf8_keep_ h (pw_below_drewN (Below.refl _ _) n)
def utf8_DecodeRuneInString.f (a0 : ByteArray) : Option (Int × Int) := some (((Lib.decodeGo a0).1 : Int), ((Lib.decodeGo a0).2 : Int))
theorem utf8_DecodeRuneInString.calls (a0 : ByteArray) (r1 : Int) (r2 : Int) (w : World) (h : utf8_DecodeRuneInString.f a0 = some (r1, r2)) (hT_ : U8Tabs_ w) :
  Calls Tryd.prog 137 #[.string a0] w fun e w' => e = .returned (.tuple #[.int .i32 r1, .int .i64 r2]) ∧ Below w.heap.size w w' := by
 unfold utf8_DecodeRuneInString.f at h
 simp only [Option.some.injEq, Prod.mk.injEq] at h
 obtain ⟨rfl, rfl⟩ := h
 exact Any.utf8_DecodeRuneInString laid197_ a0 w hT_

/-! ### impl_mayRune: function 138 -/
def impl_mayRune.f (a0 : Int) : Option (Bool) := if a0 = 9 then (some true) else (if a0 = 10 then (some true) else (if a0 = 13 then (some true) else ((impl_within.f a0 32 1114111).bind fun t228 => (if t228 = true then ((impl_within.f a0 55296 57343).bind fun t229 => (some (!t229))) else (some false)))))
set_option maxHeartbeats 8000000 in
set_option maxRecDepth 100000 in
theorem impl_mayRune.calls (a0 : Int) (r : Bool) (w : World) (h : impl_mayRune.f a0 = some r) :
  Calls Tryd.prog 138 #[.int .i64 a0] w fun e w' => e = .returned (.bool r) ∧ Drawn0 w w' := by
 have H : (if a0 = 9 then (some true) else (if a0 = 10 then (some true) else (if a0 = 13 then (some true) else ((impl_within.f a0 32 1114111).bind fun t228 => (if t228 = true then ((impl_within.f a0 55296 57343).bind fun t229 => (some (!t229))) else (some false)))))) = some r := h
 clear h
 by_cases c2 : a0 = 9
 ·rw [if_pos c2] at H
  have c2b0 : (a0 == 9) = true := beq_iff_eq.mpr c2
  have c2b1 : (a0 != 9) = false := bne_eq_false_iff_eq.mpr c2
  clear c2
  obtain rfl := Option.some.inj H
  go_enter Tryd.func138, Tryd.ntmps138
  go_wp2
  go_ret
  exact ⟨by first | rfl | (simp; done) | (simp [*]; done), by repeat (first | exact Drawn0.refl _ | apply Drawn0.step)⟩
 ·rw [if_neg c2] at H
  have c2b0 : (a0 == 9) = false := beq_eq_false_iff_ne.mpr c2
  have c2b1 : (a0 != 9) = true := bne_iff_ne.mpr c2
  by_cases c3 : a0 = 10
  ·rw [if_pos c3] at H
   have c3b0 : (a0 == 10) = true := beq_iff_eq.mpr c3
   have c3b1 : (a0 != 10) = false := bne_eq_false_iff_eq.mpr c3
   clear c3
   obtain rfl := Option.some.inj H
   go_enter Tryd.func138, Tryd.ntmps138
   go_wp2
   go_ret
   exact ⟨by first | rfl | (simp; done) | (simp [*]; done), by repeat (first | exact Drawn0.refl _ | apply Drawn0.step)⟩
  ·rw [if_neg c3] at H
   have c3b0 : (a0 == 10) = false := beq_eq_false_iff_ne.mpr c3
   have c3b1 : (a0 != 10) = true := bne_iff_ne.mpr c3
   by_cases c4 : a0 = 13
   ·rw [if_pos c4] at H
    have c4b0 : (a0 == 13) = true := beq_iff_eq.mpr c4
    have c4b1 : (a0 != 13) = false := bne_eq_false_iff_eq.mpr c4
    clear c4
    obtain rfl := Option.some.inj H
    go_enter Tryd.func138, Tryd.ntmps138
    go_wp2
    go_ret
    exact ⟨by first | rfl | (simp; done) | (simp [*]; done), by repeat (first | exact Drawn0.refl _ | apply Drawn0.step)⟩
   ·rw [if_neg c4] at H
    have c4b0 : (a0 == 13) = false := beq_eq_false_iff_ne.mpr c4
    have c4b1 : (a0 != 13) = true := bne_iff_ne.mpr c4
    replace H := Option.bind_eq_some_iff.mp H
    obtain ⟨t228, A50, H⟩ := H
    replace H : (if t228 = true then ((impl_within.f a0 55296 57343).bind fun t229 => (some (!t229))) else (some false)) = some r := H
    have A5 := Aside0.mk A50
    clear A50
    by_cases c6 : t228 = true
    ·subst c6
     have H1 : ((impl_within.f a0 55296 57343).bind fun t229 => (some (!t229))) = some r := by rw [if_pos rfl] at H; exact H
     clear H
     have H := H1
     clear H1
     replace H := Option.bind_eq_some_iff.mp H
     obtain ⟨t229, A70, H⟩ := H
     replace H : (some (!t229)) = some r := H
     have A7 := Aside0.mk A70
     clear A70
     obtain rfl := Option.some.inj H
     go_enter Tryd.func138, Tryd.ntmps138
     go_wp2_with (first | (go_at_call 33; (with_reducible refine (impl_within.calls a0 32 1114111 true _ A5.out).mono ?_); rintro e w' ⟨rfl, ⟨nd, rfl⟩⟩) | (go_at_call 33; (with_reducible refine (impl_within.calls a0 55296 57343 t229 _ A7.out).mono ?_); rintro e w' ⟨rfl, ⟨nd, rfl⟩⟩))
     go_ret
     exact ⟨by first | rfl | (simp; done) | (simp [*]; done), by repeat (first | exact Drawn0.refl _ | apply Drawn0.step)⟩
    ·replace c6 := Bool.eq_false_iff.mpr c6
     subst c6
     have H1 : (some false) = some r := by rw [if_neg (show ¬ (false = true) by decide)] at H; exact H
     clear H
     have H := H1
     clear H1
     obtain rfl := Option.some.inj H
     go_enter Tryd.func138, Tryd.ntmps138
     go_wp2_with (first | (go_at_call 33; (with_reducible refine (impl_within.calls a0 32 1114111 false _ A5.out).mono ?_); rintro e w' ⟨rfl, ⟨nd, rfl⟩⟩))
     go_ret
     exact ⟨by first | rfl | (simp; done) | (simp [*]; done), by repeat (first | exact Drawn0.refl _ | apply Drawn0.step)⟩

/-! ### impl_badByte: function 83 -/
def impl_badByte.l0 : Nat → ByteArray → Int → Option (Int)
 | 0, _, _ => none
 | k + 1, x0, x3 => if x3 < (x0.size : Int) then (if 0 ≤ x3 then (if x3 ≤ (x0.size : Int) then ((utf8_DecodeRuneInString.f (x0.extract (x3 : Int).toNat x0.size)).bind fun bt230 => (if bt230.1 = 65533 then (if bt230.2 = 1 then (some x3) else ((impl_mayRune.f (wrap64 (bt230.1))).bind fun t232 => (if t232 = true then (impl_badByte.l0 k x0 (wrap64 (x3 + bt230.2))) else (some x3)))) else ((impl_mayRune.f (wrap64 (bt230.1))).bind fun t233 => (if t233 = true then (impl_badByte.l0 k x0 (wrap64 (x3 + bt230.2))) else (some x3))))) else (none)) else (none)) else (some (-1))
def impl_badByte.f (k : Nat) (a0 : ByteArray) : Option (Int) := impl_badByte.l0 k a0 0
set_option maxHeartbeats 8000000 in
set_option maxRecDepth 100000 in
theorem impl_badByte.calls (k : Nat) (a0 : ByteArray) (r : Int) (w : World) (h : impl_badByte.f k a0 = some r) (hT_ : U8Tabs_ w) :
  Calls Tryd.prog 83 #[.string a0] w fun e w' => e = .returned (.int .i64 r) ∧ Below w.heap.size w w' := by
 have HB := Aside0.mk (Below.refl w.heap.size w)
 have H : (impl_badByte.l0 k a0 0) = some r := h
 clear h
 have H' := Aside0.mk H
 clear H
 go_enter Tryd.func83, Tryd.ntmps83
 go_wp2
 go_loopg [3] k (fun kq v3 w' => ∃ (x3_1 : Int), v3 = .int .i64 x3_1 ∧ Aside0 (impl_badByte.l0 kq a0 x3_1 = some r) ∧ Aside0 (kq ≤ k) ∧ Aside0 (Below w.heap.size w w'))
 case atStart => exact ⟨(0), sv_, H', ⟨Nat.le_refl _⟩, ⟨bel_⟩⟩
 case round =>
  clear H'
  obtain ⟨x3_1, rfl, HA, HK1, HB⟩ := hrel
  cases gk with
  | zero => exact absurd HA.out (by simp [impl_badByte.l0])
  | succ k1 =>
   have H := HA.out
   clear HA
   simp only [impl_badByte.l0] at H
   by_cases c2 : x3_1 < (a0.size : Int)
   ·rw [if_pos c2] at H
    have c2b0 : decide (x3_1 < (a0.size : Int)) = true := decide_eq_true c2
    clear c2
    by_cases c3 : 0 ≤ x3_1
    ·rw [if_pos c3] at H
     have c3b0 := eq_true c3
     have c3b1 : decide (0 ≤ x3_1) = true := decide_eq_true c3
     clear c3
     by_cases c4 : x3_1 ≤ (a0.size : Int)
     ·rw [if_pos c4] at H
      have c4b0 := eq_true c4
      have c4b1 : decide (x3_1 ≤ (a0.size : Int)) = true := decide_eq_true c4
      clear c4
      replace H := Option.bind_eq_some_iff.mp H
      obtain ⟨⟨t230, t231⟩, A50, H⟩ := H
      replace H : (if t230 = 65533 then (if t231 = 1 then (some x3_1) else ((impl_mayRune.f (wrap64 (t230))).bind fun t232 => (if t232 = true then (impl_badByte.l0 k1 a0 (wrap64 (x3_1 + t231))) else (some x3_1)))) else ((impl_mayRune.f (wrap64 (t230))).bind fun t233 => (if t233 = true then (impl_badByte.l0 k1 a0 (wrap64 (x3_1 + t231))) else (some x3_1)))) = some r := H
      have A5 := Aside0.mk A50
      clear A50
      by_cases c6 : t230 = 65533
      ·rw [if_pos c6] at H
       have c6b0 : (t230 == 65533) = true := beq_iff_eq.mpr c6
       have c6b1 : (t230 != 65533) = false := bne_eq_false_iff_eq.mpr c6
       clear c6
       by_cases c7 : t231 = 1
       ·rw [if_pos c7] at H
        have c7b0 : (t231 == 1) = true := beq_iff_eq.mpr c7
        have c7b1 : (t231 != 1) = false := bne_eq_false_iff_eq.mpr c7
        clear c7
        obtain rfl := Option.some.inj H
        go_wp2_with (first | ((with_reducible refine gate_callee (f := 137) rfl ?_); refine goesL_ (some 14) rfl rfl Tryd.func137 (by kernel_rfl) rfl #[.string (a0.extract (x3_1 : Int).toNat a0.size)] rfl au_ ?_; (with_reducible refine (utf8_DecodeRuneInString.calls (a0.extract (x3_1 : Int).toNat a0.size) t230 t231 _ A5.out ?hT_).mono ?_); (case hT_ => exact utf8_keep_ hT_ bel_); rintro e w8 ⟨rfl, hb⟩; refine ⟨_, rfl, ?_⟩; have n0_ := Aside0.mk (below_step bel_ hb); clear HB; have HB := n0_; clear n0_; (try clear hb);(try clear hb2);(try clear hk);(try clear hi)))
        go_ret
        exact ⟨er_, bel_⟩
       ·rw [if_neg c7] at H
        have c7b0 : (t231 == 1) = false := beq_eq_false_iff_ne.mpr c7
        have c7b1 : (t231 != 1) = true := bne_iff_ne.mpr c7
        replace H := Option.bind_eq_some_iff.mp H
        obtain ⟨t232, A90, H⟩ := H
        replace H : (if t232 = true then (impl_badByte.l0 k1 a0 (wrap64 (x3_1 + t231))) else (some x3_1)) = some r := H
        have A9 := Aside0.mk A90
        clear A90
        by_cases c10 : t232 = true
        ·subst c10
         have H1 : (impl_badByte.l0 k1 a0 (wrap64 (x3_1 + t231))) = some r := by rw [if_pos rfl] at H; exact H
         clear H
         have H := H1
         clear H1
         have H' := Aside0.mk H
         clear H
         go_wp2_with (first | ((with_reducible refine gate_callee (f := 137) rfl ?_); refine goesL_ (some 14) rfl rfl Tryd.func137 (by kernel_rfl) rfl #[.string (a0.extract (x3_1 : Int).toNat a0.size)] rfl au_ ?_; (with_reducible refine (utf8_DecodeRuneInString.calls (a0.extract (x3_1 : Int).toNat a0.size) t230 t231 _ A5.out ?hT_).mono ?_); (case hT_ => exact utf8_keep_ hT_ bel_); rintro e w11 ⟨rfl, hb⟩; refine ⟨_, rfl, ?_⟩; have n0_ := Aside0.mk (below_step bel_ hb); clear HB; have HB := n0_; clear n0_; (try clear hb);(try clear hb2);(try clear hk);(try clear hi)) | (go_at_call 138; (with_reducible refine (impl_mayRune.calls (wrap64 (t230)) true _ A9.out).mono ?_); rintro e w' ⟨rfl, ⟨nd, rfl⟩⟩))
         go_roundg k1
         case measure => have := HK1.out; omega
         case rel => exact ⟨(wrap64 (x3_1 + t231)), sv_, H', ⟨by have := HK1.out; omega⟩, ⟨bel_⟩⟩
        ·replace c10 := Bool.eq_false_iff.mpr c10
         subst c10
         have H1 : (some x3_1) = some r := by rw [if_neg (show ¬ (false = true) by decide)] at H; exact H
         clear H
         have H := H1
         clear H1
         obtain rfl := Option.some.inj H
         go_wp2_with (first | ((with_reducible refine gate_callee (f := 137) rfl ?_); refine goesL_ (some 14) rfl rfl Tryd.func137 (by kernel_rfl) rfl #[.string (a0.extract (x3_1 : Int).toNat a0.size)] rfl au_ ?_; (with_reducible refine (utf8_DecodeRuneInString.calls (a0.extract (x3_1 : Int).toNat a0.size) t230 t231 _ A5.out ?hT_).mono ?_); (case hT_ => exact utf8_keep_ hT_ bel_); rintro e w12 ⟨rfl, hb⟩; refine ⟨_, rfl, ?_⟩; have n0_ := Aside0.mk (below_step bel_ hb); clear HB; have HB := n0_; clear n0_; (try clear hb);(try clear hb2);(try clear hk);(try clear hi)) | (go_at_call 138; (with_reducible refine (impl_mayRune.calls (wrap64 (t230)) false _ A9.out).mono ?_); rintro e w' ⟨rfl, ⟨nd, rfl⟩⟩))
         go_ret
         exact ⟨er_, bel_⟩
      ·rw [if_neg c6] at H
       have c6b0 : (t230 == 65533) = false := beq_eq_false_iff_ne.mpr c6
       have c6b1 : (t230 != 65533) = true := bne_iff_ne.mpr c6
       replace H := Option.bind_eq_some_iff.mp H
       obtain ⟨t233, A130, H⟩ := H
       replace H : (if t233 = true then (impl_badByte.l0 k1 a0 (wrap64 (x3_1 + t231))) else (some x3_1)) = some r := H
       have A13 := Aside0.mk A130
       clear A130
       by_cases c14 : t233 = true
       ·subst c14
        have H1 : (impl_badByte.l0 k1 a0 (wrap64 (x3_1 + t231))) = some r := by rw [if_pos rfl] at H; exact H
        clear H
        have H := H1
        clear H1
        have H' := Aside0.mk H
        clear H
        go_wp2_with (first | ((with_reducible refine gate_callee (f := 137) rfl ?_); refine goesL_ (some 14) rfl rfl Tryd.func137 (by kernel_rfl) rfl #[.string (a0.extract (x3_1 : Int).toNat a0.size)] rfl au_ ?_; (with_reducible refine (utf8_DecodeRuneInString.calls (a0.extract (x3_1 : Int).toNat a0.size) t230 t231 _ A5.out ?hT_).mono ?_); (case hT_ => exact utf8_keep_ hT_ bel_); rintro e w15 ⟨rfl, hb⟩; refine ⟨_, rfl, ?_⟩; have n0_ := Aside0.mk (below_step bel_ hb); clear HB; have HB := n0_; clear n0_; (try clear hb);(try clear hb2);(try clear hk);(try clear hi)) | (go_at_call 138; (with_reducible refine (impl_mayRune.calls (wrap64 (t230)) true _ A13.out).mono ?_); rintro e w' ⟨rfl, ⟨nd, rfl⟩⟩))
        go_roundg k1
        case measure => have := HK1.out; omega
        case rel => exact ⟨(wrap64 (x3_1 + t231)), sv_, H', ⟨by have := HK1.out; omega⟩, ⟨bel_⟩⟩
       ·replace c14 := Bool.eq_false_iff.mpr c14
        subst c14
        have H1 : (some x3_1) = some r := by rw [if_neg (show ¬ (false = true) by decide)] at H; exact H
        clear H
        have H := H1
        clear H1
        obtain rfl := Option.some.inj H
        go_wp2_with (first | ((with_reducible refine gate_callee (f := 137) rfl ?_); refine goesL_ (some 14) rfl rfl Tryd.func137 (by kernel_rfl) rfl #[.string (a0.extract (x3_1 : Int).toNat a0.size)] rfl au_ ?_; (with_reducible refine (utf8_DecodeRuneInString.calls (a0.extract (x3_1 : Int).toNat a0.size) t230 t231 _ A5.out ?hT_).mono ?_); (case hT_ => exact utf8_keep_ hT_ bel_); rintro e w16 ⟨rfl, hb⟩; refine ⟨_, rfl, ?_⟩; have n0_ := Aside0.mk (below_step bel_ hb); clear HB; have HB := n0_; clear n0_; (try clear hb);(try clear hb2);(try clear hk);(try clear hi)) | (go_at_call 138; (with_reducible refine (impl_mayRune.calls (wrap64 (t230)) false _ A13.out).mono ?_); rintro e w' ⟨rfl, ⟨nd, rfl⟩⟩))
        go_ret
        exact ⟨er_, bel_⟩
     ·rw [if_neg c4] at H
      exact absurd H (by simp)
    ·rw [if_neg c3] at H
     exact absurd H (by simp)
   ·rw [if_neg c2] at H
    have c2b0 : decide (x3_1 < (a0.size : Int)) = false := decide_eq_false c2
    clear c2
    obtain rfl := Option.some.inj H
    go_wp2
    go_ret
    exact ⟨er_, bel_⟩

/-! ### impl_isDigit: function 72 -/
def impl_isDigit.f (a0 : Int) : Option (Bool) := if a0 ≥ 48 then (some (decide (a0 ≤ 57))) else (some false)
set_option maxHeartbeats 8000000 in
set_option maxRecDepth 100000 in
theorem impl_isDigit.calls (a0 : Int) (r : Bool) (w : World) (h : impl_isDigit.f a0 = some r) :
  Calls Tryd.prog 72 #[.int .u8 a0] w fun e w' => e = .returned (.bool r) ∧ Drawn0 w w' := by
 have H : (if a0 ≥ 48 then (some (decide (a0 ≤ 57))) else (some false)) = some r := h
 clear h
 by_cases c2 : a0 ≥ 48
 ·rw [if_pos c2] at H
  have c2b0 : decide (48 ≤ a0) = true := decide_eq_true c2
  clear c2
  obtain rfl := Option.some.inj H
  go_enter Tryd.func72, Tryd.ntmps72
  go_wp2
  go_ret
  exact ⟨by first | rfl | (simp; done) | (simp [*]; done), by repeat (first | exact Drawn0.refl _ | apply Drawn0.step)⟩
 ·rw [if_neg c2] at H
  have c2b0 : decide (48 ≤ a0) = false := decide_eq_false c2
  clear c2
  obtain rfl := Option.some.inj H
  go_enter Tryd.func72, Tryd.ntmps72
  go_wp2
  go_ret
  exact ⟨by first | rfl | (simp; done) | (simp [*]; done), by repeat (first | exact Drawn0.refl _ | apply Drawn0.step)⟩

end Go.Proofs.YtooilehdljeepaaDoor.PFnExactHasCycle
