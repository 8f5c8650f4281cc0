-- Laid by a program of this session out of the translation (its own run of the print). Lean checks it.
import Derived.Test.YtooilehdljeepaaDoorPFnExactHasCyclex0
import Derived.Test.YtooilehdljeepaaDoorPFnExactHasCyclex3
import Derived.Test.YtooilehdljeepaaDoorPFnExactHasCyclex4
namespace Go.Proofs.YtooilehdljeepaaDoor.PFnExactHasCycle
open Go.RowKit Go.Proofs.YtooilehdljeepaaDoorW.PrintWords Go.Proofs.YtooilehdljeepaaDoorW.PrintLast Go.Proofs.YtooilehdljeepaaDoorW.PrintMore
attribute [local go_sem] max2_int min2_int max_two min_two max_three min_three max_four min_four   -- for this text's walks alone
set_option linter.unusedVariables false
set_option linter.unusedSimpArgs false

/-! ### spec_l4Attrs: function 75 -/
mutual
def spec_l4Attrs.l0 : Nat → List (S144) → List (S144) → Int → Int → Option (Bool)
 | 0, _, _, _, _ => none
 | k + 1, x0, x10, x11, x12 => if x12 < x11 then (if 0 ≤ x12 then (if x12 < (x10.length : Int) then ((spec_l4Name.f k ((rd_T144 x10 x12).f0)).bind fun t159 => (if t159 = true then ((spec_l4Bad.f k ((rd_T144 x10 x12).f1)).bind fun t160 => (spec_l4Attrs.j1 k x0 x12 x10 x11 x12 (decide (t160 ≥ 0)) ((rd_T144 x10 x12).f0) ((rd_T144 x10 x12).f1))) else (spec_l4Attrs.j1 k x0 x12 x10 x11 x12 true ((rd_T144 x10 x12).f0) ((rd_T144 x10 x12).f1)))) else (none)) else (none)) else (some true)
def spec_l4Attrs.j1 : Nat → List (S144) → Int → List (S144) → Int → Int → Bool → ByteArray → ByteArray → Option (Bool)
 | 0, _, _, _, _, _, _, _, _ => none
 | k + 1, x0, x3, x10, x11, x12, x26, x159000, x159001 => if x26 = true then (some false) else (if 0 ≤ x3 then (if x3 ≤ (x0.length : Int) then ((some (x0.take (x3 : Int).toNat : List (S144))).bind fun y161 => (spec_l4Attrs.l1 k x0 x10 x11 x12 y161 (y161.length : Int) 0 x159000 x159001)) else (none)) else (none))
def spec_l4Attrs.l1 : Nat → List (S144) → List (S144) → Int → Int → List (S144) → Int → Int → ByteArray → ByteArray → Option (Bool)
 | 0, _, _, _, _, _, _, _, _, _ => none
 | k + 1, x0, x10, x11, x12, x29, x30, x31, x159000, x159001 => if x31 < x30 then (if 0 ≤ x31 then (if x31 < (x29.length : Int) then (if ((rd_T144 x29 x31).f0).toList = x159000.toList then (some false) else (spec_l4Attrs.l1 k x0 x10 x11 x12 x29 x30 (wrap64 (x31 + 1)) x159000 x159001)) else (none)) else (none)) else (spec_l4Attrs.l0 k x0 x10 x11 (wrap64 (x12 + 1)))
end
def spec_l4Attrs.f (k : Nat) (l0 : List (S144)) : Option (Bool) := if (l0.length : Int) > 12 then (some false) else (spec_l4Attrs.l0 k l0 l0 (l0.length : Int) 0)
set_option maxHeartbeats 8000000 in
set_option maxRecDepth 100000 in
theorem spec_l4Attrs.calls (k : Nat) (A0 : Option Addr) (c0 : Nat) (l0 : List (S144)) (r : Bool) (w : World) (hr0 : Kd.C k144 w A0 l0.length l0) (hc0 : l0.length ≤ c0) (h : spec_l4Attrs.f k l0 = some r) :
  Calls Tryd.prog 75 #[.slice A0 l0.length c0] w fun e w' => e = .returned (.bool r) ∧ Below w.heap.size w w' := by
 have hu144 := Tryd.underlying144
 have HR0 := Aside0.mk hr0
 have HC0 := Aside0.mk hc0
 clear hr0 hc0
 have HB := Aside0.mk (Below.refl w.heap.size w)
 have H : (if (l0.length : Int) > 12 then (some false) else (spec_l4Attrs.l0 k l0 l0 (l0.length : Int) 0)) = some r := h
 clear h
 by_cases c2 : (l0.length : Int) > 12
 ·rw [if_pos c2] at H
  have c2b0 : decide (12 < (l0.length : Int)) = true := decide_eq_true c2
  have c2b1 : decide (12 < l0.length) = true := decide_eq_true (by omega)
  clear c2
  obtain rfl := Option.some.inj H
  go_enter Tryd.func75, Tryd.ntmps75
  go_wp2
  go_ret
  exact ⟨er_, bel_⟩
 ·rw [if_neg c2] at H
  have c2b0 : decide (12 < (l0.length : Int)) = false := decide_eq_false c2
  have c2b1 : decide (12 < l0.length) = false := decide_eq_false (by omega)
  clear c2
  have H' := Aside0.mk H
  clear H
  go_enter Tryd.func75, Tryd.ntmps75
  go_wp2
  go_loopg [12] k (fun kq v12 w' => ∃ (x12_1 : Int), v12 = .int .i64 x12_1 ∧ Aside0 (spec_l4Attrs.l0 kq l0 l0 (l0.length : Int) x12_1 = some r) ∧ Aside0 (kq ≤ k) ∧ Aside0 (Below w.heap.size w w'))
  case atStart => exact ⟨(0), sv_, H', ⟨Nat.le_refl _⟩, ⟨bel_⟩⟩
  case round =>
   clear H'
   (try clear c2);(try clear c2b0 c2b1);(try clear p2)
   obtain ⟨x12_1, rfl, HA, HK1, HB⟩ := hrel
   cases gk with
   | zero => exact absurd HA.out (by simp [spec_l4Attrs.l0])
   | succ k1 =>
    have H := HA.out
    clear HA
    simp only [spec_l4Attrs.l0] at H
    by_cases c3 : x12_1 < (l0.length : Int)
    ·rw [if_pos c3] at H
     have c3b0 : decide (x12_1 < (l0.length : Int)) = true := decide_eq_true c3
     clear c3
     by_cases c4 : 0 ≤ x12_1
     ·rw [if_pos c4] at H
      have c4b0 : decide (0 ≤ x12_1) = true := decide_eq_true c4
      clear c4
      by_cases c5 : x12_1 < (l0.length : Int)
      ·rw [if_pos c5] at H
       have c5b0 : decide (x12_1 < (l0.length : Int)) = true := decide_eq_true c5
       clear c5
       have HC6 := Aside0.mk H
       clear H
       have p157 : 0 ≤ (x12_1 : Int) := of_decide_eq_true am_
       have q157 : x12_1 < (l0.length : Int) := of_decide_eq_true am_
       obtain ⟨ad157, e157, hx157_0, hx157_1⟩ := at_T144 HR0.out x12_1 p157 q157
       cases e157
       replace hx157_0 := pw_cell_below HB.out hx157_0
       replace hx157_1 := pw_cell_below HB.out hx157_1
       replace p157 := eq_true p157
       replace q157 := eq_true q157
       go_upto_region 6 with (first | ((with_reducible refine gate_dst (N := 4) rfl ?_); refine box_event ?hg (N := 4) ?hd (cs := #[.string (⟨#[]⟩ : ByteArray), .string (⟨#[]⟩ : ByteArray)]) (t := 144) ?hr ?_; (case hd => rfl); (case hg => rfl); (case hr => first | (go_simp; done) | (go_simp; rfl)); intro gb158 hg w7 hbox hb; have n0_ := Aside0.mk (below_step bel_ hb); have n1_ := Aside0.mk (hbox); have n2_ := Aside0.mk ((by rw [hg]; exact (below_size bel_) : w.heap.size ≤ gb158)); have n3_ := Aside0.mk ((by rw [hg]; exact (below_size bel_) : w.heap.size ≤ gb158)); clear HB; have HB := n0_; have BK158 := n1_; have GW158 := n2_; have GE158 := n3_; clear n0_ n1_ n2_ n3_; clear hb hbox hg; have hcz8_0 := bc2_0 BK158.out; have hcz8_1 := bc2_1 BK158.out; have hfz8_0 := blk_frozen BK158.out 0; have hfz8_1 := blk_frozen BK158.out 1))
       (try simp only [Act.put, List.setIfInBounds_toArray, List.set_cons_zero, List.set_cons_succ])
       go_cut [26] (fun v26 wc => ∃ (kq : Nat) (x26_5 : Bool), v26 = .bool x26_5 ∧ Aside0 (spec_l4Attrs.j1 kq l0 x12_1 l0 (l0.length : Int) x12_1 x26_5 ((rd_T144 l0 x12_1).f0) ((rd_T144 l0 x12_1).f1) = some r) ∧ Aside0 (kq ≤ k1) ∧ Aside0 (wc.heap[gb158]? = some (.cells #[.string ((rd_T144 l0 x12_1).f0), .string ((rd_T144 l0 x12_1).f1)] 144 (0, 0))) ∧ Aside0 (Below w.heap.size w wc))
       case first =>
        have H := HC6.out
        clear HC6
        replace H := Option.bind_eq_some_iff.mp H
        obtain ⟨t159, A90, H⟩ := H
        replace H : (if t159 = true then ((spec_l4Bad.f k1 ((rd_T144 l0 x12_1).f1)).bind fun t160 => (spec_l4Attrs.j1 k1 l0 x12_1 l0 (l0.length : Int) x12_1 (decide (t160 ≥ 0)) ((rd_T144 l0 x12_1).f0) ((rd_T144 l0 x12_1).f1))) else (spec_l4Attrs.j1 k1 l0 x12_1 l0 (l0.length : Int) x12_1 true ((rd_T144 l0 x12_1).f0) ((rd_T144 l0 x12_1).f1))) = some r := H
        have A9 := Aside0.mk A90
        clear A90
        by_cases c10 : t159 = true
        ·subst c10
         have H1 : ((spec_l4Bad.f k1 ((rd_T144 l0 x12_1).f1)).bind fun t160 => (spec_l4Attrs.j1 k1 l0 x12_1 l0 (l0.length : Int) x12_1 (decide (t160 ≥ 0)) ((rd_T144 l0 x12_1).f0) ((rd_T144 l0 x12_1).f1))) = some r := by rw [if_pos rfl] at H; exact H
         clear H
         have H := H1
         clear H1
         replace H := Option.bind_eq_some_iff.mp H
         obtain ⟨t160, A110, H⟩ := H
         replace H : (spec_l4Attrs.j1 k1 l0 x12_1 l0 (l0.length : Int) x12_1 (decide (t160 ≥ 0)) ((rd_T144 l0 x12_1).f0) ((rd_T144 l0 x12_1).f1)) = some r := H
         have A11 := Aside0.mk A110
         clear A110
         have H' := Aside0.mk H
         clear H
         have hcz12_0 := bc2_0 BK158.out
         have hcz12_1 := bc2_1 BK158.out
         have hfz12_0 := blk_frozen BK158.out 0
         have hfz12_1 := blk_frozen BK158.out 1
         go_wp2_with (first | ((with_reducible refine gate_callee (f := 76) rfl ?_); refine goesL_ (some 19) rfl rfl Tryd.func76 (by kernel_rfl) rfl #[.string ((rd_T144 l0 x12_1).f0)] rfl au_ ?_; (with_reducible refine (spec_l4Name.calls k1 ((rd_T144 l0 x12_1).f0) true _ A9.out).mono ?_); rintro e w' ⟨rfl, ⟨nd, rfl⟩⟩; refine ⟨_, rfl, ?_⟩) | (go_at_call 78; (with_reducible refine (spec_l4Bad.calls k1 ((rd_T144 l0 x12_1).f1) t160 _ A11.out).mono ?_); rintro e w' ⟨rfl, ⟨nd, rfl⟩⟩))
         go_meet
         case rel => exact ⟨_, (decide (t160 ≥ 0)), sv_, H', ⟨by have := HK1.out; first | omega | exact Nat.le_refl _⟩, ⟨by (with_reducible repeat (first | refine blk_drewN ?_ _ | refine blk_drew ?_ | refine blk_alloc ?_ _)); refine blk_put (cs := #[.string ((rd_T144 l0 x12_1).f0), .string (⟨#[]⟩ : ByteArray)]) ?_ 1 _ rfl; (with_reducible repeat (first | refine blk_drewN ?_ _ | refine blk_drew ?_ | refine blk_alloc ?_ _)); refine blk_put (cs := #[.string (⟨#[]⟩ : ByteArray), .string (⟨#[]⟩ : ByteArray)]) ?_ 0 _ rfl; (with_reducible repeat (first | refine blk_drewN ?_ _ | refine blk_drew ?_ | refine blk_alloc ?_ _)); exact BK158.out⟩, ⟨bes_⟩⟩
        ·replace c10 := Bool.eq_false_iff.mpr c10
         subst c10
         have H1 : (spec_l4Attrs.j1 k1 l0 x12_1 l0 (l0.length : Int) x12_1 true ((rd_T144 l0 x12_1).f0) ((rd_T144 l0 x12_1).f1)) = some r := by rw [if_neg (show ¬ (false = true) by decide)] at H; exact H
         clear H
         have H := H1
         clear H1
         have H' := Aside0.mk H
         clear H
         have hcz13_0 := bc2_0 BK158.out
         have hcz13_1 := bc2_1 BK158.out
         have hfz13_0 := blk_frozen BK158.out 0
         have hfz13_1 := blk_frozen BK158.out 1
         go_wp2_with (first | ((with_reducible refine gate_callee (f := 76) rfl ?_); refine goesL_ (some 19) rfl rfl Tryd.func76 (by kernel_rfl) rfl #[.string ((rd_T144 l0 x12_1).f0)] rfl au_ ?_; (with_reducible refine (spec_l4Name.calls k1 ((rd_T144 l0 x12_1).f0) false _ A9.out).mono ?_); rintro e w' ⟨rfl, ⟨nd, rfl⟩⟩; refine ⟨_, rfl, ?_⟩))
         go_meet
         case rel => exact ⟨_, (true), sv_, H', ⟨by have := HK1.out; first | omega | exact Nat.le_refl _⟩, ⟨by (with_reducible repeat (first | refine blk_drewN ?_ _ | refine blk_drew ?_ | refine blk_alloc ?_ _)); refine blk_put (cs := #[.string ((rd_T144 l0 x12_1).f0), .string (⟨#[]⟩ : ByteArray)]) ?_ 1 _ rfl; (with_reducible repeat (first | refine blk_drewN ?_ _ | refine blk_drew ?_ | refine blk_alloc ?_ _)); refine blk_put (cs := #[.string (⟨#[]⟩ : ByteArray), .string (⟨#[]⟩ : ByteArray)]) ?_ 0 _ rfl; (with_reducible repeat (first | refine blk_drewN ?_ _ | refine blk_drew ?_ | refine blk_alloc ?_ _)); exact BK158.out⟩, ⟨bes_⟩⟩
       case rest =>
        clear HC6
        (try clear c1);(try clear p1);(try clear q1);(try clear hx1);(try clear c2);(try clear c2b0 c2b1);(try clear p2);(try clear c3);(try clear c3b0);(try clear c4);(try clear c4b0);(try clear c5);(try clear c5b0);(try clear c7);(try clear c10);(try clear hcz12_0 hcz12_1);(try clear hcz13_0 hcz13_1);(try clear hcz8_0 hcz8_1);(try clear hfz12_0 hfz12_1);(try clear hfz13_0 hfz13_1);(try clear hfz8_0 hfz8_1);(try clear hx157_0);(try clear hx157_1);(try clear p157);(try clear p2);(try clear q157)
        obtain ⟨kq, x26_5, rfl, HA, HJ5, BK158, HB⟩ := hcut
        cases kq with
        | zero => exact absurd HA.out (by simp [spec_l4Attrs.j1])
        | succ kj5 =>
         have H := HA.out
         clear HA
         simp only [spec_l4Attrs.j1] at H
         by_cases c14 : x26_5 = true
         ·subst c14
          have H1 : (some false) = some r := by rw [if_pos rfl] at H; exact H
          clear H
          have H := H1
          clear H1
          obtain rfl := Option.some.inj H
          go_wp2
          go_ret
          exact ⟨er_, bes_⟩
         ·replace c14 := Bool.eq_false_iff.mpr c14
          subst c14
          have H1 : (if 0 ≤ x12_1 then (if x12_1 ≤ (l0.length : Int) then ((some (l0.take (x12_1 : Int).toNat : List (S144))).bind fun y161 => (spec_l4Attrs.l1 kj5 l0 l0 (l0.length : Int) x12_1 y161 (y161.length : Int) 0 ((rd_T144 l0 x12_1).f0) ((rd_T144 l0 x12_1).f1))) else (none)) else (none)) = some r := by rw [if_neg (show ¬ (false = true) by decide)] at H; exact H
          clear H
          have H := H1
          clear H1
          by_cases c15 : 0 ≤ x12_1
          ·rw [if_pos c15] at H
           have c15b0 := eq_true c15
           have c15b1 : decide (0 ≤ x12_1) = true := decide_eq_true c15
           clear c15
           by_cases c16 : x12_1 ≤ (l0.length : Int)
           ·rw [if_pos c16] at H
            have c16b0 := eq_true c16
            have c16b1 : decide (x12_1 ≤ (l0.length : Int)) = true := decide_eq_true c16
            clear c16
            obtain ⟨y161, hy161⟩ : ∃ y_ : List (S144), y_ = (l0.take (x12_1 : Int).toNat) := ⟨_, rfl⟩
            replace H : (spec_l4Attrs.l1 kj5 l0 l0 (l0.length : Int) x12_1 y161 (y161.length : Int) 0 ((rd_T144 l0 x12_1).f0) ((rd_T144 l0 x12_1).f1)) = some r := by first | (rw [hy161]; with_reducible exact H) | (have H2_ := (Option.bind_some _ _).symm.trans H; rw [hy161]; with_reducible exact H2_) | (have H2_ := (Option.bind_some _ _).symm.trans H; with_reducible exact H2_) | with_reducible exact H | (rw [hy161]; exact H) | exact H
            have Ny161 := Aside0.mk hy161
            clear hy161
            have H' := Aside0.mk H
            clear H
            have q17 : (x12_1 : Int) ≤ ((l0.length : Int) : Int) := of_decide_eq_true am_
            obtain ⟨i017, hi017, _, hsz17, _⟩ := info_parts info144
            have hroom17 : l0.length ≤ c0 := HC0.out
            have hC17 : Kd.C k144 _ (some ad157) l0.length l0 := HR0.out
            have hcut17 := cut_to (P := Tryd.prog) 67 144 .i64 Tryd.underlying67 hi017 (some ad157) l0.length c0 x12_1 (of_decide_eq_true am_) q17 hroom17
            have hr17 := Kd.C_take (m := (x12_1 : Int).toNat) hC17 (by omega)
            have hy17 : y161.length = (x12_1 : Int).toNat := (by rw [Ny161.out, List.length_take]; omega)
            rw [← Ny161.out] at hr17
            rw [← hy17] at hcut17
            have HR164 := Aside0.mk hr17
            have HC164 := Aside0.mk (show y161.length ≤ c0 from by omega)
            clear hr17 hC17 hroom17 hi017 hsz17
            have KY17 := Aside0.mk hy17
            clear hy17
            replace q17 := eq_true q17
            go_wp2
            go_loopg [31] kj5 (fun kq v31 w' => ∃ (x31_3 : Int), v31 = .int .i64 x31_3 ∧ Aside0 (spec_l4Attrs.l1 kq l0 l0 (l0.length : Int) x12_1 y161 (y161.length : Int) x31_3 ((rd_T144 l0 x12_1).f0) ((rd_T144 l0 x12_1).f1) = some r) ∧ Aside0 (kq ≤ kj5) ∧ Aside0 (w'.heap[gb158]? = some (.cells #[.string ((rd_T144 l0 x12_1).f0), .string ((rd_T144 l0 x12_1).f1)] 144 (0, 0))) ∧ Aside0 (Below w.heap.size w w'))
            case atStart => exact ⟨(0), sv_, H', ⟨Nat.le_refl _⟩, ⟨by (with_reducible repeat (first | refine blk_drewN ?_ _ | refine blk_drew ?_ | refine blk_alloc ?_ _)); exact BK158.out⟩, ⟨bes_⟩⟩
            case round =>
             clear H'
             (try clear c1);(try clear p1);(try clear q1);(try clear hx1);(try clear c2);(try clear c2b0 c2b1);(try clear p2);(try clear c3);(try clear c3b0);(try clear c4);(try clear c4b0);(try clear c5);(try clear c5b0);(try clear c7);(try clear c10);(try clear c14);(try clear c15);(try clear c15b0 c15b1);(try clear p15);(try clear q15);(try clear hx15);(try clear c16);(try clear c16b0 c16b1);(try clear q17);(try clear hcz12_0 hcz12_1);(try clear hcz13_0 hcz13_1);(try clear hcz8_0 hcz8_1);(try clear hfz12_0 hfz12_1);(try clear hfz13_0 hfz13_1);(try clear hfz8_0 hfz8_1);(try clear hx157_0);(try clear hx157_1);(try clear p1);(try clear p157);(try clear p2);(try clear q1);(try clear q157);(try clear q17)
             obtain ⟨x31_3, rfl, HA, HK3, BK158, HB⟩ := hrel
             cases gk with
             | zero => exact absurd HA.out (by simp [spec_l4Attrs.l1])
             | succ k3 =>
              have H := HA.out
              clear HA
              simp only [spec_l4Attrs.l1] at H
              by_cases c18 : x31_3 < (y161.length : Int)
              ·rw [if_pos c18] at H
               have c18b0 : decide (x31_3 < (y161.length : Int)) = true := decide_eq_true c18
               clear c18
               by_cases c19 : 0 ≤ x31_3
               ·rw [if_pos c19] at H
                have c19b0 : decide (0 ≤ x31_3) = true := decide_eq_true c19
                clear c19
                by_cases c20 : x31_3 < (y161.length : Int)
                ·rw [if_pos c20] at H
                 have c20b0 : decide (x31_3 < (y161.length : Int)) = true := decide_eq_true c20
                 clear c20
                 by_cases c21 : ((rd_T144 y161 x31_3).f0).toList = ((rd_T144 l0 x12_1).f0).toList
                 ·rw [if_pos c21] at H
                  have c21b0 : (((rd_T144 y161 x31_3).f0).toList == ((rd_T144 l0 x12_1).f0).toList) = true := beq_iff_eq.mpr c21
                  have c21b1 : (((rd_T144 y161 x31_3).f0).toList != ((rd_T144 l0 x12_1).f0).toList) = false := bne_eq_false_iff_eq.mpr c21
                  clear c21
                  obtain rfl := Option.some.inj H
                  have p165 : 0 ≤ (x31_3 : Int) := of_decide_eq_true am_
                  have q165 : x31_3 < (y161.length : Int) := of_decide_eq_true am_
                  obtain ⟨ad165, e165, hx165_0, hx165_1⟩ := at_T144 HR164.out x31_3 p165 q165
                  obtain rfl : ad157 = ad165 := (by injection e165)
                  replace hx165_0 := pw_cell_below HB.out hx165_0
                  replace hx165_1 := pw_cell_below HB.out hx165_1
                  replace p165 := eq_true p165
                  replace q165 := eq_true q165
                  go_wp2_with (first | ((with_reducible refine gate_dst (N := 6) rfl ?_); refine box_event ?hg (N := 6) ?hd (cs := #[.string (⟨#[]⟩ : ByteArray), .string (⟨#[]⟩ : ByteArray)]) (t := 144) ?hr ?_; (case hd => rfl); (case hg => rfl); (case hr => first | (go_simp; done) | (go_simp; rfl)); intro gb166 hg w22 hbox hb; have n0_ := Aside0.mk (blk_below (g := gb158) (o := .cells #[.string ((rd_T144 l0 x12_1).f0), .string ((rd_T144 l0 x12_1).f1)] 144 (0, 0)) (bk_ BK158.out) hb); have n1_ := Aside0.mk (below_step bes_ hb); have n2_ := Aside0.mk (hbox); have n3_ := Aside0.mk ((by rw [hg]; exact (below_size bes_) : w.heap.size ≤ gb166)); have n4_ := Aside0.mk ((by rw [hg]; exact (below_size bes_) : w.heap.size ≤ gb166)); have n5_ := Aside0.mk ((by rw [hg]; exact Nat.ne_of_lt (blk_lt (g := gb158) (o := .cells #[.string ((rd_T144 l0 x12_1).f0), .string ((rd_T144 l0 x12_1).f1)] 144 (0, 0)) (bk_ BK158.out)) : gb158 ≠ gb166)); have n6_ := Aside0.mk ((by rw [hg]; exact Nat.ne_of_gt (blk_lt (g := gb158) (o := .cells #[.string ((rd_T144 l0 x12_1).f0), .string ((rd_T144 l0 x12_1).f1)] 144 (0, 0)) (bk_ BK158.out)) : gb166 ≠ gb158)); clear BK158; clear HB; have BK158 := n0_; have HB := n1_; have BK166 := n2_; have GW166 := n3_; have GE166 := n4_; have NB158_166 := n5_; have NB166_158 := n6_; clear n0_ n1_ n2_ n3_ n4_ n5_ n6_; clear hb hbox hg; have hnb23 := NB166_158.out; have hnc23 := NB158_166.out; have hcz24_0 := bc2_0 BK166.out; have hcz24_1 := bc2_1 BK166.out; have hfz24_0 := blk_frozen BK166.out 0; have hfz24_1 := blk_frozen BK166.out 1; have hcz25_0 := bc2_0 BK158.out; have hcz25_1 := bc2_1 BK158.out; have hfz25_0 := blk_frozen BK158.out 0; have hfz25_1 := blk_frozen BK158.out 1))
                  go_ret
                  exact ⟨er_, bes_⟩
                 ·rw [if_neg c21] at H
                  have c21b0 : (((rd_T144 y161 x31_3).f0).toList == ((rd_T144 l0 x12_1).f0).toList) = false := beq_eq_false_iff_ne.mpr c21
                  have c21b1 : (((rd_T144 y161 x31_3).f0).toList != ((rd_T144 l0 x12_1).f0).toList) = true := bne_iff_ne.mpr c21
                  have H' := Aside0.mk H
                  clear H
                  have p165 : 0 ≤ (x31_3 : Int) := of_decide_eq_true am_
                  have q165 : x31_3 < (y161.length : Int) := of_decide_eq_true am_
                  obtain ⟨ad165, e165, hx165_0, hx165_1⟩ := at_T144 HR164.out x31_3 p165 q165
                  obtain rfl : ad157 = ad165 := (by injection e165)
                  replace hx165_0 := pw_cell_below HB.out hx165_0
                  replace hx165_1 := pw_cell_below HB.out hx165_1
                  replace p165 := eq_true p165
                  replace q165 := eq_true q165
                  go_wp2_with (first | ((with_reducible refine gate_dst (N := 6) rfl ?_); refine box_event ?hg (N := 6) ?hd (cs := #[.string (⟨#[]⟩ : ByteArray), .string (⟨#[]⟩ : ByteArray)]) (t := 144) ?hr ?_; (case hd => rfl); (case hg => rfl); (case hr => first | (go_simp; done) | (go_simp; rfl)); intro gb166 hg w26 hbox hb; have n0_ := Aside0.mk (blk_below (g := gb158) (o := .cells #[.string ((rd_T144 l0 x12_1).f0), .string ((rd_T144 l0 x12_1).f1)] 144 (0, 0)) (bk_ BK158.out) hb); have n1_ := Aside0.mk (below_step bes_ hb); have n2_ := Aside0.mk (hbox); have n3_ := Aside0.mk ((by rw [hg]; exact (below_size bes_) : w.heap.size ≤ gb166)); have n4_ := Aside0.mk ((by rw [hg]; exact (below_size bes_) : w.heap.size ≤ gb166)); have n5_ := Aside0.mk ((by rw [hg]; exact Nat.ne_of_lt (blk_lt (g := gb158) (o := .cells #[.string ((rd_T144 l0 x12_1).f0), .string ((rd_T144 l0 x12_1).f1)] 144 (0, 0)) (bk_ BK158.out)) : gb158 ≠ gb166)); have n6_ := Aside0.mk ((by rw [hg]; exact Nat.ne_of_gt (blk_lt (g := gb158) (o := .cells #[.string ((rd_T144 l0 x12_1).f0), .string ((rd_T144 l0 x12_1).f1)] 144 (0, 0)) (bk_ BK158.out)) : gb166 ≠ gb158)); clear BK158; clear HB; have BK158 := n0_; have HB := n1_; have BK166 := n2_; have GW166 := n3_; have GE166 := n4_; have NB158_166 := n5_; have NB166_158 := n6_; clear n0_ n1_ n2_ n3_ n4_ n5_ n6_; clear hb hbox hg; have hnb27 := NB166_158.out; have hnc27 := NB158_166.out; have hcz28_0 := bc2_0 BK166.out; have hcz28_1 := bc2_1 BK166.out; have hfz28_0 := blk_frozen BK166.out 0; have hfz28_1 := blk_frozen BK166.out 1; have hcz29_0 := bc2_0 BK158.out; have hcz29_1 := bc2_1 BK158.out; have hfz29_0 := blk_frozen BK158.out 0; have hfz29_1 := blk_frozen BK158.out 1))
                  go_roundg k3
                  case measure => have := HK1.out; have := HJ5.out; have := HK3.out; omega
                  case rel => exact ⟨(wrap64 (x31_3 + 1)), sv_, H', ⟨by have := HK1.out; have := HJ5.out; have := HK3.out; omega⟩, ⟨by (with_reducible repeat (first | refine blk_drewN ?_ _ | refine blk_drew ?_ | refine blk_alloc ?_ _)); refine blk_far ?_ NB158_166.out _; (with_reducible repeat (first | refine blk_drewN ?_ _ | refine blk_drew ?_ | refine blk_alloc ?_ _)); refine blk_far ?_ NB158_166.out _; (with_reducible repeat (first | refine blk_drewN ?_ _ | refine blk_drew ?_ | refine blk_alloc ?_ _)); exact BK158.out⟩, ⟨bes_⟩⟩
                ·rw [if_neg c20] at H
                 exact absurd H (by simp)
               ·rw [if_neg c19] at H
                exact absurd H (by simp)
              ·rw [if_neg c18] at H
               have c18b0 : decide (x31_3 < (y161.length : Int)) = false := decide_eq_false c18
               clear c18
               have H' := Aside0.mk H
               clear H
               go_wp2
               go_roundg k3
               case measure => have := HK1.out; have := HJ5.out; have := HK3.out; omega
               case rel => exact ⟨(wrap64 (x12_1 + 1)), sv_, H', ⟨by have := HK1.out; have := HJ5.out; have := HK3.out; omega⟩, ⟨bes_⟩⟩
           ·rw [if_neg c16] at H
            exact absurd H (by simp)
          ·rw [if_neg c15] at H
           exact absurd H (by simp)
      ·rw [if_neg c5] at H
       exact absurd H (by simp)
     ·rw [if_neg c4] at H
      exact absurd H (by simp)
    ·rw [if_neg c3] at H
     have c3b0 : decide (x12_1 < (l0.length : Int)) = false := decide_eq_false c3
     clear c3
     obtain rfl := Option.some.inj H
     go_wp2
     go_ret
     exact ⟨er_, bel_⟩

/-! ### spec_l4Deep: function 77 -/
def spec_l4Deep.l0 : Nat → List (S69) → Int → Int → Option (Int)
 | 0, _, _, _ => none
 | k + 1, x0, x1, x5 => if x1 ≥ 0 then (if 0 ≤ x1 then (if x1 < (x0.length : Int) then (spec_l4Deep.l0 k x0 ((rd_T69 x0 x1).f1) (wrap64 (x5 + 1))) else (none)) else (none)) else (some x5)
def spec_l4Deep.f (k : Nat) (l0 : List (S69)) (a1 : Int) : Option (Int) := spec_l4Deep.l0 k l0 a1 0
set_option maxHeartbeats 8000000 in
set_option maxRecDepth 100000 in
theorem spec_l4Deep.calls (k : Nat) (A0 : Option Addr) (c0 : Nat) (l0 : List (S69)) (a1 : Int) (r : Int) (w : World) (hr0 : Kd.C k69 w A0 l0.length l0) (hc0 : l0.length ≤ c0) (h : spec_l4Deep.f k l0 a1 = some r) :
  Calls Tryd.prog 77 #[.slice A0 l0.length c0, .int .i64 a1] w fun e w' => e = .returned (.int .i64 r) ∧ Drawn0 w w' := by
 have HR0 := Aside0.mk hr0
 have HC0 := Aside0.mk hc0
 clear hr0 hc0
 have H : (spec_l4Deep.l0 k l0 a1 0) = some r := h
 clear h
 have H' := Aside0.mk H
 clear H
 go_enter Tryd.func77, Tryd.ntmps77
 go_wp2
 go_loopg [1, 5] k (fun kq v1 v5 w' => ∃ (x1_1 : Int) (x5_1 : Int), v1 = .int .i64 x1_1 ∧ v5 = .int .i64 x5_1 ∧ Aside0 (spec_l4Deep.l0 kq l0 x1_1 x5_1 = some r) ∧ Aside0 (kq ≤ k) ∧ Drawn0 w w')
 case atStart => exact ⟨(a1), (0), sv_, sv_, H', ⟨Nat.le_refl _⟩, by repeat (first | exact Drawn0.refl _ | apply Drawn0.step)⟩
 case round =>
  clear H'
  (try clear p2)
  obtain ⟨x1_1, x5_1, rfl, rfl, HA, HK1, ⟨m1, rfl⟩⟩ := hrel
  cases gk with
  | zero => exact absurd HA.out (by simp [spec_l4Deep.l0])
  | succ k1 =>
   have H := HA.out
   clear HA
   simp only [spec_l4Deep.l0] at H
   by_cases c3 : x1_1 ≥ 0
   ·rw [if_pos c3] at H
    have c3b0 : decide (0 ≤ x1_1) = true := decide_eq_true c3
    clear c3
    by_cases c4 : 0 ≤ x1_1
    ·rw [if_pos c4] at H
     have c4b0 : decide (0 ≤ x1_1) = true := decide_eq_true c4
     clear c4
     by_cases c5 : x1_1 < (l0.length : Int)
     ·rw [if_pos c5] at H
      have c5b0 : decide (x1_1 < (l0.length : Int)) = true := decide_eq_true c5
      clear c5
      have H' := Aside0.mk H
      clear H
      have p167 : 0 ≤ (x1_1 : Int) := of_decide_eq_true am_
      have q167 : x1_1 < (l0.length : Int) := of_decide_eq_true am_
      obtain ⟨ad167, A167_2, c167_2, e167, hx167_0, hx167_1, hx167_2, hx167_3, hl167_2, hi167_2⟩ := at_T69 HR0.out x1_1 p167 q167
      cases e167
      have HR167_2 := Aside0.mk hi167_2
      have HC167_2 := Aside0.mk hl167_2
      clear hi167_2 hl167_2
      replace p167 := eq_true p167
      replace q167 := eq_true q167
      go_wp2
      go_roundg k1
      case measure => have := HK1.out; omega
      case rel => exact ⟨((rd_T69 l0 x1_1).f1), (wrap64 (x5_1 + 1)), sv_, sv_, H', ⟨by have := HK1.out; omega⟩, by repeat (first | exact Drawn0.refl _ | apply Drawn0.step)⟩
     ·rw [if_neg c5] at H
      exact absurd H (by simp)
    ·rw [if_neg c4] at H
     exact absurd H (by simp)
   ·rw [if_neg c3] at H
    have c3b0 : decide (0 ≤ x1_1) = false := decide_eq_false c3
    clear c3
    obtain rfl := Option.some.inj H
    go_wp2
    go_ret
    exact ⟨by first | rfl | (simp; done) | (simp [*]; done), by repeat (first | exact Drawn0.refl _ | apply Drawn0.step)⟩

end Go.Proofs.YtooilehdljeepaaDoor.PFnExactHasCycle
