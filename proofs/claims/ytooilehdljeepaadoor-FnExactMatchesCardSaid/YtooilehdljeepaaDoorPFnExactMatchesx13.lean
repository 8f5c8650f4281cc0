-- Laid by a program of this session out of the translation (its own run of the print). Lean checks it.
import Derived.Test.YtooilehdljeepaaDoorPFnExactMatchesx0
import Derived.Test.YtooilehdljeepaaDoorPFnExactMatchesx11
import Derived.Test.YtooilehdljeepaaDoorPFnExactMatchesx12
namespace Go.Proofs.YtooilehdljeepaaDoor.PFnExactMatches
open Go.RowKit Go.Proofs.YtooilehdljeepaaDoorW.PrintWords Go.Proofs.YtooilehdljeepaaDoorW.PrintLast Go.Proofs.YtooilehdljeepaaDoorW.PrintMore
attribute [local go_sem] max2_int min2_int max_two min_two max_three min_three max_four min_four   -- for this text's walks alone
set_option linter.unusedVariables false
set_option linter.unusedSimpArgs false

/-! ### impl_areAttrs: function 85 -/
mutual
def impl_areAttrs.l0 : Nat → List (S144) → List (S144) → Int → Int → Option (Bool)
 | 0, _, _, _, _ => none
 | k + 1, x0, x7, x8, x9 => if x9 < x8 then (if 0 ≤ x9 then (if x9 < (x7.length : Int) then ((impl_isName.f k ((rd_T144 x7 x9).f0)).bind fun t262 => (if t262 = true then ((impl_badByte.f k ((rd_T144 x7 x9).f1)).bind fun t263 => (impl_areAttrs.j1 k x0 x9 x7 x8 x9 (decide (t263 ≥ 0)) ((rd_T144 x7 x9).f0) ((rd_T144 x7 x9).f1))) else (impl_areAttrs.j1 k x0 x9 x7 x8 x9 true ((rd_T144 x7 x9).f0) ((rd_T144 x7 x9).f1)))) else (none)) else (none)) else (some (decide ((x0.length : Int) ≤ 12)))
def impl_areAttrs.j1 : Nat → List (S144) → Int → List (S144) → Int → Int → Bool → ByteArray → ByteArray → Option (Bool)
 | 0, _, _, _, _, _, _, _, _ => none
 | k + 1, x0, x3, x7, x8, x9, x23, x262000, x262001 => if x23 = true then (some false) else (if 0 ≤ x3 then (if x3 ≤ (x0.length : Int) then ((some (x0.take (x3 : Int).toNat : List (S144))).bind fun y264 => (impl_areAttrs.l1 k x0 x7 x8 x9 y264 (y264.length : Int) 0 x262000 x262001)) else (none)) else (none))
def impl_areAttrs.l1 : Nat → List (S144) → List (S144) → Int → Int → List (S144) → Int → Int → ByteArray → ByteArray → Option (Bool)
 | 0, _, _, _, _, _, _, _, _, _ => none
 | k + 1, x0, x7, x8, x9, x26, x27, x28, x262000, x262001 => if x28 < x27 then (if 0 ≤ x28 then (if x28 < (x26.length : Int) then (if x262000.toList = ((rd_T144 x26 x28).f0).toList then (some false) else (impl_areAttrs.l1 k x0 x7 x8 x9 x26 x27 (wrap64 (x28 + 1)) x262000 x262001)) else (none)) else (none)) else (impl_areAttrs.l0 k x0 x7 x8 (wrap64 (x9 + 1)))
end
def impl_areAttrs.f (k : Nat) (l0 : List (S144)) : Option (Bool) := impl_areAttrs.l0 k l0 l0 (l0.length : Int) 0
set_option maxHeartbeats 8000000 in
set_option maxRecDepth 100000 in
theorem impl_areAttrs.calls (k : Nat) (A0 : Option Addr) (c0 : Nat) (l0 : List (S144)) (r : Bool) (w : World) (hr0 : Kd.C k144 w A0 l0.length l0) (hc0 : l0.length ≤ c0) (h : impl_areAttrs.f k l0 = some r) (hT_ : U8Tabs_ w) :
  Calls Tryd.prog 85 #[.slice A0 l0.length c0] w fun e w' => e = .returned (.bool r) ∧ Below w.heap.size w w' := by
 have hu144 := Tryd.underlying144
 have HR0 := Aside0.mk hr0
 have HC0 := Aside0.mk hc0
 clear hr0 hc0
 have HB := Aside0.mk (Below.refl w.heap.size w)
 have H : (impl_areAttrs.l0 k l0 l0 (l0.length : Int) 0) = some r := h
 clear h
 have H' := Aside0.mk H
 clear H
 go_enter Tryd.func85, Tryd.ntmps85
 go_wp2
 go_loopg [9] k (fun kq v9 w' => ∃ (x9_1 : Int), v9 = .int .i64 x9_1 ∧ Aside0 (impl_areAttrs.l0 kq l0 l0 (l0.length : Int) x9_1 = some r) ∧ Aside0 (kq ≤ k) ∧ Aside0 (Below w.heap.size w w'))
 case atStart => exact ⟨(0), sv_, H', ⟨Nat.le_refl _⟩, ⟨bel_⟩⟩
 case round =>
  clear H'
  obtain ⟨x9_1, rfl, HA, HK1, HB⟩ := hrel
  cases gk with
  | zero => exact absurd HA.out (by simp [impl_areAttrs.l0])
  | succ k1 =>
   have H := HA.out
   clear HA
   simp only [impl_areAttrs.l0] at H
   by_cases c2 : x9_1 < (l0.length : Int)
   ·rw [if_pos c2] at H
    have c2b0 : decide (x9_1 < (l0.length : Int)) = true := decide_eq_true c2
    clear c2
    by_cases c3 : 0 ≤ x9_1
    ·rw [if_pos c3] at H
     have c3b0 : decide (0 ≤ x9_1) = true := decide_eq_true c3
     clear c3
     by_cases c4 : x9_1 < (l0.length : Int)
     ·rw [if_pos c4] at H
      have c4b0 : decide (x9_1 < (l0.length : Int)) = true := decide_eq_true c4
      clear c4
      have HC5 := Aside0.mk H
      clear H
      have p260 : 0 ≤ (x9_1 : Int) := of_decide_eq_true am_
      have q260 : x9_1 < (l0.length : Int) := of_decide_eq_true am_
      obtain ⟨ad260, e260, hx260_0, hx260_1⟩ := at_T144 HR0.out x9_1 p260 q260
      cases e260
      replace hx260_0 := pw_cell_below HB.out hx260_0
      replace hx260_1 := pw_cell_below HB.out hx260_1
      replace p260 := eq_true p260
      replace q260 := eq_true q260
      go_upto_region 4 with (first | ((with_reducible refine gate_dst (N := 4) rfl ?_); refine box_event ?hg (N := 4) ?hd (cs := #[.string (⟨#[]⟩ : ByteArray), .string (⟨#[]⟩ : ByteArray)]) (t := 144) ?hr ?_; (case hd => rfl); (case hg => rfl); (case hr => first | (go_simp; done) | (go_simp; rfl)); intro gb261 hg w6 hbox hb; have n0_ := Aside0.mk (below_step bel_ hb); have n1_ := Aside0.mk (hbox); have n2_ := Aside0.mk ((by rw [hg]; exact (below_size bel_) : w.heap.size ≤ gb261)); have n3_ := Aside0.mk ((by rw [hg]; exact (below_size bel_) : w.heap.size ≤ gb261)); clear HB; have HB := n0_; have BK261 := n1_; have GW261 := n2_; have GE261 := n3_; clear n0_ n1_ n2_ n3_; clear hb hbox hg; have hcz7_0 := bc2_0 BK261.out; have hcz7_1 := bc2_1 BK261.out; have hfz7_0 := blk_frozen BK261.out 0; have hfz7_1 := blk_frozen BK261.out 1))
      (try simp only [Act.put, List.setIfInBounds_toArray, List.set_cons_zero, List.set_cons_succ])
      go_cut [23] (fun v23 wc => ∃ (kq : Nat) (x23_4 : Bool), v23 = .bool x23_4 ∧ Aside0 (impl_areAttrs.j1 kq l0 x9_1 l0 (l0.length : Int) x9_1 x23_4 ((rd_T144 l0 x9_1).f0) ((rd_T144 l0 x9_1).f1) = some r) ∧ Aside0 (kq ≤ k1) ∧ Aside0 (wc.heap[gb261]? = some (.cells #[.string ((rd_T144 l0 x9_1).f0), .string ((rd_T144 l0 x9_1).f1)] 144 (0, 0))) ∧ Aside0 (Below w.heap.size w wc))
      case first =>
       have H := HC5.out
       clear HC5
       replace H := Option.bind_eq_some_iff.mp H
       obtain ⟨t262, A80, H⟩ := H
       replace H : (if t262 = true then ((impl_badByte.f k1 ((rd_T144 l0 x9_1).f1)).bind fun t263 => (impl_areAttrs.j1 k1 l0 x9_1 l0 (l0.length : Int) x9_1 (decide (t263 ≥ 0)) ((rd_T144 l0 x9_1).f0) ((rd_T144 l0 x9_1).f1))) else (impl_areAttrs.j1 k1 l0 x9_1 l0 (l0.length : Int) x9_1 true ((rd_T144 l0 x9_1).f0) ((rd_T144 l0 x9_1).f1))) = some r := H
       have A8 := Aside0.mk A80
       clear A80
       by_cases c9 : t262 = true
       ·subst c9
        have H1 : ((impl_badByte.f k1 ((rd_T144 l0 x9_1).f1)).bind fun t263 => (impl_areAttrs.j1 k1 l0 x9_1 l0 (l0.length : Int) x9_1 (decide (t263 ≥ 0)) ((rd_T144 l0 x9_1).f0) ((rd_T144 l0 x9_1).f1))) = some r := by rw [if_pos rfl] at H; exact H
        clear H
        have H := H1
        clear H1
        replace H := Option.bind_eq_some_iff.mp H
        obtain ⟨t263, A100, H⟩ := H
        replace H : (impl_areAttrs.j1 k1 l0 x9_1 l0 (l0.length : Int) x9_1 (decide (t263 ≥ 0)) ((rd_T144 l0 x9_1).f0) ((rd_T144 l0 x9_1).f1)) = some r := H
        have A10 := Aside0.mk A100
        clear A100
        have H' := Aside0.mk H
        clear H
        have hcz11_0 := bc2_0 BK261.out
        have hcz11_1 := bc2_1 BK261.out
        have hfz11_0 := blk_frozen BK261.out 0
        have hfz11_1 := blk_frozen BK261.out 1
        go_wp2_with (first | ((with_reducible refine gate_callee (f := 84) rfl ?_); refine goesL_ (some 16) rfl rfl Tryd.func84 (by kernel_rfl) rfl #[.string ((rd_T144 l0 x9_1).f0)] rfl au_ ?_; (with_reducible refine (impl_isName.calls k1 ((rd_T144 l0 x9_1).f0) true _ A8.out).mono ?_); rintro e w' ⟨rfl, ⟨nd, rfl⟩⟩; refine ⟨_, rfl, ?_⟩) | (go_at_call 83; (with_reducible refine (impl_badByte.calls k1 ((rd_T144 l0 x9_1).f1) t263 _ A10.out ?hT_).mono ?_); (case hT_ => exact utf8_keep_ hT_ bes_); rintro e w12 ⟨rfl, hb⟩; have n0_ := Aside0.mk (blk_below (g := gb261) (o := .cells #[.string ((rd_T144 l0 x9_1).f0), .string ((rd_T144 l0 x9_1).f1)] 144 (0, 0)) (by (with_reducible repeat (first | refine blk_drewN ?_ _ | refine blk_drew ?_ | refine blk_alloc ?_ _)); refine blk_put (cs := #[.string ((rd_T144 l0 x9_1).f0), .string (⟨#[]⟩ : ByteArray)]) ?_ 1 _ rfl; (with_reducible repeat (first | refine blk_drewN ?_ _ | refine blk_drew ?_ | refine blk_alloc ?_ _)); refine blk_put (cs := #[.string (⟨#[]⟩ : ByteArray), .string (⟨#[]⟩ : ByteArray)]) ?_ 0 _ rfl; (with_reducible repeat (first | refine blk_drewN ?_ _ | refine blk_drew ?_ | refine blk_alloc ?_ _)); exact BK261.out) hb); have n1_ := Aside0.mk (below_step bes_ hb); clear BK261; clear HB; have BK261 := n0_; have HB := n1_; clear n0_ n1_; (try clear hb);(try clear hb2);(try clear hk);(try clear hi)))
        go_meet
        case rel => exact ⟨_, (decide (t263 ≥ 0)), sv_, H', ⟨by have := HK1.out; first | omega | exact Nat.le_refl _⟩, ⟨by (with_reducible repeat (first | refine blk_drewN ?_ _ | refine blk_drew ?_ | refine blk_alloc ?_ _)); exact BK261.out⟩, ⟨bes_⟩⟩
       ·replace c9 := Bool.eq_false_iff.mpr c9
        subst c9
        have H1 : (impl_areAttrs.j1 k1 l0 x9_1 l0 (l0.length : Int) x9_1 true ((rd_T144 l0 x9_1).f0) ((rd_T144 l0 x9_1).f1)) = some r := by rw [if_neg (show ¬ (false = true) by decide)] at H; exact H
        clear H
        have H := H1
        clear H1
        have H' := Aside0.mk H
        clear H
        have hcz13_0 := bc2_0 BK261.out
        have hcz13_1 := bc2_1 BK261.out
        have hfz13_0 := blk_frozen BK261.out 0
        have hfz13_1 := blk_frozen BK261.out 1
        go_wp2_with (first | ((with_reducible refine gate_callee (f := 84) rfl ?_); refine goesL_ (some 16) rfl rfl Tryd.func84 (by kernel_rfl) rfl #[.string ((rd_T144 l0 x9_1).f0)] rfl au_ ?_; (with_reducible refine (impl_isName.calls k1 ((rd_T144 l0 x9_1).f0) false _ A8.out).mono ?_); rintro e w' ⟨rfl, ⟨nd, rfl⟩⟩; refine ⟨_, rfl, ?_⟩))
        go_meet
        case rel => exact ⟨_, (true), sv_, H', ⟨by have := HK1.out; first | omega | exact Nat.le_refl _⟩, ⟨by (with_reducible repeat (first | refine blk_drewN ?_ _ | refine blk_drew ?_ | refine blk_alloc ?_ _)); refine blk_put (cs := #[.string ((rd_T144 l0 x9_1).f0), .string (⟨#[]⟩ : ByteArray)]) ?_ 1 _ rfl; (with_reducible repeat (first | refine blk_drewN ?_ _ | refine blk_drew ?_ | refine blk_alloc ?_ _)); refine blk_put (cs := #[.string (⟨#[]⟩ : ByteArray), .string (⟨#[]⟩ : ByteArray)]) ?_ 0 _ rfl; (with_reducible repeat (first | refine blk_drewN ?_ _ | refine blk_drew ?_ | refine blk_alloc ?_ _)); exact BK261.out⟩, ⟨bes_⟩⟩
      case rest =>
       clear HC5
       (try clear c2);(try clear c2b0);(try clear p2);(try clear q2);(try clear hx2);(try clear c3);(try clear c3b0);(try clear c4);(try clear c4b0);(try clear c8);(try clear c9);(try clear hcz11_0 hcz11_1);(try clear hcz13_0 hcz13_1);(try clear hcz7_0 hcz7_1);(try clear hfz11_0 hfz11_1);(try clear hfz13_0 hfz13_1);(try clear hfz7_0 hfz7_1);(try clear hx260_0);(try clear hx260_1);(try clear p260);(try clear q260)
       obtain ⟨kq, x23_4, rfl, HA, HJ4, BK261, HB⟩ := hcut
       cases kq with
       | zero => exact absurd HA.out (by simp [impl_areAttrs.j1])
       | succ kj4 =>
        have H := HA.out
        clear HA
        simp only [impl_areAttrs.j1] at H
        by_cases c14 : x23_4 = true
        ·subst c14
         have H1 : (some false) = some r := by rw [if_pos rfl] at H; exact H
         clear H
         have H := H1
         clear H1
         obtain rfl := Option.some.inj H
         go_wp2
         go_ret
         exact ⟨er_, bes_⟩
        ·replace c14 := Bool.eq_false_iff.mpr c14
         subst c14
         have H1 : (if 0 ≤ x9_1 then (if x9_1 ≤ (l0.length : Int) then ((some (l0.take (x9_1 : Int).toNat : List (S144))).bind fun y264 => (impl_areAttrs.l1 kj4 l0 l0 (l0.length : Int) x9_1 y264 (y264.length : Int) 0 ((rd_T144 l0 x9_1).f0) ((rd_T144 l0 x9_1).f1))) else (none)) else (none)) = some r := by rw [if_neg (show ¬ (false = true) by decide)] at H; exact H
         clear H
         have H := H1
         clear H1
         by_cases c15 : 0 ≤ x9_1
         ·rw [if_pos c15] at H
          have c15b0 := eq_true c15
          have c15b1 : decide (0 ≤ x9_1) = true := decide_eq_true c15
          clear c15
          by_cases c16 : x9_1 ≤ (l0.length : Int)
          ·rw [if_pos c16] at H
           have c16b0 := eq_true c16
           have c16b1 : decide (x9_1 ≤ (l0.length : Int)) = true := decide_eq_true c16
           clear c16
           obtain ⟨y264, hy264⟩ : ∃ y_ : List (S144), y_ = (l0.take (x9_1 : Int).toNat) := ⟨_, rfl⟩
           replace H : (impl_areAttrs.l1 kj4 l0 l0 (l0.length : Int) x9_1 y264 (y264.length : Int) 0 ((rd_T144 l0 x9_1).f0) ((rd_T144 l0 x9_1).f1)) = some r := by first | (rw [hy264]; with_reducible exact H) | (have H2_ := (Option.bind_some _ _).symm.trans H; rw [hy264]; with_reducible exact H2_) | (have H2_ := (Option.bind_some _ _).symm.trans H; with_reducible exact H2_) | with_reducible exact H | (rw [hy264]; exact H) | exact H
           have Ny264 := Aside0.mk hy264
           clear hy264
           have H' := Aside0.mk H
           clear H
           have q17 : (x9_1 : Int) ≤ ((l0.length : Int) : Int) := of_decide_eq_true am_
           obtain ⟨i017, hi017, _, hsz17, _⟩ := info_parts info144
           have hroom17 : l0.length ≤ c0 := HC0.out
           have hC17 : Kd.C k144 _ (some ad260) l0.length l0 := HR0.out
           have hcut17 := cut_to (P := Tryd.prog) 67 144 .i64 Tryd.underlying67 hi017 (some ad260) l0.length c0 x9_1 (of_decide_eq_true am_) q17 hroom17
           have hr17 := Kd.C_take (m := (x9_1 : Int).toNat) hC17 (by omega)
           have hy17 : y264.length = (x9_1 : Int).toNat := (by rw [Ny264.out, List.length_take]; omega)
           rw [← Ny264.out] at hr17
           rw [← hy17] at hcut17
           have HR267 := Aside0.mk hr17
           have HC267 := Aside0.mk (show y264.length ≤ c0 from by omega)
           clear hr17 hC17 hroom17 hi017 hsz17
           have KY17 := Aside0.mk hy17
           clear hy17
           replace q17 := eq_true q17
           go_wp2
           go_loopg [28] kj4 (fun kq v28 w' => ∃ (x28_3 : Int), v28 = .int .i64 x28_3 ∧ Aside0 (impl_areAttrs.l1 kq l0 l0 (l0.length : Int) x9_1 y264 (y264.length : Int) x28_3 ((rd_T144 l0 x9_1).f0) ((rd_T144 l0 x9_1).f1) = some r) ∧ Aside0 (kq ≤ kj4) ∧ Aside0 (w'.heap[gb261]? = some (.cells #[.string ((rd_T144 l0 x9_1).f0), .string ((rd_T144 l0 x9_1).f1)] 144 (0, 0))) ∧ Aside0 (Below w.heap.size w w'))
           case atStart => exact ⟨(0), sv_, H', ⟨Nat.le_refl _⟩, ⟨by (with_reducible repeat (first | refine blk_drewN ?_ _ | refine blk_drew ?_ | refine blk_alloc ?_ _)); exact BK261.out⟩, ⟨bes_⟩⟩
           case round =>
            clear H'
            (try clear c1);(try clear q1);(try clear c2);(try clear c2b0);(try clear p2);(try clear q2);(try clear hx2);(try clear c3);(try clear c3b0);(try clear c4);(try clear c4b0);(try clear c8);(try clear c9);(try clear c14);(try clear c15);(try clear c15b0 c15b1);(try clear c16);(try clear c16b0 c16b1);(try clear q17);(try clear hcz11_0 hcz11_1);(try clear hcz13_0 hcz13_1);(try clear hcz7_0 hcz7_1);(try clear hfz11_0 hfz11_1);(try clear hfz13_0 hfz13_1);(try clear hfz7_0 hfz7_1);(try clear hx260_0);(try clear hx260_1);(try clear p2);(try clear p260);(try clear q17);(try clear q2);(try clear q260)
            obtain ⟨x28_3, rfl, HA, HK3, BK261, HB⟩ := hrel
            cases gk with
            | zero => exact absurd HA.out (by simp [impl_areAttrs.l1])
            | succ k3 =>
             have H := HA.out
             clear HA
             simp only [impl_areAttrs.l1] at H
             by_cases c18 : x28_3 < (y264.length : Int)
             ·rw [if_pos c18] at H
              have c18b0 : decide (x28_3 < (y264.length : Int)) = true := decide_eq_true c18
              clear c18
              by_cases c19 : 0 ≤ x28_3
              ·rw [if_pos c19] at H
               have c19b0 : decide (0 ≤ x28_3) = true := decide_eq_true c19
               clear c19
               by_cases c20 : x28_3 < (y264.length : Int)
               ·rw [if_pos c20] at H
                have c20b0 : decide (x28_3 < (y264.length : Int)) = true := decide_eq_true c20
                clear c20
                by_cases c21 : ((rd_T144 l0 x9_1).f0).toList = ((rd_T144 y264 x28_3).f0).toList
                ·rw [if_pos c21] at H
                 have c21b0 : (((rd_T144 l0 x9_1).f0).toList == ((rd_T144 y264 x28_3).f0).toList) = true := beq_iff_eq.mpr c21
                 have c21b1 : (((rd_T144 l0 x9_1).f0).toList != ((rd_T144 y264 x28_3).f0).toList) = false := bne_eq_false_iff_eq.mpr c21
                 clear c21
                 obtain rfl := Option.some.inj H
                 have p268 : 0 ≤ (x28_3 : Int) := of_decide_eq_true am_
                 have q268 : x28_3 < (y264.length : Int) := of_decide_eq_true am_
                 obtain ⟨ad268, e268, hx268_0, hx268_1⟩ := at_T144 HR267.out x28_3 p268 q268
                 obtain rfl : ad260 = ad268 := (by injection e268)
                 replace hx268_0 := pw_cell_below HB.out hx268_0
                 replace hx268_1 := pw_cell_below HB.out hx268_1
                 replace p268 := eq_true p268
                 replace q268 := eq_true q268
                 go_wp2_with (first | ((with_reducible refine gate_dst (N := 6) rfl ?_); refine box_event ?hg (N := 6) ?hd (cs := #[.string (⟨#[]⟩ : ByteArray), .string (⟨#[]⟩ : ByteArray)]) (t := 144) ?hr ?_; (case hd => rfl); (case hg => rfl); (case hr => first | (go_simp; done) | (go_simp; rfl)); intro gb269 hg w22 hbox hb; have n0_ := Aside0.mk (blk_below (g := gb261) (o := .cells #[.string ((rd_T144 l0 x9_1).f0), .string ((rd_T144 l0 x9_1).f1)] 144 (0, 0)) (bk_ BK261.out) hb); have n1_ := Aside0.mk (below_step bes_ hb); have n2_ := Aside0.mk (hbox); have n3_ := Aside0.mk ((by rw [hg]; exact (below_size bes_) : w.heap.size ≤ gb269)); have n4_ := Aside0.mk ((by rw [hg]; exact (below_size bes_) : w.heap.size ≤ gb269)); have n5_ := Aside0.mk ((by rw [hg]; exact Nat.ne_of_lt (blk_lt (g := gb261) (o := .cells #[.string ((rd_T144 l0 x9_1).f0), .string ((rd_T144 l0 x9_1).f1)] 144 (0, 0)) (bk_ BK261.out)) : gb261 ≠ gb269)); have n6_ := Aside0.mk ((by rw [hg]; exact Nat.ne_of_gt (blk_lt (g := gb261) (o := .cells #[.string ((rd_T144 l0 x9_1).f0), .string ((rd_T144 l0 x9_1).f1)] 144 (0, 0)) (bk_ BK261.out)) : gb269 ≠ gb261)); clear BK261; clear HB; have BK261 := n0_; have HB := n1_; have BK269 := n2_; have GW269 := n3_; have GE269 := n4_; have NB261_269 := n5_; have NB269_261 := n6_; clear n0_ n1_ n2_ n3_ n4_ n5_ n6_; clear hb hbox hg; have hnb23 := NB269_261.out; have hnc23 := NB261_269.out; have hcz24_0 := bc2_0 BK269.out; have hcz24_1 := bc2_1 BK269.out; have hfz24_0 := blk_frozen BK269.out 0; have hfz24_1 := blk_frozen BK269.out 1; have hcz25_0 := bc2_0 BK261.out; have hcz25_1 := bc2_1 BK261.out; have hfz25_0 := blk_frozen BK261.out 0; have hfz25_1 := blk_frozen BK261.out 1))
                 go_ret
                 exact ⟨er_, bes_⟩
                ·rw [if_neg c21] at H
                 have c21b0 : (((rd_T144 l0 x9_1).f0).toList == ((rd_T144 y264 x28_3).f0).toList) = false := beq_eq_false_iff_ne.mpr c21
                 have c21b1 : (((rd_T144 l0 x9_1).f0).toList != ((rd_T144 y264 x28_3).f0).toList) = true := bne_iff_ne.mpr c21
                 have H' := Aside0.mk H
                 clear H
                 have p268 : 0 ≤ (x28_3 : Int) := of_decide_eq_true am_
                 have q268 : x28_3 < (y264.length : Int) := of_decide_eq_true am_
                 obtain ⟨ad268, e268, hx268_0, hx268_1⟩ := at_T144 HR267.out x28_3 p268 q268
                 obtain rfl : ad260 = ad268 := (by injection e268)
                 replace hx268_0 := pw_cell_below HB.out hx268_0
                 replace hx268_1 := pw_cell_below HB.out hx268_1
                 replace p268 := eq_true p268
                 replace q268 := eq_true q268
                 go_wp2_with (first | ((with_reducible refine gate_dst (N := 6) rfl ?_); refine box_event ?hg (N := 6) ?hd (cs := #[.string (⟨#[]⟩ : ByteArray), .string (⟨#[]⟩ : ByteArray)]) (t := 144) ?hr ?_; (case hd => rfl); (case hg => rfl); (case hr => first | (go_simp; done) | (go_simp; rfl)); intro gb269 hg w26 hbox hb; have n0_ := Aside0.mk (blk_below (g := gb261) (o := .cells #[.string ((rd_T144 l0 x9_1).f0), .string ((rd_T144 l0 x9_1).f1)] 144 (0, 0)) (bk_ BK261.out) hb); have n1_ := Aside0.mk (below_step bes_ hb); have n2_ := Aside0.mk (hbox); have n3_ := Aside0.mk ((by rw [hg]; exact (below_size bes_) : w.heap.size ≤ gb269)); have n4_ := Aside0.mk ((by rw [hg]; exact (below_size bes_) : w.heap.size ≤ gb269)); have n5_ := Aside0.mk ((by rw [hg]; exact Nat.ne_of_lt (blk_lt (g := gb261) (o := .cells #[.string ((rd_T144 l0 x9_1).f0), .string ((rd_T144 l0 x9_1).f1)] 144 (0, 0)) (bk_ BK261.out)) : gb261 ≠ gb269)); have n6_ := Aside0.mk ((by rw [hg]; exact Nat.ne_of_gt (blk_lt (g := gb261) (o := .cells #[.string ((rd_T144 l0 x9_1).f0), .string ((rd_T144 l0 x9_1).f1)] 144 (0, 0)) (bk_ BK261.out)) : gb269 ≠ gb261)); clear BK261; clear HB; have BK261 := n0_; have HB := n1_; have BK269 := n2_; have GW269 := n3_; have GE269 := n4_; have NB261_269 := n5_; have NB269_261 := n6_; clear n0_ n1_ n2_ n3_ n4_ n5_ n6_; clear hb hbox hg; have hnb27 := NB269_261.out; have hnc27 := NB261_269.out; have hcz28_0 := bc2_0 BK269.out; have hcz28_1 := bc2_1 BK269.out; have hfz28_0 := blk_frozen BK269.out 0; have hfz28_1 := blk_frozen BK269.out 1; have hcz29_0 := bc2_0 BK261.out; have hcz29_1 := bc2_1 BK261.out; have hfz29_0 := blk_frozen BK261.out 0; have hfz29_1 := blk_frozen BK261.out 1))
                 go_roundg k3
                 case measure => have := HK1.out; have := HJ4.out; have := HK3.out; omega
                 case rel => exact ⟨(wrap64 (x28_3 + 1)), sv_, H', ⟨by have := HK1.out; have := HJ4.out; have := HK3.out; omega⟩, ⟨by (with_reducible repeat (first | refine blk_drewN ?_ _ | refine blk_drew ?_ | refine blk_alloc ?_ _)); refine blk_far ?_ NB261_269.out _; (with_reducible repeat (first | refine blk_drewN ?_ _ | refine blk_drew ?_ | refine blk_alloc ?_ _)); refine blk_far ?_ NB261_269.out _; (with_reducible repeat (first | refine blk_drewN ?_ _ | refine blk_drew ?_ | refine blk_alloc ?_ _)); exact BK261.out⟩, ⟨bes_⟩⟩
               ·rw [if_neg c20] at H
                exact absurd H (by simp)
              ·rw [if_neg c19] at H
               exact absurd H (by simp)
             ·rw [if_neg c18] at H
              have c18b0 : decide (x28_3 < (y264.length : Int)) = false := decide_eq_false c18
              clear c18
              have H' := Aside0.mk H
              clear H
              go_wp2
              go_roundg k3
              case measure => have := HK1.out; have := HJ4.out; have := HK3.out; omega
              case rel => exact ⟨(wrap64 (x9_1 + 1)), sv_, H', ⟨by have := HK1.out; have := HJ4.out; have := HK3.out; omega⟩, ⟨bes_⟩⟩
          ·rw [if_neg c16] at H
           exact absurd H (by simp)
         ·rw [if_neg c15] at H
          exact absurd H (by simp)
     ·rw [if_neg c4] at H
      exact absurd H (by simp)
    ·rw [if_neg c3] at H
     exact absurd H (by simp)
   ·rw [if_neg c2] at H
    have c2b0 : decide (x9_1 < (l0.length : Int)) = false := decide_eq_false c2
    clear c2
    obtain rfl := Option.some.inj H
    go_wp2
    go_ret
    exact ⟨er_, bel_⟩

/-! ### impl_isAround: function 86 -/
def impl_isAround.l0 : Nat → List (S69) → Int → Int → Option (Bool)
 | 0, _, _, _ => none
 | k + 1, x0, x1, x2 => if x2 ≥ 0 then (if x2 = x1 then (some true) else (if 0 ≤ x2 then (if x2 < (x0.length : Int) then (impl_isAround.l0 k x0 x1 ((rd_T69 x0 x2).f1)) else (none)) else (none))) else (some false)
def impl_isAround.f (k : Nat) (l0 : List (S69)) (a1 : Int) (a2 : Int) : Option (Bool) := impl_isAround.l0 k l0 a1 a2
set_option maxHeartbeats 8000000 in
set_option maxRecDepth 100000 in
theorem impl_isAround.calls (k : Nat) (A0 : Option Addr) (c0 : Nat) (l0 : List (S69)) (a1 : Int) (a2 : Int) (r : Bool) (w : World) (hr0 : Kd.C k69 w A0 l0.length l0) (hc0 : l0.length ≤ c0) (h : impl_isAround.f k l0 a1 a2 = some r) :
  Calls Tryd.prog 86 #[.slice A0 l0.length c0, .int .i64 a1, .int .i64 a2] w fun e w' => e = .returned (.bool r) ∧ Drawn0 w w' := by
 have HR0 := Aside0.mk hr0
 have HC0 := Aside0.mk hc0
 clear hr0 hc0
 have H : (impl_isAround.l0 k l0 a1 a2) = some r := h
 clear h
 have H' := Aside0.mk H
 clear H
 go_enter Tryd.func86, Tryd.ntmps86
 go_wp2
 go_loopg [2] k (fun kq v2 w' => ∃ (x2_1 : Int), v2 = .int .i64 x2_1 ∧ Aside0 (impl_isAround.l0 kq l0 a1 x2_1 = some r) ∧ Aside0 (kq ≤ k) ∧ Drawn0 w w')
 case atStart => exact ⟨(a2), sv_, H', ⟨Nat.le_refl _⟩, by repeat (first | exact Drawn0.refl _ | apply Drawn0.step)⟩
 case round =>
  clear H'
  (try clear p2)
  obtain ⟨x2_1, rfl, HA, HK1, ⟨m1, rfl⟩⟩ := hrel
  cases gk with
  | zero => exact absurd HA.out (by simp [impl_isAround.l0])
  | succ k1 =>
   have H := HA.out
   clear HA
   simp only [impl_isAround.l0] at H
   by_cases c4 : x2_1 ≥ 0
   ·rw [if_pos c4] at H
    have c4b0 : decide (0 ≤ x2_1) = true := decide_eq_true c4
    clear c4
    by_cases c5 : x2_1 = a1
    ·rw [if_pos c5] at H
     have c5b0 : (x2_1 == a1) = true := beq_iff_eq.mpr c5
     have c5b1 : (x2_1 != a1) = false := bne_eq_false_iff_eq.mpr c5
     clear c5
     obtain rfl := Option.some.inj H
     go_wp2
     go_ret
     exact ⟨by first | rfl | (simp; done) | (simp [*]; done), by repeat (first | exact Drawn0.refl _ | apply Drawn0.step)⟩
    ·rw [if_neg c5] at H
     have c5b0 : (x2_1 == a1) = false := beq_eq_false_iff_ne.mpr c5
     have c5b1 : (x2_1 != a1) = true := bne_iff_ne.mpr c5
     by_cases c6 : 0 ≤ x2_1
     ·rw [if_pos c6] at H
      have c6b0 : decide (0 ≤ x2_1) = true := decide_eq_true c6
      clear c6
      by_cases c7 : x2_1 < (l0.length : Int)
      ·rw [if_pos c7] at H
       have c7b0 : decide (x2_1 < (l0.length : Int)) = true := decide_eq_true c7
       clear c7
       have H' := Aside0.mk H
       clear H
       have p270 : 0 ≤ (x2_1 : Int) := of_decide_eq_true am_
       have q270 : x2_1 < (l0.length : Int) := of_decide_eq_true am_
       obtain ⟨ad270, A270_2, c270_2, e270, hx270_0, hx270_1, hx270_2, hx270_3, hl270_2, hi270_2⟩ := at_T69 HR0.out x2_1 p270 q270
       cases e270
       have HR270_2 := Aside0.mk hi270_2
       have HC270_2 := Aside0.mk hl270_2
       clear hi270_2 hl270_2
       replace p270 := eq_true p270
       replace q270 := eq_true q270
       go_wp2
       go_roundg k1
       case measure => have := HK1.out; omega
       case rel => exact ⟨((rd_T69 l0 x2_1).f1), sv_, H', ⟨by have := HK1.out; omega⟩, by repeat (first | exact Drawn0.refl _ | apply Drawn0.step)⟩
      ·rw [if_neg c7] at H
       exact absurd H (by simp)
     ·rw [if_neg c6] at H
      exact absurd H (by simp)
   ·rw [if_neg c4] at H
    have c4b0 : decide (0 ≤ x2_1) = false := decide_eq_false c4
    clear c4
    obtain rfl := Option.some.inj H
    go_wp2
    go_ret
    exact ⟨by first | rfl | (simp; done) | (simp [*]; done), by repeat (first | exact Drawn0.refl _ | apply Drawn0.step)⟩

end Go.Proofs.YtooilehdljeepaaDoor.PFnExactMatches
