-- Laid by a program of this session out of the translation (its own run of the print). Lean checks it.
import Derived.Test.YtooilehdljeepaaDoorPFnExactReadSheetx0
import Derived.Test.YtooilehdljeepaaDoorPFnExactReadSheetx1
import Derived.Test.YtooilehdljeepaaDoorPFnExactReadSheetx3
import Derived.Test.YtooilehdljeepaaDoorPFnExactReadSheetx4
import Derived.Test.YtooilehdljeepaaDoorPFnExactReadSheetx6
namespace Go.Proofs.YtooilehdljeepaaDoor.PFnExactReadSheet
open Go.RowKit Go.Proofs.YtooilehdljeepaaDoorW.PrintWords Go.Proofs.YtooilehdljeepaaDoorW.PrintLast Go.Proofs.YtooilehdljeepaaDoorW.PrintMore
attribute [local go_sem] max2_int min2_int max_two min_two max_three min_three max_four min_four   -- for this text's walks alone
set_option linter.unusedVariables false
set_option linter.unusedSimpArgs false

/-! ### spec_l5Selector: function 103 -/
mutual
def spec_l5Selector.l0 : Nat → ByteArray → List (S71) → ByteArray → Int → Option ((List (S71)) × Bool)
 | 0, _, _, _, _ => none
 | k + 1, x0, x4, x5, x6 => if x6 ≤ (x0.size : Int) then (if x6 < (x0.size : Int) then (if 0 ≤ x6 then ((spec_l4Blank.f (bt x0 x6)).bind fun t145 => (spec_l5Selector.j1 k x0 x4 x5 x6 (!t145))) else (none)) else (spec_l5Selector.j1 k x0 x4 x5 x6 false)) else (some (x4, decide ((x4.length : Int) > 0)))
def spec_l5Selector.j1 : Nat → ByteArray → List (S71) → ByteArray → Int → Bool → Option ((List (S71)) × Bool)
 | 0, _, _, _, _, _ => none
 | k + 1, x0, x4, x5, x6, x25 => if x25 = true then (if 0 ≤ x6 then (if x6 ≤ (wrap64 (x6 + 1)) then (if (wrap64 (x6 + 1)) ≤ (x0.size : Int) then (if x5.size + (x0.extract (x6 : Int).toNat ((wrap64 (x6 + 1)) : Int).toNat).size ≤ 9223372036854775807 then (spec_l5Selector.l0 k x0 x4 (x5 ++ (x0.extract (x6 : Int).toNat ((wrap64 (x6 + 1)) : Int).toNat)) (wrap64 (x6 + 1))) else (none)) else (none)) else (none)) else (none)) else (if x5.toList = ([] : List UInt8) then (spec_l5Selector.l0 k x0 x4 x5 (wrap64 (x6 + 1))) else ((spec_l5Part.f k x5).bind fun bt146 => (if bt146.2.2.2 = true then (if (x4.length : Int) = 5 then (some (([] : List (S71)), false)) else (if x4.length < 2513169434916 then (spec_l5Selector.l0 k x0 (x4 ++ [(⟨bt146.1, bt146.2.1, bt146.2.2.1⟩ : S71)]) (⟨#[]⟩ : ByteArray) (wrap64 (x6 + 1))) else (none))) else (some (([] : List (S71)), false)))))
end
def spec_l5Selector.f (k : Nat) (a0 : ByteArray) : Option ((List (S71)) × Bool) := spec_l5Selector.l0 k a0 ([] : List (S71)) (⟨#[]⟩ : ByteArray) 0
set_option maxHeartbeats 8000000 in
set_option maxRecDepth 100000 in
theorem spec_l5Selector.calls (k : Nat) (a0 : ByteArray) (r1 : List (S71)) (r2 : Bool) (w : World) (h : spec_l5Selector.f k a0 = some (r1, r2)) :
  Calls Tryd.prog 103 #[.string a0] w fun e w' => ∃ v0_ : Value, e = .returned (.tuple #[v0_, .bool r2]) ∧ Kd.S k71 71 w' w.heap.size (fun _ => True) v0_ r1 ∧ Below w.heap.size w w' := by
 have hu71 := Tryd.underlying71
 have HB := Aside0.mk (Below.refl w.heap.size w)
 have H : (spec_l5Selector.l0 k a0 ([] : List (S71)) (⟨#[]⟩ : ByteArray) 0) = some (r1, r2) := h
 clear h
 have H' := Aside0.mk H
 clear H
 go_enter Tryd.func103, Tryd.ntmps103
 go_wp2
 go_loopg [4, 5, 6] k (fun kq v4 v5 v6 w' => ∃ (x4_1 : List (S71)) (x5_1 : ByteArray) (x6_1 : Int), v5 = .string x5_1 ∧ v6 = .int .i64 x6_1 ∧ Aside0 (spec_l5Selector.l0 kq a0 x4_1 x5_1 x6_1 = some (r1, r2)) ∧ Aside0 (kq ≤ k) ∧ Aside0 (Kd.S k71 71 w' w.heap.size (fun _ => True) v4 x4_1) ∧ Aside0 (Below w.heap.size w w'))
 case atStart => exact ⟨(([] : List (S71))), ((⟨#[]⟩ : ByteArray)), (0), sv_, sv_, H', ⟨Nat.le_refl _⟩, ⟨by first | exact Kd.S_nil _ _ _ _ _ | exact Kd.N_nil _ _ _ _ _ | exact Kd.V_nil _ _ _ _ _ | exact Kd.Q_nil _ _ _ _ _ | exact Kd.R_nil _ _ _ _ _⟩, ⟨bel_⟩⟩
 case round =>
  clear H'
  (try clear c1)
  obtain ⟨x4_1, x5_1, x6_1, rfl, rfl, HA, HK1, HO_4, HB⟩ := hrel
  cases gk with
  | zero => exact absurd HA.out (by simp [spec_l5Selector.l0])
  | succ k1 =>
   have H := HA.out
   clear HA
   simp only [spec_l5Selector.l0] at H
   by_cases c2 : x6_1 ≤ (a0.size : Int)
   ·rw [if_pos c2] at H
    have c2b0 : decide (x6_1 ≤ (a0.size : Int)) = true := decide_eq_true c2
    clear c2
    have HC3 := Aside0.mk H
    clear H
    go_upto_region 6 with (fail)
    go_cut [25] (fun v25 wc => ∃ (kq : Nat) (x25_2 : Bool), v25 = .bool x25_2 ∧ Aside0 (spec_l5Selector.j1 kq a0 x4_1 x5_1 x6_1 x25_2 = some (r1, r2)) ∧ Aside0 (kq ≤ k1) ∧ Aside0 (Kd.S k71 71 wc w.heap.size (fun _ => True) u4 x4_1) ∧ Aside0 (Below w.heap.size w wc))
    case first =>
     have H := HC3.out
     clear HC3
     by_cases c4 : x6_1 < (a0.size : Int)
     ·rw [if_pos c4] at H
      have c4b0 : decide (x6_1 < (a0.size : Int)) = true := decide_eq_true c4
      clear c4
      (first | rw [c4b0] | (simp only [i64_w, i32_w]; rw [c4b0]) | skip)
      by_cases c5 : 0 ≤ x6_1
      ·rw [if_pos c5] at H
       have c5b0 : decide (0 ≤ x6_1) = true := decide_eq_true c5
       clear c5
       replace H := Option.bind_eq_some_iff.mp H
       obtain ⟨t145, A70, H⟩ := H
       replace H : (spec_l5Selector.j1 k1 a0 x4_1 x5_1 x6_1 (!t145)) = some (r1, r2) := H
       have A7 := Aside0.mk A70
       clear A70
       have H' := Aside0.mk H
       clear H
       have p6 : 0 ≤ (x6_1 : Int) := of_decide_eq_true am_
       have q6 : x6_1 < (a0.size : Int) := of_decide_eq_true am_
       have hx6 := bt_at a0 x6_1
       replace p6 := eq_true p6
       replace q6 := eq_true q6
       go_wp2_with (first | (go_at_call 112; (with_reducible refine (spec_l4Blank.calls (bt a0 x6_1) t145 _ A7.out).mono ?_); rintro e w' ⟨rfl, ⟨nd, rfl⟩⟩))
       go_meet
       case rel => exact ⟨_, (!t145), sv_, H', ⟨by have := HK1.out; first | omega | exact Nat.le_refl _⟩, ⟨by (with_reducible repeat (first | apply Kd.S_alloc | apply Kd.S_drewN | apply Kd.S_drew)); exact HO_4.out⟩, ⟨bel_⟩⟩
      ·rw [if_neg c5] at H
       exact absurd H (by simp)
     ·rw [if_neg c4] at H
      have c4b0 : decide (x6_1 < (a0.size : Int)) = false := decide_eq_false c4
      clear c4
      (first | rw [c4b0] | (simp only [i64_w, i32_w]; rw [c4b0]) | skip)
      have H' := Aside0.mk H
      clear H
      go_wp2
      go_meet
      case rel => exact ⟨_, (false), sv_, H', ⟨by have := HK1.out; first | omega | exact Nat.le_refl _⟩, ⟨by (with_reducible repeat (first | apply Kd.S_alloc | apply Kd.S_drewN | apply Kd.S_drew)); exact HO_4.out⟩, ⟨bel_⟩⟩
    case rest =>
     clear HC3
     (try clear c1);(try clear c2);(try clear c2b0);(try clear p2);(try clear c4);(try clear c4b0);(try clear c5);(try clear c5b0);(try clear p6);(try clear q6);(try clear hx6);(try clear p6);(try clear q6)
     obtain ⟨kq, x25_2, rfl, HA, HJ2, HO_4, HB⟩ := hcut
     cases kq with
     | zero => exact absurd HA.out (by simp [spec_l5Selector.j1])
     | succ kj2 =>
      have H := HA.out
      clear HA
      simp only [spec_l5Selector.j1] at H
      by_cases c8 : x25_2 = true
      ·subst c8
       have H1 : (if 0 ≤ x6_1 then (if x6_1 ≤ (wrap64 (x6_1 + 1)) then (if (wrap64 (x6_1 + 1)) ≤ (a0.size : Int) then (if x5_1.size + (a0.extract (x6_1 : Int).toNat ((wrap64 (x6_1 + 1)) : Int).toNat).size ≤ 9223372036854775807 then (spec_l5Selector.l0 kj2 a0 x4_1 (x5_1 ++ (a0.extract (x6_1 : Int).toNat ((wrap64 (x6_1 + 1)) : Int).toNat)) (wrap64 (x6_1 + 1))) else (none)) else (none)) else (none)) else (none)) = some (r1, r2) := by rw [if_pos rfl] at H; exact H
       clear H
       have H := H1
       clear H1
       by_cases c9 : 0 ≤ x6_1
       ·rw [if_pos c9] at H
        have c9b0 := eq_true c9
        have c9b1 : decide (0 ≤ x6_1) = true := decide_eq_true c9
        clear c9
        by_cases c10 : x6_1 ≤ (wrap64 (x6_1 + 1))
        ·rw [if_pos c10] at H
         have c10b0 := eq_true c10
         have c10b1 : decide (x6_1 ≤ (wrap64 (x6_1 + 1))) = true := decide_eq_true c10
         by_cases c11 : (wrap64 (x6_1 + 1)) ≤ (a0.size : Int)
         ·rw [if_pos c11] at H
          have c11b0 := eq_true c11
          have c11b1 : decide ((wrap64 (x6_1 + 1)) ≤ (a0.size : Int)) = true := decide_eq_true c11
          by_cases c12 : x5_1.size + (a0.extract (x6_1 : Int).toNat ((wrap64 (x6_1 + 1)) : Int).toNat).size ≤ 9223372036854775807
          ·rw [if_pos c12] at H
           have c12b0 := eq_true c12
           have c12b1 : decide (x5_1.size + (a0.extract (x6_1 : Int).toNat ((wrap64 (x6_1 + 1)) : Int).toNat).size ≤ 9223372036854775807) = true := decide_eq_true c12
           try have c12b2 : (9223372036854775807 < x5_1.size + (a0.extract (x6_1 : Int).toNat ((wrap64 (x6_1 + 1)) : Int).toNat).size) = False := eq_false (Nat.not_lt.2 c12)
           have H' := Aside0.mk H
           clear H
           go_wp2
           go_roundg kj2
           case measure => have := HK1.out; have := HJ2.out; omega
           case rel => exact ⟨(x4_1), (x5_1 ++ (a0.extract (x6_1 : Int).toNat ((wrap64 (x6_1 + 1)) : Int).toNat)), (wrap64 (x6_1 + 1)), sv_, sv_, H', ⟨by have := HK1.out; have := HJ2.out; omega⟩, ⟨by (with_reducible repeat (first | apply Kd.S_alloc | apply Kd.S_drewN | apply Kd.S_drew)); exact HO_4.out⟩, ⟨bel_⟩⟩
          ·rw [if_neg c12] at H
           exact absurd H (by simp)
         ·rw [if_neg c11] at H
          exact absurd H (by simp)
        ·rw [if_neg c10] at H
         exact absurd H (by simp)
       ·rw [if_neg c9] at H
        exact absurd H (by simp)
      ·replace c8 := Bool.eq_false_iff.mpr c8
       subst c8
       have H1 : (if x5_1.toList = ([] : List UInt8) then (spec_l5Selector.l0 kj2 a0 x4_1 x5_1 (wrap64 (x6_1 + 1))) else ((spec_l5Part.f kj2 x5_1).bind fun bt146 => (if bt146.2.2.2 = true then (if (x4_1.length : Int) = 5 then (some (([] : List (S71)), false)) else (if x4_1.length < 2513169434916 then (spec_l5Selector.l0 kj2 a0 (x4_1 ++ [(⟨bt146.1, bt146.2.1, bt146.2.2.1⟩ : S71)]) (⟨#[]⟩ : ByteArray) (wrap64 (x6_1 + 1))) else (none))) else (some (([] : List (S71)), false))))) = some (r1, r2) := by rw [if_neg (show ¬ (false = true) by decide)] at H; exact H
       clear H
       have H := H1
       clear H1
       by_cases c13 : x5_1.toList = ([] : List UInt8)
       ·rw [if_pos c13] at H
        have c13b0 : (x5_1.toList == ([] : List UInt8)) = true := beq_iff_eq.mpr c13
        have c13b7 : x5_1.toList.isEmpty = true := by rw [beq_iff_eq.mp c13b0]; rfl
        have c13b8 : ¬ (x5_1.toList.isEmpty = false) := fun h_ => by have h9_ := beq_iff_eq.mp c13b0; rw [h9_] at h_; cases h_
        have c13b1 : (x5_1.toList != ([] : List UInt8)) = false := bne_eq_false_iff_eq.mpr c13
        clear c13
        have H' := Aside0.mk H
        clear H
        go_wp2
        go_roundg kj2
        case measure => have := HK1.out; have := HJ2.out; omega
        case rel => exact ⟨(x4_1), (x5_1), (wrap64 (x6_1 + 1)), sv_, sv_, H', ⟨by have := HK1.out; have := HJ2.out; omega⟩, ⟨by (with_reducible repeat (first | apply Kd.S_alloc | apply Kd.S_drewN | apply Kd.S_drew)); exact HO_4.out⟩, ⟨bel_⟩⟩
       ·rw [if_neg c13] at H
        have c13b0 : (x5_1.toList == ([] : List UInt8)) = false := beq_eq_false_iff_ne.mpr c13
        have c13b7 : x5_1.toList.isEmpty = false := Bool.eq_false_iff.mpr (fun h_ => absurd (List.isEmpty_iff.mp h_) (beq_eq_false_iff_ne.mp c13b0))
        have c13b8 : ¬ (x5_1.toList.isEmpty = true) := fun h_ => absurd (List.isEmpty_iff.mp h_) (beq_eq_false_iff_ne.mp c13b0)
        have c13b1 : (x5_1.toList != ([] : List UInt8)) = true := bne_iff_ne.mpr c13
        replace H := Option.bind_eq_some_iff.mp H
        obtain ⟨⟨t146, t147, t148, t151⟩, A140, H⟩ := H
        replace H : (if t151 = true then (if (x4_1.length : Int) = 5 then (some (([] : List (S71)), false)) else (if x4_1.length < 2513169434916 then (spec_l5Selector.l0 kj2 a0 (x4_1 ++ [(⟨t146, t147, t148⟩ : S71)]) (⟨#[]⟩ : ByteArray) (wrap64 (x6_1 + 1))) else (none))) else (some (([] : List (S71)), false))) = some (r1, r2) := H
        have A14 := Aside0.mk A140
        clear A140
        by_cases c15 : t151 = true
        ·subst c15
         have H1 : (if (x4_1.length : Int) = 5 then (some (([] : List (S71)), false)) else (if x4_1.length < 2513169434916 then (spec_l5Selector.l0 kj2 a0 (x4_1 ++ [(⟨t146, t147, t148⟩ : S71)]) (⟨#[]⟩ : ByteArray) (wrap64 (x6_1 + 1))) else (none))) = some (r1, r2) := by rw [if_pos rfl] at H; exact H
         clear H
         have H := H1
         clear H1
         by_cases c16 : (x4_1.length : Int) = 5
         ·rw [if_pos c16] at H
          have c16b0 : ((x4_1.length : Int) == 5) = true := beq_iff_eq.mpr c16
          have c16b1 : ((x4_1.length : Int) != 5) = false := bne_eq_false_iff_eq.mpr c16
          clear c16
          simp only [Option.some.injEq, Prod.mk.injEq] at H
          obtain ⟨rfl, rfl⟩ := H
          go_wp2_with (first | ((with_reducible refine gate_callee (f := 150) rfl ?_); refine goesL_ (some 37) rfl rfl Tryd.func150 (by kernel_rfl) rfl #[.string x5_1] rfl au_ ?_; (with_reducible refine (spec_l5Part.calls kj2 x5_1 t146 t147 t148 true _ A14.out).mono ?_); rintro e w17 ⟨v149, rfl, ho0, hb⟩; refine ⟨_, rfl, ?_⟩; have n0_ := Aside0.mk (Kd.S_elder' (kdS_ HO_4.out) (Kd.R_base ho0) hb); have n1_ := Aside0.mk (Kd.R_lower ho0 (below_size bel_)); have n2_ := Aside0.mk (below_step bel_ hb); clear HO_4; clear HB; have HO_4 := n0_; have HO150 := n1_; have HB := n2_; clear n0_ n1_ n2_; (try clear hb);(try clear hb2);(try clear hk);(try clear hi);(try clear ho0)) | ((with_reducible refine gate_dst (N := 7) rfl ?_); (try (refine gate_guard (by rfl) ?_; dsimp only)); refine box_event ?hg (N := 7) ?hd (cs := #[.string (⟨#[]⟩ : ByteArray), .string (⟨#[]⟩ : ByteArray), .slice none 0 0]) (t := 71) ?hr ?_; (case hd => rfl); (case hg => rfl); (case hr => first | (go_simp; done) | (go_simp; rfl)); intro gb152 hg w18 hbox hb; have n0_ := Aside0.mk (Kd.S_below (Kd.S_elderB (kdS_ HO_4.out) gb152 (Nat.le_of_eq hg.symm)) hb); have n1_ := Aside0.mk (Kd.R_below (kdR_ HO150.out) hb); have n2_ := Aside0.mk (below_step bel_ hb); have n3_ := Aside0.mk (hbox); have n4_ := Aside0.mk ((by rw [hg]; exact (below_size bel_) : w.heap.size ≤ gb152)); have n5_ := Aside0.mk ((by rw [hg]; exact (below_size bel_) : w.heap.size ≤ gb152)); clear HO_4; clear HO150; clear HB; have HO_4 := n0_; have HO150 := n1_; have HB := n2_; have BK152 := n3_; have GW152 := n4_; have GE152 := n5_; clear n0_ n1_ n2_ n3_ n4_ n5_; clear hb hbox hg; have hcz19_0 := bc3_0 BK152.out; have hcz19_1 := bc3_1 BK152.out; have hcz19_2 := bc3_2 BK152.out; have hfz19_0 := blk_frozen BK152.out 0; have hfz19_1 := blk_frozen BK152.out 1; have hfz19_2 := blk_frozen BK152.out 2; obtain ⟨Ao20, co20, eo20⟩ := Kd.R_slice HO150.out; subst eo20; obtain ⟨Ao21, co21, eo21⟩ := Kd.S_slice HO_4.out; subst eo21))
          go_ret2
          exact ⟨_, er_, by first | exact Kd.S_nil _ _ _ _ _ | exact Kd.N_nil _ _ _ _ _ | exact Kd.V_nil _ _ _ _ _ | exact Kd.Q_nil _ _ _ _ _ | exact Kd.R_nil _ _ _ _ _, bes_⟩
         ·rw [if_neg c16] at H
          have c16b0 : ((x4_1.length : Int) == 5) = false := beq_eq_false_iff_ne.mpr c16
          have c16b1 : ((x4_1.length : Int) != 5) = true := bne_iff_ne.mpr c16
          by_cases c22 : x4_1.length < 2513169434916
          ·rw [if_pos c22] at H
           have LMc22 := Aside0.mk c22
           clear c22
           obtain ⟨y153, hy153⟩ : ∃ y_ : List (S71), y_ = (x4_1 ++ [(⟨t146, t147, t148⟩ : S71)]) := ⟨_, rfl⟩
           replace H : (spec_l5Selector.l0 kj2 a0 y153 (⟨#[]⟩ : ByteArray) (wrap64 (x6_1 + 1))) = some (r1, r2) := by first | (rw [hy153]; with_reducible exact H) | (have H2_ := (Option.bind_some _ _).symm.trans H; rw [hy153]; with_reducible exact H2_) | (have H2_ := (Option.bind_some _ _).symm.trans H; with_reducible exact H2_) | with_reducible exact H | (rw [hy153]; exact H) | exact H
           have Ny153 := Aside0.mk hy153
           clear hy153
           have H' := Aside0.mk H
           clear H
           go_wp2_with (first | ((with_reducible refine gate_callee (f := 150) rfl ?_); refine goesL_ (some 37) rfl rfl Tryd.func150 (by kernel_rfl) rfl #[.string x5_1] rfl au_ ?_; (with_reducible refine (spec_l5Part.calls kj2 x5_1 t146 t147 t148 true _ A14.out).mono ?_); rintro e w23 ⟨v149, rfl, ho0, hb⟩; refine ⟨_, rfl, ?_⟩; have n0_ := Aside0.mk (Kd.S_elder' (kdS_ HO_4.out) (Kd.R_base ho0) hb); have n1_ := Aside0.mk (Kd.R_lower ho0 (below_size bel_)); have n2_ := Aside0.mk (below_step bel_ hb); clear HO_4; clear HB; have HO_4 := n0_; have HO150 := n1_; have HB := n2_; clear n0_ n1_ n2_; (try clear hb);(try clear hb2);(try clear hk);(try clear hi);(try clear ho0)) | ((with_reducible refine gate_dst (N := 7) rfl ?_); (try (refine gate_guard (by rfl) ?_; dsimp only)); refine box_event ?hg (N := 7) ?hd (cs := #[.string (⟨#[]⟩ : ByteArray), .string (⟨#[]⟩ : ByteArray), .slice none 0 0]) (t := 71) ?hr ?_; (case hd => rfl); (case hg => rfl); (case hr => first | (go_simp; done) | (go_simp; rfl)); intro gb152 hg w24 hbox hb; have n0_ := Aside0.mk (Kd.S_below (Kd.S_elderB (kdS_ HO_4.out) gb152 (Nat.le_of_eq hg.symm)) hb); have n1_ := Aside0.mk (Kd.R_below (kdR_ HO150.out) hb); have n2_ := Aside0.mk (below_step bel_ hb); have n3_ := Aside0.mk (hbox); have n4_ := Aside0.mk ((by rw [hg]; exact (below_size bel_) : w.heap.size ≤ gb152)); have n5_ := Aside0.mk ((by rw [hg]; exact (below_size bel_) : w.heap.size ≤ gb152)); clear HO_4; clear HO150; clear HB; have HO_4 := n0_; have HO150 := n1_; have HB := n2_; have BK152 := n3_; have GW152 := n4_; have GE152 := n5_; clear n0_ n1_ n2_ n3_ n4_ n5_; clear hb hbox hg; have hcz25_0 := bc3_0 BK152.out; have hcz25_1 := bc3_1 BK152.out; have hcz25_2 := bc3_2 BK152.out; have hfz25_0 := blk_frozen BK152.out 0; have hfz25_1 := blk_frozen BK152.out 1; have hfz25_2 := blk_frozen BK152.out 2; obtain ⟨Ao26, co26, eo26⟩ := Kd.R_slice HO150.out; subst eo26) | ((with_reducible refine gate_store (t := 71) (p := 7) rfl ?_); refine store_event (t := 71) (p := 7) (v := ?vo_w27) (w1 := (((w24.setCell ⟨gb152, 0, none⟩ (.string t146)).setCell ⟨gb152, 1, none⟩ (.string t147)).setCell ⟨gb152, 2, none⟩ (.slice Ao26 t148.length co26))) ?hg ?ho ?hn ?hr ?_; (case ho => rfl); (case hg => rfl); (case hn => rfl); (case hr => first | (go_simp; done) | (go_simp; rfl)); intro w27 hw; have n0_ : Aside0 (Kd.S k71 71 w27 w.heap.size (fun k_ => some k_ ≠ (.slice Ao26 t148.length co26 : Value).ownBlock ∧ k_ ≠ gb152) u4 x4_1) := ⟨(by rw [hw]; exact (by (with_reducible repeat (first | apply Kd.S_alloc | apply Kd.S_drewN | apply Kd.S_drew)); exact Kd.S_mono (Kd.S_far (p := ⟨gb152, 2, none⟩) (Kd.S_far (p := ⟨gb152, 1, none⟩) (Kd.S_far (p := ⟨gb152, 0, none⟩) (Kd.S_mono HO_4.out (fun k_ hk => (⟨hk, hk.2⟩ : _ ∧ k_ ≠ gb152))) (fun _ hk => hk.2) (.string t146)) (fun _ hk => hk.2) (.string t147)) (fun _ hk => hk.2) (.slice Ao26 t148.length co26)) (fun _ hk => ⟨hk.1.1.2, hk.1.2⟩)))⟩; have n1_ : Aside0 (Kd.R Kd.string 9 w27 w.heap.size (fun _ => True) (.slice Ao26 t148.length co26) t148) := ⟨(by rw [hw]; exact (by (with_reducible repeat (first | apply Kd.R_alloc | apply Kd.R_drewN | apply Kd.R_drew)); exact Kd.R_mono (Kd.R_far (p := ⟨gb152, 2, none⟩) (Kd.R_far (p := ⟨gb152, 1, none⟩) (Kd.R_far (p := ⟨gb152, 0, none⟩) (Kd.R_types HO150.out BK152.out (by decide)) (fun _ hk => hk.2) (.string t146)) (fun _ hk => hk.2) (.string t147)) (fun _ hk => hk.2) (.slice Ao26 t148.length co26)) (fun _ hk => trivial)))⟩; have n2_ : Aside0 (w27.heap[gb152]? = some (.cells #[.string t146, .string t147, .slice Ao26 t148.length co26] 71 (0, 0))) := ⟨(by rw [hw]; exact (by (with_reducible repeat (first | refine blk_drewN ?_ _ | refine blk_drew ?_ | refine blk_alloc ?_ _)); refine blk_put (cs := #[.string t146, .string t147, .slice none 0 0]) ?_ 2 _ rfl; (with_reducible repeat (first | refine blk_drewN ?_ _ | refine blk_drew ?_ | refine blk_alloc ?_ _)); refine blk_put (cs := #[.string t146, .string (⟨#[]⟩ : ByteArray), .slice none 0 0]) ?_ 1 _ rfl; (with_reducible repeat (first | refine blk_drewN ?_ _ | refine blk_drew ?_ | refine blk_alloc ?_ _)); refine blk_put (cs := #[.string (⟨#[]⟩ : ByteArray), .string (⟨#[]⟩ : ByteArray), .slice none 0 0]) ?_ 0 _ rfl; (with_reducible repeat (first | refine blk_drewN ?_ _ | refine blk_drew ?_ | refine blk_alloc ?_ _)); exact BK152.out))⟩; have n3_ : Aside0 (Below w.heap.size w w27) := ⟨(by rw [hw]; exact bes_)⟩; clear hw; clear HO_4; clear HO150; clear BK152; clear HB; have HO_4 := n0_; have HO150 := n1_; have BK152 := n2_; have HB := n3_; clear n0_ n1_ n2_ n3_; obtain ⟨Ao28, co28, eo28⟩ := Kd.S_slice HO_4.out; subst eo28; have hcz29_0 := bc3_0 BK152.out; have hcz29_1 := bc3_1 BK152.out; have hcz29_2 := bc3_2 BK152.out; have hfz29_0 := blk_frozen BK152.out 0; have hfz29_1 := blk_frozen BK152.out 1; have hfz29_2 := blk_frozen BK152.out 2) | ((with_reducible refine gate_builtin (b := .append) (xs := #[.tmp 47, .tmp 49]) rfl ?_); (try (refine gate_guard (by rfl) ?_; dsimp only)); at_builtin; refine Kd.S_append k71 (w0 := w) w.heap.size rfl (.tmp 47) (.tmp 49) 35 71 (.agg #[(.string ⟨#[]⟩), (.string ⟨#[]⟩), (.slice none 0 0)]) 56 rfl Tryd.underlying35 info71 rfl (by decide) (by omega) (.slice Ao28 x4_1.length co28) x4_1 (⟨t146, t147, t148⟩ : S71) [.string t146, .string t147, .slice Ao26 t148.length co26] (fun k_ => k_ ≠ gb152) (fun k_ => some k_ = (.slice Ao26 t148.length co26 : Value).ownBlock) rfl rfl ?aP (fun k_ hk_ => ((Kd.R_mono (ok' := fun k_ => ((fun k_ => k_ ≠ gb152)) k_ ∧ some k_ ≠ (.slice Ao28 x4_1.length co28 : Value).ownBlock) (Kd.R_types (Kd.R_apart' (HO150.out) (Kd.S_typed HO_4.out) (by decide)) BK152.out (by decide)) (fun k_ hk => ⟨hk.2, hk.1.2⟩))).1 k_ hk_.symm) ?aF ?aO ?aB ?aS ?aL ?_; (case aP => exact k71_mkM _ _ _ (⟨t146, t147, t148⟩ : S71) (Kd.R_mono (Kd.R_tight rfl (Kd.R_mono (ok' := fun k_ => ((fun k_ => k_ ≠ gb152)) k_ ∧ some k_ ≠ (.slice Ao28 x4_1.length co28 : Value).ownBlock) (Kd.R_types (Kd.R_apart' (HO150.out) (Kd.S_typed HO_4.out) (by decide)) BK152.out (by decide)) (fun k_ hk => ⟨hk.2, hk.1.2⟩))) (fun _ h_ => h_))); (case aB => exact bes_); (case aF => exact (fun k_ hk => Kd.freshB (g := gb152) (o := .cells #[.string t146, .string t147, .slice Ao26 t148.length co26] 71 (0, 0)) (bk_ BK152.out) k_ hk)); (case aO => exact (by (with_reducible repeat (first | apply Kd.S_alloc | apply Kd.S_drewN | apply Kd.S_drew)); exact Kd.S_mono HO_4.out (fun k_ hk => ⟨hk.2, fun e_ => hk.1 e_⟩))); (case aS => exact (below_size bes_)); (case aL => have := LMc22.out; omega); intro v154 w30 ho hb hg hat; rw [← Ny153.out] at ho; have n0_ := Aside0.mk (blk_grown (g := gb152) (o := .cells #[.string t146, .string t147, .slice Ao26 t148.length co26] 71 (0, 0)) (bk_ BK152.out) hg (Kd.S_away HO_4.out (fun _ hk => hk.2))); have n1_ := Aside0.mk (hb); have n2_ := Aside0.mk (ho); clear BK152; clear HB; clear HO_4; clear HO150; have BK152 := n0_; have HB := n1_; have HO155 := n2_; clear n0_ n1_ n2_; clear ho hb hg hat))
           go_roundg kj2
           case measure => have := HK1.out; have := HJ2.out; omega
           case rel => exact ⟨(y153), ((⟨#[]⟩ : ByteArray)), (wrap64 (x6_1 + 1)), sv_, sv_, H', ⟨by have := HK1.out; have := HJ2.out; omega⟩, ⟨by (with_reducible repeat (first | apply Kd.S_alloc | apply Kd.S_drewN | apply Kd.S_drew)); exact Kd.S_mono HO155.out (fun _ hk => trivial)⟩, ⟨bes_⟩⟩
          ·rw [if_neg c22] at H
           exact absurd H (by simp)
        ·replace c15 := Bool.eq_false_iff.mpr c15
         subst c15
         have H1 : (some (([] : List (S71)), false)) = some (r1, r2) := by rw [if_neg (show ¬ (false = true) by decide)] at H; exact H
         clear H
         have H := H1
         clear H1
         simp only [Option.some.injEq, Prod.mk.injEq] at H
         obtain ⟨rfl, rfl⟩ := H
         go_wp2_with (first | ((with_reducible refine gate_callee (f := 150) rfl ?_); refine goesL_ (some 37) rfl rfl Tryd.func150 (by kernel_rfl) rfl #[.string x5_1] rfl au_ ?_; (with_reducible refine (spec_l5Part.calls kj2 x5_1 t146 t147 t148 false _ A14.out).mono ?_); rintro e w31 ⟨v149, rfl, ho0, hb⟩; refine ⟨_, rfl, ?_⟩; have n0_ := Aside0.mk (Kd.S_elder' (kdS_ HO_4.out) (Kd.R_base ho0) hb); have n1_ := Aside0.mk (Kd.R_lower ho0 (below_size bel_)); have n2_ := Aside0.mk (below_step bel_ hb); clear HO_4; clear HB; have HO_4 := n0_; have HO150 := n1_; have HB := n2_; clear n0_ n1_ n2_; (try clear hb);(try clear hb2);(try clear hk);(try clear hi);(try clear ho0)) | ((with_reducible refine gate_dst (N := 7) rfl ?_); (try (refine gate_guard (by rfl) ?_; dsimp only)); refine box_event ?hg (N := 7) ?hd (cs := #[.string (⟨#[]⟩ : ByteArray), .string (⟨#[]⟩ : ByteArray), .slice none 0 0]) (t := 71) ?hr ?_; (case hd => rfl); (case hg => rfl); (case hr => first | (go_simp; done) | (go_simp; rfl)); intro gb152 hg w32 hbox hb; have n0_ := Aside0.mk (Kd.S_below (Kd.S_elderB (kdS_ HO_4.out) gb152 (Nat.le_of_eq hg.symm)) hb); have n1_ := Aside0.mk (Kd.R_below (kdR_ HO150.out) hb); have n2_ := Aside0.mk (below_step bel_ hb); have n3_ := Aside0.mk (hbox); have n4_ := Aside0.mk ((by rw [hg]; exact (below_size bel_) : w.heap.size ≤ gb152)); have n5_ := Aside0.mk ((by rw [hg]; exact (below_size bel_) : w.heap.size ≤ gb152)); clear HO_4; clear HO150; clear HB; have HO_4 := n0_; have HO150 := n1_; have HB := n2_; have BK152 := n3_; have GW152 := n4_; have GE152 := n5_; clear n0_ n1_ n2_ n3_ n4_ n5_; clear hb hbox hg; have hcz33_0 := bc3_0 BK152.out; have hcz33_1 := bc3_1 BK152.out; have hcz33_2 := bc3_2 BK152.out; have hfz33_0 := blk_frozen BK152.out 0; have hfz33_1 := blk_frozen BK152.out 1; have hfz33_2 := blk_frozen BK152.out 2; obtain ⟨Ao34, co34, eo34⟩ := Kd.R_slice HO150.out; subst eo34))
         go_ret2
         exact ⟨_, er_, by first | exact Kd.S_nil _ _ _ _ _ | exact Kd.N_nil _ _ _ _ _ | exact Kd.V_nil _ _ _ _ _ | exact Kd.Q_nil _ _ _ _ _ | exact Kd.R_nil _ _ _ _ _, bes_⟩
   ·rw [if_neg c2] at H
    have c2b0 : decide (x6_1 ≤ (a0.size : Int)) = false := decide_eq_false c2
    clear c2
    simp only [Option.some.injEq, Prod.mk.injEq] at H
    obtain ⟨rfl, rfl⟩ := H
    obtain ⟨Ao35, co35, eo35⟩ := Kd.S_slice HO_4.out
    subst eo35
    go_wp2
    go_ret2
    exact ⟨_, er_, by (with_reducible repeat (first | apply Kd.S_alloc | apply Kd.S_drewN | apply Kd.S_drew)); exact HO_4.out, bel_⟩

/-! ### spec_l5Sheet: function 51 -/
mutual
def spec_l5Sheet.l0 : Nat → ByteArray → List (S90) → Int → Option ((List (S90)))
 | 0, _, _, _ => none
 | k + 1, x0, x3, x4 => if x4 < (x0.size : Int) then ((spec_l5Find.f k x0 x4 123).bind fun t157 => (if t157 = (x0.size : Int) then (some x3) else ((spec_l5Find.f k x0 t157 125).bind fun t158 => (if 0 ≤ (wrap64 (t157 + 1)) then (if (wrap64 (t157 + 1)) ≤ t158 then (if t158 ≤ (x0.size : Int) then ((spec_l5Decls.f k (x0.extract ((wrap64 (t157 + 1)) : Int).toNat (t158 : Int).toNat)).bind fun t159 => (if 0 ≤ x4 then (if x4 ≤ t157 then (if t157 ≤ (x0.size : Int) then ((spec_l1Split.f k (x0.extract (x4 : Int).toNat (t157 : Int).toNat) 44).bind fun t163 => (spec_l5Sheet.l1 k x0 x3 t158 true t163 (t163.length : Int) 0 ([] : List (List (S71))) t159)) else (none)) else (none)) else (none))) else (none)) else (none)) else (none))))) else (some x3)
def spec_l5Sheet.l1 : Nat → ByteArray → List (S90) → Int → Bool → List ByteArray → Int → Int → List (List (S71)) → List (S123) → Option ((List (S90)))
 | 0, _, _, _, _, _, _, _, _, _ => none
 | k + 1, x0, x3, x6, x8, x40, x41, x42, x163000, x163001 => if x42 < x41 then (if 0 ≤ x42 then (if x42 < (x40.length : Int) then ((spec_l5Selector.f k (rdOf ByteArray.empty x40 x42)).bind fun bt167 => (if x8 = true then (if x163000.length < 5864062014805 then (spec_l5Sheet.l1 k x0 x3 x6 bt167.2 x40 x41 (wrap64 (x42 + 1)) (x163000 ++ [bt167.1]) x163001) else (none)) else (if x163000.length < 5864062014805 then (spec_l5Sheet.l1 k x0 x3 x6 false x40 x41 (wrap64 (x42 + 1)) (x163000 ++ [bt167.1]) x163001) else (none)))) else (none)) else (none)) else (if x8 = true then (if (x3.length : Int) < 30 then (if x3.length < 2932031007402 then (spec_l5Sheet.l0 k x0 (x3 ++ [(⟨x163000, x163001⟩ : S90)]) (wrap64 (x6 + 1))) else (none)) else (spec_l5Sheet.l0 k x0 x3 (wrap64 (x6 + 1)))) else (spec_l5Sheet.l0 k x0 x3 (wrap64 (x6 + 1))))
end
def spec_l5Sheet.f (k : Nat) (a0 : ByteArray) : Option ((List (S90))) := (spec_l5Bare.f k a0).bind fun t156 => (spec_l5Sheet.l0 k t156 ([] : List (S90)) 0)
set_option maxHeartbeats 8000000 in
set_option maxRecDepth 100000 in
theorem spec_l5Sheet.calls (k : Nat) (a0 : ByteArray) (r : List (S90)) (w : World) (h : spec_l5Sheet.f k a0 = some r) :
  Calls Tryd.prog 51 #[.string a0] w fun e w' => ∃ v0_ : Value, e = .returned (v0_) ∧ Kd.R k90 90 w' w.heap.size (fun _ => True) v0_ r ∧ Below w.heap.size w w' := by
 have hu90 := Tryd.underlying90
 have HB := Aside0.mk (Below.refl w.heap.size w)
 have H : ((spec_l5Bare.f k a0).bind fun t156 => (spec_l5Sheet.l0 k t156 ([] : List (S90)) 0)) = some r := h
 clear h
 replace H := Option.bind_eq_some_iff.mp H
 obtain ⟨t156, A20, H⟩ := H
 replace H : (spec_l5Sheet.l0 k t156 ([] : List (S90)) 0) = some r := H
 have A2 := Aside0.mk A20
 clear A20
 have H' := Aside0.mk H
 clear H
 go_enter Tryd.func51, Tryd.ntmps51
 go_wp2_with (first | ((with_reducible refine gate_callee (f := 100) rfl ?_); refine goesL_ (some 14) rfl rfl Tryd.func100 (by kernel_rfl) rfl #[.string a0] rfl au_ ?_; (with_reducible refine (spec_l5Bare.calls k a0 t156 _ A2.out).mono ?_); rintro e w' ⟨rfl, ⟨nd, rfl⟩⟩; refine ⟨_, rfl, ?_⟩))
 go_loopg [3, 4] k (fun kq v3 v4 w' => ∃ (x3_1 : List (S90)) (x4_1 : Int), v4 = .int .i64 x4_1 ∧ Aside0 (spec_l5Sheet.l0 kq t156 x3_1 x4_1 = some r) ∧ Aside0 (kq ≤ k) ∧ Aside0 (Kd.R k90 90 w' w.heap.size (fun _ => True) v3 x3_1) ∧ Aside0 (Below w.heap.size w w'))
 case atStart => exact ⟨(([] : List (S90))), (0), sv_, H', ⟨Nat.le_refl _⟩, ⟨by first | exact Kd.R_nil _ _ _ _ _ | exact Kd.N_nil _ _ _ _ _ | exact Kd.V_nil _ _ _ _ _ | exact Kd.Q_nil _ _ _ _ _ | exact Kd.S_nil _ _ _ _ _⟩, ⟨bel_⟩⟩
 case round =>
  clear H'
  (try clear c1);(try clear p2)
  obtain ⟨x3_1, x4_1, rfl, HA, HK1, HO_3, HB⟩ := hrel
  cases gk with
  | zero => exact absurd HA.out (by simp [spec_l5Sheet.l0])
  | succ k1 =>
   have H := HA.out
   clear HA
   simp only [spec_l5Sheet.l0] at H
   by_cases c3 : x4_1 < (t156.size : Int)
   ·rw [if_pos c3] at H
    have c3b0 : decide (x4_1 < (t156.size : Int)) = true := decide_eq_true c3
    clear c3
    replace H := Option.bind_eq_some_iff.mp H
    obtain ⟨t157, A40, H⟩ := H
    replace H : (if t157 = (t156.size : Int) then (some x3_1) else ((spec_l5Find.f k1 t156 t157 125).bind fun t158 => (if 0 ≤ (wrap64 (t157 + 1)) then (if (wrap64 (t157 + 1)) ≤ t158 then (if t158 ≤ (t156.size : Int) then ((spec_l5Decls.f k1 (t156.extract ((wrap64 (t157 + 1)) : Int).toNat (t158 : Int).toNat)).bind fun t159 => (if 0 ≤ x4_1 then (if x4_1 ≤ t157 then (if t157 ≤ (t156.size : Int) then ((spec_l1Split.f k1 (t156.extract (x4_1 : Int).toNat (t157 : Int).toNat) 44).bind fun t163 => (spec_l5Sheet.l1 k1 t156 x3_1 t158 true t163 (t163.length : Int) 0 ([] : List (List (S71))) t159)) else (none)) else (none)) else (none))) else (none)) else (none)) else (none)))) = some r := H
    have A4 := Aside0.mk A40
    clear A40
    by_cases c5 : t157 = (t156.size : Int)
    ·rw [if_pos c5] at H
     have c5b0 : (t157 == (t156.size : Int)) = true := beq_iff_eq.mpr c5
     have c5b1 : (t157 != (t156.size : Int)) = false := bne_eq_false_iff_eq.mpr c5
     clear c5
     obtain rfl := Option.some.inj H
     go_wp2_with (first | ((with_reducible refine gate_callee (f := 101) rfl ?_); refine goesL_ (some 21) rfl rfl Tryd.func101 (by kernel_rfl) rfl #[.string t156, .int .i64 x4_1, .int .u8 123] rfl au_ ?_; (with_reducible refine (spec_l5Find.calls k1 t156 x4_1 123 t157 _ A4.out).mono ?_); rintro e w' ⟨rfl, ⟨nd, rfl⟩⟩; refine ⟨_, rfl, ?_⟩))
     go_ret
     exact ⟨_, er_, by (with_reducible repeat (first | apply Kd.R_alloc | apply Kd.R_drewN | apply Kd.R_drew)); exact HO_3.out, bel_⟩
    ·rw [if_neg c5] at H
     have c5b0 : (t157 == (t156.size : Int)) = false := beq_eq_false_iff_ne.mpr c5
     have c5b1 : (t157 != (t156.size : Int)) = true := bne_iff_ne.mpr c5
     replace H := Option.bind_eq_some_iff.mp H
     obtain ⟨t158, A60, H⟩ := H
     replace H : (if 0 ≤ (wrap64 (t157 + 1)) then (if (wrap64 (t157 + 1)) ≤ t158 then (if t158 ≤ (t156.size : Int) then ((spec_l5Decls.f k1 (t156.extract ((wrap64 (t157 + 1)) : Int).toNat (t158 : Int).toNat)).bind fun t159 => (if 0 ≤ x4_1 then (if x4_1 ≤ t157 then (if t157 ≤ (t156.size : Int) then ((spec_l1Split.f k1 (t156.extract (x4_1 : Int).toNat (t157 : Int).toNat) 44).bind fun t163 => (spec_l5Sheet.l1 k1 t156 x3_1 t158 true t163 (t163.length : Int) 0 ([] : List (List (S71))) t159)) else (none)) else (none)) else (none))) else (none)) else (none)) else (none)) = some r := H
     have A6 := Aside0.mk A60
     clear A60
     obtain ⟨ji7, hji7⟩ : ∃ j_ : Int, (wrap64 (t157 + 1)) = j_ := ⟨_, rfl⟩
     replace H : (if 0 ≤ (ji7) then (if (ji7) ≤ t158 then (if t158 ≤ (t156.size : Int) then ((spec_l5Decls.f k1 (t156.extract ((ji7) : Int).toNat (t158 : Int).toNat)).bind fun t159 => (if 0 ≤ x4_1 then (if x4_1 ≤ t157 then (if t157 ≤ (t156.size : Int) then ((spec_l1Split.f k1 (t156.extract (x4_1 : Int).toNat (t157 : Int).toNat) 44).bind fun t163 => (spec_l5Sheet.l1 k1 t156 x3_1 t158 true t163 (t163.length : Int) 0 ([] : List (List (S71))) t159)) else (none)) else (none)) else (none))) else (none)) else (none)) else (none)) = some r := by first | (rw [hji7] at H; exact H) | (simp only [hji7] at H ⊢; exact H)
     (try rw [hji7] at A4)
     (try rw [hji7] at A6)
     have hji7w : (IntKind.i64.wrap (t157 + 1)) = ji7 := (i64_w _).trans hji7
     by_cases c8 : 0 ≤ (ji7)
     ·rw [if_pos c8] at H
      have c8b0 := eq_true c8
      have c8b1 : decide (0 ≤ (ji7)) = true := decide_eq_true c8
      clear c8
      by_cases c9 : (ji7) ≤ t158
      ·rw [if_pos c9] at H
       have c9b0 := eq_true c9
       have c9b1 : decide ((ji7) ≤ t158) = true := decide_eq_true c9
       clear c9
       by_cases c10 : t158 ≤ (t156.size : Int)
       ·rw [if_pos c10] at H
        have c10b0 := eq_true c10
        have c10b1 : decide (t158 ≤ (t156.size : Int)) = true := decide_eq_true c10
        clear c10
        replace H := Option.bind_eq_some_iff.mp H
        obtain ⟨t159, A110, H⟩ := H
        replace H : (if 0 ≤ x4_1 then (if x4_1 ≤ t157 then (if t157 ≤ (t156.size : Int) then ((spec_l1Split.f k1 (t156.extract (x4_1 : Int).toNat (t157 : Int).toNat) 44).bind fun t163 => (spec_l5Sheet.l1 k1 t156 x3_1 t158 true t163 (t163.length : Int) 0 ([] : List (List (S71))) t159)) else (none)) else (none)) else (none)) = some r := H
        have A11 := Aside0.mk A110
        clear A110
        by_cases c12 : 0 ≤ x4_1
        ·rw [if_pos c12] at H
         have c12b0 := eq_true c12
         have c12b1 : decide (0 ≤ x4_1) = true := decide_eq_true c12
         clear c12
         by_cases c13 : x4_1 ≤ t157
         ·rw [if_pos c13] at H
          have c13b0 := eq_true c13
          have c13b1 : decide (x4_1 ≤ t157) = true := decide_eq_true c13
          clear c13
          by_cases c14 : t157 ≤ (t156.size : Int)
          ·rw [if_pos c14] at H
           have c14b0 := eq_true c14
           have c14b1 : decide (t157 ≤ (t156.size : Int)) = true := decide_eq_true c14
           clear c14
           replace H := Option.bind_eq_some_iff.mp H
           obtain ⟨t163, A150, H⟩ := H
           replace H : (spec_l5Sheet.l1 k1 t156 x3_1 t158 true t163 (t163.length : Int) 0 ([] : List (List (S71))) t159) = some r := H
           have A15 := Aside0.mk A150
           clear A150
           have H' := Aside0.mk H
           clear H
           go_wp2_with (first | ((with_reducible refine gate_callee (f := 101) rfl ?_); refine goesL_ (some 21) rfl rfl Tryd.func101 (by kernel_rfl) rfl #[.string t156, .int .i64 x4_1, .int .u8 123] rfl au_ ?_; (with_reducible refine (spec_l5Find.calls k1 t156 x4_1 123 t157 _ A4.out).mono ?_); rintro e w' ⟨rfl, ⟨nd, rfl⟩⟩; refine ⟨_, rfl, ?_⟩; (try (rw [drewN_self wr]; generalize hq_ : World.drewN wr _ = wr; have n0_ : Aside0 (Kd.R k90 90 wr w.heap.size (fun _ => True) u3 x3_1) := ⟨by rw [← hq_]; exact (kdR_ HO_3.out)⟩; have n1_ : Aside0 (Below w.heap.size w wr) := ⟨by rw [← hq_]; exact bel_⟩; clear HO_3 HB hq_; have HO_3 := n0_; have HB := n1_; clear n0_ n1_))) | ((with_reducible refine gate_callee (f := 101) rfl ?_); refine goesL_ (some 28) rfl rfl Tryd.func101 (by kernel_rfl) rfl #[.string t156, .int .i64 t157, .int .u8 125] rfl au_ ?_; (with_reducible refine (spec_l5Find.calls k1 t156 t157 125 t158 _ A6.out).mono ?_); rintro e w' ⟨rfl, ⟨nd, rfl⟩⟩; refine ⟨_, rfl, ?_⟩; (try (rw [drewN_self wr]; generalize hq_ : World.drewN wr _ = wr; have n0_ : Aside0 (Kd.R k90 90 wr w.heap.size (fun _ => True) u3 x3_1) := ⟨by rw [← hq_]; exact (kdR_ HO_3.out)⟩; have n1_ : Aside0 (Below w.heap.size w wr) := ⟨by rw [← hq_]; exact bel_⟩; clear HO_3 HB hq_; have HO_3 := n0_; have HB := n1_; clear n0_ n1_))) | ((with_reducible refine gate_callee (f := 102) rfl ?_); refine goesL_ (some 34) rfl rfl Tryd.func102 (by kernel_rfl) rfl #[.string (t156.extract ((ji7) : Int).toNat (t158 : Int).toNat)] rfl (by (try simp only [List.map_toArray, List.map_cons, List.map_nil]); first | done | (simp only [hji7]; rfl) | rfl | (simp only [List.length_drop, List.length_take]; rfl)) ?_; (with_reducible refine (spec_l5Decls.calls k1 (t156.extract ((ji7) : Int).toNat (t158 : Int).toNat) t159 _ A11.out).mono ?_); rintro e w16 ⟨v160, rfl, ho0, hb⟩; refine ⟨_, rfl, ?_⟩; have n0_ := Aside0.mk (Kd.R_elder' (kdR_ HO_3.out) (Kd.R_base ho0) hb); have n1_ := Aside0.mk (Kd.R_lower ho0 (below_size bel_)); have n2_ := Aside0.mk (below_step bel_ hb); clear HO_3; clear HB; have HO_3 := n0_; have HO161 := n1_; have HB := n2_; clear n0_ n1_ n2_; (try clear hb);(try clear hb2);(try clear hk);(try clear hi);(try clear ho0); obtain ⟨Ao17, co17, eo17⟩ := Kd.R_slice HO161.out; subst eo17) | ((with_reducible refine gate_dst (N := 7) rfl ?_); (try (refine gate_guard (by rfl) ?_; dsimp only)); refine box_event ?hg (N := 7) ?hd (cs := #[.slice none 0 0, .slice none 0 0]) (t := 90) ?hr ?_; (case hd => rfl); (case hg => rfl); (case hr => first | (go_simp; done) | (go_simp; rfl)); intro gb162 hg w18 hbox hb; have n0_ := Aside0.mk (Kd.R_below (Kd.R_elderB (kdR_ HO_3.out) gb162 (Nat.le_of_eq hg.symm)) hb); have n1_ := Aside0.mk (Kd.R_below (kdR_ HO161.out) hb); have n2_ := Aside0.mk (below_step bel_ hb); have n3_ := Aside0.mk (hbox); have n4_ := Aside0.mk ((by rw [hg]; exact (below_size bel_) : w.heap.size ≤ gb162)); have n5_ := Aside0.mk ((by rw [hg]; exact (below_size bel_) : w.heap.size ≤ gb162)); clear HO_3; clear HO161; clear HB; have HO_3 := n0_; have HO161 := n1_; have HB := n2_; have BK162 := n3_; have GW162 := n4_; have GE162 := n5_; clear n0_ n1_ n2_ n3_ n4_ n5_; clear hb hbox hg; have hcz19_0 := bc2_0 BK162.out; have hcz19_1 := bc2_1 BK162.out; have hfz19_0 := blk_frozen BK162.out 0; have hfz19_1 := blk_frozen BK162.out 1) | ((with_reducible refine gate_callee (f := 64) rfl ?_); refine goesL_ (some 40) rfl rfl Tryd.func64 (by kernel_rfl) rfl #[.string (t156.extract (x4_1 : Int).toNat (t157 : Int).toNat), .int .u8 44] rfl au_ ?_; (with_reducible refine (spec_l1Split.calls k1 (t156.extract (x4_1 : Int).toNat (t157 : Int).toNat) 44 t163 _ A15.out).mono ?_); rintro e w20 ⟨v164, rfl, ho0, hb⟩; refine ⟨_, rfl, ?_⟩; have n0_ := Aside0.mk (Kd.R_elder' (by (with_reducible repeat (first | apply Kd.R_alloc | apply Kd.R_drewN | apply Kd.R_drew)); exact (Kd.R_mono (Kd.R_far (p := ⟨gb162, 1, none⟩) (Kd.R_far (p := ⟨gb162, 0, none⟩) (Kd.R_mono HO_3.out (fun k_ hk => (⟨hk, hk.2⟩ : _ ∧ k_ ≠ gb162))) (fun _ hk => hk.2) (.slice none 0 0)) (fun _ hk => hk.2) (.slice Ao17 t159.length co17)) (fun _ h_ => h_.1))) (Kd.R_base ho0) hb); have n1_ := Aside0.mk (Kd.R_below (by (with_reducible repeat (first | apply Kd.R_alloc | apply Kd.R_drewN | apply Kd.R_drew)); exact (Kd.R_mono (Kd.R_far (p := ⟨gb162, 1, none⟩) (Kd.R_far (p := ⟨gb162, 0, none⟩) (Kd.R_types HO161.out BK162.out (by decide)) (fun _ hk => hk.2) (.slice none 0 0)) (fun _ hk => hk.2) (.slice Ao17 t159.length co17)) (fun _ h_ => h_.1))) hb); have n2_ := Aside0.mk (Kd.R_lower ho0 (below_size bes_)); have n3_ := Aside0.mk (blk_below (g := gb162) (o := .cells #[.slice none 0 0, .slice Ao17 t159.length co17] 90 (0, 0)) (by (with_reducible repeat (first | refine blk_drewN ?_ _ | refine blk_drew ?_ | refine blk_alloc ?_ _)); refine blk_put (cs := #[.slice none 0 0, .slice none 0 0]) ?_ 1 _ rfl; (with_reducible repeat (first | refine blk_drewN ?_ _ | refine blk_drew ?_ | refine blk_alloc ?_ _)); refine blk_put (cs := #[.slice none 0 0, .slice none 0 0]) ?_ 0 _ rfl; (with_reducible repeat (first | refine blk_drewN ?_ _ | refine blk_drew ?_ | refine blk_alloc ?_ _)); exact BK162.out) hb); have n4_ := Aside0.mk (below_step bes_ hb); clear HO_3; clear HO161; clear BK162; clear HB; have HO_3 := n0_; have HO161 := n1_; have HO165 := n2_; have BK162 := n3_; have HB := n4_; clear n0_ n1_ n2_ n3_ n4_; (try clear hb);(try clear hb2);(try clear hk);(try clear hi);(try clear ho0); obtain ⟨Ao21, co21, eo21⟩ := Kd.R_slice HO165.out; subst eo21))
           go_loopg [8, 42] k1 (fun kq v8 v42 w' => ∃ (x8_2 : Bool) (x42_2 : Int) (x163000_2 : List (List (S71))) (u163000 : Value), v8 = .bool x8_2 ∧ v42 = .int .i64 x42_2 ∧ Aside0 (spec_l5Sheet.l1 kq t156 x3_1 t158 x8_2 t163 (t163.length : Int) x42_2 x163000_2 t159 = some r) ∧ Aside0 (kq ≤ k1) ∧ Aside0 (Kd.R k90 90 w' w.heap.size (fun k_ => some k_ ≠ ((.slice Ao21 t163.length co21) : Value).ownBlock ∧ some k_ ≠ (u163000 : Value).ownBlock ∧ some k_ ≠ ((.slice Ao17 t159.length co17) : Value).ownBlock ∧ k_ ≠ gb162) u3 x3_1) ∧ Aside0 (Kd.R Kd.string 9 w' w.heap.size (fun _ => True) (.slice Ao21 t163.length co21) t163) ∧ Aside0 (Kd.R (Kd.slice 71 k71) 35 w' w.heap.size (fun k_ => some k_ ≠ ((.slice Ao21 t163.length co21) : Value).ownBlock) u163000 x163000_2) ∧ Aside0 (Kd.R k123 123 w' w.heap.size (fun _ => True) (.slice Ao17 t159.length co17) t159) ∧ Aside0 (w'.heap[gb162]? = some (.cells #[u163000, (.slice Ao17 t159.length co17)] 90 (0, 0))) ∧ Aside0 (Below w.heap.size w w'))
           case atStart => exact ⟨(true), (0), (([] : List (List (S71)))), (.slice none 0 0), sv_, sv_, H', ⟨Nat.le_refl _⟩, ⟨by (with_reducible repeat (first | apply Kd.R_alloc | apply Kd.R_drewN | apply Kd.R_drew)); exact Kd.R_mono HO_3.out (fun _ hk => ⟨hk.2, ⟨(by simp [Value.ownBlock]), ⟨hk.1.1.2, hk.1.2⟩⟩⟩)⟩, ⟨by (with_reducible repeat (first | apply Kd.R_alloc | apply Kd.R_drewN | apply Kd.R_drew)); exact HO165.out⟩, ⟨by first | exact Kd.R_nil _ _ _ _ _ | exact Kd.N_nil _ _ _ _ _ | exact Kd.V_nil _ _ _ _ _ | exact Kd.Q_nil _ _ _ _ _ | exact Kd.S_nil _ _ _ _ _⟩, ⟨by (with_reducible repeat (first | apply Kd.R_alloc | apply Kd.R_drewN | apply Kd.R_drew)); exact HO161.out⟩, ⟨by (with_reducible repeat (first | refine blk_drewN ?_ _ | refine blk_drew ?_ | refine blk_alloc ?_ _)); exact BK162.out⟩, ⟨bes_⟩⟩
           case round =>
            clear H'
            (try clear c1);(try clear p2);(try clear c3);(try clear c3b0);(try clear c5);(try clear c5b0 c5b1);(try clear c6);(try clear p6);(try clear c8);(try clear c8b0 c8b1);(try clear c9);(try clear c9b0 c9b1);(try clear c10);(try clear c10b0 c10b1);(try clear c12);(try clear c12b0 c12b1);(try clear c13);(try clear c13b0 c13b1);(try clear c14);(try clear c14b0 c14b1);(try clear hcz19_0 hcz19_1 hfz19_0 hfz19_1);(try clear p2)
            obtain ⟨x8_2, x42_2, x163000_2, u163000, rfl, rfl, HA, HK2, HO_3, HO_40, HO_163000, HO_163001, BK162, HB⟩ := hrel
            cases gk with
            | zero => exact absurd HA.out (by simp [spec_l5Sheet.l1])
            | succ k2 =>
             have H := HA.out
             clear HA
             simp only [spec_l5Sheet.l1] at H
             by_cases c22 : x42_2 < (t163.length : Int)
             ·rw [if_pos c22] at H
              have c22b0 : decide (x42_2 < (t163.length : Int)) = true := decide_eq_true c22
              clear c22
              by_cases c23 : 0 ≤ x42_2
              ·rw [if_pos c23] at H
               have c23b0 : decide (0 ≤ x42_2) = true := decide_eq_true c23
               clear c23
               by_cases c24 : x42_2 < (t163.length : Int)
               ·rw [if_pos c24] at H
                have c24b0 : decide (x42_2 < (t163.length : Int)) = true := decide_eq_true c24
                clear c24
                replace H := Option.bind_eq_some_iff.mp H
                obtain ⟨⟨t167, t168⟩, A250, H⟩ := H
                replace H : (if x8_2 = true then (if x163000_2.length < 5864062014805 then (spec_l5Sheet.l1 k2 t156 x3_1 t158 t168 t163 (t163.length : Int) (wrap64 (x42_2 + 1)) (x163000_2 ++ [t167]) t159) else (none)) else (if x163000_2.length < 5864062014805 then (spec_l5Sheet.l1 k2 t156 x3_1 t158 false t163 (t163.length : Int) (wrap64 (x42_2 + 1)) (x163000_2 ++ [t167]) t159) else (none))) = some r := H
                have A25 := Aside0.mk A250
                clear A250
                by_cases c26 : x8_2 = true
                ·subst c26
                 have H1 : (if x163000_2.length < 5864062014805 then (spec_l5Sheet.l1 k2 t156 x3_1 t158 t168 t163 (t163.length : Int) (wrap64 (x42_2 + 1)) (x163000_2 ++ [t167]) t159) else (none)) = some r := by rw [if_pos rfl] at H; exact H
                 clear H
                 have H := H1
                 clear H1
                 by_cases c27 : x163000_2.length < 5864062014805
                 ·rw [if_pos c27] at H
                  have LMc27 := Aside0.mk c27
                  clear c27
                  obtain ⟨y171, hy171⟩ : ∃ y_ : List (List (S71)), y_ = (x163000_2 ++ [t167]) := ⟨_, rfl⟩
                  replace H : (spec_l5Sheet.l1 k2 t156 x3_1 t158 t168 t163 (t163.length : Int) (wrap64 (x42_2 + 1)) y171 t159) = some r := by first | (rw [hy171]; with_reducible exact H) | (have H2_ := (Option.bind_some _ _).symm.trans H; rw [hy171]; with_reducible exact H2_) | (have H2_ := (Option.bind_some _ _).symm.trans H; with_reducible exact H2_) | with_reducible exact H | (rw [hy171]; exact H) | exact H
                  have Ny171 := Aside0.mk hy171
                  clear hy171
                  have H' := Aside0.mk H
                  clear H
                  have p166 : 0 ≤ (x42_2 : Int) := of_decide_eq_true am_
                  have q166 : x42_2 < (t163.length : Int) := of_decide_eq_true am_
                  obtain ⟨ad166, e166, hx166_0⟩ := Kd.at_string (Kd.R_reads' HO_40.out).2.2 x42_2 p166 q166
                  cases e166
                  replace p166 := eq_true p166
                  replace q166 := eq_true q166
                  go_wp2_with (first | ((with_reducible refine gate_callee (f := 103) rfl ?_); refine goesL_ (some 48) rfl rfl Tryd.func103 (by kernel_rfl) rfl #[.string (rdOf ByteArray.empty t163 x42_2)] rfl au_ ?_; (with_reducible refine (spec_l5Selector.calls k2 (rdOf ByteArray.empty t163 x42_2) t167 t168 _ A25.out).mono ?_); rintro e w28 ⟨v169, rfl, ho0, hb⟩; refine ⟨_, rfl, ?_⟩; have n0_ := Aside0.mk (Kd.R_elder' (kdR_ HO_3.out) (Kd.S_base ho0) hb); have n1_ := Aside0.mk (Kd.R_below (kdR_ HO_40.out) hb); have n2_ := Aside0.mk (Kd.R_elder' (kdR_ HO_163000.out) (Kd.S_base ho0) hb); have n3_ := Aside0.mk (Kd.R_below (kdR_ HO_163001.out) hb); have n4_ := Aside0.mk (Kd.S_lower (Kd.S_new' ho0 (Kd.R_lt (kdR_ HO_40.out))) (below_size bes_)); have n5_ := Aside0.mk (blk_below (g := gb162) (o := .cells #[u163000, .slice Ao17 t159.length co17] 90 (0, 0)) (bk_ BK162.out) hb); have n6_ := Aside0.mk (below_step bes_ hb); clear HO_3; clear HO_40; clear HO_163000; clear HO_163001; clear BK162; clear HB; have HO_3 := n0_; have HO_40 := n1_; have HO_163000 := n2_; have HO_163001 := n3_; have HO170 := n4_; have BK162 := n5_; have HB := n6_; clear n0_ n1_ n2_ n3_ n4_ n5_ n6_; (try clear hb);(try clear hb2);(try clear hk);(try clear hi);(try clear ho0); have hcz29_0 := bc2_0 BK162.out; have hcz29_1 := bc2_1 BK162.out; have hfz29_0 := blk_frozen BK162.out 0; have hfz29_1 := blk_frozen BK162.out 1; obtain ⟨Ao31, co31, eo31⟩ := Kd.S_slice HO170.out; subst eo31) | ((with_reducible refine gate_builtin (b := .append) (xs := #[.tmp 56, .tmp 58]) rfl ?_); (try (refine gate_guard (by rfl) ?_; dsimp only)); at_builtin; refine Kd.R_append (Kd.slice 71 k71) (w0 := w) w.heap.size rfl (.tmp 56) (.tmp 58) 84 35 (.slice none 0 0) 24 rfl Tryd.underlying84 info35 rfl (by decide) (by omega) u163000 x163000_2 t167 [.slice Ao31 t167.length co31] (fun k_ => some k_ ≠ (.slice (some ad166) t163.length co21 : Value).ownBlock) (fun k_ => ((fun k_ => some k_ ≠ (.slice (some ad166) t163.length co21 : Value).ownBlock)) k_ ∧ some k_ ≠ (u163000 : Value).ownBlock) rfl rfl ?aP (fun _ hk => hk) ?aF ?aO ?aB ?aS ?aL ?_; (case aP => exact Kd.M_row (Kd.R_mono (Kd.R_apart' ((Kd.S_R HO170.out)) (Kd.R_typed HO_163000.out) (by decide)) (fun k_ hk => ⟨hk.1.2, hk.2⟩))); (case aB => exact bes_); (case aF => exact (fun k_ hk => Kd.fresh' (Kd.R_lt (kdR_ HO_40.out)) k_ hk)); (case aO => exact (by (with_reducible repeat (first | apply Kd.R_alloc | apply Kd.R_drewN | apply Kd.R_drew)); exact Kd.R_mono HO_163000.out (fun _ hk => hk.1))); (case aS => exact (below_size bes_)); (case aL => have := LMc27.out; omega); intro v172 w30 ho hb hg hat; rw [← Ny171.out] at ho; have n0_ := Aside0.mk (Kd.R_after (ok := (fun k_ => some k_ ≠ (.slice (some ad166) t163.length co21 : Value).ownBlock ∧ some k_ ≠ (.slice Ao17 t159.length co17 : Value).ownBlock ∧ some k_ ≠ (.slice Ao31 t167.length co31 : Value).ownBlock ∧ k_ ≠ gb162)) (by (with_reducible repeat (first | apply Kd.R_alloc | apply Kd.R_drewN | apply Kd.R_drew)); exact Kd.R_mono HO_3.out (fun _ hk => ⟨⟨hk.1.1, ⟨hk.1.2.2.1, ⟨hk.2, hk.1.2.2.2⟩⟩⟩, hk.1.2.1⟩)) hg hat); have n1_ := Aside0.mk (Kd.R_over' (kdR_ HO_40.out) (Kd.R_typed (kdR_ HO_163000.out)) (by decide) hg); have n2_ := Aside0.mk (Kd.R_over' (kdR_ HO_163001.out) (Kd.R_typed (kdR_ HO_163000.out)) (by decide) hg); have n3_ := Aside0.mk (blk_grown (g := gb162) (o := .cells #[u163000, .slice Ao17 t159.length co17] 90 (0, 0)) (bk_ BK162.out) hg (Kd.R_ne HO_163000.out BK162.out (by decide))); have n4_ := Aside0.mk (hb); have n5_ := Aside0.mk (ho); clear HO_3; clear HO_40; clear HO_163001; clear BK162; clear HB; clear HO_163000; clear HO170; have HO_3 := n0_; have HO_40 := n1_; have HO_163001 := n2_; have BK162 := n3_; have HB := n4_; have HO173 := n5_; clear n0_ n1_ n2_ n3_ n4_ n5_; clear ho hb hg hat; obtain ⟨Ao32, co32, eo32⟩ := Kd.R_slice HO173.out; subst eo32; have hcz33_0 := bc2_0 BK162.out; have hcz33_1 := bc2_1 BK162.out; have hfz33_0 := blk_frozen BK162.out 0; have hfz33_1 := blk_frozen BK162.out 1))
                  go_roundg k2
                  case measure => have := HK1.out; have := HK2.out; omega
                  case rel => exact ⟨(t168), (wrap64 (x42_2 + 1)), (y171), (.slice Ao32 y171.length co32), sv_, sv_, H', ⟨by have := HK1.out; have := HK2.out; omega⟩, ⟨by (with_reducible repeat (first | apply Kd.R_alloc | apply Kd.R_drewN | apply Kd.R_drew)); exact Kd.R_mono (Kd.R_far (p := ⟨gb162, 0, none⟩) (Kd.R_mono HO_3.out (fun k_ hk => (⟨hk, hk.1.2.2.2⟩ : _ ∧ k_ ≠ gb162))) (fun _ hk => hk.2) (.slice Ao32 y171.length co32)) (fun _ hk => ⟨hk.1.1.1, ⟨hk.1.2, ⟨hk.1.1.2.1, hk.1.1.2.2.2⟩⟩⟩)⟩, ⟨by (with_reducible repeat (first | apply Kd.R_alloc | apply Kd.R_drewN | apply Kd.R_drew)); exact Kd.R_mono (Kd.R_far (p := ⟨gb162, 0, none⟩) (Kd.R_types HO_40.out BK162.out (by decide)) (fun _ hk => hk.2) (.slice Ao32 y171.length co32)) (fun _ hk => trivial)⟩, ⟨by (with_reducible repeat (first | apply Kd.R_alloc | apply Kd.R_drewN | apply Kd.R_drew)); exact Kd.R_mono (Kd.R_far (p := ⟨gb162, 0, none⟩) (Kd.R_types HO173.out BK162.out (by decide)) (fun _ hk => hk.2) (.slice Ao32 y171.length co32)) (fun _ hk => hk.1)⟩, ⟨by (with_reducible repeat (first | apply Kd.R_alloc | apply Kd.R_drewN | apply Kd.R_drew)); exact Kd.R_mono (Kd.R_far (p := ⟨gb162, 0, none⟩) (Kd.R_types HO_163001.out BK162.out (by decide)) (fun _ hk => hk.2) (.slice Ao32 y171.length co32)) (fun _ hk => trivial)⟩, ⟨by (with_reducible repeat (first | refine blk_drewN ?_ _ | refine blk_drew ?_ | refine blk_alloc ?_ _)); refine blk_put (cs := #[u163000, .slice Ao17 t159.length co17]) ?_ 0 _ rfl; (with_reducible repeat (first | refine blk_drewN ?_ _ | refine blk_drew ?_ | refine blk_alloc ?_ _)); exact BK162.out⟩, ⟨bes_⟩⟩
                 ·rw [if_neg c27] at H
                  exact absurd H (by simp)
                ·replace c26 := Bool.eq_false_iff.mpr c26
                 subst c26
                 have H1 : (if x163000_2.length < 5864062014805 then (spec_l5Sheet.l1 k2 t156 x3_1 t158 false t163 (t163.length : Int) (wrap64 (x42_2 + 1)) (x163000_2 ++ [t167]) t159) else (none)) = some r := by rw [if_neg (show ¬ (false = true) by decide)] at H; exact H
                 clear H
                 have H := H1
                 clear H1
                 by_cases c34 : x163000_2.length < 5864062014805
                 ·rw [if_pos c34] at H
                  have LMc34 := Aside0.mk c34
                  clear c34
                  obtain ⟨y174, hy174⟩ : ∃ y_ : List (List (S71)), y_ = (x163000_2 ++ [t167]) := ⟨_, rfl⟩
                  replace H : (spec_l5Sheet.l1 k2 t156 x3_1 t158 false t163 (t163.length : Int) (wrap64 (x42_2 + 1)) y174 t159) = some r := by first | (rw [hy174]; with_reducible exact H) | (have H2_ := (Option.bind_some _ _).symm.trans H; rw [hy174]; with_reducible exact H2_) | (have H2_ := (Option.bind_some _ _).symm.trans H; with_reducible exact H2_) | with_reducible exact H | (rw [hy174]; exact H) | exact H
                  have Ny174 := Aside0.mk hy174
                  clear hy174
                  have H' := Aside0.mk H
                  clear H
                  have p166 : 0 ≤ (x42_2 : Int) := of_decide_eq_true am_
                  have q166 : x42_2 < (t163.length : Int) := of_decide_eq_true am_
                  obtain ⟨ad166, e166, hx166_0⟩ := Kd.at_string (Kd.R_reads' HO_40.out).2.2 x42_2 p166 q166
                  cases e166
                  replace p166 := eq_true p166
                  replace q166 := eq_true q166
                  go_wp2_with (first | ((with_reducible refine gate_callee (f := 103) rfl ?_); refine goesL_ (some 48) rfl rfl Tryd.func103 (by kernel_rfl) rfl #[.string (rdOf ByteArray.empty t163 x42_2)] rfl au_ ?_; (with_reducible refine (spec_l5Selector.calls k2 (rdOf ByteArray.empty t163 x42_2) t167 t168 _ A25.out).mono ?_); rintro e w35 ⟨v169, rfl, ho0, hb⟩; refine ⟨_, rfl, ?_⟩; have n0_ := Aside0.mk (Kd.R_elder' (kdR_ HO_3.out) (Kd.S_base ho0) hb); have n1_ := Aside0.mk (Kd.R_below (kdR_ HO_40.out) hb); have n2_ := Aside0.mk (Kd.R_elder' (kdR_ HO_163000.out) (Kd.S_base ho0) hb); have n3_ := Aside0.mk (Kd.R_below (kdR_ HO_163001.out) hb); have n4_ := Aside0.mk (Kd.S_lower (Kd.S_new' ho0 (Kd.R_lt (kdR_ HO_40.out))) (below_size bes_)); have n5_ := Aside0.mk (blk_below (g := gb162) (o := .cells #[u163000, .slice Ao17 t159.length co17] 90 (0, 0)) (bk_ BK162.out) hb); have n6_ := Aside0.mk (below_step bes_ hb); clear HO_3; clear HO_40; clear HO_163000; clear HO_163001; clear BK162; clear HB; have HO_3 := n0_; have HO_40 := n1_; have HO_163000 := n2_; have HO_163001 := n3_; have HO170 := n4_; have BK162 := n5_; have HB := n6_; clear n0_ n1_ n2_ n3_ n4_ n5_ n6_; (try clear hb);(try clear hb2);(try clear hk);(try clear hi);(try clear ho0); have hcz36_0 := bc2_0 BK162.out; have hcz36_1 := bc2_1 BK162.out; have hfz36_0 := blk_frozen BK162.out 0; have hfz36_1 := blk_frozen BK162.out 1; obtain ⟨Ao38, co38, eo38⟩ := Kd.S_slice HO170.out; subst eo38) | ((with_reducible refine gate_builtin (b := .append) (xs := #[.tmp 56, .tmp 58]) rfl ?_); (try (refine gate_guard (by rfl) ?_; dsimp only)); at_builtin; refine Kd.R_append (Kd.slice 71 k71) (w0 := w) w.heap.size rfl (.tmp 56) (.tmp 58) 84 35 (.slice none 0 0) 24 rfl Tryd.underlying84 info35 rfl (by decide) (by omega) u163000 x163000_2 t167 [.slice Ao38 t167.length co38] (fun k_ => some k_ ≠ (.slice (some ad166) t163.length co21 : Value).ownBlock) (fun k_ => ((fun k_ => some k_ ≠ (.slice (some ad166) t163.length co21 : Value).ownBlock)) k_ ∧ some k_ ≠ (u163000 : Value).ownBlock) rfl rfl ?aP (fun _ hk => hk) ?aF ?aO ?aB ?aS ?aL ?_; (case aP => exact Kd.M_row (Kd.R_mono (Kd.R_apart' ((Kd.S_R HO170.out)) (Kd.R_typed HO_163000.out) (by decide)) (fun k_ hk => ⟨hk.1.2, hk.2⟩))); (case aB => exact bes_); (case aF => exact (fun k_ hk => Kd.fresh' (Kd.R_lt (kdR_ HO_40.out)) k_ hk)); (case aO => exact (by (with_reducible repeat (first | apply Kd.R_alloc | apply Kd.R_drewN | apply Kd.R_drew)); exact Kd.R_mono HO_163000.out (fun _ hk => hk.1))); (case aS => exact (below_size bes_)); (case aL => have := LMc34.out; omega); intro v175 w37 ho hb hg hat; rw [← Ny174.out] at ho; have n0_ := Aside0.mk (Kd.R_after (ok := (fun k_ => some k_ ≠ (.slice (some ad166) t163.length co21 : Value).ownBlock ∧ some k_ ≠ (.slice Ao17 t159.length co17 : Value).ownBlock ∧ some k_ ≠ (.slice Ao38 t167.length co38 : Value).ownBlock ∧ k_ ≠ gb162)) (by (with_reducible repeat (first | apply Kd.R_alloc | apply Kd.R_drewN | apply Kd.R_drew)); exact Kd.R_mono HO_3.out (fun _ hk => ⟨⟨hk.1.1, ⟨hk.1.2.2.1, ⟨hk.2, hk.1.2.2.2⟩⟩⟩, hk.1.2.1⟩)) hg hat); have n1_ := Aside0.mk (Kd.R_over' (kdR_ HO_40.out) (Kd.R_typed (kdR_ HO_163000.out)) (by decide) hg); have n2_ := Aside0.mk (Kd.R_over' (kdR_ HO_163001.out) (Kd.R_typed (kdR_ HO_163000.out)) (by decide) hg); have n3_ := Aside0.mk (blk_grown (g := gb162) (o := .cells #[u163000, .slice Ao17 t159.length co17] 90 (0, 0)) (bk_ BK162.out) hg (Kd.R_ne HO_163000.out BK162.out (by decide))); have n4_ := Aside0.mk (hb); have n5_ := Aside0.mk (ho); clear HO_3; clear HO_40; clear HO_163001; clear BK162; clear HB; clear HO_163000; clear HO170; have HO_3 := n0_; have HO_40 := n1_; have HO_163001 := n2_; have BK162 := n3_; have HB := n4_; have HO176 := n5_; clear n0_ n1_ n2_ n3_ n4_ n5_; clear ho hb hg hat; obtain ⟨Ao39, co39, eo39⟩ := Kd.R_slice HO176.out; subst eo39; have hcz40_0 := bc2_0 BK162.out; have hcz40_1 := bc2_1 BK162.out; have hfz40_0 := blk_frozen BK162.out 0; have hfz40_1 := blk_frozen BK162.out 1))
                  go_roundg k2
                  case measure => have := HK1.out; have := HK2.out; omega
                  case rel => exact ⟨(false), (wrap64 (x42_2 + 1)), (y174), (.slice Ao39 y174.length co39), sv_, sv_, H', ⟨by have := HK1.out; have := HK2.out; omega⟩, ⟨by (with_reducible repeat (first | apply Kd.R_alloc | apply Kd.R_drewN | apply Kd.R_drew)); exact Kd.R_mono (Kd.R_far (p := ⟨gb162, 0, none⟩) (Kd.R_mono HO_3.out (fun k_ hk => (⟨hk, hk.1.2.2.2⟩ : _ ∧ k_ ≠ gb162))) (fun _ hk => hk.2) (.slice Ao39 y174.length co39)) (fun _ hk => ⟨hk.1.1.1, ⟨hk.1.2, ⟨hk.1.1.2.1, hk.1.1.2.2.2⟩⟩⟩)⟩, ⟨by (with_reducible repeat (first | apply Kd.R_alloc | apply Kd.R_drewN | apply Kd.R_drew)); exact Kd.R_mono (Kd.R_far (p := ⟨gb162, 0, none⟩) (Kd.R_types HO_40.out BK162.out (by decide)) (fun _ hk => hk.2) (.slice Ao39 y174.length co39)) (fun _ hk => trivial)⟩, ⟨by (with_reducible repeat (first | apply Kd.R_alloc | apply Kd.R_drewN | apply Kd.R_drew)); exact Kd.R_mono (Kd.R_far (p := ⟨gb162, 0, none⟩) (Kd.R_types HO176.out BK162.out (by decide)) (fun _ hk => hk.2) (.slice Ao39 y174.length co39)) (fun _ hk => hk.1)⟩, ⟨by (with_reducible repeat (first | apply Kd.R_alloc | apply Kd.R_drewN | apply Kd.R_drew)); exact Kd.R_mono (Kd.R_far (p := ⟨gb162, 0, none⟩) (Kd.R_types HO_163001.out BK162.out (by decide)) (fun _ hk => hk.2) (.slice Ao39 y174.length co39)) (fun _ hk => trivial)⟩, ⟨by (with_reducible repeat (first | refine blk_drewN ?_ _ | refine blk_drew ?_ | refine blk_alloc ?_ _)); refine blk_put (cs := #[u163000, .slice Ao17 t159.length co17]) ?_ 0 _ rfl; (with_reducible repeat (first | refine blk_drewN ?_ _ | refine blk_drew ?_ | refine blk_alloc ?_ _)); exact BK162.out⟩, ⟨bes_⟩⟩
                 ·rw [if_neg c34] at H
                  exact absurd H (by simp)
               ·rw [if_neg c24] at H
                exact absurd H (by simp)
              ·rw [if_neg c23] at H
               exact absurd H (by simp)
             ·rw [if_neg c22] at H
              have c22b0 : decide (x42_2 < (t163.length : Int)) = false := decide_eq_false c22
              clear c22
              by_cases c41 : x8_2 = true
              ·subst c41
               have H1 : (if (x3_1.length : Int) < 30 then (if x3_1.length < 2932031007402 then (spec_l5Sheet.l0 k2 t156 (x3_1 ++ [(⟨x163000_2, t159⟩ : S90)]) (wrap64 (t158 + 1))) else (none)) else (spec_l5Sheet.l0 k2 t156 x3_1 (wrap64 (t158 + 1)))) = some r := by rw [if_pos rfl] at H; exact H
               clear H
               have H := H1
               clear H1
               by_cases c42 : (x3_1.length : Int) < 30
               ·rw [if_pos c42] at H
                have c42b0 : decide ((x3_1.length : Int) < 30) = true := decide_eq_true c42
                have c42b1 : decide (x3_1.length < 30) = true := decide_eq_true (by omega)
                clear c42
                by_cases c43 : x3_1.length < 2932031007402
                ·rw [if_pos c43] at H
                 have LMc43 := Aside0.mk c43
                 clear c43
                 obtain ⟨y177, hy177⟩ : ∃ y_ : List (S90), y_ = (x3_1 ++ [(⟨x163000_2, t159⟩ : S90)]) := ⟨_, rfl⟩
                 replace H : (spec_l5Sheet.l0 k2 t156 y177 (wrap64 (t158 + 1))) = some r := by first | (rw [hy177]; with_reducible exact H) | (have H2_ := (Option.bind_some _ _).symm.trans H; rw [hy177]; with_reducible exact H2_) | (have H2_ := (Option.bind_some _ _).symm.trans H; with_reducible exact H2_) | with_reducible exact H | (rw [hy177]; exact H) | exact H
                 have Ny177 := Aside0.mk hy177
                 clear hy177
                 have H' := Aside0.mk H
                 clear H
                 obtain ⟨Ao44, co44, eo44⟩ := Kd.R_slice HO_3.out
                 subst eo44
                 have hcz45_0 := bc2_0 BK162.out
                 have hcz45_1 := bc2_1 BK162.out
                 have hfz45_0 := blk_frozen BK162.out 0
                 have hfz45_1 := blk_frozen BK162.out 1
                 obtain ⟨Ao47, co47, eo47⟩ := Kd.R_slice HO_163000.out
                 subst eo47
                 go_wp2_with (first | ((with_reducible refine gate_builtin (b := .append) (xs := #[.tmp 68, .tmp 70]) rfl ?_); (try (refine gate_guard (by rfl) ?_; dsimp only)); at_builtin; refine Kd.R_append k90 (w0 := w) w.heap.size rfl (.tmp 68) (.tmp 70) 43 90 (.agg #[(.slice none 0 0), (.slice none 0 0)]) 48 rfl Tryd.underlying43 info90 rfl (by decide) (by omega) (.slice Ao44 x3_1.length co44) x3_1 (⟨x163000_2, t159⟩ : S90) [.slice Ao47 x163000_2.length co47, .slice Ao17 t159.length co17] (fun k_ => some k_ ≠ (.slice Ao21 t163.length co21 : Value).ownBlock ∧ k_ ≠ gb162) (fun k_ => ((fun k_ => some k_ ≠ (.slice Ao21 t163.length co21 : Value).ownBlock ∧ k_ ≠ gb162)) k_ ∧ some k_ ≠ (.slice Ao44 x3_1.length co44 : Value).ownBlock) rfl rfl ?aP (fun _ hk => hk) ?aF ?aO ?aB ?aS ?aL ?_; (case aP => exact k90_mkM _ _ _ (⟨x163000_2, t159⟩ : S90) (Kd.R_mono (Kd.R_types (Kd.R_apart' (HO_163000.out) (Kd.R_typed HO_3.out) (by decide)) BK162.out (by decide)) (fun k_ hk => ⟨⟨hk.1.1, hk.2⟩, hk.1.2⟩)) (Kd.R_mono (Kd.R_types (Kd.R_apart' (Kd.R_apart' (HO_163001.out) (Kd.R_typed HO_40.out) (by decide)) (Kd.R_typed HO_3.out) (by decide)) BK162.out (by decide)) (fun k_ hk => ⟨⟨hk.1.1.2, hk.2⟩, hk.1.2⟩))); (case aB => exact bes_); (case aF => exact (fun k_ hk => ⟨Kd.fresh' (Kd.R_lt (kdR_ HO_40.out)) k_ hk, Kd.freshB (g := gb162) (o := .cells #[.slice Ao47 x163000_2.length co47, .slice Ao17 t159.length co17] 90 (0, 0)) (bk_ BK162.out) k_ hk⟩)); (case aO => exact (by (with_reducible repeat (first | apply Kd.R_alloc | apply Kd.R_drewN | apply Kd.R_drew)); exact Kd.R_mono HO_3.out (fun _ hk => ⟨hk.1, hk.2.2.2⟩))); (case aS => exact (below_size bes_)); (case aL => have := LMc43.out; omega); intro v178 w46 ho hb hg hat; rw [← Ny177.out] at ho; have n0_ := Aside0.mk (Kd.R_over' (kdR_ HO_40.out) (Kd.R_typed (kdR_ HO_3.out)) (by decide) hg); have n1_ := Aside0.mk (blk_grown (g := gb162) (o := .cells #[.slice Ao47 x163000_2.length co47, .slice Ao17 t159.length co17] 90 (0, 0)) (bk_ BK162.out) hg (Kd.R_away HO_3.out (fun _ hk => hk.2.2.2))); have n2_ := Aside0.mk (hb); have n3_ := Aside0.mk (ho); clear HO_40; clear BK162; clear HB; clear HO_3; clear HO_163000; clear HO_163001; have HO_40 := n0_; have BK162 := n1_; have HB := n2_; have HO179 := n3_; clear n0_ n1_ n2_ n3_; clear ho hb hg hat))
                 go_roundg k2
                 case measure => have := HK1.out; have := HK2.out; omega
                 case rel => exact ⟨(y177), (wrap64 (t158 + 1)), sv_, H', ⟨by have := HK1.out; have := HK2.out; omega⟩, ⟨by (with_reducible repeat (first | apply Kd.R_alloc | apply Kd.R_drewN | apply Kd.R_drew)); exact Kd.R_mono HO179.out (fun _ hk => trivial)⟩, ⟨bes_⟩⟩
                ·rw [if_neg c43] at H
                 exact absurd H (by simp)
               ·rw [if_neg c42] at H
                have c42b0 : decide ((x3_1.length : Int) < 30) = false := decide_eq_false c42
                have c42b1 : decide (x3_1.length < 30) = false := decide_eq_false (by omega)
                clear c42
                have H' := Aside0.mk H
                clear H
                obtain ⟨Ao48, co48, eo48⟩ := Kd.R_slice HO_3.out
                subst eo48
                go_wp2
                go_roundg k2
                case measure => have := HK1.out; have := HK2.out; omega
                case rel => exact ⟨(x3_1), (wrap64 (t158 + 1)), sv_, H', ⟨by have := HK1.out; have := HK2.out; omega⟩, ⟨by (with_reducible repeat (first | apply Kd.R_alloc | apply Kd.R_drewN | apply Kd.R_drew)); exact Kd.R_mono HO_3.out (fun _ hk => trivial)⟩, ⟨bes_⟩⟩
              ·replace c41 := Bool.eq_false_iff.mpr c41
               subst c41
               have H1 : (spec_l5Sheet.l0 k2 t156 x3_1 (wrap64 (t158 + 1))) = some r := by rw [if_neg (show ¬ (false = true) by decide)] at H; exact H
               clear H
               have H := H1
               clear H1
               have H' := Aside0.mk H
               clear H
               go_wp2
               go_roundg k2
               case measure => have := HK1.out; have := HK2.out; omega
               case rel => exact ⟨(x3_1), (wrap64 (t158 + 1)), sv_, H', ⟨by have := HK1.out; have := HK2.out; omega⟩, ⟨by (with_reducible repeat (first | apply Kd.R_alloc | apply Kd.R_drewN | apply Kd.R_drew)); exact Kd.R_mono HO_3.out (fun _ hk => trivial)⟩, ⟨bes_⟩⟩
          ·rw [if_neg c14] at H
           exact absurd H (by simp)
         ·rw [if_neg c13] at H
          exact absurd H (by simp)
        ·rw [if_neg c12] at H
         exact absurd H (by simp)
       ·rw [if_neg c10] at H
        exact absurd H (by simp)
      ·rw [if_neg c9] at H
       exact absurd H (by simp)
     ·rw [if_neg c8] at H
      exact absurd H (by simp)
   ·rw [if_neg c3] at H
    have c3b0 : decide (x4_1 < (t156.size : Int)) = false := decide_eq_false c3
    clear c3
    obtain rfl := Option.some.inj H
    go_wp2
    go_ret
    exact ⟨_, er_, by (with_reducible repeat (first | apply Kd.R_alloc | apply Kd.R_drewN | apply Kd.R_drew)); exact HO_3.out, bel_⟩

/-! ### spec_ReadSheet: function 20 -/
def spec_ReadSheet.f (k : Nat) (a0 : ByteArray) : Option ((List (S90)) × Bool) := if (a0.size : Int) > 1500 then (some (([] : List (S90)), false)) else ((spec_l5Sheet.f k a0).bind fun t180 => (some (t180, true)))
set_option maxHeartbeats 8000000 in
set_option maxRecDepth 100000 in
theorem spec_ReadSheet.calls (k : Nat) (a0 : ByteArray) (r1 : List (S90)) (r2 : Bool) (w : World) (h : spec_ReadSheet.f k a0 = some (r1, r2)) :
  Calls Tryd.prog 20 #[.string a0] w fun e w' => ∃ v0_ : Value, e = .returned (.tuple #[v0_, .bool r2]) ∧ Kd.R k90 90 w' w.heap.size (fun _ => True) v0_ r1 ∧ Below w.heap.size w w' := by
 have HB := Aside0.mk (Below.refl w.heap.size w)
 have H : (if (a0.size : Int) > 1500 then (some (([] : List (S90)), false)) else ((spec_l5Sheet.f k a0).bind fun t180 => (some (t180, true)))) = some (r1, r2) := h
 clear h
 by_cases c2 : (a0.size : Int) > 1500
 ·rw [if_pos c2] at H
  have c2b0 : decide (1500 < (a0.size : Int)) = true := decide_eq_true c2
  have c2b1 : decide (1500 < a0.size) = true := decide_eq_true (by omega)
  clear c2
  simp only [Option.some.injEq, Prod.mk.injEq] at H
  obtain ⟨rfl, rfl⟩ := H
  go_enter Tryd.func20, Tryd.ntmps20
  go_wp2
  go_ret2
  exact ⟨_, er_, by first | exact Kd.R_nil _ _ _ _ _ | exact Kd.N_nil _ _ _ _ _ | exact Kd.V_nil _ _ _ _ _ | exact Kd.Q_nil _ _ _ _ _ | exact Kd.S_nil _ _ _ _ _, bel_⟩
 ·rw [if_neg c2] at H
  have c2b0 : decide (1500 < (a0.size : Int)) = false := decide_eq_false c2
  have c2b1 : decide (1500 < a0.size) = false := decide_eq_false (by omega)
  clear c2
  replace H := Option.bind_eq_some_iff.mp H
  obtain ⟨t180, A30, H⟩ := H
  replace H : (some (t180, true)) = some (r1, r2) := H
  have A3 := Aside0.mk A30
  clear A30
  simp only [Option.some.injEq, Prod.mk.injEq] at H
  obtain ⟨rfl, rfl⟩ := H
  go_enter Tryd.func20, Tryd.ntmps20
  go_wp2_with (first | ((with_reducible refine gate_callee (f := 51) rfl ?_); refine goesL_ (some 8) rfl rfl Tryd.func51 (by kernel_rfl) rfl #[.string a0] rfl au_ ?_; (with_reducible refine (spec_l5Sheet.calls k a0 t180 _ A3.out).mono ?_); rintro e w4 ⟨v181, rfl, ho0, hb⟩; refine ⟨_, rfl, ?_⟩; have n0_ := Aside0.mk (Kd.R_lower ho0 (below_size bel_)); have n1_ := Aside0.mk (below_step bel_ hb); clear HB; have HO182 := n0_; have HB := n1_; clear n0_ n1_; (try clear hb);(try clear hb2);(try clear hk);(try clear hi);(try clear ho0)))
  go_ret2
  exact ⟨_, er_, by (with_reducible repeat (first | apply Kd.R_alloc | apply Kd.R_drewN | apply Kd.R_drew)); exact HO182.out, bel_⟩

-- NOT PRINTED: function 191 (bytealg_IndexByteString)

-- NOT PRINTED: function 176 (stringslite_IndexByte)

-- NOT PRINTED: function 177 (bytealg_IndexString)

-- NOT PRINTED: function 178 (bytealg_Cutover)

-- NOT PRINTED: function 192 (bytealg_hashStr_string)

-- NOT PRINTED: function 179 (bytealg_IndexRabinKarp_string)

-- NOT PRINTED: function 151 (stringslite_Index)

-- NOT PRINTED: function 104 (stringslite_Cut)

/-! ### strings_Cut: function 53 -/
def laid145_ren_ : Go.Shelf.Ren := ⟨fun | 145 => 53 | 217 => 176 | 219 => 151 | 220 => 104 | 224 => 178 | 225 => 177 | 266 => 191 | 267 => 179 | 314 => 192 | n => n, fun | 46 => 158 | 51 => 177 | 59 => 82 | 146 => 192 | n => n, fun | 1 => 0 | 3 => 1 | 4 => 2 | n => n⟩
theorem laid145_ : Go.Proofs.Lays.n145 Tryd.prog laid145_ren_ := {
 mixed := by kernel_rfl
 f145 := Tryd.func53.trans (congrArg some (by kernel_rfl))
 f217 := Tryd.func176.trans (congrArg some (by kernel_rfl))
 f219 := Tryd.func151.trans (congrArg some (by kernel_rfl))
 f220 := Tryd.func104.trans (congrArg some (by kernel_rfl))
 f224 := Tryd.func178.trans (congrArg some (by kernel_rfl))
 f225 := Tryd.func177.trans (congrArg some (by kernel_rfl))
 f266 := Tryd.func191.trans (congrArg some (by kernel_rfl))
 f267 := Tryd.func179.trans (congrArg some (by kernel_rfl))
 f314 := Tryd.func192.trans (congrArg some (by kernel_rfl))
 t3 := Tryd.underlying3
 a3 := Tryd.isAgg3
 z3 := Tryd.sizeOf3
 v3 := Tryd.zeroValue3
 t4 := Tryd.underlying4
 a4 := Tryd.isAgg4
 z4 := Tryd.sizeOf4
 v4 := Tryd.zeroValue4
 t5 := Tryd.underlying5
 a5 := Tryd.isAgg5
 z5 := Tryd.sizeOf5
 v5 := Tryd.zeroValue5
 t9 := Tryd.underlying9
 a9 := Tryd.isAgg9
 z9 := Tryd.sizeOf9
 v9 := Tryd.zeroValue9
 t46 := Tryd.underlying158
 a46 := Tryd.isAgg158
 z46 := Tryd.sizeOf158
 v46 := Tryd.zeroValue158
 t51 := Tryd.underlying177
 a51 := Tryd.isAgg177
 z51 := Tryd.sizeOf177
 v51 := Tryd.zeroValue177
 t59 := Tryd.underlying82
 a59 := Tryd.isAgg82
 z59 := Tryd.sizeOf82
 v59 := Tryd.zeroValue82
 t146 := Tryd.underlying192
 a146 := Tryd.isAgg192
 z146 := Tryd.sizeOf192
 v146 := Tryd.zeroValue192
 g1 := by kernel_rfl }

def cutB (s sep : ByteArray) : ByteArray × ByteArray × Bool := (⟨(Lib.cut s.data.toList sep.data.toList).1.toArray⟩, ⟨(Lib.cut s.data.toList sep.data.toList).2.1.toArray⟩, (Lib.cut s.data.toList sep.data.toList).2.2)
def strings_Cut.f (a0 : ByteArray) (a1 : ByteArray) : Option (ByteArray × ByteArray × Bool) := if a0.size < 4294967281 then some (cutB a0 a1) else none
theorem strings_Cut.calls (a0 : ByteArray) (a1 : ByteArray) (r1 : ByteArray) (r2 : ByteArray) (r3 : Bool) (w : World) (h : strings_Cut.f a0 a1 = some (r1, r2, r3)) (hT_ : U8Tabs_ w) :
  Calls Tryd.prog 53 #[.string a0, .string a1] w fun e w' => e = .returned (.tuple #[.string r1, .string r2, .bool r3]) ∧ Drawn0 w w' := by
 unfold strings_Cut.f at h
 by_cases hs : a0.size < 4294967281
 ·rw [if_pos hs] at h
  have e := Option.some.inj h
  unfold cutB at e
  simp only [Prod.mk.injEq] at e
  obtain ⟨rfl, rfl, rfl⟩ := e
  obtain ⟨m, hm⟩ := hT_
  exact (Any.strings_Cut laid145_ a0 a1 m w hs (show w.cell? ⟨laid145_ren_.g 1, 0, none⟩ = _ from hm)).mono fun e w' ⟨he, hw⟩ => ⟨he, ⟨hw⟩⟩
 ·rw [if_neg hs] at h; cases h

/-! ### impl_withoutComments: function 52 -/
def impl_withoutComments.l0 : Nat → ByteArray → ByteArray → Option (ByteArray)
 | 0, _, _ => none
 | k + 1, x0, x3 => (strings_Cut.f x0 (⟨#[47, 42]⟩ : ByteArray)).bind fun bt183 => (if x3.size + bt183.1.size ≤ 9223372036854775807 then (if bt183.2.2 = true then (if (x3 ++ bt183.1).size + 1 ≤ 9223372036854775807 then ((strings_Cut.f bt183.2.1 (⟨#[42, 47]⟩ : ByteArray)).bind fun bt186 => (impl_withoutComments.l0 k bt186.2.1 ((x3 ++ bt183.1) ++ (⟨#[32]⟩ : ByteArray)))) else (none)) else (some (x3 ++ bt183.1))) else (none))
def impl_withoutComments.f (k : Nat) (a0 : ByteArray) : Option (ByteArray) := impl_withoutComments.l0 k a0 (⟨#[]⟩ : ByteArray)
set_option maxHeartbeats 8000000 in
set_option maxRecDepth 100000 in
theorem impl_withoutComments.calls (k : Nat) (a0 : ByteArray) (r : ByteArray) (w : World) (h : impl_withoutComments.f k a0 = some r) (hT_ : U8Tabs_ w) :
  Calls Tryd.prog 52 #[.string a0] w fun e w' => e = .returned (.string r) ∧ Drawn0 w w' := by
 have H : (impl_withoutComments.l0 k a0 (⟨#[]⟩ : ByteArray)) = some r := h
 clear h
 have H' := Aside0.mk H
 clear H
 go_enter Tryd.func52, Tryd.ntmps52
 go_wp2
 go_loopg [0, 3] k (fun kq v0 v3 w' => ∃ (x0_1 : ByteArray) (x3_1 : ByteArray), v0 = .string x0_1 ∧ v3 = .string x3_1 ∧ Aside0 (impl_withoutComments.l0 kq x0_1 x3_1 = some r) ∧ Aside0 (kq ≤ k) ∧ Drawn0 w w')
 case atStart => exact ⟨(a0), ((⟨#[]⟩ : ByteArray)), sv_, sv_, H', ⟨Nat.le_refl _⟩, by repeat (first | exact Drawn0.refl _ | apply Drawn0.step)⟩
 case round =>
  clear H'
  obtain ⟨x0_1, x3_1, rfl, rfl, HA, HK1, ⟨m1, rfl⟩⟩ := hrel
  cases gk with
  | zero => exact absurd HA.out (by simp [impl_withoutComments.l0])
  | succ k1 =>
   have H := HA.out
   clear HA
   simp only [impl_withoutComments.l0] at H
   replace H := Option.bind_eq_some_iff.mp H
   obtain ⟨⟨t183, t184, t185⟩, A20, H⟩ := H
   replace H : (if x3_1.size + t183.size ≤ 9223372036854775807 then (if t185 = true then (if (x3_1 ++ t183).size + 1 ≤ 9223372036854775807 then ((strings_Cut.f t184 (⟨#[42, 47]⟩ : ByteArray)).bind fun bt186 => (impl_withoutComments.l0 k1 bt186.2.1 ((x3_1 ++ t183) ++ (⟨#[32]⟩ : ByteArray)))) else (none)) else (some (x3_1 ++ t183))) else (none)) = some r := H
   have A2 := Aside0.mk A20
   clear A20
   by_cases c3 : x3_1.size + t183.size ≤ 9223372036854775807
   ·rw [if_pos c3] at H
    have c3b0 := eq_true c3
    have c3b1 : decide (x3_1.size + t183.size ≤ 9223372036854775807) = true := decide_eq_true c3
    try have c3b2 : (9223372036854775807 < x3_1.size + t183.size) = False := eq_false (Nat.not_lt.2 c3)
    by_cases c4 : t185 = true
    ·subst c4
     have H1 : (if (x3_1 ++ t183).size + 1 ≤ 9223372036854775807 then ((strings_Cut.f t184 (⟨#[42, 47]⟩ : ByteArray)).bind fun bt186 => (impl_withoutComments.l0 k1 bt186.2.1 ((x3_1 ++ t183) ++ (⟨#[32]⟩ : ByteArray)))) else (none)) = some r := by rw [if_pos rfl] at H; exact H
     clear H
     have H := H1
     clear H1
     by_cases c5 : (x3_1 ++ t183).size + 1 ≤ 9223372036854775807
     ·rw [if_pos c5] at H
      have c5b0 := eq_true c5
      have c5b1 : decide ((x3_1 ++ t183).size + 1 ≤ 9223372036854775807) = true := decide_eq_true c5
      try have c5b2 : (9223372036854775807 < (x3_1 ++ t183).size + 1) = False := eq_false (Nat.not_lt.2 c5)
      try have c5b3 : (9223372036854775807 < (x3_1.size + t183.size) + 1) = False := by have h9_ := c5b2; simp only [ByteArray.size_append] at h9_; exact h9_
      try have c5b7 : (9223372036854775807 < (x3_1.size + t183.size) + 1) = False := by have h9_ := c5b2; simp only [ByteArray.size_append] at h9_; exact h9_
      replace H := Option.bind_eq_some_iff.mp H
      obtain ⟨⟨t186, t187, t188⟩, A60, H⟩ := H
      replace H : (impl_withoutComments.l0 k1 t187 ((x3_1 ++ t183) ++ (⟨#[32]⟩ : ByteArray))) = some r := H
      have A6 := Aside0.mk A60
      clear A60
      have H' := Aside0.mk H
      clear H
      go_wp2_with (first | ((with_reducible refine gate_callee (f := 53) rfl ?_); refine goesL_ (some 9) rfl rfl Tryd.func53 (by kernel_rfl) rfl #[.string x0_1, .string (⟨#[47, 42]⟩ : ByteArray)] rfl au_ ?_; (with_reducible refine (strings_Cut.calls x0_1 (⟨#[47, 42]⟩ : ByteArray) t183 t184 true _ A2.out ?hT_).mono ?_); (case hT_ => first | exact hT_ | exact utf8_keep_ hT_ bel_ | exact utf8_drawn_ hT_ (by repeat (first | exact Drawn0.refl _ | apply Drawn0.step)) | exact utf8_keep_ hT_ (by repeat (first | exact Below.refl _ _ | apply below_alloc | apply pw_below_drewN | apply below_drew1))); rintro e w' ⟨rfl, ⟨nd, rfl⟩⟩; refine ⟨_, rfl, ?_⟩) | ((with_reducible refine gate_callee (f := 53) rfl ?_); refine goesL_ (some 23) rfl rfl Tryd.func53 (by kernel_rfl) rfl #[.string t184, .string (⟨#[42, 47]⟩ : ByteArray)] rfl au_ ?_; (with_reducible refine (strings_Cut.calls t184 (⟨#[42, 47]⟩ : ByteArray) t186 t187 t188 _ A6.out ?hT_).mono ?_); (case hT_ => first | exact hT_ | exact utf8_keep_ hT_ bel_ | exact utf8_drawn_ hT_ (by repeat (first | exact Drawn0.refl _ | apply Drawn0.step)) | exact utf8_keep_ hT_ (by repeat (first | exact Below.refl _ _ | apply below_alloc | apply pw_below_drewN | apply below_drew1))); rintro e w' ⟨rfl, ⟨nd, rfl⟩⟩; refine ⟨_, rfl, ?_⟩))
      go_roundg k1
      case measure => have := HK1.out; omega
      case rel => exact ⟨(t187), ((x3_1 ++ t183) ++ (⟨#[32]⟩ : ByteArray)), sv_, sv_, H', ⟨by have := HK1.out; omega⟩, by repeat (first | exact Drawn0.refl _ | apply Drawn0.step)⟩
     ·rw [if_neg c5] at H
      exact absurd H (by simp)
    ·replace c4 := Bool.eq_false_iff.mpr c4
     subst c4
     have H1 : (some (x3_1 ++ t183)) = some r := by rw [if_neg (show ¬ (false = true) by decide)] at H; exact H
     clear H
     have H := H1
     clear H1
     obtain rfl := Option.some.inj H
     go_wp2_with (first | ((with_reducible refine gate_callee (f := 53) rfl ?_); refine goesL_ (some 9) rfl rfl Tryd.func53 (by kernel_rfl) rfl #[.string x0_1, .string (⟨#[47, 42]⟩ : ByteArray)] rfl au_ ?_; (with_reducible refine (strings_Cut.calls x0_1 (⟨#[47, 42]⟩ : ByteArray) t183 t184 false _ A2.out ?hT_).mono ?_); (case hT_ => first | exact hT_ | exact utf8_keep_ hT_ bel_ | exact utf8_drawn_ hT_ (by repeat (first | exact Drawn0.refl _ | apply Drawn0.step)) | exact utf8_keep_ hT_ (by repeat (first | exact Below.refl _ _ | apply below_alloc | apply pw_below_drewN | apply below_drew1))); rintro e w' ⟨rfl, ⟨nd, rfl⟩⟩; refine ⟨_, rfl, ?_⟩))
     go_ret
     exact ⟨by first | rfl | (simp; done) | (simp [*]; done), by repeat (first | exact Drawn0.refl _ | apply Drawn0.step)⟩
   ·rw [if_neg c3] at H
    exact absurd H (by simp)

-- NOT PRINTED: function 162 (utf8_decodeRuneInStringSlow)

-- NOT PRINTED: function 137 (utf8_DecodeRuneInString)

-- NOT PRINTED: function 159 (utf8_RuneCountInString)

-- NOT PRINTED: function 124 (strings_explode)

-- NOT PRINTED: function 126 (strings_Index)

-- NOT PRINTED: function 160 (bytealg_CountString)

-- NOT PRINTED: function 125 (strings_Count)

-- NOT PRINTED: function 71 (strings_genSplit)

end Go.Proofs.YtooilehdljeepaaDoor.PFnExactReadSheet
