-- Laid by a program of this session out of the translation (its own run of the print). Lean checks it.
import Derived.Test.YthfbpmjcjiihnaaGreatDoorPFnExactMarksTextx0
import Derived.Test.YthfbpmjcjiihnaaGreatDoorPFnExactMarksTextx1
import Derived.Test.YthfbpmjcjiihnaaGreatDoorPFnExactMarksTextx2
namespace Go.Proofs.YthfbpmjcjiihnaaGreatDoor.PFnExactMarksText
open Go.RowKit Go.Proofs.YthfbpmjcjiihnaaGreatDoorW.PrintWords Go.Proofs.YthfbpmjcjiihnaaGreatDoorW.PrintLast Go.Proofs.YthfbpmjcjiihnaaGreatDoorW.PrintMore
attribute [local go_sem] max2_int min2_int max_two min_two max_three min_three max_four min_four   -- for this text's walks alone
set_option linter.unusedVariables false
set_option linter.unusedSimpArgs false

/-! ### spec_l4Bad: function 21 -/
def spec_l4Bad.l0 : Nat → ByteArray → Int → Option (Int)
 | 0, _, _ => none
 | k + 1, x0, x3 => if x3 < (x0.size : Int) then (if 0 ≤ x3 then (if x3 ≤ (x0.size : Int) then ((spec_l4Rune.f k (x0.extract (x3 : Int).toNat x0.size)).bind fun bt116 => ((spec_l4May.f bt116.1).bind fun t118 => (if t118 = true then (spec_l4Bad.l0 k x0 (wrap64 (x3 + bt116.2))) else (some x3)))) else (none)) else (none)) else (some (-1))
def spec_l4Bad.f (k : Nat) (a0 : ByteArray) : Option (Int) := spec_l4Bad.l0 k a0 0
set_option maxHeartbeats 8000000 in
set_option maxRecDepth 100000 in
theorem spec_l4Bad.calls (k : Nat) (a0 : ByteArray) (r : Int) (w : World) (h : spec_l4Bad.f k a0 = some r) :
  Calls Tryz.prog 21 #[.string a0] w fun e w' => e = .returned (.int .i64 r) ∧ Drawn0 w w' := by
 have H : (spec_l4Bad.l0 k a0 0) = some r := h
 clear h
 have H' := Aside0.mk H
 clear H
 go_enter Tryz.func21, Tryz.ntmps21
 go_wp2
 go_loopg [3] k (fun kq v3 w' => ∃ (x3_1 : Int), v3 = .int .i64 x3_1 ∧ Aside0 (spec_l4Bad.l0 kq a0 x3_1 = some r) ∧ Aside0 (kq ≤ k) ∧ Drawn0 w w')
 case atStart => exact ⟨(0), sv_, H', ⟨Nat.le_refl _⟩, by repeat (first | exact Drawn0.refl _ | apply Drawn0.step)⟩
 case round =>
  clear H'
  obtain ⟨x3_1, rfl, HA, HK1, ⟨m1, rfl⟩⟩ := hrel
  cases gk with
  | zero => exact absurd HA.out (by simp [spec_l4Bad.l0])
  | succ k1 =>
   have H := HA.out
   clear HA
   simp only [spec_l4Bad.l0] at H
   by_cases c2 : x3_1 < (a0.size : Int)
   ·rw [if_pos c2] at H
    have c2b0 : decide (x3_1 < (a0.size : Int)) = true := decide_eq_true c2
    clear c2
    by_cases c3 : 0 ≤ x3_1
    ·rw [if_pos c3] at H
     have c3b0 := eq_true c3
     have c3b1 : decide (0 ≤ x3_1) = true := decide_eq_true c3
     clear c3
     by_cases c4 : x3_1 ≤ (a0.size : Int)
     ·rw [if_pos c4] at H
      have c4b0 := eq_true c4
      have c4b1 : decide (x3_1 ≤ (a0.size : Int)) = true := decide_eq_true c4
      clear c4
      replace H := Option.bind_eq_some_iff.mp H
      obtain ⟨⟨t116, t117⟩, A50, H⟩ := H
      replace H : ((spec_l4May.f t116).bind fun t118 => (if t118 = true then (spec_l4Bad.l0 k1 a0 (wrap64 (x3_1 + t117))) else (some x3_1))) = some r := H
      have A5 := Aside0.mk A50
      clear A50
      replace H := Option.bind_eq_some_iff.mp H
      obtain ⟨t118, A60, H⟩ := H
      replace H : (if t118 = true then (spec_l4Bad.l0 k1 a0 (wrap64 (x3_1 + t117))) else (some x3_1)) = some r := H
      have A6 := Aside0.mk A60
      clear A60
      by_cases c7 : t118 = true
      ·subst c7
       have H1 : (spec_l4Bad.l0 k1 a0 (wrap64 (x3_1 + t117))) = some r := by rw [if_pos rfl] at H; exact H
       clear H
       have H := H1
       clear H1
       have H' := Aside0.mk H
       clear H
       go_wp2_with (first | ((with_reducible refine gate_callee (f := 35) rfl ?_); refine goesL_ (some 14) rfl rfl Tryz.func35 (by kernel_rfl) rfl #[.string (a0.extract (x3_1 : Int).toNat a0.size)] rfl au_ ?_; (with_reducible refine (spec_l4Rune.calls k1 (a0.extract (x3_1 : Int).toNat a0.size) t116 t117 _ A5.out).mono ?_); rintro e w' ⟨rfl, ⟨nd, rfl⟩⟩; refine ⟨_, rfl, ?_⟩) | ((with_reducible refine gate_callee (f := 36) rfl ?_); refine goesL_ (some 18) rfl rfl Tryz.func36 (by kernel_rfl) rfl #[.int .i64 t116] rfl au_ ?_; (with_reducible refine (spec_l4May.calls t116 true _ A6.out).mono ?_); rintro e w' ⟨rfl, ⟨nd, rfl⟩⟩; refine ⟨_, rfl, ?_⟩))
       go_roundg k1
       case measure => have := HK1.out; omega
       case rel => exact ⟨(wrap64 (x3_1 + t117)), sv_, H', ⟨by have := HK1.out; omega⟩, by repeat (first | exact Drawn0.refl _ | apply Drawn0.step)⟩
      ·replace c7 := Bool.eq_false_iff.mpr c7
       subst c7
       have H1 : (some x3_1) = some r := by rw [if_neg (show ¬ (false = true) by decide)] at H; exact H
       clear H
       have H := H1
       clear H1
       obtain rfl := Option.some.inj H
       go_wp2_with (first | ((with_reducible refine gate_callee (f := 35) rfl ?_); refine goesL_ (some 14) rfl rfl Tryz.func35 (by kernel_rfl) rfl #[.string (a0.extract (x3_1 : Int).toNat a0.size)] rfl au_ ?_; (with_reducible refine (spec_l4Rune.calls k1 (a0.extract (x3_1 : Int).toNat a0.size) t116 t117 _ A5.out).mono ?_); rintro e w' ⟨rfl, ⟨nd, rfl⟩⟩; refine ⟨_, rfl, ?_⟩) | ((with_reducible refine gate_callee (f := 36) rfl ?_); refine goesL_ (some 18) rfl rfl Tryz.func36 (by kernel_rfl) rfl #[.int .i64 t116] rfl au_ ?_; (with_reducible refine (spec_l4May.calls t116 false _ A6.out).mono ?_); rintro e w' ⟨rfl, ⟨nd, rfl⟩⟩; refine ⟨_, rfl, ?_⟩))
       go_ret
       exact ⟨by first | rfl | (simp; done) | (simp [*]; done), by repeat (first | exact Drawn0.refl _ | apply Drawn0.step)⟩
     ·rw [if_neg c4] at H
      exact absurd H (by simp)
    ·rw [if_neg c3] at H
     exact absurd H (by simp)
   ·rw [if_neg c2] at H
    have c2b0 : decide (x3_1 < (a0.size : Int)) = false := decide_eq_false c2
    clear c2
    obtain rfl := Option.some.inj H
    go_wp2
    go_ret
    exact ⟨by first | rfl | (simp; done) | (simp [*]; done), by repeat (first | exact Drawn0.refl _ | apply Drawn0.step)⟩

/-! ### spec_l4Attrs: function 18 -/
mutual
def spec_l4Attrs.l0 : Nat → List (S49) → List (S49) → Int → Int → Option (Bool)
 | 0, _, _, _, _ => none
 | k + 1, x0, x10, x11, x12 => if x12 < x11 then (if 0 ≤ x12 then (if x12 < (x10.length : Int) then ((spec_l4Name.f k ((rd_T49 x10 x12).f0)).bind fun t121 => (if t121 = true then ((spec_l4Bad.f k ((rd_T49 x10 x12).f1)).bind fun t122 => (spec_l4Attrs.j1 k x0 x12 x10 x11 x12 (decide (t122 ≥ 0)) ((rd_T49 x10 x12).f0) ((rd_T49 x10 x12).f1))) else (spec_l4Attrs.j1 k x0 x12 x10 x11 x12 true ((rd_T49 x10 x12).f0) ((rd_T49 x10 x12).f1)))) else (none)) else (none)) else (some true)
def spec_l4Attrs.j1 : Nat → List (S49) → Int → List (S49) → Int → Int → Bool → ByteArray → ByteArray → Option (Bool)
 | 0, _, _, _, _, _, _, _, _ => none
 | k + 1, x0, x3, x10, x11, x12, x26, x121000, x121001 => if x26 = true then (some false) else (if 0 ≤ x3 then (if x3 ≤ (x0.length : Int) then ((some (x0.take (x3 : Int).toNat : List (S49))).bind fun y123 => (spec_l4Attrs.l1 k x0 x10 x11 x12 y123 (y123.length : Int) 0 x121000 x121001)) else (none)) else (none))
def spec_l4Attrs.l1 : Nat → List (S49) → List (S49) → Int → Int → List (S49) → Int → Int → ByteArray → ByteArray → Option (Bool)
 | 0, _, _, _, _, _, _, _, _, _ => none
 | k + 1, x0, x10, x11, x12, x29, x30, x31, x121000, x121001 => if x31 < x30 then (if 0 ≤ x31 then (if x31 < (x29.length : Int) then (if ((rd_T49 x29 x31).f0).toList = x121000.toList then (some false) else (spec_l4Attrs.l1 k x0 x10 x11 x12 x29 x30 (wrap64 (x31 + 1)) x121000 x121001)) else (none)) else (none)) else (spec_l4Attrs.l0 k x0 x10 x11 (wrap64 (x12 + 1)))
end
def spec_l4Attrs.f (k : Nat) (l0 : List (S49)) : Option (Bool) := if (l0.length : Int) > 12 then (some false) else (spec_l4Attrs.l0 k l0 l0 (l0.length : Int) 0)
set_option maxHeartbeats 8000000 in
set_option maxRecDepth 100000 in
theorem spec_l4Attrs.calls (k : Nat) (A0 : Option Addr) (c0 : Nat) (l0 : List (S49)) (r : Bool) (w : World) (hr0 : Kd.C k49 w A0 l0.length l0) (hc0 : l0.length ≤ c0) (h : spec_l4Attrs.f k l0 = some r) :
  Calls Tryz.prog 18 #[.slice A0 l0.length c0] w fun e w' => e = .returned (.bool r) ∧ Below w.heap.size w w' := by
 have hu49 := Tryz.underlying49
 have HR0 := Aside0.mk hr0
 have HC0 := Aside0.mk hc0
 clear hr0 hc0
 have HB := Aside0.mk (Below.refl w.heap.size w)
 have H : (if (l0.length : Int) > 12 then (some false) else (spec_l4Attrs.l0 k l0 l0 (l0.length : Int) 0)) = some r := h
 clear h
 by_cases c2 : (l0.length : Int) > 12
 ·rw [if_pos c2] at H
  have c2b0 : decide (12 < (l0.length : Int)) = true := decide_eq_true c2
  have c2b1 : decide (12 < l0.length) = true := decide_eq_true (by omega)
  clear c2
  obtain rfl := Option.some.inj H
  go_enter Tryz.func18, Tryz.ntmps18
  go_wp2
  go_ret
  exact ⟨er_, bel_⟩
 ·rw [if_neg c2] at H
  have c2b0 : decide (12 < (l0.length : Int)) = false := decide_eq_false c2
  have c2b1 : decide (12 < l0.length) = false := decide_eq_false (by omega)
  clear c2
  have H' := Aside0.mk H
  clear H
  go_enter Tryz.func18, Tryz.ntmps18
  go_wp2
  go_loopg [12] k (fun kq v12 w' => ∃ (x12_1 : Int), v12 = .int .i64 x12_1 ∧ Aside0 (spec_l4Attrs.l0 kq l0 l0 (l0.length : Int) x12_1 = some r) ∧ Aside0 (kq ≤ k) ∧ Aside0 (Below w.heap.size w w'))
  case atStart => exact ⟨(0), sv_, H', ⟨Nat.le_refl _⟩, ⟨bel_⟩⟩
  case round =>
   clear H'
   (try clear c1);(try clear c2);(try clear c2b0 c2b1);(try clear p2)
   obtain ⟨x12_1, rfl, HA, HK1, HB⟩ := hrel
   cases gk with
   | zero => exact absurd HA.out (by simp [spec_l4Attrs.l0])
   | succ k1 =>
    have H := HA.out
    clear HA
    simp only [spec_l4Attrs.l0] at H
    by_cases c3 : x12_1 < (l0.length : Int)
    ·rw [if_pos c3] at H
     have c3b0 : decide (x12_1 < (l0.length : Int)) = true := decide_eq_true c3
     clear c3
     by_cases c4 : 0 ≤ x12_1
     ·rw [if_pos c4] at H
      have c4b0 : decide (0 ≤ x12_1) = true := decide_eq_true c4
      clear c4
      by_cases c5 : x12_1 < (l0.length : Int)
      ·rw [if_pos c5] at H
       have c5b0 : decide (x12_1 < (l0.length : Int)) = true := decide_eq_true c5
       clear c5
       have HC6 := Aside0.mk H
       clear H
       have p119 : 0 ≤ (x12_1 : Int) := of_decide_eq_true am_
       have q119 : x12_1 < (l0.length : Int) := of_decide_eq_true am_
       obtain ⟨ad119, e119, hx119_0, hx119_1⟩ := at_T49 HR0.out x12_1 p119 q119
       cases e119
       replace hx119_0 := pw_cell_below HB.out hx119_0
       replace hx119_1 := pw_cell_below HB.out hx119_1
       replace p119 := eq_true p119
       replace q119 := eq_true q119
       go_upto_region 6 with (first | ((with_reducible refine gate_dst (N := 4) rfl ?_); refine box_event ?hg (N := 4) ?hd (cs := #[.string (⟨#[]⟩ : ByteArray), .string (⟨#[]⟩ : ByteArray)]) (t := 49) ?hr ?_; (case hd => rfl); (case hg => rfl); (case hr => first | (go_simp; done) | (go_simp; rfl)); intro gb120 hg w7 hbox hb; have n0_ := Aside0.mk (below_step bel_ hb); have n1_ := Aside0.mk (hbox); have n2_ := Aside0.mk ((by rw [hg]; exact (below_size bel_) : w.heap.size ≤ gb120)); have n3_ := Aside0.mk ((by rw [hg]; exact (below_size bel_) : w.heap.size ≤ gb120)); clear HB; have HB := n0_; have BK120 := n1_; have GW120 := n2_; have GE120 := n3_; clear n0_ n1_ n2_ n3_; clear hb hbox hg; have hcz8_0 := bc2_0 BK120.out; have hcz8_1 := bc2_1 BK120.out; have hfz8_0 := blk_frozen BK120.out 0; have hfz8_1 := blk_frozen BK120.out 1))
       (try simp only [Act.put, List.setIfInBounds_toArray, List.set_cons_zero, List.set_cons_succ])
       go_cut [26] (fun v26 wc => ∃ (kq : Nat) (x26_5 : Bool), v26 = .bool x26_5 ∧ Aside0 (spec_l4Attrs.j1 kq l0 x12_1 l0 (l0.length : Int) x12_1 x26_5 ((rd_T49 l0 x12_1).f0) ((rd_T49 l0 x12_1).f1) = some r) ∧ Aside0 (kq ≤ k1) ∧ Aside0 (wc.heap[gb120]? = some (.cells #[.string ((rd_T49 l0 x12_1).f0), .string ((rd_T49 l0 x12_1).f1)] 49 (0, 0))) ∧ Aside0 (Below w.heap.size w wc))
       case first =>
        have H := HC6.out
        clear HC6
        replace H := Option.bind_eq_some_iff.mp H
        obtain ⟨t121, A90, H⟩ := H
        replace H : (if t121 = true then ((spec_l4Bad.f k1 ((rd_T49 l0 x12_1).f1)).bind fun t122 => (spec_l4Attrs.j1 k1 l0 x12_1 l0 (l0.length : Int) x12_1 (decide (t122 ≥ 0)) ((rd_T49 l0 x12_1).f0) ((rd_T49 l0 x12_1).f1))) else (spec_l4Attrs.j1 k1 l0 x12_1 l0 (l0.length : Int) x12_1 true ((rd_T49 l0 x12_1).f0) ((rd_T49 l0 x12_1).f1))) = some r := H
        have A9 := Aside0.mk A90
        clear A90
        by_cases c10 : t121 = true
        ·subst c10
         have H1 : ((spec_l4Bad.f k1 ((rd_T49 l0 x12_1).f1)).bind fun t122 => (spec_l4Attrs.j1 k1 l0 x12_1 l0 (l0.length : Int) x12_1 (decide (t122 ≥ 0)) ((rd_T49 l0 x12_1).f0) ((rd_T49 l0 x12_1).f1))) = some r := by rw [if_pos rfl] at H; exact H
         clear H
         have H := H1
         clear H1
         replace H := Option.bind_eq_some_iff.mp H
         obtain ⟨t122, A110, H⟩ := H
         replace H : (spec_l4Attrs.j1 k1 l0 x12_1 l0 (l0.length : Int) x12_1 (decide (t122 ≥ 0)) ((rd_T49 l0 x12_1).f0) ((rd_T49 l0 x12_1).f1)) = some r := H
         have A11 := Aside0.mk A110
         clear A110
         have H' := Aside0.mk H
         clear H
         have hcz12_0 := bc2_0 BK120.out
         have hcz12_1 := bc2_1 BK120.out
         have hfz12_0 := blk_frozen BK120.out 0
         have hfz12_1 := blk_frozen BK120.out 1
         go_wp2_with (first | ((with_reducible refine gate_callee (f := 19) rfl ?_); refine goesL_ (some 19) rfl rfl Tryz.func19 (by kernel_rfl) rfl #[.string ((rd_T49 l0 x12_1).f0)] rfl au_ ?_; (with_reducible refine (spec_l4Name.calls k1 ((rd_T49 l0 x12_1).f0) true _ A9.out).mono ?_); rintro e w' ⟨rfl, ⟨nd, rfl⟩⟩; refine ⟨_, rfl, ?_⟩) | (go_at_call 21; (with_reducible refine (spec_l4Bad.calls k1 ((rd_T49 l0 x12_1).f1) t122 _ A11.out).mono ?_); rintro e w' ⟨rfl, ⟨nd, rfl⟩⟩))
         go_meet
         case rel => exact ⟨_, (decide (t122 ≥ 0)), sv_, H', ⟨by have := HK1.out; first | omega | exact Nat.le_refl _⟩, ⟨by (with_reducible repeat (first | refine blk_drewN ?_ _ | refine blk_drew ?_ | refine blk_alloc ?_ _)); refine blk_put (cs := #[.string ((rd_T49 l0 x12_1).f0), .string (⟨#[]⟩ : ByteArray)]) ?_ 1 _ rfl; (with_reducible repeat (first | refine blk_drewN ?_ _ | refine blk_drew ?_ | refine blk_alloc ?_ _)); refine blk_put (cs := #[.string (⟨#[]⟩ : ByteArray), .string (⟨#[]⟩ : ByteArray)]) ?_ 0 _ rfl; (with_reducible repeat (first | refine blk_drewN ?_ _ | refine blk_drew ?_ | refine blk_alloc ?_ _)); exact BK120.out⟩, ⟨bes_⟩⟩
        ·replace c10 := Bool.eq_false_iff.mpr c10
         subst c10
         have H1 : (spec_l4Attrs.j1 k1 l0 x12_1 l0 (l0.length : Int) x12_1 true ((rd_T49 l0 x12_1).f0) ((rd_T49 l0 x12_1).f1)) = some r := by rw [if_neg (show ¬ (false = true) by decide)] at H; exact H
         clear H
         have H := H1
         clear H1
         have H' := Aside0.mk H
         clear H
         have hcz13_0 := bc2_0 BK120.out
         have hcz13_1 := bc2_1 BK120.out
         have hfz13_0 := blk_frozen BK120.out 0
         have hfz13_1 := blk_frozen BK120.out 1
         go_wp2_with (first | ((with_reducible refine gate_callee (f := 19) rfl ?_); refine goesL_ (some 19) rfl rfl Tryz.func19 (by kernel_rfl) rfl #[.string ((rd_T49 l0 x12_1).f0)] rfl au_ ?_; (with_reducible refine (spec_l4Name.calls k1 ((rd_T49 l0 x12_1).f0) false _ A9.out).mono ?_); rintro e w' ⟨rfl, ⟨nd, rfl⟩⟩; refine ⟨_, rfl, ?_⟩))
         go_meet
         case rel => exact ⟨_, (true), sv_, H', ⟨by have := HK1.out; first | omega | exact Nat.le_refl _⟩, ⟨by (with_reducible repeat (first | refine blk_drewN ?_ _ | refine blk_drew ?_ | refine blk_alloc ?_ _)); refine blk_put (cs := #[.string ((rd_T49 l0 x12_1).f0), .string (⟨#[]⟩ : ByteArray)]) ?_ 1 _ rfl; (with_reducible repeat (first | refine blk_drewN ?_ _ | refine blk_drew ?_ | refine blk_alloc ?_ _)); refine blk_put (cs := #[.string (⟨#[]⟩ : ByteArray), .string (⟨#[]⟩ : ByteArray)]) ?_ 0 _ rfl; (with_reducible repeat (first | refine blk_drewN ?_ _ | refine blk_drew ?_ | refine blk_alloc ?_ _)); exact BK120.out⟩, ⟨bes_⟩⟩
       case rest =>
        clear HC6
        (try clear c1);(try clear p1);(try clear q1);(try clear hx1);(try clear c2);(try clear c2b0 c2b1);(try clear p2);(try clear c3);(try clear c3b0);(try clear c4);(try clear c4b0);(try clear c5);(try clear c5b0);(try clear c10);(try clear p11);(try clear q11);(try clear hx11);(try clear hcz12_0 hcz12_1);(try clear hcz13_0 hcz13_1);(try clear hcz8_0 hcz8_1);(try clear hfz12_0 hfz12_1);(try clear hfz13_0 hfz13_1);(try clear hfz8_0 hfz8_1);(try clear hx119_0);(try clear hx119_1);(try clear p119);(try clear p2);(try clear q119)
        obtain ⟨kq, x26_5, rfl, HA, HJ5, BK120, HB⟩ := hcut
        cases kq with
        | zero => exact absurd HA.out (by simp [spec_l4Attrs.j1])
        | succ kj5 =>
         have H := HA.out
         clear HA
         simp only [spec_l4Attrs.j1] at H
         by_cases c14 : x26_5 = true
         ·subst c14
          have H1 : (some false) = some r := by rw [if_pos rfl] at H; exact H
          clear H
          have H := H1
          clear H1
          obtain rfl := Option.some.inj H
          go_wp2
          go_ret
          exact ⟨er_, bes_⟩
         ·replace c14 := Bool.eq_false_iff.mpr c14
          subst c14
          have H1 : (if 0 ≤ x12_1 then (if x12_1 ≤ (l0.length : Int) then ((some (l0.take (x12_1 : Int).toNat : List (S49))).bind fun y123 => (spec_l4Attrs.l1 kj5 l0 l0 (l0.length : Int) x12_1 y123 (y123.length : Int) 0 ((rd_T49 l0 x12_1).f0) ((rd_T49 l0 x12_1).f1))) else (none)) else (none)) = some r := by rw [if_neg (show ¬ (false = true) by decide)] at H; exact H
          clear H
          have H := H1
          clear H1
          by_cases c15 : 0 ≤ x12_1
          ·rw [if_pos c15] at H
           have c15b0 := eq_true c15
           have c15b1 : decide (0 ≤ x12_1) = true := decide_eq_true c15
           clear c15
           by_cases c16 : x12_1 ≤ (l0.length : Int)
           ·rw [if_pos c16] at H
            have c16b0 := eq_true c16
            have c16b1 : decide (x12_1 ≤ (l0.length : Int)) = true := decide_eq_true c16
            clear c16
            obtain ⟨y123, hy123⟩ : ∃ y_ : List (S49), y_ = (l0.take (x12_1 : Int).toNat) := ⟨_, rfl⟩
            replace H : (spec_l4Attrs.l1 kj5 l0 l0 (l0.length : Int) x12_1 y123 (y123.length : Int) 0 ((rd_T49 l0 x12_1).f0) ((rd_T49 l0 x12_1).f1)) = some r := by first | (rw [hy123]; with_reducible exact H) | (have H2_ := (Option.bind_some _ _).symm.trans H; rw [hy123]; with_reducible exact H2_) | (have H2_ := (Option.bind_some _ _).symm.trans H; with_reducible exact H2_) | with_reducible exact H | (rw [hy123]; exact H) | exact H
            have Ny123 := Aside0.mk hy123
            clear hy123
            have H' := Aside0.mk H
            clear H
            have q17 : (x12_1 : Int) ≤ ((l0.length : Int) : Int) := of_decide_eq_true am_
            obtain ⟨i017, hi017, _, hsz17, _⟩ := info_parts info49
            have hroom17 : l0.length ≤ c0 := HC0.out
            have hC17 : Kd.C k49 _ (some ad119) l0.length l0 := HR0.out
            have hcut17 := cut_to (P := Tryz.prog) 36 49 .i64 Tryz.underlying36 hi017 (some ad119) l0.length c0 x12_1 (of_decide_eq_true am_) q17 hroom17
            have hr17 := Kd.C_take (m := (x12_1 : Int).toNat) hC17 (by omega)
            have hy17 : y123.length = (x12_1 : Int).toNat := (by rw [Ny123.out, List.length_take]; omega)
            rw [← Ny123.out] at hr17
            rw [← hy17] at hcut17
            have HR126 := Aside0.mk hr17
            have HC126 := Aside0.mk (show y123.length ≤ c0 from by omega)
            clear hr17 hC17 hroom17 hi017 hsz17
            have KY17 := Aside0.mk hy17
            clear hy17
            replace q17 := eq_true q17
            go_wp2
            go_loopg [31] kj5 (fun kq v31 w' => ∃ (x31_3 : Int), v31 = .int .i64 x31_3 ∧ Aside0 (spec_l4Attrs.l1 kq l0 l0 (l0.length : Int) x12_1 y123 (y123.length : Int) x31_3 ((rd_T49 l0 x12_1).f0) ((rd_T49 l0 x12_1).f1) = some r) ∧ Aside0 (kq ≤ kj5) ∧ Aside0 (w'.heap[gb120]? = some (.cells #[.string ((rd_T49 l0 x12_1).f0), .string ((rd_T49 l0 x12_1).f1)] 49 (0, 0))) ∧ Aside0 (Below w.heap.size w w'))
            case atStart => exact ⟨(0), sv_, H', ⟨Nat.le_refl _⟩, ⟨by (with_reducible repeat (first | refine blk_drewN ?_ _ | refine blk_drew ?_ | refine blk_alloc ?_ _)); exact BK120.out⟩, ⟨bes_⟩⟩
            case round =>
             clear H'
             (try clear c1);(try clear p1);(try clear q1);(try clear hx1);(try clear c2);(try clear c2b0 c2b1);(try clear p2);(try clear c3);(try clear c3b0);(try clear c4);(try clear c4b0);(try clear c5);(try clear c5b0);(try clear c10);(try clear p11);(try clear q11);(try clear hx11);(try clear c14);(try clear c15);(try clear c15b0 c15b1);(try clear c16);(try clear c16b0 c16b1);(try clear q17);(try clear hcz12_0 hcz12_1);(try clear hcz13_0 hcz13_1);(try clear hcz8_0 hcz8_1);(try clear hfz12_0 hfz12_1);(try clear hfz13_0 hfz13_1);(try clear hfz8_0 hfz8_1);(try clear hx119_0);(try clear hx119_1);(try clear p1);(try clear p11);(try clear p119);(try clear p2);(try clear q1);(try clear q11);(try clear q119);(try clear q17)
             obtain ⟨x31_3, rfl, HA, HK3, BK120, HB⟩ := hrel
             cases gk with
             | zero => exact absurd HA.out (by simp [spec_l4Attrs.l1])
             | succ k3 =>
              have H := HA.out
              clear HA
              simp only [spec_l4Attrs.l1] at H
              by_cases c18 : x31_3 < (y123.length : Int)
              ·rw [if_pos c18] at H
               have c18b0 : decide (x31_3 < (y123.length : Int)) = true := decide_eq_true c18
               clear c18
               by_cases c19 : 0 ≤ x31_3
               ·rw [if_pos c19] at H
                have c19b0 : decide (0 ≤ x31_3) = true := decide_eq_true c19
                clear c19
                by_cases c20 : x31_3 < (y123.length : Int)
                ·rw [if_pos c20] at H
                 have c20b0 : decide (x31_3 < (y123.length : Int)) = true := decide_eq_true c20
                 clear c20
                 by_cases c21 : ((rd_T49 y123 x31_3).f0).toList = ((rd_T49 l0 x12_1).f0).toList
                 ·rw [if_pos c21] at H
                  have c21b0 : (((rd_T49 y123 x31_3).f0).toList == ((rd_T49 l0 x12_1).f0).toList) = true := beq_iff_eq.mpr c21
                  have c21b1 : (((rd_T49 y123 x31_3).f0).toList != ((rd_T49 l0 x12_1).f0).toList) = false := bne_eq_false_iff_eq.mpr c21
                  clear c21
                  obtain rfl := Option.some.inj H
                  have p127 : 0 ≤ (x31_3 : Int) := of_decide_eq_true am_
                  have q127 : x31_3 < (y123.length : Int) := of_decide_eq_true am_
                  obtain ⟨ad127, e127, hx127_0, hx127_1⟩ := at_T49 HR126.out x31_3 p127 q127
                  obtain rfl : ad119 = ad127 := (by injection e127)
                  replace hx127_0 := pw_cell_below HB.out hx127_0
                  replace hx127_1 := pw_cell_below HB.out hx127_1
                  replace p127 := eq_true p127
                  replace q127 := eq_true q127
                  go_wp2_with (first | ((with_reducible refine gate_dst (N := 6) rfl ?_); refine box_event ?hg (N := 6) ?hd (cs := #[.string (⟨#[]⟩ : ByteArray), .string (⟨#[]⟩ : ByteArray)]) (t := 49) ?hr ?_; (case hd => rfl); (case hg => rfl); (case hr => first | (go_simp; done) | (go_simp; rfl)); intro gb128 hg w22 hbox hb; have n0_ := Aside0.mk (blk_below (g := gb120) (o := .cells #[.string ((rd_T49 l0 x12_1).f0), .string ((rd_T49 l0 x12_1).f1)] 49 (0, 0)) (bk_ BK120.out) hb); have n1_ := Aside0.mk (below_step bes_ hb); have n2_ := Aside0.mk (hbox); have n3_ := Aside0.mk ((by rw [hg]; exact (below_size bes_) : w.heap.size ≤ gb128)); have n4_ := Aside0.mk ((by rw [hg]; exact (below_size bes_) : w.heap.size ≤ gb128)); have n5_ := Aside0.mk ((by rw [hg]; exact Nat.ne_of_lt (blk_lt (g := gb120) (o := .cells #[.string ((rd_T49 l0 x12_1).f0), .string ((rd_T49 l0 x12_1).f1)] 49 (0, 0)) (bk_ BK120.out)) : gb120 ≠ gb128)); have n6_ := Aside0.mk ((by rw [hg]; exact Nat.ne_of_gt (blk_lt (g := gb120) (o := .cells #[.string ((rd_T49 l0 x12_1).f0), .string ((rd_T49 l0 x12_1).f1)] 49 (0, 0)) (bk_ BK120.out)) : gb128 ≠ gb120)); clear BK120; clear HB; have BK120 := n0_; have HB := n1_; have BK128 := n2_; have GW128 := n3_; have GE128 := n4_; have NB120_128 := n5_; have NB128_120 := n6_; clear n0_ n1_ n2_ n3_ n4_ n5_ n6_; clear hb hbox hg; have hnb23 := NB128_120.out; have hnc23 := NB120_128.out; have hcz24_0 := bc2_0 BK128.out; have hcz24_1 := bc2_1 BK128.out; have hfz24_0 := blk_frozen BK128.out 0; have hfz24_1 := blk_frozen BK128.out 1; have hcz25_0 := bc2_0 BK120.out; have hcz25_1 := bc2_1 BK120.out; have hfz25_0 := blk_frozen BK120.out 0; have hfz25_1 := blk_frozen BK120.out 1))
                  go_ret
                  exact ⟨er_, bes_⟩
                 ·rw [if_neg c21] at H
                  have c21b0 : (((rd_T49 y123 x31_3).f0).toList == ((rd_T49 l0 x12_1).f0).toList) = false := beq_eq_false_iff_ne.mpr c21
                  have c21b1 : (((rd_T49 y123 x31_3).f0).toList != ((rd_T49 l0 x12_1).f0).toList) = true := bne_iff_ne.mpr c21
                  have H' := Aside0.mk H
                  clear H
                  have p127 : 0 ≤ (x31_3 : Int) := of_decide_eq_true am_
                  have q127 : x31_3 < (y123.length : Int) := of_decide_eq_true am_
                  obtain ⟨ad127, e127, hx127_0, hx127_1⟩ := at_T49 HR126.out x31_3 p127 q127
                  obtain rfl : ad119 = ad127 := (by injection e127)
                  replace hx127_0 := pw_cell_below HB.out hx127_0
                  replace hx127_1 := pw_cell_below HB.out hx127_1
                  replace p127 := eq_true p127
                  replace q127 := eq_true q127
                  go_wp2_with (first | ((with_reducible refine gate_dst (N := 6) rfl ?_); refine box_event ?hg (N := 6) ?hd (cs := #[.string (⟨#[]⟩ : ByteArray), .string (⟨#[]⟩ : ByteArray)]) (t := 49) ?hr ?_; (case hd => rfl); (case hg => rfl); (case hr => first | (go_simp; done) | (go_simp; rfl)); intro gb128 hg w26 hbox hb; have n0_ := Aside0.mk (blk_below (g := gb120) (o := .cells #[.string ((rd_T49 l0 x12_1).f0), .string ((rd_T49 l0 x12_1).f1)] 49 (0, 0)) (bk_ BK120.out) hb); have n1_ := Aside0.mk (below_step bes_ hb); have n2_ := Aside0.mk (hbox); have n3_ := Aside0.mk ((by rw [hg]; exact (below_size bes_) : w.heap.size ≤ gb128)); have n4_ := Aside0.mk ((by rw [hg]; exact (below_size bes_) : w.heap.size ≤ gb128)); have n5_ := Aside0.mk ((by rw [hg]; exact Nat.ne_of_lt (blk_lt (g := gb120) (o := .cells #[.string ((rd_T49 l0 x12_1).f0), .string ((rd_T49 l0 x12_1).f1)] 49 (0, 0)) (bk_ BK120.out)) : gb120 ≠ gb128)); have n6_ := Aside0.mk ((by rw [hg]; exact Nat.ne_of_gt (blk_lt (g := gb120) (o := .cells #[.string ((rd_T49 l0 x12_1).f0), .string ((rd_T49 l0 x12_1).f1)] 49 (0, 0)) (bk_ BK120.out)) : gb128 ≠ gb120)); clear BK120; clear HB; have BK120 := n0_; have HB := n1_; have BK128 := n2_; have GW128 := n3_; have GE128 := n4_; have NB120_128 := n5_; have NB128_120 := n6_; clear n0_ n1_ n2_ n3_ n4_ n5_ n6_; clear hb hbox hg; have hnb27 := NB128_120.out; have hnc27 := NB120_128.out; have hcz28_0 := bc2_0 BK128.out; have hcz28_1 := bc2_1 BK128.out; have hfz28_0 := blk_frozen BK128.out 0; have hfz28_1 := blk_frozen BK128.out 1; have hcz29_0 := bc2_0 BK120.out; have hcz29_1 := bc2_1 BK120.out; have hfz29_0 := blk_frozen BK120.out 0; have hfz29_1 := blk_frozen BK120.out 1))
                  go_roundg k3
                  case measure => have := HK1.out; have := HJ5.out; have := HK3.out; omega
                  case rel => exact ⟨(wrap64 (x31_3 + 1)), sv_, H', ⟨by have := HK1.out; have := HJ5.out; have := HK3.out; omega⟩, ⟨by (with_reducible repeat (first | refine blk_drewN ?_ _ | refine blk_drew ?_ | refine blk_alloc ?_ _)); refine blk_far ?_ NB120_128.out _; (with_reducible repeat (first | refine blk_drewN ?_ _ | refine blk_drew ?_ | refine blk_alloc ?_ _)); refine blk_far ?_ NB120_128.out _; (with_reducible repeat (first | refine blk_drewN ?_ _ | refine blk_drew ?_ | refine blk_alloc ?_ _)); exact BK120.out⟩, ⟨bes_⟩⟩
                ·rw [if_neg c20] at H
                 exact absurd H (by simp)
               ·rw [if_neg c19] at H
                exact absurd H (by simp)
              ·rw [if_neg c18] at H
               have c18b0 : decide (x31_3 < (y123.length : Int)) = false := decide_eq_false c18
               clear c18
               have H' := Aside0.mk H
               clear H
               go_wp2
               go_roundg k3
               case measure => have := HK1.out; have := HJ5.out; have := HK3.out; omega
               case rel => exact ⟨(wrap64 (x12_1 + 1)), sv_, H', ⟨by have := HK1.out; have := HJ5.out; have := HK3.out; omega⟩, ⟨bes_⟩⟩
           ·rw [if_neg c16] at H
            exact absurd H (by simp)
          ·rw [if_neg c15] at H
           exact absurd H (by simp)
      ·rw [if_neg c5] at H
       exact absurd H (by simp)
     ·rw [if_neg c4] at H
      exact absurd H (by simp)
    ·rw [if_neg c3] at H
     have c3b0 : decide (x12_1 < (l0.length : Int)) = false := decide_eq_false c3
     clear c3
     obtain rfl := Option.some.inj H
     go_wp2
     go_ret
     exact ⟨er_, bel_⟩

/-! ### spec_l4Deep: function 20 -/
def spec_l4Deep.l0 : Nat → List (S38) → Int → Int → Option (Int)
 | 0, _, _, _ => none
 | k + 1, x0, x1, x5 => if x1 ≥ 0 then (if 0 ≤ x1 then (if x1 < (x0.length : Int) then (spec_l4Deep.l0 k x0 ((rd_T38 x0 x1).f1) (wrap64 (x5 + 1))) else (none)) else (none)) else (some x5)
def spec_l4Deep.f (k : Nat) (l0 : List (S38)) (a1 : Int) : Option (Int) := spec_l4Deep.l0 k l0 a1 0
set_option maxHeartbeats 8000000 in
set_option maxRecDepth 100000 in
theorem spec_l4Deep.calls (k : Nat) (A0 : Option Addr) (c0 : Nat) (l0 : List (S38)) (a1 : Int) (r : Int) (w : World) (hr0 : Kd.C k38 w A0 l0.length l0) (hc0 : l0.length ≤ c0) (h : spec_l4Deep.f k l0 a1 = some r) :
  Calls Tryz.prog 20 #[.slice A0 l0.length c0, .int .i64 a1] w fun e w' => e = .returned (.int .i64 r) ∧ Drawn0 w w' := by
 have HR0 := Aside0.mk hr0
 have HC0 := Aside0.mk hc0
 clear hr0 hc0
 have H : (spec_l4Deep.l0 k l0 a1 0) = some r := h
 clear h
 have H' := Aside0.mk H
 clear H
 go_enter Tryz.func20, Tryz.ntmps20
 go_wp2
 go_loopg [1, 5] k (fun kq v1 v5 w' => ∃ (x1_1 : Int) (x5_1 : Int), v1 = .int .i64 x1_1 ∧ v5 = .int .i64 x5_1 ∧ Aside0 (spec_l4Deep.l0 kq l0 x1_1 x5_1 = some r) ∧ Aside0 (kq ≤ k) ∧ Drawn0 w w')
 case atStart => exact ⟨(a1), (0), sv_, sv_, H', ⟨Nat.le_refl _⟩, by repeat (first | exact Drawn0.refl _ | apply Drawn0.step)⟩
 case round =>
  clear H'
  (try clear c2);(try clear p2)
  obtain ⟨x1_1, x5_1, rfl, rfl, HA, HK1, ⟨m1, rfl⟩⟩ := hrel
  cases gk with
  | zero => exact absurd HA.out (by simp [spec_l4Deep.l0])
  | succ k1 =>
   have H := HA.out
   clear HA
   simp only [spec_l4Deep.l0] at H
   by_cases c3 : x1_1 ≥ 0
   ·rw [if_pos c3] at H
    have c3b0 : decide (0 ≤ x1_1) = true := decide_eq_true c3
    clear c3
    by_cases c4 : 0 ≤ x1_1
    ·rw [if_pos c4] at H
     have c4b0 : decide (0 ≤ x1_1) = true := decide_eq_true c4
     clear c4
     by_cases c5 : x1_1 < (l0.length : Int)
     ·rw [if_pos c5] at H
      have c5b0 : decide (x1_1 < (l0.length : Int)) = true := decide_eq_true c5
      clear c5
      have H' := Aside0.mk H
      clear H
      have p129 : 0 ≤ (x1_1 : Int) := of_decide_eq_true am_
      have q129 : x1_1 < (l0.length : Int) := of_decide_eq_true am_
      obtain ⟨ad129, A129_2, c129_2, e129, hx129_0, hx129_1, hx129_2, hx129_3, hl129_2, hi129_2⟩ := at_T38 HR0.out x1_1 p129 q129
      cases e129
      have HR129_2 := Aside0.mk hi129_2
      have HC129_2 := Aside0.mk hl129_2
      clear hi129_2 hl129_2
      replace p129 := eq_true p129
      replace q129 := eq_true q129
      go_wp2
      go_roundg k1
      case measure => have := HK1.out; omega
      case rel => exact ⟨((rd_T38 l0 x1_1).f1), (wrap64 (x5_1 + 1)), sv_, sv_, H', ⟨by have := HK1.out; omega⟩, by repeat (first | exact Drawn0.refl _ | apply Drawn0.step)⟩
     ·rw [if_neg c5] at H
      exact absurd H (by simp)
    ·rw [if_neg c4] at H
     exact absurd H (by simp)
   ·rw [if_neg c3] at H
    have c3b0 : decide (0 ≤ x1_1) = false := decide_eq_false c3
    clear c3
    obtain rfl := Option.some.inj H
    go_wp2
    go_ret
    exact ⟨by first | rfl | (simp; done) | (simp [*]; done), by repeat (first | exact Drawn0.refl _ | apply Drawn0.step)⟩

end Go.Proofs.YthfbpmjcjiihnaaGreatDoor.PFnExactMarksText
