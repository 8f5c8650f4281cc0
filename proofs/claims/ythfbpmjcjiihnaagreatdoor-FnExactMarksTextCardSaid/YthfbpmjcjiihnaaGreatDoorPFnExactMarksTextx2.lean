-- Laid by a program of this session out of the translation (its own run of the print). Lean checks it.
import Derived.Test.YthfbpmjcjiihnaaGreatDoorPFnExactMarksTextx0
import Derived.Test.YthfbpmjcjiihnaaGreatDoorPFnExactMarksTextx1
namespace Go.Proofs.YthfbpmjcjiihnaaGreatDoor.PFnExactMarksText
open Go.RowKit Go.Proofs.YthfbpmjcjiihnaaGreatDoorW.PrintWords Go.Proofs.YthfbpmjcjiihnaaGreatDoorW.PrintLast Go.Proofs.YthfbpmjcjiihnaaGreatDoorW.PrintMore
attribute [local go_sem] max2_int min2_int max_two min_two max_three min_three max_four min_four   -- for this text's walks alone
set_option linter.unusedVariables false
set_option linter.unusedSimpArgs false

/-! ### spec_l4Rune: function 35 -/
mutual
def spec_l4Rune.j2 : Nat → ByteArray → Int → Int → Option (Int × Int)
 | 0, _, _, _ => none
 | k + 1, x0, x5, x6 => if x5 = 0 then (spec_l4Rune.j3 k x0 x5 x6 true) else (spec_l4Rune.j3 k x0 x5 x6 (decide ((x0.size : Int) < x5)))
def spec_l4Rune.j3 : Nat → ByteArray → Int → Int → Bool → Option (Int × Int)
 | 0, _, _, _, _ => none
 | k + 1, x0, x5, x6, x51 => if x51 = true then (some ((-1), 1)) else (spec_l4Rune.l0 k x0 x5 x6 1)
def spec_l4Rune.l0 : Nat → ByteArray → Int → Int → Int → Option (Int × Int)
 | 0, _, _, _, _ => none
 | k + 1, x0, x5, x6, x7 => if x7 < x5 then (if 0 ≤ x7 then (if x7 < (x0.size : Int) then (if (bt x0 x7) < 128 then (some ((-1), 1)) else (if (bt x0 x7) > 191 then (some ((-1), 1)) else (spec_l4Rune.l0 k x0 x5 (wrap64 ((wrap64 ((wrap64 (x6 * 64)) + (wrap64 (bt x0 x7)))) - 128)) (wrap64 (x7 + 1))))) else (none)) else (none)) else (if x5 = 3 then (if x6 < 2048 then (some ((-1), 1)) else ((spec_l1In.f x6 55296 57343).bind fun t113 => (if t113 = true then (some ((-1), 1)) else (if x5 = 4 then ((spec_l1In.f x6 65536 1114111).bind fun t114 => (if t114 = true then (some (x6, x5)) else (some ((-1), 1)))) else (some (x6, x5)))))) else (if x5 = 4 then ((spec_l1In.f x6 65536 1114111).bind fun t115 => (if t115 = true then (some (x6, x5)) else (some ((-1), 1)))) else (some (x6, x5))))
def spec_l4Rune.j0 : Nat → ByteArray → Int → Int → Int → Bool → Option (Int × Int)
 | 0, _, _, _, _, _ => none
 | k + 1, x0, x4, x5, x6, x14 => if x14 = true then (spec_l4Rune.j2 k x0 2 (wrap64 ((wrap64 (x4)) - 192))) else (if x4 ≥ 224 then (spec_l4Rune.j1 k x0 x4 x5 x6 (decide (x4 ≤ 239))) else (spec_l4Rune.j1 k x0 x4 x5 x6 false))
def spec_l4Rune.j1 : Nat → ByteArray → Int → Int → Int → Bool → Option (Int × Int)
 | 0, _, _, _, _, _ => none
 | k + 1, x0, x4, x5, x6, x24 => if x24 = true then (spec_l4Rune.j2 k x0 3 (wrap64 ((wrap64 (x4)) - 224))) else (if x4 ≥ 240 then (if x4 ≤ 244 then (spec_l4Rune.j2 k x0 4 (wrap64 ((wrap64 (x4)) - 240))) else (spec_l4Rune.j2 k x0 x5 x6)) else (spec_l4Rune.j2 k x0 x5 x6))
end
def spec_l4Rune.f (k : Nat) (a0 : ByteArray) : Option (Int × Int) := if 0 < (a0.size : Int) then (if (bt a0 0) < 128 then (some (wrap64 (bt a0 0), 1)) else (if (bt a0 0) ≥ 194 then (spec_l4Rune.j0 k a0 (bt a0 0) 0 0 (decide ((bt a0 0) ≤ 223))) else (spec_l4Rune.j0 k a0 (bt a0 0) 0 0 false))) else (none)
set_option maxHeartbeats 8000000 in
set_option maxRecDepth 100000 in
theorem spec_l4Rune.calls (k : Nat) (a0 : ByteArray) (r1 : Int) (r2 : Int) (w : World) (h : spec_l4Rune.f k a0 = some (r1, r2)) :
  Calls Tryz.prog 35 #[.string a0] w fun e w' => e = .returned (.tuple #[.int .i64 r1, .int .i64 r2]) ∧ Drawn0 w w' := by
 have H : (if 0 < (a0.size : Int) then (if (bt a0 0) < 128 then (some (wrap64 (bt a0 0), 1)) else (if (bt a0 0) ≥ 194 then (spec_l4Rune.j0 k a0 (bt a0 0) 0 0 (decide ((bt a0 0) ≤ 223))) else (spec_l4Rune.j0 k a0 (bt a0 0) 0 0 false))) else (none)) = some (r1, r2) := h
 clear h
 by_cases c2 : 0 < (a0.size : Int)
 ·rw [if_pos c2] at H
  have c2b0 : decide (0 < (a0.size : Int)) = true := decide_eq_true c2
  have c2b1 : decide (0 < a0.size) = true := decide_eq_true (by omega)
  clear c2
  by_cases c4 : (bt a0 0) < 128
  ·rw [if_pos c4] at H
   have c4b0 : decide ((bt a0 0) < 128) = true := decide_eq_true c4
   clear c4
   simp only [Option.some.injEq, Prod.mk.injEq] at H
   obtain ⟨rfl, rfl⟩ := H
   have p3 : 0 ≤ (0 : Int) := (by omega)
   have q3 : 0 < a0.size := (by have : (0 : Int) < (a0.size : Int) := of_decide_eq_true am_; omega)
   have hx3 : ∀ h : 0 < a0.size, ((a0[0]'h).toNat : Int) = bt a0 0 := bt_at a0 0
   clear p3
   have qi3 : (0 < (a0.size : Int)) = True := eq_true (of_decide_eq_true am_)
   replace q3 := eq_true q3
   go_enter Tryz.func35, Tryz.ntmps35
   go_wp2
   go_ret2
   exact ⟨by first | rfl | (simp; done) | (simp [*]; done), by repeat (first | exact Drawn0.refl _ | apply Drawn0.step)⟩
  ·rw [if_neg c4] at H
   have c4b0 : decide ((bt a0 0) < 128) = false := decide_eq_false c4
   clear c4
   have HC5 := Aside0.mk H
   clear H
   have p3 : 0 ≤ (0 : Int) := (by omega)
   have q3 : 0 < a0.size := (by have : (0 : Int) < (a0.size : Int) := of_decide_eq_true am_; omega)
   have hx3 : ∀ h : 0 < a0.size, ((a0[0]'h).toNat : Int) = bt a0 0 := bt_at a0 0
   clear p3
   have qi3 : (0 < (a0.size : Int)) = True := eq_true (of_decide_eq_true am_)
   replace q3 := eq_true q3
   go_enter Tryz.func35, Tryz.ntmps35
   go_upto_block 0 with (fail)
   go_cut [5, 6] (fun v5 v6 wc => ∃ (kq : Nat) (x5_4 : Int) (x6_4 : Int), v5 = .int .i64 x5_4 ∧ v6 = .int .i64 x6_4 ∧ Aside0 (spec_l4Rune.j2 kq a0 x5_4 x6_4 = some (r1, r2)) ∧ Aside0 (kq ≤ k) ∧ Drawn0 w wc)
   case first =>
    have H := HC5.out
    clear HC5
    have HC6 := Aside0.mk H
    clear H
    go_upto_region 6 with (fail)
    go_cut [14] (fun v14 wc => ∃ (kq : Nat) (x14_5 : Bool), v14 = .bool x14_5 ∧ Aside0 (spec_l4Rune.j0 kq a0 (bt a0 0) 0 0 x14_5 = some (r1, r2)) ∧ Aside0 (kq ≤ k) ∧ Drawn0 w wc)
    case first =>
     have H := HC6.out
     clear HC6
     by_cases c7 : (bt a0 0) ≥ 194
     ·rw [if_pos c7] at H
      have c7b0 : decide (194 ≤ (bt a0 0)) = true := decide_eq_true c7
      clear c7
      (first | rw [c7b0] | (simp only [i64_w, i32_w]; rw [c7b0]) | skip)
      have H' := Aside0.mk H
      clear H
      go_wp2
      go_meet
      case rel => exact ⟨_, (decide ((bt a0 0) ≤ 223)), sv_, H', ⟨by first | omega | exact Nat.le_refl _⟩, by repeat (first | exact Drawn0.refl _ | apply Drawn0.step)⟩
     ·rw [if_neg c7] at H
      have c7b0 : decide (194 ≤ (bt a0 0)) = false := decide_eq_false c7
      clear c7
      (first | rw [c7b0] | (simp only [i64_w, i32_w]; rw [c7b0]) | skip)
      have H' := Aside0.mk H
      clear H
      go_wp2
      go_meet
      case rel => exact ⟨_, (false), sv_, H', ⟨by first | omega | exact Nat.le_refl _⟩, by repeat (first | exact Drawn0.refl _ | apply Drawn0.step)⟩
    case rest =>
     clear HC6
     (try clear c2);(try clear c2b0 c2b1);(try clear p2);(try clear c3);(try clear p3);(try clear q3);(try clear hx3);(try clear qi3);(try clear c4);(try clear c4b0);(try clear p6);(try clear c7);(try clear c7b0);(try clear p3);(try clear q3)
     obtain ⟨kq, x14_5, rfl, HA, HJ5, ⟨mc5, rfl⟩⟩ := hcut
     cases kq with
     | zero => exact absurd HA.out (by simp [spec_l4Rune.j0])
     | succ kj5 =>
      have H := HA.out
      clear HA
      simp only [spec_l4Rune.j0] at H
      by_cases c8 : x14_5 = true
      ·subst c8
       have H1 : (spec_l4Rune.j2 kj5 a0 2 (wrap64 ((wrap64 ((bt a0 0))) - 192))) = some (r1, r2) := by rw [if_pos rfl] at H; exact H
       clear H
       have H := H1
       clear H1
       have H' := Aside0.mk H
       clear H
       go_wp2
       go_meet
       case rel => exact ⟨_, (2), (wrap64 ((wrap64 ((bt a0 0))) - 192)), sv_, sv_, H', ⟨by have := HJ5.out; first | omega | exact Nat.le_refl _⟩, by repeat (first | exact Drawn0.refl _ | apply Drawn0.step)⟩
      ·replace c8 := Bool.eq_false_iff.mpr c8
       subst c8
       have H1 : (if (bt a0 0) ≥ 224 then (spec_l4Rune.j1 kj5 a0 (bt a0 0) 0 0 (decide ((bt a0 0) ≤ 239))) else (spec_l4Rune.j1 kj5 a0 (bt a0 0) 0 0 false)) = some (r1, r2) := by rw [if_neg (show ¬ (false = true) by decide)] at H; exact H
       clear H
       have H := H1
       clear H1
       have HC9 := Aside0.mk H
       clear H
       go_upto_region 9 with (fail)
       go_cut [24] (fun v24 wc => ∃ (kq : Nat) (x24_8 : Bool), v24 = .bool x24_8 ∧ Aside0 (spec_l4Rune.j1 kq a0 (bt a0 0) 0 0 x24_8 = some (r1, r2)) ∧ Aside0 (kq ≤ kj5) ∧ Drawn0 w wc)
       case first =>
        have H := HC9.out
        clear HC9
        by_cases c10 : (bt a0 0) ≥ 224
        ·rw [if_pos c10] at H
         have c10b0 : decide (224 ≤ (bt a0 0)) = true := decide_eq_true c10
         clear c10
         (first | rw [c10b0] | (simp only [i64_w, i32_w]; rw [c10b0]) | skip)
         have H' := Aside0.mk H
         clear H
         go_wp2
         go_meet
         case rel => exact ⟨_, (decide ((bt a0 0) ≤ 239)), sv_, H', ⟨by have := HJ5.out; first | omega | exact Nat.le_refl _⟩, by repeat (first | exact Drawn0.refl _ | apply Drawn0.step)⟩
        ·rw [if_neg c10] at H
         have c10b0 : decide (224 ≤ (bt a0 0)) = false := decide_eq_false c10
         clear c10
         (first | rw [c10b0] | (simp only [i64_w, i32_w]; rw [c10b0]) | skip)
         have H' := Aside0.mk H
         clear H
         go_wp2
         go_meet
         case rel => exact ⟨_, (false), sv_, H', ⟨by have := HJ5.out; first | omega | exact Nat.le_refl _⟩, by repeat (first | exact Drawn0.refl _ | apply Drawn0.step)⟩
       case rest =>
        clear HC9
        (try clear c1);(try clear c2);(try clear c2b0 c2b1);(try clear p2);(try clear c3);(try clear p3);(try clear q3);(try clear hx3);(try clear qi3);(try clear c4);(try clear c4b0);(try clear c5);(try clear p6);(try clear c7);(try clear c7b0);(try clear c8);(try clear c10);(try clear c10b0);(try clear p2);(try clear p3);(try clear p6);(try clear q3)
        obtain ⟨kq, x24_8, rfl, HA, HJ8, ⟨mc8, rfl⟩⟩ := hcut
        cases kq with
        | zero => exact absurd HA.out (by simp [spec_l4Rune.j1])
        | succ kj8 =>
         have H := HA.out
         clear HA
         simp only [spec_l4Rune.j1] at H
         by_cases c11 : x24_8 = true
         ·subst c11
          have H1 : (spec_l4Rune.j2 kj8 a0 3 (wrap64 ((wrap64 ((bt a0 0))) - 224))) = some (r1, r2) := by rw [if_pos rfl] at H; exact H
          clear H
          have H := H1
          clear H1
          have H' := Aside0.mk H
          clear H
          go_wp2
          go_meet
          case rel => exact ⟨_, (3), (wrap64 ((wrap64 ((bt a0 0))) - 224)), sv_, sv_, H', ⟨by have := HJ5.out; have := HJ8.out; first | omega | exact Nat.le_refl _⟩, by repeat (first | exact Drawn0.refl _ | apply Drawn0.step)⟩
         ·replace c11 := Bool.eq_false_iff.mpr c11
          subst c11
          have H1 : (if (bt a0 0) ≥ 240 then (if (bt a0 0) ≤ 244 then (spec_l4Rune.j2 kj8 a0 4 (wrap64 ((wrap64 ((bt a0 0))) - 240))) else (spec_l4Rune.j2 kj8 a0 0 0)) else (spec_l4Rune.j2 kj8 a0 0 0)) = some (r1, r2) := by rw [if_neg (show ¬ (false = true) by decide)] at H; exact H
          clear H
          have H := H1
          clear H1
          by_cases c12 : (bt a0 0) ≥ 240
          ·rw [if_pos c12] at H
           have c12b0 : decide (240 ≤ (bt a0 0)) = true := decide_eq_true c12
           clear c12
           by_cases c13 : (bt a0 0) ≤ 244
           ·rw [if_pos c13] at H
            have c13b0 : decide ((bt a0 0) ≤ 244) = true := decide_eq_true c13
            clear c13
            have H' := Aside0.mk H
            clear H
            go_wp2
            go_meet
            case rel => exact ⟨_, (4), (wrap64 ((wrap64 ((bt a0 0))) - 240)), sv_, sv_, H', ⟨by have := HJ5.out; have := HJ8.out; first | omega | exact Nat.le_refl _⟩, by repeat (first | exact Drawn0.refl _ | apply Drawn0.step)⟩
           ·rw [if_neg c13] at H
            have c13b0 : decide ((bt a0 0) ≤ 244) = false := decide_eq_false c13
            clear c13
            have H' := Aside0.mk H
            clear H
            go_wp2
            go_meet
            case rel => exact ⟨_, (0), (0), sv_, sv_, H', ⟨by have := HJ5.out; have := HJ8.out; first | omega | exact Nat.le_refl _⟩, by repeat (first | exact Drawn0.refl _ | apply Drawn0.step)⟩
          ·rw [if_neg c12] at H
           have c12b0 : decide (240 ≤ (bt a0 0)) = false := decide_eq_false c12
           clear c12
           have H' := Aside0.mk H
           clear H
           go_wp2
           go_meet
           case rel => exact ⟨_, (0), (0), sv_, sv_, H', ⟨by have := HJ5.out; have := HJ8.out; first | omega | exact Nat.le_refl _⟩, by repeat (first | exact Drawn0.refl _ | apply Drawn0.step)⟩
   case rest =>
    clear HC5
    (try clear c1);(try clear c2);(try clear c2b0 c2b1);(try clear p2);(try clear c3);(try clear p3);(try clear q3);(try clear hx3);(try clear qi3);(try clear c4);(try clear c4b0);(try clear c5);(try clear p6);(try clear c7);(try clear c7b0);(try clear c8);(try clear c10);(try clear c10b0);(try clear c11);(try clear c12);(try clear c12b0);(try clear c13);(try clear c13b0);(try clear p2);(try clear p3);(try clear p6);(try clear q3)
    obtain ⟨kq, x5_4, x6_4, rfl, rfl, HA, HJ4, ⟨mc4, rfl⟩⟩ := hcut
    cases kq with
    | zero => exact absurd HA.out (by simp [spec_l4Rune.j2])
    | succ kj4 =>
     have H := HA.out
     clear HA
     simp only [spec_l4Rune.j2] at H
     have HC14 := Aside0.mk H
     clear H
     go_upto_region 15 with (fail)
     go_cut [51] (fun v51 wc => ∃ (kq : Nat) (x51_13 : Bool), v51 = .bool x51_13 ∧ Aside0 (spec_l4Rune.j3 kq a0 x5_4 x6_4 x51_13 = some (r1, r2)) ∧ Aside0 (kq ≤ kj4) ∧ Drawn0 w wc)
     case first =>
      have H := HC14.out
      clear HC14
      by_cases c15 : x5_4 = 0
      ·rw [if_pos c15] at H
       have c15b0 : (x5_4 == 0) = true := beq_iff_eq.mpr c15
       have c15b1 : (x5_4 != 0) = false := bne_eq_false_iff_eq.mpr c15
       clear c15
       (first | rw [c15b0] | (simp only [i64_w, i32_w]; rw [c15b0]) | skip)
       have H' := Aside0.mk H
       clear H
       go_wp2
       go_meet
       case rel => exact ⟨_, (true), sv_, H', ⟨by have := HJ4.out; first | omega | exact Nat.le_refl _⟩, by repeat (first | exact Drawn0.refl _ | apply Drawn0.step)⟩
      ·rw [if_neg c15] at H
       have c15b0 : (x5_4 == 0) = false := beq_eq_false_iff_ne.mpr c15
       have c15b1 : (x5_4 != 0) = true := bne_iff_ne.mpr c15
       (first | rw [c15b0] | (simp only [i64_w, i32_w]; rw [c15b0]) | skip)
       have H' := Aside0.mk H
       clear H
       go_wp2
       go_meet
       case rel => exact ⟨_, (decide ((a0.size : Int) < x5_4)), sv_, H', ⟨by have := HJ4.out; first | omega | exact Nat.le_refl _⟩, by repeat (first | exact Drawn0.refl _ | apply Drawn0.step)⟩
     case rest =>
      clear HC14
      (try clear c1);(try clear c2);(try clear c2b0 c2b1);(try clear p2);(try clear c3);(try clear p3);(try clear q3);(try clear hx3);(try clear qi3);(try clear c4);(try clear c4b0);(try clear c5);(try clear p6);(try clear c7);(try clear c7b0);(try clear c8);(try clear c10);(try clear c10b0);(try clear c11);(try clear c12);(try clear c12b0);(try clear c13);(try clear c13b0);(try clear c15);(try clear c15b0 c15b1);(try clear p2);(try clear p3);(try clear p6);(try clear q3)
      obtain ⟨kq, x51_13, rfl, HA, HJ13, ⟨mc13, rfl⟩⟩ := hcut
      cases kq with
      | zero => exact absurd HA.out (by simp [spec_l4Rune.j3])
      | succ kj13 =>
       have H := HA.out
       clear HA
       simp only [spec_l4Rune.j3] at H
       by_cases c16 : x51_13 = true
       ·subst c16
        have H1 : (some ((-1), 1)) = some (r1, r2) := by rw [if_pos rfl] at H; exact H
        clear H
        have H := H1
        clear H1
        simp only [Option.some.injEq, Prod.mk.injEq] at H
        obtain ⟨rfl, rfl⟩ := H
        go_wp2
        go_ret2
        exact ⟨by first | rfl | (simp; done) | (simp [*]; done), by repeat (first | exact Drawn0.refl _ | apply Drawn0.step)⟩
       ·replace c16 := Bool.eq_false_iff.mpr c16
        subst c16
        have H1 : (spec_l4Rune.l0 kj13 a0 x5_4 x6_4 1) = some (r1, r2) := by rw [if_neg (show ¬ (false = true) by decide)] at H; exact H
        clear H
        have H := H1
        clear H1
        have H' := Aside0.mk H
        clear H
        go_wp2
        go_loopg [6, 7] kj13 (fun kq v6 v7 w' => ∃ (x6_3 : Int) (x7_3 : Int), v6 = .int .i64 x6_3 ∧ v7 = .int .i64 x7_3 ∧ Aside0 (spec_l4Rune.l0 kq a0 x5_4 x6_3 x7_3 = some (r1, r2)) ∧ Aside0 (kq ≤ kj13) ∧ Drawn0 w w')
        case atStart => exact ⟨(x6_4), (1), sv_, sv_, H', ⟨Nat.le_refl _⟩, by repeat (first | exact Drawn0.refl _ | apply Drawn0.step)⟩
        case round =>
         clear H'
         (try clear c1);(try clear c2);(try clear c2b0 c2b1);(try clear p2);(try clear c3);(try clear p3);(try clear q3);(try clear hx3);(try clear qi3);(try clear c4);(try clear c4b0);(try clear c5);(try clear p6);(try clear c7);(try clear c7b0);(try clear c8);(try clear c10);(try clear c10b0);(try clear c11);(try clear c12);(try clear c12b0);(try clear c13);(try clear c13b0);(try clear c15);(try clear c15b0 c15b1);(try clear c16);(try clear p2);(try clear p3);(try clear p6);(try clear q3)
         obtain ⟨x6_3, x7_3, rfl, rfl, HA, HK3, ⟨m3, rfl⟩⟩ := hrel
         cases gk with
         | zero => exact absurd HA.out (by simp [spec_l4Rune.l0])
         | succ k3 =>
          have H := HA.out
          clear HA
          simp only [spec_l4Rune.l0] at H
          by_cases c17 : x7_3 < x5_4
          ·rw [if_pos c17] at H
           have c17b0 : decide (x7_3 < x5_4) = true := decide_eq_true c17
           clear c17
           by_cases c18 : 0 ≤ x7_3
           ·rw [if_pos c18] at H
            have c18b0 : decide (0 ≤ x7_3) = true := decide_eq_true c18
            clear c18
            by_cases c19 : x7_3 < (a0.size : Int)
            ·rw [if_pos c19] at H
             have c19b0 : decide (x7_3 < (a0.size : Int)) = true := decide_eq_true c19
             clear c19
             by_cases c21 : (bt a0 x7_3) < 128
             ·rw [if_pos c21] at H
              have c21b0 : decide ((bt a0 x7_3) < 128) = true := decide_eq_true c21
              clear c21
              simp only [Option.some.injEq, Prod.mk.injEq] at H
              obtain ⟨rfl, rfl⟩ := H
              have p20 : 0 ≤ (x7_3 : Int) := of_decide_eq_true am_
              have q20 : x7_3 < (a0.size : Int) := of_decide_eq_true am_
              have hx20 := bt_at a0 x7_3
              replace p20 := eq_true p20
              replace q20 := eq_true q20
              go_wp2
              go_ret2
              exact ⟨by first | rfl | (simp; done) | (simp [*]; done), by repeat (first | exact Drawn0.refl _ | apply Drawn0.step)⟩
             ·rw [if_neg c21] at H
              have c21b0 : decide ((bt a0 x7_3) < 128) = false := decide_eq_false c21
              clear c21
              by_cases c23 : (bt a0 x7_3) > 191
              ·rw [if_pos c23] at H
               have c23b0 : decide (191 < (bt a0 x7_3)) = true := decide_eq_true c23
               clear c23
               simp only [Option.some.injEq, Prod.mk.injEq] at H
               obtain ⟨rfl, rfl⟩ := H
               have p20 : 0 ≤ (x7_3 : Int) := of_decide_eq_true am_
               have q20 : x7_3 < (a0.size : Int) := of_decide_eq_true am_
               have hx20 := bt_at a0 x7_3
               replace p20 := eq_true p20
               replace q20 := eq_true q20
               have p22 : 0 ≤ (x7_3 : Int) := of_decide_eq_true am_
               have q22 : x7_3 < (a0.size : Int) := of_decide_eq_true am_
               have hx22 := bt_at a0 x7_3
               replace p22 := eq_true p22
               replace q22 := eq_true q22
               go_wp2
               go_ret2
               exact ⟨by first | rfl | (simp; done) | (simp [*]; done), by repeat (first | exact Drawn0.refl _ | apply Drawn0.step)⟩
              ·rw [if_neg c23] at H
               have c23b0 : decide (191 < (bt a0 x7_3)) = false := decide_eq_false c23
               clear c23
               have H' := Aside0.mk H
               clear H
               have p20 : 0 ≤ (x7_3 : Int) := of_decide_eq_true am_
               have q20 : x7_3 < (a0.size : Int) := of_decide_eq_true am_
               have hx20 := bt_at a0 x7_3
               replace p20 := eq_true p20
               replace q20 := eq_true q20
               have p22 : 0 ≤ (x7_3 : Int) := of_decide_eq_true am_
               have q22 : x7_3 < (a0.size : Int) := of_decide_eq_true am_
               have hx22 := bt_at a0 x7_3
               replace p22 := eq_true p22
               replace q22 := eq_true q22
               have p24 : 0 ≤ (x7_3 : Int) := of_decide_eq_true am_
               have q24 : x7_3 < (a0.size : Int) := of_decide_eq_true am_
               have hx24 := bt_at a0 x7_3
               replace p24 := eq_true p24
               replace q24 := eq_true q24
               go_wp2
               go_roundg k3
               case measure => have := HJ4.out; have := HJ13.out; have := HK3.out; omega
               case rel => exact ⟨(wrap64 ((wrap64 ((wrap64 (x6_3 * 64)) + (wrap64 (bt a0 x7_3)))) - 128)), (wrap64 (x7_3 + 1)), sv_, sv_, H', ⟨by have := HJ4.out; have := HJ13.out; have := HK3.out; omega⟩, by repeat (first | exact Drawn0.refl _ | apply Drawn0.step)⟩
            ·rw [if_neg c19] at H
             exact absurd H (by simp)
           ·rw [if_neg c18] at H
            exact absurd H (by simp)
          ·rw [if_neg c17] at H
           have c17b0 : decide (x7_3 < x5_4) = false := decide_eq_false c17
           clear c17
           by_cases c25 : x5_4 = 3
           ·rw [if_pos c25] at H
            have c25b0 : (x5_4 == 3) = true := beq_iff_eq.mpr c25
            have c25b1 : (x5_4 != 3) = false := bne_eq_false_iff_eq.mpr c25
            clear c25
            by_cases c26 : x6_3 < 2048
            ·rw [if_pos c26] at H
             have c26b0 : decide (x6_3 < 2048) = true := decide_eq_true c26
             clear c26
             simp only [Option.some.injEq, Prod.mk.injEq] at H
             obtain ⟨rfl, rfl⟩ := H
             go_wp2
             go_ret2
             exact ⟨by first | rfl | (simp; done) | (simp [*]; done), by repeat (first | exact Drawn0.refl _ | apply Drawn0.step)⟩
            ·rw [if_neg c26] at H
             have c26b0 : decide (x6_3 < 2048) = false := decide_eq_false c26
             clear c26
             replace H := Option.bind_eq_some_iff.mp H
             obtain ⟨t113, A270, H⟩ := H
             replace H : (if t113 = true then (some ((-1), 1)) else (if x5_4 = 4 then ((spec_l1In.f x6_3 65536 1114111).bind fun t114 => (if t114 = true then (some (x6_3, x5_4)) else (some ((-1), 1)))) else (some (x6_3, x5_4)))) = some (r1, r2) := H
             have A27 := Aside0.mk A270
             clear A270
             by_cases c28 : t113 = true
             ·subst c28
              have H1 : (some ((-1), 1)) = some (r1, r2) := by rw [if_pos rfl] at H; exact H
              clear H
              have H := H1
              clear H1
              simp only [Option.some.injEq, Prod.mk.injEq] at H
              obtain ⟨rfl, rfl⟩ := H
              go_wp2_with (first | (go_at_call 17; (with_reducible refine (spec_l1In.calls x6_3 55296 57343 true _ A27.out).mono ?_); rintro e w' ⟨rfl, ⟨nd, rfl⟩⟩))
              go_ret2
              exact ⟨by first | rfl | (simp; done) | (simp [*]; done), by repeat (first | exact Drawn0.refl _ | apply Drawn0.step)⟩
             ·replace c28 := Bool.eq_false_iff.mpr c28
              subst c28
              have H1 : (if x5_4 = 4 then ((spec_l1In.f x6_3 65536 1114111).bind fun t114 => (if t114 = true then (some (x6_3, x5_4)) else (some ((-1), 1)))) else (some (x6_3, x5_4))) = some (r1, r2) := by rw [if_neg (show ¬ (false = true) by decide)] at H; exact H
              clear H
              have H := H1
              clear H1
              by_cases c29 : x5_4 = 4
              ·rw [if_pos c29] at H
               have c29b0 : (x5_4 == 4) = true := beq_iff_eq.mpr c29
               have c29b1 : (x5_4 != 4) = false := bne_eq_false_iff_eq.mpr c29
               clear c29
               replace H := Option.bind_eq_some_iff.mp H
               obtain ⟨t114, A300, H⟩ := H
               replace H : (if t114 = true then (some (x6_3, x5_4)) else (some ((-1), 1))) = some (r1, r2) := H
               have A30 := Aside0.mk A300
               clear A300
               by_cases c31 : t114 = true
               ·subst c31
                have H1 : (some (x6_3, x5_4)) = some (r1, r2) := by rw [if_pos rfl] at H; exact H
                clear H
                have H := H1
                clear H1
                simp only [Option.some.injEq, Prod.mk.injEq] at H
                obtain ⟨rfl, rfl⟩ := H
                go_wp2_with (first | (go_at_call 17; (with_reducible refine (spec_l1In.calls x6_3 55296 57343 false _ A27.out).mono ?_); rintro e w' ⟨rfl, ⟨nd, rfl⟩⟩) | (go_at_call 17; (with_reducible refine (spec_l1In.calls x6_3 65536 1114111 true _ A30.out).mono ?_); rintro e w' ⟨rfl, ⟨nd, rfl⟩⟩))
                go_ret2
                exact ⟨by first | rfl | (simp; done) | (simp [*]; done), by repeat (first | exact Drawn0.refl _ | apply Drawn0.step)⟩
               ·replace c31 := Bool.eq_false_iff.mpr c31
                subst c31
                have H1 : (some ((-1), 1)) = some (r1, r2) := by rw [if_neg (show ¬ (false = true) by decide)] at H; exact H
                clear H
                have H := H1
                clear H1
                simp only [Option.some.injEq, Prod.mk.injEq] at H
                obtain ⟨rfl, rfl⟩ := H
                go_wp2_with (first | (go_at_call 17; (with_reducible refine (spec_l1In.calls x6_3 55296 57343 false _ A27.out).mono ?_); rintro e w' ⟨rfl, ⟨nd, rfl⟩⟩) | (go_at_call 17; (with_reducible refine (spec_l1In.calls x6_3 65536 1114111 false _ A30.out).mono ?_); rintro e w' ⟨rfl, ⟨nd, rfl⟩⟩))
                go_ret2
                exact ⟨by first | rfl | (simp; done) | (simp [*]; done), by repeat (first | exact Drawn0.refl _ | apply Drawn0.step)⟩
              ·rw [if_neg c29] at H
               have c29b0 : (x5_4 == 4) = false := beq_eq_false_iff_ne.mpr c29
               have c29b1 : (x5_4 != 4) = true := bne_iff_ne.mpr c29
               simp only [Option.some.injEq, Prod.mk.injEq] at H
               obtain ⟨rfl, rfl⟩ := H
               go_wp2_with (first | (go_at_call 17; (with_reducible refine (spec_l1In.calls x6_3 55296 57343 false _ A27.out).mono ?_); rintro e w' ⟨rfl, ⟨nd, rfl⟩⟩))
               go_ret2
               exact ⟨by first | rfl | (simp; done) | (simp [*]; done), by repeat (first | exact Drawn0.refl _ | apply Drawn0.step)⟩
           ·rw [if_neg c25] at H
            have c25b0 : (x5_4 == 3) = false := beq_eq_false_iff_ne.mpr c25
            have c25b1 : (x5_4 != 3) = true := bne_iff_ne.mpr c25
            by_cases c32 : x5_4 = 4
            ·rw [if_pos c32] at H
             have c32b0 : (x5_4 == 4) = true := beq_iff_eq.mpr c32
             have c32b1 : (x5_4 != 4) = false := bne_eq_false_iff_eq.mpr c32
             clear c32
             replace H := Option.bind_eq_some_iff.mp H
             obtain ⟨t115, A330, H⟩ := H
             replace H : (if t115 = true then (some (x6_3, x5_4)) else (some ((-1), 1))) = some (r1, r2) := H
             have A33 := Aside0.mk A330
             clear A330
             by_cases c34 : t115 = true
             ·subst c34
              have H1 : (some (x6_3, x5_4)) = some (r1, r2) := by rw [if_pos rfl] at H; exact H
              clear H
              have H := H1
              clear H1
              simp only [Option.some.injEq, Prod.mk.injEq] at H
              obtain ⟨rfl, rfl⟩ := H
              go_wp2_with (first | (go_at_call 17; (with_reducible refine (spec_l1In.calls x6_3 65536 1114111 true _ A33.out).mono ?_); rintro e w' ⟨rfl, ⟨nd, rfl⟩⟩))
              go_ret2
              exact ⟨by first | rfl | (simp; done) | (simp [*]; done), by repeat (first | exact Drawn0.refl _ | apply Drawn0.step)⟩
             ·replace c34 := Bool.eq_false_iff.mpr c34
              subst c34
              have H1 : (some ((-1), 1)) = some (r1, r2) := by rw [if_neg (show ¬ (false = true) by decide)] at H; exact H
              clear H
              have H := H1
              clear H1
              simp only [Option.some.injEq, Prod.mk.injEq] at H
              obtain ⟨rfl, rfl⟩ := H
              go_wp2_with (first | (go_at_call 17; (with_reducible refine (spec_l1In.calls x6_3 65536 1114111 false _ A33.out).mono ?_); rintro e w' ⟨rfl, ⟨nd, rfl⟩⟩))
              go_ret2
              exact ⟨by first | rfl | (simp; done) | (simp [*]; done), by repeat (first | exact Drawn0.refl _ | apply Drawn0.step)⟩
            ·rw [if_neg c32] at H
             have c32b0 : (x5_4 == 4) = false := beq_eq_false_iff_ne.mpr c32
             have c32b1 : (x5_4 != 4) = true := bne_iff_ne.mpr c32
             simp only [Option.some.injEq, Prod.mk.injEq] at H
             obtain ⟨rfl, rfl⟩ := H
             go_wp2
             go_ret2
             exact ⟨by first | rfl | (simp; done) | (simp [*]; done), by repeat (first | exact Drawn0.refl _ | apply Drawn0.step)⟩
 ·rw [if_neg c2] at H
  exact absurd H (by simp)

/-! ### spec_l4May: function 36 -/
def spec_l4May.f (a0 : Int) : Option (Bool) := if a0 = 9 then (some true) else (if a0 = 10 then (some true) else (if a0 = 13 then (some true) else (some (decide (a0 ≥ 32)))))
set_option maxHeartbeats 8000000 in
set_option maxRecDepth 100000 in
theorem spec_l4May.calls (a0 : Int) (r : Bool) (w : World) (h : spec_l4May.f a0 = some r) :
  Calls Tryz.prog 36 #[.int .i64 a0] w fun e w' => e = .returned (.bool r) ∧ Drawn0 w w' := by
 have H : (if a0 = 9 then (some true) else (if a0 = 10 then (some true) else (if a0 = 13 then (some true) else (some (decide (a0 ≥ 32)))))) = some r := h
 clear h
 by_cases c2 : a0 = 9
 ·rw [if_pos c2] at H
  have c2b0 : (a0 == 9) = true := beq_iff_eq.mpr c2
  have c2b1 : (a0 != 9) = false := bne_eq_false_iff_eq.mpr c2
  clear c2
  obtain rfl := Option.some.inj H
  go_enter Tryz.func36, Tryz.ntmps36
  go_wp2
  go_ret
  exact ⟨by first | rfl | (simp; done) | (simp [*]; done), by repeat (first | exact Drawn0.refl _ | apply Drawn0.step)⟩
 ·rw [if_neg c2] at H
  have c2b0 : (a0 == 9) = false := beq_eq_false_iff_ne.mpr c2
  have c2b1 : (a0 != 9) = true := bne_iff_ne.mpr c2
  by_cases c3 : a0 = 10
  ·rw [if_pos c3] at H
   have c3b0 : (a0 == 10) = true := beq_iff_eq.mpr c3
   have c3b1 : (a0 != 10) = false := bne_eq_false_iff_eq.mpr c3
   clear c3
   obtain rfl := Option.some.inj H
   go_enter Tryz.func36, Tryz.ntmps36
   go_wp2
   go_ret
   exact ⟨by first | rfl | (simp; done) | (simp [*]; done), by repeat (first | exact Drawn0.refl _ | apply Drawn0.step)⟩
  ·rw [if_neg c3] at H
   have c3b0 : (a0 == 10) = false := beq_eq_false_iff_ne.mpr c3
   have c3b1 : (a0 != 10) = true := bne_iff_ne.mpr c3
   by_cases c4 : a0 = 13
   ·rw [if_pos c4] at H
    have c4b0 : (a0 == 13) = true := beq_iff_eq.mpr c4
    have c4b1 : (a0 != 13) = false := bne_eq_false_iff_eq.mpr c4
    clear c4
    obtain rfl := Option.some.inj H
    go_enter Tryz.func36, Tryz.ntmps36
    go_wp2
    go_ret
    exact ⟨by first | rfl | (simp; done) | (simp [*]; done), by repeat (first | exact Drawn0.refl _ | apply Drawn0.step)⟩
   ·rw [if_neg c4] at H
    have c4b0 : (a0 == 13) = false := beq_eq_false_iff_ne.mpr c4
    have c4b1 : (a0 != 13) = true := bne_iff_ne.mpr c4
    obtain rfl := Option.some.inj H
    go_enter Tryz.func36, Tryz.ntmps36
    go_wp2
    go_ret
    exact ⟨by first | rfl | (simp; done) | (simp [*]; done), by repeat (first | exact Drawn0.refl _ | apply Drawn0.step)⟩

end Go.Proofs.YthfbpmjcjiihnaaGreatDoor.PFnExactMarksText
