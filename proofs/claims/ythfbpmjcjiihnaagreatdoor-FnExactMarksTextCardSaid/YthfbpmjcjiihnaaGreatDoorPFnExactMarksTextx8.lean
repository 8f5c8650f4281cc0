-- Laid by a program of this session out of the translation (its own run of the print). Lean checks it.
import Derived.Test.YthfbpmjcjiihnaaGreatDoorPFnExactMarksTextx0
import Derived.Test.YthfbpmjcjiihnaaGreatDoorPFnExactMarksTextx7
namespace Go.Proofs.YthfbpmjcjiihnaaGreatDoor.PFnExactMarksText
open Go.RowKit Go.Proofs.YthfbpmjcjiihnaaGreatDoorW.PrintWords Go.Proofs.YthfbpmjcjiihnaaGreatDoorW.PrintLast Go.Proofs.YthfbpmjcjiihnaaGreatDoorW.PrintMore
attribute [local go_sem] max2_int min2_int max_two min_two max_three min_three max_four min_four   -- for this text's walks alone
set_option linter.unusedVariables false
set_option linter.unusedSimpArgs false

/-! ### impl_nameEnd: function 41 -/
mutual
def impl_nameEnd.j0 : Nat → ByteArray → Int → Bool → Option (Int)
 | 0, _, _, _ => none
 | k + 1, x0, x1, x15 => if x15 = true then (some x1) else (impl_nameEnd.l0 k x0 x1)
def impl_nameEnd.l0 : Nat → ByteArray → Int → Option (Int)
 | 0, _, _ => none
 | k + 1, x0, x1 => if x1 < (x0.size : Int) then (if 0 ≤ x1 then ((impl_mayBegin.f (bt x0 x1)).bind fun t199 => (if t199 = true then (impl_nameEnd.l0 k x0 (wrap64 (x1 + 1))) else ((impl_isDigit.f (bt x0 x1)).bind fun t200 => (if t200 = true then (impl_nameEnd.l0 k x0 (wrap64 (x1 + 1))) else (if (bt x0 x1) = 45 then (impl_nameEnd.l0 k x0 (wrap64 (x1 + 1))) else (if (bt x0 x1) = 58 then (impl_nameEnd.l0 k x0 (wrap64 (x1 + 1))) else (if (bt x0 x1) = 46 then (impl_nameEnd.l0 k x0 (wrap64 (x1 + 1))) else (some x1)))))))) else (none)) else (some x1)
end
def impl_nameEnd.f (k : Nat) (a0 : ByteArray) (a1 : Int) : Option (Int) := if a1 ≥ (a0.size : Int) then (impl_nameEnd.j0 k a0 a1 true) else (if 0 ≤ a1 then (if a1 < (a0.size : Int) then ((impl_mayBegin.f (bt a0 a1)).bind fun t198 => (impl_nameEnd.j0 k a0 a1 (!t198))) else (none)) else (none))
set_option maxHeartbeats 8000000 in
set_option maxRecDepth 100000 in
theorem impl_nameEnd.calls (k : Nat) (a0 : ByteArray) (a1 : Int) (r : Int) (w : World) (h : impl_nameEnd.f k a0 a1 = some r) :
  Calls Tryz.prog 41 #[.string a0, .int .i64 a1] w fun e w' => e = .returned (.int .i64 r) ∧ Drawn0 w w' := by
 have H : (if a1 ≥ (a0.size : Int) then (impl_nameEnd.j0 k a0 a1 true) else (if 0 ≤ a1 then (if a1 < (a0.size : Int) then ((impl_mayBegin.f (bt a0 a1)).bind fun t198 => (impl_nameEnd.j0 k a0 a1 (!t198))) else (none)) else (none))) = some r := h
 clear h
 have HC3 := Aside0.mk H
 clear H
 go_enter Tryz.func41, Tryz.ntmps41
 go_upto_region 1 with (fail)
 go_cut [15] (fun v15 wc => ∃ (kq : Nat) (x15_2 : Bool), v15 = .bool x15_2 ∧ Aside0 (impl_nameEnd.j0 kq a0 a1 x15_2 = some r) ∧ Aside0 (kq ≤ k) ∧ Drawn0 w wc)
 case first =>
  have H := HC3.out
  clear HC3
  by_cases c4 : a1 ≥ (a0.size : Int)
  ·rw [if_pos c4] at H
   have c4b0 : decide ((a0.size : Int) ≤ a1) = true := decide_eq_true c4
   clear c4
   (first | rw [c4b0] | (simp only [i64_w, i32_w]; rw [c4b0]) | skip)
   have H' := Aside0.mk H
   clear H
   go_wp2
   go_meet
   case rel => exact ⟨_, (true), sv_, H', ⟨by first | omega | exact Nat.le_refl _⟩, by repeat (first | exact Drawn0.refl _ | apply Drawn0.step)⟩
  ·rw [if_neg c4] at H
   have c4b0 : decide ((a0.size : Int) ≤ a1) = false := decide_eq_false c4
   clear c4
   (first | rw [c4b0] | (simp only [i64_w, i32_w]; rw [c4b0]) | skip)
   by_cases c5 : 0 ≤ a1
   ·rw [if_pos c5] at H
    have c5b0 : decide (0 ≤ a1) = true := decide_eq_true c5
    clear c5
    by_cases c6 : a1 < (a0.size : Int)
    ·rw [if_pos c6] at H
     have c6b0 : decide (a1 < (a0.size : Int)) = true := decide_eq_true c6
     clear c6
     replace H := Option.bind_eq_some_iff.mp H
     obtain ⟨t198, A80, H⟩ := H
     replace H : (impl_nameEnd.j0 k a0 a1 (!t198)) = some r := H
     have A8 := Aside0.mk A80
     clear A80
     have H' := Aside0.mk H
     clear H
     have p7 : 0 ≤ (a1 : Int) := of_decide_eq_true am_
     have q7 : a1 < (a0.size : Int) := of_decide_eq_true am_
     have hx7 := bt_at a0 a1
     replace p7 := eq_true p7
     replace q7 := eq_true q7
     go_wp2_with (first | (go_at_call 47; (with_reducible refine (impl_mayBegin.calls (bt a0 a1) t198 _ A8.out).mono ?_); rintro e w' ⟨rfl, ⟨nd, rfl⟩⟩))
     go_meet
     case rel => exact ⟨_, (!t198), sv_, H', ⟨by first | omega | exact Nat.le_refl _⟩, by repeat (first | exact Drawn0.refl _ | apply Drawn0.step)⟩
    ·rw [if_neg c6] at H
     exact absurd H (by simp)
   ·rw [if_neg c5] at H
    exact absurd H (by simp)
 case rest =>
  clear HC3
  (try clear p2);(try clear c4);(try clear c4b0);(try clear c5);(try clear c5b0);(try clear c6);(try clear c6b0);(try clear p7);(try clear q7);(try clear hx7);(try clear p7);(try clear q7)
  obtain ⟨kq, x15_2, rfl, HA, HJ2, ⟨mc2, rfl⟩⟩ := hcut
  cases kq with
  | zero => exact absurd HA.out (by simp [impl_nameEnd.j0])
  | succ kj2 =>
   have H := HA.out
   clear HA
   simp only [impl_nameEnd.j0] at H
   by_cases c9 : x15_2 = true
   ·subst c9
    have H1 : (some a1) = some r := by rw [if_pos rfl] at H; exact H
    clear H
    have H := H1
    clear H1
    obtain rfl := Option.some.inj H
    go_wp2
    go_ret
    exact ⟨by first | rfl | (simp; done) | (simp [*]; done), by repeat (first | exact Drawn0.refl _ | apply Drawn0.step)⟩
   ·replace c9 := Bool.eq_false_iff.mpr c9
    subst c9
    have H1 : (impl_nameEnd.l0 kj2 a0 a1) = some r := by rw [if_neg (show ¬ (false = true) by decide)] at H; exact H
    clear H
    have H := H1
    clear H1
    have H' := Aside0.mk H
    clear H
    go_wp2
    go_loopg [1] kj2 (fun kq v1 w' => ∃ (x1_2 : Int), v1 = .int .i64 x1_2 ∧ Aside0 (impl_nameEnd.l0 kq a0 x1_2 = some r) ∧ Aside0 (kq ≤ kj2) ∧ Drawn0 w w')
    case atStart => exact ⟨(a1), sv_, H', ⟨Nat.le_refl _⟩, by repeat (first | exact Drawn0.refl _ | apply Drawn0.step)⟩
    case round =>
     clear H'
     (try clear c2);(try clear p2);(try clear c4);(try clear c4b0);(try clear c5);(try clear c5b0);(try clear c6);(try clear c6b0);(try clear p7);(try clear q7);(try clear hx7);(try clear c9);(try clear p2);(try clear p7);(try clear q7)
     obtain ⟨x1_2, rfl, HA, HK2, ⟨m2, rfl⟩⟩ := hrel
     cases gk with
     | zero => exact absurd HA.out (by simp [impl_nameEnd.l0])
     | succ k2 =>
      have H := HA.out
      clear HA
      simp only [impl_nameEnd.l0] at H
      by_cases c10 : x1_2 < (a0.size : Int)
      ·rw [if_pos c10] at H
       have c10b0 : decide (x1_2 < (a0.size : Int)) = true := decide_eq_true c10
       clear c10
       by_cases c11 : 0 ≤ x1_2
       ·rw [if_pos c11] at H
        have c11b0 : decide (0 ≤ x1_2) = true := decide_eq_true c11
        clear c11
        replace H := Option.bind_eq_some_iff.mp H
        obtain ⟨t199, A130, H⟩ := H
        replace H : (if t199 = true then (impl_nameEnd.l0 k2 a0 (wrap64 (x1_2 + 1))) else ((impl_isDigit.f (bt a0 x1_2)).bind fun t200 => (if t200 = true then (impl_nameEnd.l0 k2 a0 (wrap64 (x1_2 + 1))) else (if (bt a0 x1_2) = 45 then (impl_nameEnd.l0 k2 a0 (wrap64 (x1_2 + 1))) else (if (bt a0 x1_2) = 58 then (impl_nameEnd.l0 k2 a0 (wrap64 (x1_2 + 1))) else (if (bt a0 x1_2) = 46 then (impl_nameEnd.l0 k2 a0 (wrap64 (x1_2 + 1))) else (some x1_2))))))) = some r := H
        have A13 := Aside0.mk A130
        clear A130
        by_cases c14 : t199 = true
        ·subst c14
         have H1 : (impl_nameEnd.l0 k2 a0 (wrap64 (x1_2 + 1))) = some r := by rw [if_pos rfl] at H; exact H
         clear H
         have H := H1
         clear H1
         have H' := Aside0.mk H
         clear H
         have p12 : 0 ≤ (x1_2 : Int) := of_decide_eq_true am_
         have q12 : x1_2 < (a0.size : Int) := of_decide_eq_true am_
         have hx12 := bt_at a0 x1_2
         replace p12 := eq_true p12
         replace q12 := eq_true q12
         go_wp2_with (first | (go_at_call 47; (with_reducible refine (impl_mayBegin.calls (bt a0 x1_2) true _ A13.out).mono ?_); rintro e w' ⟨rfl, ⟨nd, rfl⟩⟩))
         go_roundg k2
         case measure => have := HJ2.out; have := HK2.out; omega
         case rel => exact ⟨(wrap64 (x1_2 + 1)), sv_, H', ⟨by have := HJ2.out; have := HK2.out; omega⟩, by repeat (first | exact Drawn0.refl _ | apply Drawn0.step)⟩
        ·replace c14 := Bool.eq_false_iff.mpr c14
         subst c14
         have H1 : ((impl_isDigit.f (bt a0 x1_2)).bind fun t200 => (if t200 = true then (impl_nameEnd.l0 k2 a0 (wrap64 (x1_2 + 1))) else (if (bt a0 x1_2) = 45 then (impl_nameEnd.l0 k2 a0 (wrap64 (x1_2 + 1))) else (if (bt a0 x1_2) = 58 then (impl_nameEnd.l0 k2 a0 (wrap64 (x1_2 + 1))) else (if (bt a0 x1_2) = 46 then (impl_nameEnd.l0 k2 a0 (wrap64 (x1_2 + 1))) else (some x1_2)))))) = some r := by rw [if_neg (show ¬ (false = true) by decide)] at H; exact H
         clear H
         have H := H1
         clear H1
         replace H := Option.bind_eq_some_iff.mp H
         obtain ⟨t200, A160, H⟩ := H
         replace H : (if t200 = true then (impl_nameEnd.l0 k2 a0 (wrap64 (x1_2 + 1))) else (if (bt a0 x1_2) = 45 then (impl_nameEnd.l0 k2 a0 (wrap64 (x1_2 + 1))) else (if (bt a0 x1_2) = 58 then (impl_nameEnd.l0 k2 a0 (wrap64 (x1_2 + 1))) else (if (bt a0 x1_2) = 46 then (impl_nameEnd.l0 k2 a0 (wrap64 (x1_2 + 1))) else (some x1_2))))) = some r := H
         have A16 := Aside0.mk A160
         clear A160
         by_cases c17 : t200 = true
         ·subst c17
          have H1 : (impl_nameEnd.l0 k2 a0 (wrap64 (x1_2 + 1))) = some r := by rw [if_pos rfl] at H; exact H
          clear H
          have H := H1
          clear H1
          have H' := Aside0.mk H
          clear H
          have p12 : 0 ≤ (x1_2 : Int) := of_decide_eq_true am_
          have q12 : x1_2 < (a0.size : Int) := of_decide_eq_true am_
          have hx12 := bt_at a0 x1_2
          replace p12 := eq_true p12
          replace q12 := eq_true q12
          go_wp2_with (first | (go_at_call 47; (with_reducible refine (impl_mayBegin.calls (bt a0 x1_2) false _ A13.out).mono ?_); rintro e w' ⟨rfl, ⟨nd, rfl⟩⟩; have p15 : 0 ≤ (x1_2 : Int) := of_decide_eq_true am_; have q15 : x1_2 < (a0.size : Int) := of_decide_eq_true am_; have hx15 := bt_at a0 x1_2; replace p15 := eq_true p15; replace q15 := eq_true q15) | (go_at_call 48; (with_reducible refine (impl_isDigit.calls (bt a0 x1_2) true _ A16.out).mono ?_); rintro e w' ⟨rfl, ⟨nd, rfl⟩⟩))
          go_roundg k2
          case measure => have := HJ2.out; have := HK2.out; omega
          case rel => exact ⟨(wrap64 (x1_2 + 1)), sv_, H', ⟨by have := HJ2.out; have := HK2.out; omega⟩, by repeat (first | exact Drawn0.refl _ | apply Drawn0.step)⟩
         ·replace c17 := Bool.eq_false_iff.mpr c17
          subst c17
          have H1 : (if (bt a0 x1_2) = 45 then (impl_nameEnd.l0 k2 a0 (wrap64 (x1_2 + 1))) else (if (bt a0 x1_2) = 58 then (impl_nameEnd.l0 k2 a0 (wrap64 (x1_2 + 1))) else (if (bt a0 x1_2) = 46 then (impl_nameEnd.l0 k2 a0 (wrap64 (x1_2 + 1))) else (some x1_2)))) = some r := by rw [if_neg (show ¬ (false = true) by decide)] at H; exact H
          clear H
          have H := H1
          clear H1
          by_cases c19 : (bt a0 x1_2) = 45
          ·rw [if_pos c19] at H
           have c19b0 : ((bt a0 x1_2) == 45) = true := beq_iff_eq.mpr c19
           have c19b1 : ((bt a0 x1_2) != 45) = false := bne_eq_false_iff_eq.mpr c19
           clear c19
           have H' := Aside0.mk H
           clear H
           have p12 : 0 ≤ (x1_2 : Int) := of_decide_eq_true am_
           have q12 : x1_2 < (a0.size : Int) := of_decide_eq_true am_
           have hx12 := bt_at a0 x1_2
           replace p12 := eq_true p12
           replace q12 := eq_true q12
           go_wp2_with (first | (go_at_call 47; (with_reducible refine (impl_mayBegin.calls (bt a0 x1_2) false _ A13.out).mono ?_); rintro e w' ⟨rfl, ⟨nd, rfl⟩⟩; have p15 : 0 ≤ (x1_2 : Int) := of_decide_eq_true am_; have q15 : x1_2 < (a0.size : Int) := of_decide_eq_true am_; have hx15 := bt_at a0 x1_2; replace p15 := eq_true p15; replace q15 := eq_true q15) | (go_at_call 48; (with_reducible refine (impl_isDigit.calls (bt a0 x1_2) false _ A16.out).mono ?_); rintro e w' ⟨rfl, ⟨nd, rfl⟩⟩; have p18 : 0 ≤ (x1_2 : Int) := of_decide_eq_true am_; have q18 : x1_2 < (a0.size : Int) := of_decide_eq_true am_; have hx18 := bt_at a0 x1_2; replace p18 := eq_true p18; replace q18 := eq_true q18))
           go_roundg k2
           case measure => have := HJ2.out; have := HK2.out; omega
           case rel => exact ⟨(wrap64 (x1_2 + 1)), sv_, H', ⟨by have := HJ2.out; have := HK2.out; omega⟩, by repeat (first | exact Drawn0.refl _ | apply Drawn0.step)⟩
          ·rw [if_neg c19] at H
           have c19b0 : ((bt a0 x1_2) == 45) = false := beq_eq_false_iff_ne.mpr c19
           have c19b1 : ((bt a0 x1_2) != 45) = true := bne_iff_ne.mpr c19
           by_cases c21 : (bt a0 x1_2) = 58
           ·rw [if_pos c21] at H
            have c21b0 : ((bt a0 x1_2) == 58) = true := beq_iff_eq.mpr c21
            have c21b1 : ((bt a0 x1_2) != 58) = false := bne_eq_false_iff_eq.mpr c21
            clear c21
            have H' := Aside0.mk H
            clear H
            have p12 : 0 ≤ (x1_2 : Int) := of_decide_eq_true am_
            have q12 : x1_2 < (a0.size : Int) := of_decide_eq_true am_
            have hx12 := bt_at a0 x1_2
            replace p12 := eq_true p12
            replace q12 := eq_true q12
            go_wp2_with (first | (go_at_call 47; (with_reducible refine (impl_mayBegin.calls (bt a0 x1_2) false _ A13.out).mono ?_); rintro e w' ⟨rfl, ⟨nd, rfl⟩⟩; have p15 : 0 ≤ (x1_2 : Int) := of_decide_eq_true am_; have q15 : x1_2 < (a0.size : Int) := of_decide_eq_true am_; have hx15 := bt_at a0 x1_2; replace p15 := eq_true p15; replace q15 := eq_true q15) | (go_at_call 48; (with_reducible refine (impl_isDigit.calls (bt a0 x1_2) false _ A16.out).mono ?_); rintro e w' ⟨rfl, ⟨nd, rfl⟩⟩; have p18 : 0 ≤ (x1_2 : Int) := of_decide_eq_true am_; have q18 : x1_2 < (a0.size : Int) := of_decide_eq_true am_; have hx18 := bt_at a0 x1_2; replace p18 := eq_true p18; replace q18 := eq_true q18; have p20 : 0 ≤ (x1_2 : Int) := of_decide_eq_true am_; have q20 : x1_2 < (a0.size : Int) := of_decide_eq_true am_; have hx20 := bt_at a0 x1_2; replace p20 := eq_true p20; replace q20 := eq_true q20))
            go_roundg k2
            case measure => have := HJ2.out; have := HK2.out; omega
            case rel => exact ⟨(wrap64 (x1_2 + 1)), sv_, H', ⟨by have := HJ2.out; have := HK2.out; omega⟩, by repeat (first | exact Drawn0.refl _ | apply Drawn0.step)⟩
           ·rw [if_neg c21] at H
            have c21b0 : ((bt a0 x1_2) == 58) = false := beq_eq_false_iff_ne.mpr c21
            have c21b1 : ((bt a0 x1_2) != 58) = true := bne_iff_ne.mpr c21
            by_cases c23 : (bt a0 x1_2) = 46
            ·rw [if_pos c23] at H
             have c23b0 : ((bt a0 x1_2) == 46) = true := beq_iff_eq.mpr c23
             have c23b1 : ((bt a0 x1_2) != 46) = false := bne_eq_false_iff_eq.mpr c23
             clear c23
             have H' := Aside0.mk H
             clear H
             have p12 : 0 ≤ (x1_2 : Int) := of_decide_eq_true am_
             have q12 : x1_2 < (a0.size : Int) := of_decide_eq_true am_
             have hx12 := bt_at a0 x1_2
             replace p12 := eq_true p12
             replace q12 := eq_true q12
             go_wp2_with (first | (go_at_call 47; (with_reducible refine (impl_mayBegin.calls (bt a0 x1_2) false _ A13.out).mono ?_); rintro e w' ⟨rfl, ⟨nd, rfl⟩⟩; have p15 : 0 ≤ (x1_2 : Int) := of_decide_eq_true am_; have q15 : x1_2 < (a0.size : Int) := of_decide_eq_true am_; have hx15 := bt_at a0 x1_2; replace p15 := eq_true p15; replace q15 := eq_true q15) | (go_at_call 48; (with_reducible refine (impl_isDigit.calls (bt a0 x1_2) false _ A16.out).mono ?_); rintro e w' ⟨rfl, ⟨nd, rfl⟩⟩; have p18 : 0 ≤ (x1_2 : Int) := of_decide_eq_true am_; have q18 : x1_2 < (a0.size : Int) := of_decide_eq_true am_; have hx18 := bt_at a0 x1_2; replace p18 := eq_true p18; replace q18 := eq_true q18; have p20 : 0 ≤ (x1_2 : Int) := of_decide_eq_true am_; have q20 : x1_2 < (a0.size : Int) := of_decide_eq_true am_; have hx20 := bt_at a0 x1_2; replace p20 := eq_true p20; replace q20 := eq_true q20; have p22 : 0 ≤ (x1_2 : Int) := of_decide_eq_true am_; have q22 : x1_2 < (a0.size : Int) := of_decide_eq_true am_; have hx22 := bt_at a0 x1_2; replace p22 := eq_true p22; replace q22 := eq_true q22))
             go_roundg k2
             case measure => have := HJ2.out; have := HK2.out; omega
             case rel => exact ⟨(wrap64 (x1_2 + 1)), sv_, H', ⟨by have := HJ2.out; have := HK2.out; omega⟩, by repeat (first | exact Drawn0.refl _ | apply Drawn0.step)⟩
            ·rw [if_neg c23] at H
             have c23b0 : ((bt a0 x1_2) == 46) = false := beq_eq_false_iff_ne.mpr c23
             have c23b1 : ((bt a0 x1_2) != 46) = true := bne_iff_ne.mpr c23
             obtain rfl := Option.some.inj H
             have p12 : 0 ≤ (x1_2 : Int) := of_decide_eq_true am_
             have q12 : x1_2 < (a0.size : Int) := of_decide_eq_true am_
             have hx12 := bt_at a0 x1_2
             replace p12 := eq_true p12
             replace q12 := eq_true q12
             go_wp2_with (first | (go_at_call 47; (with_reducible refine (impl_mayBegin.calls (bt a0 x1_2) false _ A13.out).mono ?_); rintro e w' ⟨rfl, ⟨nd, rfl⟩⟩; have p15 : 0 ≤ (x1_2 : Int) := of_decide_eq_true am_; have q15 : x1_2 < (a0.size : Int) := of_decide_eq_true am_; have hx15 := bt_at a0 x1_2; replace p15 := eq_true p15; replace q15 := eq_true q15) | (go_at_call 48; (with_reducible refine (impl_isDigit.calls (bt a0 x1_2) false _ A16.out).mono ?_); rintro e w' ⟨rfl, ⟨nd, rfl⟩⟩; have p18 : 0 ≤ (x1_2 : Int) := of_decide_eq_true am_; have q18 : x1_2 < (a0.size : Int) := of_decide_eq_true am_; have hx18 := bt_at a0 x1_2; replace p18 := eq_true p18; replace q18 := eq_true q18; have p20 : 0 ≤ (x1_2 : Int) := of_decide_eq_true am_; have q20 : x1_2 < (a0.size : Int) := of_decide_eq_true am_; have hx20 := bt_at a0 x1_2; replace p20 := eq_true p20; replace q20 := eq_true q20; have p22 : 0 ≤ (x1_2 : Int) := of_decide_eq_true am_; have q22 : x1_2 < (a0.size : Int) := of_decide_eq_true am_; have hx22 := bt_at a0 x1_2; replace p22 := eq_true p22; replace q22 := eq_true q22))
             go_ret
             exact ⟨by first | rfl | (simp; done) | (simp [*]; done), by repeat (first | exact Drawn0.refl _ | apply Drawn0.step)⟩
       ·rw [if_neg c11] at H
        exact absurd H (by simp)
      ·rw [if_neg c10] at H
       have c10b0 : decide (x1_2 < (a0.size : Int)) = false := decide_eq_false c10
       clear c10
       obtain rfl := Option.some.inj H
       go_wp2
       go_ret
       exact ⟨by first | rfl | (simp; done) | (simp [*]; done), by repeat (first | exact Drawn0.refl _ | apply Drawn0.step)⟩

/-! ### impl_isName: function 26 -/
def impl_isName.f (k : Nat) (a0 : ByteArray) : Option (Bool) := (impl_within.f (a0.size : Int) 1 30).bind fun t201 => (if t201 = true then ((impl_nameEnd.f k a0 0).bind fun t202 => (some (t202 == (a0.size : Int)))) else (some false))
set_option maxHeartbeats 8000000 in
set_option maxRecDepth 100000 in
theorem impl_isName.calls (k : Nat) (a0 : ByteArray) (r : Bool) (w : World) (h : impl_isName.f k a0 = some r) :
  Calls Tryz.prog 26 #[.string a0] w fun e w' => e = .returned (.bool r) ∧ Drawn0 w w' := by
 have H : ((impl_within.f (a0.size : Int) 1 30).bind fun t201 => (if t201 = true then ((impl_nameEnd.f k a0 0).bind fun t202 => (some (t202 == (a0.size : Int)))) else (some false))) = some r := h
 clear h
 replace H := Option.bind_eq_some_iff.mp H
 obtain ⟨t201, A20, H⟩ := H
 replace H : (if t201 = true then ((impl_nameEnd.f k a0 0).bind fun t202 => (some (t202 == (a0.size : Int)))) else (some false)) = some r := H
 have A2 := Aside0.mk A20
 clear A20
 by_cases c3 : t201 = true
 ·subst c3
  have H1 : ((impl_nameEnd.f k a0 0).bind fun t202 => (some (t202 == (a0.size : Int)))) = some r := by rw [if_pos rfl] at H; exact H
  clear H
  have H := H1
  clear H1
  replace H := Option.bind_eq_some_iff.mp H
  obtain ⟨t202, A40, H⟩ := H
  replace H : (some (t202 == (a0.size : Int))) = some r := H
  have A4 := Aside0.mk A40
  clear A40
  obtain rfl := Option.some.inj H
  go_enter Tryz.func26, Tryz.ntmps26
  go_wp2_with (first | ((with_reducible refine gate_callee (f := 24) rfl ?_); refine goesL_ (some 5) rfl rfl Tryz.func24 (by kernel_rfl) rfl #[.int .i64 (a0.size : Int), .int .i64 1, .int .i64 30] rfl au_ ?_; (with_reducible refine (impl_within.calls (a0.size : Int) 1 30 true _ A2.out).mono ?_); rintro e w' ⟨rfl, ⟨nd, rfl⟩⟩; refine ⟨_, rfl, ?_⟩) | (go_at_call 41; (with_reducible refine (impl_nameEnd.calls k a0 0 t202 _ A4.out).mono ?_); rintro e w' ⟨rfl, ⟨nd, rfl⟩⟩))
  go_ret
  exact ⟨by first | rfl | (simp; done) | (simp [*]; done), by repeat (first | exact Drawn0.refl _ | apply Drawn0.step)⟩
 ·replace c3 := Bool.eq_false_iff.mpr c3
  subst c3
  have H1 : (some false) = some r := by rw [if_neg (show ¬ (false = true) by decide)] at H; exact H
  clear H
  have H := H1
  clear H1
  obtain rfl := Option.some.inj H
  go_enter Tryz.func26, Tryz.ntmps26
  go_wp2_with (first | ((with_reducible refine gate_callee (f := 24) rfl ?_); refine goesL_ (some 5) rfl rfl Tryz.func24 (by kernel_rfl) rfl #[.int .i64 (a0.size : Int), .int .i64 1, .int .i64 30] rfl au_ ?_; (with_reducible refine (impl_within.calls (a0.size : Int) 1 30 false _ A2.out).mono ?_); rintro e w' ⟨rfl, ⟨nd, rfl⟩⟩; refine ⟨_, rfl, ?_⟩))
  go_ret
  exact ⟨by first | rfl | (simp; done) | (simp [*]; done), by repeat (first | exact Drawn0.refl _ | apply Drawn0.step)⟩

/-! ### impl_areAttrs: function 27 -/
mutual
def impl_areAttrs.l0 : Nat → List (S49) → List (S49) → Int → Int → Option (Bool)
 | 0, _, _, _, _ => none
 | k + 1, x0, x7, x8, x9 => if x9 < x8 then (if 0 ≤ x9 then (if x9 < (x7.length : Int) then ((impl_isName.f k ((rd_T49 x7 x9).f0)).bind fun t205 => (if t205 = true then ((impl_badByte.f k ((rd_T49 x7 x9).f1)).bind fun t206 => (impl_areAttrs.j1 k x0 x9 x7 x8 x9 (decide (t206 ≥ 0)) ((rd_T49 x7 x9).f0) ((rd_T49 x7 x9).f1))) else (impl_areAttrs.j1 k x0 x9 x7 x8 x9 true ((rd_T49 x7 x9).f0) ((rd_T49 x7 x9).f1)))) else (none)) else (none)) else (some (decide ((x0.length : Int) ≤ 12)))
def impl_areAttrs.j1 : Nat → List (S49) → Int → List (S49) → Int → Int → Bool → ByteArray → ByteArray → Option (Bool)
 | 0, _, _, _, _, _, _, _, _ => none
 | k + 1, x0, x3, x7, x8, x9, x23, x205000, x205001 => if x23 = true then (some false) else (if 0 ≤ x3 then (if x3 ≤ (x0.length : Int) then ((some (x0.take (x3 : Int).toNat : List (S49))).bind fun y207 => (impl_areAttrs.l1 k x0 x7 x8 x9 y207 (y207.length : Int) 0 x205000 x205001)) else (none)) else (none))
def impl_areAttrs.l1 : Nat → List (S49) → List (S49) → Int → Int → List (S49) → Int → Int → ByteArray → ByteArray → Option (Bool)
 | 0, _, _, _, _, _, _, _, _, _ => none
 | k + 1, x0, x7, x8, x9, x26, x27, x28, x205000, x205001 => if x28 < x27 then (if 0 ≤ x28 then (if x28 < (x26.length : Int) then (if x205000.toList = ((rd_T49 x26 x28).f0).toList then (some false) else (impl_areAttrs.l1 k x0 x7 x8 x9 x26 x27 (wrap64 (x28 + 1)) x205000 x205001)) else (none)) else (none)) else (impl_areAttrs.l0 k x0 x7 x8 (wrap64 (x9 + 1)))
end
def impl_areAttrs.f (k : Nat) (l0 : List (S49)) : Option (Bool) := impl_areAttrs.l0 k l0 l0 (l0.length : Int) 0
set_option maxHeartbeats 8000000 in
set_option maxRecDepth 100000 in
theorem impl_areAttrs.calls (k : Nat) (A0 : Option Addr) (c0 : Nat) (l0 : List (S49)) (r : Bool) (w : World) (hr0 : Kd.C k49 w A0 l0.length l0) (hc0 : l0.length ≤ c0) (h : impl_areAttrs.f k l0 = some r) (hT_ : U8Tabs_ w) :
  Calls Tryz.prog 27 #[.slice A0 l0.length c0] w fun e w' => e = .returned (.bool r) ∧ Below w.heap.size w w' := by
 have hu49 := Tryz.underlying49
 have HR0 := Aside0.mk hr0
 have HC0 := Aside0.mk hc0
 clear hr0 hc0
 have HB := Aside0.mk (Below.refl w.heap.size w)
 have H : (impl_areAttrs.l0 k l0 l0 (l0.length : Int) 0) = some r := h
 clear h
 have H' := Aside0.mk H
 clear H
 go_enter Tryz.func27, Tryz.ntmps27
 go_wp2
 go_loopg [9] k (fun kq v9 w' => ∃ (x9_1 : Int), v9 = .int .i64 x9_1 ∧ Aside0 (impl_areAttrs.l0 kq l0 l0 (l0.length : Int) x9_1 = some r) ∧ Aside0 (kq ≤ k) ∧ Aside0 (Below w.heap.size w w'))
 case atStart => exact ⟨(0), sv_, H', ⟨Nat.le_refl _⟩, ⟨bel_⟩⟩
 case round =>
  clear H'
  obtain ⟨x9_1, rfl, HA, HK1, HB⟩ := hrel
  cases gk with
  | zero => exact absurd HA.out (by simp [impl_areAttrs.l0])
  | succ k1 =>
   have H := HA.out
   clear HA
   simp only [impl_areAttrs.l0] at H
   by_cases c2 : x9_1 < (l0.length : Int)
   ·rw [if_pos c2] at H
    have c2b0 : decide (x9_1 < (l0.length : Int)) = true := decide_eq_true c2
    clear c2
    by_cases c3 : 0 ≤ x9_1
    ·rw [if_pos c3] at H
     have c3b0 : decide (0 ≤ x9_1) = true := decide_eq_true c3
     clear c3
     by_cases c4 : x9_1 < (l0.length : Int)
     ·rw [if_pos c4] at H
      have c4b0 : decide (x9_1 < (l0.length : Int)) = true := decide_eq_true c4
      clear c4
      have HC5 := Aside0.mk H
      clear H
      have p203 : 0 ≤ (x9_1 : Int) := of_decide_eq_true am_
      have q203 : x9_1 < (l0.length : Int) := of_decide_eq_true am_
      obtain ⟨ad203, e203, hx203_0, hx203_1⟩ := at_T49 HR0.out x9_1 p203 q203
      cases e203
      replace hx203_0 := pw_cell_below HB.out hx203_0
      replace hx203_1 := pw_cell_below HB.out hx203_1
      replace p203 := eq_true p203
      replace q203 := eq_true q203
      go_upto_region 4 with (first | ((with_reducible refine gate_dst (N := 4) rfl ?_); refine box_event ?hg (N := 4) ?hd (cs := #[.string (⟨#[]⟩ : ByteArray), .string (⟨#[]⟩ : ByteArray)]) (t := 49) ?hr ?_; (case hd => rfl); (case hg => rfl); (case hr => first | (go_simp; done) | (go_simp; rfl)); intro gb204 hg w6 hbox hb; have n0_ := Aside0.mk (below_step bel_ hb); have n1_ := Aside0.mk (hbox); have n2_ := Aside0.mk ((by rw [hg]; exact (below_size bel_) : w.heap.size ≤ gb204)); have n3_ := Aside0.mk ((by rw [hg]; exact (below_size bel_) : w.heap.size ≤ gb204)); clear HB; have HB := n0_; have BK204 := n1_; have GW204 := n2_; have GE204 := n3_; clear n0_ n1_ n2_ n3_; clear hb hbox hg; have hcz7_0 := bc2_0 BK204.out; have hcz7_1 := bc2_1 BK204.out; have hfz7_0 := blk_frozen BK204.out 0; have hfz7_1 := blk_frozen BK204.out 1))
      (try simp only [Act.put, List.setIfInBounds_toArray, List.set_cons_zero, List.set_cons_succ])
      go_cut [23] (fun v23 wc => ∃ (kq : Nat) (x23_4 : Bool), v23 = .bool x23_4 ∧ Aside0 (impl_areAttrs.j1 kq l0 x9_1 l0 (l0.length : Int) x9_1 x23_4 ((rd_T49 l0 x9_1).f0) ((rd_T49 l0 x9_1).f1) = some r) ∧ Aside0 (kq ≤ k1) ∧ Aside0 (wc.heap[gb204]? = some (.cells #[.string ((rd_T49 l0 x9_1).f0), .string ((rd_T49 l0 x9_1).f1)] 49 (0, 0))) ∧ Aside0 (Below w.heap.size w wc))
      case first =>
       have H := HC5.out
       clear HC5
       replace H := Option.bind_eq_some_iff.mp H
       obtain ⟨t205, A80, H⟩ := H
       replace H : (if t205 = true then ((impl_badByte.f k1 ((rd_T49 l0 x9_1).f1)).bind fun t206 => (impl_areAttrs.j1 k1 l0 x9_1 l0 (l0.length : Int) x9_1 (decide (t206 ≥ 0)) ((rd_T49 l0 x9_1).f0) ((rd_T49 l0 x9_1).f1))) else (impl_areAttrs.j1 k1 l0 x9_1 l0 (l0.length : Int) x9_1 true ((rd_T49 l0 x9_1).f0) ((rd_T49 l0 x9_1).f1))) = some r := H
       have A8 := Aside0.mk A80
       clear A80
       by_cases c9 : t205 = true
       ·subst c9
        have H1 : ((impl_badByte.f k1 ((rd_T49 l0 x9_1).f1)).bind fun t206 => (impl_areAttrs.j1 k1 l0 x9_1 l0 (l0.length : Int) x9_1 (decide (t206 ≥ 0)) ((rd_T49 l0 x9_1).f0) ((rd_T49 l0 x9_1).f1))) = some r := by rw [if_pos rfl] at H; exact H
        clear H
        have H := H1
        clear H1
        replace H := Option.bind_eq_some_iff.mp H
        obtain ⟨t206, A100, H⟩ := H
        replace H : (impl_areAttrs.j1 k1 l0 x9_1 l0 (l0.length : Int) x9_1 (decide (t206 ≥ 0)) ((rd_T49 l0 x9_1).f0) ((rd_T49 l0 x9_1).f1)) = some r := H
        have A10 := Aside0.mk A100
        clear A100
        have H' := Aside0.mk H
        clear H
        have hcz11_0 := bc2_0 BK204.out
        have hcz11_1 := bc2_1 BK204.out
        have hfz11_0 := blk_frozen BK204.out 0
        have hfz11_1 := blk_frozen BK204.out 1
        go_wp2_with (first | ((with_reducible refine gate_callee (f := 26) rfl ?_); refine goesL_ (some 16) rfl rfl Tryz.func26 (by kernel_rfl) rfl #[.string ((rd_T49 l0 x9_1).f0)] rfl au_ ?_; (with_reducible refine (impl_isName.calls k1 ((rd_T49 l0 x9_1).f0) true _ A8.out).mono ?_); rintro e w' ⟨rfl, ⟨nd, rfl⟩⟩; refine ⟨_, rfl, ?_⟩) | (go_at_call 25; (with_reducible refine (impl_badByte.calls k1 ((rd_T49 l0 x9_1).f1) t206 _ A10.out ?hT_).mono ?_); (case hT_ => exact utf8_keep_ hT_ bes_); rintro e w12 ⟨rfl, hb⟩; have n0_ := Aside0.mk (blk_below (g := gb204) (o := .cells #[.string ((rd_T49 l0 x9_1).f0), .string ((rd_T49 l0 x9_1).f1)] 49 (0, 0)) (by (with_reducible repeat (first | refine blk_drewN ?_ _ | refine blk_drew ?_ | refine blk_alloc ?_ _)); refine blk_put (cs := #[.string ((rd_T49 l0 x9_1).f0), .string (⟨#[]⟩ : ByteArray)]) ?_ 1 _ rfl; (with_reducible repeat (first | refine blk_drewN ?_ _ | refine blk_drew ?_ | refine blk_alloc ?_ _)); refine blk_put (cs := #[.string (⟨#[]⟩ : ByteArray), .string (⟨#[]⟩ : ByteArray)]) ?_ 0 _ rfl; (with_reducible repeat (first | refine blk_drewN ?_ _ | refine blk_drew ?_ | refine blk_alloc ?_ _)); exact BK204.out) hb); have n1_ := Aside0.mk (below_step bes_ hb); clear BK204; clear HB; have BK204 := n0_; have HB := n1_; clear n0_ n1_; (try clear hb);(try clear hb2);(try clear hk);(try clear hi)))
        go_meet
        case rel => exact ⟨_, (decide (t206 ≥ 0)), sv_, H', ⟨by have := HK1.out; first | omega | exact Nat.le_refl _⟩, ⟨by (with_reducible repeat (first | refine blk_drewN ?_ _ | refine blk_drew ?_ | refine blk_alloc ?_ _)); exact BK204.out⟩, ⟨bes_⟩⟩
       ·replace c9 := Bool.eq_false_iff.mpr c9
        subst c9
        have H1 : (impl_areAttrs.j1 k1 l0 x9_1 l0 (l0.length : Int) x9_1 true ((rd_T49 l0 x9_1).f0) ((rd_T49 l0 x9_1).f1)) = some r := by rw [if_neg (show ¬ (false = true) by decide)] at H; exact H
        clear H
        have H := H1
        clear H1
        have H' := Aside0.mk H
        clear H
        have hcz13_0 := bc2_0 BK204.out
        have hcz13_1 := bc2_1 BK204.out
        have hfz13_0 := blk_frozen BK204.out 0
        have hfz13_1 := blk_frozen BK204.out 1
        go_wp2_with (first | ((with_reducible refine gate_callee (f := 26) rfl ?_); refine goesL_ (some 16) rfl rfl Tryz.func26 (by kernel_rfl) rfl #[.string ((rd_T49 l0 x9_1).f0)] rfl au_ ?_; (with_reducible refine (impl_isName.calls k1 ((rd_T49 l0 x9_1).f0) false _ A8.out).mono ?_); rintro e w' ⟨rfl, ⟨nd, rfl⟩⟩; refine ⟨_, rfl, ?_⟩))
        go_meet
        case rel => exact ⟨_, (true), sv_, H', ⟨by have := HK1.out; first | omega | exact Nat.le_refl _⟩, ⟨by (with_reducible repeat (first | refine blk_drewN ?_ _ | refine blk_drew ?_ | refine blk_alloc ?_ _)); refine blk_put (cs := #[.string ((rd_T49 l0 x9_1).f0), .string (⟨#[]⟩ : ByteArray)]) ?_ 1 _ rfl; (with_reducible repeat (first | refine blk_drewN ?_ _ | refine blk_drew ?_ | refine blk_alloc ?_ _)); refine blk_put (cs := #[.string (⟨#[]⟩ : ByteArray), .string (⟨#[]⟩ : ByteArray)]) ?_ 0 _ rfl; (with_reducible repeat (first | refine blk_drewN ?_ _ | refine blk_drew ?_ | refine blk_alloc ?_ _)); exact BK204.out⟩, ⟨bes_⟩⟩
      case rest =>
       clear HC5
       (try clear c2);(try clear c2b0);(try clear p2);(try clear q2);(try clear hx2);(try clear c3);(try clear c3b0);(try clear c4);(try clear c4b0);(try clear c9);(try clear hcz11_0 hcz11_1);(try clear hcz13_0 hcz13_1);(try clear hcz7_0 hcz7_1);(try clear hfz11_0 hfz11_1);(try clear hfz13_0 hfz13_1);(try clear hfz7_0 hfz7_1);(try clear hx203_0);(try clear hx203_1);(try clear p203);(try clear q203)
       obtain ⟨kq, x23_4, rfl, HA, HJ4, BK204, HB⟩ := hcut
       cases kq with
       | zero => exact absurd HA.out (by simp [impl_areAttrs.j1])
       | succ kj4 =>
        have H := HA.out
        clear HA
        simp only [impl_areAttrs.j1] at H
        by_cases c14 : x23_4 = true
        ·subst c14
         have H1 : (some false) = some r := by rw [if_pos rfl] at H; exact H
         clear H
         have H := H1
         clear H1
         obtain rfl := Option.some.inj H
         go_wp2
         go_ret
         exact ⟨er_, bes_⟩
        ·replace c14 := Bool.eq_false_iff.mpr c14
         subst c14
         have H1 : (if 0 ≤ x9_1 then (if x9_1 ≤ (l0.length : Int) then ((some (l0.take (x9_1 : Int).toNat : List (S49))).bind fun y207 => (impl_areAttrs.l1 kj4 l0 l0 (l0.length : Int) x9_1 y207 (y207.length : Int) 0 ((rd_T49 l0 x9_1).f0) ((rd_T49 l0 x9_1).f1))) else (none)) else (none)) = some r := by rw [if_neg (show ¬ (false = true) by decide)] at H; exact H
         clear H
         have H := H1
         clear H1
         by_cases c15 : 0 ≤ x9_1
         ·rw [if_pos c15] at H
          have c15b0 := eq_true c15
          have c15b1 : decide (0 ≤ x9_1) = true := decide_eq_true c15
          clear c15
          by_cases c16 : x9_1 ≤ (l0.length : Int)
          ·rw [if_pos c16] at H
           have c16b0 := eq_true c16
           have c16b1 : decide (x9_1 ≤ (l0.length : Int)) = true := decide_eq_true c16
           clear c16
           obtain ⟨y207, hy207⟩ : ∃ y_ : List (S49), y_ = (l0.take (x9_1 : Int).toNat) := ⟨_, rfl⟩
           replace H : (impl_areAttrs.l1 kj4 l0 l0 (l0.length : Int) x9_1 y207 (y207.length : Int) 0 ((rd_T49 l0 x9_1).f0) ((rd_T49 l0 x9_1).f1)) = some r := by first | (rw [hy207]; with_reducible exact H) | (have H2_ := (Option.bind_some _ _).symm.trans H; rw [hy207]; with_reducible exact H2_) | (have H2_ := (Option.bind_some _ _).symm.trans H; with_reducible exact H2_) | with_reducible exact H | (rw [hy207]; exact H) | exact H
           have Ny207 := Aside0.mk hy207
           clear hy207
           have H' := Aside0.mk H
           clear H
           have q17 : (x9_1 : Int) ≤ ((l0.length : Int) : Int) := of_decide_eq_true am_
           obtain ⟨i017, hi017, _, hsz17, _⟩ := info_parts info49
           have hroom17 : l0.length ≤ c0 := HC0.out
           have hC17 : Kd.C k49 _ (some ad203) l0.length l0 := HR0.out
           have hcut17 := cut_to (P := Tryz.prog) 36 49 .i64 Tryz.underlying36 hi017 (some ad203) l0.length c0 x9_1 (of_decide_eq_true am_) q17 hroom17
           have hr17 := Kd.C_take (m := (x9_1 : Int).toNat) hC17 (by omega)
           have hy17 : y207.length = (x9_1 : Int).toNat := (by rw [Ny207.out, List.length_take]; omega)
           rw [← Ny207.out] at hr17
           rw [← hy17] at hcut17
           have HR210 := Aside0.mk hr17
           have HC210 := Aside0.mk (show y207.length ≤ c0 from by omega)
           clear hr17 hC17 hroom17 hi017 hsz17
           have KY17 := Aside0.mk hy17
           clear hy17
           replace q17 := eq_true q17
           go_wp2
           go_loopg [28] kj4 (fun kq v28 w' => ∃ (x28_3 : Int), v28 = .int .i64 x28_3 ∧ Aside0 (impl_areAttrs.l1 kq l0 l0 (l0.length : Int) x9_1 y207 (y207.length : Int) x28_3 ((rd_T49 l0 x9_1).f0) ((rd_T49 l0 x9_1).f1) = some r) ∧ Aside0 (kq ≤ kj4) ∧ Aside0 (w'.heap[gb204]? = some (.cells #[.string ((rd_T49 l0 x9_1).f0), .string ((rd_T49 l0 x9_1).f1)] 49 (0, 0))) ∧ Aside0 (Below w.heap.size w w'))
           case atStart => exact ⟨(0), sv_, H', ⟨Nat.le_refl _⟩, ⟨by (with_reducible repeat (first | refine blk_drewN ?_ _ | refine blk_drew ?_ | refine blk_alloc ?_ _)); exact BK204.out⟩, ⟨bes_⟩⟩
           case round =>
            clear H'
            (try clear c1);(try clear q1);(try clear c2);(try clear c2b0);(try clear p2);(try clear q2);(try clear hx2);(try clear c3);(try clear c3b0);(try clear c4);(try clear c4b0);(try clear c9);(try clear c14);(try clear c15);(try clear c15b0 c15b1);(try clear c16);(try clear c16b0 c16b1);(try clear q17);(try clear hcz11_0 hcz11_1);(try clear hcz13_0 hcz13_1);(try clear hcz7_0 hcz7_1);(try clear hfz11_0 hfz11_1);(try clear hfz13_0 hfz13_1);(try clear hfz7_0 hfz7_1);(try clear hx203_0);(try clear hx203_1);(try clear p2);(try clear p203);(try clear q17);(try clear q2);(try clear q203)
            obtain ⟨x28_3, rfl, HA, HK3, BK204, HB⟩ := hrel
            cases gk with
            | zero => exact absurd HA.out (by simp [impl_areAttrs.l1])
            | succ k3 =>
             have H := HA.out
             clear HA
             simp only [impl_areAttrs.l1] at H
             by_cases c18 : x28_3 < (y207.length : Int)
             ·rw [if_pos c18] at H
              have c18b0 : decide (x28_3 < (y207.length : Int)) = true := decide_eq_true c18
              clear c18
              by_cases c19 : 0 ≤ x28_3
              ·rw [if_pos c19] at H
               have c19b0 : decide (0 ≤ x28_3) = true := decide_eq_true c19
               clear c19
               by_cases c20 : x28_3 < (y207.length : Int)
               ·rw [if_pos c20] at H
                have c20b0 : decide (x28_3 < (y207.length : Int)) = true := decide_eq_true c20
                clear c20
                by_cases c21 : ((rd_T49 l0 x9_1).f0).toList = ((rd_T49 y207 x28_3).f0).toList
                ·rw [if_pos c21] at H
                 have c21b0 : (((rd_T49 l0 x9_1).f0).toList == ((rd_T49 y207 x28_3).f0).toList) = true := beq_iff_eq.mpr c21
                 have c21b1 : (((rd_T49 l0 x9_1).f0).toList != ((rd_T49 y207 x28_3).f0).toList) = false := bne_eq_false_iff_eq.mpr c21
                 clear c21
                 obtain rfl := Option.some.inj H
                 have p211 : 0 ≤ (x28_3 : Int) := of_decide_eq_true am_
                 have q211 : x28_3 < (y207.length : Int) := of_decide_eq_true am_
                 obtain ⟨ad211, e211, hx211_0, hx211_1⟩ := at_T49 HR210.out x28_3 p211 q211
                 obtain rfl : ad203 = ad211 := (by injection e211)
                 replace hx211_0 := pw_cell_below HB.out hx211_0
                 replace hx211_1 := pw_cell_below HB.out hx211_1
                 replace p211 := eq_true p211
                 replace q211 := eq_true q211
                 go_wp2_with (first | ((with_reducible refine gate_dst (N := 6) rfl ?_); refine box_event ?hg (N := 6) ?hd (cs := #[.string (⟨#[]⟩ : ByteArray), .string (⟨#[]⟩ : ByteArray)]) (t := 49) ?hr ?_; (case hd => rfl); (case hg => rfl); (case hr => first | (go_simp; done) | (go_simp; rfl)); intro gb212 hg w22 hbox hb; have n0_ := Aside0.mk (blk_below (g := gb204) (o := .cells #[.string ((rd_T49 l0 x9_1).f0), .string ((rd_T49 l0 x9_1).f1)] 49 (0, 0)) (bk_ BK204.out) hb); have n1_ := Aside0.mk (below_step bes_ hb); have n2_ := Aside0.mk (hbox); have n3_ := Aside0.mk ((by rw [hg]; exact (below_size bes_) : w.heap.size ≤ gb212)); have n4_ := Aside0.mk ((by rw [hg]; exact (below_size bes_) : w.heap.size ≤ gb212)); have n5_ := Aside0.mk ((by rw [hg]; exact Nat.ne_of_lt (blk_lt (g := gb204) (o := .cells #[.string ((rd_T49 l0 x9_1).f0), .string ((rd_T49 l0 x9_1).f1)] 49 (0, 0)) (bk_ BK204.out)) : gb204 ≠ gb212)); have n6_ := Aside0.mk ((by rw [hg]; exact Nat.ne_of_gt (blk_lt (g := gb204) (o := .cells #[.string ((rd_T49 l0 x9_1).f0), .string ((rd_T49 l0 x9_1).f1)] 49 (0, 0)) (bk_ BK204.out)) : gb212 ≠ gb204)); clear BK204; clear HB; have BK204 := n0_; have HB := n1_; have BK212 := n2_; have GW212 := n3_; have GE212 := n4_; have NB204_212 := n5_; have NB212_204 := n6_; clear n0_ n1_ n2_ n3_ n4_ n5_ n6_; clear hb hbox hg; have hnb23 := NB212_204.out; have hnc23 := NB204_212.out; have hcz24_0 := bc2_0 BK212.out; have hcz24_1 := bc2_1 BK212.out; have hfz24_0 := blk_frozen BK212.out 0; have hfz24_1 := blk_frozen BK212.out 1; have hcz25_0 := bc2_0 BK204.out; have hcz25_1 := bc2_1 BK204.out; have hfz25_0 := blk_frozen BK204.out 0; have hfz25_1 := blk_frozen BK204.out 1))
                 go_ret
                 exact ⟨er_, bes_⟩
                ·rw [if_neg c21] at H
                 have c21b0 : (((rd_T49 l0 x9_1).f0).toList == ((rd_T49 y207 x28_3).f0).toList) = false := beq_eq_false_iff_ne.mpr c21
                 have c21b1 : (((rd_T49 l0 x9_1).f0).toList != ((rd_T49 y207 x28_3).f0).toList) = true := bne_iff_ne.mpr c21
                 have H' := Aside0.mk H
                 clear H
                 have p211 : 0 ≤ (x28_3 : Int) := of_decide_eq_true am_
                 have q211 : x28_3 < (y207.length : Int) := of_decide_eq_true am_
                 obtain ⟨ad211, e211, hx211_0, hx211_1⟩ := at_T49 HR210.out x28_3 p211 q211
                 obtain rfl : ad203 = ad211 := (by injection e211)
                 replace hx211_0 := pw_cell_below HB.out hx211_0
                 replace hx211_1 := pw_cell_below HB.out hx211_1
                 replace p211 := eq_true p211
                 replace q211 := eq_true q211
                 go_wp2_with (first | ((with_reducible refine gate_dst (N := 6) rfl ?_); refine box_event ?hg (N := 6) ?hd (cs := #[.string (⟨#[]⟩ : ByteArray), .string (⟨#[]⟩ : ByteArray)]) (t := 49) ?hr ?_; (case hd => rfl); (case hg => rfl); (case hr => first | (go_simp; done) | (go_simp; rfl)); intro gb212 hg w26 hbox hb; have n0_ := Aside0.mk (blk_below (g := gb204) (o := .cells #[.string ((rd_T49 l0 x9_1).f0), .string ((rd_T49 l0 x9_1).f1)] 49 (0, 0)) (bk_ BK204.out) hb); have n1_ := Aside0.mk (below_step bes_ hb); have n2_ := Aside0.mk (hbox); have n3_ := Aside0.mk ((by rw [hg]; exact (below_size bes_) : w.heap.size ≤ gb212)); have n4_ := Aside0.mk ((by rw [hg]; exact (below_size bes_) : w.heap.size ≤ gb212)); have n5_ := Aside0.mk ((by rw [hg]; exact Nat.ne_of_lt (blk_lt (g := gb204) (o := .cells #[.string ((rd_T49 l0 x9_1).f0), .string ((rd_T49 l0 x9_1).f1)] 49 (0, 0)) (bk_ BK204.out)) : gb204 ≠ gb212)); have n6_ := Aside0.mk ((by rw [hg]; exact Nat.ne_of_gt (blk_lt (g := gb204) (o := .cells #[.string ((rd_T49 l0 x9_1).f0), .string ((rd_T49 l0 x9_1).f1)] 49 (0, 0)) (bk_ BK204.out)) : gb212 ≠ gb204)); clear BK204; clear HB; have BK204 := n0_; have HB := n1_; have BK212 := n2_; have GW212 := n3_; have GE212 := n4_; have NB204_212 := n5_; have NB212_204 := n6_; clear n0_ n1_ n2_ n3_ n4_ n5_ n6_; clear hb hbox hg; have hnb27 := NB212_204.out; have hnc27 := NB204_212.out; have hcz28_0 := bc2_0 BK212.out; have hcz28_1 := bc2_1 BK212.out; have hfz28_0 := blk_frozen BK212.out 0; have hfz28_1 := blk_frozen BK212.out 1; have hcz29_0 := bc2_0 BK204.out; have hcz29_1 := bc2_1 BK204.out; have hfz29_0 := blk_frozen BK204.out 0; have hfz29_1 := blk_frozen BK204.out 1))
                 go_roundg k3
                 case measure => have := HK1.out; have := HJ4.out; have := HK3.out; omega
                 case rel => exact ⟨(wrap64 (x28_3 + 1)), sv_, H', ⟨by have := HK1.out; have := HJ4.out; have := HK3.out; omega⟩, ⟨by (with_reducible repeat (first | refine blk_drewN ?_ _ | refine blk_drew ?_ | refine blk_alloc ?_ _)); refine blk_far ?_ NB204_212.out _; (with_reducible repeat (first | refine blk_drewN ?_ _ | refine blk_drew ?_ | refine blk_alloc ?_ _)); refine blk_far ?_ NB204_212.out _; (with_reducible repeat (first | refine blk_drewN ?_ _ | refine blk_drew ?_ | refine blk_alloc ?_ _)); exact BK204.out⟩, ⟨bes_⟩⟩
               ·rw [if_neg c20] at H
                exact absurd H (by simp)
              ·rw [if_neg c19] at H
               exact absurd H (by simp)
             ·rw [if_neg c18] at H
              have c18b0 : decide (x28_3 < (y207.length : Int)) = false := decide_eq_false c18
              clear c18
              have H' := Aside0.mk H
              clear H
              go_wp2
              go_roundg k3
              case measure => have := HK1.out; have := HJ4.out; have := HK3.out; omega
              case rel => exact ⟨(wrap64 (x9_1 + 1)), sv_, H', ⟨by have := HK1.out; have := HJ4.out; have := HK3.out; omega⟩, ⟨bes_⟩⟩
          ·rw [if_neg c16] at H
           exact absurd H (by simp)
         ·rw [if_neg c15] at H
          exact absurd H (by simp)
     ·rw [if_neg c4] at H
      exact absurd H (by simp)
    ·rw [if_neg c3] at H
     exact absurd H (by simp)
   ·rw [if_neg c2] at H
    have c2b0 : decide (x9_1 < (l0.length : Int)) = false := decide_eq_false c2
    clear c2
    obtain rfl := Option.some.inj H
    go_wp2
    go_ret
    exact ⟨er_, bel_⟩

/-! ### impl_isAround: function 28 -/
def impl_isAround.l0 : Nat → List (S38) → Int → Int → Option (Bool)
 | 0, _, _, _ => none
 | k + 1, x0, x1, x2 => if x2 ≥ 0 then (if x2 = x1 then (some true) else (if 0 ≤ x2 then (if x2 < (x0.length : Int) then (impl_isAround.l0 k x0 x1 ((rd_T38 x0 x2).f1)) else (none)) else (none))) else (some false)
def impl_isAround.f (k : Nat) (l0 : List (S38)) (a1 : Int) (a2 : Int) : Option (Bool) := impl_isAround.l0 k l0 a1 a2
set_option maxHeartbeats 8000000 in
set_option maxRecDepth 100000 in
theorem impl_isAround.calls (k : Nat) (A0 : Option Addr) (c0 : Nat) (l0 : List (S38)) (a1 : Int) (a2 : Int) (r : Bool) (w : World) (hr0 : Kd.C k38 w A0 l0.length l0) (hc0 : l0.length ≤ c0) (h : impl_isAround.f k l0 a1 a2 = some r) :
  Calls Tryz.prog 28 #[.slice A0 l0.length c0, .int .i64 a1, .int .i64 a2] w fun e w' => e = .returned (.bool r) ∧ Drawn0 w w' := by
 have HR0 := Aside0.mk hr0
 have HC0 := Aside0.mk hc0
 clear hr0 hc0
 have H : (impl_isAround.l0 k l0 a1 a2) = some r := h
 clear h
 have H' := Aside0.mk H
 clear H
 go_enter Tryz.func28, Tryz.ntmps28
 go_wp2
 go_loopg [2] k (fun kq v2 w' => ∃ (x2_1 : Int), v2 = .int .i64 x2_1 ∧ Aside0 (impl_isAround.l0 kq l0 a1 x2_1 = some r) ∧ Aside0 (kq ≤ k) ∧ Drawn0 w w')
 case atStart => exact ⟨(a2), sv_, H', ⟨Nat.le_refl _⟩, by repeat (first | exact Drawn0.refl _ | apply Drawn0.step)⟩
 case round =>
  clear H'
  (try clear c2);(try clear p2)
  obtain ⟨x2_1, rfl, HA, HK1, ⟨m1, rfl⟩⟩ := hrel
  cases gk with
  | zero => exact absurd HA.out (by simp [impl_isAround.l0])
  | succ k1 =>
   have H := HA.out
   clear HA
   simp only [impl_isAround.l0] at H
   by_cases c4 : x2_1 ≥ 0
   ·rw [if_pos c4] at H
    have c4b0 : decide (0 ≤ x2_1) = true := decide_eq_true c4
    clear c4
    by_cases c5 : x2_1 = a1
    ·rw [if_pos c5] at H
     have c5b0 : (x2_1 == a1) = true := beq_iff_eq.mpr c5
     have c5b1 : (x2_1 != a1) = false := bne_eq_false_iff_eq.mpr c5
     clear c5
     obtain rfl := Option.some.inj H
     go_wp2
     go_ret
     exact ⟨by first | rfl | (simp; done) | (simp [*]; done), by repeat (first | exact Drawn0.refl _ | apply Drawn0.step)⟩
    ·rw [if_neg c5] at H
     have c5b0 : (x2_1 == a1) = false := beq_eq_false_iff_ne.mpr c5
     have c5b1 : (x2_1 != a1) = true := bne_iff_ne.mpr c5
     by_cases c6 : 0 ≤ x2_1
     ·rw [if_pos c6] at H
      have c6b0 : decide (0 ≤ x2_1) = true := decide_eq_true c6
      clear c6
      by_cases c7 : x2_1 < (l0.length : Int)
      ·rw [if_pos c7] at H
       have c7b0 : decide (x2_1 < (l0.length : Int)) = true := decide_eq_true c7
       clear c7
       have H' := Aside0.mk H
       clear H
       have p213 : 0 ≤ (x2_1 : Int) := of_decide_eq_true am_
       have q213 : x2_1 < (l0.length : Int) := of_decide_eq_true am_
       obtain ⟨ad213, A213_2, c213_2, e213, hx213_0, hx213_1, hx213_2, hx213_3, hl213_2, hi213_2⟩ := at_T38 HR0.out x2_1 p213 q213
       cases e213
       have HR213_2 := Aside0.mk hi213_2
       have HC213_2 := Aside0.mk hl213_2
       clear hi213_2 hl213_2
       replace p213 := eq_true p213
       replace q213 := eq_true q213
       go_wp2
       go_roundg k1
       case measure => have := HK1.out; omega
       case rel => exact ⟨((rd_T38 l0 x2_1).f1), sv_, H', ⟨by have := HK1.out; omega⟩, by repeat (first | exact Drawn0.refl _ | apply Drawn0.step)⟩
      ·rw [if_neg c7] at H
       exact absurd H (by simp)
     ·rw [if_neg c6] at H
      exact absurd H (by simp)
   ·rw [if_neg c4] at H
    have c4b0 : decide (0 ≤ x2_1) = false := decide_eq_false c4
    clear c4
    obtain rfl := Option.some.inj H
    go_wp2
    go_ret
    exact ⟨by first | rfl | (simp; done) | (simp [*]; done), by repeat (first | exact Drawn0.refl _ | apply Drawn0.step)⟩

end Go.Proofs.YthfbpmjcjiihnaaGreatDoor.PFnExactMarksText
