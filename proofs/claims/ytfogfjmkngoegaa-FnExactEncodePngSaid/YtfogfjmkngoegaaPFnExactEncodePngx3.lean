-- Laid by a program of this session out of the translation (its own run of the print). Lean checks it.
import Derived.Test.YtfogfjmkngoegaaPFnExactEncodePngx0
import Derived.Test.YtfogfjmkngoegaaPFnExactEncodePngx2
namespace Go.Proofs.Ytfogfjmkngoegaa.PFnExactEncodePng
open Go.RowKit Go.Proofs.YtfogfjmkngoegaaW.PrintWords Go.Proofs.YtfogfjmkngoegaaW.PrintLast Go.Proofs.YtfogfjmkngoegaaW.PrintMore
attribute [local go_sem] max2_int min2_int max_two min_two max_three min_three max_four min_four   -- for this text's walks alone
set_option linter.unusedVariables false
set_option linter.unusedSimpArgs false

/-! ### spec_l2Match: function 50 -/
mutual
def spec_l2Match.l0 : Nat → List Int → Int → Int → Int → Int → Option (Int × Int)
 | 0, _, _, _, _, _ => none
 | k + 1, x0, x1, x6, x7, x8 => if x8 ≤ x1 then (spec_l2Match.l1 k x0 x1 x6 x7 x8 0) else (if x6 < 3 then (some (0, 0)) else (some (x6, x7)))
def spec_l2Match.l1 : Nat → List Int → Int → Int → Int → Int → Int → Option (Int × Int)
 | 0, _, _, _, _, _, _ => none
 | k + 1, x0, x1, x6, x7, x8, x9 => if x9 < 258 then (if (wrap64 (x1 + x9)) < (x0.length : Int) then (if 0 ≤ (wrap64 (x1 + x9)) then (if 0 ≤ (wrap64 ((wrap64 (x1 + x9)) - x8)) then (if (wrap64 ((wrap64 (x1 + x9)) - x8)) < (x0.length : Int) then (if (rd x0 (wrap64 (x1 + x9))) = (rd x0 (wrap64 ((wrap64 (x1 + x9)) - x8))) then (spec_l2Match.l1 k x0 x1 x6 x7 x8 (wrap64 (x9 + 1))) else (if x9 > x6 then (spec_l2Match.l0 k x0 x1 x9 x8 (wrap64 (x8 + 1))) else (spec_l2Match.l0 k x0 x1 x6 x7 (wrap64 (x8 + 1))))) else (none)) else (none)) else (none)) else (if x9 > x6 then (spec_l2Match.l0 k x0 x1 x9 x8 (wrap64 (x8 + 1))) else (spec_l2Match.l0 k x0 x1 x6 x7 (wrap64 (x8 + 1))))) else (if x9 > x6 then (spec_l2Match.l0 k x0 x1 x9 x8 (wrap64 (x8 + 1))) else (spec_l2Match.l0 k x0 x1 x6 x7 (wrap64 (x8 + 1))))
end
def spec_l2Match.f (k : Nat) (l0 : List Int) (a1 : Int) : Option (Int × Int) := spec_l2Match.l0 k l0 a1 0 0 1
set_option maxHeartbeats 8000000 in
set_option maxRecDepth 100000 in
theorem spec_l2Match.calls (k : Nat) (A0 : Option Addr) (c0 : Nat) (l0 : List Int) (a1 : Int) (r1 : Int) (r2 : Int) (w : World) (hr0 : Kd.C (Kd.int .u8) w A0 l0.length l0) (hc0 : l0.length ≤ c0) (h : spec_l2Match.f k l0 a1 = some (r1, r2)) :
  Calls Try.prog 50 #[.slice A0 l0.length c0, .int .i64 a1] w fun e w' => e = .returned (.tuple #[.int .i64 r1, .int .i64 r2]) ∧ Drawn0 w w' := by
 have HR0 := Aside0.mk hr0
 have HC0 := Aside0.mk hc0
 clear hr0 hc0
 have H : (spec_l2Match.l0 k l0 a1 0 0 1) = some (r1, r2) := h
 clear h
 have H' := Aside0.mk H
 clear H
 go_enter Try.func50, Try.ntmps50
 go_wp2
 repeat (go_quiet (fail); try go_wp2)
 go_loopg [6, 7, 8] k (fun kq v6 v7 v8 w' => ∃ (x6_1 : Int) (x7_1 : Int) (x8_1 : Int), v6 = .int .i64 x6_1 ∧ v7 = .int .i64 x7_1 ∧ v8 = .int .i64 x8_1 ∧ Aside0 (spec_l2Match.l0 kq l0 a1 x6_1 x7_1 x8_1 = some (r1, r2)) ∧ Aside0 (kq ≤ k) ∧ Drawn0 w w')
 case atStart => exact ⟨(0), (0), (1), sv_, sv_, sv_, H', ⟨Nat.le_refl _⟩, by repeat (first | exact Drawn0.refl _ | apply Drawn0.step)⟩
 case round =>
  clear H'
  (try clear p2)
  obtain ⟨x6_1, x7_1, x8_1, rfl, rfl, rfl, HA, HK1, ⟨m1, rfl⟩⟩ := hrel
  cases gk with
  | zero => exact absurd HA.out (by simp [spec_l2Match.l0])
  | succ k1 =>
   have H := HA.out
   clear HA
   simp only [spec_l2Match.l0] at H
   by_cases c3 : x8_1 ≤ a1
   ·rw [if_pos c3] at H
    have c3b0 : decide (x8_1 ≤ a1) = true := decide_eq_true c3
    clear c3
    have H' := Aside0.mk H
    clear H
    go_wp2
    repeat (go_quiet (fail); try go_wp2)
    go_loopg [9] k1 (fun kq v9 w' => ∃ (x9_2 : Int), v9 = .int .i64 x9_2 ∧ Aside0 (spec_l2Match.l1 kq l0 a1 x6_1 x7_1 x8_1 x9_2 = some (r1, r2)) ∧ Aside0 (kq ≤ k1) ∧ Drawn0 w w')
    case atStart => exact ⟨(0), sv_, H', ⟨Nat.le_refl _⟩, by repeat (first | exact Drawn0.refl _ | apply Drawn0.step)⟩
    case round =>
     clear H'
     (try clear p2);(try clear c3);(try clear c3b0);(try clear p2)
     obtain ⟨x9_2, rfl, HA, HK2, ⟨m2, rfl⟩⟩ := hrel
     cases gk with
     | zero => exact absurd HA.out (by simp [spec_l2Match.l1])
     | succ k2 =>
      have H := HA.out
      clear HA
      simp only [spec_l2Match.l1] at H
      by_cases c4 : x9_2 < 258
      ·rw [if_pos c4] at H
       have c4b0 : decide (x9_2 < 258) = true := decide_eq_true c4
       clear c4
       by_cases c5 : (wrap64 (a1 + x9_2)) < (l0.length : Int)
       ·rw [if_pos c5] at H
        have c5b0 : decide ((wrap64 (a1 + x9_2)) < (l0.length : Int)) = true := decide_eq_true c5
        clear c5
        obtain ⟨ji6, hji6⟩ : ∃ j_ : Int, (wrap64 (a1 + x9_2)) = j_ := ⟨_, rfl⟩
        replace H : (if 0 ≤ (ji6) then (if 0 ≤ (wrap64 ((ji6) - x8_1)) then (if (wrap64 ((ji6) - x8_1)) < (l0.length : Int) then (if (rd l0 (ji6)) = (rd l0 (wrap64 ((ji6) - x8_1))) then (spec_l2Match.l1 k2 l0 a1 x6_1 x7_1 x8_1 (wrap64 (x9_2 + 1))) else (if x9_2 > x6_1 then (spec_l2Match.l0 k2 l0 a1 x9_2 x8_1 (wrap64 (x8_1 + 1))) else (spec_l2Match.l0 k2 l0 a1 x6_1 x7_1 (wrap64 (x8_1 + 1))))) else (none)) else (none)) else (none)) = some (r1, r2) := by first | (rw [hji6] at H; exact H) | (simp only [hji6] at H ⊢; exact H)
        (try rw [hji6] at c5b0)
        have hji6w : (IntKind.i64.wrap (a1 + x9_2)) = ji6 := (i64_w _).trans hji6
        by_cases c7 : 0 ≤ (ji6)
        ·rw [if_pos c7] at H
         have c7b0 : decide (0 ≤ (ji6)) = true := decide_eq_true c7
         clear c7
         obtain ⟨ji8, hji8⟩ : ∃ j_ : Int, (wrap64 ((ji6) - x8_1)) = j_ := ⟨_, rfl⟩
         replace H : (if 0 ≤ (ji8) then (if (ji8) < (l0.length : Int) then (if (rd l0 (ji6)) = (rd l0 (ji8)) then (spec_l2Match.l1 k2 l0 a1 x6_1 x7_1 x8_1 (wrap64 (x9_2 + 1))) else (if x9_2 > x6_1 then (spec_l2Match.l0 k2 l0 a1 x9_2 x8_1 (wrap64 (x8_1 + 1))) else (spec_l2Match.l0 k2 l0 a1 x6_1 x7_1 (wrap64 (x8_1 + 1))))) else (none)) else (none)) = some (r1, r2) := by first | (rw [hji8] at H; exact H) | (simp only [hji8] at H ⊢; exact H)
         have hji8w : (IntKind.i64.wrap ((ji6) - x8_1)) = ji8 := (i64_w _).trans hji8
         by_cases c9 : 0 ≤ (ji8)
         ·rw [if_pos c9] at H
          have c9b0 : decide (0 ≤ (ji8)) = true := decide_eq_true c9
          clear c9
          by_cases c10 : (ji8) < (l0.length : Int)
          ·rw [if_pos c10] at H
           have c10b0 : decide ((ji8) < (l0.length : Int)) = true := decide_eq_true c10
           clear c10
           by_cases c11 : (rd l0 (ji6)) = (rd l0 (ji8))
           ·rw [if_pos c11] at H
            have c11b0 : ((rd l0 (ji6)) == (rd l0 (ji8))) = true := beq_iff_eq.mpr c11
            have c11b1 : ((rd l0 (ji6)) != (rd l0 (ji8))) = false := bne_eq_false_iff_eq.mpr c11
            clear c11
            have H' := Aside0.mk H
            clear H
            have p132 : 0 ≤ ((ji6) : Int) := of_decide_eq_true am_
            have q132 : (ji6) < (l0.length : Int) := of_decide_eq_true am_
            obtain ⟨ad132, e132, hx132_0⟩ := Kd.at_int HR0.out (ji6) p132 q132
            cases e132
            replace p132 := eq_true p132
            replace q132 := eq_true q132
            have p133 : 0 ≤ ((ji8) : Int) := of_decide_eq_true am_
            have q133 : (ji8) < (l0.length : Int) := of_decide_eq_true am_
            obtain ⟨ad133, e133, hx133_0⟩ := Kd.at_int HR0.out (ji8) p133 q133
            obtain rfl : ad132 = ad133 := (by injection e133)
            replace p133 := eq_true p133
            replace q133 := eq_true q133
            go_wp2
            repeat (go_quiet (fail); try go_wp2)
            go_roundg k2
            case measure => have := HK1.out; have := HK2.out; omega
            case rel => exact ⟨(wrap64 (x9_2 + 1)), sv_, H', ⟨by have := HK1.out; have := HK2.out; omega⟩, by repeat (first | exact Drawn0.refl _ | apply Drawn0.step)⟩
           ·rw [if_neg c11] at H
            have c11b0 : ((rd l0 (ji6)) == (rd l0 (ji8))) = false := beq_eq_false_iff_ne.mpr c11
            have c11b1 : ((rd l0 (ji6)) != (rd l0 (ji8))) = true := bne_iff_ne.mpr c11
            by_cases c12 : x9_2 > x6_1
            ·rw [if_pos c12] at H
             have c12b0 : decide (x6_1 < x9_2) = true := decide_eq_true c12
             clear c12
             have H' := Aside0.mk H
             clear H
             have p132 : 0 ≤ ((ji6) : Int) := of_decide_eq_true am_
             have q132 : (ji6) < (l0.length : Int) := of_decide_eq_true am_
             obtain ⟨ad132, e132, hx132_0⟩ := Kd.at_int HR0.out (ji6) p132 q132
             cases e132
             replace p132 := eq_true p132
             replace q132 := eq_true q132
             have p133 : 0 ≤ ((ji8) : Int) := of_decide_eq_true am_
             have q133 : (ji8) < (l0.length : Int) := of_decide_eq_true am_
             obtain ⟨ad133, e133, hx133_0⟩ := Kd.at_int HR0.out (ji8) p133 q133
             obtain rfl : ad132 = ad133 := (by injection e133)
             replace p133 := eq_true p133
             replace q133 := eq_true q133
             go_wp2
             repeat (go_quiet (fail); try go_wp2)
             go_roundg k2
             case measure => have := HK1.out; have := HK2.out; omega
             case rel => exact ⟨(x9_2), (x8_1), (wrap64 (x8_1 + 1)), sv_, sv_, sv_, H', ⟨by have := HK1.out; have := HK2.out; omega⟩, by repeat (first | exact Drawn0.refl _ | apply Drawn0.step)⟩
            ·rw [if_neg c12] at H
             have c12b0 : decide (x6_1 < x9_2) = false := decide_eq_false c12
             clear c12
             have H' := Aside0.mk H
             clear H
             have p132 : 0 ≤ ((ji6) : Int) := of_decide_eq_true am_
             have q132 : (ji6) < (l0.length : Int) := of_decide_eq_true am_
             obtain ⟨ad132, e132, hx132_0⟩ := Kd.at_int HR0.out (ji6) p132 q132
             cases e132
             replace p132 := eq_true p132
             replace q132 := eq_true q132
             have p133 : 0 ≤ ((ji8) : Int) := of_decide_eq_true am_
             have q133 : (ji8) < (l0.length : Int) := of_decide_eq_true am_
             obtain ⟨ad133, e133, hx133_0⟩ := Kd.at_int HR0.out (ji8) p133 q133
             obtain rfl : ad132 = ad133 := (by injection e133)
             replace p133 := eq_true p133
             replace q133 := eq_true q133
             go_wp2
             repeat (go_quiet (fail); try go_wp2)
             go_roundg k2
             case measure => have := HK1.out; have := HK2.out; omega
             case rel => exact ⟨(x6_1), (x7_1), (wrap64 (x8_1 + 1)), sv_, sv_, sv_, H', ⟨by have := HK1.out; have := HK2.out; omega⟩, by repeat (first | exact Drawn0.refl _ | apply Drawn0.step)⟩
          ·rw [if_neg c10] at H
           exact absurd H (by simp)
         ·rw [if_neg c9] at H
          exact absurd H (by simp)
        ·rw [if_neg c7] at H
         exact absurd H (by simp)
       ·rw [if_neg c5] at H
        have c5b0 : decide ((wrap64 (a1 + x9_2)) < (l0.length : Int)) = false := decide_eq_false c5
        clear c5
        by_cases c13 : x9_2 > x6_1
        ·rw [if_pos c13] at H
         have c13b0 : decide (x6_1 < x9_2) = true := decide_eq_true c13
         clear c13
         have H' := Aside0.mk H
         clear H
         go_wp2
         repeat (go_quiet (fail); try go_wp2)
         go_roundg k2
         case measure => have := HK1.out; have := HK2.out; omega
         case rel => exact ⟨(x9_2), (x8_1), (wrap64 (x8_1 + 1)), sv_, sv_, sv_, H', ⟨by have := HK1.out; have := HK2.out; omega⟩, by repeat (first | exact Drawn0.refl _ | apply Drawn0.step)⟩
        ·rw [if_neg c13] at H
         have c13b0 : decide (x6_1 < x9_2) = false := decide_eq_false c13
         clear c13
         have H' := Aside0.mk H
         clear H
         go_wp2
         repeat (go_quiet (fail); try go_wp2)
         go_roundg k2
         case measure => have := HK1.out; have := HK2.out; omega
         case rel => exact ⟨(x6_1), (x7_1), (wrap64 (x8_1 + 1)), sv_, sv_, sv_, H', ⟨by have := HK1.out; have := HK2.out; omega⟩, by repeat (first | exact Drawn0.refl _ | apply Drawn0.step)⟩
      ·rw [if_neg c4] at H
       have c4b0 : decide (x9_2 < 258) = false := decide_eq_false c4
       clear c4
       by_cases c14 : x9_2 > x6_1
       ·rw [if_pos c14] at H
        have c14b0 : decide (x6_1 < x9_2) = true := decide_eq_true c14
        clear c14
        have H' := Aside0.mk H
        clear H
        go_wp2
        repeat (go_quiet (fail); try go_wp2)
        go_roundg k2
        case measure => have := HK1.out; have := HK2.out; omega
        case rel => exact ⟨(x9_2), (x8_1), (wrap64 (x8_1 + 1)), sv_, sv_, sv_, H', ⟨by have := HK1.out; have := HK2.out; omega⟩, by repeat (first | exact Drawn0.refl _ | apply Drawn0.step)⟩
       ·rw [if_neg c14] at H
        have c14b0 : decide (x6_1 < x9_2) = false := decide_eq_false c14
        clear c14
        have H' := Aside0.mk H
        clear H
        go_wp2
        repeat (go_quiet (fail); try go_wp2)
        go_roundg k2
        case measure => have := HK1.out; have := HK2.out; omega
        case rel => exact ⟨(x6_1), (x7_1), (wrap64 (x8_1 + 1)), sv_, sv_, sv_, H', ⟨by have := HK1.out; have := HK2.out; omega⟩, by repeat (first | exact Drawn0.refl _ | apply Drawn0.step)⟩
   ·rw [if_neg c3] at H
    have c3b0 : decide (x8_1 ≤ a1) = false := decide_eq_false c3
    clear c3
    by_cases c15 : x6_1 < 3
    ·rw [if_pos c15] at H
     have c15b0 : decide (x6_1 < 3) = true := decide_eq_true c15
     clear c15
     simp only [Option.some.injEq, Prod.mk.injEq] at H
     obtain ⟨rfl, rfl⟩ := H
     go_wp2
     repeat (go_quiet (fail); try go_wp2)
     go_ret2
     exact ⟨by first | rfl | (simp; done) | (simp [*]; done), by repeat (first | exact Drawn0.refl _ | apply Drawn0.step)⟩
    ·rw [if_neg c15] at H
     have c15b0 : decide (x6_1 < 3) = false := decide_eq_false c15
     clear c15
     simp only [Option.some.injEq, Prod.mk.injEq] at H
     obtain ⟨rfl, rfl⟩ := H
     go_wp2
     repeat (go_quiet (fail); try go_wp2)
     go_ret2
     exact ⟨by first | rfl | (simp; done) | (simp [*]; done), by repeat (first | exact Drawn0.refl _ | apply Drawn0.step)⟩

/-! ### spec_l2Bits_code: function 51 -/
def spec_l2Bits_codeG (n : Int) : Nat → List Int → Int → Option (List Int × Int)
 | 0, o, m => some (o, m)
 | r + 1, o, m => (spec_l2Bits_bit.f o m (bits .and .i64 (n / 2 ^ r) 1)).bind fun p => spec_l2Bits_codeG n r p.1 p.2
def spec_l2Bits_code.f (out : List Int) (many n cnt : Int) : Option (List Int × Int) := if 0 ≤ cnt ∧ cnt ≤ 62 then spec_l2Bits_codeG n cnt.toNat out many else none
set_option maxHeartbeats 8000000 in
set_option maxRecDepth 100000 in
theorem spec_l2Bits_code.calls (out : List Int) (many n cnt : Int) (out' : List Int) (many' : Int) (base g : Nat) (w0 w : World) (hbase : base ≤ w.heap.size) (hB : Below base w0 w) (hW : W8 67 w base g out many) (h : spec_l2Bits_code.f out many n cnt = some (out', many')) :
  Calls Try.prog 51 #[.pointer (some ⟨g, 0, none⟩), .int .i64 n, .int .i64 cnt] w fun e w' => e = .returned (.tuple #[]) ∧ Below base w0 w' ∧ W8 67 w' base g out' many' ∧ Kept8 w w' g := by
 unfold spec_l2Bits_code.f at h
 by_cases hc : 0 ≤ cnt ∧ cnt ≤ 62
 rotate_left
 ·rw [if_neg hc] at h; cases h
 rw [if_pos hc] at h
 have HB := Aside0.mk hB
 have HW := Aside0.mk hW
 have HH := Aside0.mk h
 have HC := Aside0.mk hc
 have HSZ := Aside0.mk hbase
 have hc0 := hc.1
 have hc62 := hc.2
 clear hB hW h hc hbase
 go_enter Try.func51, Try.ntmps51
 go_wp2
 go_loopg [6] cnt.toNat (fun kq v w' => ∃ (o : List Int) (m : Int), v = .int .i64 ((kq : Int) - 1) ∧ Aside0 (spec_l2Bits_codeG n kq o m = some (out', many')) ∧ Aside0 (kq ≤ cnt.toNat) ∧ Aside0 (base ≤ w'.heap.size) ∧ Aside0 (Below base w0 w') ∧ Aside0 (W8 67 w' base g o m) ∧ Aside0 (Kept8 w w' g))
 case atStart => exact ⟨out, many, by rw [Int.toNat_of_nonneg hc0], HH, ⟨Nat.le_refl _⟩, HSZ, HB, HW, ⟨Kept8.refl w g⟩⟩
 case round =>
  obtain ⟨o, m, rfl, HA, HI, HS, HB2, HW2, HK⟩ := hrel
  cases gk with
  | zero =>
   have H := HA.out
   simp only [spec_l2Bits_codeG, Option.some.injEq, Prod.mk.injEq] at H
   obtain ⟨rfl, rfl⟩ := H
   clear HA HI
   go_wp2
   go_end0
   exact ⟨rfl, HB2.out, HW2.out, HK.out⟩
  | succ r =>
   have H := HA.out
   clear HA
   simp only [spec_l2Bits_codeG] at H
   obtain ⟨⟨o2, m2⟩, hd, H⟩ := Option.bind_eq_some_iff.mp H
   have HD := Aside0.mk hd
   have H' := Aside0.mk H
   have er : ((r + 1 : Nat) : Int) - 1 = (r : Int) := by omega
   rw [er]
   have hk2 : (r : Int) < 64 := by have := HI.out; omega
   have hk3 : decide ((r : Int) ≥ 0) = true := decide_eq_true (by omega)
   clear hd H er
   go_wp2_with (go_at_call 66; (with_reducible refine (spec_l2Bits_bit.calls o m _ o2 m2 base g w0 _ HS.out HB2.out HW2.out HD.out).mono ?_); rintro e w2 ⟨rfl, hb_, hw_, hk_⟩; have X1 := Aside0.mk hb_; have X2 := Aside0.mk hw_; have X3 := Aside0.mk (Kept8.trans HK.out hk_); have X4 := Aside0.mk (Nat.le_trans HS.out hk_.1); clear hb_ hw_ hk_)
   go_roundg r
   case measure => omega
   case rel => exact ⟨o2, m2, rfl, H', ⟨by have := HI.out; omega⟩, X4, X1, X2, X3⟩

/-! ### spec_l2Base: function 52 -/
def spec_l2Base.f (a0 : Int) : Option (Int × Int) := if a0 = 28 then (some (258, 0)) else (if a0 < 8 then (some (wrap64 (3 + a0), 0)) else (if 0 ≤ (IntKind.u64.wrap (wrap64 ((wrap64 (Int.tdiv a0 4)) - 1))) then (some (wrap64 (3 + (shl .i64 (wrap64 (4 + (Int.tmod a0 4))) (IntKind.u64.wrap (wrap64 ((wrap64 (Int.tdiv a0 4)) - 1))))), wrap64 ((wrap64 (Int.tdiv a0 4)) - 1))) else (none)))
set_option maxHeartbeats 8000000 in
set_option maxRecDepth 100000 in
theorem spec_l2Base.calls (a0 : Int) (r1 : Int) (r2 : Int) (w : World) (h : spec_l2Base.f a0 = some (r1, r2)) :
  Calls Try.prog 52 #[.int .i64 a0] w fun e w' => e = .returned (.tuple #[.int .i64 r1, .int .i64 r2]) ∧ Drawn0 w w' := by
 have H : (if a0 = 28 then (some (258, 0)) else (if a0 < 8 then (some (wrap64 (3 + a0), 0)) else (if 0 ≤ (IntKind.u64.wrap (wrap64 ((wrap64 (Int.tdiv a0 4)) - 1))) then (some (wrap64 (3 + (shl .i64 (wrap64 (4 + (Int.tmod a0 4))) (IntKind.u64.wrap (wrap64 ((wrap64 (Int.tdiv a0 4)) - 1))))), wrap64 ((wrap64 (Int.tdiv a0 4)) - 1))) else (none)))) = some (r1, r2) := h
 clear h
 by_cases c2 : a0 = 28
 ·rw [if_pos c2] at H
  have c2b0 : (a0 == 28) = true := beq_iff_eq.mpr c2
  have c2b1 : (a0 != 28) = false := bne_eq_false_iff_eq.mpr c2
  clear c2
  simp only [Option.some.injEq, Prod.mk.injEq] at H
  obtain ⟨rfl, rfl⟩ := H
  go_enter Try.func52, Try.ntmps52
  go_wp2
  go_ret2
  exact ⟨by first | rfl | (simp; done) | (simp [*]; done), by repeat (first | exact Drawn0.refl _ | apply Drawn0.step)⟩
 ·rw [if_neg c2] at H
  have c2b0 : (a0 == 28) = false := beq_eq_false_iff_ne.mpr c2
  have c2b1 : (a0 != 28) = true := bne_iff_ne.mpr c2
  by_cases c3 : a0 < 8
  ·rw [if_pos c3] at H
   have c3b0 : decide (a0 < 8) = true := decide_eq_true c3
   clear c3
   simp only [Option.some.injEq, Prod.mk.injEq] at H
   obtain ⟨rfl, rfl⟩ := H
   go_enter Try.func52, Try.ntmps52
   go_wp2
   go_ret2
   exact ⟨by first | rfl | (simp; done) | (simp [*]; done), by repeat (first | exact Drawn0.refl _ | apply Drawn0.step)⟩
  ·rw [if_neg c3] at H
   have c3b0 : decide (a0 < 8) = false := decide_eq_false c3
   clear c3
   obtain ⟨ji4, hji4⟩ : ∃ j_ : Int, (IntKind.u64.wrap (wrap64 ((wrap64 (Int.tdiv a0 4)) - 1))) = j_ := ⟨_, rfl⟩
   replace H : (if 0 ≤ (ji4) then (some (wrap64 (3 + (shl .i64 (wrap64 (4 + (Int.tmod a0 4))) (ji4))), wrap64 ((wrap64 (Int.tdiv a0 4)) - 1))) else (none)) = some (r1, r2) := by first | (rw [hji4] at H; exact H) | (simp only [hji4] at H ⊢; exact H)
   by_cases c5 : 0 ≤ (ji4)
   ·rw [if_pos c5] at H
    have c5b0 := eq_true c5
    have c5b1 : decide (0 ≤ (ji4)) = true := decide_eq_true c5
    clear c5
    obtain ⟨ji6, hji6⟩ : ∃ j_ : Int, (shl .i64 (wrap64 (4 + (Int.tmod a0 4))) (ji4)) = j_ := ⟨_, rfl⟩
    replace H : (some (wrap64 (3 + (ji6)), wrap64 ((wrap64 (Int.tdiv a0 4)) - 1))) = some (r1, r2) := by first | (rw [hji6] at H; exact H) | (simp only [hji6] at H ⊢; exact H)
    have hji6_ : (IntKind.i64.wrap ((wrap64 (4 + (Int.tmod a0 4))) * 2 ^ min (ji4).toNat 64)) = ji6 := hji6
    have hji6z : (ji4) ≤ 64 → (IntKind.i64.wrap ((wrap64 (4 + (Int.tmod a0 4))) * 2 ^ (ji4).toNat)) = ji6 := shl_small hji6
    have hji6y : (wrap64 ((wrap64 (4 + (Int.tmod a0 4))) * 2 ^ min (ji4).toNat 64)) = ji6 := (i64_w _).symm.trans hji6_
    have hji6x : (ji4) ≤ 64 → (wrap64 ((wrap64 (4 + (Int.tmod a0 4))) * 2 ^ (ji4).toNat)) = ji6 := fun h_ => (i64_w _).symm.trans (hji6z h_)
    simp only [Option.some.injEq, Prod.mk.injEq] at H
    obtain ⟨rfl, rfl⟩ := H
    go_enter Try.func52, Try.ntmps52
    go_wp2
    go_ret2
    exact ⟨by first | rfl | (simp; done) | (simp only [← hji4, ← hji6] <;> (first | rfl | simp)) | (simp [*]; done), by repeat (first | exact Drawn0.refl _ | apply Drawn0.step)⟩
   ·rw [if_neg c5] at H
    exact absurd H (by simp)

/-! ### spec_l2Back: function 53 -/
def spec_l2Back.f (a0 : Int) : Option (Int × Int) := if a0 < 4 then (some (wrap64 (1 + a0), 0)) else (if 0 ≤ (IntKind.u64.wrap (wrap64 ((wrap64 (Int.tdiv a0 2)) - 1))) then (some (wrap64 (1 + (shl .i64 (wrap64 (2 + (Int.tmod a0 2))) (IntKind.u64.wrap (wrap64 ((wrap64 (Int.tdiv a0 2)) - 1))))), wrap64 ((wrap64 (Int.tdiv a0 2)) - 1))) else (none))
set_option maxHeartbeats 8000000 in
set_option maxRecDepth 100000 in
theorem spec_l2Back.calls (a0 : Int) (r1 : Int) (r2 : Int) (w : World) (h : spec_l2Back.f a0 = some (r1, r2)) :
  Calls Try.prog 53 #[.int .i64 a0] w fun e w' => e = .returned (.tuple #[.int .i64 r1, .int .i64 r2]) ∧ Drawn0 w w' := by
 have H : (if a0 < 4 then (some (wrap64 (1 + a0), 0)) else (if 0 ≤ (IntKind.u64.wrap (wrap64 ((wrap64 (Int.tdiv a0 2)) - 1))) then (some (wrap64 (1 + (shl .i64 (wrap64 (2 + (Int.tmod a0 2))) (IntKind.u64.wrap (wrap64 ((wrap64 (Int.tdiv a0 2)) - 1))))), wrap64 ((wrap64 (Int.tdiv a0 2)) - 1))) else (none))) = some (r1, r2) := h
 clear h
 by_cases c2 : a0 < 4
 ·rw [if_pos c2] at H
  have c2b0 : decide (a0 < 4) = true := decide_eq_true c2
  clear c2
  simp only [Option.some.injEq, Prod.mk.injEq] at H
  obtain ⟨rfl, rfl⟩ := H
  go_enter Try.func53, Try.ntmps53
  go_wp2
  go_ret2
  exact ⟨by first | rfl | (simp; done) | (simp [*]; done), by repeat (first | exact Drawn0.refl _ | apply Drawn0.step)⟩
 ·rw [if_neg c2] at H
  have c2b0 : decide (a0 < 4) = false := decide_eq_false c2
  clear c2
  obtain ⟨ji3, hji3⟩ : ∃ j_ : Int, (IntKind.u64.wrap (wrap64 ((wrap64 (Int.tdiv a0 2)) - 1))) = j_ := ⟨_, rfl⟩
  replace H : (if 0 ≤ (ji3) then (some (wrap64 (1 + (shl .i64 (wrap64 (2 + (Int.tmod a0 2))) (ji3))), wrap64 ((wrap64 (Int.tdiv a0 2)) - 1))) else (none)) = some (r1, r2) := by first | (rw [hji3] at H; exact H) | (simp only [hji3] at H ⊢; exact H)
  by_cases c4 : 0 ≤ (ji3)
  ·rw [if_pos c4] at H
   have c4b0 := eq_true c4
   have c4b1 : decide (0 ≤ (ji3)) = true := decide_eq_true c4
   clear c4
   obtain ⟨ji5, hji5⟩ : ∃ j_ : Int, (shl .i64 (wrap64 (2 + (Int.tmod a0 2))) (ji3)) = j_ := ⟨_, rfl⟩
   replace H : (some (wrap64 (1 + (ji5)), wrap64 ((wrap64 (Int.tdiv a0 2)) - 1))) = some (r1, r2) := by first | (rw [hji5] at H; exact H) | (simp only [hji5] at H ⊢; exact H)
   have hji5_ : (IntKind.i64.wrap ((wrap64 (2 + (Int.tmod a0 2))) * 2 ^ min (ji3).toNat 64)) = ji5 := hji5
   have hji5z : (ji3) ≤ 64 → (IntKind.i64.wrap ((wrap64 (2 + (Int.tmod a0 2))) * 2 ^ (ji3).toNat)) = ji5 := shl_small hji5
   have hji5y : (wrap64 ((wrap64 (2 + (Int.tmod a0 2))) * 2 ^ min (ji3).toNat 64)) = ji5 := (i64_w _).symm.trans hji5_
   have hji5x : (ji3) ≤ 64 → (wrap64 ((wrap64 (2 + (Int.tmod a0 2))) * 2 ^ (ji3).toNat)) = ji5 := fun h_ => (i64_w _).symm.trans (hji5z h_)
   simp only [Option.some.injEq, Prod.mk.injEq] at H
   obtain ⟨rfl, rfl⟩ := H
   go_enter Try.func53, Try.ntmps53
   go_wp2
   go_ret2
   exact ⟨by first | rfl | (simp; done) | (simp only [← hji3, ← hji5] <;> (first | rfl | simp)) | (simp [*]; done), by repeat (first | exact Drawn0.refl _ | apply Drawn0.step)⟩
  ·rw [if_neg c4] at H
   exact absurd H (by simp)

/-! ### spec_l2PackFixed: function 19 -/
theorem sl64_ {w : World} {base : Nat} {ok : Nat → Prop} {v : Value} {xs : List Int} (h : Kd.R (Kd.int .i64) 3 w base ok v xs) (hn : 0 < xs.length) : ∃ b cap, v = .slice (some ⟨b, 0, none⟩) xs.length cap ∧ xs.length ≤ cap := by
 rcases (Kd.own_of_R h).2 with ⟨_, hz⟩ | ⟨b, cap, cur, e, _, _, hc, _⟩
 ·omega
 ·exact ⟨b, cap, e, hc⟩
theorem R_kept8 {w W : World} {base g T : Nat} {cs : Array Value} {ok : Nat → Prop} {v : Value} {xs : List Int} (h : Kd.R (Kd.int .i64) 3 w base ok v xs) (hk : Kept8 w W g) (hg : w.heap[g]? = some (.cells cs T (0, 0))) (hT : T ≠ 3) : Kd.R (Kd.int .i64) 3 W base ok v xs := by
 refine Kd.R_mono (Kd.R_step (Kd.R_bound h) (fun k hk2 hlt => ?_)) (fun _ h => h.1)
 obtain ⟨_, _, _, q, hq, cells, hc⟩ := hk2
 have hq3 : q = 3 := by simpa [Kd.int, Kd.scalar] using hq
 subst hq3
 refine hk.2 k hlt (fun e => ?_) (fun cs' e => ?_)
 ·subst e; rw [hg] at hc; injection hc with hc; injection hc with _ h2; exact hT h2
 ·rw [hc] at e; injection e with e; injection e with _ h2; exact absurd h2 (by decide)
/-- what is known while bits are laid down: the block, and two rows of numbers beside it. -/
structure PkSt (T base : Nat) (w0 W : World) (g : Nat) (vl vc : Value) (ls cs out : List Int) (many : Int) : Prop where
 size : base ≤ W.heap.size
 below : Below base w0 W
 bits : W8 T W base g out many
 len : Kd.R (Kd.int .i64) 3 W base (fun _ => True) vl ls
 cod : Kd.R (Kd.int .i64) 3 W base (fun _ => True) vc cs
theorem PkSt.drewN {T base g : Nat} {w0 W : World} {vl vc : Value} {ls cs out : List Int} {many : Int} (h : PkSt T base w0 W g vl vc ls cs out many) (n : Nat) : PkSt T base w0 (W.drewN n) g vl vc ls cs out many :=
 ⟨h.size, pw_below_drewN h.below n, h.bits.drewN n, Kd.R_drewN h.len n, Kd.R_drewN h.cod n⟩
theorem PkSt.drew {T base g : Nat} {w0 W : World} {vl vc : Value} {ls cs out : List Int} {many : Int} (h : PkSt T base w0 W g vl vc ls cs out many) : PkSt T base w0 W.drew g vl vc ls cs out many :=
 ⟨h.size, below_drew1 h.below, h.bits.drew, Kd.R_drew h.len, Kd.R_drew h.cod⟩
theorem PkSt.told {T base g : Nat} {w0 W V : World} {vl vc : Value} {ls cs out out' : List Int} {many many' : Int} (h : PkSt T base w0 W g vl vc ls cs out many) (hT : T ≠ 3) (hb : Below base w0 V) (hw : W8 T V base g out' many') (hk : Kept8 W V g) : PkSt T base w0 V g vl vc ls cs out' many' := by
 obtain ⟨v, h1, _⟩ := h.bits
 exact ⟨Nat.le_trans h.size hk.1, hb, hw, R_kept8 h.len hk h1 hT, R_kept8 h.cod hk h1 hT⟩
def pkB (n : Int) : Nat → Int → Option Nat
 | 0, _ => none
 | r + 1, b => if b > n then (spec_l2Base.f ((r : Int) - 1)).bind fun p => pkB n r p.1 else some r
def pkF (n : Int) : Nat → Int → Option Nat
 | 0, _ => none
 | r + 1, b => if b > n then (spec_l2Back.f ((r : Int) - 1)).bind fun p => pkF n r p.1 else some r
def spec_l2PackFixed.l0 (D ls cs : List Int) : Nat → Int → List Int → Int → Option (List Int)
 | 0, _, _, _ => none
 | k + 1, at_, o, m => if at_ < (D.length : Int) then (if 0 ≤ at_ then (spec_l2Match.f k D at_).bind fun q => if q.1 = 0 then (if 0 ≤ rd D at_ ∧ rd D at_ < 256 then (spec_l2Bits_code.f o m (rd cs (rd D at_)) (rd ls (rd D at_))).bind fun p => spec_l2PackFixed.l0 D ls cs k (wrap64 (at_ + 1)) p.1 p.2 else none) else
   (spec_l2Base.f 28).bind fun b28 => (pkB q.1 29 b28.1).bind fun kk => (spec_l2Base.f (kk : Int)).bind fun bm => (spec_l2Bits_code.f o m (rd cs (257 + (kk : Int))) (rd ls (257 + (kk : Int)))).bind fun p => (spec_l2Bits_number.f p.1 p.2 (wrap64 (q.1 - bm.1)) bm.2).bind fun p =>
   (spec_l2Back.f 29).bind fun b29 => (pkF q.2 30 b29.1).bind fun kf => (spec_l2Back.f (kf : Int)).bind fun fm => (spec_l2Bits_code.f p.1 p.2 (kf : Int) 5).bind fun p => (spec_l2Bits_number.f p.1 p.2 (wrap64 (q.2 - fm.1)) fm.2).bind fun p => spec_l2PackFixed.l0 D ls cs k (wrap64 (at_ + q.1)) p.1 p.2 else none)
  else (spec_l2Bits_code.f o m 0 7).bind fun p => some p.1
def spec_l2PackFixed.f (k : Nat) (D : List Int) : Option (List Int) := (spec_l2Fixed.f k).bind fun ls => (spec_l2Codes.f k ls).bind fun cs => if ls.length = 288 ∧ cs.length = 288 then (spec_l2Bits_number.f [] 0 3 3).bind fun p => spec_l2PackFixed.l0 D ls cs k 0 p.1 p.2 else none
set_option maxHeartbeats 8000000 in
set_option maxRecDepth 100000 in
theorem spec_l2PackFixed.calls (k : Nat) (A0 : Option Addr) (c0 : Nat) (l0 : List Int) (r : List Int) (w : World) (hr0 : Kd.C (Kd.int .u8) w A0 l0.length l0) (hc0 : l0.length ≤ c0) (h : spec_l2PackFixed.f k l0 = some r) :
  Calls Try.prog 19 #[.slice A0 l0.length c0] w fun e w' => ∃ v0_ : Value, e = .returned (v0_) ∧ Kd.R (Kd.int .u8) 5 w' w.heap.size (fun _ => True) v0_ r ∧ Below w.heap.size w w' := by
 have HR0 := Aside0.mk hr0
 have HC0 := Aside0.mk hc0
 clear hr0 hc0
 unfold spec_l2PackFixed.f at h
 obtain ⟨ls, hls, h⟩ := Option.bind_eq_some_iff.mp h
 obtain ⟨cs, hcs, h⟩ := Option.bind_eq_some_iff.mp h
 by_cases h288 : ls.length = 288 ∧ cs.length = 288
 rotate_left
 ·rw [if_neg h288] at h; cases h
 rw [if_pos h288] at h
 obtain ⟨⟨o2, m2⟩, hn, h⟩ := Option.bind_eq_some_iff.mp h
 have HLS := Aside0.mk hls
 have HCS := Aside0.mk hcs
 have HNL := Aside0.mk h288.1
 have HNC := Aside0.mk h288.2
 have HN := Aside0.mk hn
 have HH := Aside0.mk h
 clear hls hcs h288 hn h
 have HB := Aside0.mk (Below.refl w.heap.size w)
 go_enter Try.func19, Try.ntmps19
 go_upto_region 4 with (first
  | (go_at_call 47; (with_reducible refine (spec_l2Fixed.calls k ls _ HLS.out).mono ?_); rintro e w2 ⟨v0, rfl, hR, hb⟩; obtain ⟨bl, cl, rfl, hcl⟩ := sl64_ hR (by have := HNL.out; omega); have RL := Aside0.mk hR; have BL := Aside0.mk hb; have CL := Aside0.mk hcl; clear hR hb hcl)
  | (go_at_call 48; (with_reducible refine (spec_l2Codes.calls k _ _ ls cs _ (Kd.R_reads' RL.out).2.2 CL.out HCS.out).mono ?_); rintro e w3 ⟨v1, rfl, hR, hb⟩; obtain ⟨bc, cc, rfl, hcc⟩ := sl64_ hR (by have := HNC.out; omega); have RC := Aside0.mk hR; have BC := Aside0.mk hb; have CC := Aside0.mk hcc; clear hR hb hcc))
 obtain ⟨g, hg⟩ : ∃ g : Nat, g = w3.heap.size := ⟨_, rfl⟩
 obtain ⟨W0, hW0⟩ : ∃ W0 : World, W0 = w3.alloc (.cells #[.slice none 0 0, .int .i64 0] 67) := ⟨_, rfl⟩
 rw [← hg, ← hW0]
 have S0 : Aside0 (PkSt 67 w.heap.size w W0 g (.slice (some ⟨bl, 0, none⟩) ls.length cl) (.slice (some ⟨bc, 0, none⟩) cs.length cc) ls cs [] 0) := ⟨by
  have b1 := BL.out
  have b2 := Below.mono BC.out b1.size
  have hz : w.heap.size ≤ w3.heap.size := Nat.le_trans b1.size b2.size
  subst hg
  subst hW0
  exact ⟨by rw [World.size_alloc]; omega, (b1.trans b2).alloc hz _, ⟨_, blk_new _ _, hz, Kd.R_nil _ _ _ _ _⟩, Kd.R_alloc (Kd.R_below RL.out BC.out) _, Kd.R_alloc (Kd.R_lower RC.out b1.size) _⟩⟩
 clear hg hW0 RL BL RC BC
 clear w2 w3
 go_wp2_with (go_at_call 49; (with_reducible refine (spec_l2Bits_number.calls [] 0 3 3 o2 m2 w.heap.size _ w _ (S0.out).size (S0.out).below (S0.out).bits HN.out).mono ?_); rintro e w2 ⟨rfl, hb_, hw_, hk_⟩; have S2 := Aside0.mk (PkSt.told (S0.out) (by decide) hb_ hw_ hk_); clear hb_ hw_ hk_)
 go_loopg [6] k (fun kq v w' => ∃ (a : Int) (o : List Int) (m : Int), v = .int .i64 a ∧ Aside0 (spec_l2PackFixed.l0 l0 ls cs kq a o m = some r) ∧ Aside0 (PkSt 67 w.heap.size w w' g (.slice (some ⟨bl, 0, none⟩) ls.length cl) (.slice (some ⟨bc, 0, none⟩) cs.length cc) ls cs o m))
 case atStart => exact ⟨0, o2, m2, rfl, HH, S2⟩
 case round =>
  clear S0 S2 HH HN HB
  clear o2 m2
  obtain ⟨a, o, m, rfl, HA, ST⟩ := hrel
  cases gk with
  | zero => exact absurd HA.out (by simp [spec_l2PackFixed.l0])
  | succ kf =>
   have H := HA.out
   clear HA
   rw [spec_l2PackFixed.l0] at H
   have HR1 := Aside0.mk (Kd.C_below HR0.out ST.out.below)
   by_cases c1 : a < (l0.length : Int)
   rotate_left
   ·rw [if_neg c1] at H
    obtain ⟨⟨o2, m2⟩, hd, H⟩ := Option.bind_eq_some_iff.mp H
    obtain rfl := Option.some.inj H
    have HD := Aside0.mk hd
    have c1b : decide (a < (l0.length : Int)) = false := decide_eq_false c1
    clear hd H c1
    go_wp2_with (go_at_call 51; (with_reducible refine (spec_l2Bits_code.calls o m 0 7 o2 m2 w.heap.size _ w _ (ST.out).size (ST.out).below (ST.out).bits HD.out).mono ?_); rintro e w2 ⟨rfl, hb_, hw_, hk_⟩; have S2 := Aside0.mk (PkSt.told (ST.out) (by decide) hb_ hw_ hk_); clear hb_ hw_ hk_; obtain ⟨vo, hb_, hg_, hR_⟩ := S2.out.bits; have k0_ := (blk_cell hb_ 0).trans rfl; have RO := Aside0.mk hR_; clear hb_ hg_ hR_)
    go_ret
    exact ⟨_, rfl, RO.out, S2.out.below⟩
   ·rw [if_pos c1] at H
    have c1b : decide (a < (l0.length : Int)) = true := decide_eq_true c1
    by_cases c2 : 0 ≤ a
    rotate_left
    ·rw [if_neg c2] at H; cases H
    rw [if_pos c2] at H
    obtain ⟨⟨n, f⟩, hq, H⟩ := Option.bind_eq_some_iff.mp H
    have HQ := Aside0.mk hq
    dsimp only at H
    clear hq
    by_cases hn : n = 0
    ·rw [if_pos hn] at H
     subst hn
     by_cases c3 : 0 ≤ rd l0 a ∧ rd l0 a < 256
     rotate_left
     ·rw [if_neg c3] at H; cases H
     rw [if_pos c3] at H
     obtain ⟨⟨o2, m2⟩, hd, H⟩ := Option.bind_eq_some_iff.mp H
     have H' := Aside0.mk H
     clear H
     go_upto_region 9 with (go_at_call 50; (with_reducible refine (spec_l2Match.calls kf A0 c0 l0 a 0 f _ HR1.out HC0.out HQ.out).mono ?_); rintro e w2 ⟨rfl, ⟨nd, rfl⟩⟩)
     obtain ⟨W, hW⟩ : ∃ W : World, W = wr.drewN nd := ⟨_, rfl⟩
     rw [← hW]
     have S1 : Aside0 (PkSt 67 w.heap.size w W g (.slice (some ⟨bl, 0, none⟩) ls.length cl) (.slice (some ⟨bc, 0, none⟩) cs.length cc) ls cs o m) := ⟨by rw [hW]; exact ST.out.drewN nd⟩
     obtain ⟨ad, e1, hx⟩ := Kd.at_int (Kd.C_below HR0.out S1.out.below) a c2 c1
     subst e1
     obtain ⟨x, ex⟩ : ∃ x : Int, x = rd l0 a := ⟨_, rfl⟩
     rw [← ex] at hx c3
     rw [← ex] at hd
     have HD := Aside0.mk (show spec_l2Bits_code.f o m (rdOf 0 cs x) (rdOf 0 ls x) = some (o2, m2) from hd)
     have hnl := HNL.out
     have hnc := HNC.out
     have hy1 := (Kd.R_celln 0 S1.out.len x c3.1 (by omega)).1
     have hy2 := (Kd.R_celln 0 S1.out.cod x c3.1 (by omega)).1
     have c31 := c3.1
     have c32 := c3.2
     have c33 : x < (ls.length : Int) := by omega
     have c34 : x < (cs.length : Int) := by omega
     clear hW ex c3 hnl hnc hd
     go_still_tail 15, (by kernel_rfl)
     change wpList _ _ _ _ _ W.drew
     have S3 := Aside0.mk S1.out.drew
     clear S1 hx hy1 hy2
     generalize W.drew = V at S3 ⊢
     go_wp2_with (go_at_call 51; (with_reducible refine (spec_l2Bits_code.calls o m (rdOf 0 cs x) (rdOf 0 ls x) o2 m2 w.heap.size _ w _ (S3.out).size (S3.out).below (S3.out).bits HD.out).mono ?_); rintro e w2 ⟨rfl, hb_, hw_, hk_⟩; have S2 := Aside0.mk (PkSt.told (S3.out) (by decide) hb_ hw_ hk_); clear hb_ hw_ hk_)
     go_roundg kf
     case measure => omega
     case rel => exact ⟨wrap64 (a + 1), o2, m2, by first | rfl | (simp; done), H', S2⟩
    ·rw [if_neg hn] at H
     obtain ⟨⟨b28, c28⟩, h28, H⟩ := Option.bind_eq_some_iff.mp H
     obtain ⟨kk, hkk, H⟩ := Option.bind_eq_some_iff.mp H
     obtain ⟨⟨bb, bm⟩, hbm, H⟩ := Option.bind_eq_some_iff.mp H
     obtain ⟨⟨o2, m2⟩, hd2, H⟩ := Option.bind_eq_some_iff.mp H
     obtain ⟨⟨o3, m3⟩, hd3, H⟩ := Option.bind_eq_some_iff.mp H
     obtain ⟨⟨b29, c29⟩, h29, H⟩ := Option.bind_eq_some_iff.mp H
     obtain ⟨kz, hkq, H⟩ := Option.bind_eq_some_iff.mp H
     obtain ⟨⟨fb, fm⟩, hfm, H⟩ := Option.bind_eq_some_iff.mp H
     obtain ⟨⟨o4, m4⟩, hd4, H⟩ := Option.bind_eq_some_iff.mp H
     obtain ⟨⟨o5, m5⟩, hd5, H⟩ := Option.bind_eq_some_iff.mp H
     dsimp only at hkk hbm hd2 hd3 h29 hkq hfm hd4 hd5 H
     have H28 := Aside0.mk h28
     have HKK := Aside0.mk hkk
     have HBM := Aside0.mk hbm
     have HD2 := Aside0.mk (show spec_l2Bits_code.f o m (rdOf 0 cs (257 + (kk : Int))) (rdOf 0 ls (257 + (kk : Int))) = some (o2, m2) from hd2)
     have HD3 := Aside0.mk hd3
     have H29 := Aside0.mk h29
     have HKQ := Aside0.mk hkq
     have HFM := Aside0.mk hfm
     have HD4 := Aside0.mk hd4
     have HD5 := Aside0.mk hd5
     have H' := Aside0.mk H
     have hnb : ((n : Int) == 0) = false := beq_eq_false_iff_ne.mpr hn
     clear h28 hkk hbm hd2 hd3 h29 hkq hfm hd4 hd5 H
     go_wp2_with (first
      | (go_at_call 50; (with_reducible refine (spec_l2Match.calls kf A0 c0 l0 a n f _ HR1.out HC0.out HQ.out).mono ?_); rintro e w2 ⟨rfl, ⟨nd, rfl⟩⟩)
      | (go_at_call 52; (with_reducible refine (spec_l2Base.calls 28 b28 c28 _ H28.out).mono ?_); rintro e w9 ⟨rfl, ⟨nd2, rfl⟩⟩))
     go_loopg [9, 10] 29 (fun kq v9 v10 w' => ∃ b : Int, v9 = .int .i64 ((kq : Int) - 1) ∧ v10 = .int .i64 b ∧ Aside0 (pkB n kq b = some kk) ∧ Aside0 (kq ≤ 29) ∧ Aside0 (PkSt 67 w.heap.size w w' g (.slice (some ⟨bl, 0, none⟩) ls.length cl) (.slice (some ⟨bc, 0, none⟩) cs.length cc) ls cs o m))
     case atStart => exact ⟨b28, rfl, rfl, HKK, ⟨Nat.le_refl _⟩, ⟨ST.out.drewN _⟩⟩
     case round =>
      clear HR1 HKK H28 HQ
      obtain ⟨b, rfl, rfl, HA2, HI2, ST2⟩ := hrel
      cases gk with
      | zero => exact absurd HA2.out (by simp [pkB])
      | succ r1 =>
       have er : ((r1 + 1 : Nat) : Int) - 1 = (r1 : Int) := by omega
       rw [er]
       have hi2 := HI2.out
       have H := HA2.out
       rw [pkB] at H
       clear HA2 er
       by_cases hb : b > n
       ·rw [if_pos hb] at H
        obtain ⟨⟨b', c'⟩, h', H⟩ := Option.bind_eq_some_iff.mp H
        have H0' := Aside0.mk h'
        have H1' := Aside0.mk H
        have hb1 : decide (b > n) = true := decide_eq_true hb
        clear h' H
        go_wp2_with (go_at_call 52; (with_reducible refine (spec_l2Base.calls ((r1 : Int) - 1) b' c' _ H0'.out).mono ?_); rintro e w9 ⟨rfl, ⟨nd3, rfl⟩⟩)
        go_roundg r1
        case measure => omega
        case rel => exact ⟨b', rfl, rfl, H1', ⟨by have := HI2.out; omega⟩, ⟨ST2.out.drewN _⟩⟩
       ·rw [if_neg hb] at H
        obtain rfl := Option.some.inj H
        have hb1 : decide (b > n) = false := decide_eq_false hb
        clear H hb
        go_upto_region 17 with (go_at_call 52; (with_reducible refine (spec_l2Base.calls (r1 : Int) bb bm _ HBM.out).mono ?_); rintro e w9 ⟨rfl, ⟨nd3, rfl⟩⟩)
        obtain ⟨W, hW⟩ : ∃ W : World, W = wr.drewN nd3 := ⟨_, rfl⟩
        rw [← hW]
        have S1 : Aside0 (PkSt 67 w.heap.size w W g (.slice (some ⟨bl, 0, none⟩) ls.length cl) (.slice (some ⟨bc, 0, none⟩) cs.length cc) ls cs o m) := ⟨by rw [hW]; exact ST2.out.drewN nd3⟩
        have hnl := HNL.out
        have hnc := HNC.out
        obtain ⟨i, ei⟩ : ∃ i : Int, i = 257 + (r1 : Int) := ⟨_, rfl⟩
        have i1 : (0 : Int) ≤ i := by omega
        have i2 : i < (ls.length : Int) := by omega
        have i3 : i < (cs.length : Int) := by omega
        have hy1 := (Kd.R_celln 0 S1.out.len i i1 i2).1
        have hy2 := (Kd.R_celln 0 S1.out.cod i i1 i3).1
        have hwj : wrap64 (257 + (r1 : Int)) = i := by rw [ei]; unfold wrap64; omega
        have hwi : IntKind.i64.wrap (257 + (r1 : Int)) = i := (i64_w _).trans hwj
        have HD6 := Aside0.mk (show spec_l2Bits_code.f o m (rdOf 0 cs i) (rdOf 0 ls i) = some (o2, m2) by rw [ei]; exact HD2.out)
        clear hW hnl hnc ei hi2
        go_still_tail 11, (by kernel_rfl)
        change wpList _ _ _ _ _ W.drew
        have S6 := Aside0.mk S1.out.drew
        clear S1 hy1 hy2
        generalize W.drew = V at S6 ⊢
        clear W
        go_wp2_with (first
         | (go_at_call 51; (with_reducible refine (spec_l2Bits_code.calls o m _ _ o2 m2 w.heap.size _ w _ (S6.out).size (S6.out).below (S6.out).bits HD6.out).mono ?_); rintro e w2 ⟨rfl, hb_, hw_, hk_⟩; have S2 := Aside0.mk (PkSt.told (S6.out) (by decide) hb_ hw_ hk_); clear hb_ hw_ hk_)
         | (go_at_call 49; (with_reducible refine (spec_l2Bits_number.calls o2 m2 _ _ o3 m3 w.heap.size _ w _ (S2.out).size (S2.out).below (S2.out).bits HD3.out).mono ?_); rintro e w3 ⟨rfl, hb_, hw_, hk_⟩; have S3 := Aside0.mk (PkSt.told (S2.out) (by decide) hb_ hw_ hk_); clear hb_ hw_ hk_)
         | (go_at_call 53; (with_reducible refine (spec_l2Back.calls 29 b29 c29 _ H29.out).mono ?_); rintro e w9 ⟨rfl, ⟨nd4, rfl⟩⟩))
        go_loopg [9, 14] 30 (fun kq v9 v14 w' => ∃ b : Int, v9 = .int .i64 ((kq : Int) - 1) ∧ v14 = .int .i64 b ∧ Aside0 (pkF f kq b = some kz) ∧ Aside0 (kq ≤ 30) ∧ Aside0 (PkSt 67 w.heap.size w w' g (.slice (some ⟨bl, 0, none⟩) ls.length cl) (.slice (some ⟨bc, 0, none⟩) cs.length cc) ls cs o3 m3))
        case atStart => exact ⟨b29, rfl, rfl, HKQ, ⟨Nat.le_refl _⟩, ⟨S3.out.drewN _⟩⟩
        case round =>
         clear S3 S2 S6 ST2 HKQ H29 HD6 HD3 HBM
         obtain ⟨b3, rfl, rfl, HA3, HI3, ST3⟩ := hrel
         cases gk with
         | zero => exact absurd HA3.out (by simp [pkF])
         | succ r2 =>
          have er : ((r2 + 1 : Nat) : Int) - 1 = (r2 : Int) := by omega
          rw [er]
          have hi3 := HI3.out
          have H := HA3.out
          rw [pkF] at H
          clear HA3 er
          by_cases hb : b3 > f
          ·rw [if_pos hb] at H
           obtain ⟨⟨b', c'⟩, h', H⟩ := Option.bind_eq_some_iff.mp H
           have H0' := Aside0.mk h'
           have H1' := Aside0.mk H
           have hb1 : decide (b3 > f) = true := decide_eq_true hb
           clear h' H
           go_wp2_with (go_at_call 53; (with_reducible refine (spec_l2Back.calls ((r2 : Int) - 1) b' c' _ H0'.out).mono ?_); rintro e w9 ⟨rfl, ⟨nd5, rfl⟩⟩)
           go_roundg r2
           case measure => omega
           case rel => exact ⟨b', rfl, rfl, H1', ⟨by have := HI3.out; omega⟩, ⟨ST3.out.drewN _⟩⟩
          ·rw [if_neg hb] at H
           obtain rfl := Option.some.inj H
           have hb1 : decide (b3 > f) = false := decide_eq_false hb
           clear H hb
           go_wp2_with (first
            | (go_at_call 53; (with_reducible refine (spec_l2Back.calls (r2 : Int) fb fm _ HFM.out).mono ?_); rintro e w9 ⟨rfl, ⟨nd5, rfl⟩⟩)
            | (go_at_call 51; (with_reducible refine (spec_l2Bits_code.calls o3 m3 (r2 : Int) 5 o4 m4 w.heap.size _ w _ (ST3.out.drewN nd5).size (ST3.out.drewN nd5).below (ST3.out.drewN nd5).bits HD4.out).mono ?_); rintro e w4 ⟨rfl, hb_, hw_, hk_⟩; have S4 := Aside0.mk (PkSt.told (ST3.out.drewN nd5) (by decide) hb_ hw_ hk_); clear hb_ hw_ hk_)
            | (go_at_call 49; (with_reducible refine (spec_l2Bits_number.calls o4 m4 (wrap64 (f - fb)) fm o5 m5 w.heap.size _ w _ (S4.out).size (S4.out).below (S4.out).bits HD5.out).mono ?_); rintro e w5 ⟨rfl, hb_, hw_, hk_⟩; have S5 := Aside0.mk (PkSt.told (S4.out) (by decide) hb_ hw_ hk_); clear hb_ hw_ hk_))
           go_roundg kf
           case measure => omega
           case rel => exact ⟨wrap64 (a + n), o5, m5, by first | rfl | (simp; done), H', S5⟩

/-! ### spec_l2Stored: function 55 -/
def spec_l2Stored.f (l0 : List Int) : Option (List Int) := (some (([1, ((l0.length : Int)) % 256, ((l0.length : Int) / 256) % 256, (Go.bits .xor .i64 (-1) (l0.length : Int)) % 256, ((Go.bits .xor .i64 (-1) (l0.length : Int)) / 256) % 256] : List Int) : List Int)).bind fun y134 => (if y134.length + l0.length < 140737488355328 then (some (y134 ++ l0)) else (none))
set_option maxHeartbeats 8000000 in
set_option maxRecDepth 100000 in
theorem spec_l2Stored.calls (A0 : Option Addr) (c0 : Nat) (l0 : List Int) (r : List Int) (w : World) (hr0 : Kd.C (Kd.int .u8) w A0 l0.length l0) (hc0 : l0.length ≤ c0) (h : spec_l2Stored.f l0 = some r) :
  Calls Try.prog 55 #[.slice A0 l0.length c0] w fun e w' => ∃ v0_ : Value, e = .returned (v0_) ∧ Kd.R (Kd.int .u8) 5 w' w.heap.size (fun _ => True) v0_ r ∧ Below w.heap.size w w' := by
 have HR0 := Aside0.mk hr0
 have HC0 := Aside0.mk hc0
 clear hr0 hc0
 have HB := Aside0.mk (Below.refl w.heap.size w)
 have H : ((some (([1, ((l0.length : Int)) % 256, ((l0.length : Int) / 256) % 256, (Go.bits .xor .i64 (-1) (l0.length : Int)) % 256, ((Go.bits .xor .i64 (-1) (l0.length : Int)) / 256) % 256] : List Int) : List Int)).bind fun y134 => (if y134.length + l0.length < 140737488355328 then (some (y134 ++ l0)) else (none))) = some r := h
 clear h
 obtain ⟨y134, hy134⟩ : ∃ y_ : List Int, y_ = (([1, ((l0.length : Int)) % 256, ((l0.length : Int) / 256) % 256, (Go.bits .xor .i64 (-1) (l0.length : Int)) % 256, ((Go.bits .xor .i64 (-1) (l0.length : Int)) / 256) % 256] : List Int)) := ⟨_, rfl⟩
 replace H : (if y134.length + l0.length < 140737488355328 then (some (y134 ++ l0)) else (none)) = some r := by first | (rw [hy134]; with_reducible exact H) | (have H2_ := (Option.bind_some _ _).symm.trans H; rw [hy134]; with_reducible exact H2_) | (have H2_ := (Option.bind_some _ _).symm.trans H; with_reducible exact H2_) | with_reducible exact H | (rw [hy134]; exact H) | exact H
 have Ny134 := Aside0.mk hy134
 clear hy134
 by_cases c2 : y134.length + l0.length < 140737488355328
 ·rw [if_pos c2] at H
  have LMc2 := Aside0.mk c2
  clear c2
  obtain ⟨y137, hy137⟩ : ∃ y_ : List Int, y_ = (y134 ++ l0) := ⟨_, rfl⟩
  replace H : (some y137) = some r := by first | (rw [hy137]; with_reducible exact H) | (have H2_ := (Option.bind_some _ _).symm.trans H; rw [hy137]; with_reducible exact H2_) | (have H2_ := (Option.bind_some _ _).symm.trans H; with_reducible exact H2_) | with_reducible exact H | (rw [hy137]; exact H) | exact H
  have Ny137 := Aside0.mk hy137
  clear hy137
  obtain rfl := Option.some.inj H
  go_enter Try.func55, Try.ntmps55
  go_wp2_with (first | ((with_reducible refine gate_dst (N := 19) rfl ?_); refine Kd.R_lit (Kd.int .u8) _ 5 ?hg (N := 19) ?hd (xs := ([1, ((l0.length : Int)) % 256, ((l0.length : Int) / 256) % 256, (Go.bits .xor .i64 (-1) (l0.length : Int)) % 256, ((Go.bits .xor .i64 (-1) (l0.length : Int)) / 256) % 256] : List Int)) (inner := [.int .u8 1, .int .u8 (((l0.length : Int)) % 256), .int .u8 (((l0.length : Int) / 256) % 256), .int .u8 ((Go.bits .xor .i64 (-1) (l0.length : Int)) % 256), .int .u8 (((Go.bits .xor .i64 (-1) (l0.length : Int)) / 256) % 256)]) (ok := fun _ => True) (okp := fun _ => True) ?hr ?hp (fun _ hk => hk) trivial (Below.refl _ _) (Nat.le_refl _) (by simp) ?_; (case hd => rfl); (case hg => rfl); (case hr => first | (go_simp; done) | (go_simp; rfl)); (case hp => exact (Reps.one (show Kd.M (Kd.int .u8) _ _ _ 1 [.int .u8 1] from rfl) (Reps.one (show Kd.M (Kd.int .u8) _ _ _ (((l0.length : Int)) % 256) [.int .u8 (((l0.length : Int)) % 256)] from rfl) (Reps.one (show Kd.M (Kd.int .u8) _ _ _ (((l0.length : Int) / 256) % 256) [.int .u8 (((l0.length : Int) / 256) % 256)] from rfl) (Reps.one (show Kd.M (Kd.int .u8) _ _ _ ((Go.bits .xor .i64 (-1) (l0.length : Int)) % 256) [.int .u8 ((Go.bits .xor .i64 (-1) (l0.length : Int)) % 256)] from rfl) (Reps.one (show Kd.M (Kd.int .u8) _ _ _ (((Go.bits .xor .i64 (-1) (l0.length : Int)) / 256) % 256) [.int .u8 (((Go.bits .xor .i64 (-1) (l0.length : Int)) / 256) % 256)] from rfl) (Reps.none _ _))))))); intro v135 w3 ho4 hb hg_ hnew_; clear hg_ hnew_; (first | rw [← Ny134.out] at ho4 | (simp only [Int.reduceToNat] at ho4; rw [← Ny134.out] at ho4)); have n0_ := Aside0.mk (Kd.R_lower ho4 (below_size bel_)); have n1_ := Aside0.mk (below_step bel_ hb); clear HB; have HO136 := n0_; have HB := n1_; clear n0_ n1_; clear hb ho4) | ((with_reducible refine gate_builtin (b := .append) (xs := #[.tmp 20, .tmp 21]) rfl ?_); at_builtin; refine Kd.R_append_rows (Kd.int .u8) (w0 := w) w.heap.size rfl (.tmp 20) (.tmp 21) 22 5 (.int .u8 0) 1 rfl Try.underlying22 info5 rfl (by decide) (by omega) v135 y134 l0 _ _ _ (fun _ => True) (fun _ => False) rfl rfl ?aO ?aR (fun _ _ h => h) (fun _ h => h.elim) ?aF ?aB ?aS ?aL ?_; (case aR => exact cs_ (Kd.C_below HR0.out HB.out)); (case aB => exact bel_); (case aF => exact (fun _ _ => trivial)); (case aO => exact (kdR_ HO136.out)); (case aS => exact (below_size bel_)); (case aL => have := LMc2.out; omega); intro v138 w5 ho hb hg hat; rw [← Ny137.out] at ho; have n0_ := Aside0.mk (hb); have n1_ := Aside0.mk (ho); clear HB; clear HO136; have HB := n0_; have HO139 := n1_; clear n0_ n1_; clear ho hb hg hat))
  go_ret
  exact ⟨_, er_, by (with_reducible repeat (first | apply Kd.R_alloc | apply Kd.R_drewN | apply Kd.R_drew)); exact HO139.out, bel_⟩
 ·rw [if_neg c2] at H
  exact absurd H (by simp)

/-! ### spec_l2Best: function 28 -/
def spec_l2Best.f (k : Nat) (l0 : List Int) : Option (List Int) := (spec_l2PackFixed.f k l0).bind fun t140 => (if (t140.length : Int) < (wrap64 ((l0.length : Int) + 5)) then (some t140) else ((spec_l2Stored.f l0).bind fun t143 => (some t143)))
set_option maxHeartbeats 8000000 in
set_option maxRecDepth 100000 in
theorem spec_l2Best.calls (k : Nat) (A0 : Option Addr) (c0 : Nat) (l0 : List Int) (r : List Int) (w : World) (hr0 : Kd.C (Kd.int .u8) w A0 l0.length l0) (hc0 : l0.length ≤ c0) (h : spec_l2Best.f k l0 = some r) :
  Calls Try.prog 28 #[.slice A0 l0.length c0] w fun e w' => ∃ v0_ : Value, e = .returned (v0_) ∧ Kd.R (Kd.int .u8) 5 w' w.heap.size (fun _ => True) v0_ r ∧ Below w.heap.size w w' := by
 have HR0 := Aside0.mk hr0
 have HC0 := Aside0.mk hc0
 clear hr0 hc0
 have HB := Aside0.mk (Below.refl w.heap.size w)
 have H : ((spec_l2PackFixed.f k l0).bind fun t140 => (if (t140.length : Int) < (wrap64 ((l0.length : Int) + 5)) then (some t140) else ((spec_l2Stored.f l0).bind fun t143 => (some t143)))) = some r := h
 clear h
 replace H := Option.bind_eq_some_iff.mp H
 obtain ⟨t140, A20, H⟩ := H
 replace H : (if (t140.length : Int) < (wrap64 ((l0.length : Int) + 5)) then (some t140) else ((spec_l2Stored.f l0).bind fun t143 => (some t143))) = some r := H
 have A2 := Aside0.mk A20
 clear A20
 by_cases c3 : (t140.length : Int) < (wrap64 ((l0.length : Int) + 5))
 ·rw [if_pos c3] at H
  have c3b0 : decide ((t140.length : Int) < (wrap64 ((l0.length : Int) + 5))) = true := decide_eq_true c3
  clear c3
  obtain rfl := Option.some.inj H
  go_enter Try.func28, Try.ntmps28
  go_wp2_with (first | ((with_reducible refine gate_callee (f := 19) rfl ?_); refine goesL_ (some 5) rfl rfl Try.func19 (by kernel_rfl) rfl #[.slice A0 l0.length c0] rfl au_ ?_; (with_reducible refine (spec_l2PackFixed.calls k _ _ l0 t140 _ ?side1 ?side2 A2.out).mono ?_); (case side1 => exact cs_ HR0.out); (case side2 => exact HC0.out); rintro e w4 ⟨v141, rfl, ho0, hb⟩; refine ⟨_, rfl, ?_⟩; have n0_ := Aside0.mk (Kd.R_lower ho0 (below_size bel_)); have n1_ := Aside0.mk (below_step bel_ hb); clear HB; have HO142 := n0_; have HB := n1_; clear n0_ n1_; (try clear hb);(try clear hb2);(try clear hk);(try clear hi);(try clear ho0); obtain ⟨Ao5, co5, eo5⟩ := Kd.R_slice HO142.out; subst eo5))
  go_ret
  exact ⟨_, er_, by (with_reducible repeat (first | apply Kd.R_alloc | apply Kd.R_drewN | apply Kd.R_drew)); exact HO142.out, bel_⟩
 ·rw [if_neg c3] at H
  have c3b0 : decide ((t140.length : Int) < (wrap64 ((l0.length : Int) + 5))) = false := decide_eq_false c3
  clear c3
  replace H := Option.bind_eq_some_iff.mp H
  obtain ⟨t143, A60, H⟩ := H
  replace H : (some t143) = some r := H
  have A6 := Aside0.mk A60
  clear A60
  obtain rfl := Option.some.inj H
  go_enter Try.func28, Try.ntmps28
  go_wp2_with (first | ((with_reducible refine gate_callee (f := 19) rfl ?_); refine goesL_ (some 5) rfl rfl Try.func19 (by kernel_rfl) rfl #[.slice A0 l0.length c0] rfl au_ ?_; (with_reducible refine (spec_l2PackFixed.calls k _ _ l0 t140 _ ?side1 ?side2 A2.out).mono ?_); (case side1 => exact cs_ HR0.out); (case side2 => exact HC0.out); rintro e w7 ⟨v141, rfl, ho0, hb⟩; refine ⟨_, rfl, ?_⟩; have n0_ := Aside0.mk (Kd.R_lower ho0 (below_size bel_)); have n1_ := Aside0.mk (below_step bel_ hb); clear HB; have HO142 := n0_; have HB := n1_; clear n0_ n1_; (try clear hb);(try clear hb2);(try clear hk);(try clear hi);(try clear ho0); obtain ⟨Ao8, co8, eo8⟩ := Kd.R_slice HO142.out; subst eo8) | ((with_reducible refine gate_callee (f := 55) rfl ?_); refine goesL_ (some 14) rfl rfl Try.func55 (by kernel_rfl) rfl #[.slice A0 l0.length c0] rfl au_ ?_; (with_reducible refine (spec_l2Stored.calls _ _ l0 t143 _ ?side1 ?side2 A6.out).mono ?_); (case side1 => exact cs_ (Kd.C_below HR0.out HB.out)); (case side2 => exact HC0.out); rintro e w9 ⟨v144, rfl, ho0, hb⟩; refine ⟨_, rfl, ?_⟩; have n0_ := Aside0.mk (Kd.R_elder' (kdR_ HO142.out) (Kd.R_base ho0) hb); have n1_ := Aside0.mk (Kd.R_lower (Kd.R_new' ho0 (Kd.R_lt (kdR_ HO142.out))) (below_size bel_)); have n2_ := Aside0.mk (below_step bel_ hb); clear HO142; clear HB; have HO142 := n0_; have HO145 := n1_; have HB := n2_; clear n0_ n1_ n2_; (try clear hb);(try clear hb2);(try clear hk);(try clear hi);(try clear ho0)))
  go_ret
  exact ⟨_, er_, by (with_reducible repeat (first | apply Kd.R_alloc | apply Kd.R_drewN | apply Kd.R_drew)); exact Kd.R_mono HO145.out (fun _ hk => trivial), bel_⟩

/-! ### spec_l3Adler: function 62 -/
def spec_l3Adler.l0 : Nat → Int → Int → List Int → Int → Int → Option (Int)
 | 0, _, _, _, _, _ => none
 | k + 1, x3, x4, x7, x8, x9 => if x9 < x8 then (if 0 ≤ x9 then (if x9 < (x7.length : Int) then (spec_l3Adler.l0 k (Int.tmod (wrap64 (x3 + (wrap64 (rd x7 x9)))) 65521) (Int.tmod (wrap64 (x4 + (Int.tmod (wrap64 (x3 + (wrap64 (rd x7 x9)))) 65521))) 65521) x7 x8 (wrap64 (x9 + 1))) else (none)) else (none)) else (some ((wrap64 ((wrap64 (x4 * 65536)) + x3)) % 4294967296))
def spec_l3Adler.f (k : Nat) (l0 : List Int) : Option (Int) := spec_l3Adler.l0 k 1 0 l0 (l0.length : Int) 0
set_option maxHeartbeats 8000000 in
set_option maxRecDepth 100000 in
theorem spec_l3Adler.calls (k : Nat) (A0 : Option Addr) (c0 : Nat) (l0 : List Int) (r : Int) (w : World) (hr0 : Kd.C (Kd.int .u8) w A0 l0.length l0) (hc0 : l0.length ≤ c0) (h : spec_l3Adler.f k l0 = some r) :
  Calls Try.prog 62 #[.slice A0 l0.length c0] w fun e w' => e = .returned (.int .u32 r) ∧ Drawn0 w w' := by
 have HR0 := Aside0.mk hr0
 have HC0 := Aside0.mk hc0
 clear hr0 hc0
 have H : (spec_l3Adler.l0 k 1 0 l0 (l0.length : Int) 0) = some r := h
 clear h
 have H' := Aside0.mk H
 clear H
 go_enter Try.func62, Try.ntmps62
 go_wp2
 go_loopg [3, 4, 9] k (fun kq v3 v4 v9 w' => ∃ (x3_1 : Int) (x4_1 : Int) (x9_1 : Int), v3 = .int .i64 x3_1 ∧ v4 = .int .i64 x4_1 ∧ v9 = .int .i64 x9_1 ∧ Aside0 (spec_l3Adler.l0 kq x3_1 x4_1 l0 (l0.length : Int) x9_1 = some r) ∧ Aside0 (kq ≤ k) ∧ Drawn0 w w')
 case atStart => exact ⟨(1), (0), (0), sv_, sv_, sv_, H', ⟨Nat.le_refl _⟩, by repeat (first | exact Drawn0.refl _ | apply Drawn0.step)⟩
 case round =>
  clear H'
  obtain ⟨x3_1, x4_1, x9_1, rfl, rfl, rfl, HA, HK1, ⟨m1, rfl⟩⟩ := hrel
  cases gk with
  | zero => exact absurd HA.out (by simp [spec_l3Adler.l0])
  | succ k1 =>
   have H := HA.out
   clear HA
   simp only [spec_l3Adler.l0] at H
   by_cases c2 : x9_1 < (l0.length : Int)
   ·rw [if_pos c2] at H
    have c2b0 : decide (x9_1 < (l0.length : Int)) = true := decide_eq_true c2
    clear c2
    by_cases c3 : 0 ≤ x9_1
    ·rw [if_pos c3] at H
     have c3b0 : decide (0 ≤ x9_1) = true := decide_eq_true c3
     clear c3
     by_cases c4 : x9_1 < (l0.length : Int)
     ·rw [if_pos c4] at H
      have c4b0 : decide (x9_1 < (l0.length : Int)) = true := decide_eq_true c4
      clear c4
      have H' := Aside0.mk H
      clear H
      have p146 : 0 ≤ (x9_1 : Int) := of_decide_eq_true am_
      have q146 : x9_1 < (l0.length : Int) := of_decide_eq_true am_
      obtain ⟨ad146, e146, hx146_0⟩ := Kd.at_int HR0.out x9_1 p146 q146
      cases e146
      replace p146 := eq_true p146
      replace q146 := eq_true q146
      go_wp2
      go_roundg k1
      case measure => have := HK1.out; omega
      case rel => exact ⟨(Int.tmod (wrap64 (x3_1 + (wrap64 (rd l0 x9_1)))) 65521), (Int.tmod (wrap64 (x4_1 + (Int.tmod (wrap64 (x3_1 + (wrap64 (rd l0 x9_1)))) 65521))) 65521), (wrap64 (x9_1 + 1)), sv_, sv_, sv_, H', ⟨by have := HK1.out; omega⟩, by repeat (first | exact Drawn0.refl _ | apply Drawn0.step)⟩
     ·rw [if_neg c4] at H
      exact absurd H (by simp)
    ·rw [if_neg c3] at H
     exact absurd H (by simp)
   ·rw [if_neg c2] at H
    have c2b0 : decide (x9_1 < (l0.length : Int)) = false := decide_eq_false c2
    clear c2
    obtain rfl := Option.some.inj H
    go_wp2
    go_ret
    exact ⟨by first | rfl | (simp; done) | (simp [*]; done), by repeat (first | exact Drawn0.refl _ | apply Drawn0.step)⟩

end Go.Proofs.Ytfogfjmkngoegaa.PFnExactEncodePng
