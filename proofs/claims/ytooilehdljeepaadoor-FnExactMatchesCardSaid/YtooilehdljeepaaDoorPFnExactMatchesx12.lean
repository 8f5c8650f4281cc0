-- Laid by a program of this session out of the translation (its own run of the print). Lean checks it.
import Derived.Test.YtooilehdljeepaaDoorPFnExactMatchesx0
import Derived.Test.YtooilehdljeepaaDoorPFnExactMatchesx11
namespace Go.Proofs.YtooilehdljeepaaDoor.PFnExactMatches
open Go.RowKit Go.Proofs.YtooilehdljeepaaDoorW.PrintWords Go.Proofs.YtooilehdljeepaaDoorW.PrintLast Go.Proofs.YtooilehdljeepaaDoorW.PrintMore
attribute [local go_sem] max2_int min2_int max_two min_two max_three min_three max_four min_four   -- for this text's walks alone
set_option linter.unusedVariables false
set_option linter.unusedSimpArgs false

/-! ### impl_mayRune: function 138 -/
def impl_mayRune.f (a0 : Int) : Option (Bool) := if a0 = 9 then (some true) else (if a0 = 10 then (some true) else (if a0 = 13 then (some true) else ((impl_within.f a0 32 1114111).bind fun t248 => (if t248 = true then ((impl_within.f a0 55296 57343).bind fun t249 => (some (!t249))) else (some false)))))
set_option maxHeartbeats 8000000 in
set_option maxRecDepth 100000 in
theorem impl_mayRune.calls (a0 : Int) (r : Bool) (w : World) (h : impl_mayRune.f a0 = some r) :
  Calls Tryd.prog 138 #[.int .i64 a0] w fun e w' => e = .returned (.bool r) ∧ Drawn0 w w' := by
 have H : (if a0 = 9 then (some true) else (if a0 = 10 then (some true) else (if a0 = 13 then (some true) else ((impl_within.f a0 32 1114111).bind fun t248 => (if t248 = true then ((impl_within.f a0 55296 57343).bind fun t249 => (some (!t249))) else (some false)))))) = some r := h
 clear h
 by_cases c2 : a0 = 9
 ·rw [if_pos c2] at H
  have c2b0 : (a0 == 9) = true := beq_iff_eq.mpr c2
  have c2b1 : (a0 != 9) = false := bne_eq_false_iff_eq.mpr c2
  clear c2
  obtain rfl := Option.some.inj H
  go_enter Tryd.func138, Tryd.ntmps138
  go_wp2
  go_ret
  exact ⟨by first | rfl | (simp; done) | (simp [*]; done), by repeat (first | exact Drawn0.refl _ | apply Drawn0.step)⟩
 ·rw [if_neg c2] at H
  have c2b0 : (a0 == 9) = false := beq_eq_false_iff_ne.mpr c2
  have c2b1 : (a0 != 9) = true := bne_iff_ne.mpr c2
  by_cases c3 : a0 = 10
  ·rw [if_pos c3] at H
   have c3b0 : (a0 == 10) = true := beq_iff_eq.mpr c3
   have c3b1 : (a0 != 10) = false := bne_eq_false_iff_eq.mpr c3
   clear c3
   obtain rfl := Option.some.inj H
   go_enter Tryd.func138, Tryd.ntmps138
   go_wp2
   go_ret
   exact ⟨by first | rfl | (simp; done) | (simp [*]; done), by repeat (first | exact Drawn0.refl _ | apply Drawn0.step)⟩
  ·rw [if_neg c3] at H
   have c3b0 : (a0 == 10) = false := beq_eq_false_iff_ne.mpr c3
   have c3b1 : (a0 != 10) = true := bne_iff_ne.mpr c3
   by_cases c4 : a0 = 13
   ·rw [if_pos c4] at H
    have c4b0 : (a0 == 13) = true := beq_iff_eq.mpr c4
    have c4b1 : (a0 != 13) = false := bne_eq_false_iff_eq.mpr c4
    clear c4
    obtain rfl := Option.some.inj H
    go_enter Tryd.func138, Tryd.ntmps138
    go_wp2
    go_ret
    exact ⟨by first | rfl | (simp; done) | (simp [*]; done), by repeat (first | exact Drawn0.refl _ | apply Drawn0.step)⟩
   ·rw [if_neg c4] at H
    have c4b0 : (a0 == 13) = false := beq_eq_false_iff_ne.mpr c4
    have c4b1 : (a0 != 13) = true := bne_iff_ne.mpr c4
    replace H := Option.bind_eq_some_iff.mp H
    obtain ⟨t248, A50, H⟩ := H
    replace H : (if t248 = true then ((impl_within.f a0 55296 57343).bind fun t249 => (some (!t249))) else (some false)) = some r := H
    have A5 := Aside0.mk A50
    clear A50
    by_cases c6 : t248 = true
    ·subst c6
     have H1 : ((impl_within.f a0 55296 57343).bind fun t249 => (some (!t249))) = some r := by rw [if_pos rfl] at H; exact H
     clear H
     have H := H1
     clear H1
     replace H := Option.bind_eq_some_iff.mp H
     obtain ⟨t249, A70, H⟩ := H
     replace H : (some (!t249)) = some r := H
     have A7 := Aside0.mk A70
     clear A70
     obtain rfl := Option.some.inj H
     go_enter Tryd.func138, Tryd.ntmps138
     go_wp2_with (first | (go_at_call 33; (with_reducible refine (impl_within.calls a0 32 1114111 true _ A5.out).mono ?_); rintro e w' ⟨rfl, ⟨nd, rfl⟩⟩) | (go_at_call 33; (with_reducible refine (impl_within.calls a0 55296 57343 t249 _ A7.out).mono ?_); rintro e w' ⟨rfl, ⟨nd, rfl⟩⟩))
     go_ret
     exact ⟨by first | rfl | (simp; done) | (simp [*]; done), by repeat (first | exact Drawn0.refl _ | apply Drawn0.step)⟩
    ·replace c6 := Bool.eq_false_iff.mpr c6
     subst c6
     have H1 : (some false) = some r := by rw [if_neg (show ¬ (false = true) by decide)] at H; exact H
     clear H
     have H := H1
     clear H1
     obtain rfl := Option.some.inj H
     go_enter Tryd.func138, Tryd.ntmps138
     go_wp2_with (first | (go_at_call 33; (with_reducible refine (impl_within.calls a0 32 1114111 false _ A5.out).mono ?_); rintro e w' ⟨rfl, ⟨nd, rfl⟩⟩))
     go_ret
     exact ⟨by first | rfl | (simp; done) | (simp [*]; done), by repeat (first | exact Drawn0.refl _ | apply Drawn0.step)⟩

/-! ### impl_badByte: function 83 -/
def impl_badByte.l0 : Nat → ByteArray → Int → Option (Int)
 | 0, _, _ => none
 | k + 1, x0, x3 => if x3 < (x0.size : Int) then (if 0 ≤ x3 then (if x3 ≤ (x0.size : Int) then ((utf8_DecodeRuneInString.f (x0.extract (x3 : Int).toNat x0.size)).bind fun bt250 => (if bt250.1 = 65533 then (if bt250.2 = 1 then (some x3) else ((impl_mayRune.f (wrap64 (bt250.1))).bind fun t252 => (if t252 = true then (impl_badByte.l0 k x0 (wrap64 (x3 + bt250.2))) else (some x3)))) else ((impl_mayRune.f (wrap64 (bt250.1))).bind fun t253 => (if t253 = true then (impl_badByte.l0 k x0 (wrap64 (x3 + bt250.2))) else (some x3))))) else (none)) else (none)) else (some (-1))
def impl_badByte.f (k : Nat) (a0 : ByteArray) : Option (Int) := impl_badByte.l0 k a0 0
set_option maxHeartbeats 8000000 in
set_option maxRecDepth 100000 in
theorem impl_badByte.calls (k : Nat) (a0 : ByteArray) (r : Int) (w : World) (h : impl_badByte.f k a0 = some r) (hT_ : U8Tabs_ w) :
  Calls Tryd.prog 83 #[.string a0] w fun e w' => e = .returned (.int .i64 r) ∧ Below w.heap.size w w' := by
 have HB := Aside0.mk (Below.refl w.heap.size w)
 have H : (impl_badByte.l0 k a0 0) = some r := h
 clear h
 have H' := Aside0.mk H
 clear H
 go_enter Tryd.func83, Tryd.ntmps83
 go_wp2
 go_loopg [3] k (fun kq v3 w' => ∃ (x3_1 : Int), v3 = .int .i64 x3_1 ∧ Aside0 (impl_badByte.l0 kq a0 x3_1 = some r) ∧ Aside0 (kq ≤ k) ∧ Aside0 (Below w.heap.size w w'))
 case atStart => exact ⟨(0), sv_, H', ⟨Nat.le_refl _⟩, ⟨bel_⟩⟩
 case round =>
  clear H'
  obtain ⟨x3_1, rfl, HA, HK1, HB⟩ := hrel
  cases gk with
  | zero => exact absurd HA.out (by simp [impl_badByte.l0])
  | succ k1 =>
   have H := HA.out
   clear HA
   simp only [impl_badByte.l0] at H
   by_cases c2 : x3_1 < (a0.size : Int)
   ·rw [if_pos c2] at H
    have c2b0 : decide (x3_1 < (a0.size : Int)) = true := decide_eq_true c2
    clear c2
    by_cases c3 : 0 ≤ x3_1
    ·rw [if_pos c3] at H
     have c3b0 := eq_true c3
     have c3b1 : decide (0 ≤ x3_1) = true := decide_eq_true c3
     clear c3
     by_cases c4 : x3_1 ≤ (a0.size : Int)
     ·rw [if_pos c4] at H
      have c4b0 := eq_true c4
      have c4b1 : decide (x3_1 ≤ (a0.size : Int)) = true := decide_eq_true c4
      clear c4
      replace H := Option.bind_eq_some_iff.mp H
      obtain ⟨⟨t250, t251⟩, A50, H⟩ := H
      replace H : (if t250 = 65533 then (if t251 = 1 then (some x3_1) else ((impl_mayRune.f (wrap64 (t250))).bind fun t252 => (if t252 = true then (impl_badByte.l0 k1 a0 (wrap64 (x3_1 + t251))) else (some x3_1)))) else ((impl_mayRune.f (wrap64 (t250))).bind fun t253 => (if t253 = true then (impl_badByte.l0 k1 a0 (wrap64 (x3_1 + t251))) else (some x3_1)))) = some r := H
      have A5 := Aside0.mk A50
      clear A50
      by_cases c6 : t250 = 65533
      ·rw [if_pos c6] at H
       have c6b0 : (t250 == 65533) = true := beq_iff_eq.mpr c6
       have c6b1 : (t250 != 65533) = false := bne_eq_false_iff_eq.mpr c6
       clear c6
       by_cases c7 : t251 = 1
       ·rw [if_pos c7] at H
        have c7b0 : (t251 == 1) = true := beq_iff_eq.mpr c7
        have c7b1 : (t251 != 1) = false := bne_eq_false_iff_eq.mpr c7
        clear c7
        obtain rfl := Option.some.inj H
        go_wp2_with (first | ((with_reducible refine gate_callee (f := 137) rfl ?_); refine goesL_ (some 14) rfl rfl Tryd.func137 (by kernel_rfl) rfl #[.string (a0.extract (x3_1 : Int).toNat a0.size)] rfl au_ ?_; (with_reducible refine (utf8_DecodeRuneInString.calls (a0.extract (x3_1 : Int).toNat a0.size) t250 t251 _ A5.out ?hT_).mono ?_); (case hT_ => exact utf8_keep_ hT_ bel_); rintro e w8 ⟨rfl, hb⟩; refine ⟨_, rfl, ?_⟩; have n0_ := Aside0.mk (below_step bel_ hb); clear HB; have HB := n0_; clear n0_; (try clear hb);(try clear hb2);(try clear hk);(try clear hi)))
        go_ret
        exact ⟨er_, bel_⟩
       ·rw [if_neg c7] at H
        have c7b0 : (t251 == 1) = false := beq_eq_false_iff_ne.mpr c7
        have c7b1 : (t251 != 1) = true := bne_iff_ne.mpr c7
        replace H := Option.bind_eq_some_iff.mp H
        obtain ⟨t252, A90, H⟩ := H
        replace H : (if t252 = true then (impl_badByte.l0 k1 a0 (wrap64 (x3_1 + t251))) else (some x3_1)) = some r := H
        have A9 := Aside0.mk A90
        clear A90
        by_cases c10 : t252 = true
        ·subst c10
         have H1 : (impl_badByte.l0 k1 a0 (wrap64 (x3_1 + t251))) = some r := by rw [if_pos rfl] at H; exact H
         clear H
         have H := H1
         clear H1
         have H' := Aside0.mk H
         clear H
         go_wp2_with (first | ((with_reducible refine gate_callee (f := 137) rfl ?_); refine goesL_ (some 14) rfl rfl Tryd.func137 (by kernel_rfl) rfl #[.string (a0.extract (x3_1 : Int).toNat a0.size)] rfl au_ ?_; (with_reducible refine (utf8_DecodeRuneInString.calls (a0.extract (x3_1 : Int).toNat a0.size) t250 t251 _ A5.out ?hT_).mono ?_); (case hT_ => exact utf8_keep_ hT_ bel_); rintro e w11 ⟨rfl, hb⟩; refine ⟨_, rfl, ?_⟩; have n0_ := Aside0.mk (below_step bel_ hb); clear HB; have HB := n0_; clear n0_; (try clear hb);(try clear hb2);(try clear hk);(try clear hi)) | (go_at_call 138; (with_reducible refine (impl_mayRune.calls (wrap64 (t250)) true _ A9.out).mono ?_); rintro e w' ⟨rfl, ⟨nd, rfl⟩⟩))
         go_roundg k1
         case measure => have := HK1.out; omega
         case rel => exact ⟨(wrap64 (x3_1 + t251)), sv_, H', ⟨by have := HK1.out; omega⟩, ⟨bel_⟩⟩
        ·replace c10 := Bool.eq_false_iff.mpr c10
         subst c10
         have H1 : (some x3_1) = some r := by rw [if_neg (show ¬ (false = true) by decide)] at H; exact H
         clear H
         have H := H1
         clear H1
         obtain rfl := Option.some.inj H
         go_wp2_with (first | ((with_reducible refine gate_callee (f := 137) rfl ?_); refine goesL_ (some 14) rfl rfl Tryd.func137 (by kernel_rfl) rfl #[.string (a0.extract (x3_1 : Int).toNat a0.size)] rfl au_ ?_; (with_reducible refine (utf8_DecodeRuneInString.calls (a0.extract (x3_1 : Int).toNat a0.size) t250 t251 _ A5.out ?hT_).mono ?_); (case hT_ => exact utf8_keep_ hT_ bel_); rintro e w12 ⟨rfl, hb⟩; refine ⟨_, rfl, ?_⟩; have n0_ := Aside0.mk (below_step bel_ hb); clear HB; have HB := n0_; clear n0_; (try clear hb);(try clear hb2);(try clear hk);(try clear hi)) | (go_at_call 138; (with_reducible refine (impl_mayRune.calls (wrap64 (t250)) false _ A9.out).mono ?_); rintro e w' ⟨rfl, ⟨nd, rfl⟩⟩))
         go_ret
         exact ⟨er_, bel_⟩
      ·rw [if_neg c6] at H
       have c6b0 : (t250 == 65533) = false := beq_eq_false_iff_ne.mpr c6
       have c6b1 : (t250 != 65533) = true := bne_iff_ne.mpr c6
       replace H := Option.bind_eq_some_iff.mp H
       obtain ⟨t253, A130, H⟩ := H
       replace H : (if t253 = true then (impl_badByte.l0 k1 a0 (wrap64 (x3_1 + t251))) else (some x3_1)) = some r := H
       have A13 := Aside0.mk A130
       clear A130
       by_cases c14 : t253 = true
       ·subst c14
        have H1 : (impl_badByte.l0 k1 a0 (wrap64 (x3_1 + t251))) = some r := by rw [if_pos rfl] at H; exact H
        clear H
        have H := H1
        clear H1
        have H' := Aside0.mk H
        clear H
        go_wp2_with (first | ((with_reducible refine gate_callee (f := 137) rfl ?_); refine goesL_ (some 14) rfl rfl Tryd.func137 (by kernel_rfl) rfl #[.string (a0.extract (x3_1 : Int).toNat a0.size)] rfl au_ ?_; (with_reducible refine (utf8_DecodeRuneInString.calls (a0.extract (x3_1 : Int).toNat a0.size) t250 t251 _ A5.out ?hT_).mono ?_); (case hT_ => exact utf8_keep_ hT_ bel_); rintro e w15 ⟨rfl, hb⟩; refine ⟨_, rfl, ?_⟩; have n0_ := Aside0.mk (below_step bel_ hb); clear HB; have HB := n0_; clear n0_; (try clear hb);(try clear hb2);(try clear hk);(try clear hi)) | (go_at_call 138; (with_reducible refine (impl_mayRune.calls (wrap64 (t250)) true _ A13.out).mono ?_); rintro e w' ⟨rfl, ⟨nd, rfl⟩⟩))
        go_roundg k1
        case measure => have := HK1.out; omega
        case rel => exact ⟨(wrap64 (x3_1 + t251)), sv_, H', ⟨by have := HK1.out; omega⟩, ⟨bel_⟩⟩
       ·replace c14 := Bool.eq_false_iff.mpr c14
        subst c14
        have H1 : (some x3_1) = some r := by rw [if_neg (show ¬ (false = true) by decide)] at H; exact H
        clear H
        have H := H1
        clear H1
        obtain rfl := Option.some.inj H
        go_wp2_with (first | ((with_reducible refine gate_callee (f := 137) rfl ?_); refine goesL_ (some 14) rfl rfl Tryd.func137 (by kernel_rfl) rfl #[.string (a0.extract (x3_1 : Int).toNat a0.size)] rfl au_ ?_; (with_reducible refine (utf8_DecodeRuneInString.calls (a0.extract (x3_1 : Int).toNat a0.size) t250 t251 _ A5.out ?hT_).mono ?_); (case hT_ => exact utf8_keep_ hT_ bel_); rintro e w16 ⟨rfl, hb⟩; refine ⟨_, rfl, ?_⟩; have n0_ := Aside0.mk (below_step bel_ hb); clear HB; have HB := n0_; clear n0_; (try clear hb);(try clear hb2);(try clear hk);(try clear hi)) | (go_at_call 138; (with_reducible refine (impl_mayRune.calls (wrap64 (t250)) false _ A13.out).mono ?_); rintro e w' ⟨rfl, ⟨nd, rfl⟩⟩))
        go_ret
        exact ⟨er_, bel_⟩
     ·rw [if_neg c4] at H
      exact absurd H (by simp)
    ·rw [if_neg c3] at H
     exact absurd H (by simp)
   ·rw [if_neg c2] at H
    have c2b0 : decide (x3_1 < (a0.size : Int)) = false := decide_eq_false c2
    clear c2
    obtain rfl := Option.some.inj H
    go_wp2
    go_ret
    exact ⟨er_, bel_⟩

/-! ### impl_isDigit: function 72 -/
def impl_isDigit.f (a0 : Int) : Option (Bool) := if a0 ≥ 48 then (some (decide (a0 ≤ 57))) else (some false)
set_option maxHeartbeats 8000000 in
set_option maxRecDepth 100000 in
theorem impl_isDigit.calls (a0 : Int) (r : Bool) (w : World) (h : impl_isDigit.f a0 = some r) :
  Calls Tryd.prog 72 #[.int .u8 a0] w fun e w' => e = .returned (.bool r) ∧ Drawn0 w w' := by
 have H : (if a0 ≥ 48 then (some (decide (a0 ≤ 57))) else (some false)) = some r := h
 clear h
 by_cases c2 : a0 ≥ 48
 ·rw [if_pos c2] at H
  have c2b0 : decide (48 ≤ a0) = true := decide_eq_true c2
  clear c2
  obtain rfl := Option.some.inj H
  go_enter Tryd.func72, Tryd.ntmps72
  go_wp2
  go_ret
  exact ⟨by first | rfl | (simp; done) | (simp [*]; done), by repeat (first | exact Drawn0.refl _ | apply Drawn0.step)⟩
 ·rw [if_neg c2] at H
  have c2b0 : decide (48 ≤ a0) = false := decide_eq_false c2
  clear c2
  obtain rfl := Option.some.inj H
  go_enter Tryd.func72, Tryd.ntmps72
  go_wp2
  go_ret
  exact ⟨by first | rfl | (simp; done) | (simp [*]; done), by repeat (first | exact Drawn0.refl _ | apply Drawn0.step)⟩

/-! ### impl_isLetter: function 184 -/
def impl_isLetter.f (a0 : Int) : Option (Bool) := if a0 ≥ 97 then (if a0 ≤ 122 then (some true) else (if a0 ≥ 65 then (some (decide (a0 ≤ 90))) else (some false))) else (if a0 ≥ 65 then (some (decide (a0 ≤ 90))) else (some false))
set_option maxHeartbeats 8000000 in
set_option maxRecDepth 100000 in
theorem impl_isLetter.calls (a0 : Int) (r : Bool) (w : World) (h : impl_isLetter.f a0 = some r) :
  Calls Tryd.prog 184 #[.int .u8 a0] w fun e w' => e = .returned (.bool r) ∧ Drawn0 w w' := by
 have H : (if a0 ≥ 97 then (if a0 ≤ 122 then (some true) else (if a0 ≥ 65 then (some (decide (a0 ≤ 90))) else (some false))) else (if a0 ≥ 65 then (some (decide (a0 ≤ 90))) else (some false))) = some r := h
 clear h
 by_cases c2 : a0 ≥ 97
 ·rw [if_pos c2] at H
  have c2b0 : decide (97 ≤ a0) = true := decide_eq_true c2
  clear c2
  by_cases c3 : a0 ≤ 122
  ·rw [if_pos c3] at H
   have c3b0 : decide (a0 ≤ 122) = true := decide_eq_true c3
   clear c3
   obtain rfl := Option.some.inj H
   go_enter Tryd.func184, Tryd.ntmps184
   go_wp2
   go_ret
   exact ⟨by first | rfl | (simp; done) | (simp [*]; done), by repeat (first | exact Drawn0.refl _ | apply Drawn0.step)⟩
  ·rw [if_neg c3] at H
   have c3b0 : decide (a0 ≤ 122) = false := decide_eq_false c3
   clear c3
   by_cases c4 : a0 ≥ 65
   ·rw [if_pos c4] at H
    have c4b0 : decide (65 ≤ a0) = true := decide_eq_true c4
    clear c4
    obtain rfl := Option.some.inj H
    go_enter Tryd.func184, Tryd.ntmps184
    go_wp2
    go_ret
    exact ⟨by first | rfl | (simp; done) | (simp [*]; done), by repeat (first | exact Drawn0.refl _ | apply Drawn0.step)⟩
   ·rw [if_neg c4] at H
    have c4b0 : decide (65 ≤ a0) = false := decide_eq_false c4
    clear c4
    obtain rfl := Option.some.inj H
    go_enter Tryd.func184, Tryd.ntmps184
    go_wp2
    go_ret
    exact ⟨by first | rfl | (simp; done) | (simp [*]; done), by repeat (first | exact Drawn0.refl _ | apply Drawn0.step)⟩
 ·rw [if_neg c2] at H
  have c2b0 : decide (97 ≤ a0) = false := decide_eq_false c2
  clear c2
  by_cases c5 : a0 ≥ 65
  ·rw [if_pos c5] at H
   have c5b0 : decide (65 ≤ a0) = true := decide_eq_true c5
   clear c5
   obtain rfl := Option.some.inj H
   go_enter Tryd.func184, Tryd.ntmps184
   go_wp2
   go_ret
   exact ⟨by first | rfl | (simp; done) | (simp [*]; done), by repeat (first | exact Drawn0.refl _ | apply Drawn0.step)⟩
  ·rw [if_neg c5] at H
   have c5b0 : decide (65 ≤ a0) = false := decide_eq_false c5
   clear c5
   obtain rfl := Option.some.inj H
   go_enter Tryd.func184, Tryd.ntmps184
   go_wp2
   go_ret
   exact ⟨by first | rfl | (simp; done) | (simp [*]; done), by repeat (first | exact Drawn0.refl _ | apply Drawn0.step)⟩

/-! ### impl_mayBegin: function 163 -/
def impl_mayBegin.f (a0 : Int) : Option (Bool) := (impl_isLetter.f a0).bind fun t254 => (if t254 = true then (some true) else (some (a0 == 95)))
set_option maxHeartbeats 8000000 in
set_option maxRecDepth 100000 in
theorem impl_mayBegin.calls (a0 : Int) (r : Bool) (w : World) (h : impl_mayBegin.f a0 = some r) :
  Calls Tryd.prog 163 #[.int .u8 a0] w fun e w' => e = .returned (.bool r) ∧ Drawn0 w w' := by
 have H : ((impl_isLetter.f a0).bind fun t254 => (if t254 = true then (some true) else (some (a0 == 95)))) = some r := h
 clear h
 replace H := Option.bind_eq_some_iff.mp H
 obtain ⟨t254, A20, H⟩ := H
 replace H : (if t254 = true then (some true) else (some (a0 == 95))) = some r := H
 have A2 := Aside0.mk A20
 clear A20
 by_cases c3 : t254 = true
 ·subst c3
  have H1 : (some true) = some r := by rw [if_pos rfl] at H; exact H
  clear H
  have H := H1
  clear H1
  obtain rfl := Option.some.inj H
  go_enter Tryd.func163, Tryd.ntmps163
  go_wp2_with (first | ((with_reducible refine gate_callee (f := 184) rfl ?_); refine goesL_ (some 4) rfl rfl Tryd.func184 (by kernel_rfl) rfl #[.int .u8 a0] rfl au_ ?_; (with_reducible refine (impl_isLetter.calls a0 true _ A2.out).mono ?_); rintro e w' ⟨rfl, ⟨nd, rfl⟩⟩; refine ⟨_, rfl, ?_⟩))
  go_ret
  exact ⟨by first | rfl | (simp; done) | (simp [*]; done), by repeat (first | exact Drawn0.refl _ | apply Drawn0.step)⟩
 ·replace c3 := Bool.eq_false_iff.mpr c3
  subst c3
  have H1 : (some (a0 == 95)) = some r := by rw [if_neg (show ¬ (false = true) by decide)] at H; exact H
  clear H
  have H := H1
  clear H1
  obtain rfl := Option.some.inj H
  go_enter Tryd.func163, Tryd.ntmps163
  go_wp2_with (first | ((with_reducible refine gate_callee (f := 184) rfl ?_); refine goesL_ (some 4) rfl rfl Tryd.func184 (by kernel_rfl) rfl #[.int .u8 a0] rfl au_ ?_; (with_reducible refine (impl_isLetter.calls a0 false _ A2.out).mono ?_); rintro e w' ⟨rfl, ⟨nd, rfl⟩⟩; refine ⟨_, rfl, ?_⟩))
  go_ret
  exact ⟨by first | rfl | (simp; done) | (simp [*]; done), by repeat (first | exact Drawn0.refl _ | apply Drawn0.step)⟩

/-! ### impl_nameEnd: function 139 -/
mutual
def impl_nameEnd.j0 : Nat → ByteArray → Int → Bool → Option (Int)
 | 0, _, _, _ => none
 | k + 1, x0, x1, x15 => if x15 = true then (some x1) else (impl_nameEnd.l0 k x0 x1)
def impl_nameEnd.l0 : Nat → ByteArray → Int → Option (Int)
 | 0, _, _ => none
 | k + 1, x0, x1 => if x1 < (x0.size : Int) then (if 0 ≤ x1 then ((impl_mayBegin.f (bt x0 x1)).bind fun t256 => (if t256 = true then (impl_nameEnd.l0 k x0 (wrap64 (x1 + 1))) else ((impl_isDigit.f (bt x0 x1)).bind fun t257 => (if t257 = true then (impl_nameEnd.l0 k x0 (wrap64 (x1 + 1))) else (if (bt x0 x1) = 45 then (impl_nameEnd.l0 k x0 (wrap64 (x1 + 1))) else (if (bt x0 x1) = 58 then (impl_nameEnd.l0 k x0 (wrap64 (x1 + 1))) else (if (bt x0 x1) = 46 then (impl_nameEnd.l0 k x0 (wrap64 (x1 + 1))) else (some x1)))))))) else (none)) else (some x1)
end
def impl_nameEnd.f (k : Nat) (a0 : ByteArray) (a1 : Int) : Option (Int) := if a1 ≥ (a0.size : Int) then (impl_nameEnd.j0 k a0 a1 true) else (if 0 ≤ a1 then (if a1 < (a0.size : Int) then ((impl_mayBegin.f (bt a0 a1)).bind fun t255 => (impl_nameEnd.j0 k a0 a1 (!t255))) else (none)) else (none))
set_option maxHeartbeats 8000000 in
set_option maxRecDepth 100000 in
theorem impl_nameEnd.calls (k : Nat) (a0 : ByteArray) (a1 : Int) (r : Int) (w : World) (h : impl_nameEnd.f k a0 a1 = some r) :
  Calls Tryd.prog 139 #[.string a0, .int .i64 a1] w fun e w' => e = .returned (.int .i64 r) ∧ Drawn0 w w' := by
 have H : (if a1 ≥ (a0.size : Int) then (impl_nameEnd.j0 k a0 a1 true) else (if 0 ≤ a1 then (if a1 < (a0.size : Int) then ((impl_mayBegin.f (bt a0 a1)).bind fun t255 => (impl_nameEnd.j0 k a0 a1 (!t255))) else (none)) else (none))) = some r := h
 clear h
 have HC3 := Aside0.mk H
 clear H
 go_enter Tryd.func139, Tryd.ntmps139
 go_upto_region 1 with (fail)
 go_cut [15] (fun v15 wc => ∃ (kq : Nat) (x15_2 : Bool), v15 = .bool x15_2 ∧ Aside0 (impl_nameEnd.j0 kq a0 a1 x15_2 = some r) ∧ Aside0 (kq ≤ k) ∧ Drawn0 w wc)
 case first =>
  have H := HC3.out
  clear HC3
  by_cases c4 : a1 ≥ (a0.size : Int)
  ·rw [if_pos c4] at H
   have c4b0 : decide ((a0.size : Int) ≤ a1) = true := decide_eq_true c4
   clear c4
   (first | rw [c4b0] | (simp only [i64_w, i32_w]; rw [c4b0]) | skip)
   have H' := Aside0.mk H
   clear H
   go_wp2
   go_meet
   case rel => exact ⟨_, (true), sv_, H', ⟨by first | omega | exact Nat.le_refl _⟩, by repeat (first | exact Drawn0.refl _ | apply Drawn0.step)⟩
  ·rw [if_neg c4] at H
   have c4b0 : decide ((a0.size : Int) ≤ a1) = false := decide_eq_false c4
   clear c4
   (first | rw [c4b0] | (simp only [i64_w, i32_w]; rw [c4b0]) | skip)
   by_cases c5 : 0 ≤ a1
   ·rw [if_pos c5] at H
    have c5b0 : decide (0 ≤ a1) = true := decide_eq_true c5
    clear c5
    by_cases c6 : a1 < (a0.size : Int)
    ·rw [if_pos c6] at H
     have c6b0 : decide (a1 < (a0.size : Int)) = true := decide_eq_true c6
     clear c6
     replace H := Option.bind_eq_some_iff.mp H
     obtain ⟨t255, A80, H⟩ := H
     replace H : (impl_nameEnd.j0 k a0 a1 (!t255)) = some r := H
     have A8 := Aside0.mk A80
     clear A80
     have H' := Aside0.mk H
     clear H
     have p7 : 0 ≤ (a1 : Int) := of_decide_eq_true am_
     have q7 : a1 < (a0.size : Int) := of_decide_eq_true am_
     have hx7 := bt_at a0 a1
     replace p7 := eq_true p7
     replace q7 := eq_true q7
     go_wp2_with (first | (go_at_call 163; (with_reducible refine (impl_mayBegin.calls (bt a0 a1) t255 _ A8.out).mono ?_); rintro e w' ⟨rfl, ⟨nd, rfl⟩⟩))
     go_meet
     case rel => exact ⟨_, (!t255), sv_, H', ⟨by first | omega | exact Nat.le_refl _⟩, by repeat (first | exact Drawn0.refl _ | apply Drawn0.step)⟩
    ·rw [if_neg c6] at H
     exact absurd H (by simp)
   ·rw [if_neg c5] at H
    exact absurd H (by simp)
 case rest =>
  clear HC3
  (try clear c1);(try clear p2);(try clear c4);(try clear c4b0);(try clear c5);(try clear c5b0);(try clear c6);(try clear c6b0);(try clear p7);(try clear q7);(try clear hx7);(try clear p7);(try clear q7)
  obtain ⟨kq, x15_2, rfl, HA, HJ2, ⟨mc2, rfl⟩⟩ := hcut
  cases kq with
  | zero => exact absurd HA.out (by simp [impl_nameEnd.j0])
  | succ kj2 =>
   have H := HA.out
   clear HA
   simp only [impl_nameEnd.j0] at H
   by_cases c9 : x15_2 = true
   ·subst c9
    have H1 : (some a1) = some r := by rw [if_pos rfl] at H; exact H
    clear H
    have H := H1
    clear H1
    obtain rfl := Option.some.inj H
    go_wp2
    go_ret
    exact ⟨by first | rfl | (simp; done) | (simp [*]; done), by repeat (first | exact Drawn0.refl _ | apply Drawn0.step)⟩
   ·replace c9 := Bool.eq_false_iff.mpr c9
    subst c9
    have H1 : (impl_nameEnd.l0 kj2 a0 a1) = some r := by rw [if_neg (show ¬ (false = true) by decide)] at H; exact H
    clear H
    have H := H1
    clear H1
    have H' := Aside0.mk H
    clear H
    go_wp2
    go_loopg [1] kj2 (fun kq v1 w' => ∃ (x1_2 : Int), v1 = .int .i64 x1_2 ∧ Aside0 (impl_nameEnd.l0 kq a0 x1_2 = some r) ∧ Aside0 (kq ≤ kj2) ∧ Drawn0 w w')
    case atStart => exact ⟨(a1), sv_, H', ⟨Nat.le_refl _⟩, by repeat (first | exact Drawn0.refl _ | apply Drawn0.step)⟩
    case round =>
     clear H'
     (try clear c1);(try clear c2);(try clear p2);(try clear c4);(try clear c4b0);(try clear c5);(try clear c5b0);(try clear c6);(try clear c6b0);(try clear p7);(try clear q7);(try clear hx7);(try clear c9);(try clear p2);(try clear p7);(try clear q7)
     obtain ⟨x1_2, rfl, HA, HK2, ⟨m2, rfl⟩⟩ := hrel
     cases gk with
     | zero => exact absurd HA.out (by simp [impl_nameEnd.l0])
     | succ k2 =>
      have H := HA.out
      clear HA
      simp only [impl_nameEnd.l0] at H
      by_cases c10 : x1_2 < (a0.size : Int)
      ·rw [if_pos c10] at H
       have c10b0 : decide (x1_2 < (a0.size : Int)) = true := decide_eq_true c10
       clear c10
       by_cases c11 : 0 ≤ x1_2
       ·rw [if_pos c11] at H
        have c11b0 : decide (0 ≤ x1_2) = true := decide_eq_true c11
        clear c11
        replace H := Option.bind_eq_some_iff.mp H
        obtain ⟨t256, A130, H⟩ := H
        replace H : (if t256 = true then (impl_nameEnd.l0 k2 a0 (wrap64 (x1_2 + 1))) else ((impl_isDigit.f (bt a0 x1_2)).bind fun t257 => (if t257 = true then (impl_nameEnd.l0 k2 a0 (wrap64 (x1_2 + 1))) else (if (bt a0 x1_2) = 45 then (impl_nameEnd.l0 k2 a0 (wrap64 (x1_2 + 1))) else (if (bt a0 x1_2) = 58 then (impl_nameEnd.l0 k2 a0 (wrap64 (x1_2 + 1))) else (if (bt a0 x1_2) = 46 then (impl_nameEnd.l0 k2 a0 (wrap64 (x1_2 + 1))) else (some x1_2))))))) = some r := H
        have A13 := Aside0.mk A130
        clear A130
        by_cases c14 : t256 = true
        ·subst c14
         have H1 : (impl_nameEnd.l0 k2 a0 (wrap64 (x1_2 + 1))) = some r := by rw [if_pos rfl] at H; exact H
         clear H
         have H := H1
         clear H1
         have H' := Aside0.mk H
         clear H
         have p12 : 0 ≤ (x1_2 : Int) := of_decide_eq_true am_
         have q12 : x1_2 < (a0.size : Int) := of_decide_eq_true am_
         have hx12 := bt_at a0 x1_2
         replace p12 := eq_true p12
         replace q12 := eq_true q12
         go_wp2_with (first | (go_at_call 163; (with_reducible refine (impl_mayBegin.calls (bt a0 x1_2) true _ A13.out).mono ?_); rintro e w' ⟨rfl, ⟨nd, rfl⟩⟩))
         go_roundg k2
         case measure => have := HJ2.out; have := HK2.out; omega
         case rel => exact ⟨(wrap64 (x1_2 + 1)), sv_, H', ⟨by have := HJ2.out; have := HK2.out; omega⟩, by repeat (first | exact Drawn0.refl _ | apply Drawn0.step)⟩
        ·replace c14 := Bool.eq_false_iff.mpr c14
         subst c14
         have H1 : ((impl_isDigit.f (bt a0 x1_2)).bind fun t257 => (if t257 = true then (impl_nameEnd.l0 k2 a0 (wrap64 (x1_2 + 1))) else (if (bt a0 x1_2) = 45 then (impl_nameEnd.l0 k2 a0 (wrap64 (x1_2 + 1))) else (if (bt a0 x1_2) = 58 then (impl_nameEnd.l0 k2 a0 (wrap64 (x1_2 + 1))) else (if (bt a0 x1_2) = 46 then (impl_nameEnd.l0 k2 a0 (wrap64 (x1_2 + 1))) else (some x1_2)))))) = some r := by rw [if_neg (show ¬ (false = true) by decide)] at H; exact H
         clear H
         have H := H1
         clear H1
         replace H := Option.bind_eq_some_iff.mp H
         obtain ⟨t257, A160, H⟩ := H
         replace H : (if t257 = true then (impl_nameEnd.l0 k2 a0 (wrap64 (x1_2 + 1))) else (if (bt a0 x1_2) = 45 then (impl_nameEnd.l0 k2 a0 (wrap64 (x1_2 + 1))) else (if (bt a0 x1_2) = 58 then (impl_nameEnd.l0 k2 a0 (wrap64 (x1_2 + 1))) else (if (bt a0 x1_2) = 46 then (impl_nameEnd.l0 k2 a0 (wrap64 (x1_2 + 1))) else (some x1_2))))) = some r := H
         have A16 := Aside0.mk A160
         clear A160
         by_cases c17 : t257 = true
         ·subst c17
          have H1 : (impl_nameEnd.l0 k2 a0 (wrap64 (x1_2 + 1))) = some r := by rw [if_pos rfl] at H; exact H
          clear H
          have H := H1
          clear H1
          have H' := Aside0.mk H
          clear H
          have p12 : 0 ≤ (x1_2 : Int) := of_decide_eq_true am_
          have q12 : x1_2 < (a0.size : Int) := of_decide_eq_true am_
          have hx12 := bt_at a0 x1_2
          replace p12 := eq_true p12
          replace q12 := eq_true q12
          go_wp2_with (first | (go_at_call 163; (with_reducible refine (impl_mayBegin.calls (bt a0 x1_2) false _ A13.out).mono ?_); rintro e w' ⟨rfl, ⟨nd, rfl⟩⟩; have p15 : 0 ≤ (x1_2 : Int) := of_decide_eq_true am_; have q15 : x1_2 < (a0.size : Int) := of_decide_eq_true am_; have hx15 := bt_at a0 x1_2; replace p15 := eq_true p15; replace q15 := eq_true q15) | (go_at_call 72; (with_reducible refine (impl_isDigit.calls (bt a0 x1_2) true _ A16.out).mono ?_); rintro e w' ⟨rfl, ⟨nd, rfl⟩⟩))
          go_roundg k2
          case measure => have := HJ2.out; have := HK2.out; omega
          case rel => exact ⟨(wrap64 (x1_2 + 1)), sv_, H', ⟨by have := HJ2.out; have := HK2.out; omega⟩, by repeat (first | exact Drawn0.refl _ | apply Drawn0.step)⟩
         ·replace c17 := Bool.eq_false_iff.mpr c17
          subst c17
          have H1 : (if (bt a0 x1_2) = 45 then (impl_nameEnd.l0 k2 a0 (wrap64 (x1_2 + 1))) else (if (bt a0 x1_2) = 58 then (impl_nameEnd.l0 k2 a0 (wrap64 (x1_2 + 1))) else (if (bt a0 x1_2) = 46 then (impl_nameEnd.l0 k2 a0 (wrap64 (x1_2 + 1))) else (some x1_2)))) = some r := by rw [if_neg (show ¬ (false = true) by decide)] at H; exact H
          clear H
          have H := H1
          clear H1
          by_cases c19 : (bt a0 x1_2) = 45
          ·rw [if_pos c19] at H
           have c19b0 : ((bt a0 x1_2) == 45) = true := beq_iff_eq.mpr c19
           have c19b1 : ((bt a0 x1_2) != 45) = false := bne_eq_false_iff_eq.mpr c19
           clear c19
           have H' := Aside0.mk H
           clear H
           have p12 : 0 ≤ (x1_2 : Int) := of_decide_eq_true am_
           have q12 : x1_2 < (a0.size : Int) := of_decide_eq_true am_
           have hx12 := bt_at a0 x1_2
           replace p12 := eq_true p12
           replace q12 := eq_true q12
           go_wp2_with (first | (go_at_call 163; (with_reducible refine (impl_mayBegin.calls (bt a0 x1_2) false _ A13.out).mono ?_); rintro e w' ⟨rfl, ⟨nd, rfl⟩⟩; have p15 : 0 ≤ (x1_2 : Int) := of_decide_eq_true am_; have q15 : x1_2 < (a0.size : Int) := of_decide_eq_true am_; have hx15 := bt_at a0 x1_2; replace p15 := eq_true p15; replace q15 := eq_true q15) | (go_at_call 72; (with_reducible refine (impl_isDigit.calls (bt a0 x1_2) false _ A16.out).mono ?_); rintro e w' ⟨rfl, ⟨nd, rfl⟩⟩; have p18 : 0 ≤ (x1_2 : Int) := of_decide_eq_true am_; have q18 : x1_2 < (a0.size : Int) := of_decide_eq_true am_; have hx18 := bt_at a0 x1_2; replace p18 := eq_true p18; replace q18 := eq_true q18))
           go_roundg k2
           case measure => have := HJ2.out; have := HK2.out; omega
           case rel => exact ⟨(wrap64 (x1_2 + 1)), sv_, H', ⟨by have := HJ2.out; have := HK2.out; omega⟩, by repeat (first | exact Drawn0.refl _ | apply Drawn0.step)⟩
          ·rw [if_neg c19] at H
           have c19b0 : ((bt a0 x1_2) == 45) = false := beq_eq_false_iff_ne.mpr c19
           have c19b1 : ((bt a0 x1_2) != 45) = true := bne_iff_ne.mpr c19
           by_cases c21 : (bt a0 x1_2) = 58
           ·rw [if_pos c21] at H
            have c21b0 : ((bt a0 x1_2) == 58) = true := beq_iff_eq.mpr c21
            have c21b1 : ((bt a0 x1_2) != 58) = false := bne_eq_false_iff_eq.mpr c21
            clear c21
            have H' := Aside0.mk H
            clear H
            have p12 : 0 ≤ (x1_2 : Int) := of_decide_eq_true am_
            have q12 : x1_2 < (a0.size : Int) := of_decide_eq_true am_
            have hx12 := bt_at a0 x1_2
            replace p12 := eq_true p12
            replace q12 := eq_true q12
            go_wp2_with (first | (go_at_call 163; (with_reducible refine (impl_mayBegin.calls (bt a0 x1_2) false _ A13.out).mono ?_); rintro e w' ⟨rfl, ⟨nd, rfl⟩⟩; have p15 : 0 ≤ (x1_2 : Int) := of_decide_eq_true am_; have q15 : x1_2 < (a0.size : Int) := of_decide_eq_true am_; have hx15 := bt_at a0 x1_2; replace p15 := eq_true p15; replace q15 := eq_true q15) | (go_at_call 72; (with_reducible refine (impl_isDigit.calls (bt a0 x1_2) false _ A16.out).mono ?_); rintro e w' ⟨rfl, ⟨nd, rfl⟩⟩; have p18 : 0 ≤ (x1_2 : Int) := of_decide_eq_true am_; have q18 : x1_2 < (a0.size : Int) := of_decide_eq_true am_; have hx18 := bt_at a0 x1_2; replace p18 := eq_true p18; replace q18 := eq_true q18; have p20 : 0 ≤ (x1_2 : Int) := of_decide_eq_true am_; have q20 : x1_2 < (a0.size : Int) := of_decide_eq_true am_; have hx20 := bt_at a0 x1_2; replace p20 := eq_true p20; replace q20 := eq_true q20))
            go_roundg k2
            case measure => have := HJ2.out; have := HK2.out; omega
            case rel => exact ⟨(wrap64 (x1_2 + 1)), sv_, H', ⟨by have := HJ2.out; have := HK2.out; omega⟩, by repeat (first | exact Drawn0.refl _ | apply Drawn0.step)⟩
           ·rw [if_neg c21] at H
            have c21b0 : ((bt a0 x1_2) == 58) = false := beq_eq_false_iff_ne.mpr c21
            have c21b1 : ((bt a0 x1_2) != 58) = true := bne_iff_ne.mpr c21
            by_cases c23 : (bt a0 x1_2) = 46
            ·rw [if_pos c23] at H
             have c23b0 : ((bt a0 x1_2) == 46) = true := beq_iff_eq.mpr c23
             have c23b1 : ((bt a0 x1_2) != 46) = false := bne_eq_false_iff_eq.mpr c23
             clear c23
             have H' := Aside0.mk H
             clear H
             have p12 : 0 ≤ (x1_2 : Int) := of_decide_eq_true am_
             have q12 : x1_2 < (a0.size : Int) := of_decide_eq_true am_
             have hx12 := bt_at a0 x1_2
             replace p12 := eq_true p12
             replace q12 := eq_true q12
             go_wp2_with (first | (go_at_call 163; (with_reducible refine (impl_mayBegin.calls (bt a0 x1_2) false _ A13.out).mono ?_); rintro e w' ⟨rfl, ⟨nd, rfl⟩⟩; have p15 : 0 ≤ (x1_2 : Int) := of_decide_eq_true am_; have q15 : x1_2 < (a0.size : Int) := of_decide_eq_true am_; have hx15 := bt_at a0 x1_2; replace p15 := eq_true p15; replace q15 := eq_true q15) | (go_at_call 72; (with_reducible refine (impl_isDigit.calls (bt a0 x1_2) false _ A16.out).mono ?_); rintro e w' ⟨rfl, ⟨nd, rfl⟩⟩; have p18 : 0 ≤ (x1_2 : Int) := of_decide_eq_true am_; have q18 : x1_2 < (a0.size : Int) := of_decide_eq_true am_; have hx18 := bt_at a0 x1_2; replace p18 := eq_true p18; replace q18 := eq_true q18; have p20 : 0 ≤ (x1_2 : Int) := of_decide_eq_true am_; have q20 : x1_2 < (a0.size : Int) := of_decide_eq_true am_; have hx20 := bt_at a0 x1_2; replace p20 := eq_true p20; replace q20 := eq_true q20; have p22 : 0 ≤ (x1_2 : Int) := of_decide_eq_true am_; have q22 : x1_2 < (a0.size : Int) := of_decide_eq_true am_; have hx22 := bt_at a0 x1_2; replace p22 := eq_true p22; replace q22 := eq_true q22))
             go_roundg k2
             case measure => have := HJ2.out; have := HK2.out; omega
             case rel => exact ⟨(wrap64 (x1_2 + 1)), sv_, H', ⟨by have := HJ2.out; have := HK2.out; omega⟩, by repeat (first | exact Drawn0.refl _ | apply Drawn0.step)⟩
            ·rw [if_neg c23] at H
             have c23b0 : ((bt a0 x1_2) == 46) = false := beq_eq_false_iff_ne.mpr c23
             have c23b1 : ((bt a0 x1_2) != 46) = true := bne_iff_ne.mpr c23
             obtain rfl := Option.some.inj H
             have p12 : 0 ≤ (x1_2 : Int) := of_decide_eq_true am_
             have q12 : x1_2 < (a0.size : Int) := of_decide_eq_true am_
             have hx12 := bt_at a0 x1_2
             replace p12 := eq_true p12
             replace q12 := eq_true q12
             go_wp2_with (first | (go_at_call 163; (with_reducible refine (impl_mayBegin.calls (bt a0 x1_2) false _ A13.out).mono ?_); rintro e w' ⟨rfl, ⟨nd, rfl⟩⟩; have p15 : 0 ≤ (x1_2 : Int) := of_decide_eq_true am_; have q15 : x1_2 < (a0.size : Int) := of_decide_eq_true am_; have hx15 := bt_at a0 x1_2; replace p15 := eq_true p15; replace q15 := eq_true q15) | (go_at_call 72; (with_reducible refine (impl_isDigit.calls (bt a0 x1_2) false _ A16.out).mono ?_); rintro e w' ⟨rfl, ⟨nd, rfl⟩⟩; have p18 : 0 ≤ (x1_2 : Int) := of_decide_eq_true am_; have q18 : x1_2 < (a0.size : Int) := of_decide_eq_true am_; have hx18 := bt_at a0 x1_2; replace p18 := eq_true p18; replace q18 := eq_true q18; have p20 : 0 ≤ (x1_2 : Int) := of_decide_eq_true am_; have q20 : x1_2 < (a0.size : Int) := of_decide_eq_true am_; have hx20 := bt_at a0 x1_2; replace p20 := eq_true p20; replace q20 := eq_true q20; have p22 : 0 ≤ (x1_2 : Int) := of_decide_eq_true am_; have q22 : x1_2 < (a0.size : Int) := of_decide_eq_true am_; have hx22 := bt_at a0 x1_2; replace p22 := eq_true p22; replace q22 := eq_true q22))
             go_ret
             exact ⟨by first | rfl | (simp; done) | (simp [*]; done), by repeat (first | exact Drawn0.refl _ | apply Drawn0.step)⟩
       ·rw [if_neg c11] at H
        exact absurd H (by simp)
      ·rw [if_neg c10] at H
       have c10b0 : decide (x1_2 < (a0.size : Int)) = false := decide_eq_false c10
       clear c10
       obtain rfl := Option.some.inj H
       go_wp2
       go_ret
       exact ⟨by first | rfl | (simp; done) | (simp [*]; done), by repeat (first | exact Drawn0.refl _ | apply Drawn0.step)⟩

/-! ### impl_isName: function 84 -/
def impl_isName.f (k : Nat) (a0 : ByteArray) : Option (Bool) := (impl_within.f (a0.size : Int) 1 30).bind fun t258 => (if t258 = true then ((impl_nameEnd.f k a0 0).bind fun t259 => (some (t259 == (a0.size : Int)))) else (some false))
set_option maxHeartbeats 8000000 in
set_option maxRecDepth 100000 in
theorem impl_isName.calls (k : Nat) (a0 : ByteArray) (r : Bool) (w : World) (h : impl_isName.f k a0 = some r) :
  Calls Tryd.prog 84 #[.string a0] w fun e w' => e = .returned (.bool r) ∧ Drawn0 w w' := by
 have H : ((impl_within.f (a0.size : Int) 1 30).bind fun t258 => (if t258 = true then ((impl_nameEnd.f k a0 0).bind fun t259 => (some (t259 == (a0.size : Int)))) else (some false))) = some r := h
 clear h
 replace H := Option.bind_eq_some_iff.mp H
 obtain ⟨t258, A20, H⟩ := H
 replace H : (if t258 = true then ((impl_nameEnd.f k a0 0).bind fun t259 => (some (t259 == (a0.size : Int)))) else (some false)) = some r := H
 have A2 := Aside0.mk A20
 clear A20
 by_cases c3 : t258 = true
 ·subst c3
  have H1 : ((impl_nameEnd.f k a0 0).bind fun t259 => (some (t259 == (a0.size : Int)))) = some r := by rw [if_pos rfl] at H; exact H
  clear H
  have H := H1
  clear H1
  replace H := Option.bind_eq_some_iff.mp H
  obtain ⟨t259, A40, H⟩ := H
  replace H : (some (t259 == (a0.size : Int))) = some r := H
  have A4 := Aside0.mk A40
  clear A40
  obtain rfl := Option.some.inj H
  go_enter Tryd.func84, Tryd.ntmps84
  go_wp2_with (first | ((with_reducible refine gate_callee (f := 33) rfl ?_); refine goesL_ (some 5) rfl rfl Tryd.func33 (by kernel_rfl) rfl #[.int .i64 (a0.size : Int), .int .i64 1, .int .i64 30] rfl au_ ?_; (with_reducible refine (impl_within.calls (a0.size : Int) 1 30 true _ A2.out).mono ?_); rintro e w' ⟨rfl, ⟨nd, rfl⟩⟩; refine ⟨_, rfl, ?_⟩) | (go_at_call 139; (with_reducible refine (impl_nameEnd.calls k a0 0 t259 _ A4.out).mono ?_); rintro e w' ⟨rfl, ⟨nd, rfl⟩⟩))
  go_ret
  exact ⟨by first | rfl | (simp; done) | (simp [*]; done), by repeat (first | exact Drawn0.refl _ | apply Drawn0.step)⟩
 ·replace c3 := Bool.eq_false_iff.mpr c3
  subst c3
  have H1 : (some false) = some r := by rw [if_neg (show ¬ (false = true) by decide)] at H; exact H
  clear H
  have H := H1
  clear H1
  obtain rfl := Option.some.inj H
  go_enter Tryd.func84, Tryd.ntmps84
  go_wp2_with (first | ((with_reducible refine gate_callee (f := 33) rfl ?_); refine goesL_ (some 5) rfl rfl Tryd.func33 (by kernel_rfl) rfl #[.int .i64 (a0.size : Int), .int .i64 1, .int .i64 30] rfl au_ ?_; (with_reducible refine (impl_within.calls (a0.size : Int) 1 30 false _ A2.out).mono ?_); rintro e w' ⟨rfl, ⟨nd, rfl⟩⟩; refine ⟨_, rfl, ?_⟩))
  go_ret
  exact ⟨by first | rfl | (simp; done) | (simp [*]; done), by repeat (first | exact Drawn0.refl _ | apply Drawn0.step)⟩

end Go.Proofs.YtooilehdljeepaaDoor.PFnExactMatches
