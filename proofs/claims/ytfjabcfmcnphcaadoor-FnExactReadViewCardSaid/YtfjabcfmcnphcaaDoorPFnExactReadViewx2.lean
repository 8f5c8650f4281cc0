-- Laid by a program of this session out of the translation (its own run of the print). Lean checks it.
import Derived.Test.YtfjabcfmcnphcaaDoorPFnExactReadViewx0
import Derived.Test.YtfjabcfmcnphcaaDoorPFnExactReadViewx1
namespace Go.Proofs.YtfjabcfmcnphcaaDoor.PFnExactReadView
open Go.RowKit Go.Proofs.YtfjabcfmcnphcaaDoorW.PrintWords Go.Proofs.YtfjabcfmcnphcaaDoorW.PrintLast Go.Proofs.YtfjabcfmcnphcaaDoorW.PrintMore
attribute [local go_sem] max2_int min2_int max_two min_two max_three min_three max_four min_four   -- for this text's walks alone
set_option linter.unusedVariables false
set_option linter.unusedSimpArgs false

/-! ### spec_l1Decimal: function 27 -/
mutual
def spec_l1Decimal.j0 : Nat → ByteArray → Int → Bool → Bool → Option (Int × Int)
  | 0, _, _, _, _ => none
  | k + 1, x0, x4, x5, x26 => if x26 = true then (if 0 ≤ x4 then (if x4 < (x0.size : Int) then (spec_l1Decimal.j1 k x0 (wrap64 (x4 + 1)) ((bt x0 x4) == 45)) else (none)) else (none)) else (spec_l1Decimal.j1 k x0 x4 x5)
def spec_l1Decimal.j1 : Nat → ByteArray → Int → Bool → Option (Int × Int)
  | 0, _, _, _ => none
  | k + 1, x0, x4, x5 => spec_l1Decimal.l0 k x0 x4 x5 0 0
def spec_l1Decimal.l0 : Nat → ByteArray → Int → Bool → Int → Int → Option (Int × Int)
  | 0, _, _, _, _, _ => none
  | k + 1, x0, x4, x5, x6, x7 => if x4 < (x0.size : Int) then (if 0 ≤ x4 then ((spec_l1Digit.f (bt x0 x4)).bind fun t104 => (spec_l1Decimal.j3 k x0 x4 x5 x6 x7 t104)) else (none)) else (spec_l1Decimal.j3 k x0 x4 x5 x6 x7 false)
def spec_l1Decimal.j3 : Nat → ByteArray → Int → Bool → Int → Int → Bool → Option (Int × Int)
  | 0, _, _, _, _, _, _ => none
  | k + 1, x0, x4, x5, x6, x7, x42 => if x42 = true then (if x7 < 9 then (if 0 ≤ x4 then (if x4 < (x0.size : Int) then (spec_l1Decimal.l0 k x0 (wrap64 (x4 + 1)) x5 (wrap64 ((wrap64 (10 * x6)) + (((bt x0 x4) - 48) % 256))) (wrap64 (x7 + 1))) else (none)) else (none)) else (spec_l1Decimal.l0 k x0 (wrap64 (x4 + 1)) x5 x6 (wrap64 (x7 + 1)))) else (if (wrap64 (x4 + 1)) < (x0.size : Int) then (if 0 ≤ x4 then (if x4 < (x0.size : Int) then (if (bt x0 x4) = 46 then (if 0 ≤ (wrap64 (x4 + 1)) then ((spec_l1Digit.f (bt x0 (wrap64 (x4 + 1)))).bind fun t105 => (spec_l1Decimal.j4 k x0 x4 x5 x6 x7 0 t105)) else (none)) else (spec_l1Decimal.j4 k x0 x4 x5 x6 x7 0 false)) else (none)) else (none)) else (spec_l1Decimal.j4 k x0 x4 x5 x6 x7 0 false))
def spec_l1Decimal.j4 : Nat → ByteArray → Int → Bool → Int → Int → Int → Bool → Option (Int × Int)
  | 0, _, _, _, _, _, _, _ => none
  | k + 1, x0, x4, x5, x6, x7, x8, x74 => if x74 = true then (spec_l1Decimal.l1 k x0 (wrap64 (x4 + 1)) x5 x6 x7 x8) else (spec_l1Decimal.j7 k x4 x5 x6 x7 x8)
def spec_l1Decimal.j7 : Nat → Int → Bool → Int → Int → Int → Option (Int × Int)
  | 0, _, _, _, _, _ => none
  | k + 1, x4, x5, x6, x7, x8 => if (wrap64 (x7 + x8)) = 0 then (spec_l1Decimal.j8 k x4 x5 x6 x8 true) else (if x7 > 8 then (spec_l1Decimal.j8 k x4 x5 x6 x8 true) else (spec_l1Decimal.j8 k x4 x5 x6 x8 (decide (x8 > 6))))
def spec_l1Decimal.j8 : Nat → Int → Bool → Int → Int → Bool → Option (Int × Int)
  | 0, _, _, _, _, _ => none
  | k + 1, x4, x5, x6, x8, x112 => if x112 = true then (some (0, 0)) else (spec_l1Decimal.l2 k x4 x5 x6 x8)
def spec_l1Decimal.l2 : Nat → Int → Bool → Int → Int → Option (Int × Int)
  | 0, _, _, _, _ => none
  | k + 1, x4, x5, x6, x9 => if x9 < 6 then (spec_l1Decimal.l2 k x4 x5 (wrap64 (x6 * 10)) (wrap64 (x9 + 1))) else (if x5 = true then (spec_l1Decimal.j10 k x4 (wrap64 (-x6))) else (spec_l1Decimal.j10 k x4 x6))
def spec_l1Decimal.j10 : Nat → Int → Int → Option (Int × Int)
  | 0, _, _ => none
  | k + 1, x4, x6 => (spec_l1Down.f (wrap64 ((wrap64 (x6 * 65536)) + 500000)) 1000000).bind fun t107 => ((spec_GoodFixed.f t107).bind fun t108 => (if t108 = true then (some (x4, t107)) else (some (0, 0))))
def spec_l1Decimal.l1 : Nat → ByteArray → Int → Bool → Int → Int → Int → Option (Int × Int)
  | 0, _, _, _, _, _, _ => none
  | k + 1, x0, x4, x5, x6, x7, x8 => if x4 < (x0.size : Int) then (if 0 ≤ x4 then ((spec_l1Digit.f (bt x0 x4)).bind fun t106 => (spec_l1Decimal.j6 k x0 x4 x5 x6 x7 x8 t106)) else (none)) else (spec_l1Decimal.j6 k x0 x4 x5 x6 x7 x8 false)
def spec_l1Decimal.j6 : Nat → ByteArray → Int → Bool → Int → Int → Int → Bool → Option (Int × Int)
  | 0, _, _, _, _, _, _, _ => none
  | k + 1, x0, x4, x5, x6, x7, x8, x86 => if x86 = true then (if x8 < 6 then (if 0 ≤ x4 then (if x4 < (x0.size : Int) then (spec_l1Decimal.l1 k x0 (wrap64 (x4 + 1)) x5 (wrap64 ((wrap64 (10 * x6)) + (((bt x0 x4) - 48) % 256))) x7 (wrap64 (x8 + 1))) else (none)) else (none)) else (spec_l1Decimal.l1 k x0 (wrap64 (x4 + 1)) x5 x6 x7 (wrap64 (x8 + 1)))) else (spec_l1Decimal.j7 k x4 x5 x6 x7 x8)
end
def spec_l1Decimal.f (k : Nat) (a0 : ByteArray) : Option (Int × Int) := if 0 < (a0.size : Int) then (if (bt a0 0) = 45 then (spec_l1Decimal.j0 k a0 0 false true) else (spec_l1Decimal.j0 k a0 0 false ((bt a0 0) == 43))) else (spec_l1Decimal.j0 k a0 0 false false)
theorem spec_l1Decimal.mono_l : ∀ k, (∀ y0 y1 y2 y3, LeO (spec_l1Decimal.j0 k y0 y1 y2 y3) (spec_l1Decimal.j0 (k + 1) y0 y1 y2 y3)) ∧ (∀ y0 y1 y2, LeO (spec_l1Decimal.j1 k y0 y1 y2) (spec_l1Decimal.j1 (k + 1) y0 y1 y2)) ∧ (∀ y0 y1 y2 y3 y4, LeO (spec_l1Decimal.l0 k y0 y1 y2 y3 y4) (spec_l1Decimal.l0 (k + 1) y0 y1 y2 y3 y4)) ∧ (∀ y0 y1 y2 y3 y4 y5, LeO (spec_l1Decimal.j3 k y0 y1 y2 y3 y4 y5) (spec_l1Decimal.j3 (k + 1) y0 y1 y2 y3 y4 y5)) ∧ (∀ y0 y1 y2 y3 y4 y5 y6, LeO (spec_l1Decimal.j4 k y0 y1 y2 y3 y4 y5 y6) (spec_l1Decimal.j4 (k + 1) y0 y1 y2 y3 y4 y5 y6)) ∧ (∀ y0 y1 y2 y3 y4, LeO (spec_l1Decimal.j7 k y0 y1 y2 y3 y4) (spec_l1Decimal.j7 (k + 1) y0 y1 y2 y3 y4)) ∧ (∀ y0 y1 y2 y3 y4, LeO (spec_l1Decimal.j8 k y0 y1 y2 y3 y4) (spec_l1Decimal.j8 (k + 1) y0 y1 y2 y3 y4)) ∧ (∀ y0 y1 y2 y3, LeO (spec_l1Decimal.l2 k y0 y1 y2 y3) (spec_l1Decimal.l2 (k + 1) y0 y1 y2 y3)) ∧ (∀ y0 y1, LeO (spec_l1Decimal.j10 k y0 y1) (spec_l1Decimal.j10 (k + 1) y0 y1)) ∧ (∀ y0 y1 y2 y3 y4 y5, LeO (spec_l1Decimal.l1 k y0 y1 y2 y3 y4 y5) (spec_l1Decimal.l1 (k + 1) y0 y1 y2 y3 y4 y5)) ∧ (∀ y0 y1 y2 y3 y4 y5 y6, LeO (spec_l1Decimal.j6 k y0 y1 y2 y3 y4 y5 y6) (spec_l1Decimal.j6 (k + 1) y0 y1 y2 y3 y4 y5 y6))
  | 0 => ⟨fun _ _ _ _ r h => by simp [spec_l1Decimal.j0] at h, fun _ _ _ r h => by simp [spec_l1Decimal.j1] at h, fun _ _ _ _ _ r h => by simp [spec_l1Decimal.l0] at h, fun _ _ _ _ _ _ r h => by simp [spec_l1Decimal.j3] at h, fun _ _ _ _ _ _ _ r h => by simp [spec_l1Decimal.j4] at h, fun _ _ _ _ _ r h => by simp [spec_l1Decimal.j7] at h, fun _ _ _ _ _ r h => by simp [spec_l1Decimal.j8] at h, fun _ _ _ _ r h => by simp [spec_l1Decimal.l2] at h, fun _ _ r h => by simp [spec_l1Decimal.j10] at h, fun _ _ _ _ _ _ r h => by simp [spec_l1Decimal.l1] at h, fun _ _ _ _ _ _ _ r h => by simp [spec_l1Decimal.j6] at h⟩
  | k + 1 => by
    obtain ⟨ih0, ih1, ih2, ih3, ih4, ih5, ih6, ih7, ih8, ih9, ih10⟩ := spec_l1Decimal.mono_l k
    refine ⟨?_, ?_, ?_, ?_, ?_, ?_, ?_, ?_, ?_, ?_, ?_⟩
    · intro y0 y1 y2 y3
      unfold spec_l1Decimal.j0
      repeat' first
      | (with_reducible exact ih0 _ _ _ _)
      | (with_reducible exact ih1 _ _ _)
      | (with_reducible exact ih2 _ _ _ _ _)
      | (with_reducible exact ih3 _ _ _ _ _ _)
      | (with_reducible exact ih4 _ _ _ _ _ _ _)
      | (with_reducible exact ih5 _ _ _ _ _)
      | (with_reducible exact ih6 _ _ _ _ _)
      | (with_reducible exact ih7 _ _ _ _)
      | (with_reducible exact ih8 _ _)
      | (with_reducible exact ih9 _ _ _ _ _ _)
      | (with_reducible exact ih10 _ _ _ _ _ _ _)
      | (with_reducible exact LeO.refl _)
      | (with_reducible exact LeO.none _)
      | (with_reducible refine LeO.ite ?_ ?_)
      | (with_reducible refine LeO.bind ?_ (fun _ => ?_))
      | exact ih0 _ _ _ _
      | exact ih1 _ _ _
      | exact ih2 _ _ _ _ _
      | exact ih3 _ _ _ _ _ _
      | exact ih4 _ _ _ _ _ _ _
      | exact ih5 _ _ _ _ _
      | exact ih6 _ _ _ _ _
      | exact ih7 _ _ _ _
      | exact ih8 _ _
      | exact ih9 _ _ _ _ _ _
      | exact ih10 _ _ _ _ _ _ _
      | exact LeO.none _
      | refine LeO.ite ?_ ?_
      | refine LeO.bind ?_ (fun _ => ?_)
    · intro y0 y1 y2
      unfold spec_l1Decimal.j1
      repeat' first
      | (with_reducible exact ih0 _ _ _ _)
      | (with_reducible exact ih1 _ _ _)
      | (with_reducible exact ih2 _ _ _ _ _)
      | (with_reducible exact ih3 _ _ _ _ _ _)
      | (with_reducible exact ih4 _ _ _ _ _ _ _)
      | (with_reducible exact ih5 _ _ _ _ _)
      | (with_reducible exact ih6 _ _ _ _ _)
      | (with_reducible exact ih7 _ _ _ _)
      | (with_reducible exact ih8 _ _)
      | (with_reducible exact ih9 _ _ _ _ _ _)
      | (with_reducible exact ih10 _ _ _ _ _ _ _)
      | (with_reducible exact LeO.refl _)
      | (with_reducible exact LeO.none _)
      | (with_reducible refine LeO.ite ?_ ?_)
      | (with_reducible refine LeO.bind ?_ (fun _ => ?_))
      | exact ih0 _ _ _ _
      | exact ih1 _ _ _
      | exact ih2 _ _ _ _ _
      | exact ih3 _ _ _ _ _ _
      | exact ih4 _ _ _ _ _ _ _
      | exact ih5 _ _ _ _ _
      | exact ih6 _ _ _ _ _
      | exact ih7 _ _ _ _
      | exact ih8 _ _
      | exact ih9 _ _ _ _ _ _
      | exact ih10 _ _ _ _ _ _ _
      | exact LeO.none _
      | refine LeO.ite ?_ ?_
      | refine LeO.bind ?_ (fun _ => ?_)
    · intro y0 y1 y2 y3 y4
      unfold spec_l1Decimal.l0
      repeat' first
      | (with_reducible exact ih0 _ _ _ _)
      | (with_reducible exact ih1 _ _ _)
      | (with_reducible exact ih2 _ _ _ _ _)
      | (with_reducible exact ih3 _ _ _ _ _ _)
      | (with_reducible exact ih4 _ _ _ _ _ _ _)
      | (with_reducible exact ih5 _ _ _ _ _)
      | (with_reducible exact ih6 _ _ _ _ _)
      | (with_reducible exact ih7 _ _ _ _)
      | (with_reducible exact ih8 _ _)
      | (with_reducible exact ih9 _ _ _ _ _ _)
      | (with_reducible exact ih10 _ _ _ _ _ _ _)
      | (with_reducible exact LeO.refl _)
      | (with_reducible exact LeO.none _)
      | (with_reducible refine LeO.ite ?_ ?_)
      | (with_reducible refine LeO.bind ?_ (fun _ => ?_))
      | exact ih0 _ _ _ _
      | exact ih1 _ _ _
      | exact ih2 _ _ _ _ _
      | exact ih3 _ _ _ _ _ _
      | exact ih4 _ _ _ _ _ _ _
      | exact ih5 _ _ _ _ _
      | exact ih6 _ _ _ _ _
      | exact ih7 _ _ _ _
      | exact ih8 _ _
      | exact ih9 _ _ _ _ _ _
      | exact ih10 _ _ _ _ _ _ _
      | exact LeO.none _
      | refine LeO.ite ?_ ?_
      | refine LeO.bind ?_ (fun _ => ?_)
    · intro y0 y1 y2 y3 y4 y5
      unfold spec_l1Decimal.j3
      repeat' first
      | (with_reducible exact ih0 _ _ _ _)
      | (with_reducible exact ih1 _ _ _)
      | (with_reducible exact ih2 _ _ _ _ _)
      | (with_reducible exact ih3 _ _ _ _ _ _)
      | (with_reducible exact ih4 _ _ _ _ _ _ _)
      | (with_reducible exact ih5 _ _ _ _ _)
      | (with_reducible exact ih6 _ _ _ _ _)
      | (with_reducible exact ih7 _ _ _ _)
      | (with_reducible exact ih8 _ _)
      | (with_reducible exact ih9 _ _ _ _ _ _)
      | (with_reducible exact ih10 _ _ _ _ _ _ _)
      | (with_reducible exact LeO.refl _)
      | (with_reducible exact LeO.none _)
      | (with_reducible refine LeO.ite ?_ ?_)
      | (with_reducible refine LeO.bind ?_ (fun _ => ?_))
      | exact ih0 _ _ _ _
      | exact ih1 _ _ _
      | exact ih2 _ _ _ _ _
      | exact ih3 _ _ _ _ _ _
      | exact ih4 _ _ _ _ _ _ _
      | exact ih5 _ _ _ _ _
      | exact ih6 _ _ _ _ _
      | exact ih7 _ _ _ _
      | exact ih8 _ _
      | exact ih9 _ _ _ _ _ _
      | exact ih10 _ _ _ _ _ _ _
      | exact LeO.none _
      | refine LeO.ite ?_ ?_
      | refine LeO.bind ?_ (fun _ => ?_)
    · intro y0 y1 y2 y3 y4 y5 y6
      unfold spec_l1Decimal.j4
      repeat' first
      | (with_reducible exact ih0 _ _ _ _)
      | (with_reducible exact ih1 _ _ _)
      | (with_reducible exact ih2 _ _ _ _ _)
      | (with_reducible exact ih3 _ _ _ _ _ _)
      | (with_reducible exact ih4 _ _ _ _ _ _ _)
      | (with_reducible exact ih5 _ _ _ _ _)
      | (with_reducible exact ih6 _ _ _ _ _)
      | (with_reducible exact ih7 _ _ _ _)
      | (with_reducible exact ih8 _ _)
      | (with_reducible exact ih9 _ _ _ _ _ _)
      | (with_reducible exact ih10 _ _ _ _ _ _ _)
      | (with_reducible exact LeO.refl _)
      | (with_reducible exact LeO.none _)
      | (with_reducible refine LeO.ite ?_ ?_)
      | (with_reducible refine LeO.bind ?_ (fun _ => ?_))
      | exact ih0 _ _ _ _
      | exact ih1 _ _ _
      | exact ih2 _ _ _ _ _
      | exact ih3 _ _ _ _ _ _
      | exact ih4 _ _ _ _ _ _ _
      | exact ih5 _ _ _ _ _
      | exact ih6 _ _ _ _ _
      | exact ih7 _ _ _ _
      | exact ih8 _ _
      | exact ih9 _ _ _ _ _ _
      | exact ih10 _ _ _ _ _ _ _
      | exact LeO.none _
      | refine LeO.ite ?_ ?_
      | refine LeO.bind ?_ (fun _ => ?_)
    · intro y0 y1 y2 y3 y4
      unfold spec_l1Decimal.j7
      repeat' first
      | (with_reducible exact ih0 _ _ _ _)
      | (with_reducible exact ih1 _ _ _)
      | (with_reducible exact ih2 _ _ _ _ _)
      | (with_reducible exact ih3 _ _ _ _ _ _)
      | (with_reducible exact ih4 _ _ _ _ _ _ _)
      | (with_reducible exact ih5 _ _ _ _ _)
      | (with_reducible exact ih6 _ _ _ _ _)
      | (with_reducible exact ih7 _ _ _ _)
      | (with_reducible exact ih8 _ _)
      | (with_reducible exact ih9 _ _ _ _ _ _)
      | (with_reducible exact ih10 _ _ _ _ _ _ _)
      | (with_reducible exact LeO.refl _)
      | (with_reducible exact LeO.none _)
      | (with_reducible refine LeO.ite ?_ ?_)
      | (with_reducible refine LeO.bind ?_ (fun _ => ?_))
      | exact ih0 _ _ _ _
      | exact ih1 _ _ _
      | exact ih2 _ _ _ _ _
      | exact ih3 _ _ _ _ _ _
      | exact ih4 _ _ _ _ _ _ _
      | exact ih5 _ _ _ _ _
      | exact ih6 _ _ _ _ _
      | exact ih7 _ _ _ _
      | exact ih8 _ _
      | exact ih9 _ _ _ _ _ _
      | exact ih10 _ _ _ _ _ _ _
      | exact LeO.none _
      | refine LeO.ite ?_ ?_
      | refine LeO.bind ?_ (fun _ => ?_)
    · intro y0 y1 y2 y3 y4
      unfold spec_l1Decimal.j8
      repeat' first
      | (with_reducible exact ih0 _ _ _ _)
      | (with_reducible exact ih1 _ _ _)
      | (with_reducible exact ih2 _ _ _ _ _)
      | (with_reducible exact ih3 _ _ _ _ _ _)
      | (with_reducible exact ih4 _ _ _ _ _ _ _)
      | (with_reducible exact ih5 _ _ _ _ _)
      | (with_reducible exact ih6 _ _ _ _ _)
      | (with_reducible exact ih7 _ _ _ _)
      | (with_reducible exact ih8 _ _)
      | (with_reducible exact ih9 _ _ _ _ _ _)
      | (with_reducible exact ih10 _ _ _ _ _ _ _)
      | (with_reducible exact LeO.refl _)
      | (with_reducible exact LeO.none _)
      | (with_reducible refine LeO.ite ?_ ?_)
      | (with_reducible refine LeO.bind ?_ (fun _ => ?_))
      | exact ih0 _ _ _ _
      | exact ih1 _ _ _
      | exact ih2 _ _ _ _ _
      | exact ih3 _ _ _ _ _ _
      | exact ih4 _ _ _ _ _ _ _
      | exact ih5 _ _ _ _ _
      | exact ih6 _ _ _ _ _
      | exact ih7 _ _ _ _
      | exact ih8 _ _
      | exact ih9 _ _ _ _ _ _
      | exact ih10 _ _ _ _ _ _ _
      | exact LeO.none _
      | refine LeO.ite ?_ ?_
      | refine LeO.bind ?_ (fun _ => ?_)
    · intro y0 y1 y2 y3
      unfold spec_l1Decimal.l2
      repeat' first
      | (with_reducible exact ih0 _ _ _ _)
      | (with_reducible exact ih1 _ _ _)
      | (with_reducible exact ih2 _ _ _ _ _)
      | (with_reducible exact ih3 _ _ _ _ _ _)
      | (with_reducible exact ih4 _ _ _ _ _ _ _)
      | (with_reducible exact ih5 _ _ _ _ _)
      | (with_reducible exact ih6 _ _ _ _ _)
      | (with_reducible exact ih7 _ _ _ _)
      | (with_reducible exact ih8 _ _)
      | (with_reducible exact ih9 _ _ _ _ _ _)
      | (with_reducible exact ih10 _ _ _ _ _ _ _)
      | (with_reducible exact LeO.refl _)
      | (with_reducible exact LeO.none _)
      | (with_reducible refine LeO.ite ?_ ?_)
      | (with_reducible refine LeO.bind ?_ (fun _ => ?_))
      | exact ih0 _ _ _ _
      | exact ih1 _ _ _
      | exact ih2 _ _ _ _ _
      | exact ih3 _ _ _ _ _ _
      | exact ih4 _ _ _ _ _ _ _
      | exact ih5 _ _ _ _ _
      | exact ih6 _ _ _ _ _
      | exact ih7 _ _ _ _
      | exact ih8 _ _
      | exact ih9 _ _ _ _ _ _
      | exact ih10 _ _ _ _ _ _ _
      | exact LeO.none _
      | refine LeO.ite ?_ ?_
      | refine LeO.bind ?_ (fun _ => ?_)
    · intro y0 y1
      unfold spec_l1Decimal.j10
      repeat' first
      | (with_reducible exact ih0 _ _ _ _)
      | (with_reducible exact ih1 _ _ _)
      | (with_reducible exact ih2 _ _ _ _ _)
      | (with_reducible exact ih3 _ _ _ _ _ _)
      | (with_reducible exact ih4 _ _ _ _ _ _ _)
      | (with_reducible exact ih5 _ _ _ _ _)
      | (with_reducible exact ih6 _ _ _ _ _)
      | (with_reducible exact ih7 _ _ _ _)
      | (with_reducible exact ih8 _ _)
      | (with_reducible exact ih9 _ _ _ _ _ _)
      | (with_reducible exact ih10 _ _ _ _ _ _ _)
      | (with_reducible exact LeO.refl _)
      | (with_reducible exact LeO.none _)
      | (with_reducible refine LeO.ite ?_ ?_)
      | (with_reducible refine LeO.bind ?_ (fun _ => ?_))
      | exact ih0 _ _ _ _
      | exact ih1 _ _ _
      | exact ih2 _ _ _ _ _
      | exact ih3 _ _ _ _ _ _
      | exact ih4 _ _ _ _ _ _ _
      | exact ih5 _ _ _ _ _
      | exact ih6 _ _ _ _ _
      | exact ih7 _ _ _ _
      | exact ih8 _ _
      | exact ih9 _ _ _ _ _ _
      | exact ih10 _ _ _ _ _ _ _
      | exact LeO.none _
      | refine LeO.ite ?_ ?_
      | refine LeO.bind ?_ (fun _ => ?_)
    · intro y0 y1 y2 y3 y4 y5
      unfold spec_l1Decimal.l1
      repeat' first
      | (with_reducible exact ih0 _ _ _ _)
      | (with_reducible exact ih1 _ _ _)
      | (with_reducible exact ih2 _ _ _ _ _)
      | (with_reducible exact ih3 _ _ _ _ _ _)
      | (with_reducible exact ih4 _ _ _ _ _ _ _)
      | (with_reducible exact ih5 _ _ _ _ _)
      | (with_reducible exact ih6 _ _ _ _ _)
      | (with_reducible exact ih7 _ _ _ _)
      | (with_reducible exact ih8 _ _)
      | (with_reducible exact ih9 _ _ _ _ _ _)
      | (with_reducible exact ih10 _ _ _ _ _ _ _)
      | (with_reducible exact LeO.refl _)
      | (with_reducible exact LeO.none _)
      | (with_reducible refine LeO.ite ?_ ?_)
      | (with_reducible refine LeO.bind ?_ (fun _ => ?_))
      | exact ih0 _ _ _ _
      | exact ih1 _ _ _
      | exact ih2 _ _ _ _ _
      | exact ih3 _ _ _ _ _ _
      | exact ih4 _ _ _ _ _ _ _
      | exact ih5 _ _ _ _ _
      | exact ih6 _ _ _ _ _
      | exact ih7 _ _ _ _
      | exact ih8 _ _
      | exact ih9 _ _ _ _ _ _
      | exact ih10 _ _ _ _ _ _ _
      | exact LeO.none _
      | refine LeO.ite ?_ ?_
      | refine LeO.bind ?_ (fun _ => ?_)
    · intro y0 y1 y2 y3 y4 y5 y6
      unfold spec_l1Decimal.j6
      repeat' first
      | (with_reducible exact ih0 _ _ _ _)
      | (with_reducible exact ih1 _ _ _)
      | (with_reducible exact ih2 _ _ _ _ _)
      | (with_reducible exact ih3 _ _ _ _ _ _)
      | (with_reducible exact ih4 _ _ _ _ _ _ _)
      | (with_reducible exact ih5 _ _ _ _ _)
      | (with_reducible exact ih6 _ _ _ _ _)
      | (with_reducible exact ih7 _ _ _ _)
      | (with_reducible exact ih8 _ _)
      | (with_reducible exact ih9 _ _ _ _ _ _)
      | (with_reducible exact ih10 _ _ _ _ _ _ _)
      | (with_reducible exact LeO.refl _)
      | (with_reducible exact LeO.none _)
      | (with_reducible refine LeO.ite ?_ ?_)
      | (with_reducible refine LeO.bind ?_ (fun _ => ?_))
      | exact ih0 _ _ _ _
      | exact ih1 _ _ _
      | exact ih2 _ _ _ _ _
      | exact ih3 _ _ _ _ _ _
      | exact ih4 _ _ _ _ _ _ _
      | exact ih5 _ _ _ _ _
      | exact ih6 _ _ _ _ _
      | exact ih7 _ _ _ _
      | exact ih8 _ _
      | exact ih9 _ _ _ _ _ _
      | exact ih10 _ _ _ _ _ _ _
      | exact LeO.none _
      | refine LeO.ite ?_ ?_
      | refine LeO.bind ?_ (fun _ => ?_)
theorem spec_l1Decimal.mono : ∀ a0 k, LeO (spec_l1Decimal.f k a0) (spec_l1Decimal.f (k + 1) a0) := by
  intro a0 k
  obtain ⟨ih0, ih1, ih2, ih3, ih4, ih5, ih6, ih7, ih8, ih9, ih10⟩ := spec_l1Decimal.mono_l k
  unfold spec_l1Decimal.f
  repeat' first
      | (with_reducible exact ih0 _ _ _ _)
      | (with_reducible exact ih1 _ _ _)
      | (with_reducible exact ih2 _ _ _ _ _)
      | (with_reducible exact ih3 _ _ _ _ _ _)
      | (with_reducible exact ih4 _ _ _ _ _ _ _)
      | (with_reducible exact ih5 _ _ _ _ _)
      | (with_reducible exact ih6 _ _ _ _ _)
      | (with_reducible exact ih7 _ _ _ _)
      | (with_reducible exact ih8 _ _)
      | (with_reducible exact ih9 _ _ _ _ _ _)
      | (with_reducible exact ih10 _ _ _ _ _ _ _)
      | (with_reducible exact LeO.refl _)
      | (with_reducible exact LeO.none _)
      | (with_reducible refine LeO.ite ?_ ?_)
      | (with_reducible refine LeO.bind ?_ (fun _ => ?_))
      | exact ih0 _ _ _ _
      | exact ih1 _ _ _
      | exact ih2 _ _ _ _ _
      | exact ih3 _ _ _ _ _ _
      | exact ih4 _ _ _ _ _ _ _
      | exact ih5 _ _ _ _ _
      | exact ih6 _ _ _ _ _
      | exact ih7 _ _ _ _
      | exact ih8 _ _
      | exact ih9 _ _ _ _ _ _
      | exact ih10 _ _ _ _ _ _ _
      | exact LeO.none _
      | refine LeO.ite ?_ ?_
      | refine LeO.bind ?_ (fun _ => ?_)
set_option maxHeartbeats 8000000 in
set_option maxRecDepth 100000 in
theorem spec_l1Decimal.calls (k : Nat) (a0 : ByteArray) (r1 : Int) (r2 : Int) (w : World) (h : spec_l1Decimal.f k a0 = some (r1, r2)) :
    Calls Tryd.prog 27 #[.string a0] w fun e w' => e = .returned (.tuple #[.int .i64 r1, .int .i64 r2]) ∧ Drawn0 w w' := by
  have H : (if 0 < (a0.size : Int) then (if (bt a0 0) = 45 then (spec_l1Decimal.j0 k a0 0 false true) else (spec_l1Decimal.j0 k a0 0 false ((bt a0 0) == 43))) else (spec_l1Decimal.j0 k a0 0 false false)) = some (r1, r2) := h
  clear h
  have HC2 := Aside0.mk H
  clear H
  go_enter Tryd.func27, Tryd.ntmps27
  go_upto_region 3 with (fail)
  go_cut [26] (fun v26 wc => ∃ (kq : Nat) (x26_1 : Bool), v26 = .bool x26_1 ∧ Aside0 (spec_l1Decimal.j0 kq a0 0 false x26_1 = some (r1, r2)) ∧ Aside0 (kq ≤ k) ∧ Drawn0 w wc)
  case first =>
    have H := HC2.out
    clear HC2
    by_cases c3 : 0 < (a0.size : Int)
    · rw [if_pos c3] at H
      have c3b0 : decide (0 < (a0.size : Int)) = true := decide_eq_true c3
      have c3b1 : decide (0 < a0.size) = true := decide_eq_true (by omega)
      clear c3
      (first | rw [c3b0] | (simp only [i64_w, i32_w]; rw [c3b0]) | skip)
      by_cases c5 : (bt a0 0) = 45
      · rw [if_pos c5] at H
        have c5b0 : ((bt a0 0) == 45) = true := beq_iff_eq.mpr c5
        have c5b1 : ((bt a0 0) != 45) = false := bne_eq_false_iff_eq.mpr c5
        clear c5
        have H' := Aside0.mk H
        clear H
        have p4 : 0 ≤ (0 : Int) := (by omega)
        have q4 : 0 < a0.size := (by have : (0 : Int) < (a0.size : Int) := of_decide_eq_true (by first | (with_reducible assumption) | assumption); omega)
        have hx4 : ∀ h : 0 < a0.size, ((a0[0]'h).toNat : Int) = bt a0 0 := bt_at a0 0
        clear p4
        have qi4 : (0 < (a0.size : Int)) = True := eq_true (of_decide_eq_true (by first | (with_reducible assumption) | assumption))
        replace q4 := eq_true q4
        go_wp2
        go_meet
        case rel => exact ⟨_, (true), (by first | rfl | (simp; done) | (simp [*]; done) | (simp [wrap64]; done)), H', ⟨by first | omega | exact Nat.le_refl _⟩, by repeat (first | exact Drawn0.refl _ | apply Drawn0.step)⟩
      · rw [if_neg c5] at H
        have c5b0 : ((bt a0 0) == 45) = false := beq_eq_false_iff_ne.mpr c5
        have c5b1 : ((bt a0 0) != 45) = true := bne_iff_ne.mpr c5
        have H' := Aside0.mk H
        clear H
        have p4 : 0 ≤ (0 : Int) := (by omega)
        have q4 : 0 < a0.size := (by have : (0 : Int) < (a0.size : Int) := of_decide_eq_true (by first | (with_reducible assumption) | assumption); omega)
        have hx4 : ∀ h : 0 < a0.size, ((a0[0]'h).toNat : Int) = bt a0 0 := bt_at a0 0
        clear p4
        have qi4 : (0 < (a0.size : Int)) = True := eq_true (of_decide_eq_true (by first | (with_reducible assumption) | assumption))
        replace q4 := eq_true q4
        have p6 : 0 ≤ (0 : Int) := (by omega)
        have q6 : 0 < a0.size := (by have : (0 : Int) < (a0.size : Int) := of_decide_eq_true (by first | (with_reducible assumption) | assumption); omega)
        have hx6 : ∀ h : 0 < a0.size, ((a0[0]'h).toNat : Int) = bt a0 0 := bt_at a0 0
        clear p6
        have qi6 : (0 < (a0.size : Int)) = True := eq_true (of_decide_eq_true (by first | (with_reducible assumption) | assumption))
        replace q6 := eq_true q6
        go_wp2
        go_meet
        case rel => exact ⟨_, (((bt a0 0) == 43)), (by first | rfl | (simp; done) | (simp [*]; done) | (simp [wrap64]; done)), H', ⟨by first | omega | exact Nat.le_refl _⟩, by repeat (first | exact Drawn0.refl _ | apply Drawn0.step)⟩
    · rw [if_neg c3] at H
      have c3b0 : decide (0 < (a0.size : Int)) = false := decide_eq_false c3
      have c3b1 : decide (0 < a0.size) = false := decide_eq_false (by omega)
      clear c3
      (first | rw [c3b0] | (simp only [i64_w, i32_w]; rw [c3b0]) | skip)
      have H' := Aside0.mk H
      clear H
      go_wp2
      go_meet
      case rel => exact ⟨_, (false), (by first | rfl | (simp; done) | (simp [*]; done) | (simp [wrap64]; done)), H', ⟨by first | omega | exact Nat.le_refl _⟩, by repeat (first | exact Drawn0.refl _ | apply Drawn0.step)⟩
  case rest =>
    clear HC2
    try clear c2
    try clear p2
    try clear c3
    try clear c3b0
    try clear c3b1
    try clear p4
    try clear q4
    try clear hx4
    try clear qi4
    try clear c5
    try clear c5b0
    try clear c5b1
    try clear p6
    try clear q6
    try clear hx6
    try clear qi6
    try clear p4
    try clear p6
    try clear q4
    try clear q6
    obtain ⟨kq, x26_1, rfl, HA, HJ1, ⟨mc1, rfl⟩⟩ := hcut
    cases kq with
    | zero => exact absurd HA.out (by simp [spec_l1Decimal.j0])
    | succ kj1 =>
      have H := HA.out
      clear HA
      simp only [spec_l1Decimal.j0] at H
      have HC7 := Aside0.mk H
      clear H
      go_upto_if 26 with (fail)
      go_cut [4, 5] (fun v4 v5 wc => ∃ (kq : Nat) (x4_6 : Int) (x5_6 : Bool), v4 = .int .i64 x4_6 ∧ v5 = .bool x5_6 ∧ Aside0 (spec_l1Decimal.j1 kq a0 x4_6 x5_6 = some (r1, r2)) ∧ Aside0 (kq ≤ kj1) ∧ Drawn0 w wc)
      case first =>
        have H := HC7.out
        clear HC7
        by_cases c8 : x26_1 = true
        · subst c8
          have H1 : (if 0 ≤ 0 then (if 0 < (a0.size : Int) then (spec_l1Decimal.j1 kj1 a0 (wrap64 (0 + 1)) ((bt a0 0) == 45)) else (none)) else (none)) = some (r1, r2) := by rw [if_pos rfl] at H; exact H
          clear H
          have H := H1
          clear H1
          by_cases c9 : 0 ≤ 0
          · rw [if_pos c9] at H
            have c9b0 : decide (0 ≤ 0) = true := decide_eq_true c9
            clear c9
            (first | rw [c9b0] | (simp only [i64_w, i32_w]; rw [c9b0]) | skip)
            by_cases c10 : 0 < (a0.size : Int)
            · rw [if_pos c10] at H
              have c10b0 : decide (0 < (a0.size : Int)) = true := decide_eq_true c10
              have c10b1 : decide (0 < a0.size) = true := decide_eq_true (by omega)
              clear c10
              have H' := Aside0.mk H
              clear H
              have p11 : 0 ≤ (0 : Int) := (by omega)
              have q11 : 0 < a0.size := (by have : (0 : Int) < (a0.size : Int) := of_decide_eq_true (by first | (with_reducible assumption) | assumption); omega)
              have hx11 : ∀ h : 0 < a0.size, ((a0[0]'h).toNat : Int) = bt a0 0 := bt_at a0 0
              clear p11
              have qi11 : (0 < (a0.size : Int)) = True := eq_true (of_decide_eq_true (by first | (with_reducible assumption) | assumption))
              replace q11 := eq_true q11
              go_wp2
              go_meet
              case rel => exact ⟨_, (wrap64 (0 + 1)), (((bt a0 0) == 45)), (by first | rfl | (simp; done) | (simp [*]; done) | (simp [wrap64]; done)), (by first | rfl | (simp; done) | (simp [*]; done) | (simp [wrap64]; done)), H', ⟨by have := HJ1.out; first | omega | exact Nat.le_refl _⟩, by repeat (first | exact Drawn0.refl _ | apply Drawn0.step)⟩
            · rw [if_neg c10] at H
              exact absurd H (by simp)
          · rw [if_neg c9] at H
            exact absurd H (by simp)
        · replace c8 := Bool.eq_false_iff.mpr c8
          subst c8
          have H1 : (spec_l1Decimal.j1 kj1 a0 0 false) = some (r1, r2) := by rw [if_neg (show ¬ (false = true) by decide)] at H; exact H
          clear H
          have H := H1
          clear H1
          have H' := Aside0.mk H
          clear H
          go_wp2
          go_meet
          case rel => exact ⟨_, (0), (false), (by first | rfl | (simp; done) | (simp [*]; done) | (simp [wrap64]; done)), (by first | rfl | (simp; done) | (simp [*]; done) | (simp [wrap64]; done)), H', ⟨by have := HJ1.out; first | omega | exact Nat.le_refl _⟩, by repeat (first | exact Drawn0.refl _ | apply Drawn0.step)⟩
      case rest =>
        clear HC7
        try clear c1
        try clear p1
        try clear q1
        try clear hx1
        try clear qi1
        try clear c2
        try clear p2
        try clear c3
        try clear c3b0
        try clear c3b1
        try clear p4
        try clear q4
        try clear hx4
        try clear qi4
        try clear c5
        try clear c5b0
        try clear c5b1
        try clear p6
        try clear q6
        try clear hx6
        try clear qi6
        try clear c8
        try clear c9
        try clear c9b0
        try clear c10
        try clear c10b0
        try clear c10b1
        try clear p11
        try clear q11
        try clear hx11
        try clear qi11
        try clear p11
        try clear p2
        try clear p4
        try clear p6
        try clear q11
        try clear q4
        try clear q6
        obtain ⟨kq, x4_6, x5_6, rfl, rfl, HA, HJ6, ⟨mc6, rfl⟩⟩ := hcut
        cases kq with
        | zero => exact absurd HA.out (by simp [spec_l1Decimal.j1])
        | succ kj6 =>
          have H := HA.out
          clear HA
          simp only [spec_l1Decimal.j1] at H
          have H' := Aside0.mk H
          clear H
          go_wp2
          go_loopg [4, 6, 7] kj6 (fun kq v4 v6 v7 w' => ∃ (x4_3 : Int) (x6_3 : Int) (x7_3 : Int), v4 = .int .i64 x4_3 ∧ v6 = .int .i64 x6_3 ∧ v7 = .int .i64 x7_3 ∧ Aside0 (spec_l1Decimal.l0 kq a0 x4_3 x5_6 x6_3 x7_3 = some (r1, r2)) ∧ Aside0 (kq ≤ kj6) ∧ Drawn0 w w')
          case atStart => exact ⟨(x4_6), (0), (0), (by first | rfl | (simp; done) | (simp [*]; done) | (simp [wrap64]; done)), (by first | rfl | (simp; done) | (simp [*]; done) | (simp [wrap64]; done)), (by first | rfl | (simp; done) | (simp [*]; done) | (simp [wrap64]; done)), H', ⟨Nat.le_refl _⟩, by repeat (first | exact Drawn0.refl _ | apply Drawn0.step)⟩
          case round =>
            clear H'
            try clear c1
            try clear p1
            try clear q1
            try clear hx1
            try clear qi1
            try clear c2
            try clear p2
            try clear c3
            try clear c3b0
            try clear c3b1
            try clear p4
            try clear q4
            try clear hx4
            try clear qi4
            try clear c5
            try clear c5b0
            try clear c5b1
            try clear c6
            try clear p6
            try clear q6
            try clear hx6
            try clear qi6
            try clear c8
            try clear c9
            try clear c9b0
            try clear c10
            try clear c10b0
            try clear c10b1
            try clear p11
            try clear q11
            try clear hx11
            try clear qi11
            try clear p1
            try clear p11
            try clear p2
            try clear p4
            try clear p6
            try clear q1
            try clear q11
            try clear q4
            try clear q6
            obtain ⟨x4_3, x6_3, x7_3, rfl, rfl, rfl, HA, HK3, ⟨m3, rfl⟩⟩ := hrel
            cases gk with
            | zero => exact absurd HA.out (by simp [spec_l1Decimal.l0])
            | succ k3 =>
              have H := HA.out
              clear HA
              simp only [spec_l1Decimal.l0] at H
              have HC12 := Aside0.mk H
              clear H
              go_upto_region 8 with (fail)
              go_cut [42] (fun v42 wc => ∃ (kq : Nat) (x42_11 : Bool), v42 = .bool x42_11 ∧ Aside0 (spec_l1Decimal.j3 kq a0 x4_3 x5_6 x6_3 x7_3 x42_11 = some (r1, r2)) ∧ Aside0 (kq ≤ k3) ∧ Drawn0 w wc)
              case first =>
                have H := HC12.out
                clear HC12
                by_cases c13 : x4_3 < (a0.size : Int)
                · rw [if_pos c13] at H
                  have c13b0 : decide (x4_3 < (a0.size : Int)) = true := decide_eq_true c13
                  clear c13
                  (first | rw [c13b0] | (simp only [i64_w, i32_w]; rw [c13b0]) | skip)
                  by_cases c14 : 0 ≤ x4_3
                  · rw [if_pos c14] at H
                    have c14b0 : decide (0 ≤ x4_3) = true := decide_eq_true c14
                    clear c14
                    replace H := Option.bind_eq_some_iff.mp H
                    obtain ⟨t104, A160, H⟩ := H
                    replace H : (spec_l1Decimal.j3 k3 a0 x4_3 x5_6 x6_3 x7_3 t104) = some (r1, r2) := H
                    have A16 := Aside0.mk A160
                    clear A160
                    have H' := Aside0.mk H
                    clear H
                    have p15 : 0 ≤ (x4_3 : Int) := of_decide_eq_true (by first | (with_reducible assumption) | assumption)
                    have q15 : x4_3 < (a0.size : Int) := of_decide_eq_true (by first | (with_reducible assumption) | assumption)
                    have hx15 := bt_at a0 x4_3
                    replace p15 := eq_true p15
                    replace q15 := eq_true q15
                    go_wp2_with (first | (go_at_call 47; (with_reducible refine (spec_l1Digit.calls (bt a0 x4_3) t104 _ A16.out).mono ?_); rintro e w' ⟨rfl, ⟨nd, rfl⟩⟩))
                    go_meet
                    case rel => exact ⟨_, (t104), (by first | rfl | (simp; done) | (simp [*]; done) | (simp [wrap64]; done)), H', ⟨by have := HJ1.out; have := HJ6.out; have := HK3.out; first | omega | exact Nat.le_refl _⟩, by repeat (first | exact Drawn0.refl _ | apply Drawn0.step)⟩
                  · rw [if_neg c14] at H
                    exact absurd H (by simp)
                · rw [if_neg c13] at H
                  have c13b0 : decide (x4_3 < (a0.size : Int)) = false := decide_eq_false c13
                  clear c13
                  (first | rw [c13b0] | (simp only [i64_w, i32_w]; rw [c13b0]) | skip)
                  have H' := Aside0.mk H
                  clear H
                  go_wp2
                  go_meet
                  case rel => exact ⟨_, (false), (by first | rfl | (simp; done) | (simp [*]; done) | (simp [wrap64]; done)), H', ⟨by have := HJ1.out; have := HJ6.out; have := HK3.out; first | omega | exact Nat.le_refl _⟩, by repeat (first | exact Drawn0.refl _ | apply Drawn0.step)⟩
              case rest =>
                clear HC12
                try clear c1
                try clear p1
                try clear q1
                try clear hx1
                try clear qi1
                try clear c2
                try clear p2
                try clear c3
                try clear c3b0
                try clear c3b1
                try clear p4
                try clear q4
                try clear hx4
                try clear qi4
                try clear c5
                try clear c5b0
                try clear c5b1
                try clear c6
                try clear p6
                try clear q6
                try clear hx6
                try clear qi6
                try clear c8
                try clear c9
                try clear c9b0
                try clear c10
                try clear c10b0
                try clear c10b1
                try clear p11
                try clear q11
                try clear hx11
                try clear qi11
                try clear c13
                try clear c13b0
                try clear c14
                try clear c14b0
                try clear p15
                try clear q15
                try clear hx15
                try clear p1
                try clear p11
                try clear p15
                try clear p2
                try clear p4
                try clear p6
                try clear q1
                try clear q11
                try clear q15
                try clear q4
                try clear q6
                obtain ⟨kq, x42_11, rfl, HA, HJ11, ⟨mc11, rfl⟩⟩ := hcut
                cases kq with
                | zero => exact absurd HA.out (by simp [spec_l1Decimal.j3])
                | succ kj11 =>
                  have H := HA.out
                  clear HA
                  simp only [spec_l1Decimal.j3] at H
                  by_cases c17 : x42_11 = true
                  · subst c17
                    have H1 : (if x7_3 < 9 then (if 0 ≤ x4_3 then (if x4_3 < (a0.size : Int) then (spec_l1Decimal.l0 kj11 a0 (wrap64 (x4_3 + 1)) x5_6 (wrap64 ((wrap64 (10 * x6_3)) + (((bt a0 x4_3) - 48) % 256))) (wrap64 (x7_3 + 1))) else (none)) else (none)) else (spec_l1Decimal.l0 kj11 a0 (wrap64 (x4_3 + 1)) x5_6 x6_3 (wrap64 (x7_3 + 1)))) = some (r1, r2) := by rw [if_pos rfl] at H; exact H
                    clear H
                    have H := H1
                    clear H1
                    by_cases c18 : x7_3 < 9
                    · rw [if_pos c18] at H
                      have c18b0 : decide (x7_3 < 9) = true := decide_eq_true c18
                      clear c18
                      by_cases c19 : 0 ≤ x4_3
                      · rw [if_pos c19] at H
                        have c19b0 : decide (0 ≤ x4_3) = true := decide_eq_true c19
                        clear c19
                        by_cases c20 : x4_3 < (a0.size : Int)
                        · rw [if_pos c20] at H
                          have c20b0 : decide (x4_3 < (a0.size : Int)) = true := decide_eq_true c20
                          clear c20
                          have H' := Aside0.mk H
                          clear H
                          have p21 : 0 ≤ (x4_3 : Int) := of_decide_eq_true (by first | (with_reducible assumption) | assumption)
                          have q21 : x4_3 < (a0.size : Int) := of_decide_eq_true (by first | (with_reducible assumption) | assumption)
                          have hx21 := bt_at a0 x4_3
                          replace p21 := eq_true p21
                          replace q21 := eq_true q21
                          go_wp2
                          go_roundg kj11
                          case measure => have := HJ1.out; have := HJ6.out; have := HK3.out; have := HJ11.out; omega
                          case rel => exact ⟨(wrap64 (x4_3 + 1)), (wrap64 ((wrap64 (10 * x6_3)) + (((bt a0 x4_3) - 48) % 256))), (wrap64 (x7_3 + 1)), (by first | rfl | (simp; done) | (simp [*]; done) | (simp [wrap64]; done)), (by first | rfl | (simp; done) | (simp [*]; done) | (simp [wrap64]; done)), (by first | rfl | (simp; done) | (simp [*]; done) | (simp [wrap64]; done)), H', ⟨by have := HJ1.out; have := HJ6.out; have := HK3.out; have := HJ11.out; omega⟩, by repeat (first | exact Drawn0.refl _ | apply Drawn0.step)⟩
                        · rw [if_neg c20] at H
                          exact absurd H (by simp)
                      · rw [if_neg c19] at H
                        exact absurd H (by simp)
                    · rw [if_neg c18] at H
                      have c18b0 : decide (x7_3 < 9) = false := decide_eq_false c18
                      clear c18
                      have H' := Aside0.mk H
                      clear H
                      go_wp2
                      go_roundg kj11
                      case measure => have := HJ1.out; have := HJ6.out; have := HK3.out; have := HJ11.out; omega
                      case rel => exact ⟨(wrap64 (x4_3 + 1)), (x6_3), (wrap64 (x7_3 + 1)), (by first | rfl | (simp; done) | (simp [*]; done) | (simp [wrap64]; done)), (by first | rfl | (simp; done) | (simp [*]; done) | (simp [wrap64]; done)), (by first | rfl | (simp; done) | (simp [*]; done) | (simp [wrap64]; done)), H', ⟨by have := HJ1.out; have := HJ6.out; have := HK3.out; have := HJ11.out; omega⟩, by repeat (first | exact Drawn0.refl _ | apply Drawn0.step)⟩
                  · replace c17 := Bool.eq_false_iff.mpr c17
                    subst c17
                    have H1 : (if (wrap64 (x4_3 + 1)) < (a0.size : Int) then (if 0 ≤ x4_3 then (if x4_3 < (a0.size : Int) then (if (bt a0 x4_3) = 46 then (if 0 ≤ (wrap64 (x4_3 + 1)) then ((spec_l1Digit.f (bt a0 (wrap64 (x4_3 + 1)))).bind fun t105 => (spec_l1Decimal.j4 kj11 a0 x4_3 x5_6 x6_3 x7_3 0 t105)) else (none)) else (spec_l1Decimal.j4 kj11 a0 x4_3 x5_6 x6_3 x7_3 0 false)) else (none)) else (none)) else (spec_l1Decimal.j4 kj11 a0 x4_3 x5_6 x6_3 x7_3 0 false)) = some (r1, r2) := by rw [if_neg (show ¬ (false = true) by decide)] at H; exact H
                    clear H
                    have H := H1
                    clear H1
                    have HC22 := Aside0.mk H
                    clear H
                    go_upto_region 14 with (fail)
                    go_cut [74] (fun v74 wc => ∃ (kq : Nat) (x74_21 : Bool), v74 = .bool x74_21 ∧ Aside0 (spec_l1Decimal.j4 kq a0 x4_3 x5_6 x6_3 x7_3 0 x74_21 = some (r1, r2)) ∧ Aside0 (kq ≤ kj11) ∧ Drawn0 w wc)
                    case first =>
                      have H := HC22.out
                      clear HC22
                      by_cases c23 : (wrap64 (x4_3 + 1)) < (a0.size : Int)
                      · rw [if_pos c23] at H
                        have c23b0 : decide ((wrap64 (x4_3 + 1)) < (a0.size : Int)) = true := decide_eq_true c23
                        clear c23
                        (first | rw [c23b0] | (simp only [i64_w, i32_w]; rw [c23b0]) | skip)
                        by_cases c24 : 0 ≤ x4_3
                        · rw [if_pos c24] at H
                          have c24b0 : decide (0 ≤ x4_3) = true := decide_eq_true c24
                          clear c24
                          by_cases c25 : x4_3 < (a0.size : Int)
                          · rw [if_pos c25] at H
                            have c25b0 : decide (x4_3 < (a0.size : Int)) = true := decide_eq_true c25
                            clear c25
                            by_cases c27 : (bt a0 x4_3) = 46
                            · rw [if_pos c27] at H
                              have c27b0 : ((bt a0 x4_3) == 46) = true := beq_iff_eq.mpr c27
                              have c27b1 : ((bt a0 x4_3) != 46) = false := bne_eq_false_iff_eq.mpr c27
                              clear c27
                              obtain ⟨ji28, hji28⟩ : ∃ j_ : Int, (wrap64 (x4_3 + 1)) = j_ := ⟨_, rfl⟩
                              replace H : (if 0 ≤ (ji28) then ((spec_l1Digit.f (bt a0 (ji28))).bind fun t105 => (spec_l1Decimal.j4 kj11 a0 x4_3 x5_6 x6_3 x7_3 0 t105)) else (none)) = some (r1, r2) := by first | (rw [hji28] at H; exact H) | (simp only [hji28] at H ⊢; exact H)
                              (try rw [hji28] at c23b0)
                              have hji28w : (IntKind.i64.wrap (x4_3 + 1)) = ji28 := (i64_w _).trans hji28
                              by_cases c29 : 0 ≤ (ji28)
                              · rw [if_pos c29] at H
                                have c29b0 : decide (0 ≤ (ji28)) = true := decide_eq_true c29
                                clear c29
                                replace H := Option.bind_eq_some_iff.mp H
                                obtain ⟨t105, A310, H⟩ := H
                                replace H : (spec_l1Decimal.j4 kj11 a0 x4_3 x5_6 x6_3 x7_3 0 t105) = some (r1, r2) := H
                                have A31 := Aside0.mk A310
                                clear A310
                                have H' := Aside0.mk H
                                clear H
                                have p26 : 0 ≤ (x4_3 : Int) := of_decide_eq_true (by first | (with_reducible assumption) | assumption)
                                have q26 : x4_3 < (a0.size : Int) := of_decide_eq_true (by first | (with_reducible assumption) | assumption)
                                have hx26 := bt_at a0 x4_3
                                replace p26 := eq_true p26
                                replace q26 := eq_true q26
                                have p30 : 0 ≤ ((ji28) : Int) := of_decide_eq_true (by first | (with_reducible assumption) | assumption)
                                have q30 : (ji28) < (a0.size : Int) := of_decide_eq_true (by first | (with_reducible assumption) | assumption)
                                have hx30 := bt_at a0 (ji28)
                                replace p30 := eq_true p30
                                replace q30 := eq_true q30
                                go_wp2_with (first | (go_at_call 47; (with_reducible refine (spec_l1Digit.calls (bt a0 (ji28)) t105 _ A31.out).mono ?_); rintro e w' ⟨rfl, ⟨nd, rfl⟩⟩))
                                go_meet
                                case rel => exact ⟨_, (t105), (by first | rfl | (simp; done) | (simp [*]; done) | (simp [wrap64]; done)), H', ⟨by have := HJ1.out; have := HJ6.out; have := HK3.out; have := HJ11.out; first | omega | exact Nat.le_refl _⟩, by repeat (first | exact Drawn0.refl _ | apply Drawn0.step)⟩
                              · rw [if_neg c29] at H
                                exact absurd H (by simp)
                            · rw [if_neg c27] at H
                              have c27b0 : ((bt a0 x4_3) == 46) = false := beq_eq_false_iff_ne.mpr c27
                              have c27b1 : ((bt a0 x4_3) != 46) = true := bne_iff_ne.mpr c27
                              have H' := Aside0.mk H
                              clear H
                              have p26 : 0 ≤ (x4_3 : Int) := of_decide_eq_true (by first | (with_reducible assumption) | assumption)
                              have q26 : x4_3 < (a0.size : Int) := of_decide_eq_true (by first | (with_reducible assumption) | assumption)
                              have hx26 := bt_at a0 x4_3
                              replace p26 := eq_true p26
                              replace q26 := eq_true q26
                              go_wp2
                              go_meet
                              case rel => exact ⟨_, (false), (by first | rfl | (simp; done) | (simp [*]; done) | (simp [wrap64]; done)), H', ⟨by have := HJ1.out; have := HJ6.out; have := HK3.out; have := HJ11.out; first | omega | exact Nat.le_refl _⟩, by repeat (first | exact Drawn0.refl _ | apply Drawn0.step)⟩
                          · rw [if_neg c25] at H
                            exact absurd H (by simp)
                        · rw [if_neg c24] at H
                          exact absurd H (by simp)
                      · rw [if_neg c23] at H
                        have c23b0 : decide ((wrap64 (x4_3 + 1)) < (a0.size : Int)) = false := decide_eq_false c23
                        clear c23
                        (first | rw [c23b0] | (simp only [i64_w, i32_w]; rw [c23b0]) | skip)
                        have H' := Aside0.mk H
                        clear H
                        go_wp2
                        go_meet
                        case rel => exact ⟨_, (false), (by first | rfl | (simp; done) | (simp [*]; done) | (simp [wrap64]; done)), H', ⟨by have := HJ1.out; have := HJ6.out; have := HK3.out; have := HJ11.out; first | omega | exact Nat.le_refl _⟩, by repeat (first | exact Drawn0.refl _ | apply Drawn0.step)⟩
                    case rest =>
                      clear HC22
                      try clear c1
                      try clear p1
                      try clear q1
                      try clear hx1
                      try clear qi1
                      try clear c2
                      try clear p2
                      try clear q2
                      try clear hx2
                      try clear c3
                      try clear c3b0
                      try clear c3b1
                      try clear p3
                      try clear q3
                      try clear hx3
                      try clear p4
                      try clear q4
                      try clear hx4
                      try clear qi4
                      try clear c5
                      try clear c5b0
                      try clear c5b1
                      try clear c6
                      try clear p6
                      try clear q6
                      try clear hx6
                      try clear qi6
                      try clear c8
                      try clear c9
                      try clear c9b0
                      try clear c10
                      try clear c10b0
                      try clear c10b1
                      try clear c11
                      try clear p11
                      try clear q11
                      try clear hx11
                      try clear qi11
                      try clear c13
                      try clear c13b0
                      try clear c14
                      try clear c14b0
                      try clear p15
                      try clear q15
                      try clear hx15
                      try clear c17
                      try clear c18
                      try clear c18b0
                      try clear c19
                      try clear c19b0
                      try clear c20
                      try clear c20b0
                      try clear p21
                      try clear q21
                      try clear hx21
                      try clear c23
                      try clear c23b0
                      try clear c24
                      try clear c24b0
                      try clear c25
                      try clear c25b0
                      try clear p26
                      try clear q26
                      try clear hx26
                      try clear c27
                      try clear c27b0
                      try clear c27b1
                      try clear c29
                      try clear c29b0
                      try clear p30
                      try clear q30
                      try clear hx30
                      try clear p1
                      try clear p11
                      try clear p15
                      try clear p2
                      try clear p21
                      try clear p26
                      try clear p30
                      try clear p4
                      try clear p6
                      try clear q1
                      try clear q11
                      try clear q15
                      try clear q21
                      try clear q26
                      try clear q30
                      try clear q4
                      try clear q6
                      obtain ⟨kq, x74_21, rfl, HA, HJ21, ⟨mc21, rfl⟩⟩ := hcut
                      cases kq with
                      | zero => exact absurd HA.out (by simp [spec_l1Decimal.j4])
                      | succ kj21 =>
                        have H := HA.out
                        clear HA
                        simp only [spec_l1Decimal.j4] at H
                        have HC32 := Aside0.mk H
                        clear H
                        go_upto_if 74 with (fail)
                        go_cut [4, 6, 8] (fun v4 v6 v8 wc => ∃ (kq : Nat) (x4_31 : Int) (x6_31 : Int) (x8_31 : Int), v4 = .int .i64 x4_31 ∧ v6 = .int .i64 x6_31 ∧ v8 = .int .i64 x8_31 ∧ Aside0 (spec_l1Decimal.j7 kq x4_31 x5_6 x6_31 x7_3 x8_31 = some (r1, r2)) ∧ Aside0 (kq ≤ kj21) ∧ Drawn0 w wc)
                        case first =>
                          have H := HC32.out
                          clear HC32
                          by_cases c33 : x74_21 = true
                          · subst c33
                            have H1 : (spec_l1Decimal.l1 kj21 a0 (wrap64 (x4_3 + 1)) x5_6 x6_3 x7_3 0) = some (r1, r2) := by rw [if_pos rfl] at H; exact H
                            clear H
                            have H := H1
                            clear H1
                            have H' := Aside0.mk H
                            clear H
                            go_wp2
                            go_loopg [4, 6, 8] kj21 (fun kq v4 v6 v8 w' => ∃ (x4_6 : Int) (x6_6 : Int) (x8_6 : Int), v4 = .int .i64 x4_6 ∧ v6 = .int .i64 x6_6 ∧ v8 = .int .i64 x8_6 ∧ Aside0 (spec_l1Decimal.l1 kq a0 x4_6 x5_6 x6_6 x7_3 x8_6 = some (r1, r2)) ∧ Aside0 (kq ≤ kj21) ∧ Drawn0 w w')
                            case atStart => exact ⟨(wrap64 (x4_3 + 1)), (x6_3), (0), (by first | rfl | (simp; done) | (simp [*]; done) | (simp [wrap64]; done)), (by first | rfl | (simp; done) | (simp [*]; done) | (simp [wrap64]; done)), (by first | rfl | (simp; done) | (simp [*]; done) | (simp [wrap64]; done)), H', ⟨Nat.le_refl _⟩, by repeat (first | exact Drawn0.refl _ | apply Drawn0.step)⟩
                            case round =>
                              clear H'
                              try clear c1
                              try clear p1
                              try clear q1
                              try clear hx1
                              try clear qi1
                              try clear c2
                              try clear p2
                              try clear q2
                              try clear hx2
                              try clear c3
                              try clear c3b0
                              try clear c3b1
                              try clear p3
                              try clear q3
                              try clear hx3
                              try clear p4
                              try clear q4
                              try clear hx4
                              try clear qi4
                              try clear c5
                              try clear c5b0
                              try clear c5b1
                              try clear c6
                              try clear p6
                              try clear q6
                              try clear hx6
                              try clear qi6
                              try clear c8
                              try clear c9
                              try clear c9b0
                              try clear c10
                              try clear c10b0
                              try clear c10b1
                              try clear c11
                              try clear p11
                              try clear q11
                              try clear hx11
                              try clear qi11
                              try clear c13
                              try clear c13b0
                              try clear c14
                              try clear c14b0
                              try clear p15
                              try clear q15
                              try clear hx15
                              try clear c17
                              try clear c18
                              try clear c18b0
                              try clear c19
                              try clear c19b0
                              try clear c20
                              try clear c20b0
                              try clear c21
                              try clear p21
                              try clear q21
                              try clear hx21
                              try clear c23
                              try clear c23b0
                              try clear c24
                              try clear c24b0
                              try clear c25
                              try clear c25b0
                              try clear p26
                              try clear q26
                              try clear hx26
                              try clear c27
                              try clear c27b0
                              try clear c27b1
                              try clear c29
                              try clear c29b0
                              try clear p30
                              try clear q30
                              try clear hx30
                              try clear c33
                              try clear p1
                              try clear p11
                              try clear p15
                              try clear p2
                              try clear p21
                              try clear p26
                              try clear p3
                              try clear p30
                              try clear p4
                              try clear p6
                              try clear q1
                              try clear q11
                              try clear q15
                              try clear q2
                              try clear q21
                              try clear q26
                              try clear q3
                              try clear q30
                              try clear q4
                              try clear q6
                              obtain ⟨x4_6, x6_6, x8_6, rfl, rfl, rfl, HA, HK6, ⟨m6, rfl⟩⟩ := hrel
                              cases gk with
                              | zero => exact absurd HA.out (by simp [spec_l1Decimal.l1])
                              | succ k6 =>
                                have H := HA.out
                                clear HA
                                simp only [spec_l1Decimal.l1] at H
                                have HC34 := Aside0.mk H
                                clear H
                                go_upto_region 16 with (fail)
                                go_cut [86] (fun v86 wc => ∃ (kq : Nat) (x86_33 : Bool), v86 = .bool x86_33 ∧ Aside0 (spec_l1Decimal.j6 kq a0 x4_6 x5_6 x6_6 x7_3 x8_6 x86_33 = some (r1, r2)) ∧ Aside0 (kq ≤ k6) ∧ Drawn0 w wc)
                                case first =>
                                  have H := HC34.out
                                  clear HC34
                                  by_cases c35 : x4_6 < (a0.size : Int)
                                  · rw [if_pos c35] at H
                                    have c35b0 : decide (x4_6 < (a0.size : Int)) = true := decide_eq_true c35
                                    clear c35
                                    (first | rw [c35b0] | (simp only [i64_w, i32_w]; rw [c35b0]) | skip)
                                    by_cases c36 : 0 ≤ x4_6
                                    · rw [if_pos c36] at H
                                      have c36b0 : decide (0 ≤ x4_6) = true := decide_eq_true c36
                                      clear c36
                                      replace H := Option.bind_eq_some_iff.mp H
                                      obtain ⟨t106, A380, H⟩ := H
                                      replace H : (spec_l1Decimal.j6 k6 a0 x4_6 x5_6 x6_6 x7_3 x8_6 t106) = some (r1, r2) := H
                                      have A38 := Aside0.mk A380
                                      clear A380
                                      have H' := Aside0.mk H
                                      clear H
                                      have p37 : 0 ≤ (x4_6 : Int) := of_decide_eq_true (by first | (with_reducible assumption) | assumption)
                                      have q37 : x4_6 < (a0.size : Int) := of_decide_eq_true (by first | (with_reducible assumption) | assumption)
                                      have hx37 := bt_at a0 x4_6
                                      replace p37 := eq_true p37
                                      replace q37 := eq_true q37
                                      go_wp2_with (first | (go_at_call 47; (with_reducible refine (spec_l1Digit.calls (bt a0 x4_6) t106 _ A38.out).mono ?_); rintro e w' ⟨rfl, ⟨nd, rfl⟩⟩))
                                      go_meet
                                      case rel => exact ⟨_, (t106), (by first | rfl | (simp; done) | (simp [*]; done) | (simp [wrap64]; done)), H', ⟨by have := HJ1.out; have := HJ6.out; have := HK3.out; have := HJ11.out; have := HJ21.out; have := HK6.out; first | omega | exact Nat.le_refl _⟩, by repeat (first | exact Drawn0.refl _ | apply Drawn0.step)⟩
                                    · rw [if_neg c36] at H
                                      exact absurd H (by simp)
                                  · rw [if_neg c35] at H
                                    have c35b0 : decide (x4_6 < (a0.size : Int)) = false := decide_eq_false c35
                                    clear c35
                                    (first | rw [c35b0] | (simp only [i64_w, i32_w]; rw [c35b0]) | skip)
                                    have H' := Aside0.mk H
                                    clear H
                                    go_wp2
                                    go_meet
                                    case rel => exact ⟨_, (false), (by first | rfl | (simp; done) | (simp [*]; done) | (simp [wrap64]; done)), H', ⟨by have := HJ1.out; have := HJ6.out; have := HK3.out; have := HJ11.out; have := HJ21.out; have := HK6.out; first | omega | exact Nat.le_refl _⟩, by repeat (first | exact Drawn0.refl _ | apply Drawn0.step)⟩
                                case rest =>
                                  clear HC34
                                  try clear c1
                                  try clear p1
                                  try clear q1
                                  try clear hx1
                                  try clear qi1
                                  try clear c2
                                  try clear p2
                                  try clear q2
                                  try clear hx2
                                  try clear c3
                                  try clear c3b0
                                  try clear c3b1
                                  try clear p3
                                  try clear q3
                                  try clear hx3
                                  try clear p4
                                  try clear q4
                                  try clear hx4
                                  try clear qi4
                                  try clear c5
                                  try clear c5b0
                                  try clear c5b1
                                  try clear c6
                                  try clear p6
                                  try clear q6
                                  try clear hx6
                                  try clear qi6
                                  try clear c8
                                  try clear c9
                                  try clear c9b0
                                  try clear c10
                                  try clear c10b0
                                  try clear c10b1
                                  try clear c11
                                  try clear p11
                                  try clear q11
                                  try clear hx11
                                  try clear qi11
                                  try clear c13
                                  try clear c13b0
                                  try clear c14
                                  try clear c14b0
                                  try clear p15
                                  try clear q15
                                  try clear hx15
                                  try clear c17
                                  try clear c18
                                  try clear c18b0
                                  try clear c19
                                  try clear c19b0
                                  try clear c20
                                  try clear c20b0
                                  try clear c21
                                  try clear p21
                                  try clear q21
                                  try clear hx21
                                  try clear c23
                                  try clear c23b0
                                  try clear c24
                                  try clear c24b0
                                  try clear c25
                                  try clear c25b0
                                  try clear p26
                                  try clear q26
                                  try clear hx26
                                  try clear c27
                                  try clear c27b0
                                  try clear c27b1
                                  try clear c29
                                  try clear c29b0
                                  try clear p30
                                  try clear q30
                                  try clear hx30
                                  try clear c33
                                  try clear c35
                                  try clear c35b0
                                  try clear c36
                                  try clear c36b0
                                  try clear p37
                                  try clear q37
                                  try clear hx37
                                  try clear p1
                                  try clear p11
                                  try clear p15
                                  try clear p2
                                  try clear p21
                                  try clear p26
                                  try clear p3
                                  try clear p30
                                  try clear p37
                                  try clear p4
                                  try clear p6
                                  try clear q1
                                  try clear q11
                                  try clear q15
                                  try clear q2
                                  try clear q21
                                  try clear q26
                                  try clear q3
                                  try clear q30
                                  try clear q37
                                  try clear q4
                                  try clear q6
                                  obtain ⟨kq, x86_33, rfl, HA, HJ33, ⟨mc33, rfl⟩⟩ := hcut
                                  cases kq with
                                  | zero => exact absurd HA.out (by simp [spec_l1Decimal.j6])
                                  | succ kj33 =>
                                    have H := HA.out
                                    clear HA
                                    simp only [spec_l1Decimal.j6] at H
                                    by_cases c39 : x86_33 = true
                                    · subst c39
                                      have H1 : (if x8_6 < 6 then (if 0 ≤ x4_6 then (if x4_6 < (a0.size : Int) then (spec_l1Decimal.l1 kj33 a0 (wrap64 (x4_6 + 1)) x5_6 (wrap64 ((wrap64 (10 * x6_6)) + (((bt a0 x4_6) - 48) % 256))) x7_3 (wrap64 (x8_6 + 1))) else (none)) else (none)) else (spec_l1Decimal.l1 kj33 a0 (wrap64 (x4_6 + 1)) x5_6 x6_6 x7_3 (wrap64 (x8_6 + 1)))) = some (r1, r2) := by rw [if_pos rfl] at H; exact H
                                      clear H
                                      have H := H1
                                      clear H1
                                      by_cases c40 : x8_6 < 6
                                      · rw [if_pos c40] at H
                                        have c40b0 : decide (x8_6 < 6) = true := decide_eq_true c40
                                        clear c40
                                        by_cases c41 : 0 ≤ x4_6
                                        · rw [if_pos c41] at H
                                          have c41b0 : decide (0 ≤ x4_6) = true := decide_eq_true c41
                                          clear c41
                                          by_cases c42 : x4_6 < (a0.size : Int)
                                          · rw [if_pos c42] at H
                                            have c42b0 : decide (x4_6 < (a0.size : Int)) = true := decide_eq_true c42
                                            clear c42
                                            have H' := Aside0.mk H
                                            clear H
                                            have p43 : 0 ≤ (x4_6 : Int) := of_decide_eq_true (by first | (with_reducible assumption) | assumption)
                                            have q43 : x4_6 < (a0.size : Int) := of_decide_eq_true (by first | (with_reducible assumption) | assumption)
                                            have hx43 := bt_at a0 x4_6
                                            replace p43 := eq_true p43
                                            replace q43 := eq_true q43
                                            go_wp2
                                            go_roundg kj33
                                            case measure => have := HJ1.out; have := HJ6.out; have := HK3.out; have := HJ11.out; have := HJ21.out; have := HK6.out; have := HJ33.out; omega
                                            case rel => exact ⟨(wrap64 (x4_6 + 1)), (wrap64 ((wrap64 (10 * x6_6)) + (((bt a0 x4_6) - 48) % 256))), (wrap64 (x8_6 + 1)), (by first | rfl | (simp; done) | (simp [*]; done) | (simp [wrap64]; done)), (by first | rfl | (simp; done) | (simp [*]; done) | (simp [wrap64]; done)), (by first | rfl | (simp; done) | (simp [*]; done) | (simp [wrap64]; done)), H', ⟨by have := HJ1.out; have := HJ6.out; have := HK3.out; have := HJ11.out; have := HJ21.out; have := HK6.out; have := HJ33.out; omega⟩, by repeat (first | exact Drawn0.refl _ | apply Drawn0.step)⟩
                                          · rw [if_neg c42] at H
                                            exact absurd H (by simp)
                                        · rw [if_neg c41] at H
                                          exact absurd H (by simp)
                                      · rw [if_neg c40] at H
                                        have c40b0 : decide (x8_6 < 6) = false := decide_eq_false c40
                                        clear c40
                                        have H' := Aside0.mk H
                                        clear H
                                        go_wp2
                                        go_roundg kj33
                                        case measure => have := HJ1.out; have := HJ6.out; have := HK3.out; have := HJ11.out; have := HJ21.out; have := HK6.out; have := HJ33.out; omega
                                        case rel => exact ⟨(wrap64 (x4_6 + 1)), (x6_6), (wrap64 (x8_6 + 1)), (by first | rfl | (simp; done) | (simp [*]; done) | (simp [wrap64]; done)), (by first | rfl | (simp; done) | (simp [*]; done) | (simp [wrap64]; done)), (by first | rfl | (simp; done) | (simp [*]; done) | (simp [wrap64]; done)), H', ⟨by have := HJ1.out; have := HJ6.out; have := HK3.out; have := HJ11.out; have := HJ21.out; have := HK6.out; have := HJ33.out; omega⟩, by repeat (first | exact Drawn0.refl _ | apply Drawn0.step)⟩
                                    · replace c39 := Bool.eq_false_iff.mpr c39
                                      subst c39
                                      have H1 : (spec_l1Decimal.j7 kj33 x4_6 x5_6 x6_6 x7_3 x8_6) = some (r1, r2) := by rw [if_neg (show ¬ (false = true) by decide)] at H; exact H
                                      clear H
                                      have H := H1
                                      clear H1
                                      have H' := Aside0.mk H
                                      clear H
                                      go_wp2
                                      go_meet
                                      case rel => exact ⟨_, (x4_6), (x6_6), (x8_6), (by first | rfl | (simp; done) | (simp [*]; done) | (simp [wrap64]; done)), (by first | rfl | (simp; done) | (simp [*]; done) | (simp [wrap64]; done)), (by first | rfl | (simp; done) | (simp [*]; done) | (simp [wrap64]; done)), H', ⟨by have := HJ1.out; have := HJ6.out; have := HK3.out; have := HJ11.out; have := HJ21.out; have := HK6.out; have := HJ33.out; first | omega | exact Nat.le_refl _⟩, by repeat (first | exact Drawn0.refl _ | apply Drawn0.step)⟩
                          · replace c33 := Bool.eq_false_iff.mpr c33
                            subst c33
                            have H1 : (spec_l1Decimal.j7 kj21 x4_3 x5_6 x6_3 x7_3 0) = some (r1, r2) := by rw [if_neg (show ¬ (false = true) by decide)] at H; exact H
                            clear H
                            have H := H1
                            clear H1
                            have H' := Aside0.mk H
                            clear H
                            go_wp2
                            go_meet
                            case rel => exact ⟨_, (x4_3), (x6_3), (0), (by first | rfl | (simp; done) | (simp [*]; done) | (simp [wrap64]; done)), (by first | rfl | (simp; done) | (simp [*]; done) | (simp [wrap64]; done)), (by first | rfl | (simp; done) | (simp [*]; done) | (simp [wrap64]; done)), H', ⟨by have := HJ1.out; have := HJ6.out; have := HK3.out; have := HJ11.out; have := HJ21.out; first | omega | exact Nat.le_refl _⟩, by repeat (first | exact Drawn0.refl _ | apply Drawn0.step)⟩
                        case rest =>
                          clear HC32
                          try clear c1
                          try clear p1
                          try clear q1
                          try clear hx1
                          try clear qi1
                          try clear c2
                          try clear p2
                          try clear q2
                          try clear hx2
                          try clear c3
                          try clear c3b0
                          try clear c3b1
                          try clear p3
                          try clear q3
                          try clear hx3
                          try clear c4
                          try clear p4
                          try clear q4
                          try clear hx4
                          try clear qi4
                          try clear c5
                          try clear c5b0
                          try clear c5b1
                          try clear c6
                          try clear p6
                          try clear q6
                          try clear hx6
                          try clear qi6
                          try clear c8
                          try clear c9
                          try clear c9b0
                          try clear c10
                          try clear c10b0
                          try clear c10b1
                          try clear c11
                          try clear p11
                          try clear q11
                          try clear hx11
                          try clear qi11
                          try clear c13
                          try clear c13b0
                          try clear c14
                          try clear c14b0
                          try clear p15
                          try clear q15
                          try clear hx15
                          try clear c17
                          try clear c18
                          try clear c18b0
                          try clear c19
                          try clear c19b0
                          try clear c20
                          try clear c20b0
                          try clear c21
                          try clear p21
                          try clear q21
                          try clear hx21
                          try clear c23
                          try clear c23b0
                          try clear c24
                          try clear c24b0
                          try clear c25
                          try clear c25b0
                          try clear p26
                          try clear q26
                          try clear hx26
                          try clear c27
                          try clear c27b0
                          try clear c27b1
                          try clear c29
                          try clear c29b0
                          try clear p30
                          try clear q30
                          try clear hx30
                          try clear c33
                          try clear c35
                          try clear c35b0
                          try clear c36
                          try clear c36b0
                          try clear p37
                          try clear q37
                          try clear hx37
                          try clear c39
                          try clear c40
                          try clear c40b0
                          try clear c41
                          try clear c41b0
                          try clear c42
                          try clear c42b0
                          try clear p43
                          try clear q43
                          try clear hx43
                          try clear p1
                          try clear p11
                          try clear p15
                          try clear p2
                          try clear p21
                          try clear p26
                          try clear p3
                          try clear p30
                          try clear p37
                          try clear p4
                          try clear p43
                          try clear p6
                          try clear q1
                          try clear q11
                          try clear q15
                          try clear q2
                          try clear q21
                          try clear q26
                          try clear q3
                          try clear q30
                          try clear q37
                          try clear q4
                          try clear q43
                          try clear q6
                          obtain ⟨kq, x4_31, x6_31, x8_31, rfl, rfl, rfl, HA, HJ31, ⟨mc31, rfl⟩⟩ := hcut
                          cases kq with
                          | zero => exact absurd HA.out (by simp [spec_l1Decimal.j7])
                          | succ kj31 =>
                            have H := HA.out
                            clear HA
                            simp only [spec_l1Decimal.j7] at H
                            have HC44 := Aside0.mk H
                            clear H
                            go_upto_region 21 with (fail)
                            go_cut [112] (fun v112 wc => ∃ (kq : Nat) (x112_43 : Bool), v112 = .bool x112_43 ∧ Aside0 (spec_l1Decimal.j8 kq x4_31 x5_6 x6_31 x8_31 x112_43 = some (r1, r2)) ∧ Aside0 (kq ≤ kj31) ∧ Drawn0 w wc)
                            case first =>
                              have H := HC44.out
                              clear HC44
                              by_cases c45 : (wrap64 (x7_3 + x8_31)) = 0
                              · rw [if_pos c45] at H
                                have c45b0 : ((wrap64 (x7_3 + x8_31)) == 0) = true := beq_iff_eq.mpr c45
                                have c45b1 : ((wrap64 (x7_3 + x8_31)) != 0) = false := bne_eq_false_iff_eq.mpr c45
                                clear c45
                                (first | rw [c45b0] | (simp only [i64_w, i32_w]; rw [c45b0]) | skip)
                                have H' := Aside0.mk H
                                clear H
                                go_wp2
                                go_meet
                                case rel => exact ⟨_, (true), (by first | rfl | (simp; done) | (simp [*]; done) | (simp [wrap64]; done)), H', ⟨by have := HJ1.out; have := HJ6.out; have := HK3.out; have := HJ11.out; have := HJ21.out; have := HJ31.out; first | omega | exact Nat.le_refl _⟩, by repeat (first | exact Drawn0.refl _ | apply Drawn0.step)⟩
                              · rw [if_neg c45] at H
                                have c45b0 : ((wrap64 (x7_3 + x8_31)) == 0) = false := beq_eq_false_iff_ne.mpr c45
                                have c45b1 : ((wrap64 (x7_3 + x8_31)) != 0) = true := bne_iff_ne.mpr c45
                                (first | rw [c45b0] | (simp only [i64_w, i32_w]; rw [c45b0]) | skip)
                                by_cases c46 : x7_3 > 8
                                · rw [if_pos c46] at H
                                  have c46b0 : decide (8 < x7_3) = true := decide_eq_true c46
                                  clear c46
                                  have H' := Aside0.mk H
                                  clear H
                                  go_wp2
                                  go_meet
                                  case rel => exact ⟨_, (true), (by first | rfl | (simp; done) | (simp [*]; done) | (simp [wrap64]; done)), H', ⟨by have := HJ1.out; have := HJ6.out; have := HK3.out; have := HJ11.out; have := HJ21.out; have := HJ31.out; first | omega | exact Nat.le_refl _⟩, by repeat (first | exact Drawn0.refl _ | apply Drawn0.step)⟩
                                · rw [if_neg c46] at H
                                  have c46b0 : decide (8 < x7_3) = false := decide_eq_false c46
                                  clear c46
                                  have H' := Aside0.mk H
                                  clear H
                                  go_wp2
                                  go_meet
                                  case rel => exact ⟨_, (decide (x8_31 > 6)), (by first | rfl | (simp; done) | (simp [*]; done) | (simp [wrap64]; done)), H', ⟨by have := HJ1.out; have := HJ6.out; have := HK3.out; have := HJ11.out; have := HJ21.out; have := HJ31.out; first | omega | exact Nat.le_refl _⟩, by repeat (first | exact Drawn0.refl _ | apply Drawn0.step)⟩
                            case rest =>
                              clear HC44
                              try clear c1
                              try clear p1
                              try clear q1
                              try clear hx1
                              try clear qi1
                              try clear c2
                              try clear p2
                              try clear q2
                              try clear hx2
                              try clear c3
                              try clear c3b0
                              try clear c3b1
                              try clear p3
                              try clear q3
                              try clear hx3
                              try clear c4
                              try clear p4
                              try clear q4
                              try clear hx4
                              try clear qi4
                              try clear c5
                              try clear c5b0
                              try clear c5b1
                              try clear c6
                              try clear p6
                              try clear q6
                              try clear hx6
                              try clear qi6
                              try clear c8
                              try clear c9
                              try clear c9b0
                              try clear c10
                              try clear c10b0
                              try clear c10b1
                              try clear c11
                              try clear p11
                              try clear q11
                              try clear hx11
                              try clear qi11
                              try clear c13
                              try clear c13b0
                              try clear c14
                              try clear c14b0
                              try clear p15
                              try clear q15
                              try clear hx15
                              try clear c17
                              try clear c18
                              try clear c18b0
                              try clear c19
                              try clear c19b0
                              try clear c20
                              try clear c20b0
                              try clear c21
                              try clear p21
                              try clear q21
                              try clear hx21
                              try clear c23
                              try clear c23b0
                              try clear c24
                              try clear c24b0
                              try clear c25
                              try clear c25b0
                              try clear p26
                              try clear q26
                              try clear hx26
                              try clear c27
                              try clear c27b0
                              try clear c27b1
                              try clear c29
                              try clear c29b0
                              try clear p30
                              try clear q30
                              try clear hx30
                              try clear c31
                              try clear c33
                              try clear c35
                              try clear c35b0
                              try clear c36
                              try clear c36b0
                              try clear p37
                              try clear q37
                              try clear hx37
                              try clear c39
                              try clear c40
                              try clear c40b0
                              try clear c41
                              try clear c41b0
                              try clear c42
                              try clear c42b0
                              try clear p43
                              try clear q43
                              try clear hx43
                              try clear c45
                              try clear c45b0
                              try clear c45b1
                              try clear c46
                              try clear c46b0
                              try clear p1
                              try clear p11
                              try clear p15
                              try clear p2
                              try clear p21
                              try clear p26
                              try clear p3
                              try clear p30
                              try clear p37
                              try clear p4
                              try clear p43
                              try clear p6
                              try clear q1
                              try clear q11
                              try clear q15
                              try clear q2
                              try clear q21
                              try clear q26
                              try clear q3
                              try clear q30
                              try clear q37
                              try clear q4
                              try clear q43
                              try clear q6
                              obtain ⟨kq, x112_43, rfl, HA, HJ43, ⟨mc43, rfl⟩⟩ := hcut
                              cases kq with
                              | zero => exact absurd HA.out (by simp [spec_l1Decimal.j8])
                              | succ kj43 =>
                                have H := HA.out
                                clear HA
                                simp only [spec_l1Decimal.j8] at H
                                by_cases c47 : x112_43 = true
                                · subst c47
                                  have H1 : (some (0, 0)) = some (r1, r2) := by rw [if_pos rfl] at H; exact H
                                  clear H
                                  have H := H1
                                  clear H1
                                  simp only [Option.some.injEq, Prod.mk.injEq] at H
                                  obtain ⟨rfl, rfl⟩ := H
                                  go_wp2
                                  go_ret2
                                  exact ⟨by first | rfl | (simp; done) | (simp [*]; done), by repeat (first | exact Drawn0.refl _ | apply Drawn0.step)⟩
                                · replace c47 := Bool.eq_false_iff.mpr c47
                                  subst c47
                                  have H1 : (spec_l1Decimal.l2 kj43 x4_31 x5_6 x6_31 x8_31) = some (r1, r2) := by rw [if_neg (show ¬ (false = true) by decide)] at H; exact H
                                  clear H
                                  have H := H1
                                  clear H1
                                  have H' := Aside0.mk H
                                  clear H
                                  go_wp2
                                  go_loopg [6, 9] kj43 (fun kq v6 v9 w' => ∃ (x6_8 : Int) (x9_8 : Int), v6 = .int .i64 x6_8 ∧ v9 = .int .i64 x9_8 ∧ Aside0 (spec_l1Decimal.l2 kq x4_31 x5_6 x6_8 x9_8 = some (r1, r2)) ∧ Aside0 (kq ≤ kj43) ∧ Drawn0 w w')
                                  case atStart => exact ⟨(x6_31), (x8_31), (by first | rfl | (simp; done) | (simp [*]; done) | (simp [wrap64]; done)), (by first | rfl | (simp; done) | (simp [*]; done) | (simp [wrap64]; done)), H', ⟨Nat.le_refl _⟩, by repeat (first | exact Drawn0.refl _ | apply Drawn0.step)⟩
                                  case round =>
                                    clear H'
                                    try clear c1
                                    try clear p1
                                    try clear q1
                                    try clear hx1
                                    try clear qi1
                                    try clear c2
                                    try clear p2
                                    try clear q2
                                    try clear hx2
                                    try clear c3
                                    try clear c3b0
                                    try clear c3b1
                                    try clear p3
                                    try clear q3
                                    try clear hx3
                                    try clear c4
                                    try clear p4
                                    try clear q4
                                    try clear hx4
                                    try clear qi4
                                    try clear c5
                                    try clear c5b0
                                    try clear c5b1
                                    try clear c6
                                    try clear p6
                                    try clear q6
                                    try clear hx6
                                    try clear qi6
                                    try clear c8
                                    try clear c9
                                    try clear c9b0
                                    try clear c10
                                    try clear c10b0
                                    try clear c10b1
                                    try clear c11
                                    try clear p11
                                    try clear q11
                                    try clear hx11
                                    try clear qi11
                                    try clear c13
                                    try clear c13b0
                                    try clear c14
                                    try clear c14b0
                                    try clear p15
                                    try clear q15
                                    try clear hx15
                                    try clear c17
                                    try clear c18
                                    try clear c18b0
                                    try clear c19
                                    try clear c19b0
                                    try clear c20
                                    try clear c20b0
                                    try clear c21
                                    try clear p21
                                    try clear q21
                                    try clear hx21
                                    try clear c23
                                    try clear c23b0
                                    try clear c24
                                    try clear c24b0
                                    try clear c25
                                    try clear c25b0
                                    try clear p26
                                    try clear q26
                                    try clear hx26
                                    try clear c27
                                    try clear c27b0
                                    try clear c27b1
                                    try clear c29
                                    try clear c29b0
                                    try clear p30
                                    try clear q30
                                    try clear hx30
                                    try clear c31
                                    try clear c33
                                    try clear c35
                                    try clear c35b0
                                    try clear c36
                                    try clear c36b0
                                    try clear p37
                                    try clear q37
                                    try clear hx37
                                    try clear c39
                                    try clear c40
                                    try clear c40b0
                                    try clear c41
                                    try clear c41b0
                                    try clear c42
                                    try clear c42b0
                                    try clear c43
                                    try clear p43
                                    try clear q43
                                    try clear hx43
                                    try clear c45
                                    try clear c45b0
                                    try clear c45b1
                                    try clear c46
                                    try clear c46b0
                                    try clear c47
                                    try clear p1
                                    try clear p11
                                    try clear p15
                                    try clear p2
                                    try clear p21
                                    try clear p26
                                    try clear p3
                                    try clear p30
                                    try clear p37
                                    try clear p4
                                    try clear p43
                                    try clear p6
                                    try clear q1
                                    try clear q11
                                    try clear q15
                                    try clear q2
                                    try clear q21
                                    try clear q26
                                    try clear q3
                                    try clear q30
                                    try clear q37
                                    try clear q4
                                    try clear q43
                                    try clear q6
                                    obtain ⟨x6_8, x9_8, rfl, rfl, HA, HK8, ⟨m8, rfl⟩⟩ := hrel
                                    cases gk with
                                    | zero => exact absurd HA.out (by simp [spec_l1Decimal.l2])
                                    | succ k8 =>
                                      have H := HA.out
                                      clear HA
                                      simp only [spec_l1Decimal.l2] at H
                                      by_cases c48 : x9_8 < 6
                                      · rw [if_pos c48] at H
                                        have c48b0 : decide (x9_8 < 6) = true := decide_eq_true c48
                                        clear c48
                                        have H' := Aside0.mk H
                                        clear H
                                        go_wp2
                                        go_roundg k8
                                        case measure => have := HJ1.out; have := HJ6.out; have := HK3.out; have := HJ11.out; have := HJ21.out; have := HJ31.out; have := HJ43.out; have := HK8.out; omega
                                        case rel => exact ⟨(wrap64 (x6_8 * 10)), (wrap64 (x9_8 + 1)), (by first | rfl | (simp; done) | (simp [*]; done) | (simp [wrap64]; done)), (by first | rfl | (simp; done) | (simp [*]; done) | (simp [wrap64]; done)), H', ⟨by have := HJ1.out; have := HJ6.out; have := HK3.out; have := HJ11.out; have := HJ21.out; have := HJ31.out; have := HJ43.out; have := HK8.out; omega⟩, by repeat (first | exact Drawn0.refl _ | apply Drawn0.step)⟩
                                      · rw [if_neg c48] at H
                                        have c48b0 : decide (x9_8 < 6) = false := decide_eq_false c48
                                        clear c48
                                        have HC49 := Aside0.mk H
                                        clear H
                                        go_upto_if 120 with (fail)
                                        go_cut [6] (fun v6 wc => ∃ (kq : Nat) (x6_48 : Int), v6 = .int .i64 x6_48 ∧ Aside0 (spec_l1Decimal.j10 kq x4_31 x6_48 = some (r1, r2)) ∧ Aside0 (kq ≤ k8) ∧ Drawn0 w wc)
                                        case first =>
                                          have H := HC49.out
                                          clear HC49
                                          by_cases c50 : x5_6 = true
                                          · subst c50
                                            have H1 : (spec_l1Decimal.j10 k8 x4_31 (wrap64 (-x6_8))) = some (r1, r2) := by rw [if_pos rfl] at H; exact H
                                            clear H
                                            have H := H1
                                            clear H1
                                            have H' := Aside0.mk H
                                            clear H
                                            go_wp2
                                            go_meet
                                            case rel => exact ⟨_, (wrap64 (-x6_8)), (by first | rfl | (simp; done) | (simp [*]; done) | (simp [wrap64]; done)), H', ⟨by have := HJ1.out; have := HJ6.out; have := HK3.out; have := HJ11.out; have := HJ21.out; have := HJ31.out; have := HJ43.out; have := HK8.out; first | omega | exact Nat.le_refl _⟩, by repeat (first | exact Drawn0.refl _ | apply Drawn0.step)⟩
                                          · replace c50 := Bool.eq_false_iff.mpr c50
                                            subst c50
                                            have H1 : (spec_l1Decimal.j10 k8 x4_31 x6_8) = some (r1, r2) := by rw [if_neg (show ¬ (false = true) by decide)] at H; exact H
                                            clear H
                                            have H := H1
                                            clear H1
                                            have H' := Aside0.mk H
                                            clear H
                                            go_wp2
                                            go_meet
                                            case rel => exact ⟨_, (x6_8), (by first | rfl | (simp; done) | (simp [*]; done) | (simp [wrap64]; done)), H', ⟨by have := HJ1.out; have := HJ6.out; have := HK3.out; have := HJ11.out; have := HJ21.out; have := HJ31.out; have := HJ43.out; have := HK8.out; first | omega | exact Nat.le_refl _⟩, by repeat (first | exact Drawn0.refl _ | apply Drawn0.step)⟩
                                        case rest =>
                                          clear HC49
                                          try clear c1
                                          try clear p1
                                          try clear q1
                                          try clear hx1
                                          try clear qi1
                                          try clear c2
                                          try clear p2
                                          try clear q2
                                          try clear hx2
                                          try clear c3
                                          try clear c3b0
                                          try clear c3b1
                                          try clear p3
                                          try clear q3
                                          try clear hx3
                                          try clear c4
                                          try clear p4
                                          try clear q4
                                          try clear hx4
                                          try clear qi4
                                          try clear c5
                                          try clear c5b0
                                          try clear c5b1
                                          try clear c6
                                          try clear p6
                                          try clear q6
                                          try clear hx6
                                          try clear qi6
                                          try clear c8
                                          try clear c9
                                          try clear c9b0
                                          try clear c10
                                          try clear c10b0
                                          try clear c10b1
                                          try clear c11
                                          try clear p11
                                          try clear q11
                                          try clear hx11
                                          try clear qi11
                                          try clear c13
                                          try clear c13b0
                                          try clear c14
                                          try clear c14b0
                                          try clear p15
                                          try clear q15
                                          try clear hx15
                                          try clear c17
                                          try clear c18
                                          try clear c18b0
                                          try clear c19
                                          try clear c19b0
                                          try clear c20
                                          try clear c20b0
                                          try clear c21
                                          try clear p21
                                          try clear q21
                                          try clear hx21
                                          try clear c23
                                          try clear c23b0
                                          try clear c24
                                          try clear c24b0
                                          try clear c25
                                          try clear c25b0
                                          try clear p26
                                          try clear q26
                                          try clear hx26
                                          try clear c27
                                          try clear c27b0
                                          try clear c27b1
                                          try clear c29
                                          try clear c29b0
                                          try clear p30
                                          try clear q30
                                          try clear hx30
                                          try clear c31
                                          try clear c33
                                          try clear c35
                                          try clear c35b0
                                          try clear c36
                                          try clear c36b0
                                          try clear p37
                                          try clear q37
                                          try clear hx37
                                          try clear c39
                                          try clear c40
                                          try clear c40b0
                                          try clear c41
                                          try clear c41b0
                                          try clear c42
                                          try clear c42b0
                                          try clear c43
                                          try clear p43
                                          try clear q43
                                          try clear hx43
                                          try clear c45
                                          try clear c45b0
                                          try clear c45b1
                                          try clear c46
                                          try clear c46b0
                                          try clear c47
                                          try clear c48
                                          try clear c48b0
                                          try clear c50
                                          try clear p1
                                          try clear p11
                                          try clear p15
                                          try clear p2
                                          try clear p21
                                          try clear p26
                                          try clear p3
                                          try clear p30
                                          try clear p37
                                          try clear p4
                                          try clear p43
                                          try clear p6
                                          try clear q1
                                          try clear q11
                                          try clear q15
                                          try clear q2
                                          try clear q21
                                          try clear q26
                                          try clear q3
                                          try clear q30
                                          try clear q37
                                          try clear q4
                                          try clear q43
                                          try clear q6
                                          obtain ⟨kq, x6_48, rfl, HA, HJ48, ⟨mc48, rfl⟩⟩ := hcut
                                          cases kq with
                                          | zero => exact absurd HA.out (by simp [spec_l1Decimal.j10])
                                          | succ kj48 =>
                                            have H := HA.out
                                            clear HA
                                            simp only [spec_l1Decimal.j10] at H
                                            replace H := Option.bind_eq_some_iff.mp H
                                            obtain ⟨t107, A510, H⟩ := H
                                            replace H : ((spec_GoodFixed.f t107).bind fun t108 => (if t108 = true then (some (x4_31, t107)) else (some (0, 0)))) = some (r1, r2) := H
                                            have A51 := Aside0.mk A510
                                            clear A510
                                            replace H := Option.bind_eq_some_iff.mp H
                                            obtain ⟨t108, A520, H⟩ := H
                                            replace H : (if t108 = true then (some (x4_31, t107)) else (some (0, 0))) = some (r1, r2) := H
                                            have A52 := Aside0.mk A520
                                            clear A520
                                            by_cases c53 : t108 = true
                                            · subst c53
                                              have H1 : (some (x4_31, t107)) = some (r1, r2) := by rw [if_pos rfl] at H; exact H
                                              clear H
                                              have H := H1
                                              clear H1
                                              simp only [Option.some.injEq, Prod.mk.injEq] at H
                                              obtain ⟨rfl, rfl⟩ := H
                                              go_wp2_with (first | ((with_reducible refine gate_callee (f := 28) rfl ?_); refine goesL_ (some 126) rfl rfl Tryd.func28 (by kernel_rfl) rfl #[.int .i64 (wrap64 ((wrap64 (x6_48 * 65536)) + 500000)), .int .i64 1000000] rfl (by (try simp only [List.map_toArray, List.map_cons, List.map_nil]); first | done | rfl | (simp only [List.length_drop, List.length_take]; rfl)) ?_; (with_reducible refine (spec_l1Down.calls (wrap64 ((wrap64 (x6_48 * 65536)) + 500000)) 1000000 t107 _ A51.out).mono ?_); rintro e w' ⟨rfl, ⟨nd, rfl⟩⟩; refine ⟨_, rfl, ?_⟩) | ((with_reducible refine gate_callee (f := 29) rfl ?_); refine goesL_ (some 128) rfl rfl Tryd.func29 (by kernel_rfl) rfl #[.int .i64 t107] rfl (by (try simp only [List.map_toArray, List.map_cons, List.map_nil]); first | done | rfl | (simp only [List.length_drop, List.length_take]; rfl)) ?_; (with_reducible refine (spec_GoodFixed.calls t107 true _ A52.out).mono ?_); rintro e w' ⟨rfl, ⟨nd, rfl⟩⟩; refine ⟨_, rfl, ?_⟩))
                                              go_ret2
                                              exact ⟨by first | rfl | (simp; done) | (simp [*]; done), by repeat (first | exact Drawn0.refl _ | apply Drawn0.step)⟩
                                            · replace c53 := Bool.eq_false_iff.mpr c53
                                              subst c53
                                              have H1 : (some (0, 0)) = some (r1, r2) := by rw [if_neg (show ¬ (false = true) by decide)] at H; exact H
                                              clear H
                                              have H := H1
                                              clear H1
                                              simp only [Option.some.injEq, Prod.mk.injEq] at H
                                              obtain ⟨rfl, rfl⟩ := H
                                              go_wp2_with (first | ((with_reducible refine gate_callee (f := 28) rfl ?_); refine goesL_ (some 126) rfl rfl Tryd.func28 (by kernel_rfl) rfl #[.int .i64 (wrap64 ((wrap64 (x6_48 * 65536)) + 500000)), .int .i64 1000000] rfl (by (try simp only [List.map_toArray, List.map_cons, List.map_nil]); first | done | rfl | (simp only [List.length_drop, List.length_take]; rfl)) ?_; (with_reducible refine (spec_l1Down.calls (wrap64 ((wrap64 (x6_48 * 65536)) + 500000)) 1000000 t107 _ A51.out).mono ?_); rintro e w' ⟨rfl, ⟨nd, rfl⟩⟩; refine ⟨_, rfl, ?_⟩) | ((with_reducible refine gate_callee (f := 29) rfl ?_); refine goesL_ (some 128) rfl rfl Tryd.func29 (by kernel_rfl) rfl #[.int .i64 t107] rfl (by (try simp only [List.map_toArray, List.map_cons, List.map_nil]); first | done | rfl | (simp only [List.length_drop, List.length_take]; rfl)) ?_; (with_reducible refine (spec_GoodFixed.calls t107 false _ A52.out).mono ?_); rintro e w' ⟨rfl, ⟨nd, rfl⟩⟩; refine ⟨_, rfl, ?_⟩))
                                              go_ret2
                                              exact ⟨by first | rfl | (simp; done) | (simp [*]; done), by repeat (first | exact Drawn0.refl _ | apply Drawn0.step)⟩

end Go.Proofs.YtfjabcfmcnphcaaDoor.PFnExactReadView
