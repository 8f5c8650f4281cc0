-- Laid by a program of this session out of the translation (its own run of the print). Lean checks it.
import Derived.Test.YtpndhkbfmgddbaaPFnExactMulAffinex0
import Derived.Test.YtpndhkbfmgddbaaPFnExactMulAffinex4
import Derived.Test.YtpndhkbfmgddbaaPFnExactMulAffinex5
namespace Go.Proofs.Ytpndhkbfmgddbaa.PFnExactMulAffine
open Go.RowKit Go.Proofs.YtpndhkbfmgddbaaW.PrintWords Go.Proofs.YtpndhkbfmgddbaaW.PrintLast Go.Proofs.YtpndhkbfmgddbaaW.PrintMore
attribute [local go_sem] call_add64
attribute [local go_sem] max2_int min2_int max_two min_two max_three min_three max_four min_four   -- for this text's walks alone
set_option linter.unusedVariables false
set_option linter.unusedSimpArgs false

/-! ### impl_MulAffine: function 6 -/
theorem blkb_ {W w2 : World} {g : Nat} {o : Obj} (hb : Below W.heap.size W w2) (h : W.heap[g]? = some o) : w2.heap[g]? = some o := blk_below h hb
theorem hq_ {w : World} {g h t : Nat} {a b c d e f a1 b1 c1 d1 e1 f1 : Int} (p : w.heap[g]? = some (.cells #[.int .i64 a, .int .i64 b, .int .i64 c, .int .i64 d, .int .i64 e, .int .i64 f] t (0, 0))) (q : w.heap[h]? = some (.cells #[.int .i64 a1, .int .i64 b1, .int .i64 c1, .int .i64 d1, .int .i64 e1, .int .i64 f1] t (0, 0))) : w.cell? ⟨g, 0, none⟩ = some (.int .i64 a) ∧ w.cell? ⟨g, 1, none⟩ = some (.int .i64 b) ∧ w.cell? ⟨g, 2, none⟩ = some (.int .i64 c) ∧ w.cell? ⟨g, 3, none⟩ = some (.int .i64 d) ∧ w.cell? ⟨g, 4, none⟩ = some (.int .i64 e) ∧ w.cell? ⟨g, 5, none⟩ = some (.int .i64 f) ∧ w.cell? ⟨h, 0, none⟩ = some (.int .i64 a1) ∧ w.cell? ⟨h, 1, none⟩ = some (.int .i64 b1) ∧ w.cell? ⟨h, 2, none⟩ = some (.int .i64 c1) ∧ w.cell? ⟨h, 3, none⟩ = some (.int .i64 d1) ∧ w.cell? ⟨h, 4, none⟩ = some (.int .i64 e1) ∧ w.cell? ⟨h, 5, none⟩ = some (.int .i64 f1) :=
 ⟨(blk_cell p 0).trans rfl, (blk_cell p 1).trans rfl, (blk_cell p 2).trans rfl, (blk_cell p 3).trans rfl, (blk_cell p 4).trans rfl, (blk_cell p 5).trans rfl, (blk_cell q 0).trans rfl, (blk_cell q 1).trans rfl, (blk_cell q 2).trans rfl, (blk_cell q 3).trans rfl, (blk_cell q 4).trans rfl, (blk_cell q 5).trans rfl⟩
abbrev mb0_ : Array Bool := #[true, true, true, true, true, true, true, true, true, true, true, true, true, true, true, true, true, true, true, true, true, true, true, true, true, true, true, true, true, true, true, true, true, true, true, true, true, true, true, true, true, true, true, true, true, true, true, true, true, true, true, true, true, true, true, true, true, true, true, true, true, true, true, true, true, true, true, true, true, true, true, true, true, true, false]
abbrev mb1_ : Array Bool := #[true, true, true, true, true, true, true, true, true, true, true, true, true, true, true, true, true, true, true, true, true, true, true, true, true, true, true, true, true, true, true, true, true, true, true, true, true, true, true, true, true, true, true, true, true, true, true, true, true, true, true, true, true, true, true, true, true, true, true, true, true, true, true, true, true, true, true, true, true, true, true, true, true, false, false]
abbrev mb2_ : Array Bool := #[true, true, true, true, true, true, true, true, true, true, true, true, true, true, true, true, true, true, true, true, true, true, true, true, true, true, true, true, true, true, true, true, true, true, true, true, true, true, true, true, true, true, true, true, true, true, true, true, true, true, true, true, true, true, true, true, true, true, true, true, true, true, true, true, true, true, true, false, false, true, true, false, false, true, false]
abbrev mb3_ : Array Bool := #[true, true, true, true, true, true, true, true, true, true, true, true, true, true, true, true, true, true, true, true, true, true, true, true, true, true, true, true, true, true, true, true, true, true, true, true, true, true, true, true, true, true, true, true, true, true, true, true, true, true, true, true, true, true, true, true, true, true, true, true, true, true, true, true, true, true, true, false, false, true, true, false, false, false, false]
abbrev mb4_ : Array Bool := #[true, true, true, true, true, true, true, true, true, true, true, true, true, true, true, true, true, true, true, true, true, true, true, true, true, true, true, true, true, true, true, true, true, true, true, true, true, true, true, true, true, true, true, true, true, true, true, true, true, true, true, true, true, true, true, true, true, true, true, true, true, true, false, true, true, true, true, false, false, true, true, false, false, true, false]
abbrev mb5_ : Array Bool := #[true, true, true, true, true, true, true, true, true, true, true, true, true, true, true, true, true, true, true, true, true, true, true, true, true, true, true, true, true, true, true, true, true, true, true, true, true, true, true, true, true, true, true, true, true, true, true, true, true, true, true, true, true, true, true, true, true, true, true, true, true, true, false, true, true, true, true, false, false, true, true, false, false, false, false]
abbrev mb6_ : Array Bool := #[true, true, true, true, true, true, true, true, true, true, true, true, true, true, true, true, true, true, true, true, true, true, true, true, true, true, true, true, true, true, true, true, true, true, true, true, true, true, true, true, true, true, true, true, true, true, true, true, true, true, true, true, true, false, false, true, true, false, true, true, true, true, false, true, true, true, true, false, false, true, true, false, false, true, false]
abbrev mb7_ : Array Bool := #[true, true, true, true, true, true, true, true, true, true, true, true, true, true, true, true, true, true, true, true, true, true, true, true, true, true, true, true, true, true, true, true, true, true, true, true, true, true, true, true, true, true, true, true, true, true, true, true, true, true, true, true, true, false, false, true, true, false, true, true, true, true, false, true, true, true, true, false, false, true, true, false, false, false, false]
abbrev mb8_ : Array Bool := #[true, true, true, true, true, true, true, true, true, true, true, true, true, true, true, true, true, true, true, true, true, true, true, true, true, true, true, true, true, true, true, true, true, true, true, true, true, true, true, true, true, true, true, true, true, true, true, true, false, true, true, true, true, false, false, true, true, false, true, true, true, true, false, true, true, true, true, false, false, true, true, false, false, true, false]
abbrev mb9_ : Array Bool := #[true, true, true, true, true, true, true, true, true, true, true, true, true, true, true, true, true, true, true, true, true, true, true, true, true, true, true, true, true, true, true, true, true, true, true, true, true, true, true, true, true, true, true, true, true, true, true, true, false, true, true, true, true, false, false, true, true, false, true, true, true, true, false, true, true, true, true, false, false, true, true, false, false, false, false]
abbrev mb10_ : Array Bool := #[true, true, true, true, true, true, true, true, true, true, true, true, true, true, true, true, true, true, true, true, true, true, true, true, true, true, true, true, true, true, true, true, true, true, true, true, true, true, true, true, true, true, false, false, true, true, true, true, false, true, true, true, true, false, false, true, true, false, true, true, true, true, false, true, true, true, true, false, false, true, true, false, false, true, false]
abbrev mb11_ : Array Bool := #[true, true, true, true, true, true, true, true, true, true, true, true, true, true, true, true, true, true, true, true, true, true, true, true, true, true, true, true, true, true, true, true, true, true, true, true, true, true, true, true, true, true, false, false, true, true, true, true, false, true, true, true, true, false, false, true, true, false, true, true, true, true, false, true, true, true, true, false, false, true, true, false, false, false, false]
abbrev mb12_ : Array Bool := #[true, true, true, true, true, true, true, true, true, true, true, true, true, true, true, true, true, true, true, true, true, true, true, true, true, true, true, true, true, true, true, true, true, true, true, true, true, false, true, true, true, true, false, false, true, true, true, true, false, true, true, true, true, false, false, true, true, false, true, true, true, true, false, true, true, true, true, false, false, true, true, false, false, true, false]
abbrev mb13_ : Array Bool := #[true, true, true, true, true, true, true, true, true, true, true, true, true, true, true, true, true, true, true, true, true, true, true, true, true, true, true, true, true, true, true, true, true, true, true, true, true, false, true, true, true, true, false, false, true, true, true, true, false, true, true, true, true, false, false, true, true, false, true, true, true, true, false, true, true, true, true, false, false, true, true, false, false, false, false]
abbrev mb14_ : Array Bool := #[true, true, true, true, true, true, true, true, true, true, true, true, true, true, true, true, true, true, true, true, true, true, true, true, true, true, true, true, true, true, true, false, false, true, true, true, true, false, true, true, true, true, false, false, true, true, true, true, false, true, true, true, true, false, false, true, true, false, true, true, true, true, false, true, true, true, true, false, false, true, true, false, false, true, false]
abbrev mb15_ : Array Bool := #[true, true, true, true, true, true, true, true, true, true, true, true, true, true, true, true, true, true, true, true, true, true, true, true, true, true, true, true, true, true, true, false, false, true, true, true, true, false, true, true, true, true, false, false, true, true, true, true, false, true, true, true, true, false, false, true, true, false, true, true, true, true, false, true, true, true, true, false, false, true, true, false, false, false, false]
abbrev mb16_ : Array Bool := #[true, true, true, true, true, true, true, true, true, true, true, true, true, true, true, true, true, true, true, true, true, true, true, true, true, true, false, true, true, true, true, false, false, true, true, true, true, false, true, true, true, true, false, false, true, true, true, true, false, true, true, true, true, false, false, true, true, false, true, true, true, true, false, true, true, true, true, false, false, true, true, false, false, true, false]
abbrev mb17_ : Array Bool := #[true, true, true, true, true, true, true, true, true, true, true, true, true, true, true, true, true, true, true, true, true, true, true, true, true, true, false, true, true, true, true, false, false, true, true, true, true, false, true, true, true, true, false, false, true, true, true, true, false, true, true, true, true, false, false, true, true, false, true, true, true, true, false, true, true, true, true, false, false, true, true, false, false, false, false]
abbrev mb18_ : Array Bool := #[true, true, true, true, true, true, true, true, true, true, true, true, true, true, true, true, true, true, true, true, false, false, true, true, true, true, false, true, true, true, true, false, false, true, true, true, true, false, true, true, true, true, false, false, true, true, true, true, false, true, true, true, true, false, false, true, true, false, true, true, true, true, false, true, true, true, true, false, false, true, true, false, false, true, false]
abbrev mb19_ : Array Bool := #[true, true, true, true, true, true, true, true, true, true, true, true, true, true, true, true, true, true, true, true, false, false, true, true, true, true, false, true, true, true, true, false, false, true, true, true, true, false, true, true, true, true, false, false, true, true, true, true, false, true, true, true, true, false, false, true, true, false, true, true, true, true, false, true, true, true, true, false, false, true, true, false, false, false, false]
abbrev mb20_ : Array Bool := #[true, true, true, true, true, true, true, true, true, true, true, true, true, true, true, false, true, true, true, true, false, false, true, true, true, true, false, true, true, true, true, false, false, true, true, true, true, false, true, true, true, true, false, false, true, true, true, true, false, true, true, true, true, false, false, true, true, false, true, true, true, true, false, true, true, true, true, false, false, true, true, false, false, true, false]
abbrev mb21_ : Array Bool := #[true, true, true, true, true, true, true, true, true, true, true, true, true, true, true, false, true, true, true, true, false, false, true, true, true, true, false, true, true, true, true, false, false, true, true, true, true, false, true, true, true, true, false, false, true, true, true, true, false, true, true, true, true, false, false, true, true, false, true, true, true, true, false, true, true, true, true, false, false, true, true, false, false, false, false]
abbrev mb22_ : Array Bool := #[true, true, true, true, true, true, true, true, true, false, false, true, true, true, true, false, true, true, true, true, false, false, true, true, true, true, false, true, true, true, true, false, false, true, true, true, true, false, true, true, true, true, false, false, true, true, true, true, false, true, true, true, true, false, false, true, true, false, true, true, true, true, false, true, true, true, true, false, false, true, true, false, false, true, false]
abbrev mb23_ : Array Bool := #[true, true, true, true, true, true, true, true, true, false, false, true, true, true, true, false, true, true, true, true, false, false, true, true, true, true, false, true, true, true, true, false, false, true, true, true, true, false, true, true, true, true, false, false, true, true, true, true, false, true, true, true, true, false, false, true, true, false, true, true, true, true, false, true, true, true, true, false, false, true, true, false, false, false, false]
abbrev mb24_ : Array Bool := #[true, true, true, true, false, true, true, true, true, false, false, true, true, true, true, false, true, true, true, true, false, false, true, true, true, true, false, true, true, true, true, false, false, true, true, true, true, false, true, true, true, true, false, false, true, true, true, true, false, true, true, true, true, false, false, true, true, false, true, true, true, true, false, true, true, true, true, false, false, true, true, false, false, true, false]
def impl_MulAffine.j0 : Nat → Bool → Int → Int → Int → Int → Int → Int → Int → Int → Int → Int → Int → Int → Option (Int × Int × Int × Int × Int × Int × Bool)
 | 0, _, _, _, _, _, _, _, _, _, _, _, _, _ => none
 | k + 1, x14, x189000, x189001, x189002, x189003, x189004, x189005, x190000, x190001, x190002, x190003, x190004, x190005 => if x14 = true then (some (0, 0, 0, 0, 0, 0, false)) else ((impl_FixMul.f k x189000 x190000).bind fun t193 => ((impl_FixMul.f k x189002 x190001).bind fun t194 => ((impl_FixMul.f k x189001 x190000).bind fun t195 => ((impl_FixMul.f k x189003 x190001).bind fun t196 => ((impl_FixMul.f k x189000 x190002).bind fun t197 => ((impl_FixMul.f k x189002 x190003).bind fun t198 => ((impl_FixMul.f k x189001 x190002).bind fun t199 => ((impl_FixMul.f k x189003 x190003).bind fun t200 => ((impl_FixMul.f k x189000 x190004).bind fun t201 => ((impl_FixMul.f k x189002 x190005).bind fun t202 => ((impl_FixMul.f k x189001 x190004).bind fun t203 => ((impl_FixMul.f k x189003 x190005).bind fun t204 => ((impl_GoodAffine.f k (wrap64 (t193 + t194)) (wrap64 (t195 + t196)) (wrap64 (t197 + t198)) (wrap64 (t199 + t200)) (wrap64 ((wrap64 (t201 + t202)) + x189004)) (wrap64 ((wrap64 (t203 + t204)) + x189005))).bind fun t206 => (if t206 = true then (some (wrap64 (t193 + t194), wrap64 (t195 + t196), wrap64 (t197 + t198), wrap64 (t199 + t200), wrap64 ((wrap64 (t201 + t202)) + x189004), wrap64 ((wrap64 (t203 + t204)) + x189005), true)) else (some (0, 0, 0, 0, 0, 0, false))))))))))))))))
def impl_MulAffine.f (k : Nat) (a0_0 : Int) (a0_1 : Int) (a0_2 : Int) (a0_3 : Int) (a0_4 : Int) (a0_5 : Int) (a1_0 : Int) (a1_1 : Int) (a1_2 : Int) (a1_3 : Int) (a1_4 : Int) (a1_5 : Int) : Option (Int × Int × Int × Int × Int × Int × Bool) := (impl_GoodAffine.f k a0_0 a0_1 a0_2 a0_3 a0_4 a0_5).bind fun t191 => (if t191 = true then ((impl_GoodAffine.f k a1_0 a1_1 a1_2 a1_3 a1_4 a1_5).bind fun t192 => (impl_MulAffine.j0 k (!t192) a0_0 a0_1 a0_2 a0_3 a0_4 a0_5 a1_0 a1_1 a1_2 a1_3 a1_4 a1_5)) else (impl_MulAffine.j0 k true a0_0 a0_1 a0_2 a0_3 a0_4 a0_5 a1_0 a1_1 a1_2 a1_3 a1_4 a1_5))
theorem impl_MulAffine.mono_l : ∀ k, (∀ y0 y1 y2 y3 y4 y5 y6 y7 y8 y9 y10 y11 y12, LeO (impl_MulAffine.j0 k y0 y1 y2 y3 y4 y5 y6 y7 y8 y9 y10 y11 y12) (impl_MulAffine.j0 (k + 1) y0 y1 y2 y3 y4 y5 y6 y7 y8 y9 y10 y11 y12))
 | 0 => fun _ _ _ _ _ _ _ _ _ _ _ _ _ r h => by simp [impl_MulAffine.j0] at h
 | k + 1 => by
  have ih0 := impl_MulAffine.mono_l k
  ·intro y0 y1 y2 y3 y4 y5 y6 y7 y8 y9 y10 y11 y12
   unfold impl_MulAffine.j0
   repeat' first
   | (with_reducible exact ih0 _ _ _ _ _ _ _ _ _ _ _ _ _)
   | (with_reducible exact impl_FixMul.mono _ _ _)
   | (with_reducible exact impl_GoodAffine.mono _ _ _ _ _ _ _)
   | (with_reducible exact LeO.refl _)
   | (with_reducible exact LeO.none _)
   | (with_reducible refine LeO.ite ?_ ?_)
   | (with_reducible refine LeO.bind ?_ (fun _ => ?_))
   | exact ih0 _ _ _ _ _ _ _ _ _ _ _ _ _
   | exact impl_FixMul.mono _ _ _
   | exact impl_GoodAffine.mono _ _ _ _ _ _ _
   | exact LeO.none _
   | refine LeO.ite ?_ ?_
   | refine LeO.bind ?_ (fun _ => ?_)
theorem impl_MulAffine.mono : ∀ a0 a1 a2 a3 a4 a5 a6 a7 a8 a9 a10 a11 k, LeO (impl_MulAffine.f k a0 a1 a2 a3 a4 a5 a6 a7 a8 a9 a10 a11) (impl_MulAffine.f (k + 1) a0 a1 a2 a3 a4 a5 a6 a7 a8 a9 a10 a11) := by
 intro a0 a1 a2 a3 a4 a5 a6 a7 a8 a9 a10 a11 k
 have ih0 := impl_MulAffine.mono_l k
 unfold impl_MulAffine.f
 repeat' first
   | (with_reducible exact ih0 _ _ _ _ _ _ _ _ _ _ _ _ _)
   | (with_reducible exact impl_FixMul.mono _ _ _)
   | (with_reducible exact impl_GoodAffine.mono _ _ _ _ _ _ _)
   | (with_reducible exact LeO.refl _)
   | (with_reducible exact LeO.none _)
   | (with_reducible refine LeO.ite ?_ ?_)
   | (with_reducible refine LeO.bind ?_ (fun _ => ?_))
   | exact ih0 _ _ _ _ _ _ _ _ _ _ _ _ _
   | exact impl_FixMul.mono _ _ _
   | exact impl_GoodAffine.mono _ _ _ _ _ _ _
   | exact LeO.none _
   | refine LeO.ite ?_ ?_
   | refine LeO.bind ?_ (fun _ => ?_)
def impl_MulAffine.T3 : Bool × List (List Nat × List Nat) := (true, [([], []), ([0], [0]), ([], []), ([2], [2]), ([1, 3], [1, 3]), ([], []), ([5], [5]), ([], []), ([7], [7]), ([6, 8, 4], [6, 8]), ([4, 9], [4, 9]), ([], []), ([11], [11]), ([], []), ([13], [13]), ([12, 14, 9], [12, 14]), ([], []), ([16], [16]), ([], []), ([18], [18]), ([17, 19, 15], [17, 19]), ([15, 20], [15, 20]), ([], []), ([22], [22]), ([], []), ([24], [24]), ([23, 25, 20], [23, 25]), ([], []), ([27], [27]), ([], []), ([29], [29]), ([28, 30, 26], [28, 30]), ([26, 31], [26, 31]), ([], []), ([33], [33]), ([], []), ([35], [35]), ([34, 36, 31], [34, 36]), ([], []), ([38], [38]), ([], []), ([40], [40]), ([39, 41, 37], [39, 41]), ([37, 42], [37, 42]), ([], []), ([44], [44]), ([], []), ([46], [46]), ([45, 47, 42], [45, 47]), ([], []), ([49], [49]), ([], []), ([51], [51]), ([50, 52, 48], [50, 52]), ([48, 53], [48, 53]), ([], []), ([55], [55]), ([54, 56], [54, 56]), ([], []), ([58], [58]), ([], []), ([60], [60]), ([59, 61, 53], [59, 61]), ([], []), ([63], [63]), ([], []), ([65], [65]), ([64, 66, 62], [64, 66]), ([62, 67], [62, 67]), ([], []), ([69], [69]), ([68, 70], [68, 70]), ([10, 21, 32, 43, 57, 71], [10, 21, 32, 43, 57, 71]), ([], []), ([73, 72, 67, 0, 1, 2, 3, 4, 5, 6, 7, 8, 9, 10, 11, 12, 13, 14, 15, 16, 17, 18, 19, 20, 21, 22, 23, 24, 25, 26, 27, 28, 29, 30, 31, 32, 33, 34, 35, 36, 37, 38, 39, 40, 41, 42, 43, 44, 45, 46, 47, 48, 49, 50, 51, 52, 53, 54, 55, 56, 57, 58, 59, 60, 61, 62, 63, 64, 65, 66, 67, 68, 69, 70, 71, 72, 73], [72, 73])])
def impl_MulAffine.B3 : List Nat := [0, 1, 0, 4, 15, 0, 32, 0, 128, 511, 1023, 0, 2048, 0, 8192, 31743, 0, 65536, 0, 262144, 1047551, 2096127, 0, 4194304, 0, 16777216, 65010687, 0, 134217728, 0, 536870912, 2145385471, 4292869119, 0, 8589934592, 0, 34359738368, 133141887999, 0, 274877906944, 0, 1099511627776, 4393749445631, 8791795956735, 0, 17592186044416, 0, 70368744177664, 272674586622975, 0, 562949953421312, 0, 2251799813685248, 8998398864653311, 18005598119394303, 0, 36028797018963968, 144106387685768191, 0, 288230376151711744, 0, 1152921504606846976, 4341461240395070463, 0, 9223372036854775808, 0, 36893488147419103232, 147303727811644095487, 294877680401320508415, 0, 590295810358705651712, 2360913016656790289407, 4722366482869645213695, 0, 18889465931478580854783]
theorem impl_MulAffine.tab3 : rtab .any (opsOf Try.f6 3) = impl_MulAffine.T3 := by kernel_rfl
theorem impl_MulAffine.bits3 : waitsOk impl_MulAffine.T3.2 impl_MulAffine.B3 = true := by kernel_rfl
set_option maxHeartbeats 8000000 in
set_option maxRecDepth 100000 in
theorem impl_MulAffine.calls (k : Nat) (a0_0 : Int) (a0_1 : Int) (a0_2 : Int) (a0_3 : Int) (a0_4 : Int) (a0_5 : Int) (a1_0 : Int) (a1_1 : Int) (a1_2 : Int) (a1_3 : Int) (a1_4 : Int) (a1_5 : Int) (r1 : Int) (r2 : Int) (r3 : Int) (r4 : Int) (r5 : Int) (r6 : Int) (r7 : Bool) (w : World) (h : impl_MulAffine.f k a0_0 a0_1 a0_2 a0_3 a0_4 a0_5 a1_0 a1_1 a1_2 a1_3 a1_4 a1_5 = some (r1, r2, r3, r4, r5, r6, r7)) :
  Calls Try.prog 6 #[.agg #[.int .i64 a0_0, .int .i64 a0_1, .int .i64 a0_2, .int .i64 a0_3, .int .i64 a0_4, .int .i64 a0_5], .agg #[.int .i64 a1_0, .int .i64 a1_1, .int .i64 a1_2, .int .i64 a1_3, .int .i64 a1_4, .int .i64 a1_5]] w fun e w' => e = .returned (.tuple #[.agg #[.int .i64 r1, .int .i64 r2, .int .i64 r3, .int .i64 r4, .int .i64 r5, .int .i64 r6], .bool r7]) ∧ Below w.heap.size w w' := by
 have hu24 := Try.underlying24
 have HB := Aside0.mk (Below.refl w.heap.size w)
 have H : ((impl_GoodAffine.f k a0_0 a0_1 a0_2 a0_3 a0_4 a0_5).bind fun t191 => (if t191 = true then ((impl_GoodAffine.f k a1_0 a1_1 a1_2 a1_3 a1_4 a1_5).bind fun t192 => (impl_MulAffine.j0 k (!t192) a0_0 a0_1 a0_2 a0_3 a0_4 a0_5 a1_0 a1_1 a1_2 a1_3 a1_4 a1_5)) else (impl_MulAffine.j0 k true a0_0 a0_1 a0_2 a0_3 a0_4 a0_5 a1_0 a1_1 a1_2 a1_3 a1_4 a1_5))) = some (r1, r2, r3, r4, r5, r6, r7) := h
 clear h
 have HC3 := Aside0.mk H
 clear H
 go_enter Try.func6, Try.ntmps6
 go_upto_region 1 with (first | ((with_reducible refine gate_dst (N := 2) rfl ?_); refine box_event ?hg (N := 2) ?hd (cs := #[.int .i64 a0_0, .int .i64 a0_1, .int .i64 a0_2, .int .i64 a0_3, .int .i64 a0_4, .int .i64 a0_5]) (t := 24) ?hr ?_; (case hd => rfl); (case hg => rfl); (case hr => first | (go_simp; done) | (go_simp; rfl)); intro gb188 hg w4 hbox hb; have n0_ := Aside0.mk (below_step (by repeat (first | (with_reducible first | exact HB.out | apply below_alloc | apply pw_below_drewN | apply below_drew1) | exact HB.out)) hb); have n1_ := Aside0.mk (hbox); have n2_ := Aside0.mk ((by rw [hg]; exact (below_size (by repeat (first | (with_reducible first | exact HB.out | apply below_alloc | apply pw_below_drewN | apply below_drew1) | exact HB.out))) : w.heap.size ≤ gb188)); have n3_ := Aside0.mk ((by rw [hg]; exact (below_size (by repeat (first | (with_reducible first | exact HB.out | apply below_alloc | apply pw_below_drewN | apply below_drew1) | exact HB.out))) : w.heap.size ≤ gb188)); clear HB; have HB := n0_; have BK188 := n1_; have GW188 := n2_; have GE188 := n3_; clear n0_ n1_ n2_ n3_; clear hb hbox hg) | ((with_reducible refine gate_dst (N := 3) rfl ?_); refine box_event ?hg (N := 3) ?hd (cs := #[.int .i64 a1_0, .int .i64 a1_1, .int .i64 a1_2, .int .i64 a1_3, .int .i64 a1_4, .int .i64 a1_5]) (t := 24) ?hr ?_; (case hd => rfl); (case hg => rfl); (case hr => first | (go_simp; done) | (go_simp; rfl)); intro gb189 hg w5 hbox hb; have n0_ := Aside0.mk (blk_below (g := gb188) (o := .cells #[.int .i64 a0_0, .int .i64 a0_1, .int .i64 a0_2, .int .i64 a0_3, .int .i64 a0_4, .int .i64 a0_5] 24 (0, 0)) (by (with_reducible repeat (first | refine blk_drewN ?_ _ | refine blk_drew ?_ | refine blk_alloc ?_ _)); exact BK188.out) hb); have n1_ := Aside0.mk (below_step (by repeat (first | (with_reducible first | exact HB.out | apply below_alloc | apply pw_below_drewN | apply below_drew1 | refine below_set ?_ GE188.out) | exact HB.out)) hb); have n2_ := Aside0.mk (hbox); have n3_ := Aside0.mk ((by rw [hg]; exact (below_size (by repeat (first | (with_reducible first | exact HB.out | apply below_alloc | apply pw_below_drewN | apply below_drew1 | refine below_set ?_ GE188.out) | exact HB.out))) : w.heap.size ≤ gb189)); have n4_ := Aside0.mk ((by rw [hg]; exact (below_size (by repeat (first | (with_reducible first | exact HB.out | apply below_alloc | apply pw_below_drewN | apply below_drew1 | refine below_set ?_ GE188.out) | exact HB.out))) : w.heap.size ≤ gb189)); have n5_ := Aside0.mk ((by rw [hg]; exact Nat.ne_of_lt (blk_lt (g := gb188) (o := .cells #[.int .i64 a0_0, .int .i64 a0_1, .int .i64 a0_2, .int .i64 a0_3, .int .i64 a0_4, .int .i64 a0_5] 24 (0, 0)) (by (with_reducible repeat (first | refine blk_drewN ?_ _ | refine blk_drew ?_ | refine blk_alloc ?_ _)); exact BK188.out)) : gb188 ≠ gb189)); have n6_ := Aside0.mk ((by rw [hg]; exact Nat.ne_of_gt (blk_lt (g := gb188) (o := .cells #[.int .i64 a0_0, .int .i64 a0_1, .int .i64 a0_2, .int .i64 a0_3, .int .i64 a0_4, .int .i64 a0_5] 24 (0, 0)) (by (with_reducible repeat (first | refine blk_drewN ?_ _ | refine blk_drew ?_ | refine blk_alloc ?_ _)); exact BK188.out)) : gb189 ≠ gb188)); clear BK188; clear HB; have BK188 := n0_; have HB := n1_; have BK189 := n2_; have GW189 := n3_; have GE189 := n4_; have NB188_189 := n5_; have NB189_188 := n6_; clear n0_ n1_ n2_ n3_ n4_ n5_ n6_; clear hb hbox hg) | ((with_reducible refine gate_dst (N := 4) rfl ?_); refine box_event ?hg (N := 4) ?hd (cs := #[.int .i64 0, .int .i64 0, .int .i64 0, .int .i64 0, .int .i64 0, .int .i64 0]) (t := 24) ?hr ?_; (case hd => rfl); (case hg => rfl); (case hr => first | (go_simp; done) | (go_simp; rfl)); intro gb190 hg w6 hbox hb; have n0_ := Aside0.mk (blk_below (g := gb188) (o := .cells #[.int .i64 a0_0, .int .i64 a0_1, .int .i64 a0_2, .int .i64 a0_3, .int .i64 a0_4, .int .i64 a0_5] 24 (0, 0)) (by (with_reducible repeat (first | refine blk_drewN ?_ _ | refine blk_drew ?_ | refine blk_alloc ?_ _)); exact BK188.out) hb); have n1_ := Aside0.mk (blk_below (g := gb189) (o := .cells #[.int .i64 a1_0, .int .i64 a1_1, .int .i64 a1_2, .int .i64 a1_3, .int .i64 a1_4, .int .i64 a1_5] 24 (0, 0)) (by (with_reducible repeat (first | refine blk_drewN ?_ _ | refine blk_drew ?_ | refine blk_alloc ?_ _)); exact BK189.out) hb); have n2_ := Aside0.mk (below_step (by repeat (first | (with_reducible first | exact HB.out | apply below_alloc | apply pw_below_drewN | apply below_drew1 | refine below_set ?_ GE188.out | refine below_set ?_ GE189.out) | exact HB.out)) hb); have n3_ := Aside0.mk (hbox); have n4_ := Aside0.mk ((by rw [hg]; exact (below_size (by repeat (first | (with_reducible first | exact HB.out | apply below_alloc | apply pw_below_drewN | apply below_drew1 | refine below_set ?_ GE188.out | refine below_set ?_ GE189.out) | exact HB.out))) : w.heap.size ≤ gb190)); have n5_ := Aside0.mk ((by rw [hg]; exact (below_size (by repeat (first | (with_reducible first | exact HB.out | apply below_alloc | apply pw_below_drewN | apply below_drew1 | refine below_set ?_ GE188.out | refine below_set ?_ GE189.out) | exact HB.out))) : w.heap.size ≤ gb190)); have n6_ := Aside0.mk ((by rw [hg]; exact Nat.ne_of_lt (blk_lt (g := gb188) (o := .cells #[.int .i64 a0_0, .int .i64 a0_1, .int .i64 a0_2, .int .i64 a0_3, .int .i64 a0_4, .int .i64 a0_5] 24 (0, 0)) (by (with_reducible repeat (first | refine blk_drewN ?_ _ | refine blk_drew ?_ | refine blk_alloc ?_ _)); exact BK188.out)) : gb188 ≠ gb190)); have n7_ := Aside0.mk ((by rw [hg]; exact Nat.ne_of_gt (blk_lt (g := gb188) (o := .cells #[.int .i64 a0_0, .int .i64 a0_1, .int .i64 a0_2, .int .i64 a0_3, .int .i64 a0_4, .int .i64 a0_5] 24 (0, 0)) (by (with_reducible repeat (first | refine blk_drewN ?_ _ | refine blk_drew ?_ | refine blk_alloc ?_ _)); exact BK188.out)) : gb190 ≠ gb188)); have n8_ := Aside0.mk ((by rw [hg]; exact Nat.ne_of_lt (blk_lt (g := gb189) (o := .cells #[.int .i64 a1_0, .int .i64 a1_1, .int .i64 a1_2, .int .i64 a1_3, .int .i64 a1_4, .int .i64 a1_5] 24 (0, 0)) (by (with_reducible repeat (first | refine blk_drewN ?_ _ | refine blk_drew ?_ | refine blk_alloc ?_ _)); exact BK189.out)) : gb189 ≠ gb190)); have n9_ := Aside0.mk ((by rw [hg]; exact Nat.ne_of_gt (blk_lt (g := gb189) (o := .cells #[.int .i64 a1_0, .int .i64 a1_1, .int .i64 a1_2, .int .i64 a1_3, .int .i64 a1_4, .int .i64 a1_5] 24 (0, 0)) (by (with_reducible repeat (first | refine blk_drewN ?_ _ | refine blk_drew ?_ | refine blk_alloc ?_ _)); exact BK189.out)) : gb190 ≠ gb189)); clear BK188; clear BK189; clear HB; have BK188 := n0_; have BK189 := n1_; have HB := n2_; have BK190 := n3_; have GW190 := n4_; have GE190 := n5_; have NB188_190 := n6_; have NB190_188 := n7_; have NB189_190 := n8_; have NB190_189 := n9_; clear n0_ n1_ n2_ n3_ n4_ n5_ n6_ n7_ n8_ n9_; clear hb hbox hg))
 (try simp only [Act.put, List.setIfInBounds_toArray, List.set_cons_zero, List.set_cons_succ])
 go_cut [14] (fun v14 wc => ∃ (kq : Nat) (x14_2 : Bool), v14 = .bool x14_2 ∧ Aside0 (impl_MulAffine.j0 kq x14_2 a0_0 a0_1 a0_2 a0_3 a0_4 a0_5 a1_0 a1_1 a1_2 a1_3 a1_4 a1_5 = some (r1, r2, r3, r4, r5, r6, r7)) ∧ Aside0 (kq ≤ k) ∧ Aside0 (wc.heap[gb188]? = some (.cells #[.int .i64 a0_0, .int .i64 a0_1, .int .i64 a0_2, .int .i64 a0_3, .int .i64 a0_4, .int .i64 a0_5] 24 (0, 0))) ∧ Aside0 (wc.heap[gb189]? = some (.cells #[.int .i64 a1_0, .int .i64 a1_1, .int .i64 a1_2, .int .i64 a1_3, .int .i64 a1_4, .int .i64 a1_5] 24 (0, 0))) ∧ Aside0 (wc.heap[gb190]? = some (.cells #[.int .i64 0, .int .i64 0, .int .i64 0, .int .i64 0, .int .i64 0, .int .i64 0] 24 (0, 0))) ∧ Aside0 (Below w.heap.size w wc))
 case first =>
  have H := HC3.out
  clear HC3
  replace H := Option.bind_eq_some_iff.mp H
  obtain ⟨t191, A70, H⟩ := H
  replace H : (if t191 = true then ((impl_GoodAffine.f k a1_0 a1_1 a1_2 a1_3 a1_4 a1_5).bind fun t192 => (impl_MulAffine.j0 k (!t192) a0_0 a0_1 a0_2 a0_3 a0_4 a0_5 a1_0 a1_1 a1_2 a1_3 a1_4 a1_5)) else (impl_MulAffine.j0 k true a0_0 a0_1 a0_2 a0_3 a0_4 a0_5 a1_0 a1_1 a1_2 a1_3 a1_4 a1_5)) = some (r1, r2, r3, r4, r5, r6, r7) := H
  have A7 := Aside0.mk A70
  clear A70
  by_cases c8 : t191 = true
  ·subst c8
   have H1 : ((impl_GoodAffine.f k a1_0 a1_1 a1_2 a1_3 a1_4 a1_5).bind fun t192 => (impl_MulAffine.j0 k (!t192) a0_0 a0_1 a0_2 a0_3 a0_4 a0_5 a1_0 a1_1 a1_2 a1_3 a1_4 a1_5)) = some (r1, r2, r3, r4, r5, r6, r7) := by rw [if_pos rfl] at H; exact H
   clear H
   have H := H1
   clear H1
   replace H := Option.bind_eq_some_iff.mp H
   obtain ⟨t192, A90, H⟩ := H
   replace H : (impl_MulAffine.j0 k (!t192) a0_0 a0_1 a0_2 a0_3 a0_4 a0_5 a1_0 a1_1 a1_2 a1_3 a1_4 a1_5) = some (r1, r2, r3, r4, r5, r6, r7) := H
   have A9 := Aside0.mk A90
   clear A90
   have H' := Aside0.mk H
   clear H
   have hnb10 := NB188_189.out
   have hnc10 := NB189_188.out
   have hnb11 := NB188_190.out
   have hnc11 := NB190_188.out
   have hcz12_0 : w6.cell? ⟨gb188, 0, none⟩ = some (.int .i64 a0_0) := (blk_cell BK188.out 0).trans rfl
   have hcz12_1 : w6.cell? ⟨gb188, 1, none⟩ = some (.int .i64 a0_1) := (blk_cell BK188.out 1).trans rfl
   have hcz12_2 : w6.cell? ⟨gb188, 2, none⟩ = some (.int .i64 a0_2) := (blk_cell BK188.out 2).trans rfl
   have hcz12_3 : w6.cell? ⟨gb188, 3, none⟩ = some (.int .i64 a0_3) := (blk_cell BK188.out 3).trans rfl
   have hcz12_4 : w6.cell? ⟨gb188, 4, none⟩ = some (.int .i64 a0_4) := (blk_cell BK188.out 4).trans rfl
   have hcz12_5 : w6.cell? ⟨gb188, 5, none⟩ = some (.int .i64 a0_5) := (blk_cell BK188.out 5).trans rfl
   have hfz12_0 := blk_frozen BK188.out 0
   have hfz12_1 := blk_frozen BK188.out 1
   have hfz12_2 := blk_frozen BK188.out 2
   have hfz12_3 := blk_frozen BK188.out 3
   have hfz12_4 := blk_frozen BK188.out 4
   have hfz12_5 := blk_frozen BK188.out 5
   go_wp2_with (first | ((with_reducible refine gate_callee (f := 10) rfl ?_); refine goesL_ (some 8) rfl rfl Try.func10 (by kernel_rfl) rfl #[.agg #[.int .i64 a0_0, .int .i64 a0_1, .int .i64 a0_2, .int .i64 a0_3, .int .i64 a0_4, .int .i64 a0_5]] rfl (by (try simp only [List.map_toArray, List.map_cons, List.map_nil]); first | done | rfl | (simp only [List.length_drop, List.length_take]; rfl)) ?_; (with_reducible refine (impl_GoodAffine.calls k a0_0 a0_1 a0_2 a0_3 a0_4 a0_5 true _ A7.out).mono ?_); rintro e w13 ⟨rfl, hb⟩; refine ⟨_, rfl, ?_⟩; have n0_ := Aside0.mk (blk_below (g := gb188) (o := .cells #[.int .i64 a0_0, .int .i64 a0_1, .int .i64 a0_2, .int .i64 a0_3, .int .i64 a0_4, .int .i64 a0_5] 24 (0, 0)) (by (with_reducible repeat (first | refine blk_drewN ?_ _ | refine blk_drew ?_ | refine blk_alloc ?_ _)); exact BK188.out) hb); have n1_ := Aside0.mk (blk_below (g := gb189) (o := .cells #[.int .i64 a1_0, .int .i64 a1_1, .int .i64 a1_2, .int .i64 a1_3, .int .i64 a1_4, .int .i64 a1_5] 24 (0, 0)) (by (with_reducible repeat (first | refine blk_drewN ?_ _ | refine blk_drew ?_ | refine blk_alloc ?_ _)); exact BK189.out) hb); have n2_ := Aside0.mk (blk_below (g := gb190) (o := .cells #[.int .i64 0, .int .i64 0, .int .i64 0, .int .i64 0, .int .i64 0, .int .i64 0] 24 (0, 0)) (by (with_reducible repeat (first | refine blk_drewN ?_ _ | refine blk_drew ?_ | refine blk_alloc ?_ _)); exact BK190.out) hb); have n3_ := Aside0.mk (below_step (by repeat (first | (with_reducible first | exact HB.out | apply below_alloc | apply pw_below_drewN | apply below_drew1 | refine below_set ?_ GE188.out | refine below_set ?_ GE189.out | refine below_set ?_ GE190.out) | exact HB.out)) hb); clear BK188; clear BK189; clear BK190; clear HB; have BK188 := n0_; have BK189 := n1_; have BK190 := n2_; have HB := n3_; clear n0_ n1_ n2_ n3_; (try clear hb); (try clear hb2); (try clear hk); (try clear hi); have hnb14 := NB189_190.out; have hnc14 := NB190_189.out; have hcz15_0 : w13.cell? ⟨gb189, 0, none⟩ = some (.int .i64 a1_0) := (blk_cell BK189.out 0).trans rfl; have hcz15_1 : w13.cell? ⟨gb189, 1, none⟩ = some (.int .i64 a1_1) := (blk_cell BK189.out 1).trans rfl; have hcz15_2 : w13.cell? ⟨gb189, 2, none⟩ = some (.int .i64 a1_2) := (blk_cell BK189.out 2).trans rfl; have hcz15_3 : w13.cell? ⟨gb189, 3, none⟩ = some (.int .i64 a1_3) := (blk_cell BK189.out 3).trans rfl; have hcz15_4 : w13.cell? ⟨gb189, 4, none⟩ = some (.int .i64 a1_4) := (blk_cell BK189.out 4).trans rfl; have hcz15_5 : w13.cell? ⟨gb189, 5, none⟩ = some (.int .i64 a1_5) := (blk_cell BK189.out 5).trans rfl; have hfz15_0 := blk_frozen BK189.out 0; have hfz15_1 := blk_frozen BK189.out 1; have hfz15_2 := blk_frozen BK189.out 2; have hfz15_3 := blk_frozen BK189.out 3; have hfz15_4 := blk_frozen BK189.out 4; have hfz15_5 := blk_frozen BK189.out 5) | (go_at_call 10; (with_reducible refine (impl_GoodAffine.calls k a1_0 a1_1 a1_2 a1_3 a1_4 a1_5 t192 _ A9.out).mono ?_); rintro e w16 ⟨rfl, hb⟩; have n0_ := Aside0.mk (blk_below (g := gb188) (o := .cells #[.int .i64 a0_0, .int .i64 a0_1, .int .i64 a0_2, .int .i64 a0_3, .int .i64 a0_4, .int .i64 a0_5] 24 (0, 0)) (by (with_reducible repeat (first | refine blk_drewN ?_ _ | refine blk_drew ?_ | refine blk_alloc ?_ _)); exact BK188.out) hb); have n1_ := Aside0.mk (blk_below (g := gb189) (o := .cells #[.int .i64 a1_0, .int .i64 a1_1, .int .i64 a1_2, .int .i64 a1_3, .int .i64 a1_4, .int .i64 a1_5] 24 (0, 0)) (by (with_reducible repeat (first | refine blk_drewN ?_ _ | refine blk_drew ?_ | refine blk_alloc ?_ _)); exact BK189.out) hb); have n2_ := Aside0.mk (blk_below (g := gb190) (o := .cells #[.int .i64 0, .int .i64 0, .int .i64 0, .int .i64 0, .int .i64 0, .int .i64 0] 24 (0, 0)) (by (with_reducible repeat (first | refine blk_drewN ?_ _ | refine blk_drew ?_ | refine blk_alloc ?_ _)); exact BK190.out) hb); have n3_ := Aside0.mk (below_step (by repeat (first | (with_reducible first | exact HB.out | apply below_alloc | apply pw_below_drewN | apply below_drew1 | refine below_set ?_ GE188.out | refine below_set ?_ GE189.out | refine below_set ?_ GE190.out) | exact HB.out)) hb); clear BK188; clear BK189; clear BK190; clear HB; have BK188 := n0_; have BK189 := n1_; have BK190 := n2_; have HB := n3_; clear n0_ n1_ n2_ n3_; (try clear hb); (try clear hb2); (try clear hk); (try clear hi)))
   go_meet
   case rel => exact ⟨_, (!t192), (by first | rfl | (simp; done) | (simp [*]; done) | (simp [wrap64]; done)), H', ⟨by first | omega | exact Nat.le_refl _⟩, ⟨by (with_reducible repeat (first | refine blk_drewN ?_ _ | refine blk_drew ?_ | refine blk_alloc ?_ _)); exact BK188.out⟩, ⟨by (with_reducible repeat (first | refine blk_drewN ?_ _ | refine blk_drew ?_ | refine blk_alloc ?_ _)); exact BK189.out⟩, ⟨by (with_reducible repeat (first | refine blk_drewN ?_ _ | refine blk_drew ?_ | refine blk_alloc ?_ _)); exact BK190.out⟩, ⟨by repeat (first | (with_reducible first | exact HB.out | apply below_alloc | apply pw_below_drewN | apply below_drew1 | refine below_set ?_ GE188.out | refine below_set ?_ GE189.out | refine below_set ?_ GE190.out) | exact HB.out)⟩⟩
  ·replace c8 := Bool.eq_false_iff.mpr c8
   subst c8
   have H1 : (impl_MulAffine.j0 k true a0_0 a0_1 a0_2 a0_3 a0_4 a0_5 a1_0 a1_1 a1_2 a1_3 a1_4 a1_5) = some (r1, r2, r3, r4, r5, r6, r7) := by rw [if_neg (show ¬ (false = true) by decide)] at H; exact H
   clear H
   have H := H1
   clear H1
   have H' := Aside0.mk H
   clear H
   have hnb17 := NB188_189.out
   have hnc17 := NB189_188.out
   have hnb18 := NB188_190.out
   have hnc18 := NB190_188.out
   have hcz19_0 : w6.cell? ⟨gb188, 0, none⟩ = some (.int .i64 a0_0) := (blk_cell BK188.out 0).trans rfl
   have hcz19_1 : w6.cell? ⟨gb188, 1, none⟩ = some (.int .i64 a0_1) := (blk_cell BK188.out 1).trans rfl
   have hcz19_2 : w6.cell? ⟨gb188, 2, none⟩ = some (.int .i64 a0_2) := (blk_cell BK188.out 2).trans rfl
   have hcz19_3 : w6.cell? ⟨gb188, 3, none⟩ = some (.int .i64 a0_3) := (blk_cell BK188.out 3).trans rfl
   have hcz19_4 : w6.cell? ⟨gb188, 4, none⟩ = some (.int .i64 a0_4) := (blk_cell BK188.out 4).trans rfl
   have hcz19_5 : w6.cell? ⟨gb188, 5, none⟩ = some (.int .i64 a0_5) := (blk_cell BK188.out 5).trans rfl
   have hfz19_0 := blk_frozen BK188.out 0
   have hfz19_1 := blk_frozen BK188.out 1
   have hfz19_2 := blk_frozen BK188.out 2
   have hfz19_3 := blk_frozen BK188.out 3
   have hfz19_4 := blk_frozen BK188.out 4
   have hfz19_5 := blk_frozen BK188.out 5
   go_wp2_with (first | ((with_reducible refine gate_callee (f := 10) rfl ?_); refine goesL_ (some 8) rfl rfl Try.func10 (by kernel_rfl) rfl #[.agg #[.int .i64 a0_0, .int .i64 a0_1, .int .i64 a0_2, .int .i64 a0_3, .int .i64 a0_4, .int .i64 a0_5]] rfl (by (try simp only [List.map_toArray, List.map_cons, List.map_nil]); first | done | rfl | (simp only [List.length_drop, List.length_take]; rfl)) ?_; (with_reducible refine (impl_GoodAffine.calls k a0_0 a0_1 a0_2 a0_3 a0_4 a0_5 false _ A7.out).mono ?_); rintro e w20 ⟨rfl, hb⟩; refine ⟨_, rfl, ?_⟩; have n0_ := Aside0.mk (blk_below (g := gb188) (o := .cells #[.int .i64 a0_0, .int .i64 a0_1, .int .i64 a0_2, .int .i64 a0_3, .int .i64 a0_4, .int .i64 a0_5] 24 (0, 0)) (by (with_reducible repeat (first | refine blk_drewN ?_ _ | refine blk_drew ?_ | refine blk_alloc ?_ _)); exact BK188.out) hb); have n1_ := Aside0.mk (blk_below (g := gb189) (o := .cells #[.int .i64 a1_0, .int .i64 a1_1, .int .i64 a1_2, .int .i64 a1_3, .int .i64 a1_4, .int .i64 a1_5] 24 (0, 0)) (by (with_reducible repeat (first | refine blk_drewN ?_ _ | refine blk_drew ?_ | refine blk_alloc ?_ _)); exact BK189.out) hb); have n2_ := Aside0.mk (blk_below (g := gb190) (o := .cells #[.int .i64 0, .int .i64 0, .int .i64 0, .int .i64 0, .int .i64 0, .int .i64 0] 24 (0, 0)) (by (with_reducible repeat (first | refine blk_drewN ?_ _ | refine blk_drew ?_ | refine blk_alloc ?_ _)); exact BK190.out) hb); have n3_ := Aside0.mk (below_step (by repeat (first | (with_reducible first | exact HB.out | apply below_alloc | apply pw_below_drewN | apply below_drew1 | refine below_set ?_ GE188.out | refine below_set ?_ GE189.out | refine below_set ?_ GE190.out) | exact HB.out)) hb); clear BK188; clear BK189; clear BK190; clear HB; have BK188 := n0_; have BK189 := n1_; have BK190 := n2_; have HB := n3_; clear n0_ n1_ n2_ n3_; (try clear hb); (try clear hb2); (try clear hk); (try clear hi)))
   go_meet
   case rel => exact ⟨_, (true), (by first | rfl | (simp; done) | (simp [*]; done) | (simp [wrap64]; done)), H', ⟨by first | omega | exact Nat.le_refl _⟩, ⟨by (with_reducible repeat (first | refine blk_drewN ?_ _ | refine blk_drew ?_ | refine blk_alloc ?_ _)); exact BK188.out⟩, ⟨by (with_reducible repeat (first | refine blk_drewN ?_ _ | refine blk_drew ?_ | refine blk_alloc ?_ _)); exact BK189.out⟩, ⟨by (with_reducible repeat (first | refine blk_drewN ?_ _ | refine blk_drew ?_ | refine blk_alloc ?_ _)); exact BK190.out⟩, ⟨by repeat (first | (with_reducible first | exact HB.out | apply below_alloc | apply pw_below_drewN | apply below_drew1 | refine below_set ?_ GE188.out | refine below_set ?_ GE189.out | refine below_set ?_ GE190.out) | exact HB.out)⟩⟩
 case rest =>
  clear HC3
  (try clear c1);(try clear p2);(try clear c6);(try clear c8);(try clear c10);(try clear c11);(try clear c14);(try clear c17);(try clear c18);(try clear hcz12_0);(try clear hcz12_1);(try clear hcz12_2);(try clear hcz12_3);(try clear hcz12_4);(try clear hcz12_5);(try clear hcz15_0);(try clear hcz15_1);(try clear hcz15_2);(try clear hcz15_3);(try clear hcz15_4);(try clear hcz15_5);(try clear hcz19_0);(try clear hcz19_1);(try clear hcz19_2);(try clear hcz19_3);(try clear hcz19_4);(try clear hcz19_5);(try clear hfz12_0);(try clear hfz12_1);(try clear hfz12_2);(try clear hfz12_3);(try clear hfz12_4);(try clear hfz12_5);(try clear hfz15_0);(try clear hfz15_1);(try clear hfz15_2);(try clear hfz15_3);(try clear hfz15_4);(try clear hfz15_5);(try clear hfz19_0);(try clear hfz19_1);(try clear hfz19_2);(try clear hfz19_3);(try clear hfz19_4);(try clear hfz19_5)
  obtain ⟨kq, x14_2, rfl, HA, HJ2, BK188, BK189, BK190, HB⟩ := hcut
  cases kq with
  | zero => exact absurd HA.out (by simp [impl_MulAffine.j0])
  | succ kj2 =>
   have H := HA.out
   clear HA
   simp only [impl_MulAffine.j0] at H
   by_cases c21 : x14_2 = true
   ·subst c21
    have H1 : (some (0, 0, 0, 0, 0, 0, false)) = some (r1, r2, r3, r4, r5, r6, r7) := by rw [if_pos rfl] at H; exact H
    clear H
    have H := H1
    clear H1
    simp only [Option.some.injEq, Prod.mk.injEq] at H
    obtain ⟨rfl, rfl, rfl, rfl, rfl, rfl, rfl⟩ := H
    have hnb22 := NB190_188.out
    have hnc22 := NB188_190.out
    have hnb23 := NB190_189.out
    have hnc23 := NB189_190.out
    have hcz24_0 : wc.cell? ⟨gb190, 0, none⟩ = some (.int .i64 0) := (blk_cell BK190.out 0).trans rfl
    have hcz24_1 : wc.cell? ⟨gb190, 1, none⟩ = some (.int .i64 0) := (blk_cell BK190.out 1).trans rfl
    have hcz24_2 : wc.cell? ⟨gb190, 2, none⟩ = some (.int .i64 0) := (blk_cell BK190.out 2).trans rfl
    have hcz24_3 : wc.cell? ⟨gb190, 3, none⟩ = some (.int .i64 0) := (blk_cell BK190.out 3).trans rfl
    have hcz24_4 : wc.cell? ⟨gb190, 4, none⟩ = some (.int .i64 0) := (blk_cell BK190.out 4).trans rfl
    have hcz24_5 : wc.cell? ⟨gb190, 5, none⟩ = some (.int .i64 0) := (blk_cell BK190.out 5).trans rfl
    have hfz24_0 := blk_frozen BK190.out 0
    have hfz24_1 := blk_frozen BK190.out 1
    have hfz24_2 := blk_frozen BK190.out 2
    have hfz24_3 := blk_frozen BK190.out 3
    have hfz24_4 := blk_frozen BK190.out 4
    have hfz24_5 := blk_frozen BK190.out 5
    go_wp2
    refine bodyPost_ret (results_ct rfl _ _ gb190 24 #[.int .i64 0, .int .i64 0, .int .i64 0, .int .i64 0, .int .i64 0, .int .i64 0] (0, 0) _ rfl (by (with_reducible repeat (first | refine blk_drewN ?_ _ | refine blk_drew ?_ | refine blk_alloc ?_ _)); refine blk_put (cs := #[.int .i64 0, .int .i64 0, .int .i64 0, .int .i64 0, .int .i64 0, .int .i64 0]) ?_ 5 _ rfl; (with_reducible repeat (first | refine blk_drewN ?_ _ | refine blk_drew ?_ | refine blk_alloc ?_ _)); refine blk_put (cs := #[.int .i64 0, .int .i64 0, .int .i64 0, .int .i64 0, .int .i64 0, .int .i64 0]) ?_ 4 _ rfl; (with_reducible repeat (first | refine blk_drewN ?_ _ | refine blk_drew ?_ | refine blk_alloc ?_ _)); refine blk_put (cs := #[.int .i64 0, .int .i64 0, .int .i64 0, .int .i64 0, .int .i64 0, .int .i64 0]) ?_ 3 _ rfl; (with_reducible repeat (first | refine blk_drewN ?_ _ | refine blk_drew ?_ | refine blk_alloc ?_ _)); refine blk_put (cs := #[.int .i64 0, .int .i64 0, .int .i64 0, .int .i64 0, .int .i64 0, .int .i64 0]) ?_ 2 _ rfl; (with_reducible repeat (first | refine blk_drewN ?_ _ | refine blk_drew ?_ | refine blk_alloc ?_ _)); refine blk_put (cs := #[.int .i64 0, .int .i64 0, .int .i64 0, .int .i64 0, .int .i64 0, .int .i64 0]) ?_ 1 _ rfl; (with_reducible repeat (first | refine blk_drewN ?_ _ | refine blk_drew ?_ | refine blk_alloc ?_ _)); refine blk_put (cs := #[.int .i64 0, .int .i64 0, .int .i64 0, .int .i64 0, .int .i64 0, .int .i64 0]) ?_ 0 _ rfl; (with_reducible repeat (first | refine blk_drewN ?_ _ | refine blk_drew ?_ | refine blk_alloc ?_ _)); exact BK190.out) Try.underlying24 rfl (by kernel_rfl)) rfl ?_
    exact ⟨by first | rfl | (simp [errW_none, errW_some] <;> rfl) | (simp [*, errW_none, errW_some] <;> rfl), by repeat (first | (with_reducible first | exact HB.out | apply below_alloc | apply pw_below_drewN | apply below_drew1 | refine below_set ?_ GE188.out | refine below_set ?_ GE189.out | refine below_set ?_ GE190.out) | exact HB.out)⟩
   ·replace c21 := Bool.eq_false_iff.mpr c21
    subst c21
    have H1 : ((impl_FixMul.f kj2 a0_0 a1_0).bind fun t193 => ((impl_FixMul.f kj2 a0_2 a1_1).bind fun t194 => ((impl_FixMul.f kj2 a0_1 a1_0).bind fun t195 => ((impl_FixMul.f kj2 a0_3 a1_1).bind fun t196 => ((impl_FixMul.f kj2 a0_0 a1_2).bind fun t197 => ((impl_FixMul.f kj2 a0_2 a1_3).bind fun t198 => ((impl_FixMul.f kj2 a0_1 a1_2).bind fun t199 => ((impl_FixMul.f kj2 a0_3 a1_3).bind fun t200 => ((impl_FixMul.f kj2 a0_0 a1_4).bind fun t201 => ((impl_FixMul.f kj2 a0_2 a1_5).bind fun t202 => ((impl_FixMul.f kj2 a0_1 a1_4).bind fun t203 => ((impl_FixMul.f kj2 a0_3 a1_5).bind fun t204 => ((impl_GoodAffine.f kj2 (wrap64 (t193 + t194)) (wrap64 (t195 + t196)) (wrap64 (t197 + t198)) (wrap64 (t199 + t200)) (wrap64 ((wrap64 (t201 + t202)) + a0_4)) (wrap64 ((wrap64 (t203 + t204)) + a0_5))).bind fun t206 => (if t206 = true then (some (wrap64 (t193 + t194), wrap64 (t195 + t196), wrap64 (t197 + t198), wrap64 (t199 + t200), wrap64 ((wrap64 (t201 + t202)) + a0_4), wrap64 ((wrap64 (t203 + t204)) + a0_5), true)) else (some (0, 0, 0, 0, 0, 0, false)))))))))))))))) = some (r1, r2, r3, r4, r5, r6, r7) := by rw [if_neg (show ¬ (false = true) by decide)] at H; exact H
    clear H
    have H := H1
    clear H1
    replace H := Option.bind_eq_some_iff.mp H
    obtain ⟨t193, A250, H⟩ := H
    replace H : ((impl_FixMul.f kj2 a0_2 a1_1).bind fun t194 => ((impl_FixMul.f kj2 a0_1 a1_0).bind fun t195 => ((impl_FixMul.f kj2 a0_3 a1_1).bind fun t196 => ((impl_FixMul.f kj2 a0_0 a1_2).bind fun t197 => ((impl_FixMul.f kj2 a0_2 a1_3).bind fun t198 => ((impl_FixMul.f kj2 a0_1 a1_2).bind fun t199 => ((impl_FixMul.f kj2 a0_3 a1_3).bind fun t200 => ((impl_FixMul.f kj2 a0_0 a1_4).bind fun t201 => ((impl_FixMul.f kj2 a0_2 a1_5).bind fun t202 => ((impl_FixMul.f kj2 a0_1 a1_4).bind fun t203 => ((impl_FixMul.f kj2 a0_3 a1_5).bind fun t204 => ((impl_GoodAffine.f kj2 (wrap64 (t193 + t194)) (wrap64 (t195 + t196)) (wrap64 (t197 + t198)) (wrap64 (t199 + t200)) (wrap64 ((wrap64 (t201 + t202)) + a0_4)) (wrap64 ((wrap64 (t203 + t204)) + a0_5))).bind fun t206 => (if t206 = true then (some (wrap64 (t193 + t194), wrap64 (t195 + t196), wrap64 (t197 + t198), wrap64 (t199 + t200), wrap64 ((wrap64 (t201 + t202)) + a0_4), wrap64 ((wrap64 (t203 + t204)) + a0_5), true)) else (some (0, 0, 0, 0, 0, 0, false))))))))))))))) = some (r1, r2, r3, r4, r5, r6, r7) := H
    have A25 := Aside0.mk A250
    clear A250
    replace H := Option.bind_eq_some_iff.mp H
    obtain ⟨t194, A260, H⟩ := H
    replace H : ((impl_FixMul.f kj2 a0_1 a1_0).bind fun t195 => ((impl_FixMul.f kj2 a0_3 a1_1).bind fun t196 => ((impl_FixMul.f kj2 a0_0 a1_2).bind fun t197 => ((impl_FixMul.f kj2 a0_2 a1_3).bind fun t198 => ((impl_FixMul.f kj2 a0_1 a1_2).bind fun t199 => ((impl_FixMul.f kj2 a0_3 a1_3).bind fun t200 => ((impl_FixMul.f kj2 a0_0 a1_4).bind fun t201 => ((impl_FixMul.f kj2 a0_2 a1_5).bind fun t202 => ((impl_FixMul.f kj2 a0_1 a1_4).bind fun t203 => ((impl_FixMul.f kj2 a0_3 a1_5).bind fun t204 => ((impl_GoodAffine.f kj2 (wrap64 (t193 + t194)) (wrap64 (t195 + t196)) (wrap64 (t197 + t198)) (wrap64 (t199 + t200)) (wrap64 ((wrap64 (t201 + t202)) + a0_4)) (wrap64 ((wrap64 (t203 + t204)) + a0_5))).bind fun t206 => (if t206 = true then (some (wrap64 (t193 + t194), wrap64 (t195 + t196), wrap64 (t197 + t198), wrap64 (t199 + t200), wrap64 ((wrap64 (t201 + t202)) + a0_4), wrap64 ((wrap64 (t203 + t204)) + a0_5), true)) else (some (0, 0, 0, 0, 0, 0, false)))))))))))))) = some (r1, r2, r3, r4, r5, r6, r7) := H
    have A26 := Aside0.mk A260
    clear A260
    replace H := Option.bind_eq_some_iff.mp H
    obtain ⟨t195, A270, H⟩ := H
    replace H : ((impl_FixMul.f kj2 a0_3 a1_1).bind fun t196 => ((impl_FixMul.f kj2 a0_0 a1_2).bind fun t197 => ((impl_FixMul.f kj2 a0_2 a1_3).bind fun t198 => ((impl_FixMul.f kj2 a0_1 a1_2).bind fun t199 => ((impl_FixMul.f kj2 a0_3 a1_3).bind fun t200 => ((impl_FixMul.f kj2 a0_0 a1_4).bind fun t201 => ((impl_FixMul.f kj2 a0_2 a1_5).bind fun t202 => ((impl_FixMul.f kj2 a0_1 a1_4).bind fun t203 => ((impl_FixMul.f kj2 a0_3 a1_5).bind fun t204 => ((impl_GoodAffine.f kj2 (wrap64 (t193 + t194)) (wrap64 (t195 + t196)) (wrap64 (t197 + t198)) (wrap64 (t199 + t200)) (wrap64 ((wrap64 (t201 + t202)) + a0_4)) (wrap64 ((wrap64 (t203 + t204)) + a0_5))).bind fun t206 => (if t206 = true then (some (wrap64 (t193 + t194), wrap64 (t195 + t196), wrap64 (t197 + t198), wrap64 (t199 + t200), wrap64 ((wrap64 (t201 + t202)) + a0_4), wrap64 ((wrap64 (t203 + t204)) + a0_5), true)) else (some (0, 0, 0, 0, 0, 0, false))))))))))))) = some (r1, r2, r3, r4, r5, r6, r7) := H
    have A27 := Aside0.mk A270
    clear A270
    replace H := Option.bind_eq_some_iff.mp H
    obtain ⟨t196, A280, H⟩ := H
    replace H : ((impl_FixMul.f kj2 a0_0 a1_2).bind fun t197 => ((impl_FixMul.f kj2 a0_2 a1_3).bind fun t198 => ((impl_FixMul.f kj2 a0_1 a1_2).bind fun t199 => ((impl_FixMul.f kj2 a0_3 a1_3).bind fun t200 => ((impl_FixMul.f kj2 a0_0 a1_4).bind fun t201 => ((impl_FixMul.f kj2 a0_2 a1_5).bind fun t202 => ((impl_FixMul.f kj2 a0_1 a1_4).bind fun t203 => ((impl_FixMul.f kj2 a0_3 a1_5).bind fun t204 => ((impl_GoodAffine.f kj2 (wrap64 (t193 + t194)) (wrap64 (t195 + t196)) (wrap64 (t197 + t198)) (wrap64 (t199 + t200)) (wrap64 ((wrap64 (t201 + t202)) + a0_4)) (wrap64 ((wrap64 (t203 + t204)) + a0_5))).bind fun t206 => (if t206 = true then (some (wrap64 (t193 + t194), wrap64 (t195 + t196), wrap64 (t197 + t198), wrap64 (t199 + t200), wrap64 ((wrap64 (t201 + t202)) + a0_4), wrap64 ((wrap64 (t203 + t204)) + a0_5), true)) else (some (0, 0, 0, 0, 0, 0, false)))))))))))) = some (r1, r2, r3, r4, r5, r6, r7) := H
    have A28 := Aside0.mk A280
    clear A280
    replace H := Option.bind_eq_some_iff.mp H
    obtain ⟨t197, A290, H⟩ := H
    replace H : ((impl_FixMul.f kj2 a0_2 a1_3).bind fun t198 => ((impl_FixMul.f kj2 a0_1 a1_2).bind fun t199 => ((impl_FixMul.f kj2 a0_3 a1_3).bind fun t200 => ((impl_FixMul.f kj2 a0_0 a1_4).bind fun t201 => ((impl_FixMul.f kj2 a0_2 a1_5).bind fun t202 => ((impl_FixMul.f kj2 a0_1 a1_4).bind fun t203 => ((impl_FixMul.f kj2 a0_3 a1_5).bind fun t204 => ((impl_GoodAffine.f kj2 (wrap64 (t193 + t194)) (wrap64 (t195 + t196)) (wrap64 (t197 + t198)) (wrap64 (t199 + t200)) (wrap64 ((wrap64 (t201 + t202)) + a0_4)) (wrap64 ((wrap64 (t203 + t204)) + a0_5))).bind fun t206 => (if t206 = true then (some (wrap64 (t193 + t194), wrap64 (t195 + t196), wrap64 (t197 + t198), wrap64 (t199 + t200), wrap64 ((wrap64 (t201 + t202)) + a0_4), wrap64 ((wrap64 (t203 + t204)) + a0_5), true)) else (some (0, 0, 0, 0, 0, 0, false))))))))))) = some (r1, r2, r3, r4, r5, r6, r7) := H
    have A29 := Aside0.mk A290
    clear A290
    replace H := Option.bind_eq_some_iff.mp H
    obtain ⟨t198, A300, H⟩ := H
    replace H : ((impl_FixMul.f kj2 a0_1 a1_2).bind fun t199 => ((impl_FixMul.f kj2 a0_3 a1_3).bind fun t200 => ((impl_FixMul.f kj2 a0_0 a1_4).bind fun t201 => ((impl_FixMul.f kj2 a0_2 a1_5).bind fun t202 => ((impl_FixMul.f kj2 a0_1 a1_4).bind fun t203 => ((impl_FixMul.f kj2 a0_3 a1_5).bind fun t204 => ((impl_GoodAffine.f kj2 (wrap64 (t193 + t194)) (wrap64 (t195 + t196)) (wrap64 (t197 + t198)) (wrap64 (t199 + t200)) (wrap64 ((wrap64 (t201 + t202)) + a0_4)) (wrap64 ((wrap64 (t203 + t204)) + a0_5))).bind fun t206 => (if t206 = true then (some (wrap64 (t193 + t194), wrap64 (t195 + t196), wrap64 (t197 + t198), wrap64 (t199 + t200), wrap64 ((wrap64 (t201 + t202)) + a0_4), wrap64 ((wrap64 (t203 + t204)) + a0_5), true)) else (some (0, 0, 0, 0, 0, 0, false)))))))))) = some (r1, r2, r3, r4, r5, r6, r7) := H
    have A30 := Aside0.mk A300
    clear A300
    replace H := Option.bind_eq_some_iff.mp H
    obtain ⟨t199, A310, H⟩ := H
    replace H : ((impl_FixMul.f kj2 a0_3 a1_3).bind fun t200 => ((impl_FixMul.f kj2 a0_0 a1_4).bind fun t201 => ((impl_FixMul.f kj2 a0_2 a1_5).bind fun t202 => ((impl_FixMul.f kj2 a0_1 a1_4).bind fun t203 => ((impl_FixMul.f kj2 a0_3 a1_5).bind fun t204 => ((impl_GoodAffine.f kj2 (wrap64 (t193 + t194)) (wrap64 (t195 + t196)) (wrap64 (t197 + t198)) (wrap64 (t199 + t200)) (wrap64 ((wrap64 (t201 + t202)) + a0_4)) (wrap64 ((wrap64 (t203 + t204)) + a0_5))).bind fun t206 => (if t206 = true then (some (wrap64 (t193 + t194), wrap64 (t195 + t196), wrap64 (t197 + t198), wrap64 (t199 + t200), wrap64 ((wrap64 (t201 + t202)) + a0_4), wrap64 ((wrap64 (t203 + t204)) + a0_5), true)) else (some (0, 0, 0, 0, 0, 0, false))))))))) = some (r1, r2, r3, r4, r5, r6, r7) := H
    have A31 := Aside0.mk A310
    clear A310
    replace H := Option.bind_eq_some_iff.mp H
    obtain ⟨t200, A320, H⟩ := H
    replace H : ((impl_FixMul.f kj2 a0_0 a1_4).bind fun t201 => ((impl_FixMul.f kj2 a0_2 a1_5).bind fun t202 => ((impl_FixMul.f kj2 a0_1 a1_4).bind fun t203 => ((impl_FixMul.f kj2 a0_3 a1_5).bind fun t204 => ((impl_GoodAffine.f kj2 (wrap64 (t193 + t194)) (wrap64 (t195 + t196)) (wrap64 (t197 + t198)) (wrap64 (t199 + t200)) (wrap64 ((wrap64 (t201 + t202)) + a0_4)) (wrap64 ((wrap64 (t203 + t204)) + a0_5))).bind fun t206 => (if t206 = true then (some (wrap64 (t193 + t194), wrap64 (t195 + t196), wrap64 (t197 + t198), wrap64 (t199 + t200), wrap64 ((wrap64 (t201 + t202)) + a0_4), wrap64 ((wrap64 (t203 + t204)) + a0_5), true)) else (some (0, 0, 0, 0, 0, 0, false)))))))) = some (r1, r2, r3, r4, r5, r6, r7) := H
    have A32 := Aside0.mk A320
    clear A320
    replace H := Option.bind_eq_some_iff.mp H
    obtain ⟨t201, A330, H⟩ := H
    replace H : ((impl_FixMul.f kj2 a0_2 a1_5).bind fun t202 => ((impl_FixMul.f kj2 a0_1 a1_4).bind fun t203 => ((impl_FixMul.f kj2 a0_3 a1_5).bind fun t204 => ((impl_GoodAffine.f kj2 (wrap64 (t193 + t194)) (wrap64 (t195 + t196)) (wrap64 (t197 + t198)) (wrap64 (t199 + t200)) (wrap64 ((wrap64 (t201 + t202)) + a0_4)) (wrap64 ((wrap64 (t203 + t204)) + a0_5))).bind fun t206 => (if t206 = true then (some (wrap64 (t193 + t194), wrap64 (t195 + t196), wrap64 (t197 + t198), wrap64 (t199 + t200), wrap64 ((wrap64 (t201 + t202)) + a0_4), wrap64 ((wrap64 (t203 + t204)) + a0_5), true)) else (some (0, 0, 0, 0, 0, 0, false))))))) = some (r1, r2, r3, r4, r5, r6, r7) := H
    have A33 := Aside0.mk A330
    clear A330
    replace H := Option.bind_eq_some_iff.mp H
    obtain ⟨t202, A340, H⟩ := H
    replace H : ((impl_FixMul.f kj2 a0_1 a1_4).bind fun t203 => ((impl_FixMul.f kj2 a0_3 a1_5).bind fun t204 => ((impl_GoodAffine.f kj2 (wrap64 (t193 + t194)) (wrap64 (t195 + t196)) (wrap64 (t197 + t198)) (wrap64 (t199 + t200)) (wrap64 ((wrap64 (t201 + t202)) + a0_4)) (wrap64 ((wrap64 (t203 + t204)) + a0_5))).bind fun t206 => (if t206 = true then (some (wrap64 (t193 + t194), wrap64 (t195 + t196), wrap64 (t197 + t198), wrap64 (t199 + t200), wrap64 ((wrap64 (t201 + t202)) + a0_4), wrap64 ((wrap64 (t203 + t204)) + a0_5), true)) else (some (0, 0, 0, 0, 0, 0, false)))))) = some (r1, r2, r3, r4, r5, r6, r7) := H
    have A34 := Aside0.mk A340
    clear A340
    replace H := Option.bind_eq_some_iff.mp H
    obtain ⟨t203, A350, H⟩ := H
    replace H : ((impl_FixMul.f kj2 a0_3 a1_5).bind fun t204 => ((impl_GoodAffine.f kj2 (wrap64 (t193 + t194)) (wrap64 (t195 + t196)) (wrap64 (t197 + t198)) (wrap64 (t199 + t200)) (wrap64 ((wrap64 (t201 + t202)) + a0_4)) (wrap64 ((wrap64 (t203 + t204)) + a0_5))).bind fun t206 => (if t206 = true then (some (wrap64 (t193 + t194), wrap64 (t195 + t196), wrap64 (t197 + t198), wrap64 (t199 + t200), wrap64 ((wrap64 (t201 + t202)) + a0_4), wrap64 ((wrap64 (t203 + t204)) + a0_5), true)) else (some (0, 0, 0, 0, 0, 0, false))))) = some (r1, r2, r3, r4, r5, r6, r7) := H
    have A35 := Aside0.mk A350
    clear A350
    replace H := Option.bind_eq_some_iff.mp H
    obtain ⟨t204, A360, H⟩ := H
    replace H : ((impl_GoodAffine.f kj2 (wrap64 (t193 + t194)) (wrap64 (t195 + t196)) (wrap64 (t197 + t198)) (wrap64 (t199 + t200)) (wrap64 ((wrap64 (t201 + t202)) + a0_4)) (wrap64 ((wrap64 (t203 + t204)) + a0_5))).bind fun t206 => (if t206 = true then (some (wrap64 (t193 + t194), wrap64 (t195 + t196), wrap64 (t197 + t198), wrap64 (t199 + t200), wrap64 ((wrap64 (t201 + t202)) + a0_4), wrap64 ((wrap64 (t203 + t204)) + a0_5), true)) else (some (0, 0, 0, 0, 0, 0, false)))) = some (r1, r2, r3, r4, r5, r6, r7) := H
    have A36 := Aside0.mk A360
    clear A360
    replace H := Option.bind_eq_some_iff.mp H
    obtain ⟨t206, A370, H⟩ := H
    replace H : (if t206 = true then (some (wrap64 (t193 + t194), wrap64 (t195 + t196), wrap64 (t197 + t198), wrap64 (t199 + t200), wrap64 ((wrap64 (t201 + t202)) + a0_4), wrap64 ((wrap64 (t203 + t204)) + a0_5), true)) else (some (0, 0, 0, 0, 0, 0, false))) = some (r1, r2, r3, r4, r5, r6, r7) := H
    have A37 := Aside0.mk A370
    clear A370
    have HHc38 := Aside0.mk H
    clear H
    try go_wp2
    have n0_ := Aside0.mk (blk_drew BK188.out)
    have n1_ := Aside0.mk (blk_drew BK189.out)
    have n2_ := Aside0.mk (blk_drew BK190.out)
    have n3_ := Aside0.mk (below_drew1 HB.out)
    clear BK188
    clear BK189
    clear BK190
    clear HB
    have BK188 := n0_
    have BK189 := n1_
    have BK190 := n2_
    have HB := n3_
    clear n0_ n1_ n2_ n3_
    refine start_ (n := 75) (S := fun w' => w'.cell? ⟨gb188, 0, none⟩ = some (.int .i64 a0_0) ∧ w'.cell? ⟨gb188, 1, none⟩ = some (.int .i64 a0_1) ∧ w'.cell? ⟨gb188, 2, none⟩ = some (.int .i64 a0_2) ∧ w'.cell? ⟨gb188, 3, none⟩ = some (.int .i64 a0_3) ∧ w'.cell? ⟨gb188, 4, none⟩ = some (.int .i64 a0_4) ∧ w'.cell? ⟨gb188, 5, none⟩ = some (.int .i64 a0_5) ∧ w'.cell? ⟨gb189, 0, none⟩ = some (.int .i64 a1_0) ∧ w'.cell? ⟨gb189, 1, none⟩ = some (.int .i64 a1_1) ∧ w'.cell? ⟨gb189, 2, none⟩ = some (.int .i64 a1_2) ∧ w'.cell? ⟨gb189, 3, none⟩ = some (.int .i64 a1_3) ∧ w'.cell? ⟨gb189, 4, none⟩ = some (.int .i64 a1_4) ∧ w'.cell? ⟨gb189, 5, none⟩ = some (.int .i64 a1_5)) (ds := []) #[false, false, false, false, false, false, false, false, false, false, false, false, false, false, false, false, false, false, false, false, false, false, false, false, false, false, false, false, false, false, false, false, false, false, false, false, false, false, false, false, false, false, false, false, false, false, false, false, false, false, false, false, false, false, false, false, false, false, false, false, false, false, false, false, false, false, false, false, false, false, false, false, false, false, false] (by kernel_rfl) rfl rfl ⟨(blk_cell BK188.out 0).trans rfl, (blk_cell BK188.out 1).trans rfl, (blk_cell BK188.out 2).trans rfl, (blk_cell BK188.out 3).trans rfl, (blk_cell BK188.out 4).trans rfl, (blk_cell BK188.out 5).trans rfl, (blk_cell BK189.out 0).trans rfl, (blk_cell BK189.out 1).trans rfl, (blk_cell BK189.out 2).trans rfl, (blk_cell BK189.out 3).trans rfl, (blk_cell BK189.out 4).trans rfl, (blk_cell BK189.out 5).trans rfl⟩ (fun hHeld => ?_); refine with_tabW impl_MulAffine.tab3 impl_MulAffine.bits3 (fun HT_ HW_ => ?_)
    generalize wc.drew = w39 at BK188 BK189 BK190 HB hHeld ⊢
    refine pure_ (i := 0) (N := some 16) (v := ?_) (a' := ?_) #[true, false, false, false, false, false, false, false, false, false, false, false, false, false, false, false, false, false, false, false, false, false, false, false, false, false, false, false, false, false, false, false, false, false, false, false, false, false, false, false, false, false, false, false, false, false, false, false, false, false, false, false, false, false, false, false, false, false, false, false, false, false, false, false, false, false, false, false, false, false, false, false, false, false, false] rfl rfl (any_of HT_.out (by kernel_rfl)) (fun _ _ _ h => h) (Or.inl ⟨by rfl, ?_⟩) ?_ ?_
    rotate_left
    ·intro w'
     go_simp
     with_reducible rfl
    rotate_left
    ·simp only [Act.put, List.setIfInBounds_toArray, List.set_cons_zero, List.set_cons_succ, i64_w, i32_w]
     rfl
    refine pure_ (i := 2) (N := some 18) (v := ?_) (a' := ?_) #[true, false, true, false, false, false, false, false, false, false, false, false, false, false, false, false, false, false, false, false, false, false, false, false, false, false, false, false, false, false, false, false, false, false, false, false, false, false, false, false, false, false, false, false, false, false, false, false, false, false, false, false, false, false, false, false, false, false, false, false, false, false, false, false, false, false, false, false, false, false, false, false, false, false, false] rfl rfl (any_of HT_.out (by kernel_rfl)) (fun _ _ _ h => h) (Or.inl ⟨by rfl, ?_⟩) ?_ ?_
    rotate_left
    ·intro w'
     go_simp
     with_reducible rfl
    rotate_left
    ·simp only [Act.put, List.setIfInBounds_toArray, List.set_cons_zero, List.set_cons_succ, i64_w, i32_w]
     rfl
    refine pure_ (i := 5) (N := some 21) (v := ?_) (a' := ?_) #[true, false, true, false, false, true, false, false, false, false, false, false, false, false, false, false, false, false, false, false, false, false, false, false, false, false, false, false, false, false, false, false, false, false, false, false, false, false, false, false, false, false, false, false, false, false, false, false, false, false, false, false, false, false, false, false, false, false, false, false, false, false, false, false, false, false, false, false, false, false, false, false, false, false, false] rfl rfl (any_of HT_.out (by kernel_rfl)) (fun _ _ _ h => h) (Or.inl ⟨by rfl, ?_⟩) ?_ ?_
    rotate_left
    ·intro w'
     go_simp
     with_reducible rfl
    rotate_left
    ·simp only [Act.put, List.setIfInBounds_toArray, List.set_cons_zero, List.set_cons_succ, i64_w, i32_w]
     rfl
    refine pure_ (i := 7) (N := some 23) (v := ?_) (a' := ?_) #[true, false, true, false, false, true, false, true, false, false, false, false, false, false, false, false, false, false, false, false, false, false, false, false, false, false, false, false, false, false, false, false, false, false, false, false, false, false, false, false, false, false, false, false, false, false, false, false, false, false, false, false, false, false, false, false, false, false, false, false, false, false, false, false, false, false, false, false, false, false, false, false, false, false, false] rfl rfl (any_of HT_.out (by kernel_rfl)) (fun _ _ _ h => h) (Or.inl ⟨by rfl, ?_⟩) ?_ ?_
    rotate_left
    ·intro w'
     go_simp
     with_reducible rfl
    rotate_left
    ·simp only [Act.put, List.setIfInBounds_toArray, List.set_cons_zero, List.set_cons_succ, i64_w, i32_w]
     rfl
    refine pure_ (i := 11) (N := some 27) (v := ?_) (a' := ?_) #[true, false, true, false, false, true, false, true, false, false, false, true, false, false, false, false, false, false, false, false, false, false, false, false, false, false, false, false, false, false, false, false, false, false, false, false, false, false, false, false, false, false, false, false, false, false, false, false, false, false, false, false, false, false, false, false, false, false, false, false, false, false, false, false, false, false, false, false, false, false, false, false, false, false, false] rfl rfl (any_of HT_.out (by kernel_rfl)) (fun _ _ _ h => h) (Or.inl ⟨by rfl, ?_⟩) ?_ ?_
    rotate_left
    ·intro w'
     go_simp
     with_reducible rfl
    rotate_left
    ·simp only [Act.put, List.setIfInBounds_toArray, List.set_cons_zero, List.set_cons_succ, i64_w, i32_w]
     rfl
    refine pure_ (i := 13) (N := some 29) (v := ?_) (a' := ?_) #[true, false, true, false, false, true, false, true, false, false, false, true, false, true, false, false, false, false, false, false, false, false, false, false, false, false, false, false, false, false, false, false, false, false, false, false, false, false, false, false, false, false, false, false, false, false, false, false, false, false, false, false, false, false, false, false, false, false, false, false, false, false, false, false, false, false, false, false, false, false, false, false, false, false, false] rfl rfl (any_of HT_.out (by kernel_rfl)) (fun _ _ _ h => h) (Or.inl ⟨by rfl, ?_⟩) ?_ ?_
    rotate_left
    ·intro w'
     go_simp
     with_reducible rfl
    rotate_left
    ·simp only [Act.put, List.setIfInBounds_toArray, List.set_cons_zero, List.set_cons_succ, i64_w, i32_w]
     rfl
    refine pure_ (i := 16) (N := some 32) (v := ?_) (a' := ?_) #[true, false, true, false, false, true, false, true, false, false, false, true, false, true, false, false, true, false, false, false, false, false, false, false, false, false, false, false, false, false, false, false, false, false, false, false, false, false, false, false, false, false, false, false, false, false, false, false, false, false, false, false, false, false, false, false, false, false, false, false, false, false, false, false, false, false, false, false, false, false, false, false, false, false, false] rfl rfl (any_of HT_.out (by kernel_rfl)) (fun _ _ _ h => h) (Or.inl ⟨by rfl, ?_⟩) ?_ ?_
    rotate_left
    ·intro w'
     go_simp
     with_reducible rfl
    rotate_left
    ·simp only [Act.put, List.setIfInBounds_toArray, List.set_cons_zero, List.set_cons_succ, i64_w, i32_w]
     rfl
    refine pure_ (i := 18) (N := some 34) (v := ?_) (a' := ?_) #[true, false, true, false, false, true, false, true, false, false, false, true, false, true, false, false, true, false, true, false, false, false, false, false, false, false, false, false, false, false, false, false, false, false, false, false, false, false, false, false, false, false, false, false, false, false, false, false, false, false, false, false, false, false, false, false, false, false, false, false, false, false, false, false, false, false, false, false, false, false, false, false, false, false, false] rfl rfl (any_of HT_.out (by kernel_rfl)) (fun _ _ _ h => h) (Or.inl ⟨by rfl, ?_⟩) ?_ ?_
    rotate_left
    ·intro w'
     go_simp
     with_reducible rfl
    rotate_left
    ·simp only [Act.put, List.setIfInBounds_toArray, List.set_cons_zero, List.set_cons_succ, i64_w, i32_w]
     rfl
    refine pure_ (i := 22) (N := some 38) (v := ?_) (a' := ?_) #[true, false, true, false, false, true, false, true, false, false, false, true, false, true, false, false, true, false, true, false, false, false, true, false, false, false, false, false, false, false, false, false, false, false, false, false, false, false, false, false, false, false, false, false, false, false, false, false, false, false, false, false, false, false, false, false, false, false, false, false, false, false, false, false, false, false, false, false, false, false, false, false, false, false, false] rfl rfl (any_of HT_.out (by kernel_rfl)) (fun _ _ _ h => h) (Or.inl ⟨by rfl, ?_⟩) ?_ ?_
    rotate_left
    ·intro w'
     go_simp
     with_reducible rfl
    rotate_left
    ·simp only [Act.put, List.setIfInBounds_toArray, List.set_cons_zero, List.set_cons_succ, i64_w, i32_w]
     rfl
    refine pure_ (i := 24) (N := some 40) (v := ?_) (a' := ?_) #[true, false, true, false, false, true, false, true, false, false, false, true, false, true, false, false, true, false, true, false, false, false, true, false, true, false, false, false, false, false, false, false, false, false, false, false, false, false, false, false, false, false, false, false, false, false, false, false, false, false, false, false, false, false, false, false, false, false, false, false, false, false, false, false, false, false, false, false, false, false, false, false, false, false, false] rfl rfl (any_of HT_.out (by kernel_rfl)) (fun _ _ _ h => h) (Or.inl ⟨by rfl, ?_⟩) ?_ ?_
    rotate_left
    ·intro w'
     go_simp
     with_reducible rfl
    rotate_left
    ·simp only [Act.put, List.setIfInBounds_toArray, List.set_cons_zero, List.set_cons_succ, i64_w, i32_w]
     rfl
    refine pure_ (i := 27) (N := some 43) (v := ?_) (a' := ?_) #[true, false, true, false, false, true, false, true, false, false, false, true, false, true, false, false, true, false, true, false, false, false, true, false, true, false, false, true, false, false, false, false, false, false, false, false, false, false, false, false, false, false, false, false, false, false, false, false, false, false, false, false, false, false, false, false, false, false, false, false, false, false, false, false, false, false, false, false, false, false, false, false, false, false, false] rfl rfl (any_of HT_.out (by kernel_rfl)) (fun _ _ _ h => h) (Or.inl ⟨by rfl, ?_⟩) ?_ ?_
    rotate_left
    ·intro w'
     go_simp
     with_reducible rfl
    rotate_left
    ·simp only [Act.put, List.setIfInBounds_toArray, List.set_cons_zero, List.set_cons_succ, i64_w, i32_w]
     rfl
    refine pure_ (i := 29) (N := some 45) (v := ?_) (a' := ?_) #[true, false, true, false, false, true, false, true, false, false, false, true, false, true, false, false, true, false, true, false, false, false, true, false, true, false, false, true, false, true, false, false, false, false, false, false, false, false, false, false, false, false, false, false, false, false, false, false, false, false, false, false, false, false, false, false, false, false, false, false, false, false, false, false, false, false, false, false, false, false, false, false, false, false, false] rfl rfl (any_of HT_.out (by kernel_rfl)) (fun _ _ _ h => h) (Or.inl ⟨by rfl, ?_⟩) ?_ ?_
    rotate_left
    ·intro w'
     go_simp
     with_reducible rfl
    rotate_left
    ·simp only [Act.put, List.setIfInBounds_toArray, List.set_cons_zero, List.set_cons_succ, i64_w, i32_w]
     rfl
    refine pure_ (i := 33) (N := some 49) (v := ?_) (a' := ?_) #[true, false, true, false, false, true, false, true, false, false, false, true, false, true, false, false, true, false, true, false, false, false, true, false, true, false, false, true, false, true, false, false, false, true, false, false, false, false, false, false, false, false, false, false, false, false, false, false, false, false, false, false, false, false, false, false, false, false, false, false, false, false, false, false, false, false, false, false, false, false, false, false, false, false, false] rfl rfl (any_of HT_.out (by kernel_rfl)) (fun _ _ _ h => h) (Or.inl ⟨by rfl, ?_⟩) ?_ ?_
    rotate_left
    ·intro w'
     go_simp
     with_reducible rfl
    rotate_left
    ·simp only [Act.put, List.setIfInBounds_toArray, List.set_cons_zero, List.set_cons_succ, i64_w, i32_w]
     rfl
    refine pure_ (i := 35) (N := some 51) (v := ?_) (a' := ?_) #[true, false, true, false, false, true, false, true, false, false, false, true, false, true, false, false, true, false, true, false, false, false, true, false, true, false, false, true, false, true, false, false, false, true, false, true, false, false, false, false, false, false, false, false, false, false, false, false, false, false, false, false, false, false, false, false, false, false, false, false, false, false, false, false, false, false, false, false, false, false, false, false, false, false, false] rfl rfl (any_of HT_.out (by kernel_rfl)) (fun _ _ _ h => h) (Or.inl ⟨by rfl, ?_⟩) ?_ ?_
    rotate_left
    ·intro w'
     go_simp
     with_reducible rfl
    rotate_left
    ·simp only [Act.put, List.setIfInBounds_toArray, List.set_cons_zero, List.set_cons_succ, i64_w, i32_w]
     rfl
    refine pure_ (i := 38) (N := some 54) (v := ?_) (a' := ?_) #[true, false, true, false, false, true, false, true, false, false, false, true, false, true, false, false, true, false, true, false, false, false, true, false, true, false, false, true, false, true, false, false, false, true, false, true, false, false, true, false, false, false, false, false, false, false, false, false, false, false, false, false, false, false, false, false, false, false, false, false, false, false, false, false, false, false, false, false, false, false, false, false, false, false, false] rfl rfl (any_of HT_.out (by kernel_rfl)) (fun _ _ _ h => h) (Or.inl ⟨by rfl, ?_⟩) ?_ ?_
    rotate_left
    ·intro w'
     go_simp
     with_reducible rfl
    rotate_left
    ·simp only [Act.put, List.setIfInBounds_toArray, List.set_cons_zero, List.set_cons_succ, i64_w, i32_w]
     rfl
    refine pure_ (i := 40) (N := some 56) (v := ?_) (a' := ?_) #[true, false, true, false, false, true, false, true, false, false, false, true, false, true, false, false, true, false, true, false, false, false, true, false, true, false, false, true, false, true, false, false, false, true, false, true, false, false, true, false, true, false, false, false, false, false, false, false, false, false, false, false, false, false, false, false, false, false, false, false, false, false, false, false, false, false, false, false, false, false, false, false, false, false, false] rfl rfl (any_of HT_.out (by kernel_rfl)) (fun _ _ _ h => h) (Or.inl ⟨by rfl, ?_⟩) ?_ ?_
    rotate_left
    ·intro w'
     go_simp
     with_reducible rfl
    rotate_left
    ·simp only [Act.put, List.setIfInBounds_toArray, List.set_cons_zero, List.set_cons_succ, i64_w, i32_w]
     rfl
    refine pure_ (i := 44) (N := some 60) (v := ?_) (a' := ?_) #[true, false, true, false, false, true, false, true, false, false, false, true, false, true, false, false, true, false, true, false, false, false, true, false, true, false, false, true, false, true, false, false, false, true, false, true, false, false, true, false, true, false, false, false, true, false, false, false, false, false, false, false, false, false, false, false, false, false, false, false, false, false, false, false, false, false, false, false, false, false, false, false, false, false, false] rfl rfl (any_of HT_.out (by kernel_rfl)) (fun _ _ _ h => h) (Or.inl ⟨by rfl, ?_⟩) ?_ ?_
    rotate_left
    ·intro w'
     go_simp
     with_reducible rfl
    rotate_left
    ·simp only [Act.put, List.setIfInBounds_toArray, List.set_cons_zero, List.set_cons_succ, i64_w, i32_w]
     rfl
    refine pure_ (i := 46) (N := some 62) (v := ?_) (a' := ?_) #[true, false, true, false, false, true, false, true, false, false, false, true, false, true, false, false, true, false, true, false, false, false, true, false, true, false, false, true, false, true, false, false, false, true, false, true, false, false, true, false, true, false, false, false, true, false, true, false, false, false, false, false, false, false, false, false, false, false, false, false, false, false, false, false, false, false, false, false, false, false, false, false, false, false, false] rfl rfl (any_of HT_.out (by kernel_rfl)) (fun _ _ _ h => h) (Or.inl ⟨by rfl, ?_⟩) ?_ ?_
    rotate_left
    ·intro w'
     go_simp
     with_reducible rfl
    rotate_left
    ·simp only [Act.put, List.setIfInBounds_toArray, List.set_cons_zero, List.set_cons_succ, i64_w, i32_w]
     rfl
    refine pure_ (i := 49) (N := some 65) (v := ?_) (a' := ?_) #[true, false, true, false, false, true, false, true, false, false, false, true, false, true, false, false, true, false, true, false, false, false, true, false, true, false, false, true, false, true, false, false, false, true, false, true, false, false, true, false, true, false, false, false, true, false, true, false, false, true, false, false, false, false, false, false, false, false, false, false, false, false, false, false, false, false, false, false, false, false, false, false, false, false, false] rfl rfl (any_of HT_.out (by kernel_rfl)) (fun _ _ _ h => h) (Or.inl ⟨by rfl, ?_⟩) ?_ ?_
    rotate_left
    ·intro w'
     go_simp
     with_reducible rfl
    rotate_left
    ·simp only [Act.put, List.setIfInBounds_toArray, List.set_cons_zero, List.set_cons_succ, i64_w, i32_w]
     rfl
    refine pure_ (i := 51) (N := some 67) (v := ?_) (a' := ?_) #[true, false, true, false, false, true, false, true, false, false, false, true, false, true, false, false, true, false, true, false, false, false, true, false, true, false, false, true, false, true, false, false, false, true, false, true, false, false, true, false, true, false, false, false, true, false, true, false, false, true, false, true, false, false, false, false, false, false, false, false, false, false, false, false, false, false, false, false, false, false, false, false, false, false, false] rfl rfl (any_of HT_.out (by kernel_rfl)) (fun _ _ _ h => h) (Or.inl ⟨by rfl, ?_⟩) ?_ ?_
    rotate_left
    ·intro w'
     go_simp
     with_reducible rfl
    rotate_left
    ·simp only [Act.put, List.setIfInBounds_toArray, List.set_cons_zero, List.set_cons_succ, i64_w, i32_w]
     rfl
    refine pure_ (i := 55) (N := some 71) (v := ?_) (a' := ?_) #[true, false, true, false, false, true, false, true, false, false, false, true, false, true, false, false, true, false, true, false, false, false, true, false, true, false, false, true, false, true, false, false, false, true, false, true, false, false, true, false, true, false, false, false, true, false, true, false, false, true, false, true, false, false, false, true, false, false, false, false, false, false, false, false, false, false, false, false, false, false, false, false, false, false, false] rfl rfl (any_of HT_.out (by kernel_rfl)) (fun _ _ _ h => h) (Or.inl ⟨by rfl, ?_⟩) ?_ ?_
    rotate_left
    ·intro w'
     go_simp
     with_reducible rfl
    rotate_left
    ·simp only [Act.put, List.setIfInBounds_toArray, List.set_cons_zero, List.set_cons_succ, i64_w, i32_w]
     rfl
    refine pure_ (i := 58) (N := some 74) (v := ?_) (a' := ?_) #[true, false, true, false, false, true, false, true, false, false, false, true, false, true, false, false, true, false, true, false, false, false, true, false, true, false, false, true, false, true, false, false, false, true, false, true, false, false, true, false, true, false, false, false, true, false, true, false, false, true, false, true, false, false, false, true, false, false, true, false, false, false, false, false, false, false, false, false, false, false, false, false, false, false, false] rfl rfl (any_of HT_.out (by kernel_rfl)) (fun _ _ _ h => h) (Or.inl ⟨by rfl, ?_⟩) ?_ ?_
    rotate_left
    ·intro w'
     go_simp
     with_reducible rfl
    rotate_left
    ·simp only [Act.put, List.setIfInBounds_toArray, List.set_cons_zero, List.set_cons_succ, i64_w, i32_w]
     rfl
    refine pure_ (i := 60) (N := some 76) (v := ?_) (a' := ?_) #[true, false, true, false, false, true, false, true, false, false, false, true, false, true, false, false, true, false, true, false, false, false, true, false, true, false, false, true, false, true, false, false, false, true, false, true, false, false, true, false, true, false, false, false, true, false, true, false, false, true, false, true, false, false, false, true, false, false, true, false, true, false, false, false, false, false, false, false, false, false, false, false, false, false, false] rfl rfl (any_of HT_.out (by kernel_rfl)) (fun _ _ _ h => h) (Or.inl ⟨by rfl, ?_⟩) ?_ ?_
    rotate_left
    ·intro w'
     go_simp
     with_reducible rfl
    rotate_left
    ·simp only [Act.put, List.setIfInBounds_toArray, List.set_cons_zero, List.set_cons_succ, i64_w, i32_w]
     rfl
    refine pure_ (i := 63) (N := some 79) (v := ?_) (a' := ?_) #[true, false, true, false, false, true, false, true, false, false, false, true, false, true, false, false, true, false, true, false, false, false, true, false, true, false, false, true, false, true, false, false, false, true, false, true, false, false, true, false, true, false, false, false, true, false, true, false, false, true, false, true, false, false, false, true, false, false, true, false, true, false, false, true, false, false, false, false, false, false, false, false, false, false, false] rfl rfl (any_of HT_.out (by kernel_rfl)) (fun _ _ _ h => h) (Or.inl ⟨by rfl, ?_⟩) ?_ ?_
    rotate_left
    ·intro w'
     go_simp
     with_reducible rfl
    rotate_left
    ·simp only [Act.put, List.setIfInBounds_toArray, List.set_cons_zero, List.set_cons_succ, i64_w, i32_w]
     rfl
    refine pure_ (i := 65) (N := some 81) (v := ?_) (a' := ?_) #[true, false, true, false, false, true, false, true, false, false, false, true, false, true, false, false, true, false, true, false, false, false, true, false, true, false, false, true, false, true, false, false, false, true, false, true, false, false, true, false, true, false, false, false, true, false, true, false, false, true, false, true, false, false, false, true, false, false, true, false, true, false, false, true, false, true, false, false, false, false, false, false, false, false, false] rfl rfl (any_of HT_.out (by kernel_rfl)) (fun _ _ _ h => h) (Or.inl ⟨by rfl, ?_⟩) ?_ ?_
    rotate_left
    ·intro w'
     go_simp
     with_reducible rfl
    rotate_left
    ·simp only [Act.put, List.setIfInBounds_toArray, List.set_cons_zero, List.set_cons_succ, i64_w, i32_w]
     rfl
    refine pure_ (i := 69) (N := some 85) (v := ?_) (a' := ?_) #[true, false, true, false, false, true, false, true, false, false, false, true, false, true, false, false, true, false, true, false, false, false, true, false, true, false, false, true, false, true, false, false, false, true, false, true, false, false, true, false, true, false, false, false, true, false, true, false, false, true, false, true, false, false, false, true, false, false, true, false, true, false, false, true, false, true, false, false, false, true, false, false, false, false, false] rfl rfl (any_of HT_.out (by kernel_rfl)) (fun _ _ _ h => h) (Or.inl ⟨by rfl, ?_⟩) ?_ ?_
    rotate_left
    ·intro w'
     go_simp
     with_reducible rfl
    rotate_left
    ·simp only [Act.put, List.setIfInBounds_toArray, List.set_cons_zero, List.set_cons_succ, i64_w, i32_w]
     rfl
    refine take_ (i := 1) (N := some 17) (v := ?_) (a' := ?_) #[true, true, true, false, false, true, false, true, false, false, false, true, false, true, false, false, true, false, true, false, false, false, true, false, true, false, false, true, false, true, false, false, false, true, false, true, false, false, true, false, true, false, false, false, true, false, true, false, false, true, false, true, false, false, false, true, false, false, true, false, true, false, false, true, false, true, false, false, false, true, false, false, false, false, false] rfl rfl (take_ofW HT_.out HW_.out (by kernel_rfl)) (fun _ _ _ h => h) (Or.inl ⟨by rfl, ?_⟩) hHeld ?_ ?_
    rotate_left
    ·rintro w' ⟨s0, s1, s2, s3, s4, s5, s6, s7, s8, s9, s10, s11⟩
     go_simp
     with_reducible rfl
    rotate_left
    ·simp only [Act.put, List.setIfInBounds_toArray, List.set_cons_zero, List.set_cons_succ, i64_w, i32_w]
     rfl
    refine take_ (i := 3) (N := some 19) (v := ?_) (a' := ?_) #[true, true, true, true, false, true, false, true, false, false, false, true, false, true, false, false, true, false, true, false, false, false, true, false, true, false, false, true, false, true, false, false, false, true, false, true, false, false, true, false, true, false, false, false, true, false, true, false, false, true, false, true, false, false, false, true, false, false, true, false, true, false, false, true, false, true, false, false, false, true, false, false, false, false, false] rfl rfl (take_ofW HT_.out HW_.out (by kernel_rfl)) (fun _ _ _ h => h) (Or.inl ⟨by rfl, ?_⟩) hHeld ?_ ?_
    rotate_left
    ·rintro w' ⟨s0, s1, s2, s3, s4, s5, s6, s7, s8, s9, s10, s11⟩
     go_simp
     with_reducible rfl
    rotate_left
    ·simp only [Act.put, List.setIfInBounds_toArray, List.set_cons_zero, List.set_cons_succ, i64_w, i32_w]
     rfl
    refine take_ (i := 6) (N := some 22) (v := ?_) (a' := ?_) #[true, true, true, true, false, true, true, true, false, false, false, true, false, true, false, false, true, false, true, false, false, false, true, false, true, false, false, true, false, true, false, false, false, true, false, true, false, false, true, false, true, false, false, false, true, false, true, false, false, true, false, true, false, false, false, true, false, false, true, false, true, false, false, true, false, true, false, false, false, true, false, false, false, false, false] rfl rfl (take_ofW HT_.out HW_.out (by kernel_rfl)) (fun _ _ _ h => h) (Or.inl ⟨by rfl, ?_⟩) hHeld ?_ ?_
    rotate_left
    ·rintro w' ⟨s0, s1, s2, s3, s4, s5, s6, s7, s8, s9, s10, s11⟩
     go_simp
     with_reducible rfl
    rotate_left
    ·simp only [Act.put, List.setIfInBounds_toArray, List.set_cons_zero, List.set_cons_succ, i64_w, i32_w]
     rfl
    refine take_ (i := 8) (N := some 24) (v := ?_) (a' := ?_) #[true, true, true, true, false, true, true, true, true, false, false, true, false, true, false, false, true, false, true, false, false, false, true, false, true, false, false, true, false, true, false, false, false, true, false, true, false, false, true, false, true, false, false, false, true, false, true, false, false, true, false, true, false, false, false, true, false, false, true, false, true, false, false, true, false, true, false, false, false, true, false, false, false, false, false] rfl rfl (take_ofW HT_.out HW_.out (by kernel_rfl)) (fun _ _ _ h => h) (Or.inl ⟨by rfl, ?_⟩) hHeld ?_ ?_
    rotate_left
    ·rintro w' ⟨s0, s1, s2, s3, s4, s5, s6, s7, s8, s9, s10, s11⟩
     go_simp
     with_reducible rfl
    rotate_left
    ·simp only [Act.put, List.setIfInBounds_toArray, List.set_cons_zero, List.set_cons_succ, i64_w, i32_w]
     rfl
    refine take_ (i := 12) (N := some 28) (v := ?_) (a' := ?_) #[true, true, true, true, false, true, true, true, true, false, false, true, true, true, false, false, true, false, true, false, false, false, true, false, true, false, false, true, false, true, false, false, false, true, false, true, false, false, true, false, true, false, false, false, true, false, true, false, false, true, false, true, false, false, false, true, false, false, true, false, true, false, false, true, false, true, false, false, false, true, false, false, false, false, false] rfl rfl (take_ofW HT_.out HW_.out (by kernel_rfl)) (fun _ _ _ h => h) (Or.inl ⟨by rfl, ?_⟩) hHeld ?_ ?_
    rotate_left
    ·rintro w' ⟨s0, s1, s2, s3, s4, s5, s6, s7, s8, s9, s10, s11⟩
     go_simp
     with_reducible rfl
    rotate_left
    ·simp only [Act.put, List.setIfInBounds_toArray, List.set_cons_zero, List.set_cons_succ, i64_w, i32_w]
     rfl
    refine take_ (i := 14) (N := some 30) (v := ?_) (a' := ?_) #[true, true, true, true, false, true, true, true, true, false, false, true, true, true, true, false, true, false, true, false, false, false, true, false, true, false, false, true, false, true, false, false, false, true, false, true, false, false, true, false, true, false, false, false, true, false, true, false, false, true, false, true, false, false, false, true, false, false, true, false, true, false, false, true, false, true, false, false, false, true, false, false, false, false, false] rfl rfl (take_ofW HT_.out HW_.out (by kernel_rfl)) (fun _ _ _ h => h) (Or.inl ⟨by rfl, ?_⟩) hHeld ?_ ?_
    rotate_left
    ·rintro w' ⟨s0, s1, s2, s3, s4, s5, s6, s7, s8, s9, s10, s11⟩
     go_simp
     with_reducible rfl
    rotate_left
    ·simp only [Act.put, List.setIfInBounds_toArray, List.set_cons_zero, List.set_cons_succ, i64_w, i32_w]
     rfl
    refine take_ (i := 17) (N := some 33) (v := ?_) (a' := ?_) #[true, true, true, true, false, true, true, true, true, false, false, true, true, true, true, false, true, true, true, false, false, false, true, false, true, false, false, true, false, true, false, false, false, true, false, true, false, false, true, false, true, false, false, false, true, false, true, false, false, true, false, true, false, false, false, true, false, false, true, false, true, false, false, true, false, true, false, false, false, true, false, false, false, false, false] rfl rfl (take_ofW HT_.out HW_.out (by kernel_rfl)) (fun _ _ _ h => h) (Or.inl ⟨by rfl, ?_⟩) hHeld ?_ ?_
    rotate_left
    ·rintro w' ⟨s0, s1, s2, s3, s4, s5, s6, s7, s8, s9, s10, s11⟩
     go_simp
     with_reducible rfl
    rotate_left
    ·simp only [Act.put, List.setIfInBounds_toArray, List.set_cons_zero, List.set_cons_succ, i64_w, i32_w]
     rfl
    refine take_ (i := 19) (N := some 35) (v := ?_) (a' := ?_) #[true, true, true, true, false, true, true, true, true, false, false, true, true, true, true, false, true, true, true, true, false, false, true, false, true, false, false, true, false, true, false, false, false, true, false, true, false, false, true, false, true, false, false, false, true, false, true, false, false, true, false, true, false, false, false, true, false, false, true, false, true, false, false, true, false, true, false, false, false, true, false, false, false, false, false] rfl rfl (take_ofW HT_.out HW_.out (by kernel_rfl)) (fun _ _ _ h => h) (Or.inl ⟨by rfl, ?_⟩) hHeld ?_ ?_
    rotate_left
    ·rintro w' ⟨s0, s1, s2, s3, s4, s5, s6, s7, s8, s9, s10, s11⟩
     go_simp
     with_reducible rfl
    rotate_left
    ·simp only [Act.put, List.setIfInBounds_toArray, List.set_cons_zero, List.set_cons_succ, i64_w, i32_w]
     rfl
    refine take_ (i := 23) (N := some 39) (v := ?_) (a' := ?_) #[true, true, true, true, false, true, true, true, true, false, false, true, true, true, true, false, true, true, true, true, false, false, true, true, true, false, false, true, false, true, false, false, false, true, false, true, false, false, true, false, true, false, false, false, true, false, true, false, false, true, false, true, false, false, false, true, false, false, true, false, true, false, false, true, false, true, false, false, false, true, false, false, false, false, false] rfl rfl (take_ofW HT_.out HW_.out (by kernel_rfl)) (fun _ _ _ h => h) (Or.inl ⟨by rfl, ?_⟩) hHeld ?_ ?_
    rotate_left
    ·rintro w' ⟨s0, s1, s2, s3, s4, s5, s6, s7, s8, s9, s10, s11⟩
     go_simp
     with_reducible rfl
    rotate_left
    ·simp only [Act.put, List.setIfInBounds_toArray, List.set_cons_zero, List.set_cons_succ, i64_w, i32_w]
     rfl
    refine take_ (i := 25) (N := some 41) (v := ?_) (a' := ?_) #[true, true, true, true, false, true, true, true, true, false, false, true, true, true, true, false, true, true, true, true, false, false, true, true, true, true, false, true, false, true, false, false, false, true, false, true, false, false, true, false, true, false, false, false, true, false, true, false, false, true, false, true, false, false, false, true, false, false, true, false, true, false, false, true, false, true, false, false, false, true, false, false, false, false, false] rfl rfl (take_ofW HT_.out HW_.out (by kernel_rfl)) (fun _ _ _ h => h) (Or.inl ⟨by rfl, ?_⟩) hHeld ?_ ?_
    rotate_left
    ·rintro w' ⟨s0, s1, s2, s3, s4, s5, s6, s7, s8, s9, s10, s11⟩
     go_simp
     with_reducible rfl
    rotate_left
    ·simp only [Act.put, List.setIfInBounds_toArray, List.set_cons_zero, List.set_cons_succ, i64_w, i32_w]
     rfl
    refine take_ (i := 28) (N := some 44) (v := ?_) (a' := ?_) #[true, true, true, true, false, true, true, true, true, false, false, true, true, true, true, false, true, true, true, true, false, false, true, true, true, true, false, true, true, true, false, false, false, true, false, true, false, false, true, false, true, false, false, false, true, false, true, false, false, true, false, true, false, false, false, true, false, false, true, false, true, false, false, true, false, true, false, false, false, true, false, false, false, false, false] rfl rfl (take_ofW HT_.out HW_.out (by kernel_rfl)) (fun _ _ _ h => h) (Or.inl ⟨by rfl, ?_⟩) hHeld ?_ ?_
    rotate_left
    ·rintro w' ⟨s0, s1, s2, s3, s4, s5, s6, s7, s8, s9, s10, s11⟩
     go_simp
     with_reducible rfl
    rotate_left
    ·simp only [Act.put, List.setIfInBounds_toArray, List.set_cons_zero, List.set_cons_succ, i64_w, i32_w]
     rfl
    refine take_ (i := 30) (N := some 46) (v := ?_) (a' := ?_) #[true, true, true, true, false, true, true, true, true, false, false, true, true, true, true, false, true, true, true, true, false, false, true, true, true, true, false, true, true, true, true, false, false, true, false, true, false, false, true, false, true, false, false, false, true, false, true, false, false, true, false, true, false, false, false, true, false, false, true, false, true, false, false, true, false, true, false, false, false, true, false, false, false, false, false] rfl rfl (take_ofW HT_.out HW_.out (by kernel_rfl)) (fun _ _ _ h => h) (Or.inl ⟨by rfl, ?_⟩) hHeld ?_ ?_
    rotate_left
    ·rintro w' ⟨s0, s1, s2, s3, s4, s5, s6, s7, s8, s9, s10, s11⟩
     go_simp
     with_reducible rfl
    rotate_left
    ·simp only [Act.put, List.setIfInBounds_toArray, List.set_cons_zero, List.set_cons_succ, i64_w, i32_w]
     rfl
    refine take_ (i := 34) (N := some 50) (v := ?_) (a' := ?_) #[true, true, true, true, false, true, true, true, true, false, false, true, true, true, true, false, true, true, true, true, false, false, true, true, true, true, false, true, true, true, true, false, false, true, true, true, false, false, true, false, true, false, false, false, true, false, true, false, false, true, false, true, false, false, false, true, false, false, true, false, true, false, false, true, false, true, false, false, false, true, false, false, false, false, false] rfl rfl (take_ofW HT_.out HW_.out (by kernel_rfl)) (fun _ _ _ h => h) (Or.inl ⟨by rfl, ?_⟩) hHeld ?_ ?_
    rotate_left
    ·rintro w' ⟨s0, s1, s2, s3, s4, s5, s6, s7, s8, s9, s10, s11⟩
     go_simp
     with_reducible rfl
    rotate_left
    ·simp only [Act.put, List.setIfInBounds_toArray, List.set_cons_zero, List.set_cons_succ, i64_w, i32_w]
     rfl
    refine take_ (i := 36) (N := some 52) (v := ?_) (a' := ?_) #[true, true, true, true, false, true, true, true, true, false, false, true, true, true, true, false, true, true, true, true, false, false, true, true, true, true, false, true, true, true, true, false, false, true, true, true, true, false, true, false, true, false, false, false, true, false, true, false, false, true, false, true, false, false, false, true, false, false, true, false, true, false, false, true, false, true, false, false, false, true, false, false, false, false, false] rfl rfl (take_ofW HT_.out HW_.out (by kernel_rfl)) (fun _ _ _ h => h) (Or.inl ⟨by rfl, ?_⟩) hHeld ?_ ?_
    rotate_left
    ·rintro w' ⟨s0, s1, s2, s3, s4, s5, s6, s7, s8, s9, s10, s11⟩
     go_simp
     with_reducible rfl
    rotate_left
    ·simp only [Act.put, List.setIfInBounds_toArray, List.set_cons_zero, List.set_cons_succ, i64_w, i32_w]
     rfl
    refine take_ (i := 39) (N := some 55) (v := ?_) (a' := ?_) #[true, true, true, true, false, true, true, true, true, false, false, true, true, true, true, false, true, true, true, true, false, false, true, true, true, true, false, true, true, true, true, false, false, true, true, true, true, false, true, true, true, false, false, false, true, false, true, false, false, true, false, true, false, false, false, true, false, false, true, false, true, false, false, true, false, true, false, false, false, true, false, false, false, false, false] rfl rfl (take_ofW HT_.out HW_.out (by kernel_rfl)) (fun _ _ _ h => h) (Or.inl ⟨by rfl, ?_⟩) hHeld ?_ ?_
    rotate_left
    ·rintro w' ⟨s0, s1, s2, s3, s4, s5, s6, s7, s8, s9, s10, s11⟩
     go_simp
     with_reducible rfl
    rotate_left
    ·simp only [Act.put, List.setIfInBounds_toArray, List.set_cons_zero, List.set_cons_succ, i64_w, i32_w]
     rfl
    refine take_ (i := 41) (N := some 57) (v := ?_) (a' := ?_) #[true, true, true, true, false, true, true, true, true, false, false, true, true, true, true, false, true, true, true, true, false, false, true, true, true, true, false, true, true, true, true, false, false, true, true, true, true, false, true, true, true, true, false, false, true, false, true, false, false, true, false, true, false, false, false, true, false, false, true, false, true, false, false, true, false, true, false, false, false, true, false, false, false, false, false] rfl rfl (take_ofW HT_.out HW_.out (by kernel_rfl)) (fun _ _ _ h => h) (Or.inl ⟨by rfl, ?_⟩) hHeld ?_ ?_
    rotate_left
    ·rintro w' ⟨s0, s1, s2, s3, s4, s5, s6, s7, s8, s9, s10, s11⟩
     go_simp
     with_reducible rfl
    rotate_left
    ·simp only [Act.put, List.setIfInBounds_toArray, List.set_cons_zero, List.set_cons_succ, i64_w, i32_w]
     rfl
    refine take_ (i := 45) (N := some 61) (v := ?_) (a' := ?_) #[true, true, true, true, false, true, true, true, true, false, false, true, true, true, true, false, true, true, true, true, false, false, true, true, true, true, false, true, true, true, true, false, false, true, true, true, true, false, true, true, true, true, false, false, true, true, true, false, false, true, false, true, false, false, false, true, false, false, true, false, true, false, false, true, false, true, false, false, false, true, false, false, false, false, false] rfl rfl (take_ofW HT_.out HW_.out (by kernel_rfl)) (fun _ _ _ h => h) (Or.inl ⟨by rfl, ?_⟩) hHeld ?_ ?_
    rotate_left
    ·rintro w' ⟨s0, s1, s2, s3, s4, s5, s6, s7, s8, s9, s10, s11⟩
     go_simp
     with_reducible rfl
    rotate_left
    ·simp only [Act.put, List.setIfInBounds_toArray, List.set_cons_zero, List.set_cons_succ, i64_w, i32_w]
     rfl
    refine take_ (i := 47) (N := some 63) (v := ?_) (a' := ?_) #[true, true, true, true, false, true, true, true, true, false, false, true, true, true, true, false, true, true, true, true, false, false, true, true, true, true, false, true, true, true, true, false, false, true, true, true, true, false, true, true, true, true, false, false, true, true, true, true, false, true, false, true, false, false, false, true, false, false, true, false, true, false, false, true, false, true, false, false, false, true, false, false, false, false, false] rfl rfl (take_ofW HT_.out HW_.out (by kernel_rfl)) (fun _ _ _ h => h) (Or.inl ⟨by rfl, ?_⟩) hHeld ?_ ?_
    rotate_left
    ·rintro w' ⟨s0, s1, s2, s3, s4, s5, s6, s7, s8, s9, s10, s11⟩
     go_simp
     with_reducible rfl
    rotate_left
    ·simp only [Act.put, List.setIfInBounds_toArray, List.set_cons_zero, List.set_cons_succ, i64_w, i32_w]
     rfl
    refine take_ (i := 50) (N := some 66) (v := ?_) (a' := ?_) #[true, true, true, true, false, true, true, true, true, false, false, true, true, true, true, false, true, true, true, true, false, false, true, true, true, true, false, true, true, true, true, false, false, true, true, true, true, false, true, true, true, true, false, false, true, true, true, true, false, true, true, true, false, false, false, true, false, false, true, false, true, false, false, true, false, true, false, false, false, true, false, false, false, false, false] rfl rfl (take_ofW HT_.out HW_.out (by kernel_rfl)) (fun _ _ _ h => h) (Or.inl ⟨by rfl, ?_⟩) hHeld ?_ ?_
    rotate_left
    ·rintro w' ⟨s0, s1, s2, s3, s4, s5, s6, s7, s8, s9, s10, s11⟩
     go_simp
     with_reducible rfl
    rotate_left
    ·simp only [Act.put, List.setIfInBounds_toArray, List.set_cons_zero, List.set_cons_succ, i64_w, i32_w]
     rfl
    refine take_ (i := 52) (N := some 68) (v := ?_) (a' := ?_) #[true, true, true, true, false, true, true, true, true, false, false, true, true, true, true, false, true, true, true, true, false, false, true, true, true, true, false, true, true, true, true, false, false, true, true, true, true, false, true, true, true, true, false, false, true, true, true, true, false, true, true, true, true, false, false, true, false, false, true, false, true, false, false, true, false, true, false, false, false, true, false, false, false, false, false] rfl rfl (take_ofW HT_.out HW_.out (by kernel_rfl)) (fun _ _ _ h => h) (Or.inl ⟨by rfl, ?_⟩) hHeld ?_ ?_
    rotate_left
    ·rintro w' ⟨s0, s1, s2, s3, s4, s5, s6, s7, s8, s9, s10, s11⟩
     go_simp
     with_reducible rfl
    rotate_left
    ·simp only [Act.put, List.setIfInBounds_toArray, List.set_cons_zero, List.set_cons_succ, i64_w, i32_w]
     rfl
    refine take_ (i := 56) (N := some 72) (v := ?_) (a' := ?_) #[true, true, true, true, false, true, true, true, true, false, false, true, true, true, true, false, true, true, true, true, false, false, true, true, true, true, false, true, true, true, true, false, false, true, true, true, true, false, true, true, true, true, false, false, true, true, true, true, false, true, true, true, true, false, false, true, true, false, true, false, true, false, false, true, false, true, false, false, false, true, false, false, false, false, false] rfl rfl (take_ofW HT_.out HW_.out (by kernel_rfl)) (fun _ _ _ h => h) (Or.inl ⟨by rfl, ?_⟩) hHeld ?_ ?_
    rotate_left
    ·rintro w' ⟨s0, s1, s2, s3, s4, s5, s6, s7, s8, s9, s10, s11⟩
     go_simp
     with_reducible rfl
    rotate_left
    ·simp only [Act.put, List.setIfInBounds_toArray, List.set_cons_zero, List.set_cons_succ, i64_w, i32_w]
     rfl
    refine take_ (i := 59) (N := some 75) (v := ?_) (a' := ?_) #[true, true, true, true, false, true, true, true, true, false, false, true, true, true, true, false, true, true, true, true, false, false, true, true, true, true, false, true, true, true, true, false, false, true, true, true, true, false, true, true, true, true, false, false, true, true, true, true, false, true, true, true, true, false, false, true, true, false, true, true, true, false, false, true, false, true, false, false, false, true, false, false, false, false, false] rfl rfl (take_ofW HT_.out HW_.out (by kernel_rfl)) (fun _ _ _ h => h) (Or.inl ⟨by rfl, ?_⟩) hHeld ?_ ?_
    rotate_left
    ·rintro w' ⟨s0, s1, s2, s3, s4, s5, s6, s7, s8, s9, s10, s11⟩
     go_simp
     with_reducible rfl
    rotate_left
    ·simp only [Act.put, List.setIfInBounds_toArray, List.set_cons_zero, List.set_cons_succ, i64_w, i32_w]
     rfl
    refine take_ (i := 61) (N := some 77) (v := ?_) (a' := ?_) #[true, true, true, true, false, true, true, true, true, false, false, true, true, true, true, false, true, true, true, true, false, false, true, true, true, true, false, true, true, true, true, false, false, true, true, true, true, false, true, true, true, true, false, false, true, true, true, true, false, true, true, true, true, false, false, true, true, false, true, true, true, true, false, true, false, true, false, false, false, true, false, false, false, false, false] rfl rfl (take_ofW HT_.out HW_.out (by kernel_rfl)) (fun _ _ _ h => h) (Or.inl ⟨by rfl, ?_⟩) hHeld ?_ ?_
    rotate_left
    ·rintro w' ⟨s0, s1, s2, s3, s4, s5, s6, s7, s8, s9, s10, s11⟩
     go_simp
     with_reducible rfl
    rotate_left
    ·simp only [Act.put, List.setIfInBounds_toArray, List.set_cons_zero, List.set_cons_succ, i64_w, i32_w]
     rfl
    refine take_ (i := 64) (N := some 80) (v := ?_) (a' := ?_) #[true, true, true, true, false, true, true, true, true, false, false, true, true, true, true, false, true, true, true, true, false, false, true, true, true, true, false, true, true, true, true, false, false, true, true, true, true, false, true, true, true, true, false, false, true, true, true, true, false, true, true, true, true, false, false, true, true, false, true, true, true, true, false, true, true, true, false, false, false, true, false, false, false, false, false] rfl rfl (take_ofW HT_.out HW_.out (by kernel_rfl)) (fun _ _ _ h => h) (Or.inl ⟨by rfl, ?_⟩) hHeld ?_ ?_
    rotate_left
    ·rintro w' ⟨s0, s1, s2, s3, s4, s5, s6, s7, s8, s9, s10, s11⟩
     go_simp
     with_reducible rfl
    rotate_left
    ·simp only [Act.put, List.setIfInBounds_toArray, List.set_cons_zero, List.set_cons_succ, i64_w, i32_w]
     rfl
    refine take_ (i := 66) (N := some 82) (v := ?_) (a' := ?_) #[true, true, true, true, false, true, true, true, true, false, false, true, true, true, true, false, true, true, true, true, false, false, true, true, true, true, false, true, true, true, true, false, false, true, true, true, true, false, true, true, true, true, false, false, true, true, true, true, false, true, true, true, true, false, false, true, true, false, true, true, true, true, false, true, true, true, true, false, false, true, false, false, false, false, false] rfl rfl (take_ofW HT_.out HW_.out (by kernel_rfl)) (fun _ _ _ h => h) (Or.inl ⟨by rfl, ?_⟩) hHeld ?_ ?_
    rotate_left
    ·rintro w' ⟨s0, s1, s2, s3, s4, s5, s6, s7, s8, s9, s10, s11⟩
     go_simp
     with_reducible rfl
    rotate_left
    ·simp only [Act.put, List.setIfInBounds_toArray, List.set_cons_zero, List.set_cons_succ, i64_w, i32_w]
     rfl
    refine take_ (i := 70) (N := some 86) (v := ?_) (a' := ?_) #[true, true, true, true, false, true, true, true, true, false, false, true, true, true, true, false, true, true, true, true, false, false, true, true, true, true, false, true, true, true, true, false, false, true, true, true, true, false, true, true, true, true, false, false, true, true, true, true, false, true, true, true, true, false, false, true, true, false, true, true, true, true, false, true, true, true, true, false, false, true, true, false, false, false, false] rfl rfl (take_ofW HT_.out HW_.out (by kernel_rfl)) (fun _ _ _ h => h) (Or.inl ⟨by rfl, ?_⟩) hHeld ?_ ?_
    rotate_left
    ·rintro w' ⟨s0, s1, s2, s3, s4, s5, s6, s7, s8, s9, s10, s11⟩
     go_simp
     with_reducible rfl
    rotate_left
    ·simp only [Act.put, List.setIfInBounds_toArray, List.set_cons_zero, List.set_cons_succ, i64_w, i32_w]
     rfl
    refine join_ (σ := Nat) 1 mb0_ (fun s_ => [(20, .int .i64 t193), (25, .int .i64 t194), (31, .int .i64 t195), (36, .int .i64 t196), (42, .int .i64 t197), (47, .int .i64 t198), (53, .int .i64 t199), (58, .int .i64 t200), (64, .int .i64 t201), (69, .int .i64 t202), (78, .int .i64 t203), (83, .int .i64 t204), (6, .pointer (some ⟨s_, 0, none⟩)), (26, .int .i64 (wrap64 (t193 + t194))), (37, .int .i64 (wrap64 (t195 + t196))), (48, .int .i64 (wrap64 (t197 + t198))), (59, .int .i64 (wrap64 (t199 + t200))), (70, .int .i64 (wrap64 (t201 + t202))), (73, .int .i64 (wrap64 ((wrap64 (t201 + t202)) + a0_4))), (84, .int .i64 (wrap64 (t203 + t204))), (87, .int .i64 (wrap64 ((wrap64 (t203 + t204)) + a0_5))), (88, .agg #[.int .i64 (wrap64 (t193 + t194)), .int .i64 (wrap64 (t195 + t196)), .int .i64 (wrap64 (t197 + t198)), .int .i64 (wrap64 (t199 + t200)), .int .i64 (wrap64 ((wrap64 (t201 + t202)) + a0_4)), .int .i64 (wrap64 ((wrap64 (t203 + t204)) + a0_5))])]) (fun s_ w' => (w'.cell? ⟨gb188, 0, none⟩ = some (.int .i64 a0_0) ∧ w'.cell? ⟨gb188, 1, none⟩ = some (.int .i64 a0_1) ∧ w'.cell? ⟨gb188, 2, none⟩ = some (.int .i64 a0_2) ∧ w'.cell? ⟨gb188, 3, none⟩ = some (.int .i64 a0_3) ∧ w'.cell? ⟨gb188, 4, none⟩ = some (.int .i64 a0_4) ∧ w'.cell? ⟨gb188, 5, none⟩ = some (.int .i64 a0_5) ∧ w'.cell? ⟨gb189, 0, none⟩ = some (.int .i64 a1_0) ∧ w'.cell? ⟨gb189, 1, none⟩ = some (.int .i64 a1_1) ∧ w'.cell? ⟨gb189, 2, none⟩ = some (.int .i64 a1_2) ∧ w'.cell? ⟨gb189, 3, none⟩ = some (.int .i64 a1_3) ∧ w'.cell? ⟨gb189, 4, none⟩ = some (.int .i64 a1_4) ∧ w'.cell? ⟨gb189, 5, none⟩ = some (.int .i64 a1_5)) ∧ (w'.heap[gb188]? = some (.cells #[.int .i64 a0_0, .int .i64 a0_1, .int .i64 a0_2, .int .i64 a0_3, .int .i64 a0_4, .int .i64 a0_5] 24 (0, 0))) ∧ (w'.heap[gb189]? = some (.cells #[.int .i64 a1_0, .int .i64 a1_1, .int .i64 a1_2, .int .i64 a1_3, .int .i64 a1_4, .int .i64 a1_5] 24 (0, 0))) ∧ (w'.heap[gb190]? = some (.cells #[.int .i64 0, .int .i64 0, .int .i64 0, .int .i64 0, .int .i64 0, .int .i64 0] 24 (0, 0))) ∧ (w'.heap[s_]? = some (.cells #[.int .i64 0, .int .i64 0, .int .i64 0, .int .i64 0, .int .i64 0, .int .i64 0] 24 (0, 0))) ∧ (w.heap.size ≤ s_) ∧ (w.heap.size ≤ s_) ∧ (gb188 ≠ s_) ∧ (s_ ≠ gb188) ∧ (gb189 ≠ s_) ∧ (s_ ≠ gb189) ∧ (gb190 ≠ s_) ∧ (s_ ≠ gb190) ∧ (Below w.heap.size w w')) ?_ ?_
    rotate_left
    ·intro hJ4_9_15_20_26_31_37_42_48_53_62_67_73
     refine join_ (σ := Unit) 2 mb1_ (fun s_ => [(20, .int .i64 t193), (25, .int .i64 t194), (31, .int .i64 t195), (36, .int .i64 t196), (42, .int .i64 t197), (47, .int .i64 t198), (53, .int .i64 t199), (58, .int .i64 t200), (64, .int .i64 t201), (69, .int .i64 t202), (78, .int .i64 t203), (83, .int .i64 t204), (26, .int .i64 (wrap64 (t193 + t194))), (37, .int .i64 (wrap64 (t195 + t196))), (48, .int .i64 (wrap64 (t197 + t198))), (59, .int .i64 (wrap64 (t199 + t200))), (70, .int .i64 (wrap64 (t201 + t202))), (73, .int .i64 (wrap64 ((wrap64 (t201 + t202)) + a0_4))), (84, .int .i64 (wrap64 (t203 + t204))), (87, .int .i64 (wrap64 ((wrap64 (t203 + t204)) + a0_5))), (88, .agg #[.int .i64 (wrap64 (t193 + t194)), .int .i64 (wrap64 (t195 + t196)), .int .i64 (wrap64 (t197 + t198)), .int .i64 (wrap64 (t199 + t200)), .int .i64 (wrap64 ((wrap64 (t201 + t202)) + a0_4)), .int .i64 (wrap64 ((wrap64 (t203 + t204)) + a0_5))])]) (fun s_ w' => (w'.cell? ⟨gb188, 0, none⟩ = some (.int .i64 a0_0) ∧ w'.cell? ⟨gb188, 1, none⟩ = some (.int .i64 a0_1) ∧ w'.cell? ⟨gb188, 2, none⟩ = some (.int .i64 a0_2) ∧ w'.cell? ⟨gb188, 3, none⟩ = some (.int .i64 a0_3) ∧ w'.cell? ⟨gb188, 4, none⟩ = some (.int .i64 a0_4) ∧ w'.cell? ⟨gb188, 5, none⟩ = some (.int .i64 a0_5) ∧ w'.cell? ⟨gb189, 0, none⟩ = some (.int .i64 a1_0) ∧ w'.cell? ⟨gb189, 1, none⟩ = some (.int .i64 a1_1) ∧ w'.cell? ⟨gb189, 2, none⟩ = some (.int .i64 a1_2) ∧ w'.cell? ⟨gb189, 3, none⟩ = some (.int .i64 a1_3) ∧ w'.cell? ⟨gb189, 4, none⟩ = some (.int .i64 a1_4) ∧ w'.cell? ⟨gb189, 5, none⟩ = some (.int .i64 a1_5)) ∧ (w'.heap[gb188]? = some (.cells #[.int .i64 a0_0, .int .i64 a0_1, .int .i64 a0_2, .int .i64 a0_3, .int .i64 a0_4, .int .i64 a0_5] 24 (0, 0))) ∧ (w'.heap[gb189]? = some (.cells #[.int .i64 a1_0, .int .i64 a1_1, .int .i64 a1_2, .int .i64 a1_3, .int .i64 a1_4, .int .i64 a1_5] 24 (0, 0))) ∧ (w'.heap[gb190]? = some (.cells #[.int .i64 0, .int .i64 0, .int .i64 0, .int .i64 0, .int .i64 0, .int .i64 0] 24 (0, 0))) ∧ (Below w.heap.size w w')) ?_ ?_
     ·skip
      rintro _ w52 ⟨hS_, h0_, h1_, h2_, h3_⟩
      have n0_ := Aside0.mk h0_
      have n1_ := Aside0.mk h1_
      have n2_ := Aside0.mk h2_
      have n3_ : Aside0 (Below w.heap.size w w52) := ⟨h3_⟩
      clear BK188
      clear BK189
      clear BK190
      clear HB
      clear h0_ h1_ h2_ h3_
      have BK188 := n0_
      have BK189 := n1_
      have BK190 := n2_
      have HB := n3_
      clear n0_ n1_ n2_ n3_
      have hHeld := hS_
      try dsimp only at hHeld
      refine norm_ (a' := ?_) ?_ ?_
      rotate_left
      ·simp only [putAll, Act.put, List.setIfInBounds_toArray, List.set_cons_zero, List.set_cons_succ]
       rfl
      refine one_ (i := 73) (N := some 6) mb0_ rfl rfl (one_of HT_.out (by kernel_rfl)) (by decide) (fun K hK => ?_)
      refine box_step ?hg (N := 6) ?hd (cs := #[.int .i64 0, .int .i64 0, .int .i64 0, .int .i64 0, .int .i64 0, .int .i64 0]) (t := 24) ?hr ?_; (case hd => rfl); (case hg => rfl); (case hr => first | (go_simp; done) | (go_simp; rfl))
      intro gb205 hg w53 hbox hb
      have BK205 := Aside0.mk (hbox)
      have GW205 := Aside0.mk ((by rw [hg]; exact (below_size (by first | exact HB.out | exact pw_below_drewN HB.out _ | exact below_drew1 HB.out)) : w.heap.size ≤ gb205))
      have GE205 := Aside0.mk ((by rw [hg]; exact (below_size (by first | exact HB.out | exact pw_below_drewN HB.out _ | exact below_drew1 HB.out)) : w.heap.size ≤ gb205))
      have NB188_205 := Aside0.mk ((by rw [hg]; exact Nat.ne_of_lt (blk_lt BK188.out) : gb188 ≠ gb205))
      have NB205_188 := Aside0.mk ((by rw [hg]; exact Nat.ne_of_gt (blk_lt BK188.out) : gb205 ≠ gb188))
      have NB189_205 := Aside0.mk ((by rw [hg]; exact Nat.ne_of_lt (blk_lt BK189.out) : gb189 ≠ gb205))
      have NB205_189 := Aside0.mk ((by rw [hg]; exact Nat.ne_of_gt (blk_lt BK189.out) : gb205 ≠ gb189))
      have NB190_205 := Aside0.mk ((by rw [hg]; exact Nat.ne_of_lt (blk_lt BK190.out) : gb190 ≠ gb205))
      have NB205_190 := Aside0.mk ((by rw [hg]; exact Nat.ne_of_gt (blk_lt BK190.out) : gb205 ≠ gb190))
      replace BK188 := Aside0.mk (blkb_ hb BK188.out)
      replace BK189 := Aside0.mk (blkb_ hb BK189.out)
      replace BK190 := Aside0.mk (blkb_ hb BK190.out)
      replace HB := Aside0.mk (below_step (by first | exact HB.out | exact pw_below_drewN HB.out _ | exact below_drew1 HB.out) hb)
      clear hb hbox hg
      refine hK.out _ _ (hq_ BK188.out BK189.out) (fun hHeld => ?_)
      clear hK K
      refine norm_ (a' := ?_) ?_ ?_
      rotate_left
      ·show Act.put _ (some 6) _ = _
       simp only [Act.put, List.setIfInBounds_toArray, List.set_cons_zero, List.set_cons_succ, i64_w, i32_w]
       rfl
      exact norm_ (by simp only [putAll, Act.put, List.setIfInBounds_toArray, List.set_cons_zero, List.set_cons_succ]; first | done | rfl) (hJ4_9_15_20_26_31_37_42_48_53_62_67_73 (gb205) _ ⟨hHeld, BK188.out, BK189.out, BK190.out, BK205.out, GW205.out, GE205.out, NB188_205.out, NB205_188.out, NB189_205.out, NB205_189.out, NB190_205.out, NB205_190.out, (by first | exact HB.out | exact pw_below_drewN HB.out _ | exact below_drew1 HB.out)⟩)
     intro hJ4_9_15_20_26_31_37_42_48_53_62_67
     refine join_ (σ := Nat) 5 mb2_ (fun s_ => [(20, .int .i64 t193), (25, .int .i64 t194), (31, .int .i64 t195), (36, .int .i64 t196), (42, .int .i64 t197), (47, .int .i64 t198), (53, .int .i64 t199), (58, .int .i64 t200), (64, .int .i64 t201), (69, .int .i64 t202), (78, .int .i64 t203), (6, .pointer (some ⟨s_, 0, none⟩)), (26, .int .i64 (wrap64 (t193 + t194))), (37, .int .i64 (wrap64 (t195 + t196))), (48, .int .i64 (wrap64 (t197 + t198))), (59, .int .i64 (wrap64 (t199 + t200))), (70, .int .i64 (wrap64 (t201 + t202))), (73, .int .i64 (wrap64 ((wrap64 (t201 + t202)) + a0_4)))]) (fun s_ w' => (w'.cell? ⟨gb188, 0, none⟩ = some (.int .i64 a0_0) ∧ w'.cell? ⟨gb188, 1, none⟩ = some (.int .i64 a0_1) ∧ w'.cell? ⟨gb188, 2, none⟩ = some (.int .i64 a0_2) ∧ w'.cell? ⟨gb188, 3, none⟩ = some (.int .i64 a0_3) ∧ w'.cell? ⟨gb188, 4, none⟩ = some (.int .i64 a0_4) ∧ w'.cell? ⟨gb188, 5, none⟩ = some (.int .i64 a0_5) ∧ w'.cell? ⟨gb189, 0, none⟩ = some (.int .i64 a1_0) ∧ w'.cell? ⟨gb189, 1, none⟩ = some (.int .i64 a1_1) ∧ w'.cell? ⟨gb189, 2, none⟩ = some (.int .i64 a1_2) ∧ w'.cell? ⟨gb189, 3, none⟩ = some (.int .i64 a1_3) ∧ w'.cell? ⟨gb189, 4, none⟩ = some (.int .i64 a1_4) ∧ w'.cell? ⟨gb189, 5, none⟩ = some (.int .i64 a1_5)) ∧ (w'.heap[gb188]? = some (.cells #[.int .i64 a0_0, .int .i64 a0_1, .int .i64 a0_2, .int .i64 a0_3, .int .i64 a0_4, .int .i64 a0_5] 24 (0, 0))) ∧ (w'.heap[gb189]? = some (.cells #[.int .i64 a1_0, .int .i64 a1_1, .int .i64 a1_2, .int .i64 a1_3, .int .i64 a1_4, .int .i64 a1_5] 24 (0, 0))) ∧ (w'.heap[gb190]? = some (.cells #[.int .i64 0, .int .i64 0, .int .i64 0, .int .i64 0, .int .i64 0, .int .i64 0] 24 (0, 0))) ∧ (w'.heap[s_]? = some (.cells #[.int .i64 0, .int .i64 0, .int .i64 0, .int .i64 0, .int .i64 0, .int .i64 0] 24 (0, 0))) ∧ (w.heap.size ≤ s_) ∧ (w.heap.size ≤ s_) ∧ (gb188 ≠ s_) ∧ (s_ ≠ gb188) ∧ (gb189 ≠ s_) ∧ (s_ ≠ gb189) ∧ (gb190 ≠ s_) ∧ (s_ ≠ gb190) ∧ (Below w.heap.size w w')) ?_ ?_
     ·skip
      rintro gb205 w52 ⟨hS_, h0_, h1_, h2_, h3_, h4_, h5_, h6_, h7_, h8_, h9_, h10_, h11_, h12_⟩
      have n0_ := Aside0.mk h0_
      have n1_ := Aside0.mk h1_
      have n2_ := Aside0.mk h2_
      have n3_ := Aside0.mk h3_
      have n4_ : Aside0 (w.heap.size ≤ gb205) := ⟨h4_⟩
      have n5_ : Aside0 (w.heap.size ≤ gb205) := ⟨h5_⟩
      have n6_ : Aside0 (gb188 ≠ gb205) := ⟨h6_⟩
      have n7_ : Aside0 (gb205 ≠ gb188) := ⟨h7_⟩
      have n8_ : Aside0 (gb189 ≠ gb205) := ⟨h8_⟩
      have n9_ : Aside0 (gb205 ≠ gb189) := ⟨h9_⟩
      have n10_ : Aside0 (gb190 ≠ gb205) := ⟨h10_⟩
      have n11_ : Aside0 (gb205 ≠ gb190) := ⟨h11_⟩
      have n12_ : Aside0 (Below w.heap.size w w52) := ⟨h12_⟩
      clear BK188
      clear BK189
      clear BK190
      clear HB
      clear h0_ h1_ h2_ h3_ h4_ h5_ h6_ h7_ h8_ h9_ h10_ h11_ h12_
      have BK188 := n0_
      have BK189 := n1_
      have BK190 := n2_
      have BK205 := n3_
      have GW205 := n4_
      have GE205 := n5_
      have NB188_205 := n6_
      have NB205_188 := n7_
      have NB189_205 := n8_
      have NB205_189 := n9_
      have NB190_205 := n10_
      have NB205_190 := n11_
      have HB := n12_
      clear n0_ n1_ n2_ n3_ n4_ n5_ n6_ n7_ n8_ n9_ n10_ n11_ n12_
      have hHeld := hS_
      try dsimp only at hHeld
      refine norm_ (a' := ?_) ?_ ?_
      rotate_left
      ·simp only [putAll, Act.put, List.setIfInBounds_toArray, List.set_cons_zero, List.set_cons_succ]
       rfl
      refine one_ (i := 67) (N := some 83) #[true, true, true, true, true, true, true, true, true, true, true, true, true, true, true, true, true, true, true, true, true, true, true, true, true, true, true, true, true, true, true, true, true, true, true, true, true, true, true, true, true, true, true, true, true, true, true, true, true, true, true, true, true, true, true, true, true, true, true, true, true, true, true, true, true, true, true, true, false, true, true, false, false, true, false] rfl rfl (one_of HT_.out (by kernel_rfl)) (by decide) (fun K hK => ?_)
      refine goes_ Try.func11 (by kernel_rfl) rfl #[.int .i64 a0_3, .int .i64 a1_5] (by rfl) rfl rfl (by (try simp only [List.map_toArray, List.map_cons, List.map_nil]); first | done | rfl | (simp only [List.length_drop, List.length_take]; rfl)) ?_
      with_reducible refine (impl_FixMul.calls kj2 a0_3 a1_5 t204 _ A36.out).mono ?_
      rintro e w53 ⟨rfl, hb⟩
      refine ⟨_, rfl, ?_⟩
      replace BK188 := Aside0.mk (blkb_ hb BK188.out)
      replace BK189 := Aside0.mk (blkb_ hb BK189.out)
      replace BK190 := Aside0.mk (blkb_ hb BK190.out)
      replace BK205 := Aside0.mk (blkb_ hb BK205.out)
      replace HB := Aside0.mk (below_step (by first | exact HB.out | exact pw_below_drewN HB.out _ | exact below_drew1 HB.out) hb)
      (try clear hb);(try clear hb2);(try clear hk);(try clear hi)
      refine hK.out _ _ (hq_ BK188.out BK189.out) (fun hHeld => ?_)
      clear hK K
      refine norm_ (a' := ?_) ?_ ?_
      rotate_left
      ·show Act.put _ (some 83) _ = _
       simp only [Act.put, List.setIfInBounds_toArray, List.set_cons_zero, List.set_cons_succ, i64_w, i32_w]
       rfl
      refine pure_ (i := 68) (N := some 84) (v := ?_) (a' := ?_) #[true, true, true, true, true, true, true, true, true, true, true, true, true, true, true, true, true, true, true, true, true, true, true, true, true, true, true, true, true, true, true, true, true, true, true, true, true, true, true, true, true, true, true, true, true, true, true, true, true, true, true, true, true, true, true, true, true, true, true, true, true, true, true, true, true, true, true, true, true, true, true, false, false, true, false] rfl rfl (any_of HT_.out (by kernel_rfl)) (fun _ _ _ h => h) (Or.inl ⟨by rfl, ?_⟩) ?_ ?_
      rotate_left
      ·intro w'
       go_simp
       with_reducible rfl
      rotate_left
      ·simp only [Act.put, List.setIfInBounds_toArray, List.set_cons_zero, List.set_cons_succ, i64_w, i32_w]
       rfl
      refine pure_ (i := 71) (N := some 87) (v := ?_) (a' := ?_) #[true, true, true, true, true, true, true, true, true, true, true, true, true, true, true, true, true, true, true, true, true, true, true, true, true, true, true, true, true, true, true, true, true, true, true, true, true, true, true, true, true, true, true, true, true, true, true, true, true, true, true, true, true, true, true, true, true, true, true, true, true, true, true, true, true, true, true, true, true, true, true, true, false, true, false] rfl rfl (any_of HT_.out (by kernel_rfl)) (fun _ _ _ h => h) (Or.inl ⟨by rfl, ?_⟩) ?_ ?_
      rotate_left
      ·intro w'
       go_simp
       with_reducible rfl
      rotate_left
      ·simp only [Act.put, List.setIfInBounds_toArray, List.set_cons_zero, List.set_cons_succ, i64_w, i32_w]
       rfl
      refine pure_ (i := 72) (N := some 88) (v := ?_) (a' := ?_) mb0_ rfl rfl (any_of HT_.out (by kernel_rfl)) (fun _ _ _ h => h) (Or.inl ⟨by rfl, ?_⟩) ?_ ?_
      rotate_left
      ·intro w'
       go_simp
       with_reducible rfl
      rotate_left
      ·simp only [Act.put, List.setIfInBounds_toArray, List.set_cons_zero, List.set_cons_succ, i64_w, i32_w]
       rfl
      exact norm_ (by simp only [putAll, Act.put, List.setIfInBounds_toArray, List.set_cons_zero, List.set_cons_succ]; first | done | rfl) (hJ4_9_15_20_26_31_37_42_48_53_62_67_73 (gb205) _ ⟨hHeld, BK188.out, BK189.out, BK190.out, BK205.out, GW205.out, GE205.out, NB188_205.out, NB205_188.out, NB189_205.out, NB205_189.out, NB190_205.out, NB205_190.out, (by first | exact HB.out | exact pw_below_drewN HB.out _ | exact below_drew1 HB.out)⟩)
     intro hJ4_9_15_20_26_31_37_42_48_53_62_73
     refine join_ (σ := Unit) 6 mb3_ (fun s_ => [(20, .int .i64 t193), (25, .int .i64 t194), (31, .int .i64 t195), (36, .int .i64 t196), (42, .int .i64 t197), (47, .int .i64 t198), (53, .int .i64 t199), (58, .int .i64 t200), (64, .int .i64 t201), (69, .int .i64 t202), (78, .int .i64 t203), (26, .int .i64 (wrap64 (t193 + t194))), (37, .int .i64 (wrap64 (t195 + t196))), (48, .int .i64 (wrap64 (t197 + t198))), (59, .int .i64 (wrap64 (t199 + t200))), (70, .int .i64 (wrap64 (t201 + t202))), (73, .int .i64 (wrap64 ((wrap64 (t201 + t202)) + a0_4)))]) (fun s_ w' => (w'.cell? ⟨gb188, 0, none⟩ = some (.int .i64 a0_0) ∧ w'.cell? ⟨gb188, 1, none⟩ = some (.int .i64 a0_1) ∧ w'.cell? ⟨gb188, 2, none⟩ = some (.int .i64 a0_2) ∧ w'.cell? ⟨gb188, 3, none⟩ = some (.int .i64 a0_3) ∧ w'.cell? ⟨gb188, 4, none⟩ = some (.int .i64 a0_4) ∧ w'.cell? ⟨gb188, 5, none⟩ = some (.int .i64 a0_5) ∧ w'.cell? ⟨gb189, 0, none⟩ = some (.int .i64 a1_0) ∧ w'.cell? ⟨gb189, 1, none⟩ = some (.int .i64 a1_1) ∧ w'.cell? ⟨gb189, 2, none⟩ = some (.int .i64 a1_2) ∧ w'.cell? ⟨gb189, 3, none⟩ = some (.int .i64 a1_3) ∧ w'.cell? ⟨gb189, 4, none⟩ = some (.int .i64 a1_4) ∧ w'.cell? ⟨gb189, 5, none⟩ = some (.int .i64 a1_5)) ∧ (w'.heap[gb188]? = some (.cells #[.int .i64 a0_0, .int .i64 a0_1, .int .i64 a0_2, .int .i64 a0_3, .int .i64 a0_4, .int .i64 a0_5] 24 (0, 0))) ∧ (w'.heap[gb189]? = some (.cells #[.int .i64 a1_0, .int .i64 a1_1, .int .i64 a1_2, .int .i64 a1_3, .int .i64 a1_4, .int .i64 a1_5] 24 (0, 0))) ∧ (w'.heap[gb190]? = some (.cells #[.int .i64 0, .int .i64 0, .int .i64 0, .int .i64 0, .int .i64 0, .int .i64 0] 24 (0, 0))) ∧ (Below w.heap.size w w')) ?_ ?_
     ·skip
      rintro _ w51 ⟨hS_, h0_, h1_, h2_, h3_⟩
      have n0_ := Aside0.mk h0_
      have n1_ := Aside0.mk h1_
      have n2_ := Aside0.mk h2_
      have n3_ : Aside0 (Below w.heap.size w w51) := ⟨h3_⟩
      clear BK188
      clear BK189
      clear BK190
      clear HB
      clear h0_ h1_ h2_ h3_
      have BK188 := n0_
      have BK189 := n1_
      have BK190 := n2_
      have HB := n3_
      clear n0_ n1_ n2_ n3_
      have hHeld := hS_
      try dsimp only at hHeld
      refine norm_ (a' := ?_) ?_ ?_
      rotate_left
      ·simp only [putAll, Act.put, List.setIfInBounds_toArray, List.set_cons_zero, List.set_cons_succ]
       rfl
      refine two_ (i := 67) (j := 73) (Ni := some 83) (Nj := some 6) #[true, true, true, true, true, true, true, true, true, true, true, true, true, true, true, true, true, true, true, true, true, true, true, true, true, true, true, true, true, true, true, true, true, true, true, true, true, true, true, true, true, true, true, true, true, true, true, true, true, true, true, true, true, true, true, true, true, true, true, true, true, true, true, true, true, true, true, true, false, true, true, false, false, false, false] mb2_ rfl rfl rfl rfl (two_of HT_.out (by kernel_rfl)) (by decide) (by decide) (fun K hK => ?_) (fun K hK => ?_)
      ·skip
       refine goes_ Try.func11 (by kernel_rfl) rfl #[.int .i64 a0_3, .int .i64 a1_5] (by rfl) rfl rfl (by (try simp only [List.map_toArray, List.map_cons, List.map_nil]); first | done | rfl | (simp only [List.length_drop, List.length_take]; rfl)) ?_
       with_reducible refine (impl_FixMul.calls kj2 a0_3 a1_5 t204 _ A36.out).mono ?_
       rintro e w52 ⟨rfl, hb⟩
       refine ⟨_, rfl, ?_⟩
       replace BK188 := Aside0.mk (blkb_ hb BK188.out)
       replace BK189 := Aside0.mk (blkb_ hb BK189.out)
       replace BK190 := Aside0.mk (blkb_ hb BK190.out)
       replace HB := Aside0.mk (below_step (by first | exact HB.out | exact pw_below_drewN HB.out _ | exact below_drew1 HB.out) hb)
       (try clear hb);(try clear hb2);(try clear hk);(try clear hi)
       refine hK.out _ _ (hq_ BK188.out BK189.out) (fun hHeld => ?_)
       clear hK K
       refine norm_ (a' := ?_) ?_ ?_
       rotate_left
       ·show Act.put _ (some 83) _ = _
        simp only [Act.put, List.setIfInBounds_toArray, List.set_cons_zero, List.set_cons_succ, i64_w, i32_w]
        rfl
       refine pure_ (i := 68) (N := some 84) (v := ?_) (a' := ?_) #[true, true, true, true, true, true, true, true, true, true, true, true, true, true, true, true, true, true, true, true, true, true, true, true, true, true, true, true, true, true, true, true, true, true, true, true, true, true, true, true, true, true, true, true, true, true, true, true, true, true, true, true, true, true, true, true, true, true, true, true, true, true, true, true, true, true, true, true, true, true, true, false, false, false, false] rfl rfl (any_of HT_.out (by kernel_rfl)) (fun _ _ _ h => h) (Or.inl ⟨by rfl, ?_⟩) ?_ ?_
       rotate_left
       ·intro w'
        go_simp
        with_reducible rfl
       rotate_left
       ·simp only [Act.put, List.setIfInBounds_toArray, List.set_cons_zero, List.set_cons_succ, i64_w, i32_w]
        rfl
       refine pure_ (i := 71) (N := some 87) (v := ?_) (a' := ?_) #[true, true, true, true, true, true, true, true, true, true, true, true, true, true, true, true, true, true, true, true, true, true, true, true, true, true, true, true, true, true, true, true, true, true, true, true, true, true, true, true, true, true, true, true, true, true, true, true, true, true, true, true, true, true, true, true, true, true, true, true, true, true, true, true, true, true, true, true, true, true, true, true, false, false, false] rfl rfl (any_of HT_.out (by kernel_rfl)) (fun _ _ _ h => h) (Or.inl ⟨by rfl, ?_⟩) ?_ ?_
       rotate_left
       ·intro w'
        go_simp
        with_reducible rfl
       rotate_left
       ·simp only [Act.put, List.setIfInBounds_toArray, List.set_cons_zero, List.set_cons_succ, i64_w, i32_w]
        rfl
       refine pure_ (i := 72) (N := some 88) (v := ?_) (a' := ?_) mb1_ rfl rfl (any_of HT_.out (by kernel_rfl)) (fun _ _ _ h => h) (Or.inl ⟨by rfl, ?_⟩) ?_ ?_
       rotate_left
       ·intro w'
        go_simp
        with_reducible rfl
       rotate_left
       ·simp only [Act.put, List.setIfInBounds_toArray, List.set_cons_zero, List.set_cons_succ, i64_w, i32_w]
        rfl
       exact norm_ (by simp only [putAll, Act.put, List.setIfInBounds_toArray, List.set_cons_zero, List.set_cons_succ]; first | done | rfl) (hJ4_9_15_20_26_31_37_42_48_53_62_67 () _ ⟨hHeld, BK188.out, BK189.out, BK190.out, (by first | exact HB.out | exact pw_below_drewN HB.out _ | exact below_drew1 HB.out)⟩)
      ·skip
       refine box_step ?hg (N := 6) ?hd (cs := #[.int .i64 0, .int .i64 0, .int .i64 0, .int .i64 0, .int .i64 0, .int .i64 0]) (t := 24) ?hr ?_; (case hd => rfl); (case hg => rfl); (case hr => first | (go_simp; done) | (go_simp; rfl))
       intro gb205 hg w52 hbox hb
       have BK205 := Aside0.mk (hbox)
       have GW205 := Aside0.mk ((by rw [hg]; exact (below_size (by first | exact HB.out | exact pw_below_drewN HB.out _ | exact below_drew1 HB.out)) : w.heap.size ≤ gb205))
       have GE205 := Aside0.mk ((by rw [hg]; exact (below_size (by first | exact HB.out | exact pw_below_drewN HB.out _ | exact below_drew1 HB.out)) : w.heap.size ≤ gb205))
       have NB188_205 := Aside0.mk ((by rw [hg]; exact Nat.ne_of_lt (blk_lt BK188.out) : gb188 ≠ gb205))
       have NB205_188 := Aside0.mk ((by rw [hg]; exact Nat.ne_of_gt (blk_lt BK188.out) : gb205 ≠ gb188))
       have NB189_205 := Aside0.mk ((by rw [hg]; exact Nat.ne_of_lt (blk_lt BK189.out) : gb189 ≠ gb205))
       have NB205_189 := Aside0.mk ((by rw [hg]; exact Nat.ne_of_gt (blk_lt BK189.out) : gb205 ≠ gb189))
       have NB190_205 := Aside0.mk ((by rw [hg]; exact Nat.ne_of_lt (blk_lt BK190.out) : gb190 ≠ gb205))
       have NB205_190 := Aside0.mk ((by rw [hg]; exact Nat.ne_of_gt (blk_lt BK190.out) : gb205 ≠ gb190))
       replace BK188 := Aside0.mk (blkb_ hb BK188.out)
       replace BK189 := Aside0.mk (blkb_ hb BK189.out)
       replace BK190 := Aside0.mk (blkb_ hb BK190.out)
       replace HB := Aside0.mk (below_step (by first | exact HB.out | exact pw_below_drewN HB.out _ | exact below_drew1 HB.out) hb)
       clear hb hbox hg
       refine hK.out _ _ (hq_ BK188.out BK189.out) (fun hHeld => ?_)
       clear hK K
       refine norm_ (a' := ?_) ?_ ?_
       rotate_left
       ·show Act.put _ (some 6) _ = _
        simp only [Act.put, List.setIfInBounds_toArray, List.set_cons_zero, List.set_cons_succ, i64_w, i32_w]
        rfl
       exact norm_ (by simp only [putAll, Act.put, List.setIfInBounds_toArray, List.set_cons_zero, List.set_cons_succ]; first | done | rfl) (hJ4_9_15_20_26_31_37_42_48_53_62_73 (gb205) _ ⟨hHeld, BK188.out, BK189.out, BK190.out, BK205.out, GW205.out, GE205.out, NB188_205.out, NB205_188.out, NB189_205.out, NB205_189.out, NB190_205.out, NB205_190.out, (by first | exact HB.out | exact pw_below_drewN HB.out _ | exact below_drew1 HB.out)⟩)
     intro hJ4_9_15_20_26_31_37_42_48_53_62
     refine join_ (σ := Nat) 6 mb4_ (fun s_ => [(20, .int .i64 t193), (25, .int .i64 t194), (31, .int .i64 t195), (36, .int .i64 t196), (42, .int .i64 t197), (47, .int .i64 t198), (53, .int .i64 t199), (58, .int .i64 t200), (64, .int .i64 t201), (69, .int .i64 t202), (6, .pointer (some ⟨s_, 0, none⟩)), (26, .int .i64 (wrap64 (t193 + t194))), (37, .int .i64 (wrap64 (t195 + t196))), (48, .int .i64 (wrap64 (t197 + t198))), (59, .int .i64 (wrap64 (t199 + t200))), (70, .int .i64 (wrap64 (t201 + t202))), (73, .int .i64 (wrap64 ((wrap64 (t201 + t202)) + a0_4)))]) (fun s_ w' => (w'.cell? ⟨gb188, 0, none⟩ = some (.int .i64 a0_0) ∧ w'.cell? ⟨gb188, 1, none⟩ = some (.int .i64 a0_1) ∧ w'.cell? ⟨gb188, 2, none⟩ = some (.int .i64 a0_2) ∧ w'.cell? ⟨gb188, 3, none⟩ = some (.int .i64 a0_3) ∧ w'.cell? ⟨gb188, 4, none⟩ = some (.int .i64 a0_4) ∧ w'.cell? ⟨gb188, 5, none⟩ = some (.int .i64 a0_5) ∧ w'.cell? ⟨gb189, 0, none⟩ = some (.int .i64 a1_0) ∧ w'.cell? ⟨gb189, 1, none⟩ = some (.int .i64 a1_1) ∧ w'.cell? ⟨gb189, 2, none⟩ = some (.int .i64 a1_2) ∧ w'.cell? ⟨gb189, 3, none⟩ = some (.int .i64 a1_3) ∧ w'.cell? ⟨gb189, 4, none⟩ = some (.int .i64 a1_4) ∧ w'.cell? ⟨gb189, 5, none⟩ = some (.int .i64 a1_5)) ∧ (w'.heap[gb188]? = some (.cells #[.int .i64 a0_0, .int .i64 a0_1, .int .i64 a0_2, .int .i64 a0_3, .int .i64 a0_4, .int .i64 a0_5] 24 (0, 0))) ∧ (w'.heap[gb189]? = some (.cells #[.int .i64 a1_0, .int .i64 a1_1, .int .i64 a1_2, .int .i64 a1_3, .int .i64 a1_4, .int .i64 a1_5] 24 (0, 0))) ∧ (w'.heap[gb190]? = some (.cells #[.int .i64 0, .int .i64 0, .int .i64 0, .int .i64 0, .int .i64 0, .int .i64 0] 24 (0, 0))) ∧ (w'.heap[s_]? = some (.cells #[.int .i64 0, .int .i64 0, .int .i64 0, .int .i64 0, .int .i64 0, .int .i64 0] 24 (0, 0))) ∧ (w.heap.size ≤ s_) ∧ (w.heap.size ≤ s_) ∧ (gb188 ≠ s_) ∧ (s_ ≠ gb188) ∧ (gb189 ≠ s_) ∧ (s_ ≠ gb189) ∧ (gb190 ≠ s_) ∧ (s_ ≠ gb190) ∧ (Below w.heap.size w w')) ?_ ?_
     ·skip
      rintro gb205 w51 ⟨hS_, h0_, h1_, h2_, h3_, h4_, h5_, h6_, h7_, h8_, h9_, h10_, h11_, h12_⟩
      have n0_ := Aside0.mk h0_
      have n1_ := Aside0.mk h1_
      have n2_ := Aside0.mk h2_
      have n3_ := Aside0.mk h3_
      have n4_ : Aside0 (w.heap.size ≤ gb205) := ⟨h4_⟩
      have n5_ : Aside0 (w.heap.size ≤ gb205) := ⟨h5_⟩
      have n6_ : Aside0 (gb188 ≠ gb205) := ⟨h6_⟩
      have n7_ : Aside0 (gb205 ≠ gb188) := ⟨h7_⟩
      have n8_ : Aside0 (gb189 ≠ gb205) := ⟨h8_⟩
      have n9_ : Aside0 (gb205 ≠ gb189) := ⟨h9_⟩
      have n10_ : Aside0 (gb190 ≠ gb205) := ⟨h10_⟩
      have n11_ : Aside0 (gb205 ≠ gb190) := ⟨h11_⟩
      have n12_ : Aside0 (Below w.heap.size w w51) := ⟨h12_⟩
      clear BK188
      clear BK189
      clear BK190
      clear HB
      clear h0_ h1_ h2_ h3_ h4_ h5_ h6_ h7_ h8_ h9_ h10_ h11_ h12_
      have BK188 := n0_
      have BK189 := n1_
      have BK190 := n2_
      have BK205 := n3_
      have GW205 := n4_
      have GE205 := n5_
      have NB188_205 := n6_
      have NB205_188 := n7_
      have NB189_205 := n8_
      have NB205_189 := n9_
      have NB190_205 := n10_
      have NB205_190 := n11_
      have HB := n12_
      clear n0_ n1_ n2_ n3_ n4_ n5_ n6_ n7_ n8_ n9_ n10_ n11_ n12_
      have hHeld := hS_
      try dsimp only at hHeld
      refine norm_ (a' := ?_) ?_ ?_
      rotate_left
      ·simp only [putAll, Act.put, List.setIfInBounds_toArray, List.set_cons_zero, List.set_cons_succ]
       rfl
      refine one_ (i := 62) (N := some 78) mb2_ rfl rfl (one_of HT_.out (by kernel_rfl)) (by decide) (fun K hK => ?_)
      refine goes_ Try.func11 (by kernel_rfl) rfl #[.int .i64 a0_1, .int .i64 a1_4] (by rfl) rfl rfl (by (try simp only [List.map_toArray, List.map_cons, List.map_nil]); first | done | rfl | (simp only [List.length_drop, List.length_take]; rfl)) ?_
      with_reducible refine (impl_FixMul.calls kj2 a0_1 a1_4 t203 _ A35.out).mono ?_
      rintro e w52 ⟨rfl, hb⟩
      refine ⟨_, rfl, ?_⟩
      replace BK188 := Aside0.mk (blkb_ hb BK188.out)
      replace BK189 := Aside0.mk (blkb_ hb BK189.out)
      replace BK190 := Aside0.mk (blkb_ hb BK190.out)
      replace BK205 := Aside0.mk (blkb_ hb BK205.out)
      replace HB := Aside0.mk (below_step (by first | exact HB.out | exact pw_below_drewN HB.out _ | exact below_drew1 HB.out) hb)
      (try clear hb);(try clear hb2);(try clear hk);(try clear hi)
      refine hK.out _ _ (hq_ BK188.out BK189.out) (fun hHeld => ?_)
      clear hK K
      refine norm_ (a' := ?_) ?_ ?_
      rotate_left
      ·show Act.put _ (some 78) _ = _
       simp only [Act.put, List.setIfInBounds_toArray, List.set_cons_zero, List.set_cons_succ, i64_w, i32_w]
       rfl
      exact norm_ (by simp only [putAll, Act.put, List.setIfInBounds_toArray, List.set_cons_zero, List.set_cons_succ]; first | done | rfl) (hJ4_9_15_20_26_31_37_42_48_53_62_73 (gb205) _ ⟨hHeld, BK188.out, BK189.out, BK190.out, BK205.out, GW205.out, GE205.out, NB188_205.out, NB205_188.out, NB189_205.out, NB205_189.out, NB190_205.out, NB205_190.out, (by first | exact HB.out | exact pw_below_drewN HB.out _ | exact below_drew1 HB.out)⟩)
     intro hJ4_9_15_20_26_31_37_42_48_53_73
     refine join_ (σ := Unit) 7 mb5_ (fun s_ => [(20, .int .i64 t193), (25, .int .i64 t194), (31, .int .i64 t195), (36, .int .i64 t196), (42, .int .i64 t197), (47, .int .i64 t198), (53, .int .i64 t199), (58, .int .i64 t200), (64, .int .i64 t201), (69, .int .i64 t202), (26, .int .i64 (wrap64 (t193 + t194))), (37, .int .i64 (wrap64 (t195 + t196))), (48, .int .i64 (wrap64 (t197 + t198))), (59, .int .i64 (wrap64 (t199 + t200))), (70, .int .i64 (wrap64 (t201 + t202))), (73, .int .i64 (wrap64 ((wrap64 (t201 + t202)) + a0_4)))]) (fun s_ w' => (w'.cell? ⟨gb188, 0, none⟩ = some (.int .i64 a0_0) ∧ w'.cell? ⟨gb188, 1, none⟩ = some (.int .i64 a0_1) ∧ w'.cell? ⟨gb188, 2, none⟩ = some (.int .i64 a0_2) ∧ w'.cell? ⟨gb188, 3, none⟩ = some (.int .i64 a0_3) ∧ w'.cell? ⟨gb188, 4, none⟩ = some (.int .i64 a0_4) ∧ w'.cell? ⟨gb188, 5, none⟩ = some (.int .i64 a0_5) ∧ w'.cell? ⟨gb189, 0, none⟩ = some (.int .i64 a1_0) ∧ w'.cell? ⟨gb189, 1, none⟩ = some (.int .i64 a1_1) ∧ w'.cell? ⟨gb189, 2, none⟩ = some (.int .i64 a1_2) ∧ w'.cell? ⟨gb189, 3, none⟩ = some (.int .i64 a1_3) ∧ w'.cell? ⟨gb189, 4, none⟩ = some (.int .i64 a1_4) ∧ w'.cell? ⟨gb189, 5, none⟩ = some (.int .i64 a1_5)) ∧ (w'.heap[gb188]? = some (.cells #[.int .i64 a0_0, .int .i64 a0_1, .int .i64 a0_2, .int .i64 a0_3, .int .i64 a0_4, .int .i64 a0_5] 24 (0, 0))) ∧ (w'.heap[gb189]? = some (.cells #[.int .i64 a1_0, .int .i64 a1_1, .int .i64 a1_2, .int .i64 a1_3, .int .i64 a1_4, .int .i64 a1_5] 24 (0, 0))) ∧ (w'.heap[gb190]? = some (.cells #[.int .i64 0, .int .i64 0, .int .i64 0, .int .i64 0, .int .i64 0, .int .i64 0] 24 (0, 0))) ∧ (Below w.heap.size w w')) ?_ ?_
     ·skip
      rintro _ w50 ⟨hS_, h0_, h1_, h2_, h3_⟩
      have n0_ := Aside0.mk h0_
      have n1_ := Aside0.mk h1_
      have n2_ := Aside0.mk h2_
      have n3_ : Aside0 (Below w.heap.size w w50) := ⟨h3_⟩
      clear BK188
      clear BK189
      clear BK190
      clear HB
      clear h0_ h1_ h2_ h3_
      have BK188 := n0_
      have BK189 := n1_
      have BK190 := n2_
      have HB := n3_
      clear n0_ n1_ n2_ n3_
      have hHeld := hS_
      try dsimp only at hHeld
      refine norm_ (a' := ?_) ?_ ?_
      rotate_left
      ·simp only [putAll, Act.put, List.setIfInBounds_toArray, List.set_cons_zero, List.set_cons_succ]
       rfl
      refine two_ (i := 62) (j := 73) (Ni := some 78) (Nj := some 6) mb3_ mb4_ rfl rfl rfl rfl (two_of HT_.out (by kernel_rfl)) (by decide) (by decide) (fun K hK => ?_) (fun K hK => ?_)
      ·skip
       refine goes_ Try.func11 (by kernel_rfl) rfl #[.int .i64 a0_1, .int .i64 a1_4] (by rfl) rfl rfl (by (try simp only [List.map_toArray, List.map_cons, List.map_nil]); first | done | rfl | (simp only [List.length_drop, List.length_take]; rfl)) ?_
       with_reducible refine (impl_FixMul.calls kj2 a0_1 a1_4 t203 _ A35.out).mono ?_
       rintro e w51 ⟨rfl, hb⟩
       refine ⟨_, rfl, ?_⟩
       replace BK188 := Aside0.mk (blkb_ hb BK188.out)
       replace BK189 := Aside0.mk (blkb_ hb BK189.out)
       replace BK190 := Aside0.mk (blkb_ hb BK190.out)
       replace HB := Aside0.mk (below_step (by first | exact HB.out | exact pw_below_drewN HB.out _ | exact below_drew1 HB.out) hb)
       (try clear hb);(try clear hb2);(try clear hk);(try clear hi)
       refine hK.out _ _ (hq_ BK188.out BK189.out) (fun hHeld => ?_)
       clear hK K
       refine norm_ (a' := ?_) ?_ ?_
       rotate_left
       ·show Act.put _ (some 78) _ = _
        simp only [Act.put, List.setIfInBounds_toArray, List.set_cons_zero, List.set_cons_succ, i64_w, i32_w]
        rfl
       exact norm_ (by simp only [putAll, Act.put, List.setIfInBounds_toArray, List.set_cons_zero, List.set_cons_succ]; first | done | rfl) (hJ4_9_15_20_26_31_37_42_48_53_62 () _ ⟨hHeld, BK188.out, BK189.out, BK190.out, (by first | exact HB.out | exact pw_below_drewN HB.out _ | exact below_drew1 HB.out)⟩)
      ·skip
       refine box_step ?hg (N := 6) ?hd (cs := #[.int .i64 0, .int .i64 0, .int .i64 0, .int .i64 0, .int .i64 0, .int .i64 0]) (t := 24) ?hr ?_; (case hd => rfl); (case hg => rfl); (case hr => first | (go_simp; done) | (go_simp; rfl))
       intro gb205 hg w51 hbox hb
       have BK205 := Aside0.mk (hbox)
       have GW205 := Aside0.mk ((by rw [hg]; exact (below_size (by first | exact HB.out | exact pw_below_drewN HB.out _ | exact below_drew1 HB.out)) : w.heap.size ≤ gb205))
       have GE205 := Aside0.mk ((by rw [hg]; exact (below_size (by first | exact HB.out | exact pw_below_drewN HB.out _ | exact below_drew1 HB.out)) : w.heap.size ≤ gb205))
       have NB188_205 := Aside0.mk ((by rw [hg]; exact Nat.ne_of_lt (blk_lt BK188.out) : gb188 ≠ gb205))
       have NB205_188 := Aside0.mk ((by rw [hg]; exact Nat.ne_of_gt (blk_lt BK188.out) : gb205 ≠ gb188))
       have NB189_205 := Aside0.mk ((by rw [hg]; exact Nat.ne_of_lt (blk_lt BK189.out) : gb189 ≠ gb205))
       have NB205_189 := Aside0.mk ((by rw [hg]; exact Nat.ne_of_gt (blk_lt BK189.out) : gb205 ≠ gb189))
       have NB190_205 := Aside0.mk ((by rw [hg]; exact Nat.ne_of_lt (blk_lt BK190.out) : gb190 ≠ gb205))
       have NB205_190 := Aside0.mk ((by rw [hg]; exact Nat.ne_of_gt (blk_lt BK190.out) : gb205 ≠ gb190))
       replace BK188 := Aside0.mk (blkb_ hb BK188.out)
       replace BK189 := Aside0.mk (blkb_ hb BK189.out)
       replace BK190 := Aside0.mk (blkb_ hb BK190.out)
       replace HB := Aside0.mk (below_step (by first | exact HB.out | exact pw_below_drewN HB.out _ | exact below_drew1 HB.out) hb)
       clear hb hbox hg
       refine hK.out _ _ (hq_ BK188.out BK189.out) (fun hHeld => ?_)
       clear hK K
       refine norm_ (a' := ?_) ?_ ?_
       rotate_left
       ·show Act.put _ (some 6) _ = _
        simp only [Act.put, List.setIfInBounds_toArray, List.set_cons_zero, List.set_cons_succ, i64_w, i32_w]
        rfl
       exact norm_ (by simp only [putAll, Act.put, List.setIfInBounds_toArray, List.set_cons_zero, List.set_cons_succ]; first | done | rfl) (hJ4_9_15_20_26_31_37_42_48_53_73 (gb205) _ ⟨hHeld, BK188.out, BK189.out, BK190.out, BK205.out, GW205.out, GE205.out, NB188_205.out, NB205_188.out, NB189_205.out, NB205_189.out, NB190_205.out, NB205_190.out, (by first | exact HB.out | exact pw_below_drewN HB.out _ | exact below_drew1 HB.out)⟩)
     intro hJ4_9_15_20_26_31_37_42_48_53
     refine join_ (σ := Nat) 9 mb6_ (fun s_ => [(20, .int .i64 t193), (25, .int .i64 t194), (31, .int .i64 t195), (36, .int .i64 t196), (42, .int .i64 t197), (47, .int .i64 t198), (53, .int .i64 t199), (58, .int .i64 t200), (64, .int .i64 t201), (6, .pointer (some ⟨s_, 0, none⟩)), (26, .int .i64 (wrap64 (t193 + t194))), (37, .int .i64 (wrap64 (t195 + t196))), (48, .int .i64 (wrap64 (t197 + t198))), (59, .int .i64 (wrap64 (t199 + t200)))]) (fun s_ w' => (w'.cell? ⟨gb188, 0, none⟩ = some (.int .i64 a0_0) ∧ w'.cell? ⟨gb188, 1, none⟩ = some (.int .i64 a0_1) ∧ w'.cell? ⟨gb188, 2, none⟩ = some (.int .i64 a0_2) ∧ w'.cell? ⟨gb188, 3, none⟩ = some (.int .i64 a0_3) ∧ w'.cell? ⟨gb188, 4, none⟩ = some (.int .i64 a0_4) ∧ w'.cell? ⟨gb188, 5, none⟩ = some (.int .i64 a0_5) ∧ w'.cell? ⟨gb189, 0, none⟩ = some (.int .i64 a1_0) ∧ w'.cell? ⟨gb189, 1, none⟩ = some (.int .i64 a1_1) ∧ w'.cell? ⟨gb189, 2, none⟩ = some (.int .i64 a1_2) ∧ w'.cell? ⟨gb189, 3, none⟩ = some (.int .i64 a1_3) ∧ w'.cell? ⟨gb189, 4, none⟩ = some (.int .i64 a1_4) ∧ w'.cell? ⟨gb189, 5, none⟩ = some (.int .i64 a1_5)) ∧ (w'.heap[gb188]? = some (.cells #[.int .i64 a0_0, .int .i64 a0_1, .int .i64 a0_2, .int .i64 a0_3, .int .i64 a0_4, .int .i64 a0_5] 24 (0, 0))) ∧ (w'.heap[gb189]? = some (.cells #[.int .i64 a1_0, .int .i64 a1_1, .int .i64 a1_2, .int .i64 a1_3, .int .i64 a1_4, .int .i64 a1_5] 24 (0, 0))) ∧ (w'.heap[gb190]? = some (.cells #[.int .i64 0, .int .i64 0, .int .i64 0, .int .i64 0, .int .i64 0, .int .i64 0] 24 (0, 0))) ∧ (w'.heap[s_]? = some (.cells #[.int .i64 0, .int .i64 0, .int .i64 0, .int .i64 0, .int .i64 0, .int .i64 0] 24 (0, 0))) ∧ (w.heap.size ≤ s_) ∧ (w.heap.size ≤ s_) ∧ (gb188 ≠ s_) ∧ (s_ ≠ gb188) ∧ (gb189 ≠ s_) ∧ (s_ ≠ gb189) ∧ (gb190 ≠ s_) ∧ (s_ ≠ gb190) ∧ (Below w.heap.size w w')) ?_ ?_
     ·skip
      rintro gb205 w50 ⟨hS_, h0_, h1_, h2_, h3_, h4_, h5_, h6_, h7_, h8_, h9_, h10_, h11_, h12_⟩
      have n0_ := Aside0.mk h0_
      have n1_ := Aside0.mk h1_
      have n2_ := Aside0.mk h2_
      have n3_ := Aside0.mk h3_
      have n4_ : Aside0 (w.heap.size ≤ gb205) := ⟨h4_⟩
      have n5_ : Aside0 (w.heap.size ≤ gb205) := ⟨h5_⟩
      have n6_ : Aside0 (gb188 ≠ gb205) := ⟨h6_⟩
      have n7_ : Aside0 (gb205 ≠ gb188) := ⟨h7_⟩
      have n8_ : Aside0 (gb189 ≠ gb205) := ⟨h8_⟩
      have n9_ : Aside0 (gb205 ≠ gb189) := ⟨h9_⟩
      have n10_ : Aside0 (gb190 ≠ gb205) := ⟨h10_⟩
      have n11_ : Aside0 (gb205 ≠ gb190) := ⟨h11_⟩
      have n12_ : Aside0 (Below w.heap.size w w50) := ⟨h12_⟩
      clear BK188
      clear BK189
      clear BK190
      clear HB
      clear h0_ h1_ h2_ h3_ h4_ h5_ h6_ h7_ h8_ h9_ h10_ h11_ h12_
      have BK188 := n0_
      have BK189 := n1_
      have BK190 := n2_
      have BK205 := n3_
      have GW205 := n4_
      have GE205 := n5_
      have NB188_205 := n6_
      have NB205_188 := n7_
      have NB189_205 := n8_
      have NB205_189 := n9_
      have NB190_205 := n10_
      have NB205_190 := n11_
      have HB := n12_
      clear n0_ n1_ n2_ n3_ n4_ n5_ n6_ n7_ n8_ n9_ n10_ n11_ n12_
      have hHeld := hS_
      try dsimp only at hHeld
      refine norm_ (a' := ?_) ?_ ?_
      rotate_left
      ·simp only [putAll, Act.put, List.setIfInBounds_toArray, List.set_cons_zero, List.set_cons_succ]
       rfl
      refine one_ (i := 53) (N := some 69) #[true, true, true, true, true, true, true, true, true, true, true, true, true, true, true, true, true, true, true, true, true, true, true, true, true, true, true, true, true, true, true, true, true, true, true, true, true, true, true, true, true, true, true, true, true, true, true, true, true, true, true, true, true, true, false, true, true, false, true, true, true, true, false, true, true, true, true, false, false, true, true, false, false, true, false] rfl rfl (one_of HT_.out (by kernel_rfl)) (by decide) (fun K hK => ?_)
      refine goes_ Try.func11 (by kernel_rfl) rfl #[.int .i64 a0_2, .int .i64 a1_5] (by rfl) rfl rfl (by (try simp only [List.map_toArray, List.map_cons, List.map_nil]); first | done | rfl | (simp only [List.length_drop, List.length_take]; rfl)) ?_
      with_reducible refine (impl_FixMul.calls kj2 a0_2 a1_5 t202 _ A34.out).mono ?_
      rintro e w51 ⟨rfl, hb⟩
      refine ⟨_, rfl, ?_⟩
      replace BK188 := Aside0.mk (blkb_ hb BK188.out)
      replace BK189 := Aside0.mk (blkb_ hb BK189.out)
      replace BK190 := Aside0.mk (blkb_ hb BK190.out)
      replace BK205 := Aside0.mk (blkb_ hb BK205.out)
      replace HB := Aside0.mk (below_step (by first | exact HB.out | exact pw_below_drewN HB.out _ | exact below_drew1 HB.out) hb)
      (try clear hb);(try clear hb2);(try clear hk);(try clear hi)
      refine hK.out _ _ (hq_ BK188.out BK189.out) (fun hHeld => ?_)
      clear hK K
      refine norm_ (a' := ?_) ?_ ?_
      rotate_left
      ·show Act.put _ (some 69) _ = _
       simp only [Act.put, List.setIfInBounds_toArray, List.set_cons_zero, List.set_cons_succ, i64_w, i32_w]
       rfl
      refine pure_ (i := 54) (N := some 70) (v := ?_) (a' := ?_) #[true, true, true, true, true, true, true, true, true, true, true, true, true, true, true, true, true, true, true, true, true, true, true, true, true, true, true, true, true, true, true, true, true, true, true, true, true, true, true, true, true, true, true, true, true, true, true, true, true, true, true, true, true, true, true, true, true, false, true, true, true, true, false, true, true, true, true, false, false, true, true, false, false, true, false] rfl rfl (any_of HT_.out (by kernel_rfl)) (fun _ _ _ h => h) (Or.inl ⟨by rfl, ?_⟩) ?_ ?_
      rotate_left
      ·intro w'
       go_simp
       with_reducible rfl
      rotate_left
      ·simp only [Act.put, List.setIfInBounds_toArray, List.set_cons_zero, List.set_cons_succ, i64_w, i32_w]
       rfl
      refine pure_ (i := 57) (N := some 73) (v := ?_) (a' := ?_) mb4_ rfl rfl (any_of HT_.out (by kernel_rfl)) (fun _ _ _ h => h) (Or.inl ⟨by rfl, ?_⟩) ?_ ?_
      rotate_left
      ·intro w'
       go_simp
       with_reducible rfl
      rotate_left
      ·simp only [Act.put, List.setIfInBounds_toArray, List.set_cons_zero, List.set_cons_succ, i64_w, i32_w]
       rfl
      exact norm_ (by simp only [putAll, Act.put, List.setIfInBounds_toArray, List.set_cons_zero, List.set_cons_succ]; first | done | rfl) (hJ4_9_15_20_26_31_37_42_48_53_73 (gb205) _ ⟨hHeld, BK188.out, BK189.out, BK190.out, BK205.out, GW205.out, GE205.out, NB188_205.out, NB205_188.out, NB189_205.out, NB205_189.out, NB190_205.out, NB205_190.out, (by first | exact HB.out | exact pw_below_drewN HB.out _ | exact below_drew1 HB.out)⟩)
     intro hJ4_9_15_20_26_31_37_42_48_73
     refine join_ (σ := Unit) 10 mb7_ (fun s_ => [(20, .int .i64 t193), (25, .int .i64 t194), (31, .int .i64 t195), (36, .int .i64 t196), (42, .int .i64 t197), (47, .int .i64 t198), (53, .int .i64 t199), (58, .int .i64 t200), (64, .int .i64 t201), (26, .int .i64 (wrap64 (t193 + t194))), (37, .int .i64 (wrap64 (t195 + t196))), (48, .int .i64 (wrap64 (t197 + t198))), (59, .int .i64 (wrap64 (t199 + t200)))]) (fun s_ w' => (w'.cell? ⟨gb188, 0, none⟩ = some (.int .i64 a0_0) ∧ w'.cell? ⟨gb188, 1, none⟩ = some (.int .i64 a0_1) ∧ w'.cell? ⟨gb188, 2, none⟩ = some (.int .i64 a0_2) ∧ w'.cell? ⟨gb188, 3, none⟩ = some (.int .i64 a0_3) ∧ w'.cell? ⟨gb188, 4, none⟩ = some (.int .i64 a0_4) ∧ w'.cell? ⟨gb188, 5, none⟩ = some (.int .i64 a0_5) ∧ w'.cell? ⟨gb189, 0, none⟩ = some (.int .i64 a1_0) ∧ w'.cell? ⟨gb189, 1, none⟩ = some (.int .i64 a1_1) ∧ w'.cell? ⟨gb189, 2, none⟩ = some (.int .i64 a1_2) ∧ w'.cell? ⟨gb189, 3, none⟩ = some (.int .i64 a1_3) ∧ w'.cell? ⟨gb189, 4, none⟩ = some (.int .i64 a1_4) ∧ w'.cell? ⟨gb189, 5, none⟩ = some (.int .i64 a1_5)) ∧ (w'.heap[gb188]? = some (.cells #[.int .i64 a0_0, .int .i64 a0_1, .int .i64 a0_2, .int .i64 a0_3, .int .i64 a0_4, .int .i64 a0_5] 24 (0, 0))) ∧ (w'.heap[gb189]? = some (.cells #[.int .i64 a1_0, .int .i64 a1_1, .int .i64 a1_2, .int .i64 a1_3, .int .i64 a1_4, .int .i64 a1_5] 24 (0, 0))) ∧ (w'.heap[gb190]? = some (.cells #[.int .i64 0, .int .i64 0, .int .i64 0, .int .i64 0, .int .i64 0, .int .i64 0] 24 (0, 0))) ∧ (Below w.heap.size w w')) ?_ ?_
     ·skip
      rintro _ w49 ⟨hS_, h0_, h1_, h2_, h3_⟩
      have n0_ := Aside0.mk h0_
      have n1_ := Aside0.mk h1_
      have n2_ := Aside0.mk h2_
      have n3_ : Aside0 (Below w.heap.size w w49) := ⟨h3_⟩
      clear BK188
      clear BK189
      clear BK190
      clear HB
      clear h0_ h1_ h2_ h3_
      have BK188 := n0_
      have BK189 := n1_
      have BK190 := n2_
      have HB := n3_
      clear n0_ n1_ n2_ n3_
      have hHeld := hS_
      try dsimp only at hHeld
      refine norm_ (a' := ?_) ?_ ?_
      rotate_left
      ·simp only [putAll, Act.put, List.setIfInBounds_toArray, List.set_cons_zero, List.set_cons_succ]
       rfl
      refine two_ (i := 53) (j := 73) (Ni := some 69) (Nj := some 6) #[true, true, true, true, true, true, true, true, true, true, true, true, true, true, true, true, true, true, true, true, true, true, true, true, true, true, true, true, true, true, true, true, true, true, true, true, true, true, true, true, true, true, true, true, true, true, true, true, true, true, true, true, true, true, false, true, true, false, true, true, true, true, false, true, true, true, true, false, false, true, true, false, false, false, false] mb6_ rfl rfl rfl rfl (two_of HT_.out (by kernel_rfl)) (by decide) (by decide) (fun K hK => ?_) (fun K hK => ?_)
      ·skip
       refine goes_ Try.func11 (by kernel_rfl) rfl #[.int .i64 a0_2, .int .i64 a1_5] (by rfl) rfl rfl (by (try simp only [List.map_toArray, List.map_cons, List.map_nil]); first | done | rfl | (simp only [List.length_drop, List.length_take]; rfl)) ?_
       with_reducible refine (impl_FixMul.calls kj2 a0_2 a1_5 t202 _ A34.out).mono ?_
       rintro e w50 ⟨rfl, hb⟩
       refine ⟨_, rfl, ?_⟩
       replace BK188 := Aside0.mk (blkb_ hb BK188.out)
       replace BK189 := Aside0.mk (blkb_ hb BK189.out)
       replace BK190 := Aside0.mk (blkb_ hb BK190.out)
       replace HB := Aside0.mk (below_step (by first | exact HB.out | exact pw_below_drewN HB.out _ | exact below_drew1 HB.out) hb)
       (try clear hb);(try clear hb2);(try clear hk);(try clear hi)
       refine hK.out _ _ (hq_ BK188.out BK189.out) (fun hHeld => ?_)
       clear hK K
       refine norm_ (a' := ?_) ?_ ?_
       rotate_left
       ·show Act.put _ (some 69) _ = _
        simp only [Act.put, List.setIfInBounds_toArray, List.set_cons_zero, List.set_cons_succ, i64_w, i32_w]
        rfl
       refine pure_ (i := 54) (N := some 70) (v := ?_) (a' := ?_) #[true, true, true, true, true, true, true, true, true, true, true, true, true, true, true, true, true, true, true, true, true, true, true, true, true, true, true, true, true, true, true, true, true, true, true, true, true, true, true, true, true, true, true, true, true, true, true, true, true, true, true, true, true, true, true, true, true, false, true, true, true, true, false, true, true, true, true, false, false, true, true, false, false, false, false] rfl rfl (any_of HT_.out (by kernel_rfl)) (fun _ _ _ h => h) (Or.inl ⟨by rfl, ?_⟩) ?_ ?_
       rotate_left
       ·intro w'
        go_simp
        with_reducible rfl
       rotate_left
       ·simp only [Act.put, List.setIfInBounds_toArray, List.set_cons_zero, List.set_cons_succ, i64_w, i32_w]
        rfl
       refine pure_ (i := 57) (N := some 73) (v := ?_) (a' := ?_) mb5_ rfl rfl (any_of HT_.out (by kernel_rfl)) (fun _ _ _ h => h) (Or.inl ⟨by rfl, ?_⟩) ?_ ?_
       rotate_left
       ·intro w'
        go_simp
        with_reducible rfl
       rotate_left
       ·simp only [Act.put, List.setIfInBounds_toArray, List.set_cons_zero, List.set_cons_succ, i64_w, i32_w]
        rfl
       exact norm_ (by simp only [putAll, Act.put, List.setIfInBounds_toArray, List.set_cons_zero, List.set_cons_succ]; first | done | rfl) (hJ4_9_15_20_26_31_37_42_48_53 () _ ⟨hHeld, BK188.out, BK189.out, BK190.out, (by first | exact HB.out | exact pw_below_drewN HB.out _ | exact below_drew1 HB.out)⟩)
      ·skip
       refine box_step ?hg (N := 6) ?hd (cs := #[.int .i64 0, .int .i64 0, .int .i64 0, .int .i64 0, .int .i64 0, .int .i64 0]) (t := 24) ?hr ?_; (case hd => rfl); (case hg => rfl); (case hr => first | (go_simp; done) | (go_simp; rfl))
       intro gb205 hg w50 hbox hb
       have BK205 := Aside0.mk (hbox)
       have GW205 := Aside0.mk ((by rw [hg]; exact (below_size (by first | exact HB.out | exact pw_below_drewN HB.out _ | exact below_drew1 HB.out)) : w.heap.size ≤ gb205))
       have GE205 := Aside0.mk ((by rw [hg]; exact (below_size (by first | exact HB.out | exact pw_below_drewN HB.out _ | exact below_drew1 HB.out)) : w.heap.size ≤ gb205))
       have NB188_205 := Aside0.mk ((by rw [hg]; exact Nat.ne_of_lt (blk_lt BK188.out) : gb188 ≠ gb205))
       have NB205_188 := Aside0.mk ((by rw [hg]; exact Nat.ne_of_gt (blk_lt BK188.out) : gb205 ≠ gb188))
       have NB189_205 := Aside0.mk ((by rw [hg]; exact Nat.ne_of_lt (blk_lt BK189.out) : gb189 ≠ gb205))
       have NB205_189 := Aside0.mk ((by rw [hg]; exact Nat.ne_of_gt (blk_lt BK189.out) : gb205 ≠ gb189))
       have NB190_205 := Aside0.mk ((by rw [hg]; exact Nat.ne_of_lt (blk_lt BK190.out) : gb190 ≠ gb205))
       have NB205_190 := Aside0.mk ((by rw [hg]; exact Nat.ne_of_gt (blk_lt BK190.out) : gb205 ≠ gb190))
       replace BK188 := Aside0.mk (blkb_ hb BK188.out)
       replace BK189 := Aside0.mk (blkb_ hb BK189.out)
       replace BK190 := Aside0.mk (blkb_ hb BK190.out)
       replace HB := Aside0.mk (below_step (by first | exact HB.out | exact pw_below_drewN HB.out _ | exact below_drew1 HB.out) hb)
       clear hb hbox hg
       refine hK.out _ _ (hq_ BK188.out BK189.out) (fun hHeld => ?_)
       clear hK K
       refine norm_ (a' := ?_) ?_ ?_
       rotate_left
       ·show Act.put _ (some 6) _ = _
        simp only [Act.put, List.setIfInBounds_toArray, List.set_cons_zero, List.set_cons_succ, i64_w, i32_w]
        rfl
       exact norm_ (by simp only [putAll, Act.put, List.setIfInBounds_toArray, List.set_cons_zero, List.set_cons_succ]; first | done | rfl) (hJ4_9_15_20_26_31_37_42_48_73 (gb205) _ ⟨hHeld, BK188.out, BK189.out, BK190.out, BK205.out, GW205.out, GE205.out, NB188_205.out, NB205_188.out, NB189_205.out, NB205_189.out, NB190_205.out, NB205_190.out, (by first | exact HB.out | exact pw_below_drewN HB.out _ | exact below_drew1 HB.out)⟩)
     intro hJ4_9_15_20_26_31_37_42_48
     refine join_ (σ := Nat) 10 mb8_ (fun s_ => [(20, .int .i64 t193), (25, .int .i64 t194), (31, .int .i64 t195), (36, .int .i64 t196), (42, .int .i64 t197), (47, .int .i64 t198), (53, .int .i64 t199), (58, .int .i64 t200), (6, .pointer (some ⟨s_, 0, none⟩)), (26, .int .i64 (wrap64 (t193 + t194))), (37, .int .i64 (wrap64 (t195 + t196))), (48, .int .i64 (wrap64 (t197 + t198))), (59, .int .i64 (wrap64 (t199 + t200)))]) (fun s_ w' => (w'.cell? ⟨gb188, 0, none⟩ = some (.int .i64 a0_0) ∧ w'.cell? ⟨gb188, 1, none⟩ = some (.int .i64 a0_1) ∧ w'.cell? ⟨gb188, 2, none⟩ = some (.int .i64 a0_2) ∧ w'.cell? ⟨gb188, 3, none⟩ = some (.int .i64 a0_3) ∧ w'.cell? ⟨gb188, 4, none⟩ = some (.int .i64 a0_4) ∧ w'.cell? ⟨gb188, 5, none⟩ = some (.int .i64 a0_5) ∧ w'.cell? ⟨gb189, 0, none⟩ = some (.int .i64 a1_0) ∧ w'.cell? ⟨gb189, 1, none⟩ = some (.int .i64 a1_1) ∧ w'.cell? ⟨gb189, 2, none⟩ = some (.int .i64 a1_2) ∧ w'.cell? ⟨gb189, 3, none⟩ = some (.int .i64 a1_3) ∧ w'.cell? ⟨gb189, 4, none⟩ = some (.int .i64 a1_4) ∧ w'.cell? ⟨gb189, 5, none⟩ = some (.int .i64 a1_5)) ∧ (w'.heap[gb188]? = some (.cells #[.int .i64 a0_0, .int .i64 a0_1, .int .i64 a0_2, .int .i64 a0_3, .int .i64 a0_4, .int .i64 a0_5] 24 (0, 0))) ∧ (w'.heap[gb189]? = some (.cells #[.int .i64 a1_0, .int .i64 a1_1, .int .i64 a1_2, .int .i64 a1_3, .int .i64 a1_4, .int .i64 a1_5] 24 (0, 0))) ∧ (w'.heap[gb190]? = some (.cells #[.int .i64 0, .int .i64 0, .int .i64 0, .int .i64 0, .int .i64 0, .int .i64 0] 24 (0, 0))) ∧ (w'.heap[s_]? = some (.cells #[.int .i64 0, .int .i64 0, .int .i64 0, .int .i64 0, .int .i64 0, .int .i64 0] 24 (0, 0))) ∧ (w.heap.size ≤ s_) ∧ (w.heap.size ≤ s_) ∧ (gb188 ≠ s_) ∧ (s_ ≠ gb188) ∧ (gb189 ≠ s_) ∧ (s_ ≠ gb189) ∧ (gb190 ≠ s_) ∧ (s_ ≠ gb190) ∧ (Below w.heap.size w w')) ?_ ?_
     ·skip
      rintro gb205 w49 ⟨hS_, h0_, h1_, h2_, h3_, h4_, h5_, h6_, h7_, h8_, h9_, h10_, h11_, h12_⟩
      have n0_ := Aside0.mk h0_
      have n1_ := Aside0.mk h1_
      have n2_ := Aside0.mk h2_
      have n3_ := Aside0.mk h3_
      have n4_ : Aside0 (w.heap.size ≤ gb205) := ⟨h4_⟩
      have n5_ : Aside0 (w.heap.size ≤ gb205) := ⟨h5_⟩
      have n6_ : Aside0 (gb188 ≠ gb205) := ⟨h6_⟩
      have n7_ : Aside0 (gb205 ≠ gb188) := ⟨h7_⟩
      have n8_ : Aside0 (gb189 ≠ gb205) := ⟨h8_⟩
      have n9_ : Aside0 (gb205 ≠ gb189) := ⟨h9_⟩
      have n10_ : Aside0 (gb190 ≠ gb205) := ⟨h10_⟩
      have n11_ : Aside0 (gb205 ≠ gb190) := ⟨h11_⟩
      have n12_ : Aside0 (Below w.heap.size w w49) := ⟨h12_⟩
      clear BK188
      clear BK189
      clear BK190
      clear HB
      clear h0_ h1_ h2_ h3_ h4_ h5_ h6_ h7_ h8_ h9_ h10_ h11_ h12_
      have BK188 := n0_
      have BK189 := n1_
      have BK190 := n2_
      have BK205 := n3_
      have GW205 := n4_
      have GE205 := n5_
      have NB188_205 := n6_
      have NB205_188 := n7_
      have NB189_205 := n8_
      have NB205_189 := n9_
      have NB190_205 := n10_
      have NB205_190 := n11_
      have HB := n12_
      clear n0_ n1_ n2_ n3_ n4_ n5_ n6_ n7_ n8_ n9_ n10_ n11_ n12_
      have hHeld := hS_
      try dsimp only at hHeld
      refine norm_ (a' := ?_) ?_ ?_
      rotate_left
      ·simp only [putAll, Act.put, List.setIfInBounds_toArray, List.set_cons_zero, List.set_cons_succ]
       rfl
      refine one_ (i := 48) (N := some 64) mb6_ rfl rfl (one_of HT_.out (by kernel_rfl)) (by decide) (fun K hK => ?_)
      refine goes_ Try.func11 (by kernel_rfl) rfl #[.int .i64 a0_0, .int .i64 a1_4] (by rfl) rfl rfl (by (try simp only [List.map_toArray, List.map_cons, List.map_nil]); first | done | rfl | (simp only [List.length_drop, List.length_take]; rfl)) ?_
      with_reducible refine (impl_FixMul.calls kj2 a0_0 a1_4 t201 _ A33.out).mono ?_
      rintro e w50 ⟨rfl, hb⟩
      refine ⟨_, rfl, ?_⟩
      replace BK188 := Aside0.mk (blkb_ hb BK188.out)
      replace BK189 := Aside0.mk (blkb_ hb BK189.out)
      replace BK190 := Aside0.mk (blkb_ hb BK190.out)
      replace BK205 := Aside0.mk (blkb_ hb BK205.out)
      replace HB := Aside0.mk (below_step (by first | exact HB.out | exact pw_below_drewN HB.out _ | exact below_drew1 HB.out) hb)
      (try clear hb);(try clear hb2);(try clear hk);(try clear hi)
      refine hK.out _ _ (hq_ BK188.out BK189.out) (fun hHeld => ?_)
      clear hK K
      refine norm_ (a' := ?_) ?_ ?_
      rotate_left
      ·show Act.put _ (some 64) _ = _
       simp only [Act.put, List.setIfInBounds_toArray, List.set_cons_zero, List.set_cons_succ, i64_w, i32_w]
       rfl
      exact norm_ (by simp only [putAll, Act.put, List.setIfInBounds_toArray, List.set_cons_zero, List.set_cons_succ]; first | done | rfl) (hJ4_9_15_20_26_31_37_42_48_73 (gb205) _ ⟨hHeld, BK188.out, BK189.out, BK190.out, BK205.out, GW205.out, GE205.out, NB188_205.out, NB205_188.out, NB189_205.out, NB205_189.out, NB190_205.out, NB205_190.out, (by first | exact HB.out | exact pw_below_drewN HB.out _ | exact below_drew1 HB.out)⟩)
     intro hJ4_9_15_20_26_31_37_42_73
     refine join_ (σ := Unit) 11 mb9_ (fun s_ => [(20, .int .i64 t193), (25, .int .i64 t194), (31, .int .i64 t195), (36, .int .i64 t196), (42, .int .i64 t197), (47, .int .i64 t198), (53, .int .i64 t199), (58, .int .i64 t200), (26, .int .i64 (wrap64 (t193 + t194))), (37, .int .i64 (wrap64 (t195 + t196))), (48, .int .i64 (wrap64 (t197 + t198))), (59, .int .i64 (wrap64 (t199 + t200)))]) (fun s_ w' => (w'.cell? ⟨gb188, 0, none⟩ = some (.int .i64 a0_0) ∧ w'.cell? ⟨gb188, 1, none⟩ = some (.int .i64 a0_1) ∧ w'.cell? ⟨gb188, 2, none⟩ = some (.int .i64 a0_2) ∧ w'.cell? ⟨gb188, 3, none⟩ = some (.int .i64 a0_3) ∧ w'.cell? ⟨gb188, 4, none⟩ = some (.int .i64 a0_4) ∧ w'.cell? ⟨gb188, 5, none⟩ = some (.int .i64 a0_5) ∧ w'.cell? ⟨gb189, 0, none⟩ = some (.int .i64 a1_0) ∧ w'.cell? ⟨gb189, 1, none⟩ = some (.int .i64 a1_1) ∧ w'.cell? ⟨gb189, 2, none⟩ = some (.int .i64 a1_2) ∧ w'.cell? ⟨gb189, 3, none⟩ = some (.int .i64 a1_3) ∧ w'.cell? ⟨gb189, 4, none⟩ = some (.int .i64 a1_4) ∧ w'.cell? ⟨gb189, 5, none⟩ = some (.int .i64 a1_5)) ∧ (w'.heap[gb188]? = some (.cells #[.int .i64 a0_0, .int .i64 a0_1, .int .i64 a0_2, .int .i64 a0_3, .int .i64 a0_4, .int .i64 a0_5] 24 (0, 0))) ∧ (w'.heap[gb189]? = some (.cells #[.int .i64 a1_0, .int .i64 a1_1, .int .i64 a1_2, .int .i64 a1_3, .int .i64 a1_4, .int .i64 a1_5] 24 (0, 0))) ∧ (w'.heap[gb190]? = some (.cells #[.int .i64 0, .int .i64 0, .int .i64 0, .int .i64 0, .int .i64 0, .int .i64 0] 24 (0, 0))) ∧ (Below w.heap.size w w')) ?_ ?_
     ·skip
      rintro _ w48 ⟨hS_, h0_, h1_, h2_, h3_⟩
      have n0_ := Aside0.mk h0_
      have n1_ := Aside0.mk h1_
      have n2_ := Aside0.mk h2_
      have n3_ : Aside0 (Below w.heap.size w w48) := ⟨h3_⟩
      clear BK188
      clear BK189
      clear BK190
      clear HB
      clear h0_ h1_ h2_ h3_
      have BK188 := n0_
      have BK189 := n1_
      have BK190 := n2_
      have HB := n3_
      clear n0_ n1_ n2_ n3_
      have hHeld := hS_
      try dsimp only at hHeld
      refine norm_ (a' := ?_) ?_ ?_
      rotate_left
      ·simp only [putAll, Act.put, List.setIfInBounds_toArray, List.set_cons_zero, List.set_cons_succ]
       rfl
      refine two_ (i := 48) (j := 73) (Ni := some 64) (Nj := some 6) mb7_ mb8_ rfl rfl rfl rfl (two_of HT_.out (by kernel_rfl)) (by decide) (by decide) (fun K hK => ?_) (fun K hK => ?_)
      ·skip
       refine goes_ Try.func11 (by kernel_rfl) rfl #[.int .i64 a0_0, .int .i64 a1_4] (by rfl) rfl rfl (by (try simp only [List.map_toArray, List.map_cons, List.map_nil]); first | done | rfl | (simp only [List.length_drop, List.length_take]; rfl)) ?_
       with_reducible refine (impl_FixMul.calls kj2 a0_0 a1_4 t201 _ A33.out).mono ?_
       rintro e w49 ⟨rfl, hb⟩
       refine ⟨_, rfl, ?_⟩
       replace BK188 := Aside0.mk (blkb_ hb BK188.out)
       replace BK189 := Aside0.mk (blkb_ hb BK189.out)
       replace BK190 := Aside0.mk (blkb_ hb BK190.out)
       replace HB := Aside0.mk (below_step (by first | exact HB.out | exact pw_below_drewN HB.out _ | exact below_drew1 HB.out) hb)
       (try clear hb);(try clear hb2);(try clear hk);(try clear hi)
       refine hK.out _ _ (hq_ BK188.out BK189.out) (fun hHeld => ?_)
       clear hK K
       refine norm_ (a' := ?_) ?_ ?_
       rotate_left
       ·show Act.put _ (some 64) _ = _
        simp only [Act.put, List.setIfInBounds_toArray, List.set_cons_zero, List.set_cons_succ, i64_w, i32_w]
        rfl
       exact norm_ (by simp only [putAll, Act.put, List.setIfInBounds_toArray, List.set_cons_zero, List.set_cons_succ]; first | done | rfl) (hJ4_9_15_20_26_31_37_42_48 () _ ⟨hHeld, BK188.out, BK189.out, BK190.out, (by first | exact HB.out | exact pw_below_drewN HB.out _ | exact below_drew1 HB.out)⟩)
      ·skip
       refine box_step ?hg (N := 6) ?hd (cs := #[.int .i64 0, .int .i64 0, .int .i64 0, .int .i64 0, .int .i64 0, .int .i64 0]) (t := 24) ?hr ?_; (case hd => rfl); (case hg => rfl); (case hr => first | (go_simp; done) | (go_simp; rfl))
       intro gb205 hg w49 hbox hb
       have BK205 := Aside0.mk (hbox)
       have GW205 := Aside0.mk ((by rw [hg]; exact (below_size (by first | exact HB.out | exact pw_below_drewN HB.out _ | exact below_drew1 HB.out)) : w.heap.size ≤ gb205))
       have GE205 := Aside0.mk ((by rw [hg]; exact (below_size (by first | exact HB.out | exact pw_below_drewN HB.out _ | exact below_drew1 HB.out)) : w.heap.size ≤ gb205))
       have NB188_205 := Aside0.mk ((by rw [hg]; exact Nat.ne_of_lt (blk_lt BK188.out) : gb188 ≠ gb205))
       have NB205_188 := Aside0.mk ((by rw [hg]; exact Nat.ne_of_gt (blk_lt BK188.out) : gb205 ≠ gb188))
       have NB189_205 := Aside0.mk ((by rw [hg]; exact Nat.ne_of_lt (blk_lt BK189.out) : gb189 ≠ gb205))
       have NB205_189 := Aside0.mk ((by rw [hg]; exact Nat.ne_of_gt (blk_lt BK189.out) : gb205 ≠ gb189))
       have NB190_205 := Aside0.mk ((by rw [hg]; exact Nat.ne_of_lt (blk_lt BK190.out) : gb190 ≠ gb205))
       have NB205_190 := Aside0.mk ((by rw [hg]; exact Nat.ne_of_gt (blk_lt BK190.out) : gb205 ≠ gb190))
       replace BK188 := Aside0.mk (blkb_ hb BK188.out)
       replace BK189 := Aside0.mk (blkb_ hb BK189.out)
       replace BK190 := Aside0.mk (blkb_ hb BK190.out)
       replace HB := Aside0.mk (below_step (by first | exact HB.out | exact pw_below_drewN HB.out _ | exact below_drew1 HB.out) hb)
       clear hb hbox hg
       refine hK.out _ _ (hq_ BK188.out BK189.out) (fun hHeld => ?_)
       clear hK K
       refine norm_ (a' := ?_) ?_ ?_
       rotate_left
       ·show Act.put _ (some 6) _ = _
        simp only [Act.put, List.setIfInBounds_toArray, List.set_cons_zero, List.set_cons_succ, i64_w, i32_w]
        rfl
       exact norm_ (by simp only [putAll, Act.put, List.setIfInBounds_toArray, List.set_cons_zero, List.set_cons_succ]; first | done | rfl) (hJ4_9_15_20_26_31_37_42_73 (gb205) _ ⟨hHeld, BK188.out, BK189.out, BK190.out, BK205.out, GW205.out, GE205.out, NB188_205.out, NB205_188.out, NB189_205.out, NB205_189.out, NB190_205.out, NB205_190.out, (by first | exact HB.out | exact pw_below_drewN HB.out _ | exact below_drew1 HB.out)⟩)
     intro hJ4_9_15_20_26_31_37_42
     refine join_ (σ := Nat) 12 mb10_ (fun s_ => [(20, .int .i64 t193), (25, .int .i64 t194), (31, .int .i64 t195), (36, .int .i64 t196), (42, .int .i64 t197), (47, .int .i64 t198), (53, .int .i64 t199), (6, .pointer (some ⟨s_, 0, none⟩)), (26, .int .i64 (wrap64 (t193 + t194))), (37, .int .i64 (wrap64 (t195 + t196))), (48, .int .i64 (wrap64 (t197 + t198)))]) (fun s_ w' => (w'.cell? ⟨gb188, 0, none⟩ = some (.int .i64 a0_0) ∧ w'.cell? ⟨gb188, 1, none⟩ = some (.int .i64 a0_1) ∧ w'.cell? ⟨gb188, 2, none⟩ = some (.int .i64 a0_2) ∧ w'.cell? ⟨gb188, 3, none⟩ = some (.int .i64 a0_3) ∧ w'.cell? ⟨gb188, 4, none⟩ = some (.int .i64 a0_4) ∧ w'.cell? ⟨gb188, 5, none⟩ = some (.int .i64 a0_5) ∧ w'.cell? ⟨gb189, 0, none⟩ = some (.int .i64 a1_0) ∧ w'.cell? ⟨gb189, 1, none⟩ = some (.int .i64 a1_1) ∧ w'.cell? ⟨gb189, 2, none⟩ = some (.int .i64 a1_2) ∧ w'.cell? ⟨gb189, 3, none⟩ = some (.int .i64 a1_3) ∧ w'.cell? ⟨gb189, 4, none⟩ = some (.int .i64 a1_4) ∧ w'.cell? ⟨gb189, 5, none⟩ = some (.int .i64 a1_5)) ∧ (w'.heap[gb188]? = some (.cells #[.int .i64 a0_0, .int .i64 a0_1, .int .i64 a0_2, .int .i64 a0_3, .int .i64 a0_4, .int .i64 a0_5] 24 (0, 0))) ∧ (w'.heap[gb189]? = some (.cells #[.int .i64 a1_0, .int .i64 a1_1, .int .i64 a1_2, .int .i64 a1_3, .int .i64 a1_4, .int .i64 a1_5] 24 (0, 0))) ∧ (w'.heap[gb190]? = some (.cells #[.int .i64 0, .int .i64 0, .int .i64 0, .int .i64 0, .int .i64 0, .int .i64 0] 24 (0, 0))) ∧ (w'.heap[s_]? = some (.cells #[.int .i64 0, .int .i64 0, .int .i64 0, .int .i64 0, .int .i64 0, .int .i64 0] 24 (0, 0))) ∧ (w.heap.size ≤ s_) ∧ (w.heap.size ≤ s_) ∧ (gb188 ≠ s_) ∧ (s_ ≠ gb188) ∧ (gb189 ≠ s_) ∧ (s_ ≠ gb189) ∧ (gb190 ≠ s_) ∧ (s_ ≠ gb190) ∧ (Below w.heap.size w w')) ?_ ?_
     ·skip
      rintro gb205 w48 ⟨hS_, h0_, h1_, h2_, h3_, h4_, h5_, h6_, h7_, h8_, h9_, h10_, h11_, h12_⟩
      have n0_ := Aside0.mk h0_
      have n1_ := Aside0.mk h1_
      have n2_ := Aside0.mk h2_
      have n3_ := Aside0.mk h3_
      have n4_ : Aside0 (w.heap.size ≤ gb205) := ⟨h4_⟩
      have n5_ : Aside0 (w.heap.size ≤ gb205) := ⟨h5_⟩
      have n6_ : Aside0 (gb188 ≠ gb205) := ⟨h6_⟩
      have n7_ : Aside0 (gb205 ≠ gb188) := ⟨h7_⟩
      have n8_ : Aside0 (gb189 ≠ gb205) := ⟨h8_⟩
      have n9_ : Aside0 (gb205 ≠ gb189) := ⟨h9_⟩
      have n10_ : Aside0 (gb190 ≠ gb205) := ⟨h10_⟩
      have n11_ : Aside0 (gb205 ≠ gb190) := ⟨h11_⟩
      have n12_ : Aside0 (Below w.heap.size w w48) := ⟨h12_⟩
      clear BK188
      clear BK189
      clear BK190
      clear HB
      clear h0_ h1_ h2_ h3_ h4_ h5_ h6_ h7_ h8_ h9_ h10_ h11_ h12_
      have BK188 := n0_
      have BK189 := n1_
      have BK190 := n2_
      have BK205 := n3_
      have GW205 := n4_
      have GE205 := n5_
      have NB188_205 := n6_
      have NB205_188 := n7_
      have NB189_205 := n8_
      have NB205_189 := n9_
      have NB190_205 := n10_
      have NB205_190 := n11_
      have HB := n12_
      clear n0_ n1_ n2_ n3_ n4_ n5_ n6_ n7_ n8_ n9_ n10_ n11_ n12_
      have hHeld := hS_
      try dsimp only at hHeld
      refine norm_ (a' := ?_) ?_ ?_
      rotate_left
      ·simp only [putAll, Act.put, List.setIfInBounds_toArray, List.set_cons_zero, List.set_cons_succ]
       rfl
      refine one_ (i := 42) (N := some 58) #[true, true, true, true, true, true, true, true, true, true, true, true, true, true, true, true, true, true, true, true, true, true, true, true, true, true, true, true, true, true, true, true, true, true, true, true, true, true, true, true, true, true, true, false, true, true, true, true, false, true, true, true, true, false, false, true, true, false, true, true, true, true, false, true, true, true, true, false, false, true, true, false, false, true, false] rfl rfl (one_of HT_.out (by kernel_rfl)) (by decide) (fun K hK => ?_)
      refine goes_ Try.func11 (by kernel_rfl) rfl #[.int .i64 a0_3, .int .i64 a1_3] (by rfl) rfl rfl (by (try simp only [List.map_toArray, List.map_cons, List.map_nil]); first | done | rfl | (simp only [List.length_drop, List.length_take]; rfl)) ?_
      with_reducible refine (impl_FixMul.calls kj2 a0_3 a1_3 t200 _ A32.out).mono ?_
      rintro e w49 ⟨rfl, hb⟩
      refine ⟨_, rfl, ?_⟩
      replace BK188 := Aside0.mk (blkb_ hb BK188.out)
      replace BK189 := Aside0.mk (blkb_ hb BK189.out)
      replace BK190 := Aside0.mk (blkb_ hb BK190.out)
      replace BK205 := Aside0.mk (blkb_ hb BK205.out)
      replace HB := Aside0.mk (below_step (by first | exact HB.out | exact pw_below_drewN HB.out _ | exact below_drew1 HB.out) hb)
      (try clear hb);(try clear hb2);(try clear hk);(try clear hi)
      refine hK.out _ _ (hq_ BK188.out BK189.out) (fun hHeld => ?_)
      clear hK K
      refine norm_ (a' := ?_) ?_ ?_
      rotate_left
      ·show Act.put _ (some 58) _ = _
       simp only [Act.put, List.setIfInBounds_toArray, List.set_cons_zero, List.set_cons_succ, i64_w, i32_w]
       rfl
      refine pure_ (i := 43) (N := some 59) (v := ?_) (a' := ?_) mb8_ rfl rfl (any_of HT_.out (by kernel_rfl)) (fun _ _ _ h => h) (Or.inl ⟨by rfl, ?_⟩) ?_ ?_
      rotate_left
      ·intro w'
       go_simp
       with_reducible rfl
      rotate_left
      ·simp only [Act.put, List.setIfInBounds_toArray, List.set_cons_zero, List.set_cons_succ, i64_w, i32_w]
       rfl
      exact norm_ (by simp only [putAll, Act.put, List.setIfInBounds_toArray, List.set_cons_zero, List.set_cons_succ]; first | done | rfl) (hJ4_9_15_20_26_31_37_42_73 (gb205) _ ⟨hHeld, BK188.out, BK189.out, BK190.out, BK205.out, GW205.out, GE205.out, NB188_205.out, NB205_188.out, NB189_205.out, NB205_189.out, NB190_205.out, NB205_190.out, (by first | exact HB.out | exact pw_below_drewN HB.out _ | exact below_drew1 HB.out)⟩)
     intro hJ4_9_15_20_26_31_37_73
     refine join_ (σ := Unit) 13 mb11_ (fun s_ => [(20, .int .i64 t193), (25, .int .i64 t194), (31, .int .i64 t195), (36, .int .i64 t196), (42, .int .i64 t197), (47, .int .i64 t198), (53, .int .i64 t199), (26, .int .i64 (wrap64 (t193 + t194))), (37, .int .i64 (wrap64 (t195 + t196))), (48, .int .i64 (wrap64 (t197 + t198)))]) (fun s_ w' => (w'.cell? ⟨gb188, 0, none⟩ = some (.int .i64 a0_0) ∧ w'.cell? ⟨gb188, 1, none⟩ = some (.int .i64 a0_1) ∧ w'.cell? ⟨gb188, 2, none⟩ = some (.int .i64 a0_2) ∧ w'.cell? ⟨gb188, 3, none⟩ = some (.int .i64 a0_3) ∧ w'.cell? ⟨gb188, 4, none⟩ = some (.int .i64 a0_4) ∧ w'.cell? ⟨gb188, 5, none⟩ = some (.int .i64 a0_5) ∧ w'.cell? ⟨gb189, 0, none⟩ = some (.int .i64 a1_0) ∧ w'.cell? ⟨gb189, 1, none⟩ = some (.int .i64 a1_1) ∧ w'.cell? ⟨gb189, 2, none⟩ = some (.int .i64 a1_2) ∧ w'.cell? ⟨gb189, 3, none⟩ = some (.int .i64 a1_3) ∧ w'.cell? ⟨gb189, 4, none⟩ = some (.int .i64 a1_4) ∧ w'.cell? ⟨gb189, 5, none⟩ = some (.int .i64 a1_5)) ∧ (w'.heap[gb188]? = some (.cells #[.int .i64 a0_0, .int .i64 a0_1, .int .i64 a0_2, .int .i64 a0_3, .int .i64 a0_4, .int .i64 a0_5] 24 (0, 0))) ∧ (w'.heap[gb189]? = some (.cells #[.int .i64 a1_0, .int .i64 a1_1, .int .i64 a1_2, .int .i64 a1_3, .int .i64 a1_4, .int .i64 a1_5] 24 (0, 0))) ∧ (w'.heap[gb190]? = some (.cells #[.int .i64 0, .int .i64 0, .int .i64 0, .int .i64 0, .int .i64 0, .int .i64 0] 24 (0, 0))) ∧ (Below w.heap.size w w')) ?_ ?_
     ·skip
      rintro _ w47 ⟨hS_, h0_, h1_, h2_, h3_⟩
      have n0_ := Aside0.mk h0_
      have n1_ := Aside0.mk h1_
      have n2_ := Aside0.mk h2_
      have n3_ : Aside0 (Below w.heap.size w w47) := ⟨h3_⟩
      clear BK188
      clear BK189
      clear BK190
      clear HB
      clear h0_ h1_ h2_ h3_
      have BK188 := n0_
      have BK189 := n1_
      have BK190 := n2_
      have HB := n3_
      clear n0_ n1_ n2_ n3_
      have hHeld := hS_
      try dsimp only at hHeld
      refine norm_ (a' := ?_) ?_ ?_
      rotate_left
      ·simp only [putAll, Act.put, List.setIfInBounds_toArray, List.set_cons_zero, List.set_cons_succ]
       rfl
      refine two_ (i := 42) (j := 73) (Ni := some 58) (Nj := some 6) #[true, true, true, true, true, true, true, true, true, true, true, true, true, true, true, true, true, true, true, true, true, true, true, true, true, true, true, true, true, true, true, true, true, true, true, true, true, true, true, true, true, true, true, false, true, true, true, true, false, true, true, true, true, false, false, true, true, false, true, true, true, true, false, true, true, true, true, false, false, true, true, false, false, false, false] mb10_ rfl rfl rfl rfl (two_of HT_.out (by kernel_rfl)) (by decide) (by decide) (fun K hK => ?_) (fun K hK => ?_)
      ·skip
       refine goes_ Try.func11 (by kernel_rfl) rfl #[.int .i64 a0_3, .int .i64 a1_3] (by rfl) rfl rfl (by (try simp only [List.map_toArray, List.map_cons, List.map_nil]); first | done | rfl | (simp only [List.length_drop, List.length_take]; rfl)) ?_
       with_reducible refine (impl_FixMul.calls kj2 a0_3 a1_3 t200 _ A32.out).mono ?_
       rintro e w48 ⟨rfl, hb⟩
       refine ⟨_, rfl, ?_⟩
       replace BK188 := Aside0.mk (blkb_ hb BK188.out)
       replace BK189 := Aside0.mk (blkb_ hb BK189.out)
       replace BK190 := Aside0.mk (blkb_ hb BK190.out)
       replace HB := Aside0.mk (below_step (by first | exact HB.out | exact pw_below_drewN HB.out _ | exact below_drew1 HB.out) hb)
       (try clear hb);(try clear hb2);(try clear hk);(try clear hi)
       refine hK.out _ _ (hq_ BK188.out BK189.out) (fun hHeld => ?_)
       clear hK K
       refine norm_ (a' := ?_) ?_ ?_
       rotate_left
       ·show Act.put _ (some 58) _ = _
        simp only [Act.put, List.setIfInBounds_toArray, List.set_cons_zero, List.set_cons_succ, i64_w, i32_w]
        rfl
       refine pure_ (i := 43) (N := some 59) (v := ?_) (a' := ?_) mb9_ rfl rfl (any_of HT_.out (by kernel_rfl)) (fun _ _ _ h => h) (Or.inl ⟨by rfl, ?_⟩) ?_ ?_
       rotate_left
       ·intro w'
        go_simp
        with_reducible rfl
       rotate_left
       ·simp only [Act.put, List.setIfInBounds_toArray, List.set_cons_zero, List.set_cons_succ, i64_w, i32_w]
        rfl
       exact norm_ (by simp only [putAll, Act.put, List.setIfInBounds_toArray, List.set_cons_zero, List.set_cons_succ]; first | done | rfl) (hJ4_9_15_20_26_31_37_42 () _ ⟨hHeld, BK188.out, BK189.out, BK190.out, (by first | exact HB.out | exact pw_below_drewN HB.out _ | exact below_drew1 HB.out)⟩)
      ·skip
       refine box_step ?hg (N := 6) ?hd (cs := #[.int .i64 0, .int .i64 0, .int .i64 0, .int .i64 0, .int .i64 0, .int .i64 0]) (t := 24) ?hr ?_; (case hd => rfl); (case hg => rfl); (case hr => first | (go_simp; done) | (go_simp; rfl))
       intro gb205 hg w48 hbox hb
       have BK205 := Aside0.mk (hbox)
       have GW205 := Aside0.mk ((by rw [hg]; exact (below_size (by first | exact HB.out | exact pw_below_drewN HB.out _ | exact below_drew1 HB.out)) : w.heap.size ≤ gb205))
       have GE205 := Aside0.mk ((by rw [hg]; exact (below_size (by first | exact HB.out | exact pw_below_drewN HB.out _ | exact below_drew1 HB.out)) : w.heap.size ≤ gb205))
       have NB188_205 := Aside0.mk ((by rw [hg]; exact Nat.ne_of_lt (blk_lt BK188.out) : gb188 ≠ gb205))
       have NB205_188 := Aside0.mk ((by rw [hg]; exact Nat.ne_of_gt (blk_lt BK188.out) : gb205 ≠ gb188))
       have NB189_205 := Aside0.mk ((by rw [hg]; exact Nat.ne_of_lt (blk_lt BK189.out) : gb189 ≠ gb205))
       have NB205_189 := Aside0.mk ((by rw [hg]; exact Nat.ne_of_gt (blk_lt BK189.out) : gb205 ≠ gb189))
       have NB190_205 := Aside0.mk ((by rw [hg]; exact Nat.ne_of_lt (blk_lt BK190.out) : gb190 ≠ gb205))
       have NB205_190 := Aside0.mk ((by rw [hg]; exact Nat.ne_of_gt (blk_lt BK190.out) : gb205 ≠ gb190))
       replace BK188 := Aside0.mk (blkb_ hb BK188.out)
       replace BK189 := Aside0.mk (blkb_ hb BK189.out)
       replace BK190 := Aside0.mk (blkb_ hb BK190.out)
       replace HB := Aside0.mk (below_step (by first | exact HB.out | exact pw_below_drewN HB.out _ | exact below_drew1 HB.out) hb)
       clear hb hbox hg
       refine hK.out _ _ (hq_ BK188.out BK189.out) (fun hHeld => ?_)
       clear hK K
       refine norm_ (a' := ?_) ?_ ?_
       rotate_left
       ·show Act.put _ (some 6) _ = _
        simp only [Act.put, List.setIfInBounds_toArray, List.set_cons_zero, List.set_cons_succ, i64_w, i32_w]
        rfl
       exact norm_ (by simp only [putAll, Act.put, List.setIfInBounds_toArray, List.set_cons_zero, List.set_cons_succ]; first | done | rfl) (hJ4_9_15_20_26_31_37_73 (gb205) _ ⟨hHeld, BK188.out, BK189.out, BK190.out, BK205.out, GW205.out, GE205.out, NB188_205.out, NB205_188.out, NB189_205.out, NB205_189.out, NB190_205.out, NB205_190.out, (by first | exact HB.out | exact pw_below_drewN HB.out _ | exact below_drew1 HB.out)⟩)
     intro hJ4_9_15_20_26_31_37
     refine join_ (σ := Nat) 13 mb12_ (fun s_ => [(20, .int .i64 t193), (25, .int .i64 t194), (31, .int .i64 t195), (36, .int .i64 t196), (42, .int .i64 t197), (47, .int .i64 t198), (6, .pointer (some ⟨s_, 0, none⟩)), (26, .int .i64 (wrap64 (t193 + t194))), (37, .int .i64 (wrap64 (t195 + t196))), (48, .int .i64 (wrap64 (t197 + t198)))]) (fun s_ w' => (w'.cell? ⟨gb188, 0, none⟩ = some (.int .i64 a0_0) ∧ w'.cell? ⟨gb188, 1, none⟩ = some (.int .i64 a0_1) ∧ w'.cell? ⟨gb188, 2, none⟩ = some (.int .i64 a0_2) ∧ w'.cell? ⟨gb188, 3, none⟩ = some (.int .i64 a0_3) ∧ w'.cell? ⟨gb188, 4, none⟩ = some (.int .i64 a0_4) ∧ w'.cell? ⟨gb188, 5, none⟩ = some (.int .i64 a0_5) ∧ w'.cell? ⟨gb189, 0, none⟩ = some (.int .i64 a1_0) ∧ w'.cell? ⟨gb189, 1, none⟩ = some (.int .i64 a1_1) ∧ w'.cell? ⟨gb189, 2, none⟩ = some (.int .i64 a1_2) ∧ w'.cell? ⟨gb189, 3, none⟩ = some (.int .i64 a1_3) ∧ w'.cell? ⟨gb189, 4, none⟩ = some (.int .i64 a1_4) ∧ w'.cell? ⟨gb189, 5, none⟩ = some (.int .i64 a1_5)) ∧ (w'.heap[gb188]? = some (.cells #[.int .i64 a0_0, .int .i64 a0_1, .int .i64 a0_2, .int .i64 a0_3, .int .i64 a0_4, .int .i64 a0_5] 24 (0, 0))) ∧ (w'.heap[gb189]? = some (.cells #[.int .i64 a1_0, .int .i64 a1_1, .int .i64 a1_2, .int .i64 a1_3, .int .i64 a1_4, .int .i64 a1_5] 24 (0, 0))) ∧ (w'.heap[gb190]? = some (.cells #[.int .i64 0, .int .i64 0, .int .i64 0, .int .i64 0, .int .i64 0, .int .i64 0] 24 (0, 0))) ∧ (w'.heap[s_]? = some (.cells #[.int .i64 0, .int .i64 0, .int .i64 0, .int .i64 0, .int .i64 0, .int .i64 0] 24 (0, 0))) ∧ (w.heap.size ≤ s_) ∧ (w.heap.size ≤ s_) ∧ (gb188 ≠ s_) ∧ (s_ ≠ gb188) ∧ (gb189 ≠ s_) ∧ (s_ ≠ gb189) ∧ (gb190 ≠ s_) ∧ (s_ ≠ gb190) ∧ (Below w.heap.size w w')) ?_ ?_
     ·skip
      rintro gb205 w47 ⟨hS_, h0_, h1_, h2_, h3_, h4_, h5_, h6_, h7_, h8_, h9_, h10_, h11_, h12_⟩
      have n0_ := Aside0.mk h0_
      have n1_ := Aside0.mk h1_
      have n2_ := Aside0.mk h2_
      have n3_ := Aside0.mk h3_
      have n4_ : Aside0 (w.heap.size ≤ gb205) := ⟨h4_⟩
      have n5_ : Aside0 (w.heap.size ≤ gb205) := ⟨h5_⟩
      have n6_ : Aside0 (gb188 ≠ gb205) := ⟨h6_⟩
      have n7_ : Aside0 (gb205 ≠ gb188) := ⟨h7_⟩
      have n8_ : Aside0 (gb189 ≠ gb205) := ⟨h8_⟩
      have n9_ : Aside0 (gb205 ≠ gb189) := ⟨h9_⟩
      have n10_ : Aside0 (gb190 ≠ gb205) := ⟨h10_⟩
      have n11_ : Aside0 (gb205 ≠ gb190) := ⟨h11_⟩
      have n12_ : Aside0 (Below w.heap.size w w47) := ⟨h12_⟩
      clear BK188
      clear BK189
      clear BK190
      clear HB
      clear h0_ h1_ h2_ h3_ h4_ h5_ h6_ h7_ h8_ h9_ h10_ h11_ h12_
      have BK188 := n0_
      have BK189 := n1_
      have BK190 := n2_
      have BK205 := n3_
      have GW205 := n4_
      have GE205 := n5_
      have NB188_205 := n6_
      have NB205_188 := n7_
      have NB189_205 := n8_
      have NB205_189 := n9_
      have NB190_205 := n10_
      have NB205_190 := n11_
      have HB := n12_
      clear n0_ n1_ n2_ n3_ n4_ n5_ n6_ n7_ n8_ n9_ n10_ n11_ n12_
      have hHeld := hS_
      try dsimp only at hHeld
      refine norm_ (a' := ?_) ?_ ?_
      rotate_left
      ·simp only [putAll, Act.put, List.setIfInBounds_toArray, List.set_cons_zero, List.set_cons_succ]
       rfl
      refine one_ (i := 37) (N := some 53) mb10_ rfl rfl (one_of HT_.out (by kernel_rfl)) (by decide) (fun K hK => ?_)
      refine goes_ Try.func11 (by kernel_rfl) rfl #[.int .i64 a0_1, .int .i64 a1_2] (by rfl) rfl rfl (by (try simp only [List.map_toArray, List.map_cons, List.map_nil]); first | done | rfl | (simp only [List.length_drop, List.length_take]; rfl)) ?_
      with_reducible refine (impl_FixMul.calls kj2 a0_1 a1_2 t199 _ A31.out).mono ?_
      rintro e w48 ⟨rfl, hb⟩
      refine ⟨_, rfl, ?_⟩
      replace BK188 := Aside0.mk (blkb_ hb BK188.out)
      replace BK189 := Aside0.mk (blkb_ hb BK189.out)
      replace BK190 := Aside0.mk (blkb_ hb BK190.out)
      replace BK205 := Aside0.mk (blkb_ hb BK205.out)
      replace HB := Aside0.mk (below_step (by first | exact HB.out | exact pw_below_drewN HB.out _ | exact below_drew1 HB.out) hb)
      (try clear hb);(try clear hb2);(try clear hk);(try clear hi)
      refine hK.out _ _ (hq_ BK188.out BK189.out) (fun hHeld => ?_)
      clear hK K
      refine norm_ (a' := ?_) ?_ ?_
      rotate_left
      ·show Act.put _ (some 53) _ = _
       simp only [Act.put, List.setIfInBounds_toArray, List.set_cons_zero, List.set_cons_succ, i64_w, i32_w]
       rfl
      exact norm_ (by simp only [putAll, Act.put, List.setIfInBounds_toArray, List.set_cons_zero, List.set_cons_succ]; first | done | rfl) (hJ4_9_15_20_26_31_37_73 (gb205) _ ⟨hHeld, BK188.out, BK189.out, BK190.out, BK205.out, GW205.out, GE205.out, NB188_205.out, NB205_188.out, NB189_205.out, NB205_189.out, NB190_205.out, NB205_190.out, (by first | exact HB.out | exact pw_below_drewN HB.out _ | exact below_drew1 HB.out)⟩)
     intro hJ4_9_15_20_26_31_73
     refine join_ (σ := Unit) 14 mb13_ (fun s_ => [(20, .int .i64 t193), (25, .int .i64 t194), (31, .int .i64 t195), (36, .int .i64 t196), (42, .int .i64 t197), (47, .int .i64 t198), (26, .int .i64 (wrap64 (t193 + t194))), (37, .int .i64 (wrap64 (t195 + t196))), (48, .int .i64 (wrap64 (t197 + t198)))]) (fun s_ w' => (w'.cell? ⟨gb188, 0, none⟩ = some (.int .i64 a0_0) ∧ w'.cell? ⟨gb188, 1, none⟩ = some (.int .i64 a0_1) ∧ w'.cell? ⟨gb188, 2, none⟩ = some (.int .i64 a0_2) ∧ w'.cell? ⟨gb188, 3, none⟩ = some (.int .i64 a0_3) ∧ w'.cell? ⟨gb188, 4, none⟩ = some (.int .i64 a0_4) ∧ w'.cell? ⟨gb188, 5, none⟩ = some (.int .i64 a0_5) ∧ w'.cell? ⟨gb189, 0, none⟩ = some (.int .i64 a1_0) ∧ w'.cell? ⟨gb189, 1, none⟩ = some (.int .i64 a1_1) ∧ w'.cell? ⟨gb189, 2, none⟩ = some (.int .i64 a1_2) ∧ w'.cell? ⟨gb189, 3, none⟩ = some (.int .i64 a1_3) ∧ w'.cell? ⟨gb189, 4, none⟩ = some (.int .i64 a1_4) ∧ w'.cell? ⟨gb189, 5, none⟩ = some (.int .i64 a1_5)) ∧ (w'.heap[gb188]? = some (.cells #[.int .i64 a0_0, .int .i64 a0_1, .int .i64 a0_2, .int .i64 a0_3, .int .i64 a0_4, .int .i64 a0_5] 24 (0, 0))) ∧ (w'.heap[gb189]? = some (.cells #[.int .i64 a1_0, .int .i64 a1_1, .int .i64 a1_2, .int .i64 a1_3, .int .i64 a1_4, .int .i64 a1_5] 24 (0, 0))) ∧ (w'.heap[gb190]? = some (.cells #[.int .i64 0, .int .i64 0, .int .i64 0, .int .i64 0, .int .i64 0, .int .i64 0] 24 (0, 0))) ∧ (Below w.heap.size w w')) ?_ ?_
     ·skip
      rintro _ w46 ⟨hS_, h0_, h1_, h2_, h3_⟩
      have n0_ := Aside0.mk h0_
      have n1_ := Aside0.mk h1_
      have n2_ := Aside0.mk h2_
      have n3_ : Aside0 (Below w.heap.size w w46) := ⟨h3_⟩
      clear BK188
      clear BK189
      clear BK190
      clear HB
      clear h0_ h1_ h2_ h3_
      have BK188 := n0_
      have BK189 := n1_
      have BK190 := n2_
      have HB := n3_
      clear n0_ n1_ n2_ n3_
      have hHeld := hS_
      try dsimp only at hHeld
      refine norm_ (a' := ?_) ?_ ?_
      rotate_left
      ·simp only [putAll, Act.put, List.setIfInBounds_toArray, List.set_cons_zero, List.set_cons_succ]
       rfl
      refine two_ (i := 37) (j := 73) (Ni := some 53) (Nj := some 6) mb11_ mb12_ rfl rfl rfl rfl (two_of HT_.out (by kernel_rfl)) (by decide) (by decide) (fun K hK => ?_) (fun K hK => ?_)
      ·skip
       refine goes_ Try.func11 (by kernel_rfl) rfl #[.int .i64 a0_1, .int .i64 a1_2] (by rfl) rfl rfl (by (try simp only [List.map_toArray, List.map_cons, List.map_nil]); first | done | rfl | (simp only [List.length_drop, List.length_take]; rfl)) ?_
       with_reducible refine (impl_FixMul.calls kj2 a0_1 a1_2 t199 _ A31.out).mono ?_
       rintro e w47 ⟨rfl, hb⟩
       refine ⟨_, rfl, ?_⟩
       replace BK188 := Aside0.mk (blkb_ hb BK188.out)
       replace BK189 := Aside0.mk (blkb_ hb BK189.out)
       replace BK190 := Aside0.mk (blkb_ hb BK190.out)
       replace HB := Aside0.mk (below_step (by first | exact HB.out | exact pw_below_drewN HB.out _ | exact below_drew1 HB.out) hb)
       (try clear hb);(try clear hb2);(try clear hk);(try clear hi)
       refine hK.out _ _ (hq_ BK188.out BK189.out) (fun hHeld => ?_)
       clear hK K
       refine norm_ (a' := ?_) ?_ ?_
       rotate_left
       ·show Act.put _ (some 53) _ = _
        simp only [Act.put, List.setIfInBounds_toArray, List.set_cons_zero, List.set_cons_succ, i64_w, i32_w]
        rfl
       exact norm_ (by simp only [putAll, Act.put, List.setIfInBounds_toArray, List.set_cons_zero, List.set_cons_succ]; first | done | rfl) (hJ4_9_15_20_26_31_37 () _ ⟨hHeld, BK188.out, BK189.out, BK190.out, (by first | exact HB.out | exact pw_below_drewN HB.out _ | exact below_drew1 HB.out)⟩)
      ·skip
       refine box_step ?hg (N := 6) ?hd (cs := #[.int .i64 0, .int .i64 0, .int .i64 0, .int .i64 0, .int .i64 0, .int .i64 0]) (t := 24) ?hr ?_; (case hd => rfl); (case hg => rfl); (case hr => first | (go_simp; done) | (go_simp; rfl))
       intro gb205 hg w47 hbox hb
       have BK205 := Aside0.mk (hbox)
       have GW205 := Aside0.mk ((by rw [hg]; exact (below_size (by first | exact HB.out | exact pw_below_drewN HB.out _ | exact below_drew1 HB.out)) : w.heap.size ≤ gb205))
       have GE205 := Aside0.mk ((by rw [hg]; exact (below_size (by first | exact HB.out | exact pw_below_drewN HB.out _ | exact below_drew1 HB.out)) : w.heap.size ≤ gb205))
       have NB188_205 := Aside0.mk ((by rw [hg]; exact Nat.ne_of_lt (blk_lt BK188.out) : gb188 ≠ gb205))
       have NB205_188 := Aside0.mk ((by rw [hg]; exact Nat.ne_of_gt (blk_lt BK188.out) : gb205 ≠ gb188))
       have NB189_205 := Aside0.mk ((by rw [hg]; exact Nat.ne_of_lt (blk_lt BK189.out) : gb189 ≠ gb205))
       have NB205_189 := Aside0.mk ((by rw [hg]; exact Nat.ne_of_gt (blk_lt BK189.out) : gb205 ≠ gb189))
       have NB190_205 := Aside0.mk ((by rw [hg]; exact Nat.ne_of_lt (blk_lt BK190.out) : gb190 ≠ gb205))
       have NB205_190 := Aside0.mk ((by rw [hg]; exact Nat.ne_of_gt (blk_lt BK190.out) : gb205 ≠ gb190))
       replace BK188 := Aside0.mk (blkb_ hb BK188.out)
       replace BK189 := Aside0.mk (blkb_ hb BK189.out)
       replace BK190 := Aside0.mk (blkb_ hb BK190.out)
       replace HB := Aside0.mk (below_step (by first | exact HB.out | exact pw_below_drewN HB.out _ | exact below_drew1 HB.out) hb)
       clear hb hbox hg
       refine hK.out _ _ (hq_ BK188.out BK189.out) (fun hHeld => ?_)
       clear hK K
       refine norm_ (a' := ?_) ?_ ?_
       rotate_left
       ·show Act.put _ (some 6) _ = _
        simp only [Act.put, List.setIfInBounds_toArray, List.set_cons_zero, List.set_cons_succ, i64_w, i32_w]
        rfl
       exact norm_ (by simp only [putAll, Act.put, List.setIfInBounds_toArray, List.set_cons_zero, List.set_cons_succ]; first | done | rfl) (hJ4_9_15_20_26_31_73 (gb205) _ ⟨hHeld, BK188.out, BK189.out, BK190.out, BK205.out, GW205.out, GE205.out, NB188_205.out, NB205_188.out, NB189_205.out, NB205_189.out, NB190_205.out, NB205_190.out, (by first | exact HB.out | exact pw_below_drewN HB.out _ | exact below_drew1 HB.out)⟩)
     intro hJ4_9_15_20_26_31
     refine join_ (σ := Nat) 15 mb14_ (fun s_ => [(20, .int .i64 t193), (25, .int .i64 t194), (31, .int .i64 t195), (36, .int .i64 t196), (42, .int .i64 t197), (6, .pointer (some ⟨s_, 0, none⟩)), (26, .int .i64 (wrap64 (t193 + t194))), (37, .int .i64 (wrap64 (t195 + t196)))]) (fun s_ w' => (w'.cell? ⟨gb188, 0, none⟩ = some (.int .i64 a0_0) ∧ w'.cell? ⟨gb188, 1, none⟩ = some (.int .i64 a0_1) ∧ w'.cell? ⟨gb188, 2, none⟩ = some (.int .i64 a0_2) ∧ w'.cell? ⟨gb188, 3, none⟩ = some (.int .i64 a0_3) ∧ w'.cell? ⟨gb188, 4, none⟩ = some (.int .i64 a0_4) ∧ w'.cell? ⟨gb188, 5, none⟩ = some (.int .i64 a0_5) ∧ w'.cell? ⟨gb189, 0, none⟩ = some (.int .i64 a1_0) ∧ w'.cell? ⟨gb189, 1, none⟩ = some (.int .i64 a1_1) ∧ w'.cell? ⟨gb189, 2, none⟩ = some (.int .i64 a1_2) ∧ w'.cell? ⟨gb189, 3, none⟩ = some (.int .i64 a1_3) ∧ w'.cell? ⟨gb189, 4, none⟩ = some (.int .i64 a1_4) ∧ w'.cell? ⟨gb189, 5, none⟩ = some (.int .i64 a1_5)) ∧ (w'.heap[gb188]? = some (.cells #[.int .i64 a0_0, .int .i64 a0_1, .int .i64 a0_2, .int .i64 a0_3, .int .i64 a0_4, .int .i64 a0_5] 24 (0, 0))) ∧ (w'.heap[gb189]? = some (.cells #[.int .i64 a1_0, .int .i64 a1_1, .int .i64 a1_2, .int .i64 a1_3, .int .i64 a1_4, .int .i64 a1_5] 24 (0, 0))) ∧ (w'.heap[gb190]? = some (.cells #[.int .i64 0, .int .i64 0, .int .i64 0, .int .i64 0, .int .i64 0, .int .i64 0] 24 (0, 0))) ∧ (w'.heap[s_]? = some (.cells #[.int .i64 0, .int .i64 0, .int .i64 0, .int .i64 0, .int .i64 0, .int .i64 0] 24 (0, 0))) ∧ (w.heap.size ≤ s_) ∧ (w.heap.size ≤ s_) ∧ (gb188 ≠ s_) ∧ (s_ ≠ gb188) ∧ (gb189 ≠ s_) ∧ (s_ ≠ gb189) ∧ (gb190 ≠ s_) ∧ (s_ ≠ gb190) ∧ (Below w.heap.size w w')) ?_ ?_
     ·skip
      rintro gb205 w46 ⟨hS_, h0_, h1_, h2_, h3_, h4_, h5_, h6_, h7_, h8_, h9_, h10_, h11_, h12_⟩
      have n0_ := Aside0.mk h0_
      have n1_ := Aside0.mk h1_
      have n2_ := Aside0.mk h2_
      have n3_ := Aside0.mk h3_
      have n4_ : Aside0 (w.heap.size ≤ gb205) := ⟨h4_⟩
      have n5_ : Aside0 (w.heap.size ≤ gb205) := ⟨h5_⟩
      have n6_ : Aside0 (gb188 ≠ gb205) := ⟨h6_⟩
      have n7_ : Aside0 (gb205 ≠ gb188) := ⟨h7_⟩
      have n8_ : Aside0 (gb189 ≠ gb205) := ⟨h8_⟩
      have n9_ : Aside0 (gb205 ≠ gb189) := ⟨h9_⟩
      have n10_ : Aside0 (gb190 ≠ gb205) := ⟨h10_⟩
      have n11_ : Aside0 (gb205 ≠ gb190) := ⟨h11_⟩
      have n12_ : Aside0 (Below w.heap.size w w46) := ⟨h12_⟩
      clear BK188
      clear BK189
      clear BK190
      clear HB
      clear h0_ h1_ h2_ h3_ h4_ h5_ h6_ h7_ h8_ h9_ h10_ h11_ h12_
      have BK188 := n0_
      have BK189 := n1_
      have BK190 := n2_
      have BK205 := n3_
      have GW205 := n4_
      have GE205 := n5_
      have NB188_205 := n6_
      have NB205_188 := n7_
      have NB189_205 := n8_
      have NB205_189 := n9_
      have NB190_205 := n10_
      have NB205_190 := n11_
      have HB := n12_
      clear n0_ n1_ n2_ n3_ n4_ n5_ n6_ n7_ n8_ n9_ n10_ n11_ n12_
      have hHeld := hS_
      try dsimp only at hHeld
      refine norm_ (a' := ?_) ?_ ?_
      rotate_left
      ·simp only [putAll, Act.put, List.setIfInBounds_toArray, List.set_cons_zero, List.set_cons_succ]
       rfl
      refine one_ (i := 31) (N := some 47) #[true, true, true, true, true, true, true, true, true, true, true, true, true, true, true, true, true, true, true, true, true, true, true, true, true, true, true, true, true, true, true, true, false, true, true, true, true, false, true, true, true, true, false, false, true, true, true, true, false, true, true, true, true, false, false, true, true, false, true, true, true, true, false, true, true, true, true, false, false, true, true, false, false, true, false] rfl rfl (one_of HT_.out (by kernel_rfl)) (by decide) (fun K hK => ?_)
      refine goes_ Try.func11 (by kernel_rfl) rfl #[.int .i64 a0_2, .int .i64 a1_3] (by rfl) rfl rfl (by (try simp only [List.map_toArray, List.map_cons, List.map_nil]); first | done | rfl | (simp only [List.length_drop, List.length_take]; rfl)) ?_
      with_reducible refine (impl_FixMul.calls kj2 a0_2 a1_3 t198 _ A30.out).mono ?_
      rintro e w47 ⟨rfl, hb⟩
      refine ⟨_, rfl, ?_⟩
      replace BK188 := Aside0.mk (blkb_ hb BK188.out)
      replace BK189 := Aside0.mk (blkb_ hb BK189.out)
      replace BK190 := Aside0.mk (blkb_ hb BK190.out)
      replace BK205 := Aside0.mk (blkb_ hb BK205.out)
      replace HB := Aside0.mk (below_step (by first | exact HB.out | exact pw_below_drewN HB.out _ | exact below_drew1 HB.out) hb)
      (try clear hb);(try clear hb2);(try clear hk);(try clear hi)
      refine hK.out _ _ (hq_ BK188.out BK189.out) (fun hHeld => ?_)
      clear hK K
      refine norm_ (a' := ?_) ?_ ?_
      rotate_left
      ·show Act.put _ (some 47) _ = _
       simp only [Act.put, List.setIfInBounds_toArray, List.set_cons_zero, List.set_cons_succ, i64_w, i32_w]
       rfl
      refine pure_ (i := 32) (N := some 48) (v := ?_) (a' := ?_) mb12_ rfl rfl (any_of HT_.out (by kernel_rfl)) (fun _ _ _ h => h) (Or.inl ⟨by rfl, ?_⟩) ?_ ?_
      rotate_left
      ·intro w'
       go_simp
       with_reducible rfl
      rotate_left
      ·simp only [Act.put, List.setIfInBounds_toArray, List.set_cons_zero, List.set_cons_succ, i64_w, i32_w]
       rfl
      exact norm_ (by simp only [putAll, Act.put, List.setIfInBounds_toArray, List.set_cons_zero, List.set_cons_succ]; first | done | rfl) (hJ4_9_15_20_26_31_73 (gb205) _ ⟨hHeld, BK188.out, BK189.out, BK190.out, BK205.out, GW205.out, GE205.out, NB188_205.out, NB205_188.out, NB189_205.out, NB205_189.out, NB190_205.out, NB205_190.out, (by first | exact HB.out | exact pw_below_drewN HB.out _ | exact below_drew1 HB.out)⟩)
     intro hJ4_9_15_20_26_73
     refine join_ (σ := Unit) 16 mb15_ (fun s_ => [(20, .int .i64 t193), (25, .int .i64 t194), (31, .int .i64 t195), (36, .int .i64 t196), (42, .int .i64 t197), (26, .int .i64 (wrap64 (t193 + t194))), (37, .int .i64 (wrap64 (t195 + t196)))]) (fun s_ w' => (w'.cell? ⟨gb188, 0, none⟩ = some (.int .i64 a0_0) ∧ w'.cell? ⟨gb188, 1, none⟩ = some (.int .i64 a0_1) ∧ w'.cell? ⟨gb188, 2, none⟩ = some (.int .i64 a0_2) ∧ w'.cell? ⟨gb188, 3, none⟩ = some (.int .i64 a0_3) ∧ w'.cell? ⟨gb188, 4, none⟩ = some (.int .i64 a0_4) ∧ w'.cell? ⟨gb188, 5, none⟩ = some (.int .i64 a0_5) ∧ w'.cell? ⟨gb189, 0, none⟩ = some (.int .i64 a1_0) ∧ w'.cell? ⟨gb189, 1, none⟩ = some (.int .i64 a1_1) ∧ w'.cell? ⟨gb189, 2, none⟩ = some (.int .i64 a1_2) ∧ w'.cell? ⟨gb189, 3, none⟩ = some (.int .i64 a1_3) ∧ w'.cell? ⟨gb189, 4, none⟩ = some (.int .i64 a1_4) ∧ w'.cell? ⟨gb189, 5, none⟩ = some (.int .i64 a1_5)) ∧ (w'.heap[gb188]? = some (.cells #[.int .i64 a0_0, .int .i64 a0_1, .int .i64 a0_2, .int .i64 a0_3, .int .i64 a0_4, .int .i64 a0_5] 24 (0, 0))) ∧ (w'.heap[gb189]? = some (.cells #[.int .i64 a1_0, .int .i64 a1_1, .int .i64 a1_2, .int .i64 a1_3, .int .i64 a1_4, .int .i64 a1_5] 24 (0, 0))) ∧ (w'.heap[gb190]? = some (.cells #[.int .i64 0, .int .i64 0, .int .i64 0, .int .i64 0, .int .i64 0, .int .i64 0] 24 (0, 0))) ∧ (Below w.heap.size w w')) ?_ ?_
     ·skip
      rintro _ w45 ⟨hS_, h0_, h1_, h2_, h3_⟩
      have n0_ := Aside0.mk h0_
      have n1_ := Aside0.mk h1_
      have n2_ := Aside0.mk h2_
      have n3_ : Aside0 (Below w.heap.size w w45) := ⟨h3_⟩
      clear BK188
      clear BK189
      clear BK190
      clear HB
      clear h0_ h1_ h2_ h3_
      have BK188 := n0_
      have BK189 := n1_
      have BK190 := n2_
      have HB := n3_
      clear n0_ n1_ n2_ n3_
      have hHeld := hS_
      try dsimp only at hHeld
      refine norm_ (a' := ?_) ?_ ?_
      rotate_left
      ·simp only [putAll, Act.put, List.setIfInBounds_toArray, List.set_cons_zero, List.set_cons_succ]
       rfl
      refine two_ (i := 31) (j := 73) (Ni := some 47) (Nj := some 6) #[true, true, true, true, true, true, true, true, true, true, true, true, true, true, true, true, true, true, true, true, true, true, true, true, true, true, true, true, true, true, true, true, false, true, true, true, true, false, true, true, true, true, false, false, true, true, true, true, false, true, true, true, true, false, false, true, true, false, true, true, true, true, false, true, true, true, true, false, false, true, true, false, false, false, false] mb14_ rfl rfl rfl rfl (two_of HT_.out (by kernel_rfl)) (by decide) (by decide) (fun K hK => ?_) (fun K hK => ?_)
      ·skip
       refine goes_ Try.func11 (by kernel_rfl) rfl #[.int .i64 a0_2, .int .i64 a1_3] (by rfl) rfl rfl (by (try simp only [List.map_toArray, List.map_cons, List.map_nil]); first | done | rfl | (simp only [List.length_drop, List.length_take]; rfl)) ?_
       with_reducible refine (impl_FixMul.calls kj2 a0_2 a1_3 t198 _ A30.out).mono ?_
       rintro e w46 ⟨rfl, hb⟩
       refine ⟨_, rfl, ?_⟩
       replace BK188 := Aside0.mk (blkb_ hb BK188.out)
       replace BK189 := Aside0.mk (blkb_ hb BK189.out)
       replace BK190 := Aside0.mk (blkb_ hb BK190.out)
       replace HB := Aside0.mk (below_step (by first | exact HB.out | exact pw_below_drewN HB.out _ | exact below_drew1 HB.out) hb)
       (try clear hb);(try clear hb2);(try clear hk);(try clear hi)
       refine hK.out _ _ (hq_ BK188.out BK189.out) (fun hHeld => ?_)
       clear hK K
       refine norm_ (a' := ?_) ?_ ?_
       rotate_left
       ·show Act.put _ (some 47) _ = _
        simp only [Act.put, List.setIfInBounds_toArray, List.set_cons_zero, List.set_cons_succ, i64_w, i32_w]
        rfl
       refine pure_ (i := 32) (N := some 48) (v := ?_) (a' := ?_) mb13_ rfl rfl (any_of HT_.out (by kernel_rfl)) (fun _ _ _ h => h) (Or.inl ⟨by rfl, ?_⟩) ?_ ?_
       rotate_left
       ·intro w'
        go_simp
        with_reducible rfl
       rotate_left
       ·simp only [Act.put, List.setIfInBounds_toArray, List.set_cons_zero, List.set_cons_succ, i64_w, i32_w]
        rfl
       exact norm_ (by simp only [putAll, Act.put, List.setIfInBounds_toArray, List.set_cons_zero, List.set_cons_succ]; first | done | rfl) (hJ4_9_15_20_26_31 () _ ⟨hHeld, BK188.out, BK189.out, BK190.out, (by first | exact HB.out | exact pw_below_drewN HB.out _ | exact below_drew1 HB.out)⟩)
      ·skip
       refine box_step ?hg (N := 6) ?hd (cs := #[.int .i64 0, .int .i64 0, .int .i64 0, .int .i64 0, .int .i64 0, .int .i64 0]) (t := 24) ?hr ?_; (case hd => rfl); (case hg => rfl); (case hr => first | (go_simp; done) | (go_simp; rfl))
       intro gb205 hg w46 hbox hb
       have BK205 := Aside0.mk (hbox)
       have GW205 := Aside0.mk ((by rw [hg]; exact (below_size (by first | exact HB.out | exact pw_below_drewN HB.out _ | exact below_drew1 HB.out)) : w.heap.size ≤ gb205))
       have GE205 := Aside0.mk ((by rw [hg]; exact (below_size (by first | exact HB.out | exact pw_below_drewN HB.out _ | exact below_drew1 HB.out)) : w.heap.size ≤ gb205))
       have NB188_205 := Aside0.mk ((by rw [hg]; exact Nat.ne_of_lt (blk_lt BK188.out) : gb188 ≠ gb205))
       have NB205_188 := Aside0.mk ((by rw [hg]; exact Nat.ne_of_gt (blk_lt BK188.out) : gb205 ≠ gb188))
       have NB189_205 := Aside0.mk ((by rw [hg]; exact Nat.ne_of_lt (blk_lt BK189.out) : gb189 ≠ gb205))
       have NB205_189 := Aside0.mk ((by rw [hg]; exact Nat.ne_of_gt (blk_lt BK189.out) : gb205 ≠ gb189))
       have NB190_205 := Aside0.mk ((by rw [hg]; exact Nat.ne_of_lt (blk_lt BK190.out) : gb190 ≠ gb205))
       have NB205_190 := Aside0.mk ((by rw [hg]; exact Nat.ne_of_gt (blk_lt BK190.out) : gb205 ≠ gb190))
       replace BK188 := Aside0.mk (blkb_ hb BK188.out)
       replace BK189 := Aside0.mk (blkb_ hb BK189.out)
       replace BK190 := Aside0.mk (blkb_ hb BK190.out)
       replace HB := Aside0.mk (below_step (by first | exact HB.out | exact pw_below_drewN HB.out _ | exact below_drew1 HB.out) hb)
       clear hb hbox hg
       refine hK.out _ _ (hq_ BK188.out BK189.out) (fun hHeld => ?_)
       clear hK K
       refine norm_ (a' := ?_) ?_ ?_
       rotate_left
       ·show Act.put _ (some 6) _ = _
        simp only [Act.put, List.setIfInBounds_toArray, List.set_cons_zero, List.set_cons_succ, i64_w, i32_w]
        rfl
       exact norm_ (by simp only [putAll, Act.put, List.setIfInBounds_toArray, List.set_cons_zero, List.set_cons_succ]; first | done | rfl) (hJ4_9_15_20_26_73 (gb205) _ ⟨hHeld, BK188.out, BK189.out, BK190.out, BK205.out, GW205.out, GE205.out, NB188_205.out, NB205_188.out, NB189_205.out, NB205_189.out, NB190_205.out, NB205_190.out, (by first | exact HB.out | exact pw_below_drewN HB.out _ | exact below_drew1 HB.out)⟩)
     intro hJ4_9_15_20_26
     refine join_ (σ := Nat) 16 mb16_ (fun s_ => [(20, .int .i64 t193), (25, .int .i64 t194), (31, .int .i64 t195), (36, .int .i64 t196), (6, .pointer (some ⟨s_, 0, none⟩)), (26, .int .i64 (wrap64 (t193 + t194))), (37, .int .i64 (wrap64 (t195 + t196)))]) (fun s_ w' => (w'.cell? ⟨gb188, 0, none⟩ = some (.int .i64 a0_0) ∧ w'.cell? ⟨gb188, 1, none⟩ = some (.int .i64 a0_1) ∧ w'.cell? ⟨gb188, 2, none⟩ = some (.int .i64 a0_2) ∧ w'.cell? ⟨gb188, 3, none⟩ = some (.int .i64 a0_3) ∧ w'.cell? ⟨gb188, 4, none⟩ = some (.int .i64 a0_4) ∧ w'.cell? ⟨gb188, 5, none⟩ = some (.int .i64 a0_5) ∧ w'.cell? ⟨gb189, 0, none⟩ = some (.int .i64 a1_0) ∧ w'.cell? ⟨gb189, 1, none⟩ = some (.int .i64 a1_1) ∧ w'.cell? ⟨gb189, 2, none⟩ = some (.int .i64 a1_2) ∧ w'.cell? ⟨gb189, 3, none⟩ = some (.int .i64 a1_3) ∧ w'.cell? ⟨gb189, 4, none⟩ = some (.int .i64 a1_4) ∧ w'.cell? ⟨gb189, 5, none⟩ = some (.int .i64 a1_5)) ∧ (w'.heap[gb188]? = some (.cells #[.int .i64 a0_0, .int .i64 a0_1, .int .i64 a0_2, .int .i64 a0_3, .int .i64 a0_4, .int .i64 a0_5] 24 (0, 0))) ∧ (w'.heap[gb189]? = some (.cells #[.int .i64 a1_0, .int .i64 a1_1, .int .i64 a1_2, .int .i64 a1_3, .int .i64 a1_4, .int .i64 a1_5] 24 (0, 0))) ∧ (w'.heap[gb190]? = some (.cells #[.int .i64 0, .int .i64 0, .int .i64 0, .int .i64 0, .int .i64 0, .int .i64 0] 24 (0, 0))) ∧ (w'.heap[s_]? = some (.cells #[.int .i64 0, .int .i64 0, .int .i64 0, .int .i64 0, .int .i64 0, .int .i64 0] 24 (0, 0))) ∧ (w.heap.size ≤ s_) ∧ (w.heap.size ≤ s_) ∧ (gb188 ≠ s_) ∧ (s_ ≠ gb188) ∧ (gb189 ≠ s_) ∧ (s_ ≠ gb189) ∧ (gb190 ≠ s_) ∧ (s_ ≠ gb190) ∧ (Below w.heap.size w w')) ?_ ?_
     ·skip
      rintro gb205 w45 ⟨hS_, h0_, h1_, h2_, h3_, h4_, h5_, h6_, h7_, h8_, h9_, h10_, h11_, h12_⟩
      have n0_ := Aside0.mk h0_
      have n1_ := Aside0.mk h1_
      have n2_ := Aside0.mk h2_
      have n3_ := Aside0.mk h3_
      have n4_ : Aside0 (w.heap.size ≤ gb205) := ⟨h4_⟩
      have n5_ : Aside0 (w.heap.size ≤ gb205) := ⟨h5_⟩
      have n6_ : Aside0 (gb188 ≠ gb205) := ⟨h6_⟩
      have n7_ : Aside0 (gb205 ≠ gb188) := ⟨h7_⟩
      have n8_ : Aside0 (gb189 ≠ gb205) := ⟨h8_⟩
      have n9_ : Aside0 (gb205 ≠ gb189) := ⟨h9_⟩
      have n10_ : Aside0 (gb190 ≠ gb205) := ⟨h10_⟩
      have n11_ : Aside0 (gb205 ≠ gb190) := ⟨h11_⟩
      have n12_ : Aside0 (Below w.heap.size w w45) := ⟨h12_⟩
      clear BK188
      clear BK189
      clear BK190
      clear HB
      clear h0_ h1_ h2_ h3_ h4_ h5_ h6_ h7_ h8_ h9_ h10_ h11_ h12_
      have BK188 := n0_
      have BK189 := n1_
      have BK190 := n2_
      have BK205 := n3_
      have GW205 := n4_
      have GE205 := n5_
      have NB188_205 := n6_
      have NB205_188 := n7_
      have NB189_205 := n8_
      have NB205_189 := n9_
      have NB190_205 := n10_
      have NB205_190 := n11_
      have HB := n12_
      clear n0_ n1_ n2_ n3_ n4_ n5_ n6_ n7_ n8_ n9_ n10_ n11_ n12_
      have hHeld := hS_
      try dsimp only at hHeld
      refine norm_ (a' := ?_) ?_ ?_
      rotate_left
      ·simp only [putAll, Act.put, List.setIfInBounds_toArray, List.set_cons_zero, List.set_cons_succ]
       rfl
      refine one_ (i := 26) (N := some 42) mb14_ rfl rfl (one_of HT_.out (by kernel_rfl)) (by decide) (fun K hK => ?_)
      refine goes_ Try.func11 (by kernel_rfl) rfl #[.int .i64 a0_0, .int .i64 a1_2] (by rfl) rfl rfl (by (try simp only [List.map_toArray, List.map_cons, List.map_nil]); first | done | rfl | (simp only [List.length_drop, List.length_take]; rfl)) ?_
      with_reducible refine (impl_FixMul.calls kj2 a0_0 a1_2 t197 _ A29.out).mono ?_
      rintro e w46 ⟨rfl, hb⟩
      refine ⟨_, rfl, ?_⟩
      replace BK188 := Aside0.mk (blkb_ hb BK188.out)
      replace BK189 := Aside0.mk (blkb_ hb BK189.out)
      replace BK190 := Aside0.mk (blkb_ hb BK190.out)
      replace BK205 := Aside0.mk (blkb_ hb BK205.out)
      replace HB := Aside0.mk (below_step (by first | exact HB.out | exact pw_below_drewN HB.out _ | exact below_drew1 HB.out) hb)
      (try clear hb);(try clear hb2);(try clear hk);(try clear hi)
      refine hK.out _ _ (hq_ BK188.out BK189.out) (fun hHeld => ?_)
      clear hK K
      refine norm_ (a' := ?_) ?_ ?_
      rotate_left
      ·show Act.put _ (some 42) _ = _
       simp only [Act.put, List.setIfInBounds_toArray, List.set_cons_zero, List.set_cons_succ, i64_w, i32_w]
       rfl
      exact norm_ (by simp only [putAll, Act.put, List.setIfInBounds_toArray, List.set_cons_zero, List.set_cons_succ]; first | done | rfl) (hJ4_9_15_20_26_73 (gb205) _ ⟨hHeld, BK188.out, BK189.out, BK190.out, BK205.out, GW205.out, GE205.out, NB188_205.out, NB205_188.out, NB189_205.out, NB205_189.out, NB190_205.out, NB205_190.out, (by first | exact HB.out | exact pw_below_drewN HB.out _ | exact below_drew1 HB.out)⟩)
     intro hJ4_9_15_20_73
     refine join_ (σ := Unit) 17 mb17_ (fun s_ => [(20, .int .i64 t193), (25, .int .i64 t194), (31, .int .i64 t195), (36, .int .i64 t196), (26, .int .i64 (wrap64 (t193 + t194))), (37, .int .i64 (wrap64 (t195 + t196)))]) (fun s_ w' => (w'.cell? ⟨gb188, 0, none⟩ = some (.int .i64 a0_0) ∧ w'.cell? ⟨gb188, 1, none⟩ = some (.int .i64 a0_1) ∧ w'.cell? ⟨gb188, 2, none⟩ = some (.int .i64 a0_2) ∧ w'.cell? ⟨gb188, 3, none⟩ = some (.int .i64 a0_3) ∧ w'.cell? ⟨gb188, 4, none⟩ = some (.int .i64 a0_4) ∧ w'.cell? ⟨gb188, 5, none⟩ = some (.int .i64 a0_5) ∧ w'.cell? ⟨gb189, 0, none⟩ = some (.int .i64 a1_0) ∧ w'.cell? ⟨gb189, 1, none⟩ = some (.int .i64 a1_1) ∧ w'.cell? ⟨gb189, 2, none⟩ = some (.int .i64 a1_2) ∧ w'.cell? ⟨gb189, 3, none⟩ = some (.int .i64 a1_3) ∧ w'.cell? ⟨gb189, 4, none⟩ = some (.int .i64 a1_4) ∧ w'.cell? ⟨gb189, 5, none⟩ = some (.int .i64 a1_5)) ∧ (w'.heap[gb188]? = some (.cells #[.int .i64 a0_0, .int .i64 a0_1, .int .i64 a0_2, .int .i64 a0_3, .int .i64 a0_4, .int .i64 a0_5] 24 (0, 0))) ∧ (w'.heap[gb189]? = some (.cells #[.int .i64 a1_0, .int .i64 a1_1, .int .i64 a1_2, .int .i64 a1_3, .int .i64 a1_4, .int .i64 a1_5] 24 (0, 0))) ∧ (w'.heap[gb190]? = some (.cells #[.int .i64 0, .int .i64 0, .int .i64 0, .int .i64 0, .int .i64 0, .int .i64 0] 24 (0, 0))) ∧ (Below w.heap.size w w')) ?_ ?_
     ·skip
      rintro _ w44 ⟨hS_, h0_, h1_, h2_, h3_⟩
      have n0_ := Aside0.mk h0_
      have n1_ := Aside0.mk h1_
      have n2_ := Aside0.mk h2_
      have n3_ : Aside0 (Below w.heap.size w w44) := ⟨h3_⟩
      clear BK188
      clear BK189
      clear BK190
      clear HB
      clear h0_ h1_ h2_ h3_
      have BK188 := n0_
      have BK189 := n1_
      have BK190 := n2_
      have HB := n3_
      clear n0_ n1_ n2_ n3_
      have hHeld := hS_
      try dsimp only at hHeld
      refine norm_ (a' := ?_) ?_ ?_
      rotate_left
      ·simp only [putAll, Act.put, List.setIfInBounds_toArray, List.set_cons_zero, List.set_cons_succ]
       rfl
      refine two_ (i := 26) (j := 73) (Ni := some 42) (Nj := some 6) mb15_ mb16_ rfl rfl rfl rfl (two_of HT_.out (by kernel_rfl)) (by decide) (by decide) (fun K hK => ?_) (fun K hK => ?_)
      ·skip
       refine goes_ Try.func11 (by kernel_rfl) rfl #[.int .i64 a0_0, .int .i64 a1_2] (by rfl) rfl rfl (by (try simp only [List.map_toArray, List.map_cons, List.map_nil]); first | done | rfl | (simp only [List.length_drop, List.length_take]; rfl)) ?_
       with_reducible refine (impl_FixMul.calls kj2 a0_0 a1_2 t197 _ A29.out).mono ?_
       rintro e w45 ⟨rfl, hb⟩
       refine ⟨_, rfl, ?_⟩
       replace BK188 := Aside0.mk (blkb_ hb BK188.out)
       replace BK189 := Aside0.mk (blkb_ hb BK189.out)
       replace BK190 := Aside0.mk (blkb_ hb BK190.out)
       replace HB := Aside0.mk (below_step (by first | exact HB.out | exact pw_below_drewN HB.out _ | exact below_drew1 HB.out) hb)
       (try clear hb);(try clear hb2);(try clear hk);(try clear hi)
       refine hK.out _ _ (hq_ BK188.out BK189.out) (fun hHeld => ?_)
       clear hK K
       refine norm_ (a' := ?_) ?_ ?_
       rotate_left
       ·show Act.put _ (some 42) _ = _
        simp only [Act.put, List.setIfInBounds_toArray, List.set_cons_zero, List.set_cons_succ, i64_w, i32_w]
        rfl
       exact norm_ (by simp only [putAll, Act.put, List.setIfInBounds_toArray, List.set_cons_zero, List.set_cons_succ]; first | done | rfl) (hJ4_9_15_20_26 () _ ⟨hHeld, BK188.out, BK189.out, BK190.out, (by first | exact HB.out | exact pw_below_drewN HB.out _ | exact below_drew1 HB.out)⟩)
      ·skip
       refine box_step ?hg (N := 6) ?hd (cs := #[.int .i64 0, .int .i64 0, .int .i64 0, .int .i64 0, .int .i64 0, .int .i64 0]) (t := 24) ?hr ?_; (case hd => rfl); (case hg => rfl); (case hr => first | (go_simp; done) | (go_simp; rfl))
       intro gb205 hg w45 hbox hb
       have BK205 := Aside0.mk (hbox)
       have GW205 := Aside0.mk ((by rw [hg]; exact (below_size (by first | exact HB.out | exact pw_below_drewN HB.out _ | exact below_drew1 HB.out)) : w.heap.size ≤ gb205))
       have GE205 := Aside0.mk ((by rw [hg]; exact (below_size (by first | exact HB.out | exact pw_below_drewN HB.out _ | exact below_drew1 HB.out)) : w.heap.size ≤ gb205))
       have NB188_205 := Aside0.mk ((by rw [hg]; exact Nat.ne_of_lt (blk_lt BK188.out) : gb188 ≠ gb205))
       have NB205_188 := Aside0.mk ((by rw [hg]; exact Nat.ne_of_gt (blk_lt BK188.out) : gb205 ≠ gb188))
       have NB189_205 := Aside0.mk ((by rw [hg]; exact Nat.ne_of_lt (blk_lt BK189.out) : gb189 ≠ gb205))
       have NB205_189 := Aside0.mk ((by rw [hg]; exact Nat.ne_of_gt (blk_lt BK189.out) : gb205 ≠ gb189))
       have NB190_205 := Aside0.mk ((by rw [hg]; exact Nat.ne_of_lt (blk_lt BK190.out) : gb190 ≠ gb205))
       have NB205_190 := Aside0.mk ((by rw [hg]; exact Nat.ne_of_gt (blk_lt BK190.out) : gb205 ≠ gb190))
       replace BK188 := Aside0.mk (blkb_ hb BK188.out)
       replace BK189 := Aside0.mk (blkb_ hb BK189.out)
       replace BK190 := Aside0.mk (blkb_ hb BK190.out)
       replace HB := Aside0.mk (below_step (by first | exact HB.out | exact pw_below_drewN HB.out _ | exact below_drew1 HB.out) hb)
       clear hb hbox hg
       refine hK.out _ _ (hq_ BK188.out BK189.out) (fun hHeld => ?_)
       clear hK K
       refine norm_ (a' := ?_) ?_ ?_
       rotate_left
       ·show Act.put _ (some 6) _ = _
        simp only [Act.put, List.setIfInBounds_toArray, List.set_cons_zero, List.set_cons_succ, i64_w, i32_w]
        rfl
       exact norm_ (by simp only [putAll, Act.put, List.setIfInBounds_toArray, List.set_cons_zero, List.set_cons_succ]; first | done | rfl) (hJ4_9_15_20_73 (gb205) _ ⟨hHeld, BK188.out, BK189.out, BK190.out, BK205.out, GW205.out, GE205.out, NB188_205.out, NB205_188.out, NB189_205.out, NB205_189.out, NB190_205.out, NB205_190.out, (by first | exact HB.out | exact pw_below_drewN HB.out _ | exact below_drew1 HB.out)⟩)
     intro hJ4_9_15_20
     refine join_ (σ := Nat) 18 mb18_ (fun s_ => [(20, .int .i64 t193), (25, .int .i64 t194), (31, .int .i64 t195), (6, .pointer (some ⟨s_, 0, none⟩)), (26, .int .i64 (wrap64 (t193 + t194)))]) (fun s_ w' => (w'.cell? ⟨gb188, 0, none⟩ = some (.int .i64 a0_0) ∧ w'.cell? ⟨gb188, 1, none⟩ = some (.int .i64 a0_1) ∧ w'.cell? ⟨gb188, 2, none⟩ = some (.int .i64 a0_2) ∧ w'.cell? ⟨gb188, 3, none⟩ = some (.int .i64 a0_3) ∧ w'.cell? ⟨gb188, 4, none⟩ = some (.int .i64 a0_4) ∧ w'.cell? ⟨gb188, 5, none⟩ = some (.int .i64 a0_5) ∧ w'.cell? ⟨gb189, 0, none⟩ = some (.int .i64 a1_0) ∧ w'.cell? ⟨gb189, 1, none⟩ = some (.int .i64 a1_1) ∧ w'.cell? ⟨gb189, 2, none⟩ = some (.int .i64 a1_2) ∧ w'.cell? ⟨gb189, 3, none⟩ = some (.int .i64 a1_3) ∧ w'.cell? ⟨gb189, 4, none⟩ = some (.int .i64 a1_4) ∧ w'.cell? ⟨gb189, 5, none⟩ = some (.int .i64 a1_5)) ∧ (w'.heap[gb188]? = some (.cells #[.int .i64 a0_0, .int .i64 a0_1, .int .i64 a0_2, .int .i64 a0_3, .int .i64 a0_4, .int .i64 a0_5] 24 (0, 0))) ∧ (w'.heap[gb189]? = some (.cells #[.int .i64 a1_0, .int .i64 a1_1, .int .i64 a1_2, .int .i64 a1_3, .int .i64 a1_4, .int .i64 a1_5] 24 (0, 0))) ∧ (w'.heap[gb190]? = some (.cells #[.int .i64 0, .int .i64 0, .int .i64 0, .int .i64 0, .int .i64 0, .int .i64 0] 24 (0, 0))) ∧ (w'.heap[s_]? = some (.cells #[.int .i64 0, .int .i64 0, .int .i64 0, .int .i64 0, .int .i64 0, .int .i64 0] 24 (0, 0))) ∧ (w.heap.size ≤ s_) ∧ (w.heap.size ≤ s_) ∧ (gb188 ≠ s_) ∧ (s_ ≠ gb188) ∧ (gb189 ≠ s_) ∧ (s_ ≠ gb189) ∧ (gb190 ≠ s_) ∧ (s_ ≠ gb190) ∧ (Below w.heap.size w w')) ?_ ?_
     ·skip
      rintro gb205 w44 ⟨hS_, h0_, h1_, h2_, h3_, h4_, h5_, h6_, h7_, h8_, h9_, h10_, h11_, h12_⟩
      have n0_ := Aside0.mk h0_
      have n1_ := Aside0.mk h1_
      have n2_ := Aside0.mk h2_
      have n3_ := Aside0.mk h3_
      have n4_ : Aside0 (w.heap.size ≤ gb205) := ⟨h4_⟩
      have n5_ : Aside0 (w.heap.size ≤ gb205) := ⟨h5_⟩
      have n6_ : Aside0 (gb188 ≠ gb205) := ⟨h6_⟩
      have n7_ : Aside0 (gb205 ≠ gb188) := ⟨h7_⟩
      have n8_ : Aside0 (gb189 ≠ gb205) := ⟨h8_⟩
      have n9_ : Aside0 (gb205 ≠ gb189) := ⟨h9_⟩
      have n10_ : Aside0 (gb190 ≠ gb205) := ⟨h10_⟩
      have n11_ : Aside0 (gb205 ≠ gb190) := ⟨h11_⟩
      have n12_ : Aside0 (Below w.heap.size w w44) := ⟨h12_⟩
      clear BK188
      clear BK189
      clear BK190
      clear HB
      clear h0_ h1_ h2_ h3_ h4_ h5_ h6_ h7_ h8_ h9_ h10_ h11_ h12_
      have BK188 := n0_
      have BK189 := n1_
      have BK190 := n2_
      have BK205 := n3_
      have GW205 := n4_
      have GE205 := n5_
      have NB188_205 := n6_
      have NB205_188 := n7_
      have NB189_205 := n8_
      have NB205_189 := n9_
      have NB190_205 := n10_
      have NB205_190 := n11_
      have HB := n12_
      clear n0_ n1_ n2_ n3_ n4_ n5_ n6_ n7_ n8_ n9_ n10_ n11_ n12_
      have hHeld := hS_
      try dsimp only at hHeld
      refine norm_ (a' := ?_) ?_ ?_
      rotate_left
      ·simp only [putAll, Act.put, List.setIfInBounds_toArray, List.set_cons_zero, List.set_cons_succ]
       rfl
      refine one_ (i := 20) (N := some 36) #[true, true, true, true, true, true, true, true, true, true, true, true, true, true, true, true, true, true, true, true, true, false, true, true, true, true, false, true, true, true, true, false, false, true, true, true, true, false, true, true, true, true, false, false, true, true, true, true, false, true, true, true, true, false, false, true, true, false, true, true, true, true, false, true, true, true, true, false, false, true, true, false, false, true, false] rfl rfl (one_of HT_.out (by kernel_rfl)) (by decide) (fun K hK => ?_)
      refine goes_ Try.func11 (by kernel_rfl) rfl #[.int .i64 a0_3, .int .i64 a1_1] (by rfl) rfl rfl (by (try simp only [List.map_toArray, List.map_cons, List.map_nil]); first | done | rfl | (simp only [List.length_drop, List.length_take]; rfl)) ?_
      with_reducible refine (impl_FixMul.calls kj2 a0_3 a1_1 t196 _ A28.out).mono ?_
      rintro e w45 ⟨rfl, hb⟩
      refine ⟨_, rfl, ?_⟩
      replace BK188 := Aside0.mk (blkb_ hb BK188.out)
      replace BK189 := Aside0.mk (blkb_ hb BK189.out)
      replace BK190 := Aside0.mk (blkb_ hb BK190.out)
      replace BK205 := Aside0.mk (blkb_ hb BK205.out)
      replace HB := Aside0.mk (below_step (by first | exact HB.out | exact pw_below_drewN HB.out _ | exact below_drew1 HB.out) hb)
      (try clear hb);(try clear hb2);(try clear hk);(try clear hi)
      refine hK.out _ _ (hq_ BK188.out BK189.out) (fun hHeld => ?_)
      clear hK K
      refine norm_ (a' := ?_) ?_ ?_
      rotate_left
      ·show Act.put _ (some 36) _ = _
       simp only [Act.put, List.setIfInBounds_toArray, List.set_cons_zero, List.set_cons_succ, i64_w, i32_w]
       rfl
      refine pure_ (i := 21) (N := some 37) (v := ?_) (a' := ?_) mb16_ rfl rfl (any_of HT_.out (by kernel_rfl)) (fun _ _ _ h => h) (Or.inl ⟨by rfl, ?_⟩) ?_ ?_
      rotate_left
      ·intro w'
       go_simp
       with_reducible rfl
      rotate_left
      ·simp only [Act.put, List.setIfInBounds_toArray, List.set_cons_zero, List.set_cons_succ, i64_w, i32_w]
       rfl
      exact norm_ (by simp only [putAll, Act.put, List.setIfInBounds_toArray, List.set_cons_zero, List.set_cons_succ]; first | done | rfl) (hJ4_9_15_20_73 (gb205) _ ⟨hHeld, BK188.out, BK189.out, BK190.out, BK205.out, GW205.out, GE205.out, NB188_205.out, NB205_188.out, NB189_205.out, NB205_189.out, NB190_205.out, NB205_190.out, (by first | exact HB.out | exact pw_below_drewN HB.out _ | exact below_drew1 HB.out)⟩)
     intro hJ4_9_15_73
     refine join_ (σ := Unit) 19 mb19_ (fun s_ => [(20, .int .i64 t193), (25, .int .i64 t194), (31, .int .i64 t195), (26, .int .i64 (wrap64 (t193 + t194)))]) (fun s_ w' => (w'.cell? ⟨gb188, 0, none⟩ = some (.int .i64 a0_0) ∧ w'.cell? ⟨gb188, 1, none⟩ = some (.int .i64 a0_1) ∧ w'.cell? ⟨gb188, 2, none⟩ = some (.int .i64 a0_2) ∧ w'.cell? ⟨gb188, 3, none⟩ = some (.int .i64 a0_3) ∧ w'.cell? ⟨gb188, 4, none⟩ = some (.int .i64 a0_4) ∧ w'.cell? ⟨gb188, 5, none⟩ = some (.int .i64 a0_5) ∧ w'.cell? ⟨gb189, 0, none⟩ = some (.int .i64 a1_0) ∧ w'.cell? ⟨gb189, 1, none⟩ = some (.int .i64 a1_1) ∧ w'.cell? ⟨gb189, 2, none⟩ = some (.int .i64 a1_2) ∧ w'.cell? ⟨gb189, 3, none⟩ = some (.int .i64 a1_3) ∧ w'.cell? ⟨gb189, 4, none⟩ = some (.int .i64 a1_4) ∧ w'.cell? ⟨gb189, 5, none⟩ = some (.int .i64 a1_5)) ∧ (w'.heap[gb188]? = some (.cells #[.int .i64 a0_0, .int .i64 a0_1, .int .i64 a0_2, .int .i64 a0_3, .int .i64 a0_4, .int .i64 a0_5] 24 (0, 0))) ∧ (w'.heap[gb189]? = some (.cells #[.int .i64 a1_0, .int .i64 a1_1, .int .i64 a1_2, .int .i64 a1_3, .int .i64 a1_4, .int .i64 a1_5] 24 (0, 0))) ∧ (w'.heap[gb190]? = some (.cells #[.int .i64 0, .int .i64 0, .int .i64 0, .int .i64 0, .int .i64 0, .int .i64 0] 24 (0, 0))) ∧ (Below w.heap.size w w')) ?_ ?_
     ·skip
      rintro _ w43 ⟨hS_, h0_, h1_, h2_, h3_⟩
      have n0_ := Aside0.mk h0_
      have n1_ := Aside0.mk h1_
      have n2_ := Aside0.mk h2_
      have n3_ : Aside0 (Below w.heap.size w w43) := ⟨h3_⟩
      clear BK188
      clear BK189
      clear BK190
      clear HB
      clear h0_ h1_ h2_ h3_
      have BK188 := n0_
      have BK189 := n1_
      have BK190 := n2_
      have HB := n3_
      clear n0_ n1_ n2_ n3_
      have hHeld := hS_
      try dsimp only at hHeld
      refine norm_ (a' := ?_) ?_ ?_
      rotate_left
      ·simp only [putAll, Act.put, List.setIfInBounds_toArray, List.set_cons_zero, List.set_cons_succ]
       rfl
      refine two_ (i := 20) (j := 73) (Ni := some 36) (Nj := some 6) #[true, true, true, true, true, true, true, true, true, true, true, true, true, true, true, true, true, true, true, true, true, false, true, true, true, true, false, true, true, true, true, false, false, true, true, true, true, false, true, true, true, true, false, false, true, true, true, true, false, true, true, true, true, false, false, true, true, false, true, true, true, true, false, true, true, true, true, false, false, true, true, false, false, false, false] mb18_ rfl rfl rfl rfl (two_of HT_.out (by kernel_rfl)) (by decide) (by decide) (fun K hK => ?_) (fun K hK => ?_)
      ·skip
       refine goes_ Try.func11 (by kernel_rfl) rfl #[.int .i64 a0_3, .int .i64 a1_1] (by rfl) rfl rfl (by (try simp only [List.map_toArray, List.map_cons, List.map_nil]); first | done | rfl | (simp only [List.length_drop, List.length_take]; rfl)) ?_
       with_reducible refine (impl_FixMul.calls kj2 a0_3 a1_1 t196 _ A28.out).mono ?_
       rintro e w44 ⟨rfl, hb⟩
       refine ⟨_, rfl, ?_⟩
       replace BK188 := Aside0.mk (blkb_ hb BK188.out)
       replace BK189 := Aside0.mk (blkb_ hb BK189.out)
       replace BK190 := Aside0.mk (blkb_ hb BK190.out)
       replace HB := Aside0.mk (below_step (by first | exact HB.out | exact pw_below_drewN HB.out _ | exact below_drew1 HB.out) hb)
       (try clear hb);(try clear hb2);(try clear hk);(try clear hi)
       refine hK.out _ _ (hq_ BK188.out BK189.out) (fun hHeld => ?_)
       clear hK K
       refine norm_ (a' := ?_) ?_ ?_
       rotate_left
       ·show Act.put _ (some 36) _ = _
        simp only [Act.put, List.setIfInBounds_toArray, List.set_cons_zero, List.set_cons_succ, i64_w, i32_w]
        rfl
       refine pure_ (i := 21) (N := some 37) (v := ?_) (a' := ?_) mb17_ rfl rfl (any_of HT_.out (by kernel_rfl)) (fun _ _ _ h => h) (Or.inl ⟨by rfl, ?_⟩) ?_ ?_
       rotate_left
       ·intro w'
        go_simp
        with_reducible rfl
       rotate_left
       ·simp only [Act.put, List.setIfInBounds_toArray, List.set_cons_zero, List.set_cons_succ, i64_w, i32_w]
        rfl
       exact norm_ (by simp only [putAll, Act.put, List.setIfInBounds_toArray, List.set_cons_zero, List.set_cons_succ]; first | done | rfl) (hJ4_9_15_20 () _ ⟨hHeld, BK188.out, BK189.out, BK190.out, (by first | exact HB.out | exact pw_below_drewN HB.out _ | exact below_drew1 HB.out)⟩)
      ·skip
       refine box_step ?hg (N := 6) ?hd (cs := #[.int .i64 0, .int .i64 0, .int .i64 0, .int .i64 0, .int .i64 0, .int .i64 0]) (t := 24) ?hr ?_; (case hd => rfl); (case hg => rfl); (case hr => first | (go_simp; done) | (go_simp; rfl))
       intro gb205 hg w44 hbox hb
       have BK205 := Aside0.mk (hbox)
       have GW205 := Aside0.mk ((by rw [hg]; exact (below_size (by first | exact HB.out | exact pw_below_drewN HB.out _ | exact below_drew1 HB.out)) : w.heap.size ≤ gb205))
       have GE205 := Aside0.mk ((by rw [hg]; exact (below_size (by first | exact HB.out | exact pw_below_drewN HB.out _ | exact below_drew1 HB.out)) : w.heap.size ≤ gb205))
       have NB188_205 := Aside0.mk ((by rw [hg]; exact Nat.ne_of_lt (blk_lt BK188.out) : gb188 ≠ gb205))
       have NB205_188 := Aside0.mk ((by rw [hg]; exact Nat.ne_of_gt (blk_lt BK188.out) : gb205 ≠ gb188))
       have NB189_205 := Aside0.mk ((by rw [hg]; exact Nat.ne_of_lt (blk_lt BK189.out) : gb189 ≠ gb205))
       have NB205_189 := Aside0.mk ((by rw [hg]; exact Nat.ne_of_gt (blk_lt BK189.out) : gb205 ≠ gb189))
       have NB190_205 := Aside0.mk ((by rw [hg]; exact Nat.ne_of_lt (blk_lt BK190.out) : gb190 ≠ gb205))
       have NB205_190 := Aside0.mk ((by rw [hg]; exact Nat.ne_of_gt (blk_lt BK190.out) : gb205 ≠ gb190))
       replace BK188 := Aside0.mk (blkb_ hb BK188.out)
       replace BK189 := Aside0.mk (blkb_ hb BK189.out)
       replace BK190 := Aside0.mk (blkb_ hb BK190.out)
       replace HB := Aside0.mk (below_step (by first | exact HB.out | exact pw_below_drewN HB.out _ | exact below_drew1 HB.out) hb)
       clear hb hbox hg
       refine hK.out _ _ (hq_ BK188.out BK189.out) (fun hHeld => ?_)
       clear hK K
       refine norm_ (a' := ?_) ?_ ?_
       rotate_left
       ·show Act.put _ (some 6) _ = _
        simp only [Act.put, List.setIfInBounds_toArray, List.set_cons_zero, List.set_cons_succ, i64_w, i32_w]
        rfl
       exact norm_ (by simp only [putAll, Act.put, List.setIfInBounds_toArray, List.set_cons_zero, List.set_cons_succ]; first | done | rfl) (hJ4_9_15_73 (gb205) _ ⟨hHeld, BK188.out, BK189.out, BK190.out, BK205.out, GW205.out, GE205.out, NB188_205.out, NB205_188.out, NB189_205.out, NB205_189.out, NB190_205.out, NB205_190.out, (by first | exact HB.out | exact pw_below_drewN HB.out _ | exact below_drew1 HB.out)⟩)
     intro hJ4_9_15
     refine join_ (σ := Nat) 19 mb20_ (fun s_ => [(20, .int .i64 t193), (25, .int .i64 t194), (6, .pointer (some ⟨s_, 0, none⟩)), (26, .int .i64 (wrap64 (t193 + t194)))]) (fun s_ w' => (w'.cell? ⟨gb188, 0, none⟩ = some (.int .i64 a0_0) ∧ w'.cell? ⟨gb188, 1, none⟩ = some (.int .i64 a0_1) ∧ w'.cell? ⟨gb188, 2, none⟩ = some (.int .i64 a0_2) ∧ w'.cell? ⟨gb188, 3, none⟩ = some (.int .i64 a0_3) ∧ w'.cell? ⟨gb188, 4, none⟩ = some (.int .i64 a0_4) ∧ w'.cell? ⟨gb188, 5, none⟩ = some (.int .i64 a0_5) ∧ w'.cell? ⟨gb189, 0, none⟩ = some (.int .i64 a1_0) ∧ w'.cell? ⟨gb189, 1, none⟩ = some (.int .i64 a1_1) ∧ w'.cell? ⟨gb189, 2, none⟩ = some (.int .i64 a1_2) ∧ w'.cell? ⟨gb189, 3, none⟩ = some (.int .i64 a1_3) ∧ w'.cell? ⟨gb189, 4, none⟩ = some (.int .i64 a1_4) ∧ w'.cell? ⟨gb189, 5, none⟩ = some (.int .i64 a1_5)) ∧ (w'.heap[gb188]? = some (.cells #[.int .i64 a0_0, .int .i64 a0_1, .int .i64 a0_2, .int .i64 a0_3, .int .i64 a0_4, .int .i64 a0_5] 24 (0, 0))) ∧ (w'.heap[gb189]? = some (.cells #[.int .i64 a1_0, .int .i64 a1_1, .int .i64 a1_2, .int .i64 a1_3, .int .i64 a1_4, .int .i64 a1_5] 24 (0, 0))) ∧ (w'.heap[gb190]? = some (.cells #[.int .i64 0, .int .i64 0, .int .i64 0, .int .i64 0, .int .i64 0, .int .i64 0] 24 (0, 0))) ∧ (w'.heap[s_]? = some (.cells #[.int .i64 0, .int .i64 0, .int .i64 0, .int .i64 0, .int .i64 0, .int .i64 0] 24 (0, 0))) ∧ (w.heap.size ≤ s_) ∧ (w.heap.size ≤ s_) ∧ (gb188 ≠ s_) ∧ (s_ ≠ gb188) ∧ (gb189 ≠ s_) ∧ (s_ ≠ gb189) ∧ (gb190 ≠ s_) ∧ (s_ ≠ gb190) ∧ (Below w.heap.size w w')) ?_ ?_
     ·skip
      rintro gb205 w43 ⟨hS_, h0_, h1_, h2_, h3_, h4_, h5_, h6_, h7_, h8_, h9_, h10_, h11_, h12_⟩
      have n0_ := Aside0.mk h0_
      have n1_ := Aside0.mk h1_
      have n2_ := Aside0.mk h2_
      have n3_ := Aside0.mk h3_
      have n4_ : Aside0 (w.heap.size ≤ gb205) := ⟨h4_⟩
      have n5_ : Aside0 (w.heap.size ≤ gb205) := ⟨h5_⟩
      have n6_ : Aside0 (gb188 ≠ gb205) := ⟨h6_⟩
      have n7_ : Aside0 (gb205 ≠ gb188) := ⟨h7_⟩
      have n8_ : Aside0 (gb189 ≠ gb205) := ⟨h8_⟩
      have n9_ : Aside0 (gb205 ≠ gb189) := ⟨h9_⟩
      have n10_ : Aside0 (gb190 ≠ gb205) := ⟨h10_⟩
      have n11_ : Aside0 (gb205 ≠ gb190) := ⟨h11_⟩
      have n12_ : Aside0 (Below w.heap.size w w43) := ⟨h12_⟩
      clear BK188
      clear BK189
      clear BK190
      clear HB
      clear h0_ h1_ h2_ h3_ h4_ h5_ h6_ h7_ h8_ h9_ h10_ h11_ h12_
      have BK188 := n0_
      have BK189 := n1_
      have BK190 := n2_
      have BK205 := n3_
      have GW205 := n4_
      have GE205 := n5_
      have NB188_205 := n6_
      have NB205_188 := n7_
      have NB189_205 := n8_
      have NB205_189 := n9_
      have NB190_205 := n10_
      have NB205_190 := n11_
      have HB := n12_
      clear n0_ n1_ n2_ n3_ n4_ n5_ n6_ n7_ n8_ n9_ n10_ n11_ n12_
      have hHeld := hS_
      try dsimp only at hHeld
      refine norm_ (a' := ?_) ?_ ?_
      rotate_left
      ·simp only [putAll, Act.put, List.setIfInBounds_toArray, List.set_cons_zero, List.set_cons_succ]
       rfl
      refine one_ (i := 15) (N := some 31) mb18_ rfl rfl (one_of HT_.out (by kernel_rfl)) (by decide) (fun K hK => ?_)
      refine goes_ Try.func11 (by kernel_rfl) rfl #[.int .i64 a0_1, .int .i64 a1_0] (by rfl) rfl rfl (by (try simp only [List.map_toArray, List.map_cons, List.map_nil]); first | done | rfl | (simp only [List.length_drop, List.length_take]; rfl)) ?_
      with_reducible refine (impl_FixMul.calls kj2 a0_1 a1_0 t195 _ A27.out).mono ?_
      rintro e w44 ⟨rfl, hb⟩
      refine ⟨_, rfl, ?_⟩
      replace BK188 := Aside0.mk (blkb_ hb BK188.out)
      replace BK189 := Aside0.mk (blkb_ hb BK189.out)
      replace BK190 := Aside0.mk (blkb_ hb BK190.out)
      replace BK205 := Aside0.mk (blkb_ hb BK205.out)
      replace HB := Aside0.mk (below_step (by first | exact HB.out | exact pw_below_drewN HB.out _ | exact below_drew1 HB.out) hb)
      (try clear hb);(try clear hb2);(try clear hk);(try clear hi)
      refine hK.out _ _ (hq_ BK188.out BK189.out) (fun hHeld => ?_)
      clear hK K
      refine norm_ (a' := ?_) ?_ ?_
      rotate_left
      ·show Act.put _ (some 31) _ = _
       simp only [Act.put, List.setIfInBounds_toArray, List.set_cons_zero, List.set_cons_succ, i64_w, i32_w]
       rfl
      exact norm_ (by simp only [putAll, Act.put, List.setIfInBounds_toArray, List.set_cons_zero, List.set_cons_succ]; first | done | rfl) (hJ4_9_15_73 (gb205) _ ⟨hHeld, BK188.out, BK189.out, BK190.out, BK205.out, GW205.out, GE205.out, NB188_205.out, NB205_188.out, NB189_205.out, NB205_189.out, NB190_205.out, NB205_190.out, (by first | exact HB.out | exact pw_below_drewN HB.out _ | exact below_drew1 HB.out)⟩)
     intro hJ4_9_73
     refine join_ (σ := Unit) 20 mb21_ (fun s_ => [(20, .int .i64 t193), (25, .int .i64 t194), (26, .int .i64 (wrap64 (t193 + t194)))]) (fun s_ w' => (w'.cell? ⟨gb188, 0, none⟩ = some (.int .i64 a0_0) ∧ w'.cell? ⟨gb188, 1, none⟩ = some (.int .i64 a0_1) ∧ w'.cell? ⟨gb188, 2, none⟩ = some (.int .i64 a0_2) ∧ w'.cell? ⟨gb188, 3, none⟩ = some (.int .i64 a0_3) ∧ w'.cell? ⟨gb188, 4, none⟩ = some (.int .i64 a0_4) ∧ w'.cell? ⟨gb188, 5, none⟩ = some (.int .i64 a0_5) ∧ w'.cell? ⟨gb189, 0, none⟩ = some (.int .i64 a1_0) ∧ w'.cell? ⟨gb189, 1, none⟩ = some (.int .i64 a1_1) ∧ w'.cell? ⟨gb189, 2, none⟩ = some (.int .i64 a1_2) ∧ w'.cell? ⟨gb189, 3, none⟩ = some (.int .i64 a1_3) ∧ w'.cell? ⟨gb189, 4, none⟩ = some (.int .i64 a1_4) ∧ w'.cell? ⟨gb189, 5, none⟩ = some (.int .i64 a1_5)) ∧ (w'.heap[gb188]? = some (.cells #[.int .i64 a0_0, .int .i64 a0_1, .int .i64 a0_2, .int .i64 a0_3, .int .i64 a0_4, .int .i64 a0_5] 24 (0, 0))) ∧ (w'.heap[gb189]? = some (.cells #[.int .i64 a1_0, .int .i64 a1_1, .int .i64 a1_2, .int .i64 a1_3, .int .i64 a1_4, .int .i64 a1_5] 24 (0, 0))) ∧ (w'.heap[gb190]? = some (.cells #[.int .i64 0, .int .i64 0, .int .i64 0, .int .i64 0, .int .i64 0, .int .i64 0] 24 (0, 0))) ∧ (Below w.heap.size w w')) ?_ ?_
     ·skip
      rintro _ w42 ⟨hS_, h0_, h1_, h2_, h3_⟩
      have n0_ := Aside0.mk h0_
      have n1_ := Aside0.mk h1_
      have n2_ := Aside0.mk h2_
      have n3_ : Aside0 (Below w.heap.size w w42) := ⟨h3_⟩
      clear BK188
      clear BK189
      clear BK190
      clear HB
      clear h0_ h1_ h2_ h3_
      have BK188 := n0_
      have BK189 := n1_
      have BK190 := n2_
      have HB := n3_
      clear n0_ n1_ n2_ n3_
      have hHeld := hS_
      try dsimp only at hHeld
      refine norm_ (a' := ?_) ?_ ?_
      rotate_left
      ·simp only [putAll, Act.put, List.setIfInBounds_toArray, List.set_cons_zero, List.set_cons_succ]
       rfl
      refine two_ (i := 15) (j := 73) (Ni := some 31) (Nj := some 6) mb19_ mb20_ rfl rfl rfl rfl (two_of HT_.out (by kernel_rfl)) (by decide) (by decide) (fun K hK => ?_) (fun K hK => ?_)
      ·skip
       refine goes_ Try.func11 (by kernel_rfl) rfl #[.int .i64 a0_1, .int .i64 a1_0] (by rfl) rfl rfl (by (try simp only [List.map_toArray, List.map_cons, List.map_nil]); first | done | rfl | (simp only [List.length_drop, List.length_take]; rfl)) ?_
       with_reducible refine (impl_FixMul.calls kj2 a0_1 a1_0 t195 _ A27.out).mono ?_
       rintro e w43 ⟨rfl, hb⟩
       refine ⟨_, rfl, ?_⟩
       replace BK188 := Aside0.mk (blkb_ hb BK188.out)
       replace BK189 := Aside0.mk (blkb_ hb BK189.out)
       replace BK190 := Aside0.mk (blkb_ hb BK190.out)
       replace HB := Aside0.mk (below_step (by first | exact HB.out | exact pw_below_drewN HB.out _ | exact below_drew1 HB.out) hb)
       (try clear hb);(try clear hb2);(try clear hk);(try clear hi)
       refine hK.out _ _ (hq_ BK188.out BK189.out) (fun hHeld => ?_)
       clear hK K
       refine norm_ (a' := ?_) ?_ ?_
       rotate_left
       ·show Act.put _ (some 31) _ = _
        simp only [Act.put, List.setIfInBounds_toArray, List.set_cons_zero, List.set_cons_succ, i64_w, i32_w]
        rfl
       exact norm_ (by simp only [putAll, Act.put, List.setIfInBounds_toArray, List.set_cons_zero, List.set_cons_succ]; first | done | rfl) (hJ4_9_15 () _ ⟨hHeld, BK188.out, BK189.out, BK190.out, (by first | exact HB.out | exact pw_below_drewN HB.out _ | exact below_drew1 HB.out)⟩)
      ·skip
       refine box_step ?hg (N := 6) ?hd (cs := #[.int .i64 0, .int .i64 0, .int .i64 0, .int .i64 0, .int .i64 0, .int .i64 0]) (t := 24) ?hr ?_; (case hd => rfl); (case hg => rfl); (case hr => first | (go_simp; done) | (go_simp; rfl))
       intro gb205 hg w43 hbox hb
       have BK205 := Aside0.mk (hbox)
       have GW205 := Aside0.mk ((by rw [hg]; exact (below_size (by first | exact HB.out | exact pw_below_drewN HB.out _ | exact below_drew1 HB.out)) : w.heap.size ≤ gb205))
       have GE205 := Aside0.mk ((by rw [hg]; exact (below_size (by first | exact HB.out | exact pw_below_drewN HB.out _ | exact below_drew1 HB.out)) : w.heap.size ≤ gb205))
       have NB188_205 := Aside0.mk ((by rw [hg]; exact Nat.ne_of_lt (blk_lt BK188.out) : gb188 ≠ gb205))
       have NB205_188 := Aside0.mk ((by rw [hg]; exact Nat.ne_of_gt (blk_lt BK188.out) : gb205 ≠ gb188))
       have NB189_205 := Aside0.mk ((by rw [hg]; exact Nat.ne_of_lt (blk_lt BK189.out) : gb189 ≠ gb205))
       have NB205_189 := Aside0.mk ((by rw [hg]; exact Nat.ne_of_gt (blk_lt BK189.out) : gb205 ≠ gb189))
       have NB190_205 := Aside0.mk ((by rw [hg]; exact Nat.ne_of_lt (blk_lt BK190.out) : gb190 ≠ gb205))
       have NB205_190 := Aside0.mk ((by rw [hg]; exact Nat.ne_of_gt (blk_lt BK190.out) : gb205 ≠ gb190))
       replace BK188 := Aside0.mk (blkb_ hb BK188.out)
       replace BK189 := Aside0.mk (blkb_ hb BK189.out)
       replace BK190 := Aside0.mk (blkb_ hb BK190.out)
       replace HB := Aside0.mk (below_step (by first | exact HB.out | exact pw_below_drewN HB.out _ | exact below_drew1 HB.out) hb)
       clear hb hbox hg
       refine hK.out _ _ (hq_ BK188.out BK189.out) (fun hHeld => ?_)
       clear hK K
       refine norm_ (a' := ?_) ?_ ?_
       rotate_left
       ·show Act.put _ (some 6) _ = _
        simp only [Act.put, List.setIfInBounds_toArray, List.set_cons_zero, List.set_cons_succ, i64_w, i32_w]
        rfl
       exact norm_ (by simp only [putAll, Act.put, List.setIfInBounds_toArray, List.set_cons_zero, List.set_cons_succ]; first | done | rfl) (hJ4_9_73 (gb205) _ ⟨hHeld, BK188.out, BK189.out, BK190.out, BK205.out, GW205.out, GE205.out, NB188_205.out, NB205_188.out, NB189_205.out, NB205_189.out, NB190_205.out, NB205_190.out, (by first | exact HB.out | exact pw_below_drewN HB.out _ | exact below_drew1 HB.out)⟩)
     intro hJ4_9
     refine join_ (σ := Nat) 21 mb22_ (fun s_ => [(20, .int .i64 t193), (6, .pointer (some ⟨s_, 0, none⟩))]) (fun s_ w' => (w'.cell? ⟨gb188, 0, none⟩ = some (.int .i64 a0_0) ∧ w'.cell? ⟨gb188, 1, none⟩ = some (.int .i64 a0_1) ∧ w'.cell? ⟨gb188, 2, none⟩ = some (.int .i64 a0_2) ∧ w'.cell? ⟨gb188, 3, none⟩ = some (.int .i64 a0_3) ∧ w'.cell? ⟨gb188, 4, none⟩ = some (.int .i64 a0_4) ∧ w'.cell? ⟨gb188, 5, none⟩ = some (.int .i64 a0_5) ∧ w'.cell? ⟨gb189, 0, none⟩ = some (.int .i64 a1_0) ∧ w'.cell? ⟨gb189, 1, none⟩ = some (.int .i64 a1_1) ∧ w'.cell? ⟨gb189, 2, none⟩ = some (.int .i64 a1_2) ∧ w'.cell? ⟨gb189, 3, none⟩ = some (.int .i64 a1_3) ∧ w'.cell? ⟨gb189, 4, none⟩ = some (.int .i64 a1_4) ∧ w'.cell? ⟨gb189, 5, none⟩ = some (.int .i64 a1_5)) ∧ (w'.heap[gb188]? = some (.cells #[.int .i64 a0_0, .int .i64 a0_1, .int .i64 a0_2, .int .i64 a0_3, .int .i64 a0_4, .int .i64 a0_5] 24 (0, 0))) ∧ (w'.heap[gb189]? = some (.cells #[.int .i64 a1_0, .int .i64 a1_1, .int .i64 a1_2, .int .i64 a1_3, .int .i64 a1_4, .int .i64 a1_5] 24 (0, 0))) ∧ (w'.heap[gb190]? = some (.cells #[.int .i64 0, .int .i64 0, .int .i64 0, .int .i64 0, .int .i64 0, .int .i64 0] 24 (0, 0))) ∧ (w'.heap[s_]? = some (.cells #[.int .i64 0, .int .i64 0, .int .i64 0, .int .i64 0, .int .i64 0, .int .i64 0] 24 (0, 0))) ∧ (w.heap.size ≤ s_) ∧ (w.heap.size ≤ s_) ∧ (gb188 ≠ s_) ∧ (s_ ≠ gb188) ∧ (gb189 ≠ s_) ∧ (s_ ≠ gb189) ∧ (gb190 ≠ s_) ∧ (s_ ≠ gb190) ∧ (Below w.heap.size w w')) ?_ ?_
     ·skip
      rintro gb205 w42 ⟨hS_, h0_, h1_, h2_, h3_, h4_, h5_, h6_, h7_, h8_, h9_, h10_, h11_, h12_⟩
      have n0_ := Aside0.mk h0_
      have n1_ := Aside0.mk h1_
      have n2_ := Aside0.mk h2_
      have n3_ := Aside0.mk h3_
      have n4_ : Aside0 (w.heap.size ≤ gb205) := ⟨h4_⟩
      have n5_ : Aside0 (w.heap.size ≤ gb205) := ⟨h5_⟩
      have n6_ : Aside0 (gb188 ≠ gb205) := ⟨h6_⟩
      have n7_ : Aside0 (gb205 ≠ gb188) := ⟨h7_⟩
      have n8_ : Aside0 (gb189 ≠ gb205) := ⟨h8_⟩
      have n9_ : Aside0 (gb205 ≠ gb189) := ⟨h9_⟩
      have n10_ : Aside0 (gb190 ≠ gb205) := ⟨h10_⟩
      have n11_ : Aside0 (gb205 ≠ gb190) := ⟨h11_⟩
      have n12_ : Aside0 (Below w.heap.size w w42) := ⟨h12_⟩
      clear BK188
      clear BK189
      clear BK190
      clear HB
      clear h0_ h1_ h2_ h3_ h4_ h5_ h6_ h7_ h8_ h9_ h10_ h11_ h12_
      have BK188 := n0_
      have BK189 := n1_
      have BK190 := n2_
      have BK205 := n3_
      have GW205 := n4_
      have GE205 := n5_
      have NB188_205 := n6_
      have NB205_188 := n7_
      have NB189_205 := n8_
      have NB205_189 := n9_
      have NB190_205 := n10_
      have NB205_190 := n11_
      have HB := n12_
      clear n0_ n1_ n2_ n3_ n4_ n5_ n6_ n7_ n8_ n9_ n10_ n11_ n12_
      have hHeld := hS_
      try dsimp only at hHeld
      refine norm_ (a' := ?_) ?_ ?_
      rotate_left
      ·simp only [putAll, Act.put, List.setIfInBounds_toArray, List.set_cons_zero, List.set_cons_succ]
       rfl
      refine one_ (i := 9) (N := some 25) #[true, true, true, true, true, true, true, true, true, true, false, true, true, true, true, false, true, true, true, true, false, false, true, true, true, true, false, true, true, true, true, false, false, true, true, true, true, false, true, true, true, true, false, false, true, true, true, true, false, true, true, true, true, false, false, true, true, false, true, true, true, true, false, true, true, true, true, false, false, true, true, false, false, true, false] rfl rfl (one_of HT_.out (by kernel_rfl)) (by decide) (fun K hK => ?_)
      refine goes_ Try.func11 (by kernel_rfl) rfl #[.int .i64 a0_2, .int .i64 a1_1] (by rfl) rfl rfl (by (try simp only [List.map_toArray, List.map_cons, List.map_nil]); first | done | rfl | (simp only [List.length_drop, List.length_take]; rfl)) ?_
      with_reducible refine (impl_FixMul.calls kj2 a0_2 a1_1 t194 _ A26.out).mono ?_
      rintro e w43 ⟨rfl, hb⟩
      refine ⟨_, rfl, ?_⟩
      replace BK188 := Aside0.mk (blkb_ hb BK188.out)
      replace BK189 := Aside0.mk (blkb_ hb BK189.out)
      replace BK190 := Aside0.mk (blkb_ hb BK190.out)
      replace BK205 := Aside0.mk (blkb_ hb BK205.out)
      replace HB := Aside0.mk (below_step (by first | exact HB.out | exact pw_below_drewN HB.out _ | exact below_drew1 HB.out) hb)
      (try clear hb);(try clear hb2);(try clear hk);(try clear hi)
      refine hK.out _ _ (hq_ BK188.out BK189.out) (fun hHeld => ?_)
      clear hK K
      refine norm_ (a' := ?_) ?_ ?_
      rotate_left
      ·show Act.put _ (some 25) _ = _
       simp only [Act.put, List.setIfInBounds_toArray, List.set_cons_zero, List.set_cons_succ, i64_w, i32_w]
       rfl
      refine pure_ (i := 10) (N := some 26) (v := ?_) (a' := ?_) mb20_ rfl rfl (any_of HT_.out (by kernel_rfl)) (fun _ _ _ h => h) (Or.inl ⟨by rfl, ?_⟩) ?_ ?_
      rotate_left
      ·intro w'
       go_simp
       with_reducible rfl
      rotate_left
      ·simp only [Act.put, List.setIfInBounds_toArray, List.set_cons_zero, List.set_cons_succ, i64_w, i32_w]
       rfl
      exact norm_ (by simp only [putAll, Act.put, List.setIfInBounds_toArray, List.set_cons_zero, List.set_cons_succ]; first | done | rfl) (hJ4_9_73 (gb205) _ ⟨hHeld, BK188.out, BK189.out, BK190.out, BK205.out, GW205.out, GE205.out, NB188_205.out, NB205_188.out, NB189_205.out, NB205_189.out, NB190_205.out, NB205_190.out, (by first | exact HB.out | exact pw_below_drewN HB.out _ | exact below_drew1 HB.out)⟩)
     intro hJ4_73
     refine join_ (σ := Unit) 22 mb23_ (fun s_ => [(20, .int .i64 t193)]) (fun s_ w' => (w'.cell? ⟨gb188, 0, none⟩ = some (.int .i64 a0_0) ∧ w'.cell? ⟨gb188, 1, none⟩ = some (.int .i64 a0_1) ∧ w'.cell? ⟨gb188, 2, none⟩ = some (.int .i64 a0_2) ∧ w'.cell? ⟨gb188, 3, none⟩ = some (.int .i64 a0_3) ∧ w'.cell? ⟨gb188, 4, none⟩ = some (.int .i64 a0_4) ∧ w'.cell? ⟨gb188, 5, none⟩ = some (.int .i64 a0_5) ∧ w'.cell? ⟨gb189, 0, none⟩ = some (.int .i64 a1_0) ∧ w'.cell? ⟨gb189, 1, none⟩ = some (.int .i64 a1_1) ∧ w'.cell? ⟨gb189, 2, none⟩ = some (.int .i64 a1_2) ∧ w'.cell? ⟨gb189, 3, none⟩ = some (.int .i64 a1_3) ∧ w'.cell? ⟨gb189, 4, none⟩ = some (.int .i64 a1_4) ∧ w'.cell? ⟨gb189, 5, none⟩ = some (.int .i64 a1_5)) ∧ (w'.heap[gb188]? = some (.cells #[.int .i64 a0_0, .int .i64 a0_1, .int .i64 a0_2, .int .i64 a0_3, .int .i64 a0_4, .int .i64 a0_5] 24 (0, 0))) ∧ (w'.heap[gb189]? = some (.cells #[.int .i64 a1_0, .int .i64 a1_1, .int .i64 a1_2, .int .i64 a1_3, .int .i64 a1_4, .int .i64 a1_5] 24 (0, 0))) ∧ (w'.heap[gb190]? = some (.cells #[.int .i64 0, .int .i64 0, .int .i64 0, .int .i64 0, .int .i64 0, .int .i64 0] 24 (0, 0))) ∧ (Below w.heap.size w w')) ?_ ?_
     ·skip
      rintro _ w41 ⟨hS_, h0_, h1_, h2_, h3_⟩
      have n0_ := Aside0.mk h0_
      have n1_ := Aside0.mk h1_
      have n2_ := Aside0.mk h2_
      have n3_ : Aside0 (Below w.heap.size w w41) := ⟨h3_⟩
      clear BK188
      clear BK189
      clear BK190
      clear HB
      clear h0_ h1_ h2_ h3_
      have BK188 := n0_
      have BK189 := n1_
      have BK190 := n2_
      have HB := n3_
      clear n0_ n1_ n2_ n3_
      have hHeld := hS_
      try dsimp only at hHeld
      refine norm_ (a' := ?_) ?_ ?_
      rotate_left
      ·simp only [putAll, Act.put, List.setIfInBounds_toArray, List.set_cons_zero, List.set_cons_succ]
       rfl
      refine two_ (i := 9) (j := 73) (Ni := some 25) (Nj := some 6) #[true, true, true, true, true, true, true, true, true, true, false, true, true, true, true, false, true, true, true, true, false, false, true, true, true, true, false, true, true, true, true, false, false, true, true, true, true, false, true, true, true, true, false, false, true, true, true, true, false, true, true, true, true, false, false, true, true, false, true, true, true, true, false, true, true, true, true, false, false, true, true, false, false, false, false] mb22_ rfl rfl rfl rfl (two_of HT_.out (by kernel_rfl)) (by decide) (by decide) (fun K hK => ?_) (fun K hK => ?_)
      ·skip
       refine goes_ Try.func11 (by kernel_rfl) rfl #[.int .i64 a0_2, .int .i64 a1_1] (by rfl) rfl rfl (by (try simp only [List.map_toArray, List.map_cons, List.map_nil]); first | done | rfl | (simp only [List.length_drop, List.length_take]; rfl)) ?_
       with_reducible refine (impl_FixMul.calls kj2 a0_2 a1_1 t194 _ A26.out).mono ?_
       rintro e w42 ⟨rfl, hb⟩
       refine ⟨_, rfl, ?_⟩
       replace BK188 := Aside0.mk (blkb_ hb BK188.out)
       replace BK189 := Aside0.mk (blkb_ hb BK189.out)
       replace BK190 := Aside0.mk (blkb_ hb BK190.out)
       replace HB := Aside0.mk (below_step (by first | exact HB.out | exact pw_below_drewN HB.out _ | exact below_drew1 HB.out) hb)
       (try clear hb);(try clear hb2);(try clear hk);(try clear hi)
       refine hK.out _ _ (hq_ BK188.out BK189.out) (fun hHeld => ?_)
       clear hK K
       refine norm_ (a' := ?_) ?_ ?_
       rotate_left
       ·show Act.put _ (some 25) _ = _
        simp only [Act.put, List.setIfInBounds_toArray, List.set_cons_zero, List.set_cons_succ, i64_w, i32_w]
        rfl
       refine pure_ (i := 10) (N := some 26) (v := ?_) (a' := ?_) mb21_ rfl rfl (any_of HT_.out (by kernel_rfl)) (fun _ _ _ h => h) (Or.inl ⟨by rfl, ?_⟩) ?_ ?_
       rotate_left
       ·intro w'
        go_simp
        with_reducible rfl
       rotate_left
       ·simp only [Act.put, List.setIfInBounds_toArray, List.set_cons_zero, List.set_cons_succ, i64_w, i32_w]
        rfl
       exact norm_ (by simp only [putAll, Act.put, List.setIfInBounds_toArray, List.set_cons_zero, List.set_cons_succ]; first | done | rfl) (hJ4_9 () _ ⟨hHeld, BK188.out, BK189.out, BK190.out, (by first | exact HB.out | exact pw_below_drewN HB.out _ | exact below_drew1 HB.out)⟩)
      ·skip
       refine box_step ?hg (N := 6) ?hd (cs := #[.int .i64 0, .int .i64 0, .int .i64 0, .int .i64 0, .int .i64 0, .int .i64 0]) (t := 24) ?hr ?_; (case hd => rfl); (case hg => rfl); (case hr => first | (go_simp; done) | (go_simp; rfl))
       intro gb205 hg w42 hbox hb
       have BK205 := Aside0.mk (hbox)
       have GW205 := Aside0.mk ((by rw [hg]; exact (below_size (by first | exact HB.out | exact pw_below_drewN HB.out _ | exact below_drew1 HB.out)) : w.heap.size ≤ gb205))
       have GE205 := Aside0.mk ((by rw [hg]; exact (below_size (by first | exact HB.out | exact pw_below_drewN HB.out _ | exact below_drew1 HB.out)) : w.heap.size ≤ gb205))
       have NB188_205 := Aside0.mk ((by rw [hg]; exact Nat.ne_of_lt (blk_lt BK188.out) : gb188 ≠ gb205))
       have NB205_188 := Aside0.mk ((by rw [hg]; exact Nat.ne_of_gt (blk_lt BK188.out) : gb205 ≠ gb188))
       have NB189_205 := Aside0.mk ((by rw [hg]; exact Nat.ne_of_lt (blk_lt BK189.out) : gb189 ≠ gb205))
       have NB205_189 := Aside0.mk ((by rw [hg]; exact Nat.ne_of_gt (blk_lt BK189.out) : gb205 ≠ gb189))
       have NB190_205 := Aside0.mk ((by rw [hg]; exact Nat.ne_of_lt (blk_lt BK190.out) : gb190 ≠ gb205))
       have NB205_190 := Aside0.mk ((by rw [hg]; exact Nat.ne_of_gt (blk_lt BK190.out) : gb205 ≠ gb190))
       replace BK188 := Aside0.mk (blkb_ hb BK188.out)
       replace BK189 := Aside0.mk (blkb_ hb BK189.out)
       replace BK190 := Aside0.mk (blkb_ hb BK190.out)
       replace HB := Aside0.mk (below_step (by first | exact HB.out | exact pw_below_drewN HB.out _ | exact below_drew1 HB.out) hb)
       clear hb hbox hg
       refine hK.out _ _ (hq_ BK188.out BK189.out) (fun hHeld => ?_)
       clear hK K
       refine norm_ (a' := ?_) ?_ ?_
       rotate_left
       ·show Act.put _ (some 6) _ = _
        simp only [Act.put, List.setIfInBounds_toArray, List.set_cons_zero, List.set_cons_succ, i64_w, i32_w]
        rfl
       exact norm_ (by simp only [putAll, Act.put, List.setIfInBounds_toArray, List.set_cons_zero, List.set_cons_succ]; first | done | rfl) (hJ4_73 (gb205) _ ⟨hHeld, BK188.out, BK189.out, BK190.out, BK205.out, GW205.out, GE205.out, NB188_205.out, NB205_188.out, NB189_205.out, NB205_189.out, NB190_205.out, NB205_190.out, (by first | exact HB.out | exact pw_below_drewN HB.out _ | exact below_drew1 HB.out)⟩)
     intro hJ4
     refine join_ (σ := Nat) 22 mb24_ (fun s_ => [(6, .pointer (some ⟨s_, 0, none⟩))]) (fun s_ w' => (w'.cell? ⟨gb188, 0, none⟩ = some (.int .i64 a0_0) ∧ w'.cell? ⟨gb188, 1, none⟩ = some (.int .i64 a0_1) ∧ w'.cell? ⟨gb188, 2, none⟩ = some (.int .i64 a0_2) ∧ w'.cell? ⟨gb188, 3, none⟩ = some (.int .i64 a0_3) ∧ w'.cell? ⟨gb188, 4, none⟩ = some (.int .i64 a0_4) ∧ w'.cell? ⟨gb188, 5, none⟩ = some (.int .i64 a0_5) ∧ w'.cell? ⟨gb189, 0, none⟩ = some (.int .i64 a1_0) ∧ w'.cell? ⟨gb189, 1, none⟩ = some (.int .i64 a1_1) ∧ w'.cell? ⟨gb189, 2, none⟩ = some (.int .i64 a1_2) ∧ w'.cell? ⟨gb189, 3, none⟩ = some (.int .i64 a1_3) ∧ w'.cell? ⟨gb189, 4, none⟩ = some (.int .i64 a1_4) ∧ w'.cell? ⟨gb189, 5, none⟩ = some (.int .i64 a1_5)) ∧ (w'.heap[gb188]? = some (.cells #[.int .i64 a0_0, .int .i64 a0_1, .int .i64 a0_2, .int .i64 a0_3, .int .i64 a0_4, .int .i64 a0_5] 24 (0, 0))) ∧ (w'.heap[gb189]? = some (.cells #[.int .i64 a1_0, .int .i64 a1_1, .int .i64 a1_2, .int .i64 a1_3, .int .i64 a1_4, .int .i64 a1_5] 24 (0, 0))) ∧ (w'.heap[gb190]? = some (.cells #[.int .i64 0, .int .i64 0, .int .i64 0, .int .i64 0, .int .i64 0, .int .i64 0] 24 (0, 0))) ∧ (w'.heap[s_]? = some (.cells #[.int .i64 0, .int .i64 0, .int .i64 0, .int .i64 0, .int .i64 0, .int .i64 0] 24 (0, 0))) ∧ (w.heap.size ≤ s_) ∧ (w.heap.size ≤ s_) ∧ (gb188 ≠ s_) ∧ (s_ ≠ gb188) ∧ (gb189 ≠ s_) ∧ (s_ ≠ gb189) ∧ (gb190 ≠ s_) ∧ (s_ ≠ gb190) ∧ (Below w.heap.size w w')) ?_ ?_
     ·skip
      rintro gb205 w41 ⟨hS_, h0_, h1_, h2_, h3_, h4_, h5_, h6_, h7_, h8_, h9_, h10_, h11_, h12_⟩
      have n0_ := Aside0.mk h0_
      have n1_ := Aside0.mk h1_
      have n2_ := Aside0.mk h2_
      have n3_ := Aside0.mk h3_
      have n4_ : Aside0 (w.heap.size ≤ gb205) := ⟨h4_⟩
      have n5_ : Aside0 (w.heap.size ≤ gb205) := ⟨h5_⟩
      have n6_ : Aside0 (gb188 ≠ gb205) := ⟨h6_⟩
      have n7_ : Aside0 (gb205 ≠ gb188) := ⟨h7_⟩
      have n8_ : Aside0 (gb189 ≠ gb205) := ⟨h8_⟩
      have n9_ : Aside0 (gb205 ≠ gb189) := ⟨h9_⟩
      have n10_ : Aside0 (gb190 ≠ gb205) := ⟨h10_⟩
      have n11_ : Aside0 (gb205 ≠ gb190) := ⟨h11_⟩
      have n12_ : Aside0 (Below w.heap.size w w41) := ⟨h12_⟩
      clear BK188
      clear BK189
      clear BK190
      clear HB
      clear h0_ h1_ h2_ h3_ h4_ h5_ h6_ h7_ h8_ h9_ h10_ h11_ h12_
      have BK188 := n0_
      have BK189 := n1_
      have BK190 := n2_
      have BK205 := n3_
      have GW205 := n4_
      have GE205 := n5_
      have NB188_205 := n6_
      have NB205_188 := n7_
      have NB189_205 := n8_
      have NB205_189 := n9_
      have NB190_205 := n10_
      have NB205_190 := n11_
      have HB := n12_
      clear n0_ n1_ n2_ n3_ n4_ n5_ n6_ n7_ n8_ n9_ n10_ n11_ n12_
      have hHeld := hS_
      try dsimp only at hHeld
      refine norm_ (a' := ?_) ?_ ?_
      rotate_left
      ·simp only [putAll, Act.put, List.setIfInBounds_toArray, List.set_cons_zero, List.set_cons_succ]
       rfl
      refine one_ (i := 4) (N := some 20) mb22_ rfl rfl (one_of HT_.out (by kernel_rfl)) (by decide) (fun K hK => ?_)
      refine goes_ Try.func11 (by kernel_rfl) rfl #[.int .i64 a0_0, .int .i64 a1_0] (by rfl) rfl rfl (by (try simp only [List.map_toArray, List.map_cons, List.map_nil]); first | done | rfl | (simp only [List.length_drop, List.length_take]; rfl)) ?_
      with_reducible refine (impl_FixMul.calls kj2 a0_0 a1_0 t193 _ A25.out).mono ?_
      rintro e w42 ⟨rfl, hb⟩
      refine ⟨_, rfl, ?_⟩
      replace BK188 := Aside0.mk (blkb_ hb BK188.out)
      replace BK189 := Aside0.mk (blkb_ hb BK189.out)
      replace BK190 := Aside0.mk (blkb_ hb BK190.out)
      replace BK205 := Aside0.mk (blkb_ hb BK205.out)
      replace HB := Aside0.mk (below_step (by first | exact HB.out | exact pw_below_drewN HB.out _ | exact below_drew1 HB.out) hb)
      (try clear hb);(try clear hb2);(try clear hk);(try clear hi)
      refine hK.out _ _ (hq_ BK188.out BK189.out) (fun hHeld => ?_)
      clear hK K
      refine norm_ (a' := ?_) ?_ ?_
      rotate_left
      ·show Act.put _ (some 20) _ = _
       simp only [Act.put, List.setIfInBounds_toArray, List.set_cons_zero, List.set_cons_succ, i64_w, i32_w]
       rfl
      exact norm_ (by simp only [putAll, Act.put, List.setIfInBounds_toArray, List.set_cons_zero, List.set_cons_succ]; first | done | rfl) (hJ4_73 (gb205) _ ⟨hHeld, BK188.out, BK189.out, BK190.out, BK205.out, GW205.out, GE205.out, NB188_205.out, NB205_188.out, NB189_205.out, NB205_189.out, NB190_205.out, NB205_190.out, (by first | exact HB.out | exact pw_below_drewN HB.out _ | exact below_drew1 HB.out)⟩)
     intro hJ73
     refine two_ (i := 4) (j := 73) (Ni := some 20) (Nj := some 6) mb23_ mb24_ rfl rfl rfl rfl (two_of HT_.out (by kernel_rfl)) (by decide) (by decide) (fun K hK => ?_) (fun K hK => ?_)
     ·skip
      refine goes_ Try.func11 (by kernel_rfl) rfl #[.int .i64 a0_0, .int .i64 a1_0] (by rfl) rfl rfl (by (try simp only [List.map_toArray, List.map_cons, List.map_nil]); first | done | rfl | (simp only [List.length_drop, List.length_take]; rfl)) ?_
      with_reducible refine (impl_FixMul.calls kj2 a0_0 a1_0 t193 _ A25.out).mono ?_
      rintro e w40 ⟨rfl, hb⟩
      refine ⟨_, rfl, ?_⟩
      replace BK188 := Aside0.mk (blkb_ hb BK188.out)
      replace BK189 := Aside0.mk (blkb_ hb BK189.out)
      replace BK190 := Aside0.mk (blkb_ hb BK190.out)
      replace HB := Aside0.mk (below_step (by first | exact HB.out | exact pw_below_drewN HB.out _ | exact below_drew1 HB.out) hb)
      (try clear hb);(try clear hb2);(try clear hk);(try clear hi)
      refine hK.out _ _ (hq_ BK188.out BK189.out) (fun hHeld => ?_)
      clear hK K
      refine norm_ (a' := ?_) ?_ ?_
      rotate_left
      ·show Act.put _ (some 20) _ = _
       simp only [Act.put, List.setIfInBounds_toArray, List.set_cons_zero, List.set_cons_succ, i64_w, i32_w]
       rfl
      exact norm_ (by simp only [putAll, Act.put, List.setIfInBounds_toArray, List.set_cons_zero, List.set_cons_succ]; first | done | rfl) (hJ4 () _ ⟨hHeld, BK188.out, BK189.out, BK190.out, (by first | exact HB.out | exact pw_below_drewN HB.out _ | exact below_drew1 HB.out)⟩)
     ·skip
      refine box_step ?hg (N := 6) ?hd (cs := #[.int .i64 0, .int .i64 0, .int .i64 0, .int .i64 0, .int .i64 0, .int .i64 0]) (t := 24) ?hr ?_; (case hd => rfl); (case hg => rfl); (case hr => first | (go_simp; done) | (go_simp; rfl))
      intro gb205 hg w40 hbox hb
      have BK205 := Aside0.mk (hbox)
      have GW205 := Aside0.mk ((by rw [hg]; exact (below_size (by first | exact HB.out | exact pw_below_drewN HB.out _ | exact below_drew1 HB.out)) : w.heap.size ≤ gb205))
      have GE205 := Aside0.mk ((by rw [hg]; exact (below_size (by first | exact HB.out | exact pw_below_drewN HB.out _ | exact below_drew1 HB.out)) : w.heap.size ≤ gb205))
      have NB188_205 := Aside0.mk ((by rw [hg]; exact Nat.ne_of_lt (blk_lt BK188.out) : gb188 ≠ gb205))
      have NB205_188 := Aside0.mk ((by rw [hg]; exact Nat.ne_of_gt (blk_lt BK188.out) : gb205 ≠ gb188))
      have NB189_205 := Aside0.mk ((by rw [hg]; exact Nat.ne_of_lt (blk_lt BK189.out) : gb189 ≠ gb205))
      have NB205_189 := Aside0.mk ((by rw [hg]; exact Nat.ne_of_gt (blk_lt BK189.out) : gb205 ≠ gb189))
      have NB190_205 := Aside0.mk ((by rw [hg]; exact Nat.ne_of_lt (blk_lt BK190.out) : gb190 ≠ gb205))
      have NB205_190 := Aside0.mk ((by rw [hg]; exact Nat.ne_of_gt (blk_lt BK190.out) : gb205 ≠ gb190))
      replace BK188 := Aside0.mk (blkb_ hb BK188.out)
      replace BK189 := Aside0.mk (blkb_ hb BK189.out)
      replace BK190 := Aside0.mk (blkb_ hb BK190.out)
      replace HB := Aside0.mk (below_step (by first | exact HB.out | exact pw_below_drewN HB.out _ | exact below_drew1 HB.out) hb)
      clear hb hbox hg
      refine hK.out _ _ (hq_ BK188.out BK189.out) (fun hHeld => ?_)
      clear hK K
      refine norm_ (a' := ?_) ?_ ?_
      rotate_left
      ·show Act.put _ (some 6) _ = _
       simp only [Act.put, List.setIfInBounds_toArray, List.set_cons_zero, List.set_cons_succ, i64_w, i32_w]
       rfl
      exact norm_ (by simp only [putAll, Act.put, List.setIfInBounds_toArray, List.set_cons_zero, List.set_cons_succ]; first | done | rfl) (hJ73 (gb205) _ ⟨hHeld, BK188.out, BK189.out, BK190.out, BK205.out, GW205.out, GE205.out, NB188_205.out, NB205_188.out, NB189_205.out, NB205_189.out, NB190_205.out, NB205_190.out, (by first | exact HB.out | exact pw_below_drewN HB.out _ | exact below_drew1 HB.out)⟩)
    rintro gb205 w53 ⟨hS_, h0_, h1_, h2_, h3_, h4_, h5_, h6_, h7_, h8_, h9_, h10_, h11_, h12_⟩
    have n0_ := Aside0.mk h0_
    have n1_ := Aside0.mk h1_
    have n2_ := Aside0.mk h2_
    have n3_ := Aside0.mk h3_
    have n4_ : Aside0 (w.heap.size ≤ gb205) := ⟨h4_⟩
    have n5_ : Aside0 (w.heap.size ≤ gb205) := ⟨h5_⟩
    have n6_ : Aside0 (gb188 ≠ gb205) := ⟨h6_⟩
    have n7_ : Aside0 (gb205 ≠ gb188) := ⟨h7_⟩
    have n8_ : Aside0 (gb189 ≠ gb205) := ⟨h8_⟩
    have n9_ : Aside0 (gb205 ≠ gb189) := ⟨h9_⟩
    have n10_ : Aside0 (gb190 ≠ gb205) := ⟨h10_⟩
    have n11_ : Aside0 (gb205 ≠ gb190) := ⟨h11_⟩
    have n12_ : Aside0 (Below w.heap.size w w53) := ⟨h12_⟩
    clear BK188
    clear BK189
    clear BK190
    clear HB
    clear h0_ h1_ h2_ h3_ h4_ h5_ h6_ h7_ h8_ h9_ h10_ h11_ h12_
    have BK188 := n0_
    have BK189 := n1_
    have BK190 := n2_
    have BK205 := n3_
    have GW205 := n4_
    have GE205 := n5_
    have NB188_205 := n6_
    have NB205_188 := n7_
    have NB189_205 := n8_
    have NB205_189 := n9_
    have NB190_205 := n10_
    have NB205_190 := n11_
    have HB := n12_
    clear n0_ n1_ n2_ n3_ n4_ n5_ n6_ n7_ n8_ n9_ n10_ n11_ n12_
    have hHeld := hS_
    try dsimp only at hHeld
    refine norm_ (a' := ?_) ?_ ?_
    rotate_left
    ·simp only [putAll, Act.put, List.setIfInBounds_toArray, List.set_cons_zero, List.set_cons_succ]
     rfl
    refine one_ (i := 74) (N := none) #[true, true, true, true, true, true, true, true, true, true, true, true, true, true, true, true, true, true, true, true, true, true, true, true, true, true, true, true, true, true, true, true, true, true, true, true, true, true, true, true, true, true, true, true, true, true, true, true, true, true, true, true, true, true, true, true, true, true, true, true, true, true, true, true, true, true, true, true, true, true, true, true, true, true, true] rfl rfl (one_of HT_.out (by kernel_rfl)) (by decide) (fun K hK => ?_)
    have hs54 : w53.cell? ⟨gb205, 0, none⟩ = some (.int .i64 0) := (blk_cell BK205.out 0).trans rfl
    have hfs54 := blk_frozen BK205.out 0
    have hns54_0 := NB188_205.out
    have hns54_1 := NB189_205.out
    have hns54_2 := NB190_205.out
    have hms54_0 := NB205_188.out
    have hms54_1 := NB205_189.out
    have hms54_2 := NB205_190.out
    have hs55 : w53.cell? ⟨gb205, 1, none⟩ = some (.int .i64 0) := (blk_cell BK205.out 1).trans rfl
    have hfs55 := blk_frozen BK205.out 1
    have hns55_0 := NB188_205.out
    have hns55_1 := NB189_205.out
    have hns55_2 := NB190_205.out
    have hms55_0 := NB205_188.out
    have hms55_1 := NB205_189.out
    have hms55_2 := NB205_190.out
    have hs56 : w53.cell? ⟨gb205, 2, none⟩ = some (.int .i64 0) := (blk_cell BK205.out 2).trans rfl
    have hfs56 := blk_frozen BK205.out 2
    have hns56_0 := NB188_205.out
    have hns56_1 := NB189_205.out
    have hns56_2 := NB190_205.out
    have hms56_0 := NB205_188.out
    have hms56_1 := NB205_189.out
    have hms56_2 := NB205_190.out
    have hs57 : w53.cell? ⟨gb205, 3, none⟩ = some (.int .i64 0) := (blk_cell BK205.out 3).trans rfl
    have hfs57 := blk_frozen BK205.out 3
    have hns57_0 := NB188_205.out
    have hns57_1 := NB189_205.out
    have hns57_2 := NB190_205.out
    have hms57_0 := NB205_188.out
    have hms57_1 := NB205_189.out
    have hms57_2 := NB205_190.out
    have hs58 : w53.cell? ⟨gb205, 4, none⟩ = some (.int .i64 0) := (blk_cell BK205.out 4).trans rfl
    have hfs58 := blk_frozen BK205.out 4
    have hns58_0 := NB188_205.out
    have hns58_1 := NB189_205.out
    have hns58_2 := NB190_205.out
    have hms58_0 := NB205_188.out
    have hms58_1 := NB205_189.out
    have hms58_2 := NB205_190.out
    have hs59 : w53.cell? ⟨gb205, 5, none⟩ = some (.int .i64 0) := (blk_cell BK205.out 5).trans rfl
    have hfs59 := blk_frozen BK205.out 5
    have hns59_0 := NB188_205.out
    have hns59_1 := NB189_205.out
    have hns59_2 := NB190_205.out
    have hms59_0 := NB205_188.out
    have hms59_1 := NB205_189.out
    have hms59_2 := NB205_190.out
    refine skip_ (w1 := ?_) (by rfl) rfl ?_ ?_
    rotate_left
    ·go_simp
     rfl
    refine hK.out _ _ ⟨((cell_far (p := ⟨gb205, _, none⟩) NB188_205.out _).trans (((cell_far (p := ⟨gb205, _, none⟩) NB188_205.out _).trans (((cell_far (p := ⟨gb205, _, none⟩) NB188_205.out _).trans (((cell_far (p := ⟨gb205, _, none⟩) NB188_205.out _).trans (((cell_far (p := ⟨gb205, _, none⟩) NB188_205.out _).trans (((cell_far (p := ⟨gb205, _, none⟩) NB188_205.out _).trans (hHeld.1)))))))))))), ((cell_far (p := ⟨gb205, _, none⟩) NB188_205.out _).trans (((cell_far (p := ⟨gb205, _, none⟩) NB188_205.out _).trans (((cell_far (p := ⟨gb205, _, none⟩) NB188_205.out _).trans (((cell_far (p := ⟨gb205, _, none⟩) NB188_205.out _).trans (((cell_far (p := ⟨gb205, _, none⟩) NB188_205.out _).trans (((cell_far (p := ⟨gb205, _, none⟩) NB188_205.out _).trans (hHeld.2.1)))))))))))), ((cell_far (p := ⟨gb205, _, none⟩) NB188_205.out _).trans (((cell_far (p := ⟨gb205, _, none⟩) NB188_205.out _).trans (((cell_far (p := ⟨gb205, _, none⟩) NB188_205.out _).trans (((cell_far (p := ⟨gb205, _, none⟩) NB188_205.out _).trans (((cell_far (p := ⟨gb205, _, none⟩) NB188_205.out _).trans (((cell_far (p := ⟨gb205, _, none⟩) NB188_205.out _).trans (hHeld.2.2.1)))))))))))), ((cell_far (p := ⟨gb205, _, none⟩) NB188_205.out _).trans (((cell_far (p := ⟨gb205, _, none⟩) NB188_205.out _).trans (((cell_far (p := ⟨gb205, _, none⟩) NB188_205.out _).trans (((cell_far (p := ⟨gb205, _, none⟩) NB188_205.out _).trans (((cell_far (p := ⟨gb205, _, none⟩) NB188_205.out _).trans (((cell_far (p := ⟨gb205, _, none⟩) NB188_205.out _).trans (hHeld.2.2.2.1)))))))))))), ((cell_far (p := ⟨gb205, _, none⟩) NB188_205.out _).trans (((cell_far (p := ⟨gb205, _, none⟩) NB188_205.out _).trans (((cell_far (p := ⟨gb205, _, none⟩) NB188_205.out _).trans (((cell_far (p := ⟨gb205, _, none⟩) NB188_205.out _).trans (((cell_far (p := ⟨gb205, _, none⟩) NB188_205.out _).trans (((cell_far (p := ⟨gb205, _, none⟩) NB188_205.out _).trans (hHeld.2.2.2.2.1)))))))))))), ((cell_far (p := ⟨gb205, _, none⟩) NB188_205.out _).trans (((cell_far (p := ⟨gb205, _, none⟩) NB188_205.out _).trans (((cell_far (p := ⟨gb205, _, none⟩) NB188_205.out _).trans (((cell_far (p := ⟨gb205, _, none⟩) NB188_205.out _).trans (((cell_far (p := ⟨gb205, _, none⟩) NB188_205.out _).trans (((cell_far (p := ⟨gb205, _, none⟩) NB188_205.out _).trans (hHeld.2.2.2.2.2.1)))))))))))), ((cell_far (p := ⟨gb205, _, none⟩) NB189_205.out _).trans (((cell_far (p := ⟨gb205, _, none⟩) NB189_205.out _).trans (((cell_far (p := ⟨gb205, _, none⟩) NB189_205.out _).trans (((cell_far (p := ⟨gb205, _, none⟩) NB189_205.out _).trans (((cell_far (p := ⟨gb205, _, none⟩) NB189_205.out _).trans (((cell_far (p := ⟨gb205, _, none⟩) NB189_205.out _).trans (hHeld.2.2.2.2.2.2.1)))))))))))), ((cell_far (p := ⟨gb205, _, none⟩) NB189_205.out _).trans (((cell_far (p := ⟨gb205, _, none⟩) NB189_205.out _).trans (((cell_far (p := ⟨gb205, _, none⟩) NB189_205.out _).trans (((cell_far (p := ⟨gb205, _, none⟩) NB189_205.out _).trans (((cell_far (p := ⟨gb205, _, none⟩) NB189_205.out _).trans (((cell_far (p := ⟨gb205, _, none⟩) NB189_205.out _).trans (hHeld.2.2.2.2.2.2.2.1)))))))))))), ((cell_far (p := ⟨gb205, _, none⟩) NB189_205.out _).trans (((cell_far (p := ⟨gb205, _, none⟩) NB189_205.out _).trans (((cell_far (p := ⟨gb205, _, none⟩) NB189_205.out _).trans (((cell_far (p := ⟨gb205, _, none⟩) NB189_205.out _).trans (((cell_far (p := ⟨gb205, _, none⟩) NB189_205.out _).trans (((cell_far (p := ⟨gb205, _, none⟩) NB189_205.out _).trans (hHeld.2.2.2.2.2.2.2.2.1)))))))))))), ((cell_far (p := ⟨gb205, _, none⟩) NB189_205.out _).trans (((cell_far (p := ⟨gb205, _, none⟩) NB189_205.out _).trans (((cell_far (p := ⟨gb205, _, none⟩) NB189_205.out _).trans (((cell_far (p := ⟨gb205, _, none⟩) NB189_205.out _).trans (((cell_far (p := ⟨gb205, _, none⟩) NB189_205.out _).trans (((cell_far (p := ⟨gb205, _, none⟩) NB189_205.out _).trans (hHeld.2.2.2.2.2.2.2.2.2.1)))))))))))), ((cell_far (p := ⟨gb205, _, none⟩) NB189_205.out _).trans (((cell_far (p := ⟨gb205, _, none⟩) NB189_205.out _).trans (((cell_far (p := ⟨gb205, _, none⟩) NB189_205.out _).trans (((cell_far (p := ⟨gb205, _, none⟩) NB189_205.out _).trans (((cell_far (p := ⟨gb205, _, none⟩) NB189_205.out _).trans (((cell_far (p := ⟨gb205, _, none⟩) NB189_205.out _).trans (hHeld.2.2.2.2.2.2.2.2.2.2.1)))))))))))), ((cell_far (p := ⟨gb205, _, none⟩) NB189_205.out _).trans (((cell_far (p := ⟨gb205, _, none⟩) NB189_205.out _).trans (((cell_far (p := ⟨gb205, _, none⟩) NB189_205.out _).trans (((cell_far (p := ⟨gb205, _, none⟩) NB189_205.out _).trans (((cell_far (p := ⟨gb205, _, none⟩) NB189_205.out _).trans (((cell_far (p := ⟨gb205, _, none⟩) NB189_205.out _).trans (hHeld.2.2.2.2.2.2.2.2.2.2.2))))))))))))⟩ (fun hHeld => ?_)
    clear hK K
    refine done_ (done_of HT_.out (by kernel_rfl)) ?_
    have hnb60 := NB205_188.out
    have hnc60 := NB188_205.out
    have hnb61 := NB205_189.out
    have hnc61 := NB189_205.out
    have hnb62 := NB205_190.out
    have hnc62 := NB190_205.out
    have hcz63_0 : w53.cell? ⟨gb205, 0, none⟩ = some (.int .i64 0) := (blk_cell BK205.out 0).trans rfl
    have hcz63_1 : w53.cell? ⟨gb205, 1, none⟩ = some (.int .i64 0) := (blk_cell BK205.out 1).trans rfl
    have hcz63_2 : w53.cell? ⟨gb205, 2, none⟩ = some (.int .i64 0) := (blk_cell BK205.out 2).trans rfl
    have hcz63_3 : w53.cell? ⟨gb205, 3, none⟩ = some (.int .i64 0) := (blk_cell BK205.out 3).trans rfl
    have hcz63_4 : w53.cell? ⟨gb205, 4, none⟩ = some (.int .i64 0) := (blk_cell BK205.out 4).trans rfl
    have hcz63_5 : w53.cell? ⟨gb205, 5, none⟩ = some (.int .i64 0) := (blk_cell BK205.out 5).trans rfl
    have hfz63_0 := blk_frozen BK205.out 0
    have hfz63_1 := blk_frozen BK205.out 1
    have hfz63_2 := blk_frozen BK205.out 2
    have hfz63_3 := blk_frozen BK205.out 3
    have hfz63_4 := blk_frozen BK205.out 4
    have hfz63_5 := blk_frozen BK205.out 5
    by_cases c38 : t206 = true
    ·have H := HHc38.out
     clear HHc38
     subst c38
     have H1 : (some (wrap64 (t193 + t194), wrap64 (t195 + t196), wrap64 (t197 + t198), wrap64 (t199 + t200), wrap64 ((wrap64 (t201 + t202)) + a0_4), wrap64 ((wrap64 (t203 + t204)) + a0_5), true)) = some (r1, r2, r3, r4, r5, r6, r7) := by rw [if_pos rfl] at H; exact H
     clear H
     have H := H1
     clear H1
     simp only [Option.some.injEq, Prod.mk.injEq] at H
     obtain ⟨rfl, rfl, rfl, rfl, rfl, rfl, rfl⟩ := H
     try go_wp2_with (first | ((with_reducible refine gate_callee (f := 10) rfl ?_); refine goesL_ (some 90) rfl rfl Try.func10 (by kernel_rfl) rfl #[.agg #[.int .i64 (wrap64 (t193 + t194)), .int .i64 (wrap64 (t195 + t196)), .int .i64 (wrap64 (t197 + t198)), .int .i64 (wrap64 (t199 + t200)), .int .i64 (wrap64 ((wrap64 (t201 + t202)) + a0_4)), .int .i64 (wrap64 ((wrap64 (t203 + t204)) + a0_5))]] rfl (by (try simp only [List.map_toArray, List.map_cons, List.map_nil]); first | done | rfl | (simp only [List.length_drop, List.length_take]; rfl)) ?_; (with_reducible refine (impl_GoodAffine.calls kj2 (wrap64 (t193 + t194)) (wrap64 (t195 + t196)) (wrap64 (t197 + t198)) (wrap64 (t199 + t200)) (wrap64 ((wrap64 (t201 + t202)) + a0_4)) (wrap64 ((wrap64 (t203 + t204)) + a0_5)) true _ A37.out).mono ?_); rintro e w64 ⟨rfl, hb⟩; refine ⟨_, rfl, ?_⟩; have n0_ := Aside0.mk (blk_below (g := gb188) (o := .cells #[.int .i64 a0_0, .int .i64 a0_1, .int .i64 a0_2, .int .i64 a0_3, .int .i64 a0_4, .int .i64 a0_5] 24 (0, 0)) (by (with_reducible repeat (first | refine blk_drewN ?_ _ | refine blk_drew ?_ | refine blk_alloc ?_ _)); refine blk_far ?_ NB188_205.out _; (with_reducible repeat (first | refine blk_drewN ?_ _ | refine blk_drew ?_ | refine blk_alloc ?_ _)); refine blk_far ?_ NB188_205.out _; (with_reducible repeat (first | refine blk_drewN ?_ _ | refine blk_drew ?_ | refine blk_alloc ?_ _)); refine blk_far ?_ NB188_205.out _; (with_reducible repeat (first | refine blk_drewN ?_ _ | refine blk_drew ?_ | refine blk_alloc ?_ _)); refine blk_far ?_ NB188_205.out _; (with_reducible repeat (first | refine blk_drewN ?_ _ | refine blk_drew ?_ | refine blk_alloc ?_ _)); refine blk_far ?_ NB188_205.out _; (with_reducible repeat (first | refine blk_drewN ?_ _ | refine blk_drew ?_ | refine blk_alloc ?_ _)); refine blk_far ?_ NB188_205.out _; (with_reducible repeat (first | refine blk_drewN ?_ _ | refine blk_drew ?_ | refine blk_alloc ?_ _)); exact BK188.out) hb); have n1_ := Aside0.mk (blk_below (g := gb189) (o := .cells #[.int .i64 a1_0, .int .i64 a1_1, .int .i64 a1_2, .int .i64 a1_3, .int .i64 a1_4, .int .i64 a1_5] 24 (0, 0)) (by (with_reducible repeat (first | refine blk_drewN ?_ _ | refine blk_drew ?_ | refine blk_alloc ?_ _)); refine blk_far ?_ NB189_205.out _; (with_reducible repeat (first | refine blk_drewN ?_ _ | refine blk_drew ?_ | refine blk_alloc ?_ _)); refine blk_far ?_ NB189_205.out _; (with_reducible repeat (first | refine blk_drewN ?_ _ | refine blk_drew ?_ | refine blk_alloc ?_ _)); refine blk_far ?_ NB189_205.out _; (with_reducible repeat (first | refine blk_drewN ?_ _ | refine blk_drew ?_ | refine blk_alloc ?_ _)); refine blk_far ?_ NB189_205.out _; (with_reducible repeat (first | refine blk_drewN ?_ _ | refine blk_drew ?_ | refine blk_alloc ?_ _)); refine blk_far ?_ NB189_205.out _; (with_reducible repeat (first | refine blk_drewN ?_ _ | refine blk_drew ?_ | refine blk_alloc ?_ _)); refine blk_far ?_ NB189_205.out _; (with_reducible repeat (first | refine blk_drewN ?_ _ | refine blk_drew ?_ | refine blk_alloc ?_ _)); exact BK189.out) hb); have n2_ := Aside0.mk (blk_below (g := gb190) (o := .cells #[.int .i64 0, .int .i64 0, .int .i64 0, .int .i64 0, .int .i64 0, .int .i64 0] 24 (0, 0)) (by (with_reducible repeat (first | refine blk_drewN ?_ _ | refine blk_drew ?_ | refine blk_alloc ?_ _)); refine blk_far ?_ NB190_205.out _; (with_reducible repeat (first | refine blk_drewN ?_ _ | refine blk_drew ?_ | refine blk_alloc ?_ _)); refine blk_far ?_ NB190_205.out _; (with_reducible repeat (first | refine blk_drewN ?_ _ | refine blk_drew ?_ | refine blk_alloc ?_ _)); refine blk_far ?_ NB190_205.out _; (with_reducible repeat (first | refine blk_drewN ?_ _ | refine blk_drew ?_ | refine blk_alloc ?_ _)); refine blk_far ?_ NB190_205.out _; (with_reducible repeat (first | refine blk_drewN ?_ _ | refine blk_drew ?_ | refine blk_alloc ?_ _)); refine blk_far ?_ NB190_205.out _; (with_reducible repeat (first | refine blk_drewN ?_ _ | refine blk_drew ?_ | refine blk_alloc ?_ _)); refine blk_far ?_ NB190_205.out _; (with_reducible repeat (first | refine blk_drewN ?_ _ | refine blk_drew ?_ | refine blk_alloc ?_ _)); exact BK190.out) hb); have n3_ := Aside0.mk (blk_below (g := gb205) (o := .cells #[.int .i64 (wrap64 (t193 + t194)), .int .i64 (wrap64 (t195 + t196)), .int .i64 (wrap64 (t197 + t198)), .int .i64 (wrap64 (t199 + t200)), .int .i64 (wrap64 ((wrap64 (t201 + t202)) + a0_4)), .int .i64 (wrap64 ((wrap64 (t203 + t204)) + a0_5))] 24 (0, 0)) (by (with_reducible repeat (first | refine blk_drewN ?_ _ | refine blk_drew ?_ | refine blk_alloc ?_ _)); refine blk_put (cs := #[.int .i64 (wrap64 (t193 + t194)), .int .i64 (wrap64 (t195 + t196)), .int .i64 (wrap64 (t197 + t198)), .int .i64 (wrap64 (t199 + t200)), .int .i64 (wrap64 ((wrap64 (t201 + t202)) + a0_4)), .int .i64 0]) ?_ 5 _ rfl; (with_reducible repeat (first | refine blk_drewN ?_ _ | refine blk_drew ?_ | refine blk_alloc ?_ _)); refine blk_put (cs := #[.int .i64 (wrap64 (t193 + t194)), .int .i64 (wrap64 (t195 + t196)), .int .i64 (wrap64 (t197 + t198)), .int .i64 (wrap64 (t199 + t200)), .int .i64 0, .int .i64 0]) ?_ 4 _ rfl; (with_reducible repeat (first | refine blk_drewN ?_ _ | refine blk_drew ?_ | refine blk_alloc ?_ _)); refine blk_put (cs := #[.int .i64 (wrap64 (t193 + t194)), .int .i64 (wrap64 (t195 + t196)), .int .i64 (wrap64 (t197 + t198)), .int .i64 0, .int .i64 0, .int .i64 0]) ?_ 3 _ rfl; (with_reducible repeat (first | refine blk_drewN ?_ _ | refine blk_drew ?_ | refine blk_alloc ?_ _)); refine blk_put (cs := #[.int .i64 (wrap64 (t193 + t194)), .int .i64 (wrap64 (t195 + t196)), .int .i64 0, .int .i64 0, .int .i64 0, .int .i64 0]) ?_ 2 _ rfl; (with_reducible repeat (first | refine blk_drewN ?_ _ | refine blk_drew ?_ | refine blk_alloc ?_ _)); refine blk_put (cs := #[.int .i64 (wrap64 (t193 + t194)), .int .i64 0, .int .i64 0, .int .i64 0, .int .i64 0, .int .i64 0]) ?_ 1 _ rfl; (with_reducible repeat (first | refine blk_drewN ?_ _ | refine blk_drew ?_ | refine blk_alloc ?_ _)); refine blk_put (cs := #[.int .i64 0, .int .i64 0, .int .i64 0, .int .i64 0, .int .i64 0, .int .i64 0]) ?_ 0 _ rfl; (with_reducible repeat (first | refine blk_drewN ?_ _ | refine blk_drew ?_ | refine blk_alloc ?_ _)); exact BK205.out) hb); have n4_ := Aside0.mk (below_step (by repeat (first | (with_reducible first | exact HB.out | apply below_alloc | apply pw_below_drewN | apply below_drew1 | refine below_set ?_ GE188.out | refine below_set ?_ GE189.out | refine below_set ?_ GE190.out | refine below_set ?_ GE205.out) | exact HB.out)) hb); clear BK188; clear BK189; clear BK190; clear BK205; clear HB; have BK188 := n0_; have BK189 := n1_; have BK190 := n2_; have BK205 := n3_; have HB := n4_; clear n0_ n1_ n2_ n3_ n4_; (try clear hb); (try clear hb2); (try clear hk); (try clear hi); have hcz65_0 : w64.cell? ⟨gb205, 0, none⟩ = some (.int .i64 (wrap64 (t193 + t194))) := (blk_cell BK205.out 0).trans rfl; have hcz65_1 : w64.cell? ⟨gb205, 1, none⟩ = some (.int .i64 (wrap64 (t195 + t196))) := (blk_cell BK205.out 1).trans rfl; have hcz65_2 : w64.cell? ⟨gb205, 2, none⟩ = some (.int .i64 (wrap64 (t197 + t198))) := (blk_cell BK205.out 2).trans rfl; have hcz65_3 : w64.cell? ⟨gb205, 3, none⟩ = some (.int .i64 (wrap64 (t199 + t200))) := (blk_cell BK205.out 3).trans rfl; have hcz65_4 : w64.cell? ⟨gb205, 4, none⟩ = some (.int .i64 (wrap64 ((wrap64 (t201 + t202)) + a0_4))) := (blk_cell BK205.out 4).trans rfl; have hcz65_5 : w64.cell? ⟨gb205, 5, none⟩ = some (.int .i64 (wrap64 ((wrap64 (t203 + t204)) + a0_5))) := (blk_cell BK205.out 5).trans rfl; have hfz65_0 := blk_frozen BK205.out 0; have hfz65_1 := blk_frozen BK205.out 1; have hfz65_2 := blk_frozen BK205.out 2; have hfz65_3 := blk_frozen BK205.out 3; have hfz65_4 := blk_frozen BK205.out 4; have hfz65_5 := blk_frozen BK205.out 5; have hnb66 := NB190_188.out; have hnc66 := NB188_190.out; have hnb67 := NB190_189.out; have hnc67 := NB189_190.out; have hcz68_0 : w64.cell? ⟨gb190, 0, none⟩ = some (.int .i64 0) := (blk_cell BK190.out 0).trans rfl; have hcz68_1 : w64.cell? ⟨gb190, 1, none⟩ = some (.int .i64 0) := (blk_cell BK190.out 1).trans rfl; have hcz68_2 : w64.cell? ⟨gb190, 2, none⟩ = some (.int .i64 0) := (blk_cell BK190.out 2).trans rfl; have hcz68_3 : w64.cell? ⟨gb190, 3, none⟩ = some (.int .i64 0) := (blk_cell BK190.out 3).trans rfl; have hcz68_4 : w64.cell? ⟨gb190, 4, none⟩ = some (.int .i64 0) := (blk_cell BK190.out 4).trans rfl; have hcz68_5 : w64.cell? ⟨gb190, 5, none⟩ = some (.int .i64 0) := (blk_cell BK190.out 5).trans rfl; have hfz68_0 := blk_frozen BK190.out 0; have hfz68_1 := blk_frozen BK190.out 1; have hfz68_2 := blk_frozen BK190.out 2; have hfz68_3 := blk_frozen BK190.out 3; have hfz68_4 := blk_frozen BK190.out 4; have hfz68_5 := blk_frozen BK190.out 5))
     refine bodyPost_ret (results_ct rfl _ _ gb190 24 #[.int .i64 (wrap64 (t193 + t194)), .int .i64 (wrap64 (t195 + t196)), .int .i64 (wrap64 (t197 + t198)), .int .i64 (wrap64 (t199 + t200)), .int .i64 (wrap64 ((wrap64 (t201 + t202)) + a0_4)), .int .i64 (wrap64 ((wrap64 (t203 + t204)) + a0_5))] (0, 0) _ rfl (by (with_reducible repeat (first | refine blk_drewN ?_ _ | refine blk_drew ?_ | refine blk_alloc ?_ _)); refine blk_put (cs := #[.int .i64 (wrap64 (t193 + t194)), .int .i64 (wrap64 (t195 + t196)), .int .i64 (wrap64 (t197 + t198)), .int .i64 (wrap64 (t199 + t200)), .int .i64 (wrap64 ((wrap64 (t201 + t202)) + a0_4)), .int .i64 0]) ?_ 5 _ rfl; (with_reducible repeat (first | refine blk_drewN ?_ _ | refine blk_drew ?_ | refine blk_alloc ?_ _)); refine blk_put (cs := #[.int .i64 (wrap64 (t193 + t194)), .int .i64 (wrap64 (t195 + t196)), .int .i64 (wrap64 (t197 + t198)), .int .i64 (wrap64 (t199 + t200)), .int .i64 0, .int .i64 0]) ?_ 4 _ rfl; (with_reducible repeat (first | refine blk_drewN ?_ _ | refine blk_drew ?_ | refine blk_alloc ?_ _)); refine blk_put (cs := #[.int .i64 (wrap64 (t193 + t194)), .int .i64 (wrap64 (t195 + t196)), .int .i64 (wrap64 (t197 + t198)), .int .i64 0, .int .i64 0, .int .i64 0]) ?_ 3 _ rfl; (with_reducible repeat (first | refine blk_drewN ?_ _ | refine blk_drew ?_ | refine blk_alloc ?_ _)); refine blk_put (cs := #[.int .i64 (wrap64 (t193 + t194)), .int .i64 (wrap64 (t195 + t196)), .int .i64 0, .int .i64 0, .int .i64 0, .int .i64 0]) ?_ 2 _ rfl; (with_reducible repeat (first | refine blk_drewN ?_ _ | refine blk_drew ?_ | refine blk_alloc ?_ _)); refine blk_put (cs := #[.int .i64 (wrap64 (t193 + t194)), .int .i64 0, .int .i64 0, .int .i64 0, .int .i64 0, .int .i64 0]) ?_ 1 _ rfl; (with_reducible repeat (first | refine blk_drewN ?_ _ | refine blk_drew ?_ | refine blk_alloc ?_ _)); refine blk_put (cs := #[.int .i64 0, .int .i64 0, .int .i64 0, .int .i64 0, .int .i64 0, .int .i64 0]) ?_ 0 _ rfl; (with_reducible repeat (first | refine blk_drewN ?_ _ | refine blk_drew ?_ | refine blk_alloc ?_ _)); exact BK190.out) Try.underlying24 rfl (by kernel_rfl)) rfl ?_
     exact ⟨by first | rfl | (simp [errW_none, errW_some] <;> rfl) | (simp [*, errW_none, errW_some] <;> rfl), by repeat (first | (with_reducible first | exact HB.out | apply below_alloc | apply pw_below_drewN | apply below_drew1 | refine below_set ?_ GE188.out | refine below_set ?_ GE189.out | refine below_set ?_ GE190.out | refine below_set ?_ GE205.out) | exact HB.out)⟩
    ·have H := HHc38.out
     clear HHc38
     replace c38 := Bool.eq_false_iff.mpr c38
     subst c38
     have H1 : (some (0, 0, 0, 0, 0, 0, false)) = some (r1, r2, r3, r4, r5, r6, r7) := by rw [if_neg (show ¬ (false = true) by decide)] at H; exact H
     clear H
     have H := H1
     clear H1
     simp only [Option.some.injEq, Prod.mk.injEq] at H
     obtain ⟨rfl, rfl, rfl, rfl, rfl, rfl, rfl⟩ := H
     try go_wp2_with (first | ((with_reducible refine gate_callee (f := 10) rfl ?_); refine goesL_ (some 90) rfl rfl Try.func10 (by kernel_rfl) rfl #[.agg #[.int .i64 (wrap64 (t193 + t194)), .int .i64 (wrap64 (t195 + t196)), .int .i64 (wrap64 (t197 + t198)), .int .i64 (wrap64 (t199 + t200)), .int .i64 (wrap64 ((wrap64 (t201 + t202)) + a0_4)), .int .i64 (wrap64 ((wrap64 (t203 + t204)) + a0_5))]] rfl (by (try simp only [List.map_toArray, List.map_cons, List.map_nil]); first | done | rfl | (simp only [List.length_drop, List.length_take]; rfl)) ?_; (with_reducible refine (impl_GoodAffine.calls kj2 (wrap64 (t193 + t194)) (wrap64 (t195 + t196)) (wrap64 (t197 + t198)) (wrap64 (t199 + t200)) (wrap64 ((wrap64 (t201 + t202)) + a0_4)) (wrap64 ((wrap64 (t203 + t204)) + a0_5)) false _ A37.out).mono ?_); rintro e w94 ⟨rfl, hb⟩; refine ⟨_, rfl, ?_⟩; have n0_ := Aside0.mk (blk_below (g := gb188) (o := .cells #[.int .i64 a0_0, .int .i64 a0_1, .int .i64 a0_2, .int .i64 a0_3, .int .i64 a0_4, .int .i64 a0_5] 24 (0, 0)) (by (with_reducible repeat (first | refine blk_drewN ?_ _ | refine blk_drew ?_ | refine blk_alloc ?_ _)); refine blk_far ?_ NB188_205.out _; (with_reducible repeat (first | refine blk_drewN ?_ _ | refine blk_drew ?_ | refine blk_alloc ?_ _)); refine blk_far ?_ NB188_205.out _; (with_reducible repeat (first | refine blk_drewN ?_ _ | refine blk_drew ?_ | refine blk_alloc ?_ _)); refine blk_far ?_ NB188_205.out _; (with_reducible repeat (first | refine blk_drewN ?_ _ | refine blk_drew ?_ | refine blk_alloc ?_ _)); refine blk_far ?_ NB188_205.out _; (with_reducible repeat (first | refine blk_drewN ?_ _ | refine blk_drew ?_ | refine blk_alloc ?_ _)); refine blk_far ?_ NB188_205.out _; (with_reducible repeat (first | refine blk_drewN ?_ _ | refine blk_drew ?_ | refine blk_alloc ?_ _)); refine blk_far ?_ NB188_205.out _; (with_reducible repeat (first | refine blk_drewN ?_ _ | refine blk_drew ?_ | refine blk_alloc ?_ _)); exact BK188.out) hb); have n1_ := Aside0.mk (blk_below (g := gb189) (o := .cells #[.int .i64 a1_0, .int .i64 a1_1, .int .i64 a1_2, .int .i64 a1_3, .int .i64 a1_4, .int .i64 a1_5] 24 (0, 0)) (by (with_reducible repeat (first | refine blk_drewN ?_ _ | refine blk_drew ?_ | refine blk_alloc ?_ _)); refine blk_far ?_ NB189_205.out _; (with_reducible repeat (first | refine blk_drewN ?_ _ | refine blk_drew ?_ | refine blk_alloc ?_ _)); refine blk_far ?_ NB189_205.out _; (with_reducible repeat (first | refine blk_drewN ?_ _ | refine blk_drew ?_ | refine blk_alloc ?_ _)); refine blk_far ?_ NB189_205.out _; (with_reducible repeat (first | refine blk_drewN ?_ _ | refine blk_drew ?_ | refine blk_alloc ?_ _)); refine blk_far ?_ NB189_205.out _; (with_reducible repeat (first | refine blk_drewN ?_ _ | refine blk_drew ?_ | refine blk_alloc ?_ _)); refine blk_far ?_ NB189_205.out _; (with_reducible repeat (first | refine blk_drewN ?_ _ | refine blk_drew ?_ | refine blk_alloc ?_ _)); refine blk_far ?_ NB189_205.out _; (with_reducible repeat (first | refine blk_drewN ?_ _ | refine blk_drew ?_ | refine blk_alloc ?_ _)); exact BK189.out) hb); have n2_ := Aside0.mk (blk_below (g := gb190) (o := .cells #[.int .i64 0, .int .i64 0, .int .i64 0, .int .i64 0, .int .i64 0, .int .i64 0] 24 (0, 0)) (by (with_reducible repeat (first | refine blk_drewN ?_ _ | refine blk_drew ?_ | refine blk_alloc ?_ _)); refine blk_far ?_ NB190_205.out _; (with_reducible repeat (first | refine blk_drewN ?_ _ | refine blk_drew ?_ | refine blk_alloc ?_ _)); refine blk_far ?_ NB190_205.out _; (with_reducible repeat (first | refine blk_drewN ?_ _ | refine blk_drew ?_ | refine blk_alloc ?_ _)); refine blk_far ?_ NB190_205.out _; (with_reducible repeat (first | refine blk_drewN ?_ _ | refine blk_drew ?_ | refine blk_alloc ?_ _)); refine blk_far ?_ NB190_205.out _; (with_reducible repeat (first | refine blk_drewN ?_ _ | refine blk_drew ?_ | refine blk_alloc ?_ _)); refine blk_far ?_ NB190_205.out _; (with_reducible repeat (first | refine blk_drewN ?_ _ | refine blk_drew ?_ | refine blk_alloc ?_ _)); refine blk_far ?_ NB190_205.out _; (with_reducible repeat (first | refine blk_drewN ?_ _ | refine blk_drew ?_ | refine blk_alloc ?_ _)); exact BK190.out) hb); have n3_ := Aside0.mk (blk_below (g := gb205) (o := .cells #[.int .i64 (wrap64 (t193 + t194)), .int .i64 (wrap64 (t195 + t196)), .int .i64 (wrap64 (t197 + t198)), .int .i64 (wrap64 (t199 + t200)), .int .i64 (wrap64 ((wrap64 (t201 + t202)) + a0_4)), .int .i64 (wrap64 ((wrap64 (t203 + t204)) + a0_5))] 24 (0, 0)) (by (with_reducible repeat (first | refine blk_drewN ?_ _ | refine blk_drew ?_ | refine blk_alloc ?_ _)); refine blk_put (cs := #[.int .i64 (wrap64 (t193 + t194)), .int .i64 (wrap64 (t195 + t196)), .int .i64 (wrap64 (t197 + t198)), .int .i64 (wrap64 (t199 + t200)), .int .i64 (wrap64 ((wrap64 (t201 + t202)) + a0_4)), .int .i64 0]) ?_ 5 _ rfl; (with_reducible repeat (first | refine blk_drewN ?_ _ | refine blk_drew ?_ | refine blk_alloc ?_ _)); refine blk_put (cs := #[.int .i64 (wrap64 (t193 + t194)), .int .i64 (wrap64 (t195 + t196)), .int .i64 (wrap64 (t197 + t198)), .int .i64 (wrap64 (t199 + t200)), .int .i64 0, .int .i64 0]) ?_ 4 _ rfl; (with_reducible repeat (first | refine blk_drewN ?_ _ | refine blk_drew ?_ | refine blk_alloc ?_ _)); refine blk_put (cs := #[.int .i64 (wrap64 (t193 + t194)), .int .i64 (wrap64 (t195 + t196)), .int .i64 (wrap64 (t197 + t198)), .int .i64 0, .int .i64 0, .int .i64 0]) ?_ 3 _ rfl; (with_reducible repeat (first | refine blk_drewN ?_ _ | refine blk_drew ?_ | refine blk_alloc ?_ _)); refine blk_put (cs := #[.int .i64 (wrap64 (t193 + t194)), .int .i64 (wrap64 (t195 + t196)), .int .i64 0, .int .i64 0, .int .i64 0, .int .i64 0]) ?_ 2 _ rfl; (with_reducible repeat (first | refine blk_drewN ?_ _ | refine blk_drew ?_ | refine blk_alloc ?_ _)); refine blk_put (cs := #[.int .i64 (wrap64 (t193 + t194)), .int .i64 0, .int .i64 0, .int .i64 0, .int .i64 0, .int .i64 0]) ?_ 1 _ rfl; (with_reducible repeat (first | refine blk_drewN ?_ _ | refine blk_drew ?_ | refine blk_alloc ?_ _)); refine blk_put (cs := #[.int .i64 0, .int .i64 0, .int .i64 0, .int .i64 0, .int .i64 0, .int .i64 0]) ?_ 0 _ rfl; (with_reducible repeat (first | refine blk_drewN ?_ _ | refine blk_drew ?_ | refine blk_alloc ?_ _)); exact BK205.out) hb); have n4_ := Aside0.mk (below_step (by repeat (first | (with_reducible first | exact HB.out | apply below_alloc | apply pw_below_drewN | apply below_drew1 | refine below_set ?_ GE188.out | refine below_set ?_ GE189.out | refine below_set ?_ GE190.out | refine below_set ?_ GE205.out) | exact HB.out)) hb); clear BK188; clear BK189; clear BK190; clear BK205; clear HB; have BK188 := n0_; have BK189 := n1_; have BK190 := n2_; have BK205 := n3_; have HB := n4_; clear n0_ n1_ n2_ n3_ n4_; (try clear hb); (try clear hb2); (try clear hk); (try clear hi); have hnb95 := NB190_188.out; have hnc95 := NB188_190.out; have hnb96 := NB190_189.out; have hnc96 := NB189_190.out; have hcz97_0 : w94.cell? ⟨gb190, 0, none⟩ = some (.int .i64 0) := (blk_cell BK190.out 0).trans rfl; have hcz97_1 : w94.cell? ⟨gb190, 1, none⟩ = some (.int .i64 0) := (blk_cell BK190.out 1).trans rfl; have hcz97_2 : w94.cell? ⟨gb190, 2, none⟩ = some (.int .i64 0) := (blk_cell BK190.out 2).trans rfl; have hcz97_3 : w94.cell? ⟨gb190, 3, none⟩ = some (.int .i64 0) := (blk_cell BK190.out 3).trans rfl; have hcz97_4 : w94.cell? ⟨gb190, 4, none⟩ = some (.int .i64 0) := (blk_cell BK190.out 4).trans rfl; have hcz97_5 : w94.cell? ⟨gb190, 5, none⟩ = some (.int .i64 0) := (blk_cell BK190.out 5).trans rfl; have hfz97_0 := blk_frozen BK190.out 0; have hfz97_1 := blk_frozen BK190.out 1; have hfz97_2 := blk_frozen BK190.out 2; have hfz97_3 := blk_frozen BK190.out 3; have hfz97_4 := blk_frozen BK190.out 4; have hfz97_5 := blk_frozen BK190.out 5))
     refine bodyPost_ret (results_ct rfl _ _ gb190 24 #[.int .i64 0, .int .i64 0, .int .i64 0, .int .i64 0, .int .i64 0, .int .i64 0] (0, 0) _ rfl (by (with_reducible repeat (first | refine blk_drewN ?_ _ | refine blk_drew ?_ | refine blk_alloc ?_ _)); refine blk_put (cs := #[.int .i64 0, .int .i64 0, .int .i64 0, .int .i64 0, .int .i64 0, .int .i64 0]) ?_ 5 _ rfl; (with_reducible repeat (first | refine blk_drewN ?_ _ | refine blk_drew ?_ | refine blk_alloc ?_ _)); refine blk_put (cs := #[.int .i64 0, .int .i64 0, .int .i64 0, .int .i64 0, .int .i64 0, .int .i64 0]) ?_ 4 _ rfl; (with_reducible repeat (first | refine blk_drewN ?_ _ | refine blk_drew ?_ | refine blk_alloc ?_ _)); refine blk_put (cs := #[.int .i64 0, .int .i64 0, .int .i64 0, .int .i64 0, .int .i64 0, .int .i64 0]) ?_ 3 _ rfl; (with_reducible repeat (first | refine blk_drewN ?_ _ | refine blk_drew ?_ | refine blk_alloc ?_ _)); refine blk_put (cs := #[.int .i64 0, .int .i64 0, .int .i64 0, .int .i64 0, .int .i64 0, .int .i64 0]) ?_ 2 _ rfl; (with_reducible repeat (first | refine blk_drewN ?_ _ | refine blk_drew ?_ | refine blk_alloc ?_ _)); refine blk_put (cs := #[.int .i64 0, .int .i64 0, .int .i64 0, .int .i64 0, .int .i64 0, .int .i64 0]) ?_ 1 _ rfl; (with_reducible repeat (first | refine blk_drewN ?_ _ | refine blk_drew ?_ | refine blk_alloc ?_ _)); refine blk_put (cs := #[.int .i64 0, .int .i64 0, .int .i64 0, .int .i64 0, .int .i64 0, .int .i64 0]) ?_ 0 _ rfl; (with_reducible repeat (first | refine blk_drewN ?_ _ | refine blk_drew ?_ | refine blk_alloc ?_ _)); exact BK190.out) Try.underlying24 rfl (by kernel_rfl)) rfl ?_
     exact ⟨by first | rfl | (simp [errW_none, errW_some] <;> rfl) | (simp [*, errW_none, errW_some] <;> rfl), by repeat (first | (with_reducible first | exact HB.out | apply below_alloc | apply pw_below_drewN | apply below_drew1 | refine below_set ?_ GE188.out | refine below_set ?_ GE189.out | refine below_set ?_ GE190.out | refine below_set ?_ GE205.out) | exact HB.out)⟩

end Go.Proofs.Ytpndhkbfmgddbaa.PFnExactMulAffine
