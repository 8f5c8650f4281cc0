-- Laid by a program of this session out of the translation (its own run of the print). Lean checks it.
import Derived.Test.YtooilehdljeepaaDoorPFnExactReadColorx0
import Derived.Test.YtooilehdljeepaaDoorPFnExactReadColorx5
namespace Go.Proofs.YtooilehdljeepaaDoor.PFnExactReadColor
open Go.RowKit Go.Proofs.YtooilehdljeepaaDoorW.PrintWords Go.Proofs.YtooilehdljeepaaDoorW.PrintLast Go.Proofs.YtooilehdljeepaaDoorW.PrintMore
attribute [local go_sem] max2_int min2_int max_two min_two max_three min_three max_four min_four   -- for this text's walks alone
set_option linter.unusedVariables false
set_option linter.unusedSimpArgs false

/-! ### impl_colorOf: function 29 -/
def impl_colorOf.l0 : Nat → ByteArray → List (S98) → Int → Int → Option (Int × Int × Int × Bool)
 | 0, _, _, _, _ => none
 | k + 1, x0, x25, x26, x27 => if x27 < x26 then (if 0 ≤ x27 then (if x27 < (x25.length : Int) then (if ((rd_T98 x25 x27).f0).toList = x0.toList then (some ((rd_T98 x25 x27).f1, (rd_T98 x25 x27).f2, (rd_T98 x25 x27).f3, true)) else (impl_colorOf.l0 k x0 x25 x26 (wrap64 (x27 + 1)))) else (none)) else (none)) else (some (0, 0, 0, false))
def impl_colorOf.f (k : Nat) (a0 : ByteArray) : Option (Int × Int × Int × Bool) := (some (([(⟨(⟨#[98, 108, 97, 99, 107]⟩ : ByteArray), 0, 0, 0⟩ : S98), (⟨(⟨#[119, 104, 105, 116, 101]⟩ : ByteArray), 255, 255, 255⟩ : S98), (⟨(⟨#[114, 101, 100]⟩ : ByteArray), 255, 0, 0⟩ : S98), (⟨(⟨#[108, 105, 109, 101]⟩ : ByteArray), 0, 255, 0⟩ : S98), (⟨(⟨#[98, 108, 117, 101]⟩ : ByteArray), 0, 0, 255⟩ : S98), (⟨(⟨#[103, 114, 101, 101, 110]⟩ : ByteArray), 0, 128, 0⟩ : S98), (⟨(⟨#[103, 114, 97, 121]⟩ : ByteArray), 128, 128, 128⟩ : S98), (⟨(⟨#[115, 105, 108, 118, 101, 114]⟩ : ByteArray), 192, 192, 192⟩ : S98), (⟨(⟨#[109, 97, 114, 111, 111, 110]⟩ : ByteArray), 128, 0, 0⟩ : S98), (⟨(⟨#[110, 97, 118, 121]⟩ : ByteArray), 0, 0, 128⟩ : S98), (⟨(⟨#[111, 108, 105, 118, 101]⟩ : ByteArray), 128, 128, 0⟩ : S98), (⟨(⟨#[112, 117, 114, 112, 108, 101]⟩ : ByteArray), 128, 0, 128⟩ : S98), (⟨(⟨#[116, 101, 97, 108]⟩ : ByteArray), 0, 128, 128⟩ : S98), (⟨(⟨#[97, 113, 117, 97]⟩ : ByteArray), 0, 255, 255⟩ : S98), (⟨(⟨#[102, 117, 99, 104, 115, 105, 97]⟩ : ByteArray), 255, 0, 255⟩ : S98), (⟨(⟨#[121, 101, 108, 108, 111, 119]⟩ : ByteArray), 255, 255, 0⟩ : S98), (⟨(⟨#[111, 114, 97, 110, 103, 101]⟩ : ByteArray), 255, 165, 0⟩ : S98)] : List (S98)) : List (S98))).bind fun y170 => (impl_colorOf.l0 k a0 y170 (y170.length : Int) 0)
set_option maxHeartbeats 8000000 in
set_option maxRecDepth 100000 in
theorem impl_colorOf.calls (k : Nat) (a0 : ByteArray) (r1 : Int) (r2 : Int) (r3 : Int) (r4 : Bool) (w : World) (h : impl_colorOf.f k a0 = some (r1, r2, r3, r4)) :
  Calls Tryd.prog 29 #[.string a0] w fun e w' => e = .returned (.tuple #[.agg #[.int .i64 r1, .int .i64 r2, .int .i64 r3], .bool r4]) ∧ Below w.heap.size w w' := by
 have hu23 := Tryd.underlying23
 have hu98 := Tryd.underlying98
 have HB := Aside0.mk (Below.refl w.heap.size w)
 have H : ((some (([(⟨(⟨#[98, 108, 97, 99, 107]⟩ : ByteArray), 0, 0, 0⟩ : S98), (⟨(⟨#[119, 104, 105, 116, 101]⟩ : ByteArray), 255, 255, 255⟩ : S98), (⟨(⟨#[114, 101, 100]⟩ : ByteArray), 255, 0, 0⟩ : S98), (⟨(⟨#[108, 105, 109, 101]⟩ : ByteArray), 0, 255, 0⟩ : S98), (⟨(⟨#[98, 108, 117, 101]⟩ : ByteArray), 0, 0, 255⟩ : S98), (⟨(⟨#[103, 114, 101, 101, 110]⟩ : ByteArray), 0, 128, 0⟩ : S98), (⟨(⟨#[103, 114, 97, 121]⟩ : ByteArray), 128, 128, 128⟩ : S98), (⟨(⟨#[115, 105, 108, 118, 101, 114]⟩ : ByteArray), 192, 192, 192⟩ : S98), (⟨(⟨#[109, 97, 114, 111, 111, 110]⟩ : ByteArray), 128, 0, 0⟩ : S98), (⟨(⟨#[110, 97, 118, 121]⟩ : ByteArray), 0, 0, 128⟩ : S98), (⟨(⟨#[111, 108, 105, 118, 101]⟩ : ByteArray), 128, 128, 0⟩ : S98), (⟨(⟨#[112, 117, 114, 112, 108, 101]⟩ : ByteArray), 128, 0, 128⟩ : S98), (⟨(⟨#[116, 101, 97, 108]⟩ : ByteArray), 0, 128, 128⟩ : S98), (⟨(⟨#[97, 113, 117, 97]⟩ : ByteArray), 0, 255, 255⟩ : S98), (⟨(⟨#[102, 117, 99, 104, 115, 105, 97]⟩ : ByteArray), 255, 0, 255⟩ : S98), (⟨(⟨#[121, 101, 108, 108, 111, 119]⟩ : ByteArray), 255, 255, 0⟩ : S98), (⟨(⟨#[111, 114, 97, 110, 103, 101]⟩ : ByteArray), 255, 165, 0⟩ : S98)] : List (S98)) : List (S98))).bind fun y170 => (impl_colorOf.l0 k a0 y170 (y170.length : Int) 0)) = some (r1, r2, r3, r4) := h
 clear h
 obtain ⟨y170, hy170⟩ : ∃ y_ : List (S98), y_ = (([(⟨(⟨#[98, 108, 97, 99, 107]⟩ : ByteArray), 0, 0, 0⟩ : S98), (⟨(⟨#[119, 104, 105, 116, 101]⟩ : ByteArray), 255, 255, 255⟩ : S98), (⟨(⟨#[114, 101, 100]⟩ : ByteArray), 255, 0, 0⟩ : S98), (⟨(⟨#[108, 105, 109, 101]⟩ : ByteArray), 0, 255, 0⟩ : S98), (⟨(⟨#[98, 108, 117, 101]⟩ : ByteArray), 0, 0, 255⟩ : S98), (⟨(⟨#[103, 114, 101, 101, 110]⟩ : ByteArray), 0, 128, 0⟩ : S98), (⟨(⟨#[103, 114, 97, 121]⟩ : ByteArray), 128, 128, 128⟩ : S98), (⟨(⟨#[115, 105, 108, 118, 101, 114]⟩ : ByteArray), 192, 192, 192⟩ : S98), (⟨(⟨#[109, 97, 114, 111, 111, 110]⟩ : ByteArray), 128, 0, 0⟩ : S98), (⟨(⟨#[110, 97, 118, 121]⟩ : ByteArray), 0, 0, 128⟩ : S98), (⟨(⟨#[111, 108, 105, 118, 101]⟩ : ByteArray), 128, 128, 0⟩ : S98), (⟨(⟨#[112, 117, 114, 112, 108, 101]⟩ : ByteArray), 128, 0, 128⟩ : S98), (⟨(⟨#[116, 101, 97, 108]⟩ : ByteArray), 0, 128, 128⟩ : S98), (⟨(⟨#[97, 113, 117, 97]⟩ : ByteArray), 0, 255, 255⟩ : S98), (⟨(⟨#[102, 117, 99, 104, 115, 105, 97]⟩ : ByteArray), 255, 0, 255⟩ : S98), (⟨(⟨#[121, 101, 108, 108, 111, 119]⟩ : ByteArray), 255, 255, 0⟩ : S98), (⟨(⟨#[111, 114, 97, 110, 103, 101]⟩ : ByteArray), 255, 165, 0⟩ : S98)] : List (S98))) := ⟨_, rfl⟩
 replace H : (impl_colorOf.l0 k a0 y170 (y170.length : Int) 0) = some (r1, r2, r3, r4) := by first | (rw [hy170]; with_reducible exact H) | (have H2_ := (Option.bind_some _ _).symm.trans H; rw [hy170]; with_reducible exact H2_) | (have H2_ := (Option.bind_some _ _).symm.trans H; with_reducible exact H2_) | with_reducible exact H | (rw [hy170]; exact H) | exact H
 have Ny170 := Aside0.mk hy170
 clear hy170
 have H' := Aside0.mk H
 clear H
 go_enter Tryd.func29, Tryd.ntmps29
 go_wp2_with (first | ((with_reducible refine gate_dst (N := 2) rfl ?_); refine box_event ?hg (N := 2) ?hd (cs := #[.int .i64 0, .int .i64 0, .int .i64 0]) (t := 23) ?hr ?_; (case hd => rfl); (case hg => rfl); (case hr => first | (go_simp; done) | (go_simp; rfl)); intro gb169 hg w2 hbox hb; have n0_ := Aside0.mk (below_step (by repeat (first | (with_reducible first | exact HB.out | apply below_alloc | apply pw_below_drewN | apply below_drew1) | exact HB.out)) hb); have n1_ := Aside0.mk (hbox); have n2_ := Aside0.mk ((by rw [hg]; exact (below_size (by repeat (first | (with_reducible first | exact HB.out | apply below_alloc | apply pw_below_drewN | apply below_drew1) | exact HB.out))) : w.heap.size ≤ gb169)); have n3_ := Aside0.mk ((by rw [hg]; exact (below_size (by repeat (first | (with_reducible first | exact HB.out | apply below_alloc | apply pw_below_drewN | apply below_drew1) | exact HB.out))) : w.heap.size ≤ gb169)); clear HB; have HB := n0_; have BK169 := n1_; have GW169 := n2_; have GE169 := n3_; clear n0_ n1_ n2_ n3_; clear hb hbox hg) | ((with_reducible refine gate_dst (N := 24) rfl ?_); refine Kd.R_lit k98 _ 98 ?hg (N := 24) ?hd (xs := ([(⟨(⟨#[98, 108, 97, 99, 107]⟩ : ByteArray), 0, 0, 0⟩ : S98), (⟨(⟨#[119, 104, 105, 116, 101]⟩ : ByteArray), 255, 255, 255⟩ : S98), (⟨(⟨#[114, 101, 100]⟩ : ByteArray), 255, 0, 0⟩ : S98), (⟨(⟨#[108, 105, 109, 101]⟩ : ByteArray), 0, 255, 0⟩ : S98), (⟨(⟨#[98, 108, 117, 101]⟩ : ByteArray), 0, 0, 255⟩ : S98), (⟨(⟨#[103, 114, 101, 101, 110]⟩ : ByteArray), 0, 128, 0⟩ : S98), (⟨(⟨#[103, 114, 97, 121]⟩ : ByteArray), 128, 128, 128⟩ : S98), (⟨(⟨#[115, 105, 108, 118, 101, 114]⟩ : ByteArray), 192, 192, 192⟩ : S98), (⟨(⟨#[109, 97, 114, 111, 111, 110]⟩ : ByteArray), 128, 0, 0⟩ : S98), (⟨(⟨#[110, 97, 118, 121]⟩ : ByteArray), 0, 0, 128⟩ : S98), (⟨(⟨#[111, 108, 105, 118, 101]⟩ : ByteArray), 128, 128, 0⟩ : S98), (⟨(⟨#[112, 117, 114, 112, 108, 101]⟩ : ByteArray), 128, 0, 128⟩ : S98), (⟨(⟨#[116, 101, 97, 108]⟩ : ByteArray), 0, 128, 128⟩ : S98), (⟨(⟨#[97, 113, 117, 97]⟩ : ByteArray), 0, 255, 255⟩ : S98), (⟨(⟨#[102, 117, 99, 104, 115, 105, 97]⟩ : ByteArray), 255, 0, 255⟩ : S98), (⟨(⟨#[121, 101, 108, 108, 111, 119]⟩ : ByteArray), 255, 255, 0⟩ : S98), (⟨(⟨#[111, 114, 97, 110, 103, 101]⟩ : ByteArray), 255, 165, 0⟩ : S98)] : List (S98))) (inner := [.string (⟨#[98, 108, 97, 99, 107]⟩ : ByteArray), .int .i64 0, .int .i64 0, .int .i64 0, .string (⟨#[119, 104, 105, 116, 101]⟩ : ByteArray), .int .i64 255, .int .i64 255, .int .i64 255, .string (⟨#[114, 101, 100]⟩ : ByteArray), .int .i64 255, .int .i64 0, .int .i64 0, .string (⟨#[108, 105, 109, 101]⟩ : ByteArray), .int .i64 0, .int .i64 255, .int .i64 0, .string (⟨#[98, 108, 117, 101]⟩ : ByteArray), .int .i64 0, .int .i64 0, .int .i64 255, .string (⟨#[103, 114, 101, 101, 110]⟩ : ByteArray), .int .i64 0, .int .i64 128, .int .i64 0, .string (⟨#[103, 114, 97, 121]⟩ : ByteArray), .int .i64 128, .int .i64 128, .int .i64 128, .string (⟨#[115, 105, 108, 118, 101, 114]⟩ : ByteArray), .int .i64 192, .int .i64 192, .int .i64 192, .string (⟨#[109, 97, 114, 111, 111, 110]⟩ : ByteArray), .int .i64 128, .int .i64 0, .int .i64 0, .string (⟨#[110, 97, 118, 121]⟩ : ByteArray), .int .i64 0, .int .i64 0, .int .i64 128, .string (⟨#[111, 108, 105, 118, 101]⟩ : ByteArray), .int .i64 128, .int .i64 128, .int .i64 0, .string (⟨#[112, 117, 114, 112, 108, 101]⟩ : ByteArray), .int .i64 128, .int .i64 0, .int .i64 128, .string (⟨#[116, 101, 97, 108]⟩ : ByteArray), .int .i64 0, .int .i64 128, .int .i64 128, .string (⟨#[97, 113, 117, 97]⟩ : ByteArray), .int .i64 0, .int .i64 255, .int .i64 255, .string (⟨#[102, 117, 99, 104, 115, 105, 97]⟩ : ByteArray), .int .i64 255, .int .i64 0, .int .i64 255, .string (⟨#[121, 101, 108, 108, 111, 119]⟩ : ByteArray), .int .i64 255, .int .i64 255, .int .i64 0, .string (⟨#[111, 114, 97, 110, 103, 101]⟩ : ByteArray), .int .i64 255, .int .i64 165, .int .i64 0]) (ok := fun _ => True) (okp := fun _ => True) ?hr ?hp (fun _ hk => hk) trivial (Below.refl _ _) (Nat.le_refl _) (by simp) ?_; (case hd => rfl); (case hg => rfl); (case hr => first | (go_simp; done) | (go_simp; rfl)); (case hp => exact (Reps.c4 (show Kd.M k98 _ _ _ (⟨(⟨#[98, 108, 97, 99, 107]⟩ : ByteArray), 0, 0, 0⟩ : S98) [.string (⟨#[98, 108, 97, 99, 107]⟩ : ByteArray), .int .i64 0, .int .i64 0, .int .i64 0] from (k98_mkM _ _ _ (⟨(⟨#[98, 108, 97, 99, 107]⟩ : ByteArray), 0, 0, 0⟩ : S98) )) (Reps.c4 (show Kd.M k98 _ _ _ (⟨(⟨#[119, 104, 105, 116, 101]⟩ : ByteArray), 255, 255, 255⟩ : S98) [.string (⟨#[119, 104, 105, 116, 101]⟩ : ByteArray), .int .i64 255, .int .i64 255, .int .i64 255] from (k98_mkM _ _ _ (⟨(⟨#[119, 104, 105, 116, 101]⟩ : ByteArray), 255, 255, 255⟩ : S98) )) (Reps.c4 (show Kd.M k98 _ _ _ (⟨(⟨#[114, 101, 100]⟩ : ByteArray), 255, 0, 0⟩ : S98) [.string (⟨#[114, 101, 100]⟩ : ByteArray), .int .i64 255, .int .i64 0, .int .i64 0] from (k98_mkM _ _ _ (⟨(⟨#[114, 101, 100]⟩ : ByteArray), 255, 0, 0⟩ : S98) )) (Reps.c4 (show Kd.M k98 _ _ _ (⟨(⟨#[108, 105, 109, 101]⟩ : ByteArray), 0, 255, 0⟩ : S98) [.string (⟨#[108, 105, 109, 101]⟩ : ByteArray), .int .i64 0, .int .i64 255, .int .i64 0] from (k98_mkM _ _ _ (⟨(⟨#[108, 105, 109, 101]⟩ : ByteArray), 0, 255, 0⟩ : S98) )) (Reps.c4 (show Kd.M k98 _ _ _ (⟨(⟨#[98, 108, 117, 101]⟩ : ByteArray), 0, 0, 255⟩ : S98) [.string (⟨#[98, 108, 117, 101]⟩ : ByteArray), .int .i64 0, .int .i64 0, .int .i64 255] from (k98_mkM _ _ _ (⟨(⟨#[98, 108, 117, 101]⟩ : ByteArray), 0, 0, 255⟩ : S98) )) (Reps.c4 (show Kd.M k98 _ _ _ (⟨(⟨#[103, 114, 101, 101, 110]⟩ : ByteArray), 0, 128, 0⟩ : S98) [.string (⟨#[103, 114, 101, 101, 110]⟩ : ByteArray), .int .i64 0, .int .i64 128, .int .i64 0] from (k98_mkM _ _ _ (⟨(⟨#[103, 114, 101, 101, 110]⟩ : ByteArray), 0, 128, 0⟩ : S98) )) (Reps.c4 (show Kd.M k98 _ _ _ (⟨(⟨#[103, 114, 97, 121]⟩ : ByteArray), 128, 128, 128⟩ : S98) [.string (⟨#[103, 114, 97, 121]⟩ : ByteArray), .int .i64 128, .int .i64 128, .int .i64 128] from (k98_mkM _ _ _ (⟨(⟨#[103, 114, 97, 121]⟩ : ByteArray), 128, 128, 128⟩ : S98) )) (Reps.c4 (show Kd.M k98 _ _ _ (⟨(⟨#[115, 105, 108, 118, 101, 114]⟩ : ByteArray), 192, 192, 192⟩ : S98) [.string (⟨#[115, 105, 108, 118, 101, 114]⟩ : ByteArray), .int .i64 192, .int .i64 192, .int .i64 192] from (k98_mkM _ _ _ (⟨(⟨#[115, 105, 108, 118, 101, 114]⟩ : ByteArray), 192, 192, 192⟩ : S98) )) (Reps.c4 (show Kd.M k98 _ _ _ (⟨(⟨#[109, 97, 114, 111, 111, 110]⟩ : ByteArray), 128, 0, 0⟩ : S98) [.string (⟨#[109, 97, 114, 111, 111, 110]⟩ : ByteArray), .int .i64 128, .int .i64 0, .int .i64 0] from (k98_mkM _ _ _ (⟨(⟨#[109, 97, 114, 111, 111, 110]⟩ : ByteArray), 128, 0, 0⟩ : S98) )) (Reps.c4 (show Kd.M k98 _ _ _ (⟨(⟨#[110, 97, 118, 121]⟩ : ByteArray), 0, 0, 128⟩ : S98) [.string (⟨#[110, 97, 118, 121]⟩ : ByteArray), .int .i64 0, .int .i64 0, .int .i64 128] from (k98_mkM _ _ _ (⟨(⟨#[110, 97, 118, 121]⟩ : ByteArray), 0, 0, 128⟩ : S98) )) (Reps.c4 (show Kd.M k98 _ _ _ (⟨(⟨#[111, 108, 105, 118, 101]⟩ : ByteArray), 128, 128, 0⟩ : S98) [.string (⟨#[111, 108, 105, 118, 101]⟩ : ByteArray), .int .i64 128, .int .i64 128, .int .i64 0] from (k98_mkM _ _ _ (⟨(⟨#[111, 108, 105, 118, 101]⟩ : ByteArray), 128, 128, 0⟩ : S98) )) (Reps.c4 (show Kd.M k98 _ _ _ (⟨(⟨#[112, 117, 114, 112, 108, 101]⟩ : ByteArray), 128, 0, 128⟩ : S98) [.string (⟨#[112, 117, 114, 112, 108, 101]⟩ : ByteArray), .int .i64 128, .int .i64 0, .int .i64 128] from (k98_mkM _ _ _ (⟨(⟨#[112, 117, 114, 112, 108, 101]⟩ : ByteArray), 128, 0, 128⟩ : S98) )) (Reps.c4 (show Kd.M k98 _ _ _ (⟨(⟨#[116, 101, 97, 108]⟩ : ByteArray), 0, 128, 128⟩ : S98) [.string (⟨#[116, 101, 97, 108]⟩ : ByteArray), .int .i64 0, .int .i64 128, .int .i64 128] from (k98_mkM _ _ _ (⟨(⟨#[116, 101, 97, 108]⟩ : ByteArray), 0, 128, 128⟩ : S98) )) (Reps.c4 (show Kd.M k98 _ _ _ (⟨(⟨#[97, 113, 117, 97]⟩ : ByteArray), 0, 255, 255⟩ : S98) [.string (⟨#[97, 113, 117, 97]⟩ : ByteArray), .int .i64 0, .int .i64 255, .int .i64 255] from (k98_mkM _ _ _ (⟨(⟨#[97, 113, 117, 97]⟩ : ByteArray), 0, 255, 255⟩ : S98) )) (Reps.c4 (show Kd.M k98 _ _ _ (⟨(⟨#[102, 117, 99, 104, 115, 105, 97]⟩ : ByteArray), 255, 0, 255⟩ : S98) [.string (⟨#[102, 117, 99, 104, 115, 105, 97]⟩ : ByteArray), .int .i64 255, .int .i64 0, .int .i64 255] from (k98_mkM _ _ _ (⟨(⟨#[102, 117, 99, 104, 115, 105, 97]⟩ : ByteArray), 255, 0, 255⟩ : S98) )) (Reps.c4 (show Kd.M k98 _ _ _ (⟨(⟨#[121, 101, 108, 108, 111, 119]⟩ : ByteArray), 255, 255, 0⟩ : S98) [.string (⟨#[121, 101, 108, 108, 111, 119]⟩ : ByteArray), .int .i64 255, .int .i64 255, .int .i64 0] from (k98_mkM _ _ _ (⟨(⟨#[121, 101, 108, 108, 111, 119]⟩ : ByteArray), 255, 255, 0⟩ : S98) )) (Reps.c4 (show Kd.M k98 _ _ _ (⟨(⟨#[111, 114, 97, 110, 103, 101]⟩ : ByteArray), 255, 165, 0⟩ : S98) [.string (⟨#[111, 114, 97, 110, 103, 101]⟩ : ByteArray), .int .i64 255, .int .i64 165, .int .i64 0] from (k98_mkM _ _ _ (⟨(⟨#[111, 114, 97, 110, 103, 101]⟩ : ByteArray), 255, 165, 0⟩ : S98) )) (Reps.none _ _))))))))))))))))))); intro v171 w3 ho4 hb hg_ hnew_; clear hg_ hnew_; (first | rw [← Ny170.out] at ho4 | (simp only [Int.reduceToNat] at ho4; rw [← Ny170.out] at ho4)); have n0_ := Aside0.mk (Kd.R_lower ho4 (below_size (by repeat (first | (with_reducible first | exact HB.out | apply below_alloc | apply pw_below_drewN | apply below_drew1 | refine below_set ?_ GE169.out) | exact HB.out)))); have n1_ := Aside0.mk (blk_below (g := gb169) (o := .cells #[.int .i64 0, .int .i64 0, .int .i64 0] 23 (0, 0)) (by (with_reducible repeat (first | refine blk_drewN ?_ _ | refine blk_drew ?_ | refine blk_alloc ?_ _)); exact BK169.out) hb); have n2_ := Aside0.mk (below_step (by repeat (first | (with_reducible first | exact HB.out | apply below_alloc | apply pw_below_drewN | apply below_drew1 | refine below_set ?_ GE169.out) | exact HB.out)) hb); clear BK169; clear HB; have HO172 := n0_; have BK169 := n1_; have HB := n2_; clear n0_ n1_ n2_; clear hb ho4; obtain ⟨Ao5, co5, eo5⟩ := Kd.R_slice HO172.out; subst eo5))
 go_loopg [27] k (fun kq v27 w' => ∃ (x27_1 : Int) (x170000_1 : Int) (x170001_1 : Int) (x170002_1 : Int), v27 = .int .i64 x27_1 ∧ Aside0 (impl_colorOf.l0 kq a0 y170 (y170.length : Int) x27_1 = some (r1, r2, r3, r4)) ∧ Aside0 (kq ≤ k) ∧ Aside0 (Kd.R k98 98 w' w.heap.size (fun _ => True) (.slice Ao5 y170.length co5) y170) ∧ Aside0 (w'.heap[gb169]? = some (.cells #[.int .i64 x170000_1, .int .i64 x170001_1, .int .i64 x170002_1] 23 (0, 0))) ∧ Aside0 (Below w.heap.size w w'))
 case atStart => exact ⟨(0), (0), (0), (0), (by first | rfl | (simp; done) | (simp [*]; done) | (simp [wrap64]; done)), H', ⟨Nat.le_refl _⟩, ⟨by (with_reducible repeat (first | apply Kd.R_alloc | apply Kd.R_drewN | apply Kd.R_drew)); exact HO172.out⟩, ⟨by (with_reducible repeat (first | refine blk_drewN ?_ _ | refine blk_drew ?_ | refine blk_alloc ?_ _)); exact BK169.out⟩, ⟨by repeat (first | (with_reducible first | exact HB.out | apply below_alloc | apply pw_below_drewN | apply below_drew1 | refine below_set ?_ GE169.out) | exact HB.out)⟩⟩
 case round =>
  clear H'
  (try clear c2);(try clear p2);(try clear c4)
  obtain ⟨x27_1, x170000_1, x170001_1, x170002_1, rfl, HA, HK1, HO_25, BK169, HB⟩ := hrel
  cases gk with
  | zero => exact absurd HA.out (by simp [impl_colorOf.l0])
  | succ k1 =>
   have H := HA.out
   clear HA
   simp only [impl_colorOf.l0] at H
   by_cases c6 : x27_1 < (y170.length : Int)
   ·rw [if_pos c6] at H
    have c6b0 : decide (x27_1 < (y170.length : Int)) = true := decide_eq_true c6
    clear c6
    by_cases c7 : 0 ≤ x27_1
    ·rw [if_pos c7] at H
     have c7b0 : decide (0 ≤ x27_1) = true := decide_eq_true c7
     clear c7
     by_cases c8 : x27_1 < (y170.length : Int)
     ·rw [if_pos c8] at H
      have c8b0 : decide (x27_1 < (y170.length : Int)) = true := decide_eq_true c8
      clear c8
      by_cases c9 : ((rd_T98 y170 x27_1).f0).toList = a0.toList
      ·rw [if_pos c9] at H
       have c9b0 : (((rd_T98 y170 x27_1).f0).toList == a0.toList) = true := beq_iff_eq.mpr c9
       have c9b1 : (((rd_T98 y170 x27_1).f0).toList != a0.toList) = false := bne_eq_false_iff_eq.mpr c9
       clear c9
       simp only [Option.some.injEq, Prod.mk.injEq] at H
       obtain ⟨rfl, rfl, rfl, rfl⟩ := H
       have p173 : 0 ≤ (x27_1 : Int) := of_decide_eq_true (by first | (with_reducible assumption) | assumption)
       have q173 : x27_1 < (y170.length : Int) := of_decide_eq_true (by first | (with_reducible assumption) | assumption)
       obtain ⟨ad173, e173, hx173_0, hx173_1, hx173_2, hx173_3⟩ := at_T98 (Kd.R_reads' HO_25.out).2.2 x27_1 p173 q173
       cases e173
       replace p173 := eq_true p173
       replace q173 := eq_true q173
       go_wp2_with (first | ((with_reducible refine gate_dst (N := 6) rfl ?_); refine box_event ?hg (N := 6) ?hd (cs := #[.string (⟨#[]⟩ : ByteArray), .int .i64 0, .int .i64 0, .int .i64 0]) (t := 98) ?hr ?_; (case hd => rfl); (case hg => rfl); (case hr => first | (go_simp; done) | (go_simp; rfl)); intro gb174 hg w10 hbox hb; have n0_ := Aside0.mk (Kd.R_below (Kd.R_elderB (by (with_reducible repeat (first | apply Kd.R_alloc | apply Kd.R_drewN | apply Kd.R_drew)); exact HO_25.out) gb174 (Nat.le_of_eq hg.symm)) hb); have n1_ := Aside0.mk (blk_below (g := gb169) (o := .cells #[.int .i64 x170000_1, .int .i64 x170001_1, .int .i64 x170002_1] 23 (0, 0)) (by (with_reducible repeat (first | refine blk_drewN ?_ _ | refine blk_drew ?_ | refine blk_alloc ?_ _)); exact BK169.out) hb); have n2_ := Aside0.mk (below_step (by repeat (first | (with_reducible first | exact HB.out | apply below_alloc | apply pw_below_drewN | apply below_drew1 | refine below_set ?_ GE169.out) | exact HB.out)) hb); have n3_ := Aside0.mk (hbox); have n4_ := Aside0.mk ((by rw [hg]; exact (below_size (by repeat (first | (with_reducible first | exact HB.out | apply below_alloc | apply pw_below_drewN | apply below_drew1 | refine below_set ?_ GE169.out) | exact HB.out))) : w.heap.size ≤ gb174)); have n5_ := Aside0.mk ((by rw [hg]; exact (below_size (by repeat (first | (with_reducible first | exact HB.out | apply below_alloc | apply pw_below_drewN | apply below_drew1 | refine below_set ?_ GE169.out) | exact HB.out))) : w.heap.size ≤ gb174)); have n6_ := Aside0.mk ((by rw [hg]; exact Nat.ne_of_lt (blk_lt (g := gb169) (o := .cells #[.int .i64 x170000_1, .int .i64 x170001_1, .int .i64 x170002_1] 23 (0, 0)) (by (with_reducible repeat (first | refine blk_drewN ?_ _ | refine blk_drew ?_ | refine blk_alloc ?_ _)); exact BK169.out)) : gb169 ≠ gb174)); have n7_ := Aside0.mk ((by rw [hg]; exact Nat.ne_of_gt (blk_lt (g := gb169) (o := .cells #[.int .i64 x170000_1, .int .i64 x170001_1, .int .i64 x170002_1] 23 (0, 0)) (by (with_reducible repeat (first | refine blk_drewN ?_ _ | refine blk_drew ?_ | refine blk_alloc ?_ _)); exact BK169.out)) : gb174 ≠ gb169)); clear HO_25; clear BK169; clear HB; have HO_25 := n0_; have BK169 := n1_; have HB := n2_; have BK174 := n3_; have GW174 := n4_; have GE174 := n5_; have NB169_174 := n6_; have NB174_169 := n7_; clear n0_ n1_ n2_ n3_ n4_ n5_ n6_ n7_; clear hb hbox hg; have hnb11 := NB174_169.out; have hnc11 := NB169_174.out; have hcz12_0 : w10.cell? ⟨gb174, 0, none⟩ = some (.string (⟨#[]⟩ : ByteArray)) := (blk_cell BK174.out 0).trans rfl; have hcz12_1 : w10.cell? ⟨gb174, 1, none⟩ = some (.int .i64 0) := (blk_cell BK174.out 1).trans rfl; have hcz12_2 : w10.cell? ⟨gb174, 2, none⟩ = some (.int .i64 0) := (blk_cell BK174.out 2).trans rfl; have hcz12_3 : w10.cell? ⟨gb174, 3, none⟩ = some (.int .i64 0) := (blk_cell BK174.out 3).trans rfl; have hfz12_0 := blk_frozen BK174.out 0; have hfz12_1 := blk_frozen BK174.out 1; have hfz12_2 := blk_frozen BK174.out 2; have hfz12_3 := blk_frozen BK174.out 3; have hcz13_0 : w10.cell? ⟨gb169, 0, none⟩ = some (.int .i64 x170000_1) := (blk_cell BK169.out 0).trans rfl; have hcz13_1 : w10.cell? ⟨gb169, 1, none⟩ = some (.int .i64 x170001_1) := (blk_cell BK169.out 1).trans rfl; have hcz13_2 : w10.cell? ⟨gb169, 2, none⟩ = some (.int .i64 x170002_1) := (blk_cell BK169.out 2).trans rfl; have hfz13_0 := blk_frozen BK169.out 0; have hfz13_1 := blk_frozen BK169.out 1; have hfz13_2 := blk_frozen BK169.out 2))
       refine bodyPost_ret (results_ct rfl _ _ gb169 23 #[.int .i64 ((rd_T98 y170 x27_1).f1), .int .i64 ((rd_T98 y170 x27_1).f2), .int .i64 ((rd_T98 y170 x27_1).f3)] (0, 0) _ rfl (by (with_reducible repeat (first | refine blk_drewN ?_ _ | refine blk_drew ?_ | refine blk_alloc ?_ _)); refine blk_put (cs := #[.int .i64 ((rd_T98 y170 x27_1).f1), .int .i64 ((rd_T98 y170 x27_1).f2), .int .i64 x170002_1]) ?_ 2 _ rfl; (with_reducible repeat (first | refine blk_drewN ?_ _ | refine blk_drew ?_ | refine blk_alloc ?_ _)); refine blk_put (cs := #[.int .i64 ((rd_T98 y170 x27_1).f1), .int .i64 x170001_1, .int .i64 x170002_1]) ?_ 1 _ rfl; (with_reducible repeat (first | refine blk_drewN ?_ _ | refine blk_drew ?_ | refine blk_alloc ?_ _)); refine blk_put (cs := #[.int .i64 x170000_1, .int .i64 x170001_1, .int .i64 x170002_1]) ?_ 0 _ rfl; (with_reducible repeat (first | refine blk_drewN ?_ _ | refine blk_drew ?_ | refine blk_alloc ?_ _)); refine blk_far ?_ NB169_174.out _; (with_reducible repeat (first | refine blk_drewN ?_ _ | refine blk_drew ?_ | refine blk_alloc ?_ _)); refine blk_far ?_ NB169_174.out _; (with_reducible repeat (first | refine blk_drewN ?_ _ | refine blk_drew ?_ | refine blk_alloc ?_ _)); refine blk_far ?_ NB169_174.out _; (with_reducible repeat (first | refine blk_drewN ?_ _ | refine blk_drew ?_ | refine blk_alloc ?_ _)); refine blk_far ?_ NB169_174.out _; (with_reducible repeat (first | refine blk_drewN ?_ _ | refine blk_drew ?_ | refine blk_alloc ?_ _)); exact BK169.out) Tryd.underlying23 rfl (by kernel_rfl)) rfl ?_
       exact ⟨by first | rfl | (simp [errW_none, errW_some] <;> rfl) | (simp [*, errW_none, errW_some] <;> rfl), by repeat (first | (with_reducible first | exact HB.out | apply below_alloc | apply pw_below_drewN | apply below_drew1 | refine below_set ?_ GE169.out | refine below_set ?_ GE174.out) | exact HB.out)⟩
      ·rw [if_neg c9] at H
       have c9b0 : (((rd_T98 y170 x27_1).f0).toList == a0.toList) = false := beq_eq_false_iff_ne.mpr c9
       have c9b1 : (((rd_T98 y170 x27_1).f0).toList != a0.toList) = true := bne_iff_ne.mpr c9
       have H' := Aside0.mk H
       clear H
       have p173 : 0 ≤ (x27_1 : Int) := of_decide_eq_true (by first | (with_reducible assumption) | assumption)
       have q173 : x27_1 < (y170.length : Int) := of_decide_eq_true (by first | (with_reducible assumption) | assumption)
       obtain ⟨ad173, e173, hx173_0, hx173_1, hx173_2, hx173_3⟩ := at_T98 (Kd.R_reads' HO_25.out).2.2 x27_1 p173 q173
       cases e173
       replace p173 := eq_true p173
       replace q173 := eq_true q173
       go_wp2_with (first | ((with_reducible refine gate_dst (N := 6) rfl ?_); refine box_event ?hg (N := 6) ?hd (cs := #[.string (⟨#[]⟩ : ByteArray), .int .i64 0, .int .i64 0, .int .i64 0]) (t := 98) ?hr ?_; (case hd => rfl); (case hg => rfl); (case hr => first | (go_simp; done) | (go_simp; rfl)); intro gb174 hg w14 hbox hb; have n0_ := Aside0.mk (Kd.R_below (Kd.R_elderB (by (with_reducible repeat (first | apply Kd.R_alloc | apply Kd.R_drewN | apply Kd.R_drew)); exact HO_25.out) gb174 (Nat.le_of_eq hg.symm)) hb); have n1_ := Aside0.mk (blk_below (g := gb169) (o := .cells #[.int .i64 x170000_1, .int .i64 x170001_1, .int .i64 x170002_1] 23 (0, 0)) (by (with_reducible repeat (first | refine blk_drewN ?_ _ | refine blk_drew ?_ | refine blk_alloc ?_ _)); exact BK169.out) hb); have n2_ := Aside0.mk (below_step (by repeat (first | (with_reducible first | exact HB.out | apply below_alloc | apply pw_below_drewN | apply below_drew1 | refine below_set ?_ GE169.out) | exact HB.out)) hb); have n3_ := Aside0.mk (hbox); have n4_ := Aside0.mk ((by rw [hg]; exact (below_size (by repeat (first | (with_reducible first | exact HB.out | apply below_alloc | apply pw_below_drewN | apply below_drew1 | refine below_set ?_ GE169.out) | exact HB.out))) : w.heap.size ≤ gb174)); have n5_ := Aside0.mk ((by rw [hg]; exact (below_size (by repeat (first | (with_reducible first | exact HB.out | apply below_alloc | apply pw_below_drewN | apply below_drew1 | refine below_set ?_ GE169.out) | exact HB.out))) : w.heap.size ≤ gb174)); have n6_ := Aside0.mk ((by rw [hg]; exact Nat.ne_of_lt (blk_lt (g := gb169) (o := .cells #[.int .i64 x170000_1, .int .i64 x170001_1, .int .i64 x170002_1] 23 (0, 0)) (by (with_reducible repeat (first | refine blk_drewN ?_ _ | refine blk_drew ?_ | refine blk_alloc ?_ _)); exact BK169.out)) : gb169 ≠ gb174)); have n7_ := Aside0.mk ((by rw [hg]; exact Nat.ne_of_gt (blk_lt (g := gb169) (o := .cells #[.int .i64 x170000_1, .int .i64 x170001_1, .int .i64 x170002_1] 23 (0, 0)) (by (with_reducible repeat (first | refine blk_drewN ?_ _ | refine blk_drew ?_ | refine blk_alloc ?_ _)); exact BK169.out)) : gb174 ≠ gb169)); clear HO_25; clear BK169; clear HB; have HO_25 := n0_; have BK169 := n1_; have HB := n2_; have BK174 := n3_; have GW174 := n4_; have GE174 := n5_; have NB169_174 := n6_; have NB174_169 := n7_; clear n0_ n1_ n2_ n3_ n4_ n5_ n6_ n7_; clear hb hbox hg; have hnb15 := NB174_169.out; have hnc15 := NB169_174.out; have hcz16_0 : w14.cell? ⟨gb174, 0, none⟩ = some (.string (⟨#[]⟩ : ByteArray)) := (blk_cell BK174.out 0).trans rfl; have hcz16_1 : w14.cell? ⟨gb174, 1, none⟩ = some (.int .i64 0) := (blk_cell BK174.out 1).trans rfl; have hcz16_2 : w14.cell? ⟨gb174, 2, none⟩ = some (.int .i64 0) := (blk_cell BK174.out 2).trans rfl; have hcz16_3 : w14.cell? ⟨gb174, 3, none⟩ = some (.int .i64 0) := (blk_cell BK174.out 3).trans rfl; have hfz16_0 := blk_frozen BK174.out 0; have hfz16_1 := blk_frozen BK174.out 1; have hfz16_2 := blk_frozen BK174.out 2; have hfz16_3 := blk_frozen BK174.out 3))
       go_roundg k1
       case measure => have := HK1.out; omega
       case rel => exact ⟨(wrap64 (x27_1 + 1)), (x170000_1), (x170001_1), (x170002_1), (by first | rfl | (simp; done) | (simp [*]; done) | (simp [wrap64]; done)), H', ⟨by have := HK1.out; omega⟩, ⟨by (with_reducible repeat (first | apply Kd.R_alloc | apply Kd.R_drewN | apply Kd.R_drew)); exact Kd.R_mono (Kd.R_far (p := ⟨gb174, 3, none⟩) (Kd.R_far (p := ⟨gb174, 2, none⟩) (Kd.R_far (p := ⟨gb174, 1, none⟩) (Kd.R_far (p := ⟨gb174, 0, none⟩) (Kd.R_mono HO_25.out (fun k_ hk => (⟨hk, hk.2⟩ : _ ∧ k_ ≠ gb174))) (fun _ hk => hk.2) (.string ((rd_T98 y170 x27_1).f0))) (fun _ hk => hk.2) (.int .i64 ((rd_T98 y170 x27_1).f1))) (fun _ hk => hk.2) (.int .i64 ((rd_T98 y170 x27_1).f2))) (fun _ hk => hk.2) (.int .i64 ((rd_T98 y170 x27_1).f3))) (fun _ hk => trivial)⟩, ⟨by (with_reducible repeat (first | refine blk_drewN ?_ _ | refine blk_drew ?_ | refine blk_alloc ?_ _)); refine blk_far ?_ NB169_174.out _; (with_reducible repeat (first | refine blk_drewN ?_ _ | refine blk_drew ?_ | refine blk_alloc ?_ _)); refine blk_far ?_ NB169_174.out _; (with_reducible repeat (first | refine blk_drewN ?_ _ | refine blk_drew ?_ | refine blk_alloc ?_ _)); refine blk_far ?_ NB169_174.out _; (with_reducible repeat (first | refine blk_drewN ?_ _ | refine blk_drew ?_ | refine blk_alloc ?_ _)); refine blk_far ?_ NB169_174.out _; (with_reducible repeat (first | refine blk_drewN ?_ _ | refine blk_drew ?_ | refine blk_alloc ?_ _)); exact BK169.out⟩, ⟨by repeat (first | (with_reducible first | exact HB.out | apply below_alloc | apply pw_below_drewN | apply below_drew1 | refine below_set ?_ GE169.out | refine below_set ?_ GE174.out) | exact HB.out)⟩⟩
     ·rw [if_neg c8] at H
      exact absurd H (by simp)
    ·rw [if_neg c7] at H
     exact absurd H (by simp)
   ·rw [if_neg c6] at H
    have c6b0 : decide (x27_1 < (y170.length : Int)) = false := decide_eq_false c6
    clear c6
    simp only [Option.some.injEq, Prod.mk.injEq] at H
    obtain ⟨rfl, rfl, rfl, rfl⟩ := H
    have hcz17_0 : wr.cell? ⟨gb169, 0, none⟩ = some (.int .i64 x170000_1) := (blk_cell BK169.out 0).trans rfl
    have hcz17_1 : wr.cell? ⟨gb169, 1, none⟩ = some (.int .i64 x170001_1) := (blk_cell BK169.out 1).trans rfl
    have hcz17_2 : wr.cell? ⟨gb169, 2, none⟩ = some (.int .i64 x170002_1) := (blk_cell BK169.out 2).trans rfl
    have hfz17_0 := blk_frozen BK169.out 0
    have hfz17_1 := blk_frozen BK169.out 1
    have hfz17_2 := blk_frozen BK169.out 2
    go_wp2
    refine bodyPost_ret (results_ct rfl _ _ gb169 23 #[.int .i64 0, .int .i64 0, .int .i64 0] (0, 0) _ rfl (by (with_reducible repeat (first | refine blk_drewN ?_ _ | refine blk_drew ?_ | refine blk_alloc ?_ _)); refine blk_put (cs := #[.int .i64 0, .int .i64 0, .int .i64 x170002_1]) ?_ 2 _ rfl; (with_reducible repeat (first | refine blk_drewN ?_ _ | refine blk_drew ?_ | refine blk_alloc ?_ _)); refine blk_put (cs := #[.int .i64 0, .int .i64 x170001_1, .int .i64 x170002_1]) ?_ 1 _ rfl; (with_reducible repeat (first | refine blk_drewN ?_ _ | refine blk_drew ?_ | refine blk_alloc ?_ _)); refine blk_put (cs := #[.int .i64 x170000_1, .int .i64 x170001_1, .int .i64 x170002_1]) ?_ 0 _ rfl; (with_reducible repeat (first | refine blk_drewN ?_ _ | refine blk_drew ?_ | refine blk_alloc ?_ _)); exact BK169.out) Tryd.underlying23 rfl (by kernel_rfl)) rfl ?_
    exact ⟨by first | rfl | (simp [errW_none, errW_some] <;> rfl) | (simp [*, errW_none, errW_some] <;> rfl), by repeat (first | (with_reducible first | exact HB.out | apply below_alloc | apply pw_below_drewN | apply below_drew1 | refine below_set ?_ GE169.out) | exact HB.out)⟩

/-! ### impl_lower: function 30 -/
def impl_lower.f (a0 : ByteArray) : Option ByteArray := if a0.size ≤ 9223372036854775807 then some (lowB a0) else none
set_option maxHeartbeats 8000000 in
set_option maxRecDepth 100000 in
theorem impl_lower.calls (a0 : ByteArray) (r : ByteArray) (w : World) (h : impl_lower.f a0 = some r) :
  Calls Tryd.prog 30 #[.string a0] w fun e w' => e = .returned (.string r) ∧ Below w.heap.size w w' := by
 unfold impl_lower.f at h
 by_cases hs : a0.size ≤ 9223372036854775807
 ·rw [if_pos hs] at h
  obtain rfl := Option.some.inj h
  have HB := Aside0.mk (Below.refl w.heap.size w)
  have hbl : (bytesOf a0).length = a0.size := bytesOf_length a0
  go_enter Tryd.func30, Tryd.ntmps30
  go_wp2_with (first | ((with_reducible refine gate_dst (N := 7) rfl ?_); refine low_conv_ 5 rfl (N := 7) rfl 9 56 _ rfl a0 rfl Tryd.underlying9 Tryd.underlying56 Tryd.underlying5 ?_; intro g1 w1 c1 hg1 hr1 hb1; have n0_ := Aside0.mk (below_step (by repeat (first | (with_reducible first | exact HB.out | apply below_alloc | apply pw_below_drewN | apply below_drew1) | exact HB.out)) hb1); have n1_ := Aside0.mk (Nat.le_trans (below_size (by repeat (first | (with_reducible first | exact HB.out | apply below_alloc | apply pw_below_drewN | apply below_drew1) | exact HB.out))) hg1); have n2_ := Aside0.mk hr1; clear HB hg1 hr1 hb1; have HB := n0_; have HG := n1_; have HR := n2_; clear n0_ n1_ n2_))
  go_loopg [10] a0.size (fun kq v10 w' => ∃ i : Nat, v10 = .int .i64 (i : Int) ∧ Aside0 (i + kq = a0.size) ∧ Aside0 (LowRow g1 5 w' (lowMix (bytesOf a0) i)) ∧ Aside0 (Below w.heap.size w w'))
  case atStart => exact ⟨0, rfl, ⟨Nat.zero_add _⟩, ⟨by show LowRow _ _ _ _; have := HR.out; simpa [lowMix] using this⟩, ⟨by repeat (first | (with_reducible first | exact HB.out | apply below_alloc | apply pw_below_drewN | apply below_drew1) | exact HB.out)⟩⟩
  case round =>
   clear HB HR
   obtain ⟨i, rfl, HK, HR, HB⟩ := hrel
   cases gk with
   | zero =>
    have hik : i = a0.size := HK.out
    subst hik
    have ci : decide (((a0.size : Nat) : Int) < (a0.size : Int)) = false := decide_eq_false (by omega)
    have hcv := string_of_reads (P := Tryd.prog) (c := c1) Tryd.underlying56 Tryd.underlying5 Tryd.underlying9 (low_reads HR.out (by rw [lowMix_len _ _ (by omega)]; exact hbl) hs)
    rw [show lowMix (bytesOf a0) a0.size = (bytesOf a0).map lowC from by rw [← hbl]; exact lowMix_all _] at hcv
    go_wp2
    go_ret
    exact ⟨rfl, by repeat (first | (with_reducible first | exact HB.out | apply below_alloc | apply pw_below_drewN | apply below_drew1) | exact HB.out)⟩
   | succ k1 =>
    have hik : i < a0.size := by have := HK.out; omega
    have ci : decide ((i : Int) < (a0.size : Int)) = true := decide_eq_true (by omega)
    have hll : (lowMix (bytesOf a0) i).length = a0.size := by rw [lowMix_len _ _ (by omega)]; exact hbl
    obtain ⟨hx0, hf0⟩ := low_cell HR.out (i : Int) (by omega) (by omega)
    simp only [Int.toNat_natCast] at hx0 hf0
    have hxv := lowMix_at (bytesOf a0) i (by omega)
    rw [show rd (lowMix (bytesOf a0) i) (i : Int) = (bytesOf a0).getD i 0 from hxv] at hx0
    have hst := lowMix_step (bytesOf a0) i (by omega)
    have hsm := lowMix_same (bytesOf a0) i (by omega)
    have hw1 : wrap64 ((i : Int) + 1) = ((i + 1 : Nat) : Int) := low_wrap i a0.size hik hs
    obtain ⟨x, hxe⟩ : ∃ x, (bytesOf a0).getD i 0 = x := ⟨_, rfl⟩
    rw [hxe] at hx0 hst hsm
    clear hxv hxe
    have HS := Aside0.mk hst
    have HM := Aside0.mk hsm
    have HW := Aside0.mk hw1
    have HL := Aside0.mk hll
    clear hst hsm hw1 hll
    have p9 := eq_true (show 0 ≤ (i : Int) by omega)
    have q9 := eq_true (show (i : Int) < (a0.size : Int) by omega)
    have same : lowC x = x → ∀ w', LowRow g1 5 w' (lowMix (bytesOf a0) i) → LowRow g1 5 w' (lowMix (bytesOf a0) (i + 1)) := fun hc w' hr => by rw [HM.out hc]; exact hr
    by_cases h1 : 65 ≤ x
    ·have d1 : decide (65 ≤ x) = true := decide_eq_true h1
     by_cases h2 : x ≤ 90
     ·have d2 : decide (x ≤ 90) = true := decide_eq_true h2
      have hlc : lowC x = (x + 32) % 256 := if_pos ⟨h1, h2⟩
      have hp0 := low_set HR.out (i : Int) (by omega) (by have := HL.out; omega) ((x + 32) % 256)
      simp only [Int.toNat_natCast] at hp0
      have HP := Aside0.mk hp0
      clear hp0
      clear same h1 h2
      go_wp2_with (first | ((with_reducible refine gate_store (t := 5) (p := 25) rfl ?_); refine store_event (t := 5) (p := 25) (v := ?vo_w11) (w1 := (wr.setCell ⟨g1, i, none⟩ (.int .u8 ((x + 32) % 256)))) ?hg ?ho ?hn ?hr ?_; (case ho => rfl); (case hg => rfl); (case hn => rfl); (case hr => first | (go_simp; done) | (go_simp; rfl)); intro w11 hw; have n0_ := Aside0.mk (show LowRow g1 5 w11 (lowMix (bytesOf a0) (i + 1)) from by rw [hw, HS.out, hlc]; exact HP.out); have n1_ := Aside0.mk ((by rw [hw]; exact below_set (HB.out) HG.out : Below w.heap.size w w11)); clear HP HR HB; have HR := n0_; have HB := n1_; clear n0_ n1_ hw))
      go_roundg k1
      case measure => omega
      case rel => exact ⟨i + 1, (by first | rfl | exact congrArg (Value.int .i64) HW.out | exact congrArg (Value.int .i64) (by omega)), ⟨by have := HK.out; omega⟩, ⟨HR.out⟩, ⟨by repeat (first | (with_reducible first | exact HB.out | apply below_alloc | apply pw_below_drewN | apply below_drew1) | exact HB.out)⟩⟩
     ·have d2 : decide (x ≤ 90) = false := decide_eq_false h2
      have hr2 := Aside0.mk (same (if_neg (fun hh => h2 hh.2)) _ HR.out)
      clear same h1 h2
      go_wp2
      go_roundg k1
      case measure => omega
      case rel => exact ⟨i + 1, (by first | rfl | exact congrArg (Value.int .i64) HW.out | exact congrArg (Value.int .i64) (by omega)), ⟨by have := HK.out; omega⟩, ⟨hr2.out⟩, ⟨by repeat (first | (with_reducible first | exact HB.out | apply below_alloc | apply pw_below_drewN | apply below_drew1) | exact HB.out)⟩⟩
    ·have d1 : decide (65 ≤ x) = false := decide_eq_false h1
     have hr2 := Aside0.mk (same (if_neg (fun hh => h1 hh.1)) _ HR.out)
     clear same h1
     go_wp2
     go_roundg k1
     case measure => omega
     case rel => exact ⟨i + 1, (by first | rfl | exact congrArg (Value.int .i64) HW.out | exact congrArg (Value.int .i64) (by omega)), ⟨by have := HK.out; omega⟩, ⟨hr2.out⟩, ⟨by repeat (first | (with_reducible first | exact HB.out | apply below_alloc | apply pw_below_drewN | apply below_drew1) | exact HB.out)⟩⟩
 ·rw [if_neg hs] at h; cases h

/-! ### stringslite_HasSuffix: function 123 -/
def stringslite_HasSuffix.f (a0 : ByteArray) (a1 : ByteArray) : Option (Bool) := if (a0.size : Int) ≥ (a1.size : Int) then (if 0 ≤ (wrap64 ((a0.size : Int) - (a1.size : Int))) then (if (wrap64 ((a0.size : Int) - (a1.size : Int))) ≤ (a0.size : Int) then (some ((a0.extract ((wrap64 ((a0.size : Int) - (a1.size : Int))) : Int).toNat a0.size).toList == a1.toList)) else (none)) else (none)) else (some false)
set_option maxHeartbeats 8000000 in
set_option maxRecDepth 100000 in
theorem stringslite_HasSuffix.calls (a0 : ByteArray) (a1 : ByteArray) (r : Bool) (w : World) (h : stringslite_HasSuffix.f a0 a1 = some r) :
  Calls Tryd.prog 123 #[.string a0, .string a1] w fun e w' => e = .returned (.bool r) ∧ Drawn0 w w' := by
 have H : (if (a0.size : Int) ≥ (a1.size : Int) then (if 0 ≤ (wrap64 ((a0.size : Int) - (a1.size : Int))) then (if (wrap64 ((a0.size : Int) - (a1.size : Int))) ≤ (a0.size : Int) then (some ((a0.extract ((wrap64 ((a0.size : Int) - (a1.size : Int))) : Int).toNat a0.size).toList == a1.toList)) else (none)) else (none)) else (some false)) = some r := h
 clear h
 by_cases c3 : (a0.size : Int) ≥ (a1.size : Int)
 ·rw [if_pos c3] at H
  have c3b0 : decide ((a1.size : Int) ≤ (a0.size : Int)) = true := decide_eq_true c3
  have c3b1 : decide (a1.size ≤ a0.size) = true := decide_eq_true (Int.ofNat_le.mp c3)
  clear c3
  obtain ⟨ji4, hji4⟩ : ∃ j_ : Int, (wrap64 ((a0.size : Int) - (a1.size : Int))) = j_ := ⟨_, rfl⟩
  replace H : (if 0 ≤ (ji4) then (if (ji4) ≤ (a0.size : Int) then (some ((a0.extract ((ji4) : Int).toNat a0.size).toList == a1.toList)) else (none)) else (none)) = some r := by first | (rw [hji4] at H; exact H) | (simp only [hji4] at H ⊢; exact H)
  have hji4w : (IntKind.i64.wrap ((a0.size : Int) - (a1.size : Int))) = ji4 := (i64_w _).trans hji4
  by_cases c5 : 0 ≤ (ji4)
  ·rw [if_pos c5] at H
   have c5b0 := eq_true c5
   have c5b1 : decide (0 ≤ (ji4)) = true := decide_eq_true c5
   clear c5
   by_cases c6 : (ji4) ≤ (a0.size : Int)
   ·rw [if_pos c6] at H
    have c6b0 := eq_true c6
    have c6b1 : decide ((ji4) ≤ (a0.size : Int)) = true := decide_eq_true c6
    clear c6
    obtain rfl := Option.some.inj H
    go_enter Tryd.func123, Tryd.ntmps123
    go_wp2
    go_ret
    exact ⟨by first | rfl | (simp; done) | (simp only [← hji4] <;> (first | rfl | simp)) | (simp [*]; done), by repeat (first | exact Drawn0.refl _ | apply Drawn0.step)⟩
   ·rw [if_neg c6] at H
    exact absurd H (by simp)
  ·rw [if_neg c5] at H
   exact absurd H (by simp)
 ·rw [if_neg c3] at H
  have c3b0 : decide ((a1.size : Int) ≤ (a0.size : Int)) = false := decide_eq_false c3
  have c3b1 : decide (a1.size ≤ a0.size) = false := decide_eq_false (fun h => c3 (Int.ofNat_le.mpr h))
  clear c3
  obtain rfl := Option.some.inj H
  go_enter Tryd.func123, Tryd.ntmps123
  go_wp2
  go_ret
  exact ⟨by first | rfl | (simp; done) | (simp [*]; done), by repeat (first | exact Drawn0.refl _ | apply Drawn0.step)⟩

/-! ### stringslite_CutSuffix: function 70 -/
def stringslite_CutSuffix.f (a0 : ByteArray) (a1 : ByteArray) : Option (ByteArray × Bool) := (stringslite_HasSuffix.f a0 a1).bind fun t175 => (if t175 = true then (if 0 ≤ (wrap64 ((a0.size : Int) - (a1.size : Int))) then (if (wrap64 ((a0.size : Int) - (a1.size : Int))) ≤ (a0.size : Int) then (some (a0.extract 0 ((wrap64 ((a0.size : Int) - (a1.size : Int))) : Int).toNat, true)) else (none)) else (none)) else (some (a0, false)))
set_option maxHeartbeats 8000000 in
set_option maxRecDepth 100000 in
theorem stringslite_CutSuffix.calls (a0 : ByteArray) (a1 : ByteArray) (r1 : ByteArray) (r2 : Bool) (w : World) (h : stringslite_CutSuffix.f a0 a1 = some (r1, r2)) :
  Calls Tryd.prog 70 #[.string a0, .string a1] w fun e w' => e = .returned (.tuple #[.string r1, .bool r2]) ∧ Drawn0 w w' := by
 have H : ((stringslite_HasSuffix.f a0 a1).bind fun t175 => (if t175 = true then (if 0 ≤ (wrap64 ((a0.size : Int) - (a1.size : Int))) then (if (wrap64 ((a0.size : Int) - (a1.size : Int))) ≤ (a0.size : Int) then (some (a0.extract 0 ((wrap64 ((a0.size : Int) - (a1.size : Int))) : Int).toNat, true)) else (none)) else (none)) else (some (a0, false)))) = some (r1, r2) := h
 clear h
 replace H := Option.bind_eq_some_iff.mp H
 obtain ⟨t175, A30, H⟩ := H
 replace H : (if t175 = true then (if 0 ≤ (wrap64 ((a0.size : Int) - (a1.size : Int))) then (if (wrap64 ((a0.size : Int) - (a1.size : Int))) ≤ (a0.size : Int) then (some (a0.extract 0 ((wrap64 ((a0.size : Int) - (a1.size : Int))) : Int).toNat, true)) else (none)) else (none)) else (some (a0, false))) = some (r1, r2) := H
 have A3 := Aside0.mk A30
 clear A30
 by_cases c4 : t175 = true
 ·subst c4
  have H1 : (if 0 ≤ (wrap64 ((a0.size : Int) - (a1.size : Int))) then (if (wrap64 ((a0.size : Int) - (a1.size : Int))) ≤ (a0.size : Int) then (some (a0.extract 0 ((wrap64 ((a0.size : Int) - (a1.size : Int))) : Int).toNat, true)) else (none)) else (none)) = some (r1, r2) := by rw [if_pos rfl] at H; exact H
  clear H
  have H := H1
  clear H1
  obtain ⟨ji5, hji5⟩ : ∃ j_ : Int, (wrap64 ((a0.size : Int) - (a1.size : Int))) = j_ := ⟨_, rfl⟩
  replace H : (if 0 ≤ (ji5) then (if (ji5) ≤ (a0.size : Int) then (some (a0.extract 0 ((ji5) : Int).toNat, true)) else (none)) else (none)) = some (r1, r2) := by first | (rw [hji5] at H; exact H) | (simp only [hji5] at H ⊢; exact H)
  (try rw [hji5] at A3)
  have hji5w : (IntKind.i64.wrap ((a0.size : Int) - (a1.size : Int))) = ji5 := (i64_w _).trans hji5
  by_cases c6 : 0 ≤ (ji5)
  ·rw [if_pos c6] at H
   have c6b0 := eq_true c6
   have c6b1 : decide (0 ≤ (ji5)) = true := decide_eq_true c6
   clear c6
   by_cases c7 : (ji5) ≤ (a0.size : Int)
   ·rw [if_pos c7] at H
    have c7b0 := eq_true c7
    have c7b1 : decide ((ji5) ≤ (a0.size : Int)) = true := decide_eq_true c7
    clear c7
    simp only [Option.some.injEq, Prod.mk.injEq] at H
    obtain ⟨rfl, rfl⟩ := H
    go_enter Tryd.func70, Tryd.ntmps70
    go_wp2_with (first | ((with_reducible refine gate_callee (f := 123) rfl ?_); refine goesL_ (some 8) rfl rfl Tryd.func123 (by kernel_rfl) rfl #[.string a0, .string a1] rfl (by (try simp only [List.map_toArray, List.map_cons, List.map_nil]); first | done | rfl | (simp only [List.length_drop, List.length_take]; rfl)) ?_; (with_reducible refine (stringslite_HasSuffix.calls a0 a1 true _ A3.out).mono ?_); rintro e w' ⟨rfl, ⟨nd, rfl⟩⟩; refine ⟨_, rfl, ?_⟩))
    go_ret2
    exact ⟨by first | rfl | (simp; done) | (simp only [← hji5] <;> (first | rfl | simp)) | (simp [*]; done), by repeat (first | exact Drawn0.refl _ | apply Drawn0.step)⟩
   ·rw [if_neg c7] at H
    exact absurd H (by simp)
  ·rw [if_neg c6] at H
   exact absurd H (by simp)
 ·replace c4 := Bool.eq_false_iff.mpr c4
  subst c4
  have H1 : (some (a0, false)) = some (r1, r2) := by rw [if_neg (show ¬ (false = true) by decide)] at H; exact H
  clear H
  have H := H1
  clear H1
  simp only [Option.some.injEq, Prod.mk.injEq] at H
  obtain ⟨rfl, rfl⟩ := H
  go_enter Tryd.func70, Tryd.ntmps70
  go_wp2_with (first | ((with_reducible refine gate_callee (f := 123) rfl ?_); refine goesL_ (some 8) rfl rfl Tryd.func123 (by kernel_rfl) rfl #[.string a0, .string a1] rfl (by (try simp only [List.map_toArray, List.map_cons, List.map_nil]); first | done | rfl | (simp only [List.length_drop, List.length_take]; rfl)) ?_; (with_reducible refine (stringslite_HasSuffix.calls a0 a1 false _ A3.out).mono ?_); rintro e w' ⟨rfl, ⟨nd, rfl⟩⟩; refine ⟨_, rfl, ?_⟩))
  go_ret2
  exact ⟨by first | rfl | (simp; done) | (simp [*]; done), by repeat (first | exact Drawn0.refl _ | apply Drawn0.step)⟩

/-! ### strings_CutSuffix: function 31 -/
def strings_CutSuffix.f (a0 : ByteArray) (a1 : ByteArray) : Option (ByteArray × Bool) := (stringslite_CutSuffix.f a0 a1).bind fun bt176 => (some (bt176.1, bt176.2))
set_option maxHeartbeats 8000000 in
set_option maxRecDepth 100000 in
theorem strings_CutSuffix.calls (a0 : ByteArray) (a1 : ByteArray) (r1 : ByteArray) (r2 : Bool) (w : World) (h : strings_CutSuffix.f a0 a1 = some (r1, r2)) :
  Calls Tryd.prog 31 #[.string a0, .string a1] w fun e w' => e = .returned (.tuple #[.string r1, .bool r2]) ∧ Drawn0 w w' := by
 have H : ((stringslite_CutSuffix.f a0 a1).bind fun bt176 => (some (bt176.1, bt176.2))) = some (r1, r2) := h
 clear h
 replace H := Option.bind_eq_some_iff.mp H
 obtain ⟨⟨t176, t177⟩, A30, H⟩ := H
 replace H : (some (t176, t177)) = some (r1, r2) := H
 have A3 := Aside0.mk A30
 clear A30
 simp only [Option.some.injEq, Prod.mk.injEq] at H
 obtain ⟨rfl, rfl⟩ := H
 go_enter Tryd.func31, Tryd.ntmps31
 go_wp2_with (first | ((with_reducible refine gate_callee (f := 70) rfl ?_); refine goesL_ (some 8) rfl rfl Tryd.func70 (by kernel_rfl) rfl #[.string a0, .string a1] rfl (by (try simp only [List.map_toArray, List.map_cons, List.map_nil]); first | done | rfl | (simp only [List.length_drop, List.length_take]; rfl)) ?_; (with_reducible refine (stringslite_CutSuffix.calls a0 a1 t176 t177 _ A3.out).mono ?_); rintro e w' ⟨rfl, ⟨nd, rfl⟩⟩; refine ⟨_, rfl, ?_⟩))
 go_ret2
 exact ⟨by first | rfl | (simp; done) | (simp [*]; done), by repeat (first | exact Drawn0.refl _ | apply Drawn0.step)⟩

-- NOT PRINTED: function 159 (utf8_RuneCountInString)

-- NOT PRINTED: function 124 (strings_explode)

-- NOT PRINTED: function 192 (bytealg_hashStr_string)

-- NOT PRINTED: function 179 (bytealg_IndexRabinKarp_string)

-- NOT PRINTED: function 151 (stringslite_Index)

-- NOT PRINTED: function 126 (strings_Index)

-- NOT PRINTED: function 160 (bytealg_CountString)

-- NOT PRINTED: function 125 (strings_Count)

-- NOT PRINTED: function 71 (strings_genSplit)

/-! ### strings_Split: function 32 -/
def laid146_ren_ : Go.Shelf.Ren := ⟨fun | 138 => 125 | 143 => 126 | 146 => 32 | 195 => 159 | 197 => 137 | 217 => 176 | 218 => 160 | 219 => 151 | 221 => 71 | 224 => 178 | 225 => 177 | 260 => 162 | 266 => 191 | 267 => 179 | 268 => 124 | 314 => 192 | n => n, fun | 31 => 51 | 46 => 158 | 51 => 177 | 105 => 149 | 119 => 182 | 138 => 184 | 139 => 185 | 146 => 192 | n => n, fun | 1 => 0 | 3 => 1 | 4 => 2 | n => n⟩
theorem laid146_ : Go.Proofs.Lays.n146 Tryd.prog laid146_ren_ := {
 mixed := by kernel_rfl
 f138 := Tryd.func125.trans (congrArg some (by kernel_rfl))
 f143 := Tryd.func126.trans (congrArg some (by kernel_rfl))
 f146 := Tryd.func32.trans (congrArg some (by kernel_rfl))
 f195 := Tryd.func159.trans (congrArg some (by kernel_rfl))
 f197 := Tryd.func137.trans (congrArg some (by kernel_rfl))
 f217 := Tryd.func176.trans (congrArg some (by kernel_rfl))
 f218 := Tryd.func160.trans (congrArg some (by kernel_rfl))
 f219 := Tryd.func151.trans (congrArg some (by kernel_rfl))
 f221 := Tryd.func71.trans (congrArg some (by kernel_rfl))
 f224 := Tryd.func178.trans (congrArg some (by kernel_rfl))
 f225 := Tryd.func177.trans (congrArg some (by kernel_rfl))
 f260 := Tryd.func162.trans (congrArg some (by kernel_rfl))
 f266 := Tryd.func191.trans (congrArg some (by kernel_rfl))
 f267 := Tryd.func179.trans (congrArg some (by kernel_rfl))
 f268 := Tryd.func124.trans (congrArg some (by kernel_rfl))
 f314 := Tryd.func192.trans (congrArg some (by kernel_rfl))
 t0 := Tryd.underlying0
 a0 := Tryd.isAgg0
 z0 := Tryd.sizeOf0
 v0 := Tryd.zeroValue0
 t3 := Tryd.underlying3
 a3 := Tryd.isAgg3
 z3 := Tryd.sizeOf3
 v3 := Tryd.zeroValue3
 t4 := Tryd.underlying4
 a4 := Tryd.isAgg4
 z4 := Tryd.sizeOf4
 v4 := Tryd.zeroValue4
 t5 := Tryd.underlying5
 a5 := Tryd.isAgg5
 z5 := Tryd.sizeOf5
 v5 := Tryd.zeroValue5
 t9 := Tryd.underlying9
 a9 := Tryd.isAgg9
 z9 := Tryd.sizeOf9
 v9 := Tryd.zeroValue9
 t21 := Tryd.underlying21
 a21 := Tryd.isAgg21
 z21 := Tryd.sizeOf21
 v21 := Tryd.zeroValue21
 t31 := Tryd.underlying51
 a31 := Tryd.isAgg51
 z31 := Tryd.sizeOf51
 v31 := Tryd.zeroValue51
 t46 := Tryd.underlying158
 a46 := Tryd.isAgg158
 z46 := Tryd.sizeOf158
 v46 := Tryd.zeroValue158
 t51 := Tryd.underlying177
 a51 := Tryd.isAgg177
 z51 := Tryd.sizeOf177
 v51 := Tryd.zeroValue177
 t105 := Tryd.underlying149
 a105 := Tryd.isAgg149
 z105 := Tryd.sizeOf149
 v105 := Tryd.zeroValue149
 t119 := Tryd.underlying182
 a119 := Tryd.isAgg182
 z119 := Tryd.sizeOf182
 t138 := Tryd.underlying184
 a138 := Tryd.isAgg184
 z138 := Tryd.sizeOf184
 v138 := Tryd.zeroValue184
 t139 := Tryd.underlying185
 a139 := Tryd.isAgg185
 z139 := Tryd.sizeOf185
 v139 := Tryd.zeroValue185
 t146 := Tryd.underlying192
 a146 := Tryd.isAgg192
 z146 := Tryd.sizeOf192
 v146 := Tryd.zeroValue192
 g1 := by kernel_rfl
 g3 := by kernel_rfl
 g4 := by kernel_rfl }

/-- the library's own number of internal/bytealg lies in this world. -/
def U8Tabs_ (w : World) : Prop := ∃ m : Int, w.cell? ⟨laid146_ren_.g 1, 0, none⟩ = some (.int .i64 m)
theorem utf8_keep_ {w w' : World} (h : U8Tabs_ w) (hb : Below w.heap.size w w') : U8Tabs_ w' :=
 let ⟨m, hc⟩ := h
 ⟨m, (hb.cell (World.block_lt_of_cell? w _ hc)).trans hc⟩
theorem utf8_drawn_ {w w' : World} (h : U8Tabs_ w) (hb : Drawn0 w w') : U8Tabs_ w' := by
 obtain ⟨n, rfl⟩ := hb
 exact utf8_keep_ h (pw_below_drewN (Below.refl _ _) n)
def strings_Split.f (a0 : ByteArray) (a1 : ByteArray) : Option (List ByteArray) := if a0.size < 4294967281 ∧ 1 ≤ a1.size then some (Lib.splitB a1 0 (Lib.countB a0 a1) a0) else none
theorem strings_Split.calls (a0 : ByteArray) (a1 : ByteArray) (r : List ByteArray) (w : World) (h : strings_Split.f a0 a1 = some r) (hT_ : U8Tabs_ w) :
  Calls Tryd.prog 32 #[.string a0, .string a1] w fun e w' => ∃ v0_ : Value, e = .returned (v0_) ∧ Kd.R Kd.string 9 w' w.heap.size (fun _ => True) v0_ r ∧ Below w.heap.size w w' := by
 unfold strings_Split.f at h
 by_cases hs : a0.size < 4294967281 ∧ 1 ≤ a1.size
 ·rw [if_pos hs] at h
  obtain rfl := Option.some.inj h
  obtain ⟨m, hm⟩ := hT_
  have hle := Lib.countB_le a1 hs.2 a0.size a0 (Nat.le_refl _)
  have hlen := Lib.splitB_all a1 hs.2 0 _ a0 rfl
  have hs1 := hs.1
  refine (Any.strings_Split laid146_ (by kernel_rfl) a0 a1 m w hs.1 hm hs.2).mono fun e w' ⟨he, hw⟩ => ⟨_, he, ?_, by rw [hw]; exact below_alloc (Below.refl _ _) _⟩
  subst hw
  refine Kd.R_of_own ?_ (fun _ _ => trivial)
  refine ⟨by simp [encs], .inr ⟨w.heap.size, Lib.countB a0 a1 + 1, ((Lib.splitB a1 0 (Lib.countB a0 a1) a0).map Value.string).toArray, by rw [hlen], Nat.le_refl _, blk_new _ _, by omega, by unfold maxLen; omega, by simp [hlen], ?_⟩⟩
  rw [List.toList_toArray, List.take_of_length_le (by simp)]
  rfl
 ·rw [if_neg hs] at h; cases h

/-! ### impl_within: function 33 -/
def impl_within.f (a0 : Int) (a1 : Int) (a2 : Int) : Option (Bool) := if a1 ≤ a0 then (some (decide (a0 ≤ a2))) else (some false)
set_option maxHeartbeats 8000000 in
set_option maxRecDepth 100000 in
theorem impl_within.calls (a0 : Int) (a1 : Int) (a2 : Int) (r : Bool) (w : World) (h : impl_within.f a0 a1 a2 = some r) :
  Calls Tryd.prog 33 #[.int .i64 a0, .int .i64 a1, .int .i64 a2] w fun e w' => e = .returned (.bool r) ∧ Drawn0 w w' := by
 have H : (if a1 ≤ a0 then (some (decide (a0 ≤ a2))) else (some false)) = some r := h
 clear h
 by_cases c4 : a1 ≤ a0
 ·rw [if_pos c4] at H
  have c4b0 : decide (a1 ≤ a0) = true := decide_eq_true c4
  clear c4
  obtain rfl := Option.some.inj H
  go_enter Tryd.func33, Tryd.ntmps33
  go_wp2
  go_ret
  exact ⟨by first | rfl | (simp; done) | (simp [*]; done), by repeat (first | exact Drawn0.refl _ | apply Drawn0.step)⟩
 ·rw [if_neg c4] at H
  have c4b0 : decide (a1 ≤ a0) = false := decide_eq_false c4
  clear c4
  obtain rfl := Option.some.inj H
  go_enter Tryd.func33, Tryd.ntmps33
  go_wp2
  go_ret
  exact ⟨by first | rfl | (simp; done) | (simp [*]; done), by repeat (first | exact Drawn0.refl _ | apply Drawn0.step)⟩

/-! ### impl_digitsFrom: function 34 -/
def impl_digitsFrom.l0 : Nat → ByteArray → Int → Option (Int)
 | 0, _, _ => none
 | k + 1, x0, x1 => if x1 < (x0.size : Int) then (if 0 ≤ x1 then ((impl_isDigit.f (bt x0 x1)).bind fun t178 => (if t178 = true then (impl_digitsFrom.l0 k x0 (wrap64 (x1 + 1))) else (some x1))) else (none)) else (some x1)
def impl_digitsFrom.f (k : Nat) (a0 : ByteArray) (a1 : Int) : Option (Int) := impl_digitsFrom.l0 k a0 a1
set_option maxHeartbeats 8000000 in
set_option maxRecDepth 100000 in
theorem impl_digitsFrom.calls (k : Nat) (a0 : ByteArray) (a1 : Int) (r : Int) (w : World) (h : impl_digitsFrom.f k a0 a1 = some r) :
  Calls Tryd.prog 34 #[.string a0, .int .i64 a1] w fun e w' => e = .returned (.int .i64 r) ∧ Drawn0 w w' := by
 have H : (impl_digitsFrom.l0 k a0 a1) = some r := h
 clear h
 have H' := Aside0.mk H
 clear H
 go_enter Tryd.func34, Tryd.ntmps34
 go_wp2
 go_loopg [1] k (fun kq v1 w' => ∃ (x1_1 : Int), v1 = .int .i64 x1_1 ∧ Aside0 (impl_digitsFrom.l0 kq a0 x1_1 = some r) ∧ Aside0 (kq ≤ k) ∧ Drawn0 w w')
 case atStart => exact ⟨(a1), (by first | rfl | (simp; done) | (simp [*]; done) | (simp [wrap64]; done)), H', ⟨Nat.le_refl _⟩, by repeat (first | exact Drawn0.refl _ | apply Drawn0.step)⟩
 case round =>
  clear H'
  (try clear p2)
  obtain ⟨x1_1, rfl, HA, HK1, ⟨m1, rfl⟩⟩ := hrel
  cases gk with
  | zero => exact absurd HA.out (by simp [impl_digitsFrom.l0])
  | succ k1 =>
   have H := HA.out
   clear HA
   simp only [impl_digitsFrom.l0] at H
   by_cases c3 : x1_1 < (a0.size : Int)
   ·rw [if_pos c3] at H
    have c3b0 : decide (x1_1 < (a0.size : Int)) = true := decide_eq_true c3
    clear c3
    by_cases c4 : 0 ≤ x1_1
    ·rw [if_pos c4] at H
     have c4b0 : decide (0 ≤ x1_1) = true := decide_eq_true c4
     clear c4
     replace H := Option.bind_eq_some_iff.mp H
     obtain ⟨t178, A60, H⟩ := H
     replace H : (if t178 = true then (impl_digitsFrom.l0 k1 a0 (wrap64 (x1_1 + 1))) else (some x1_1)) = some r := H
     have A6 := Aside0.mk A60
     clear A60
     by_cases c7 : t178 = true
     ·subst c7
      have H1 : (impl_digitsFrom.l0 k1 a0 (wrap64 (x1_1 + 1))) = some r := by rw [if_pos rfl] at H; exact H
      clear H
      have H := H1
      clear H1
      have H' := Aside0.mk H
      clear H
      have p5 : 0 ≤ (x1_1 : Int) := of_decide_eq_true (by first | (with_reducible assumption) | assumption)
      have q5 : x1_1 < (a0.size : Int) := of_decide_eq_true (by first | (with_reducible assumption) | assumption)
      have hx5 := bt_at a0 x1_1
      replace p5 := eq_true p5
      replace q5 := eq_true q5
      go_wp2_with (first | (go_at_call 72; (with_reducible refine (impl_isDigit.calls (bt a0 x1_1) true _ A6.out).mono ?_); rintro e w' ⟨rfl, ⟨nd, rfl⟩⟩))
      go_roundg k1
      case measure => have := HK1.out; omega
      case rel => exact ⟨(wrap64 (x1_1 + 1)), (by first | rfl | (simp; done) | (simp [*]; done) | (simp [wrap64]; done)), H', ⟨by have := HK1.out; omega⟩, by repeat (first | exact Drawn0.refl _ | apply Drawn0.step)⟩
     ·replace c7 := Bool.eq_false_iff.mpr c7
      subst c7
      have H1 : (some x1_1) = some r := by rw [if_neg (show ¬ (false = true) by decide)] at H; exact H
      clear H
      have H := H1
      clear H1
      obtain rfl := Option.some.inj H
      have p5 : 0 ≤ (x1_1 : Int) := of_decide_eq_true (by first | (with_reducible assumption) | assumption)
      have q5 : x1_1 < (a0.size : Int) := of_decide_eq_true (by first | (with_reducible assumption) | assumption)
      have hx5 := bt_at a0 x1_1
      replace p5 := eq_true p5
      replace q5 := eq_true q5
      go_wp2_with (first | (go_at_call 72; (with_reducible refine (impl_isDigit.calls (bt a0 x1_1) false _ A6.out).mono ?_); rintro e w' ⟨rfl, ⟨nd, rfl⟩⟩))
      go_ret
      exact ⟨by first | rfl | (simp; done) | (simp [*]; done), by repeat (first | exact Drawn0.refl _ | apply Drawn0.step)⟩
    ·rw [if_neg c4] at H
     exact absurd H (by simp)
   ·rw [if_neg c3] at H
    have c3b0 : decide (x1_1 < (a0.size : Int)) = false := decide_eq_false c3
    clear c3
    obtain rfl := Option.some.inj H
    go_wp2
    go_ret
    exact ⟨by first | rfl | (simp; done) | (simp [*]; done), by repeat (first | exact Drawn0.refl _ | apply Drawn0.step)⟩

end Go.Proofs.YtooilehdljeepaaDoor.PFnExactReadColor
