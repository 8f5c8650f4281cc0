-- PRINTED BY print.sh 35421559b90ae4d0a3588c463048766b98c2df88dd9212a6774a882060cdf62d: not written by this session
import Derived.Test.YtphdamdgenepmaaPFnExactPropertiesx0
namespace Go.Proofs.Ytphdamdgenepmaa.PFnExactProperties
open Go.RowKit Go.Proofs.YtphdamdgenepmaaW.PrintWords Go.Proofs.YtphdamdgenepmaaW.PrintLast Go.Proofs.YtphdamdgenepmaaW.PrintMore
attribute [local go_sem] max2_int min2_int max_two min_two max_three min_three max_four min_four   -- for this text's walks alone
set_option linter.unusedVariables false
set_option linter.unusedSimpArgs false

/-! ### spec_Properties: function 32 -/
def spec_Properties.f  : Option (List ByteArray) := some (([(⟨#[99, 108, 105, 112, 45, 112, 97, 116, 104]⟩ : ByteArray), (⟨#[99, 111, 108, 111, 114]⟩ : ByteArray), (⟨#[100, 105, 115, 112, 108, 97, 121]⟩ : ByteArray), (⟨#[102, 105, 108, 108]⟩ : ByteArray), (⟨#[102, 105, 108, 108, 45, 111, 112, 97, 99, 105, 116, 121]⟩ : ByteArray), (⟨#[102, 105, 108, 108, 45, 114, 117, 108, 101]⟩ : ByteArray), (⟨#[111, 102, 102, 115, 101, 116]⟩ : ByteArray), (⟨#[111, 112, 97, 99, 105, 116, 121]⟩ : ByteArray), (⟨#[115, 116, 111, 112, 45, 99, 111, 108, 111, 114]⟩ : ByteArray), (⟨#[115, 116, 114, 111, 107, 101]⟩ : ByteArray), (⟨#[115, 116, 114, 111, 107, 101, 45, 100, 97, 115, 104, 97, 114, 114, 97, 121]⟩ : ByteArray), (⟨#[115, 116, 114, 111, 107, 101, 45, 108, 105, 110, 101, 99, 97, 112]⟩ : ByteArray), (⟨#[115, 116, 114, 111, 107, 101, 45, 108, 105, 110, 101, 106, 111, 105, 110]⟩ : ByteArray), (⟨#[115, 116, 114, 111, 107, 101, 45, 111, 112, 97, 99, 105, 116, 121]⟩ : ByteArray), (⟨#[115, 116, 114, 111, 107, 101, 45, 119, 105, 100, 116, 104]⟩ : ByteArray), (⟨#[118, 105, 115, 105, 98, 105, 108, 105, 116, 121]⟩ : ByteArray)] : List ByteArray))
set_option maxHeartbeats 8000000 in
set_option maxRecDepth 100000 in
theorem spec_Properties.calls  (r : List ByteArray) (w : World) (h : spec_Properties.f  = some r) :
    Calls Try.prog 32 #[] w fun e w' => ∃ v0_ : Value, e = .returned (v0_) ∧ Kd.R Kd.string 9 w' w.heap.size (fun _ => True) v0_ r ∧ Below w.heap.size w w' := by
  have HB := Aside0.mk (Below.refl w.heap.size w)
  have H : (some (([(⟨#[99, 108, 105, 112, 45, 112, 97, 116, 104]⟩ : ByteArray), (⟨#[99, 111, 108, 111, 114]⟩ : ByteArray), (⟨#[100, 105, 115, 112, 108, 97, 121]⟩ : ByteArray), (⟨#[102, 105, 108, 108]⟩ : ByteArray), (⟨#[102, 105, 108, 108, 45, 111, 112, 97, 99, 105, 116, 121]⟩ : ByteArray), (⟨#[102, 105, 108, 108, 45, 114, 117, 108, 101]⟩ : ByteArray), (⟨#[111, 102, 102, 115, 101, 116]⟩ : ByteArray), (⟨#[111, 112, 97, 99, 105, 116, 121]⟩ : ByteArray), (⟨#[115, 116, 111, 112, 45, 99, 111, 108, 111, 114]⟩ : ByteArray), (⟨#[115, 116, 114, 111, 107, 101]⟩ : ByteArray), (⟨#[115, 116, 114, 111, 107, 101, 45, 100, 97, 115, 104, 97, 114, 114, 97, 121]⟩ : ByteArray), (⟨#[115, 116, 114, 111, 107, 101, 45, 108, 105, 110, 101, 99, 97, 112]⟩ : ByteArray), (⟨#[115, 116, 114, 111, 107, 101, 45, 108, 105, 110, 101, 106, 111, 105, 110]⟩ : ByteArray), (⟨#[115, 116, 114, 111, 107, 101, 45, 111, 112, 97, 99, 105, 116, 121]⟩ : ByteArray), (⟨#[115, 116, 114, 111, 107, 101, 45, 119, 105, 100, 116, 104]⟩ : ByteArray), (⟨#[118, 105, 115, 105, 98, 105, 108, 105, 116, 121]⟩ : ByteArray)] : List ByteArray))) = some r := h
  clear h
  obtain ⟨y101, hy101⟩ : ∃ y_ : List ByteArray, y_ = (([(⟨#[99, 108, 105, 112, 45, 112, 97, 116, 104]⟩ : ByteArray), (⟨#[99, 111, 108, 111, 114]⟩ : ByteArray), (⟨#[100, 105, 115, 112, 108, 97, 121]⟩ : ByteArray), (⟨#[102, 105, 108, 108]⟩ : ByteArray), (⟨#[102, 105, 108, 108, 45, 111, 112, 97, 99, 105, 116, 121]⟩ : ByteArray), (⟨#[102, 105, 108, 108, 45, 114, 117, 108, 101]⟩ : ByteArray), (⟨#[111, 102, 102, 115, 101, 116]⟩ : ByteArray), (⟨#[111, 112, 97, 99, 105, 116, 121]⟩ : ByteArray), (⟨#[115, 116, 111, 112, 45, 99, 111, 108, 111, 114]⟩ : ByteArray), (⟨#[115, 116, 114, 111, 107, 101]⟩ : ByteArray), (⟨#[115, 116, 114, 111, 107, 101, 45, 100, 97, 115, 104, 97, 114, 114, 97, 121]⟩ : ByteArray), (⟨#[115, 116, 114, 111, 107, 101, 45, 108, 105, 110, 101, 99, 97, 112]⟩ : ByteArray), (⟨#[115, 116, 114, 111, 107, 101, 45, 108, 105, 110, 101, 106, 111, 105, 110]⟩ : ByteArray), (⟨#[115, 116, 114, 111, 107, 101, 45, 111, 112, 97, 99, 105, 116, 121]⟩ : ByteArray), (⟨#[115, 116, 114, 111, 107, 101, 45, 119, 105, 100, 116, 104]⟩ : ByteArray), (⟨#[118, 105, 115, 105, 98, 105, 108, 105, 116, 121]⟩ : ByteArray)] : List ByteArray)) := ⟨_, rfl⟩
  replace H : (some y101) = some r := by first | (rw [hy101]; with_reducible exact H) | (have H2_ := (Option.bind_some _ _).symm.trans H; rw [hy101]; with_reducible exact H2_) | (have H2_ := (Option.bind_some _ _).symm.trans H; with_reducible exact H2_) | with_reducible exact H | (rw [hy101]; exact H) | exact H
  have Ny101 := Aside0.mk hy101
  clear hy101
  obtain rfl := Option.some.inj H
  go_enter Try.func32, Try.ntmps32
  go_wp2_with (first | ((with_reducible refine gate_dst (N := 1) rfl ?_); refine Kd.R_lit Kd.string _ 9 ?hg (N := 1) ?hd (xs := ([(⟨#[99, 108, 105, 112, 45, 112, 97, 116, 104]⟩ : ByteArray), (⟨#[99, 111, 108, 111, 114]⟩ : ByteArray), (⟨#[100, 105, 115, 112, 108, 97, 121]⟩ : ByteArray), (⟨#[102, 105, 108, 108]⟩ : ByteArray), (⟨#[102, 105, 108, 108, 45, 111, 112, 97, 99, 105, 116, 121]⟩ : ByteArray), (⟨#[102, 105, 108, 108, 45, 114, 117, 108, 101]⟩ : ByteArray), (⟨#[111, 102, 102, 115, 101, 116]⟩ : ByteArray), (⟨#[111, 112, 97, 99, 105, 116, 121]⟩ : ByteArray), (⟨#[115, 116, 111, 112, 45, 99, 111, 108, 111, 114]⟩ : ByteArray), (⟨#[115, 116, 114, 111, 107, 101]⟩ : ByteArray), (⟨#[115, 116, 114, 111, 107, 101, 45, 100, 97, 115, 104, 97, 114, 114, 97, 121]⟩ : ByteArray), (⟨#[115, 116, 114, 111, 107, 101, 45, 108, 105, 110, 101, 99, 97, 112]⟩ : ByteArray), (⟨#[115, 116, 114, 111, 107, 101, 45, 108, 105, 110, 101, 106, 111, 105, 110]⟩ : ByteArray), (⟨#[115, 116, 114, 111, 107, 101, 45, 111, 112, 97, 99, 105, 116, 121]⟩ : ByteArray), (⟨#[115, 116, 114, 111, 107, 101, 45, 119, 105, 100, 116, 104]⟩ : ByteArray), (⟨#[118, 105, 115, 105, 98, 105, 108, 105, 116, 121]⟩ : ByteArray)] : List ByteArray)) (inner := [.string (⟨#[99, 108, 105, 112, 45, 112, 97, 116, 104]⟩ : ByteArray), .string (⟨#[99, 111, 108, 111, 114]⟩ : ByteArray), .string (⟨#[100, 105, 115, 112, 108, 97, 121]⟩ : ByteArray), .string (⟨#[102, 105, 108, 108]⟩ : ByteArray), .string (⟨#[102, 105, 108, 108, 45, 111, 112, 97, 99, 105, 116, 121]⟩ : ByteArray), .string (⟨#[102, 105, 108, 108, 45, 114, 117, 108, 101]⟩ : ByteArray), .string (⟨#[111, 102, 102, 115, 101, 116]⟩ : ByteArray), .string (⟨#[111, 112, 97, 99, 105, 116, 121]⟩ : ByteArray), .string (⟨#[115, 116, 111, 112, 45, 99, 111, 108, 111, 114]⟩ : ByteArray), .string (⟨#[115, 116, 114, 111, 107, 101]⟩ : ByteArray), .string (⟨#[115, 116, 114, 111, 107, 101, 45, 100, 97, 115, 104, 97, 114, 114, 97, 121]⟩ : ByteArray), .string (⟨#[115, 116, 114, 111, 107, 101, 45, 108, 105, 110, 101, 99, 97, 112]⟩ : ByteArray), .string (⟨#[115, 116, 114, 111, 107, 101, 45, 108, 105, 110, 101, 106, 111, 105, 110]⟩ : ByteArray), .string (⟨#[115, 116, 114, 111, 107, 101, 45, 111, 112, 97, 99, 105, 116, 121]⟩ : ByteArray), .string (⟨#[115, 116, 114, 111, 107, 101, 45, 119, 105, 100, 116, 104]⟩ : ByteArray), .string (⟨#[118, 105, 115, 105, 98, 105, 108, 105, 116, 121]⟩ : ByteArray)]) (ok := fun _ => True) (okp := fun _ => True) ?hr ?hp (fun _ hk => hk) trivial (Below.refl _ _) (Nat.le_refl _) (by simp) ?_; (case hd => rfl); (case hg => rfl); (case hr => first | (go_simp; done) | (go_simp; rfl)); (case hp => exact (Reps.one (show Kd.M Kd.string _ _ _ (⟨#[99, 108, 105, 112, 45, 112, 97, 116, 104]⟩ : ByteArray) [.string (⟨#[99, 108, 105, 112, 45, 112, 97, 116, 104]⟩ : ByteArray)] from rfl) (Reps.one (show Kd.M Kd.string _ _ _ (⟨#[99, 111, 108, 111, 114]⟩ : ByteArray) [.string (⟨#[99, 111, 108, 111, 114]⟩ : ByteArray)] from rfl) (Reps.one (show Kd.M Kd.string _ _ _ (⟨#[100, 105, 115, 112, 108, 97, 121]⟩ : ByteArray) [.string (⟨#[100, 105, 115, 112, 108, 97, 121]⟩ : ByteArray)] from rfl) (Reps.one (show Kd.M Kd.string _ _ _ (⟨#[102, 105, 108, 108]⟩ : ByteArray) [.string (⟨#[102, 105, 108, 108]⟩ : ByteArray)] from rfl) (Reps.one (show Kd.M Kd.string _ _ _ (⟨#[102, 105, 108, 108, 45, 111, 112, 97, 99, 105, 116, 121]⟩ : ByteArray) [.string (⟨#[102, 105, 108, 108, 45, 111, 112, 97, 99, 105, 116, 121]⟩ : ByteArray)] from rfl) (Reps.one (show Kd.M Kd.string _ _ _ (⟨#[102, 105, 108, 108, 45, 114, 117, 108, 101]⟩ : ByteArray) [.string (⟨#[102, 105, 108, 108, 45, 114, 117, 108, 101]⟩ : ByteArray)] from rfl) (Reps.one (show Kd.M Kd.string _ _ _ (⟨#[111, 102, 102, 115, 101, 116]⟩ : ByteArray) [.string (⟨#[111, 102, 102, 115, 101, 116]⟩ : ByteArray)] from rfl) (Reps.one (show Kd.M Kd.string _ _ _ (⟨#[111, 112, 97, 99, 105, 116, 121]⟩ : ByteArray) [.string (⟨#[111, 112, 97, 99, 105, 116, 121]⟩ : ByteArray)] from rfl) (Reps.one (show Kd.M Kd.string _ _ _ (⟨#[115, 116, 111, 112, 45, 99, 111, 108, 111, 114]⟩ : ByteArray) [.string (⟨#[115, 116, 111, 112, 45, 99, 111, 108, 111, 114]⟩ : ByteArray)] from rfl) (Reps.one (show Kd.M Kd.string _ _ _ (⟨#[115, 116, 114, 111, 107, 101]⟩ : ByteArray) [.string (⟨#[115, 116, 114, 111, 107, 101]⟩ : ByteArray)] from rfl) (Reps.one (show Kd.M Kd.string _ _ _ (⟨#[115, 116, 114, 111, 107, 101, 45, 100, 97, 115, 104, 97, 114, 114, 97, 121]⟩ : ByteArray) [.string (⟨#[115, 116, 114, 111, 107, 101, 45, 100, 97, 115, 104, 97, 114, 114, 97, 121]⟩ : ByteArray)] from rfl) (Reps.one (show Kd.M Kd.string _ _ _ (⟨#[115, 116, 114, 111, 107, 101, 45, 108, 105, 110, 101, 99, 97, 112]⟩ : ByteArray) [.string (⟨#[115, 116, 114, 111, 107, 101, 45, 108, 105, 110, 101, 99, 97, 112]⟩ : ByteArray)] from rfl) (Reps.one (show Kd.M Kd.string _ _ _ (⟨#[115, 116, 114, 111, 107, 101, 45, 108, 105, 110, 101, 106, 111, 105, 110]⟩ : ByteArray) [.string (⟨#[115, 116, 114, 111, 107, 101, 45, 108, 105, 110, 101, 106, 111, 105, 110]⟩ : ByteArray)] from rfl) (Reps.one (show Kd.M Kd.string _ _ _ (⟨#[115, 116, 114, 111, 107, 101, 45, 111, 112, 97, 99, 105, 116, 121]⟩ : ByteArray) [.string (⟨#[115, 116, 114, 111, 107, 101, 45, 111, 112, 97, 99, 105, 116, 121]⟩ : ByteArray)] from rfl) (Reps.one (show Kd.M Kd.string _ _ _ (⟨#[115, 116, 114, 111, 107, 101, 45, 119, 105, 100, 116, 104]⟩ : ByteArray) [.string (⟨#[115, 116, 114, 111, 107, 101, 45, 119, 105, 100, 116, 104]⟩ : ByteArray)] from rfl) (Reps.one (show Kd.M Kd.string _ _ _ (⟨#[118, 105, 115, 105, 98, 105, 108, 105, 116, 121]⟩ : ByteArray) [.string (⟨#[118, 105, 115, 105, 98, 105, 108, 105, 116, 121]⟩ : ByteArray)] from rfl) (Reps.none _ _)))))))))))))))))); intro v102 w1 ho2 hb hg_ hnew_; clear hg_ hnew_; (first | rw [← Ny101.out] at ho2 | (simp only [Int.reduceToNat] at ho2; rw [← Ny101.out] at ho2)); have n0_ := Aside0.mk (Kd.R_lower ho2 (below_size (by repeat (first | (with_reducible first | exact HB.out | apply below_alloc | apply pw_below_drewN | apply below_drew1) | exact HB.out)))); have n1_ := Aside0.mk (below_step (by repeat (first | (with_reducible first | exact HB.out | apply below_alloc | apply pw_below_drewN | apply below_drew1) | exact HB.out)) hb); clear HB; have HO103 := n0_; have HB := n1_; clear n0_ n1_; clear hb ho2))
  go_ret
  exact ⟨_, by first | rfl | (simp [errW_none, errW_some] <;> rfl) | (simp [*, errW_none, errW_some] <;> rfl), by (with_reducible repeat (first | apply Kd.R_alloc | apply Kd.R_drewN | apply Kd.R_drew)); exact HO103.out, by repeat (first | (with_reducible first | exact HB.out | apply below_alloc | apply pw_below_drewN | apply below_drew1) | exact HB.out)⟩

/-! ### impl_properties: function 69 -/
def impl_properties.f  : Option ((List (S81))) := some (([(⟨(⟨#[99, 108, 105, 112, 45, 112, 97, 116, 104]⟩ : ByteArray), (⟨#[110, 111, 110, 101]⟩ : ByteArray), false⟩ : S81), (⟨(⟨#[99, 111, 108, 111, 114]⟩ : ByteArray), (⟨#[98, 108, 97, 99, 107]⟩ : ByteArray), true⟩ : S81), (⟨(⟨#[100, 105, 115, 112, 108, 97, 121]⟩ : ByteArray), (⟨#[105, 110, 108, 105, 110, 101]⟩ : ByteArray), false⟩ : S81), (⟨(⟨#[102, 105, 108, 108]⟩ : ByteArray), (⟨#[98, 108, 97, 99, 107]⟩ : ByteArray), true⟩ : S81), (⟨(⟨#[102, 105, 108, 108, 45, 111, 112, 97, 99, 105, 116, 121]⟩ : ByteArray), (⟨#[49]⟩ : ByteArray), true⟩ : S81), (⟨(⟨#[102, 105, 108, 108, 45, 114, 117, 108, 101]⟩ : ByteArray), (⟨#[110, 111, 110, 122, 101, 114, 111]⟩ : ByteArray), true⟩ : S81), (⟨(⟨#[111, 102, 102, 115, 101, 116]⟩ : ByteArray), (⟨#[48]⟩ : ByteArray), false⟩ : S81), (⟨(⟨#[111, 112, 97, 99, 105, 116, 121]⟩ : ByteArray), (⟨#[49]⟩ : ByteArray), false⟩ : S81), (⟨(⟨#[115, 116, 111, 112, 45, 99, 111, 108, 111, 114]⟩ : ByteArray), (⟨#[98, 108, 97, 99, 107]⟩ : ByteArray), false⟩ : S81), (⟨(⟨#[115, 116, 114, 111, 107, 101]⟩ : ByteArray), (⟨#[110, 111, 110, 101]⟩ : ByteArray), true⟩ : S81), (⟨(⟨#[115, 116, 114, 111, 107, 101, 45, 100, 97, 115, 104, 97, 114, 114, 97, 121]⟩ : ByteArray), (⟨#[110, 111, 110, 101]⟩ : ByteArray), true⟩ : S81), (⟨(⟨#[115, 116, 114, 111, 107, 101, 45, 108, 105, 110, 101, 99, 97, 112]⟩ : ByteArray), (⟨#[98, 117, 116, 116]⟩ : ByteArray), true⟩ : S81), (⟨(⟨#[115, 116, 114, 111, 107, 101, 45, 108, 105, 110, 101, 106, 111, 105, 110]⟩ : ByteArray), (⟨#[109, 105, 116, 101, 114]⟩ : ByteArray), true⟩ : S81), (⟨(⟨#[115, 116, 114, 111, 107, 101, 45, 111, 112, 97, 99, 105, 116, 121]⟩ : ByteArray), (⟨#[49]⟩ : ByteArray), true⟩ : S81), (⟨(⟨#[115, 116, 114, 111, 107, 101, 45, 119, 105, 100, 116, 104]⟩ : ByteArray), (⟨#[49]⟩ : ByteArray), true⟩ : S81), (⟨(⟨#[118, 105, 115, 105, 98, 105, 108, 105, 116, 121]⟩ : ByteArray), (⟨#[118, 105, 115, 105, 98, 108, 101]⟩ : ByteArray), true⟩ : S81)] : List (S81)))
set_option maxHeartbeats 8000000 in
set_option maxRecDepth 100000 in
theorem impl_properties.calls  (r : List (S81)) (w : World) (h : impl_properties.f  = some r) :
    Calls Try.prog 69 #[] w fun e w' => ∃ v0_ : Value, e = .returned (v0_) ∧ Kd.R k81 81 w' w.heap.size (fun _ => True) v0_ r ∧ Below w.heap.size w w' := by
  have hu81 := Try.underlying81
  have HB := Aside0.mk (Below.refl w.heap.size w)
  have H : (some (([(⟨(⟨#[99, 108, 105, 112, 45, 112, 97, 116, 104]⟩ : ByteArray), (⟨#[110, 111, 110, 101]⟩ : ByteArray), false⟩ : S81), (⟨(⟨#[99, 111, 108, 111, 114]⟩ : ByteArray), (⟨#[98, 108, 97, 99, 107]⟩ : ByteArray), true⟩ : S81), (⟨(⟨#[100, 105, 115, 112, 108, 97, 121]⟩ : ByteArray), (⟨#[105, 110, 108, 105, 110, 101]⟩ : ByteArray), false⟩ : S81), (⟨(⟨#[102, 105, 108, 108]⟩ : ByteArray), (⟨#[98, 108, 97, 99, 107]⟩ : ByteArray), true⟩ : S81), (⟨(⟨#[102, 105, 108, 108, 45, 111, 112, 97, 99, 105, 116, 121]⟩ : ByteArray), (⟨#[49]⟩ : ByteArray), true⟩ : S81), (⟨(⟨#[102, 105, 108, 108, 45, 114, 117, 108, 101]⟩ : ByteArray), (⟨#[110, 111, 110, 122, 101, 114, 111]⟩ : ByteArray), true⟩ : S81), (⟨(⟨#[111, 102, 102, 115, 101, 116]⟩ : ByteArray), (⟨#[48]⟩ : ByteArray), false⟩ : S81), (⟨(⟨#[111, 112, 97, 99, 105, 116, 121]⟩ : ByteArray), (⟨#[49]⟩ : ByteArray), false⟩ : S81), (⟨(⟨#[115, 116, 111, 112, 45, 99, 111, 108, 111, 114]⟩ : ByteArray), (⟨#[98, 108, 97, 99, 107]⟩ : ByteArray), false⟩ : S81), (⟨(⟨#[115, 116, 114, 111, 107, 101]⟩ : ByteArray), (⟨#[110, 111, 110, 101]⟩ : ByteArray), true⟩ : S81), (⟨(⟨#[115, 116, 114, 111, 107, 101, 45, 100, 97, 115, 104, 97, 114, 114, 97, 121]⟩ : ByteArray), (⟨#[110, 111, 110, 101]⟩ : ByteArray), true⟩ : S81), (⟨(⟨#[115, 116, 114, 111, 107, 101, 45, 108, 105, 110, 101, 99, 97, 112]⟩ : ByteArray), (⟨#[98, 117, 116, 116]⟩ : ByteArray), true⟩ : S81), (⟨(⟨#[115, 116, 114, 111, 107, 101, 45, 108, 105, 110, 101, 106, 111, 105, 110]⟩ : ByteArray), (⟨#[109, 105, 116, 101, 114]⟩ : ByteArray), true⟩ : S81), (⟨(⟨#[115, 116, 114, 111, 107, 101, 45, 111, 112, 97, 99, 105, 116, 121]⟩ : ByteArray), (⟨#[49]⟩ : ByteArray), true⟩ : S81), (⟨(⟨#[115, 116, 114, 111, 107, 101, 45, 119, 105, 100, 116, 104]⟩ : ByteArray), (⟨#[49]⟩ : ByteArray), true⟩ : S81), (⟨(⟨#[118, 105, 115, 105, 98, 105, 108, 105, 116, 121]⟩ : ByteArray), (⟨#[118, 105, 115, 105, 98, 108, 101]⟩ : ByteArray), true⟩ : S81)] : List (S81)))) = some r := h
  clear h
  obtain ⟨y104, hy104⟩ : ∃ y_ : List (S81), y_ = (([(⟨(⟨#[99, 108, 105, 112, 45, 112, 97, 116, 104]⟩ : ByteArray), (⟨#[110, 111, 110, 101]⟩ : ByteArray), false⟩ : S81), (⟨(⟨#[99, 111, 108, 111, 114]⟩ : ByteArray), (⟨#[98, 108, 97, 99, 107]⟩ : ByteArray), true⟩ : S81), (⟨(⟨#[100, 105, 115, 112, 108, 97, 121]⟩ : ByteArray), (⟨#[105, 110, 108, 105, 110, 101]⟩ : ByteArray), false⟩ : S81), (⟨(⟨#[102, 105, 108, 108]⟩ : ByteArray), (⟨#[98, 108, 97, 99, 107]⟩ : ByteArray), true⟩ : S81), (⟨(⟨#[102, 105, 108, 108, 45, 111, 112, 97, 99, 105, 116, 121]⟩ : ByteArray), (⟨#[49]⟩ : ByteArray), true⟩ : S81), (⟨(⟨#[102, 105, 108, 108, 45, 114, 117, 108, 101]⟩ : ByteArray), (⟨#[110, 111, 110, 122, 101, 114, 111]⟩ : ByteArray), true⟩ : S81), (⟨(⟨#[111, 102, 102, 115, 101, 116]⟩ : ByteArray), (⟨#[48]⟩ : ByteArray), false⟩ : S81), (⟨(⟨#[111, 112, 97, 99, 105, 116, 121]⟩ : ByteArray), (⟨#[49]⟩ : ByteArray), false⟩ : S81), (⟨(⟨#[115, 116, 111, 112, 45, 99, 111, 108, 111, 114]⟩ : ByteArray), (⟨#[98, 108, 97, 99, 107]⟩ : ByteArray), false⟩ : S81), (⟨(⟨#[115, 116, 114, 111, 107, 101]⟩ : ByteArray), (⟨#[110, 111, 110, 101]⟩ : ByteArray), true⟩ : S81), (⟨(⟨#[115, 116, 114, 111, 107, 101, 45, 100, 97, 115, 104, 97, 114, 114, 97, 121]⟩ : ByteArray), (⟨#[110, 111, 110, 101]⟩ : ByteArray), true⟩ : S81), (⟨(⟨#[115, 116, 114, 111, 107, 101, 45, 108, 105, 110, 101, 99, 97, 112]⟩ : ByteArray), (⟨#[98, 117, 116, 116]⟩ : ByteArray), true⟩ : S81), (⟨(⟨#[115, 116, 114, 111, 107, 101, 45, 108, 105, 110, 101, 106, 111, 105, 110]⟩ : ByteArray), (⟨#[109, 105, 116, 101, 114]⟩ : ByteArray), true⟩ : S81), (⟨(⟨#[115, 116, 114, 111, 107, 101, 45, 111, 112, 97, 99, 105, 116, 121]⟩ : ByteArray), (⟨#[49]⟩ : ByteArray), true⟩ : S81), (⟨(⟨#[115, 116, 114, 111, 107, 101, 45, 119, 105, 100, 116, 104]⟩ : ByteArray), (⟨#[49]⟩ : ByteArray), true⟩ : S81), (⟨(⟨#[118, 105, 115, 105, 98, 105, 108, 105, 116, 121]⟩ : ByteArray), (⟨#[118, 105, 115, 105, 98, 108, 101]⟩ : ByteArray), true⟩ : S81)] : List (S81))) := ⟨_, rfl⟩
  replace H : (some y104) = some r := by first | (rw [hy104]; with_reducible exact H) | (have H2_ := (Option.bind_some _ _).symm.trans H; rw [hy104]; with_reducible exact H2_) | (have H2_ := (Option.bind_some _ _).symm.trans H; with_reducible exact H2_) | with_reducible exact H | (rw [hy104]; exact H) | exact H
  have Ny104 := Aside0.mk hy104
  clear hy104
  obtain rfl := Option.some.inj H
  go_enter Try.func69, Try.ntmps69
  go_wp2_with (first | ((with_reducible refine gate_dst (N := 17) rfl ?_); refine Kd.R_lit k81 _ 81 ?hg (N := 17) ?hd (xs := ([(⟨(⟨#[99, 108, 105, 112, 45, 112, 97, 116, 104]⟩ : ByteArray), (⟨#[110, 111, 110, 101]⟩ : ByteArray), false⟩ : S81), (⟨(⟨#[99, 111, 108, 111, 114]⟩ : ByteArray), (⟨#[98, 108, 97, 99, 107]⟩ : ByteArray), true⟩ : S81), (⟨(⟨#[100, 105, 115, 112, 108, 97, 121]⟩ : ByteArray), (⟨#[105, 110, 108, 105, 110, 101]⟩ : ByteArray), false⟩ : S81), (⟨(⟨#[102, 105, 108, 108]⟩ : ByteArray), (⟨#[98, 108, 97, 99, 107]⟩ : ByteArray), true⟩ : S81), (⟨(⟨#[102, 105, 108, 108, 45, 111, 112, 97, 99, 105, 116, 121]⟩ : ByteArray), (⟨#[49]⟩ : ByteArray), true⟩ : S81), (⟨(⟨#[102, 105, 108, 108, 45, 114, 117, 108, 101]⟩ : ByteArray), (⟨#[110, 111, 110, 122, 101, 114, 111]⟩ : ByteArray), true⟩ : S81), (⟨(⟨#[111, 102, 102, 115, 101, 116]⟩ : ByteArray), (⟨#[48]⟩ : ByteArray), false⟩ : S81), (⟨(⟨#[111, 112, 97, 99, 105, 116, 121]⟩ : ByteArray), (⟨#[49]⟩ : ByteArray), false⟩ : S81), (⟨(⟨#[115, 116, 111, 112, 45, 99, 111, 108, 111, 114]⟩ : ByteArray), (⟨#[98, 108, 97, 99, 107]⟩ : ByteArray), false⟩ : S81), (⟨(⟨#[115, 116, 114, 111, 107, 101]⟩ : ByteArray), (⟨#[110, 111, 110, 101]⟩ : ByteArray), true⟩ : S81), (⟨(⟨#[115, 116, 114, 111, 107, 101, 45, 100, 97, 115, 104, 97, 114, 114, 97, 121]⟩ : ByteArray), (⟨#[110, 111, 110, 101]⟩ : ByteArray), true⟩ : S81), (⟨(⟨#[115, 116, 114, 111, 107, 101, 45, 108, 105, 110, 101, 99, 97, 112]⟩ : ByteArray), (⟨#[98, 117, 116, 116]⟩ : ByteArray), true⟩ : S81), (⟨(⟨#[115, 116, 114, 111, 107, 101, 45, 108, 105, 110, 101, 106, 111, 105, 110]⟩ : ByteArray), (⟨#[109, 105, 116, 101, 114]⟩ : ByteArray), true⟩ : S81), (⟨(⟨#[115, 116, 114, 111, 107, 101, 45, 111, 112, 97, 99, 105, 116, 121]⟩ : ByteArray), (⟨#[49]⟩ : ByteArray), true⟩ : S81), (⟨(⟨#[115, 116, 114, 111, 107, 101, 45, 119, 105, 100, 116, 104]⟩ : ByteArray), (⟨#[49]⟩ : ByteArray), true⟩ : S81), (⟨(⟨#[118, 105, 115, 105, 98, 105, 108, 105, 116, 121]⟩ : ByteArray), (⟨#[118, 105, 115, 105, 98, 108, 101]⟩ : ByteArray), true⟩ : S81)] : List (S81))) (inner := [.string (⟨#[99, 108, 105, 112, 45, 112, 97, 116, 104]⟩ : ByteArray), .string (⟨#[110, 111, 110, 101]⟩ : ByteArray), .bool false, .string (⟨#[99, 111, 108, 111, 114]⟩ : ByteArray), .string (⟨#[98, 108, 97, 99, 107]⟩ : ByteArray), .bool true, .string (⟨#[100, 105, 115, 112, 108, 97, 121]⟩ : ByteArray), .string (⟨#[105, 110, 108, 105, 110, 101]⟩ : ByteArray), .bool false, .string (⟨#[102, 105, 108, 108]⟩ : ByteArray), .string (⟨#[98, 108, 97, 99, 107]⟩ : ByteArray), .bool true, .string (⟨#[102, 105, 108, 108, 45, 111, 112, 97, 99, 105, 116, 121]⟩ : ByteArray), .string (⟨#[49]⟩ : ByteArray), .bool true, .string (⟨#[102, 105, 108, 108, 45, 114, 117, 108, 101]⟩ : ByteArray), .string (⟨#[110, 111, 110, 122, 101, 114, 111]⟩ : ByteArray), .bool true, .string (⟨#[111, 102, 102, 115, 101, 116]⟩ : ByteArray), .string (⟨#[48]⟩ : ByteArray), .bool false, .string (⟨#[111, 112, 97, 99, 105, 116, 121]⟩ : ByteArray), .string (⟨#[49]⟩ : ByteArray), .bool false, .string (⟨#[115, 116, 111, 112, 45, 99, 111, 108, 111, 114]⟩ : ByteArray), .string (⟨#[98, 108, 97, 99, 107]⟩ : ByteArray), .bool false, .string (⟨#[115, 116, 114, 111, 107, 101]⟩ : ByteArray), .string (⟨#[110, 111, 110, 101]⟩ : ByteArray), .bool true, .string (⟨#[115, 116, 114, 111, 107, 101, 45, 100, 97, 115, 104, 97, 114, 114, 97, 121]⟩ : ByteArray), .string (⟨#[110, 111, 110, 101]⟩ : ByteArray), .bool true, .string (⟨#[115, 116, 114, 111, 107, 101, 45, 108, 105, 110, 101, 99, 97, 112]⟩ : ByteArray), .string (⟨#[98, 117, 116, 116]⟩ : ByteArray), .bool true, .string (⟨#[115, 116, 114, 111, 107, 101, 45, 108, 105, 110, 101, 106, 111, 105, 110]⟩ : ByteArray), .string (⟨#[109, 105, 116, 101, 114]⟩ : ByteArray), .bool true, .string (⟨#[115, 116, 114, 111, 107, 101, 45, 111, 112, 97, 99, 105, 116, 121]⟩ : ByteArray), .string (⟨#[49]⟩ : ByteArray), .bool true, .string (⟨#[115, 116, 114, 111, 107, 101, 45, 119, 105, 100, 116, 104]⟩ : ByteArray), .string (⟨#[49]⟩ : ByteArray), .bool true, .string (⟨#[118, 105, 115, 105, 98, 105, 108, 105, 116, 121]⟩ : ByteArray), .string (⟨#[118, 105, 115, 105, 98, 108, 101]⟩ : ByteArray), .bool true]) (ok := fun _ => True) (okp := fun _ => True) ?hr ?hp (fun _ hk => hk) trivial (Below.refl _ _) (Nat.le_refl _) (by simp) ?_; (case hd => rfl); (case hg => rfl); (case hr => first | (go_simp; done) | (go_simp; rfl)); (case hp => exact (Reps.c3 (show Kd.M k81 _ _ _ (⟨(⟨#[99, 108, 105, 112, 45, 112, 97, 116, 104]⟩ : ByteArray), (⟨#[110, 111, 110, 101]⟩ : ByteArray), false⟩ : S81) [.string (⟨#[99, 108, 105, 112, 45, 112, 97, 116, 104]⟩ : ByteArray), .string (⟨#[110, 111, 110, 101]⟩ : ByteArray), .bool false] from (k81_mkM _ _ _ (⟨(⟨#[99, 108, 105, 112, 45, 112, 97, 116, 104]⟩ : ByteArray), (⟨#[110, 111, 110, 101]⟩ : ByteArray), false⟩ : S81) )) (Reps.c3 (show Kd.M k81 _ _ _ (⟨(⟨#[99, 111, 108, 111, 114]⟩ : ByteArray), (⟨#[98, 108, 97, 99, 107]⟩ : ByteArray), true⟩ : S81) [.string (⟨#[99, 111, 108, 111, 114]⟩ : ByteArray), .string (⟨#[98, 108, 97, 99, 107]⟩ : ByteArray), .bool true] from (k81_mkM _ _ _ (⟨(⟨#[99, 111, 108, 111, 114]⟩ : ByteArray), (⟨#[98, 108, 97, 99, 107]⟩ : ByteArray), true⟩ : S81) )) (Reps.c3 (show Kd.M k81 _ _ _ (⟨(⟨#[100, 105, 115, 112, 108, 97, 121]⟩ : ByteArray), (⟨#[105, 110, 108, 105, 110, 101]⟩ : ByteArray), false⟩ : S81) [.string (⟨#[100, 105, 115, 112, 108, 97, 121]⟩ : ByteArray), .string (⟨#[105, 110, 108, 105, 110, 101]⟩ : ByteArray), .bool false] from (k81_mkM _ _ _ (⟨(⟨#[100, 105, 115, 112, 108, 97, 121]⟩ : ByteArray), (⟨#[105, 110, 108, 105, 110, 101]⟩ : ByteArray), false⟩ : S81) )) (Reps.c3 (show Kd.M k81 _ _ _ (⟨(⟨#[102, 105, 108, 108]⟩ : ByteArray), (⟨#[98, 108, 97, 99, 107]⟩ : ByteArray), true⟩ : S81) [.string (⟨#[102, 105, 108, 108]⟩ : ByteArray), .string (⟨#[98, 108, 97, 99, 107]⟩ : ByteArray), .bool true] from (k81_mkM _ _ _ (⟨(⟨#[102, 105, 108, 108]⟩ : ByteArray), (⟨#[98, 108, 97, 99, 107]⟩ : ByteArray), true⟩ : S81) )) (Reps.c3 (show Kd.M k81 _ _ _ (⟨(⟨#[102, 105, 108, 108, 45, 111, 112, 97, 99, 105, 116, 121]⟩ : ByteArray), (⟨#[49]⟩ : ByteArray), true⟩ : S81) [.string (⟨#[102, 105, 108, 108, 45, 111, 112, 97, 99, 105, 116, 121]⟩ : ByteArray), .string (⟨#[49]⟩ : ByteArray), .bool true] from (k81_mkM _ _ _ (⟨(⟨#[102, 105, 108, 108, 45, 111, 112, 97, 99, 105, 116, 121]⟩ : ByteArray), (⟨#[49]⟩ : ByteArray), true⟩ : S81) )) (Reps.c3 (show Kd.M k81 _ _ _ (⟨(⟨#[102, 105, 108, 108, 45, 114, 117, 108, 101]⟩ : ByteArray), (⟨#[110, 111, 110, 122, 101, 114, 111]⟩ : ByteArray), true⟩ : S81) [.string (⟨#[102, 105, 108, 108, 45, 114, 117, 108, 101]⟩ : ByteArray), .string (⟨#[110, 111, 110, 122, 101, 114, 111]⟩ : ByteArray), .bool true] from (k81_mkM _ _ _ (⟨(⟨#[102, 105, 108, 108, 45, 114, 117, 108, 101]⟩ : ByteArray), (⟨#[110, 111, 110, 122, 101, 114, 111]⟩ : ByteArray), true⟩ : S81) )) (Reps.c3 (show Kd.M k81 _ _ _ (⟨(⟨#[111, 102, 102, 115, 101, 116]⟩ : ByteArray), (⟨#[48]⟩ : ByteArray), false⟩ : S81) [.string (⟨#[111, 102, 102, 115, 101, 116]⟩ : ByteArray), .string (⟨#[48]⟩ : ByteArray), .bool false] from (k81_mkM _ _ _ (⟨(⟨#[111, 102, 102, 115, 101, 116]⟩ : ByteArray), (⟨#[48]⟩ : ByteArray), false⟩ : S81) )) (Reps.c3 (show Kd.M k81 _ _ _ (⟨(⟨#[111, 112, 97, 99, 105, 116, 121]⟩ : ByteArray), (⟨#[49]⟩ : ByteArray), false⟩ : S81) [.string (⟨#[111, 112, 97, 99, 105, 116, 121]⟩ : ByteArray), .string (⟨#[49]⟩ : ByteArray), .bool false] from (k81_mkM _ _ _ (⟨(⟨#[111, 112, 97, 99, 105, 116, 121]⟩ : ByteArray), (⟨#[49]⟩ : ByteArray), false⟩ : S81) )) (Reps.c3 (show Kd.M k81 _ _ _ (⟨(⟨#[115, 116, 111, 112, 45, 99, 111, 108, 111, 114]⟩ : ByteArray), (⟨#[98, 108, 97, 99, 107]⟩ : ByteArray), false⟩ : S81) [.string (⟨#[115, 116, 111, 112, 45, 99, 111, 108, 111, 114]⟩ : ByteArray), .string (⟨#[98, 108, 97, 99, 107]⟩ : ByteArray), .bool false] from (k81_mkM _ _ _ (⟨(⟨#[115, 116, 111, 112, 45, 99, 111, 108, 111, 114]⟩ : ByteArray), (⟨#[98, 108, 97, 99, 107]⟩ : ByteArray), false⟩ : S81) )) (Reps.c3 (show Kd.M k81 _ _ _ (⟨(⟨#[115, 116, 114, 111, 107, 101]⟩ : ByteArray), (⟨#[110, 111, 110, 101]⟩ : ByteArray), true⟩ : S81) [.string (⟨#[115, 116, 114, 111, 107, 101]⟩ : ByteArray), .string (⟨#[110, 111, 110, 101]⟩ : ByteArray), .bool true] from (k81_mkM _ _ _ (⟨(⟨#[115, 116, 114, 111, 107, 101]⟩ : ByteArray), (⟨#[110, 111, 110, 101]⟩ : ByteArray), true⟩ : S81) )) (Reps.c3 (show Kd.M k81 _ _ _ (⟨(⟨#[115, 116, 114, 111, 107, 101, 45, 100, 97, 115, 104, 97, 114, 114, 97, 121]⟩ : ByteArray), (⟨#[110, 111, 110, 101]⟩ : ByteArray), true⟩ : S81) [.string (⟨#[115, 116, 114, 111, 107, 101, 45, 100, 97, 115, 104, 97, 114, 114, 97, 121]⟩ : ByteArray), .string (⟨#[110, 111, 110, 101]⟩ : ByteArray), .bool true] from (k81_mkM _ _ _ (⟨(⟨#[115, 116, 114, 111, 107, 101, 45, 100, 97, 115, 104, 97, 114, 114, 97, 121]⟩ : ByteArray), (⟨#[110, 111, 110, 101]⟩ : ByteArray), true⟩ : S81) )) (Reps.c3 (show Kd.M k81 _ _ _ (⟨(⟨#[115, 116, 114, 111, 107, 101, 45, 108, 105, 110, 101, 99, 97, 112]⟩ : ByteArray), (⟨#[98, 117, 116, 116]⟩ : ByteArray), true⟩ : S81) [.string (⟨#[115, 116, 114, 111, 107, 101, 45, 108, 105, 110, 101, 99, 97, 112]⟩ : ByteArray), .string (⟨#[98, 117, 116, 116]⟩ : ByteArray), .bool true] from (k81_mkM _ _ _ (⟨(⟨#[115, 116, 114, 111, 107, 101, 45, 108, 105, 110, 101, 99, 97, 112]⟩ : ByteArray), (⟨#[98, 117, 116, 116]⟩ : ByteArray), true⟩ : S81) )) (Reps.c3 (show Kd.M k81 _ _ _ (⟨(⟨#[115, 116, 114, 111, 107, 101, 45, 108, 105, 110, 101, 106, 111, 105, 110]⟩ : ByteArray), (⟨#[109, 105, 116, 101, 114]⟩ : ByteArray), true⟩ : S81) [.string (⟨#[115, 116, 114, 111, 107, 101, 45, 108, 105, 110, 101, 106, 111, 105, 110]⟩ : ByteArray), .string (⟨#[109, 105, 116, 101, 114]⟩ : ByteArray), .bool true] from (k81_mkM _ _ _ (⟨(⟨#[115, 116, 114, 111, 107, 101, 45, 108, 105, 110, 101, 106, 111, 105, 110]⟩ : ByteArray), (⟨#[109, 105, 116, 101, 114]⟩ : ByteArray), true⟩ : S81) )) (Reps.c3 (show Kd.M k81 _ _ _ (⟨(⟨#[115, 116, 114, 111, 107, 101, 45, 111, 112, 97, 99, 105, 116, 121]⟩ : ByteArray), (⟨#[49]⟩ : ByteArray), true⟩ : S81) [.string (⟨#[115, 116, 114, 111, 107, 101, 45, 111, 112, 97, 99, 105, 116, 121]⟩ : ByteArray), .string (⟨#[49]⟩ : ByteArray), .bool true] from (k81_mkM _ _ _ (⟨(⟨#[115, 116, 114, 111, 107, 101, 45, 111, 112, 97, 99, 105, 116, 121]⟩ : ByteArray), (⟨#[49]⟩ : ByteArray), true⟩ : S81) )) (Reps.c3 (show Kd.M k81 _ _ _ (⟨(⟨#[115, 116, 114, 111, 107, 101, 45, 119, 105, 100, 116, 104]⟩ : ByteArray), (⟨#[49]⟩ : ByteArray), true⟩ : S81) [.string (⟨#[115, 116, 114, 111, 107, 101, 45, 119, 105, 100, 116, 104]⟩ : ByteArray), .string (⟨#[49]⟩ : ByteArray), .bool true] from (k81_mkM _ _ _ (⟨(⟨#[115, 116, 114, 111, 107, 101, 45, 119, 105, 100, 116, 104]⟩ : ByteArray), (⟨#[49]⟩ : ByteArray), true⟩ : S81) )) (Reps.c3 (show Kd.M k81 _ _ _ (⟨(⟨#[118, 105, 115, 105, 98, 105, 108, 105, 116, 121]⟩ : ByteArray), (⟨#[118, 105, 115, 105, 98, 108, 101]⟩ : ByteArray), true⟩ : S81) [.string (⟨#[118, 105, 115, 105, 98, 105, 108, 105, 116, 121]⟩ : ByteArray), .string (⟨#[118, 105, 115, 105, 98, 108, 101]⟩ : ByteArray), .bool true] from (k81_mkM _ _ _ (⟨(⟨#[118, 105, 115, 105, 98, 105, 108, 105, 116, 121]⟩ : ByteArray), (⟨#[118, 105, 115, 105, 98, 108, 101]⟩ : ByteArray), true⟩ : S81) )) (Reps.none _ _)))))))))))))))))); intro v105 w1 ho2 hb hg_ hnew_; clear hg_ hnew_; (first | rw [← Ny104.out] at ho2 | (simp only [Int.reduceToNat] at ho2; rw [← Ny104.out] at ho2)); have n0_ := Aside0.mk (Kd.R_lower ho2 (below_size (by repeat (first | (with_reducible first | exact HB.out | apply below_alloc | apply pw_below_drewN | apply below_drew1) | exact HB.out)))); have n1_ := Aside0.mk (below_step (by repeat (first | (with_reducible first | exact HB.out | apply below_alloc | apply pw_below_drewN | apply below_drew1) | exact HB.out)) hb); clear HB; have HO106 := n0_; have HB := n1_; clear n0_ n1_; clear hb ho2))
  go_ret
  exact ⟨_, by first | rfl | (simp [errW_none, errW_some] <;> rfl) | (simp [*, errW_none, errW_some] <;> rfl), by (with_reducible repeat (first | apply Kd.R_alloc | apply Kd.R_drewN | apply Kd.R_drew)); exact HO106.out, by repeat (first | (with_reducible first | exact HB.out | apply below_alloc | apply pw_below_drewN | apply below_drew1) | exact HB.out)⟩

/-! ### impl_Properties: function 33 -/
def impl_Properties.l0 : Nat → List ByteArray → List (S81) → Int → Int → Option (List ByteArray)
  | 0, _, _, _, _ => none
  | k + 1, x1, x5, x6, x7 => if x7 < x6 then (if 0 ≤ x7 then (if x7 < (x5.length : Int) then (if x1.length < 8796093022208 then (impl_Properties.l0 k (x1 ++ [(rd_T81 x5 x7).f0]) x5 x6 (wrap64 (x7 + 1))) else (none)) else (none)) else (none)) else (some x1)
def impl_Properties.f (k : Nat)  : Option (List ByteArray) := (impl_properties.f).bind fun t110 => (impl_Properties.l0 k (([] : List ByteArray)) t110 (t110.length : Int) 0)
theorem impl_Properties.mono_l : ∀ k, (∀ y0 y1 y2 y3, LeO (impl_Properties.l0 k y0 y1 y2 y3) (impl_Properties.l0 (k + 1) y0 y1 y2 y3))
  | 0 => fun _ _ _ _ r h => by simp [impl_Properties.l0] at h
  | k + 1 => by
    have ih0 := impl_Properties.mono_l k
    · intro y0 y1 y2 y3
      unfold impl_Properties.l0
      repeat' first
      | (with_reducible exact ih0 _ _ _ _)
      | (with_reducible exact LeO.refl _)
      | (with_reducible exact LeO.none _)
      | (with_reducible refine LeO.ite ?_ ?_)
      | (with_reducible refine LeO.bind ?_ (fun _ => ?_))
      | exact ih0 _ _ _ _
      | exact LeO.none _
      | refine LeO.ite ?_ ?_
      | refine LeO.bind ?_ (fun _ => ?_)
theorem impl_Properties.mono : ∀ k, LeO (impl_Properties.f k ) (impl_Properties.f (k + 1) ) := by
  intro  k
  have ih0 := impl_Properties.mono_l k
  unfold impl_Properties.f
  repeat' first
      | (with_reducible exact ih0 _ _ _ _)
      | (with_reducible exact LeO.refl _)
      | (with_reducible exact LeO.none _)
      | (with_reducible refine LeO.ite ?_ ?_)
      | (with_reducible refine LeO.bind ?_ (fun _ => ?_))
      | exact ih0 _ _ _ _
      | exact LeO.none _
      | refine LeO.ite ?_ ?_
      | refine LeO.bind ?_ (fun _ => ?_)
set_option maxHeartbeats 8000000 in
set_option maxRecDepth 100000 in
theorem impl_Properties.calls (k : Nat)  (r : List ByteArray) (w : World) (h : impl_Properties.f k  = some r) :
    Calls Try.prog 33 #[] w fun e w' => ∃ v0_ : Value, e = .returned (v0_) ∧ Kd.R Kd.string 9 w' w.heap.size (fun _ => True) v0_ r ∧ Below w.heap.size w w' := by
  have hu81 := Try.underlying81
  have HB := Aside0.mk (Below.refl w.heap.size w)
  have H : ((impl_properties.f).bind fun t110 => (impl_Properties.l0 k (([] : List ByteArray)) t110 (t110.length : Int) 0)) = some r := h
  clear h
  obtain ⟨y107, hy107⟩ : ∃ y_ : List ByteArray, y_ = (([] : List ByteArray)) := ⟨_, rfl⟩
  replace H : ((impl_properties.f).bind fun t110 => (impl_Properties.l0 k y107 t110 (t110.length : Int) 0)) = some r := by first | (rw [hy107]; with_reducible exact H) | (have H2_ := (Option.bind_some _ _).symm.trans H; rw [hy107]; with_reducible exact H2_) | (have H2_ := (Option.bind_some _ _).symm.trans H; with_reducible exact H2_) | with_reducible exact H | (rw [hy107]; exact H) | exact H
  have Ny107 := Aside0.mk hy107
  clear hy107
  replace H := Option.bind_eq_some_iff.mp H
  obtain ⟨t110, A10, H⟩ := H
  replace H : (impl_Properties.l0 k y107 t110 (t110.length : Int) 0) = some r := H
  have A1 := Aside0.mk A10
  clear A10
  have H' := Aside0.mk H
  clear H
  go_enter Try.func33, Try.ntmps33
  go_wp2_with (first | ((with_reducible refine gate_dst (N := 4) rfl ?_); refine Kd.R_lit Kd.string _ 9 ?hg (N := 4) ?hd (xs := ([] : List ByteArray)) (inner := []) (ok := fun _ => True) (okp := fun _ => True) ?hr ?hp (fun _ hk => hk) trivial (Below.refl _ _) (Nat.le_refl _) (by simp) ?_; (case hd => rfl); (case hg => rfl); (case hr => first | (go_simp; done) | (go_simp; rfl)); (case hp => exact (Reps.none _ _)); intro v108 w2 ho3 hb hg_ hnew_; clear hg_ hnew_; (first | rw [← Ny107.out] at ho3 | (simp only [Int.reduceToNat] at ho3; rw [← Ny107.out] at ho3)); have n0_ := Aside0.mk (Kd.R_lower ho3 (below_size (by repeat (first | (with_reducible first | exact HB.out | apply below_alloc | apply pw_below_drewN | apply below_drew1) | exact HB.out)))); have n1_ := Aside0.mk (below_step (by repeat (first | (with_reducible first | exact HB.out | apply below_alloc | apply pw_below_drewN | apply below_drew1) | exact HB.out)) hb); clear HB; have HO109 := n0_; have HB := n1_; clear n0_ n1_; clear hb ho3) | ((with_reducible refine gate_callee (f := 69) rfl ?_); refine goesL_ (some 5) rfl rfl Try.func69 (by kernel_rfl) rfl #[] rfl (by (try simp only [List.map_toArray, List.map_cons, List.map_nil]); first | done | rfl | (simp only [List.length_drop, List.length_take]; rfl)) ?_; (with_reducible refine (impl_properties.calls  t110 _ A1.out).mono ?_); rintro e w4 ⟨v111, rfl, ho0, hb⟩; refine ⟨_, rfl, ?_⟩; have n0_ := Aside0.mk (Kd.R_below (by (with_reducible repeat (first | apply Kd.R_alloc | apply Kd.R_drewN | apply Kd.R_drew)); exact HO109.out) hb); have n1_ := Aside0.mk (Kd.R_lower ho0 (below_size (by repeat (first | (with_reducible first | exact HB.out | apply below_alloc | apply pw_below_drewN | apply below_drew1) | exact HB.out)))); have n2_ := Aside0.mk (below_step (by repeat (first | (with_reducible first | exact HB.out | apply below_alloc | apply pw_below_drewN | apply below_drew1) | exact HB.out)) hb); clear HO109; clear HB; have HO109 := n0_; have HO112 := n1_; have HB := n2_; clear n0_ n1_ n2_; (try clear hb); (try clear hb2); (try clear hk); (try clear hi); (try clear ho0); obtain ⟨Ao5, co5, eo5⟩ := Kd.R_slice HO112.out; subst eo5))
  go_loopg [1, 7] k (fun kq v1 v7 w' => ∃ (x1_1 : List ByteArray) (x7_1 : Int), v7 = .int .i64 x7_1 ∧ Aside0 (impl_Properties.l0 kq x1_1 t110 (t110.length : Int) x7_1 = some r) ∧ Aside0 (kq ≤ k) ∧ Aside0 (Kd.R Kd.string 9 w' w.heap.size (fun _ => True) v1 x1_1) ∧ Aside0 (Kd.R k81 81 w' w.heap.size (fun _ => True) (.slice Ao5 t110.length co5) t110) ∧ Aside0 (Below w.heap.size w w'))
  case atStart => exact ⟨(y107), (0), (by first | rfl | (simp; done) | (simp [*]; done)), H', ⟨Nat.le_refl _⟩, ⟨by (with_reducible repeat (first | apply Kd.R_alloc | apply Kd.R_drewN | apply Kd.R_drew)); exact HO109.out⟩, ⟨by (with_reducible repeat (first | apply Kd.R_alloc | apply Kd.R_drewN | apply Kd.R_drew)); exact HO112.out⟩, ⟨by repeat (first | (with_reducible first | exact HB.out | apply below_alloc | apply pw_below_drewN | apply below_drew1) | exact HB.out)⟩⟩
  case round =>
    clear H'
    try clear p2
    try clear c3
    obtain ⟨x1_1, x7_1, rfl, HA, HK1, HO_1, HO_5, HB⟩ := hrel
    cases gk with
    | zero => exact absurd HA.out (by simp [impl_Properties.l0])
    | succ k1 =>
      have H := HA.out
      clear HA
      simp only [impl_Properties.l0] at H
      by_cases c6 : x7_1 < (t110.length : Int)
      · rw [if_pos c6] at H
        have c6b0 : decide (x7_1 < (t110.length : Int)) = true := decide_eq_true c6
        clear c6
        by_cases c7 : 0 ≤ x7_1
        · rw [if_pos c7] at H
          have c7b0 : decide (0 ≤ x7_1) = true := decide_eq_true c7
          clear c7
          by_cases c8 : x7_1 < (t110.length : Int)
          · rw [if_pos c8] at H
            have c8b0 : decide (x7_1 < (t110.length : Int)) = true := decide_eq_true c8
            clear c8
            by_cases c9 : x1_1.length < 8796093022208
            · rw [if_pos c9] at H
              have LMc9 := Aside0.mk c9
              clear c9
              obtain ⟨y115, hy115⟩ : ∃ y_ : List ByteArray, y_ = (x1_1 ++ [(rd_T81 t110 x7_1).f0]) := ⟨_, rfl⟩
              replace H : (impl_Properties.l0 k1 y115 t110 (t110.length : Int) (wrap64 (x7_1 + 1))) = some r := by first | (rw [hy115]; with_reducible exact H) | (have H2_ := (Option.bind_some _ _).symm.trans H; rw [hy115]; with_reducible exact H2_) | (have H2_ := (Option.bind_some _ _).symm.trans H; with_reducible exact H2_) | with_reducible exact H | (rw [hy115]; exact H) | exact H
              have Ny115 := Aside0.mk hy115
              clear hy115
              have H' := Aside0.mk H
              clear H
              have p113 : 0 ≤ (x7_1 : Int) := of_decide_eq_true (by first | (with_reducible assumption) | assumption)
              have q113 : x7_1 < (t110.length : Int) := of_decide_eq_true (by first | (with_reducible assumption) | assumption)
              obtain ⟨ad113, e113, hx113_0, hx113_1, hx113_2⟩ := at_T81 (Kd.R_reads' HO_5.out).2.2 x7_1 p113 q113
              cases e113
              replace p113 := eq_true p113
              replace q113 := eq_true q113
              go_wp2_with (first | ((with_reducible refine gate_dst (N := 3) rfl ?_); refine box_event ?hg (N := 3) ?hd (cs := #[.string (⟨#[]⟩ : ByteArray), .string (⟨#[]⟩ : ByteArray), .bool false]) (t := 81) ?hr ?_; (case hd => rfl); (case hg => rfl); (case hr => first | (go_simp; done) | (go_simp; rfl)); intro gb114 hg w10 hbox hb; have n0_ := Aside0.mk (Kd.R_below (by (with_reducible repeat (first | apply Kd.R_alloc | apply Kd.R_drewN | apply Kd.R_drew)); exact HO_1.out) hb); have n1_ := Aside0.mk (Kd.R_below (Kd.R_elderB (by (with_reducible repeat (first | apply Kd.R_alloc | apply Kd.R_drewN | apply Kd.R_drew)); exact HO_5.out) gb114 (Nat.le_of_eq hg.symm)) hb); have n2_ := Aside0.mk (below_step (by repeat (first | (with_reducible first | exact HB.out | apply below_alloc | apply pw_below_drewN | apply below_drew1) | exact HB.out)) hb); have n3_ := Aside0.mk (hbox); have n4_ := Aside0.mk ((by rw [hg]; exact (below_size (by repeat (first | (with_reducible first | exact HB.out | apply below_alloc | apply pw_below_drewN | apply below_drew1) | exact HB.out))) : w.heap.size ≤ gb114)); have n5_ := Aside0.mk ((by rw [hg]; exact (below_size (by repeat (first | (with_reducible first | exact HB.out | apply below_alloc | apply pw_below_drewN | apply below_drew1) | exact HB.out))) : w.heap.size ≤ gb114)); clear HO_1; clear HO_5; clear HB; have HO_1 := n0_; have HO_5 := n1_; have HB := n2_; have BK114 := n3_; have GW114 := n4_; have GE114 := n5_; clear n0_ n1_ n2_ n3_ n4_ n5_; clear hb hbox hg; have hcz11_0 : w10.cell? ⟨gb114, 0, none⟩ = some (.string (⟨#[]⟩ : ByteArray)) := (blk_cell BK114.out 0).trans rfl; have hcz11_1 : w10.cell? ⟨gb114, 1, none⟩ = some (.string (⟨#[]⟩ : ByteArray)) := (blk_cell BK114.out 1).trans rfl; have hcz11_2 : w10.cell? ⟨gb114, 2, none⟩ = some (.bool false) := (blk_cell BK114.out 2).trans rfl; have hfz11_0 := blk_frozen BK114.out 0; have hfz11_1 := blk_frozen BK114.out 1; have hfz11_2 := blk_frozen BK114.out 2) | ((with_reducible refine gate_builtin (b := .append) (xs := #[.tmp 11, .tmp 14]) rfl ?_); at_builtin; refine Kd.R_append Kd.string (w0 := w) w.heap.size rfl (.tmp 11) (.tmp 14) 43 9 (.string ⟨#[]⟩) 16 rfl Try.underlying43 info9 rfl (by decide) (by omega) u1 x1_1 ((rd_T81 t110 x7_1).f0) [.string ((rd_T81 t110 x7_1).f0)] (fun _ => True) (fun _ => False) rfl (by first | (go_simp; done) | (go_simp; rfl)) ?aP (fun _ hk => hk.elim) ?aF ?aO ?aB ?aS ?aL ?_; (case aP => exact rfl); (case aB => exact (by repeat (first | (with_reducible first | exact HB.out | apply below_alloc | apply pw_below_drewN | apply below_drew1 | refine below_set ?_ GE114.out) | exact HB.out))); (case aF => exact (fun _ _ => trivial)); (case aO => exact (by (with_reducible repeat (first | apply Kd.R_alloc | apply Kd.R_drewN | apply Kd.R_drew)); exact Kd.R_mono (Kd.R_far (p := ⟨gb114, 2, none⟩) (Kd.R_far (p := ⟨gb114, 1, none⟩) (Kd.R_far (p := ⟨gb114, 0, none⟩) (Kd.R_types HO_1.out BK114.out (by decide)) (fun _ hk => hk.2) (.string ((rd_T81 t110 x7_1).f0))) (fun _ hk => hk.2) (.string ((rd_T81 t110 x7_1).f1))) (fun _ hk => hk.2) (.bool ((rd_T81 t110 x7_1).f2))) (fun _ hk => trivial))); (case aS => exact (below_size (by repeat (first | (with_reducible first | exact HB.out | apply below_alloc | apply pw_below_drewN | apply below_drew1 | refine below_set ?_ GE114.out) | exact HB.out)))); (case aL => have := LMc9.out; omega); intro v116 w12 ho hb hg hat; rw [← Ny115.out] at ho; have n0_ := Aside0.mk (Kd.R_over' (by (with_reducible repeat (first | apply Kd.R_alloc | apply Kd.R_drewN | apply Kd.R_drew)); exact (Kd.R_mono (Kd.R_far (p := ⟨gb114, 2, none⟩) (Kd.R_far (p := ⟨gb114, 1, none⟩) (Kd.R_far (p := ⟨gb114, 0, none⟩) (Kd.R_mono HO_5.out (fun k_ hk => (⟨hk, hk.2⟩ : _ ∧ k_ ≠ gb114))) (fun _ hk => hk.2) (.string ((rd_T81 t110 x7_1).f0))) (fun _ hk => hk.2) (.string ((rd_T81 t110 x7_1).f1))) (fun _ hk => hk.2) (.bool ((rd_T81 t110 x7_1).f2))) (fun _ h_ => h_.1))) (Kd.R_typed (by (with_reducible repeat (first | apply Kd.R_alloc | apply Kd.R_drewN | apply Kd.R_drew)); exact (Kd.R_mono (Kd.R_far (p := ⟨gb114, 2, none⟩) (Kd.R_far (p := ⟨gb114, 1, none⟩) (Kd.R_far (p := ⟨gb114, 0, none⟩) (Kd.R_types HO_1.out BK114.out (by decide)) (fun _ hk => hk.2) (.string ((rd_T81 t110 x7_1).f0))) (fun _ hk => hk.2) (.string ((rd_T81 t110 x7_1).f1))) (fun _ hk => hk.2) (.bool ((rd_T81 t110 x7_1).f2))) (fun _ h_ => h_.1)))) (by decide) hg); have n1_ := Aside0.mk (blk_grown (g := gb114) (o := .cells #[.string ((rd_T81 t110 x7_1).f0), .string ((rd_T81 t110 x7_1).f1), .bool ((rd_T81 t110 x7_1).f2)] 81 (0, 0)) (by (with_reducible repeat (first | refine blk_drewN ?_ _ | refine blk_drew ?_ | refine blk_alloc ?_ _)); refine blk_put (cs := #[.string ((rd_T81 t110 x7_1).f0), .string ((rd_T81 t110 x7_1).f1), .bool false]) ?_ 2 _ rfl; (with_reducible repeat (first | refine blk_drewN ?_ _ | refine blk_drew ?_ | refine blk_alloc ?_ _)); refine blk_put (cs := #[.string ((rd_T81 t110 x7_1).f0), .string (⟨#[]⟩ : ByteArray), .bool false]) ?_ 1 _ rfl; (with_reducible repeat (first | refine blk_drewN ?_ _ | refine blk_drew ?_ | refine blk_alloc ?_ _)); refine blk_put (cs := #[.string (⟨#[]⟩ : ByteArray), .string (⟨#[]⟩ : ByteArray), .bool false]) ?_ 0 _ rfl; (with_reducible repeat (first | refine blk_drewN ?_ _ | refine blk_drew ?_ | refine blk_alloc ?_ _)); exact BK114.out) hg (Kd.R_ne HO_1.out BK114.out (by decide))); have n2_ := Aside0.mk (hb); have n3_ := Aside0.mk (ho); clear HO_5; clear BK114; clear HB; clear HO_1; have HO_5 := n0_; have BK114 := n1_; have HB := n2_; have HO117 := n3_; clear n0_ n1_ n2_ n3_; clear ho hb hg hat))
              go_roundg k1
              case measure => have := HK1.out; omega
              case rel => exact ⟨(y115), (wrap64 (x7_1 + 1)), (by first | rfl | (simp; done) | (simp [*]; done)), H', ⟨by have := HK1.out; omega⟩, ⟨by (with_reducible repeat (first | apply Kd.R_alloc | apply Kd.R_drewN | apply Kd.R_drew)); exact HO117.out⟩, ⟨by (with_reducible repeat (first | apply Kd.R_alloc | apply Kd.R_drewN | apply Kd.R_drew)); exact Kd.R_mono HO_5.out (fun _ hk => trivial)⟩, ⟨by repeat (first | (with_reducible first | exact HB.out | apply below_alloc | apply pw_below_drewN | apply below_drew1 | refine below_set ?_ GE114.out) | exact HB.out)⟩⟩
            · rw [if_neg c9] at H
              exact absurd H (by simp)
          · rw [if_neg c8] at H
            exact absurd H (by simp)
        · rw [if_neg c7] at H
          exact absurd H (by simp)
      · rw [if_neg c6] at H
        have c6b0 : decide (x7_1 < (t110.length : Int)) = false := decide_eq_false c6
        clear c6
        obtain rfl := Option.some.inj H
        go_wp2
        go_ret
        exact ⟨_, by first | rfl | (simp [errW_none, errW_some] <;> rfl) | (simp [*, errW_none, errW_some] <;> rfl), by (with_reducible repeat (first | apply Kd.R_alloc | apply Kd.R_drewN | apply Kd.R_drew)); exact HO_1.out, by repeat (first | (with_reducible first | exact HB.out | apply below_alloc | apply pw_below_drewN | apply below_drew1) | exact HB.out)⟩

/-! ### laws_eqStringS: function 34 -/
def laws_eqStringS.l0 : Nat → List ByteArray → List ByteArray → Int → Option (Bool)
  | 0, _, _, _ => none
  | k + 1, x0, x1, x5 => if x5 < (x0.length : Int) then (if 0 ≤ x5 then (if x5 < (x1.length : Int) then (if (rdOf ByteArray.empty x0 x5).toList = (rdOf ByteArray.empty x1 x5).toList then (laws_eqStringS.l0 k x0 x1 (wrap64 (x5 + 1))) else (some false)) else (none)) else (none)) else (some true)
def laws_eqStringS.f (k : Nat) (l0 : List ByteArray) (l1 : List ByteArray) : Option (Bool) := if (l0.length : Int) = (l1.length : Int) then (laws_eqStringS.l0 k l0 l1 0) else (some false)
theorem laws_eqStringS.mono_l : ∀ k, (∀ y0 y1 y2, LeO (laws_eqStringS.l0 k y0 y1 y2) (laws_eqStringS.l0 (k + 1) y0 y1 y2))
  | 0 => fun _ _ _ r h => by simp [laws_eqStringS.l0] at h
  | k + 1 => by
    have ih0 := laws_eqStringS.mono_l k
    · intro y0 y1 y2
      unfold laws_eqStringS.l0
      repeat' first
      | (with_reducible exact ih0 _ _ _)
      | (with_reducible exact LeO.refl _)
      | (with_reducible exact LeO.none _)
      | (with_reducible refine LeO.ite ?_ ?_)
      | (with_reducible refine LeO.bind ?_ (fun _ => ?_))
      | exact ih0 _ _ _
      | exact LeO.none _
      | refine LeO.ite ?_ ?_
      | refine LeO.bind ?_ (fun _ => ?_)
theorem laws_eqStringS.mono : ∀ a0 a1 k, LeO (laws_eqStringS.f k a0 a1) (laws_eqStringS.f (k + 1) a0 a1) := by
  intro a0 a1 k
  have ih0 := laws_eqStringS.mono_l k
  unfold laws_eqStringS.f
  repeat' first
      | (with_reducible exact ih0 _ _ _)
      | (with_reducible exact LeO.refl _)
      | (with_reducible exact LeO.none _)
      | (with_reducible refine LeO.ite ?_ ?_)
      | (with_reducible refine LeO.bind ?_ (fun _ => ?_))
      | exact ih0 _ _ _
      | exact LeO.none _
      | refine LeO.ite ?_ ?_
      | refine LeO.bind ?_ (fun _ => ?_)
set_option maxHeartbeats 8000000 in
set_option maxRecDepth 100000 in
theorem laws_eqStringS.calls (k : Nat) (A0 : Option Addr) (c0 : Nat) (l0 : List ByteArray) (A1 : Option Addr) (c1 : Nat) (l1 : List ByteArray) (r : Bool) (w : World) (hr0 : Kd.C Kd.string w A0 l0.length l0) (hc0 : l0.length ≤ c0) (hr1 : Kd.C Kd.string w A1 l1.length l1) (hc1 : l1.length ≤ c1) (h : laws_eqStringS.f k l0 l1 = some r) :
    Calls Try.prog 34 #[.slice A0 l0.length c0, .slice A1 l1.length c1] w fun e w' => e = .returned (.bool r) ∧ Drawn0 w w' := by
  have HR0 := Aside0.mk hr0
  have HC0 := Aside0.mk hc0
  clear hr0 hc0
  have HR1 := Aside0.mk hr1
  have HC1 := Aside0.mk hc1
  clear hr1 hc1
  have H : (if (l0.length : Int) = (l1.length : Int) then (laws_eqStringS.l0 k l0 l1 0) else (some false)) = some r := h
  clear h
  by_cases c3 : (l0.length : Int) = (l1.length : Int)
  · rw [if_pos c3] at H
    have c3b0 : ((l0.length : Int) == (l1.length : Int)) = true := beq_iff_eq.mpr c3
    have c3b1 : ((l0.length : Int) != (l1.length : Int)) = false := bne_eq_false_iff_eq.mpr c3
    have c3b2 : (l0.length == l1.length) = true := by first | simpa using c3 | (simp at c3 ⊢; omega)
    clear c3
    have H' := Aside0.mk H
    clear H
    go_enter Try.func34, Try.ntmps34
    go_wp2
    repeat (go_quiet (fail); try go_wp2)
    go_loopg [5] k (fun kq v5 w' => ∃ (x5_1 : Int), v5 = .int .i64 x5_1 ∧ Aside0 (laws_eqStringS.l0 kq l0 l1 x5_1 = some r) ∧ Aside0 (kq ≤ k) ∧ Drawn0 w w')
    case atStart => exact ⟨(0), (by first | rfl | (simp; done) | (simp [*]; done)), H', ⟨Nat.le_refl _⟩, by repeat (first | exact Drawn0.refl _ | apply Drawn0.step)⟩
    case round =>
      clear H'
      try clear c1
      try clear p2
      try clear c3
      try clear c3b0
      try clear c3b1
      try clear c3b2
      obtain ⟨x5_1, rfl, HA, HK1, ⟨m1, rfl⟩⟩ := hrel
      cases gk with
      | zero => exact absurd HA.out (by simp [laws_eqStringS.l0])
      | succ k1 =>
        have H := HA.out
        clear HA
        simp only [laws_eqStringS.l0] at H
        by_cases c4 : x5_1 < (l0.length : Int)
        · rw [if_pos c4] at H
          have c4b0 : decide (x5_1 < (l0.length : Int)) = true := decide_eq_true c4
          clear c4
          by_cases c5 : 0 ≤ x5_1
          · rw [if_pos c5] at H
            have c5b0 : decide (0 ≤ x5_1) = true := decide_eq_true c5
            clear c5
            by_cases c6 : x5_1 < (l1.length : Int)
            · rw [if_pos c6] at H
              have c6b0 : decide (x5_1 < (l1.length : Int)) = true := decide_eq_true c6
              clear c6
              by_cases c7 : (rdOf ByteArray.empty l0 x5_1).toList = (rdOf ByteArray.empty l1 x5_1).toList
              · rw [if_pos c7] at H
                have c7b0 : ((rdOf ByteArray.empty l0 x5_1).toList == (rdOf ByteArray.empty l1 x5_1).toList) = true := beq_iff_eq.mpr c7
                have c7b1 : ((rdOf ByteArray.empty l0 x5_1).toList != (rdOf ByteArray.empty l1 x5_1).toList) = false := bne_eq_false_iff_eq.mpr c7
                clear c7
                have H' := Aside0.mk H
                clear H
                have p118 : 0 ≤ (x5_1 : Int) := of_decide_eq_true (by first | (with_reducible assumption) | assumption)
                have q118 : x5_1 < (l0.length : Int) := of_decide_eq_true (by first | (with_reducible assumption) | assumption)
                obtain ⟨ad118, e118, hx118_0⟩ := Kd.at_string HR0.out x5_1 p118 q118
                cases e118
                replace p118 := eq_true p118
                replace q118 := eq_true q118
                have p119 : 0 ≤ (x5_1 : Int) := of_decide_eq_true (by first | (with_reducible assumption) | assumption)
                have q119 : x5_1 < (l1.length : Int) := of_decide_eq_true (by first | (with_reducible assumption) | assumption)
                obtain ⟨ad119, e119, hx119_0⟩ := Kd.at_string HR1.out x5_1 p119 q119
                cases e119
                replace p119 := eq_true p119
                replace q119 := eq_true q119
                go_wp2
                repeat (go_quiet (fail); try go_wp2)
                go_roundg k1
                case measure => have := HK1.out; omega
                case rel => exact ⟨(wrap64 (x5_1 + 1)), (by first | rfl | (simp; done) | (simp [*]; done)), H', ⟨by have := HK1.out; omega⟩, by repeat (first | exact Drawn0.refl _ | apply Drawn0.step)⟩
              · rw [if_neg c7] at H
                have c7b0 : ((rdOf ByteArray.empty l0 x5_1).toList == (rdOf ByteArray.empty l1 x5_1).toList) = false := beq_eq_false_iff_ne.mpr c7
                have c7b1 : ((rdOf ByteArray.empty l0 x5_1).toList != (rdOf ByteArray.empty l1 x5_1).toList) = true := bne_iff_ne.mpr c7
                obtain rfl := Option.some.inj H
                have p118 : 0 ≤ (x5_1 : Int) := of_decide_eq_true (by first | (with_reducible assumption) | assumption)
                have q118 : x5_1 < (l0.length : Int) := of_decide_eq_true (by first | (with_reducible assumption) | assumption)
                obtain ⟨ad118, e118, hx118_0⟩ := Kd.at_string HR0.out x5_1 p118 q118
                cases e118
                replace p118 := eq_true p118
                replace q118 := eq_true q118
                have p119 : 0 ≤ (x5_1 : Int) := of_decide_eq_true (by first | (with_reducible assumption) | assumption)
                have q119 : x5_1 < (l1.length : Int) := of_decide_eq_true (by first | (with_reducible assumption) | assumption)
                obtain ⟨ad119, e119, hx119_0⟩ := Kd.at_string HR1.out x5_1 p119 q119
                cases e119
                replace p119 := eq_true p119
                replace q119 := eq_true q119
                go_wp2
                repeat (go_quiet (fail); try go_wp2)
                go_ret
                exact ⟨by first | rfl | (simp; done) | (simp [*]; done), by repeat (first | exact Drawn0.refl _ | apply Drawn0.step)⟩
            · rw [if_neg c6] at H
              exact absurd H (by simp)
          · rw [if_neg c5] at H
            exact absurd H (by simp)
        · rw [if_neg c4] at H
          have c4b0 : decide (x5_1 < (l0.length : Int)) = false := decide_eq_false c4
          clear c4
          obtain rfl := Option.some.inj H
          go_wp2
          repeat (go_quiet (fail); try go_wp2)
          go_ret
          exact ⟨by first | rfl | (simp; done) | (simp [*]; done), by repeat (first | exact Drawn0.refl _ | apply Drawn0.step)⟩
  · rw [if_neg c3] at H
    have c3b0 : ((l0.length : Int) == (l1.length : Int)) = false := beq_eq_false_iff_ne.mpr c3
    have c3b1 : ((l0.length : Int) != (l1.length : Int)) = true := bne_iff_ne.mpr c3
    have c3b2 : (l0.length == l1.length) = false := by first | simpa using c3 | (simp at c3 ⊢; omega)
    obtain rfl := Option.some.inj H
    go_enter Try.func34, Try.ntmps34
    go_wp2
    repeat (go_quiet (fail); try go_wp2)
    go_ret
    exact ⟨by first | rfl | (simp; done) | (simp [*]; done), by repeat (first | exact Drawn0.refl _ | apply Drawn0.step)⟩

/-! ### laws_markText: function 70 -/
def laws_markText.l0 : Nat → Int → ByteArray → Option (ByteArray)
  | 0, _, _ => none
  | k + 1, x0, x3 => if x0 > 0 then ((some (([(wrap64 (48 + (Int.tmod x0 10))) % 256] : List Int) : List Int)).bind fun y120 => (if (strOfNums y120).size + x3.size ≤ 9223372036854775807 then (laws_markText.l0 k (wrap64 (Int.tdiv x0 10)) ((strOfNums y120) ++ x3)) else (none))) else (if 1 + x3.size ≤ 9223372036854775807 then (some ((⟨#[109]⟩ : ByteArray) ++ x3)) else (none))
def laws_markText.f (k : Nat) (a0 : Int) : Option (ByteArray) := if a0 ≤ 0 then (some (⟨#[109, 48]⟩ : ByteArray)) else (laws_markText.l0 k a0 (⟨#[]⟩ : ByteArray))
theorem laws_markText.mono_l : ∀ k, (∀ y0 y1, LeO (laws_markText.l0 k y0 y1) (laws_markText.l0 (k + 1) y0 y1))
  | 0 => fun _ _ r h => by simp [laws_markText.l0] at h
  | k + 1 => by
    have ih0 := laws_markText.mono_l k
    · intro y0 y1
      unfold laws_markText.l0
      repeat' first
      | (with_reducible exact ih0 _ _)
      | (with_reducible exact LeO.refl _)
      | (with_reducible exact LeO.none _)
      | (with_reducible refine LeO.ite ?_ ?_)
      | (with_reducible refine LeO.bind ?_ (fun _ => ?_))
      | exact ih0 _ _
      | exact LeO.none _
      | refine LeO.ite ?_ ?_
      | refine LeO.bind ?_ (fun _ => ?_)
theorem laws_markText.mono : ∀ a0 k, LeO (laws_markText.f k a0) (laws_markText.f (k + 1) a0) := by
  intro a0 k
  have ih0 := laws_markText.mono_l k
  unfold laws_markText.f
  repeat' first
      | (with_reducible exact ih0 _ _)
      | (with_reducible exact LeO.refl _)
      | (with_reducible exact LeO.none _)
      | (with_reducible refine LeO.ite ?_ ?_)
      | (with_reducible refine LeO.bind ?_ (fun _ => ?_))
      | exact ih0 _ _
      | exact LeO.none _
      | refine LeO.ite ?_ ?_
      | refine LeO.bind ?_ (fun _ => ?_)
set_option maxHeartbeats 8000000 in
set_option maxRecDepth 100000 in
theorem laws_markText.calls (k : Nat) (a0 : Int) (r : ByteArray) (w : World) (h : laws_markText.f k a0 = some r) :
    Calls Try.prog 70 #[.int .i64 a0] w fun e w' => e = .returned (.string r) ∧ Below w.heap.size w w' := by
  have HB := Aside0.mk (Below.refl w.heap.size w)
  have H : (if a0 ≤ 0 then (some (⟨#[109, 48]⟩ : ByteArray)) else (laws_markText.l0 k a0 (⟨#[]⟩ : ByteArray))) = some r := h
  clear h
  by_cases c2 : a0 ≤ 0
  · rw [if_pos c2] at H
    have c2b0 : decide (a0 ≤ 0) = true := decide_eq_true c2
    clear c2
    obtain rfl := Option.some.inj H
    go_enter Try.func70, Try.ntmps70
    go_wp2
    go_ret
    exact ⟨by first | rfl | (simp [errW_none, errW_some] <;> rfl) | (simp [*, errW_none, errW_some] <;> rfl), by repeat (first | (with_reducible first | exact HB.out | apply below_alloc | apply pw_below_drewN | apply below_drew1) | exact HB.out)⟩
  · rw [if_neg c2] at H
    have c2b0 : decide (a0 ≤ 0) = false := decide_eq_false c2
    clear c2
    have H' := Aside0.mk H
    clear H
    go_enter Try.func70, Try.ntmps70
    go_wp2
    go_loopg [0, 3] k (fun kq v0 v3 w' => ∃ (x0_1 : Int) (x3_1 : ByteArray), v0 = .int .i64 x0_1 ∧ v3 = .string x3_1 ∧ Aside0 (laws_markText.l0 kq x0_1 x3_1 = some r) ∧ Aside0 (kq ≤ k) ∧ Aside0 (Below w.heap.size w w'))
    case atStart => exact ⟨(a0), ((⟨#[]⟩ : ByteArray)), (by first | rfl | (simp; done) | (simp [*]; done)), (by first | rfl | (simp; done) | (simp [*]; done)), H', ⟨Nat.le_refl _⟩, ⟨by repeat (first | (with_reducible first | exact HB.out | apply below_alloc | apply pw_below_drewN | apply below_drew1) | exact HB.out)⟩⟩
    case round =>
      clear H'
      try clear c2
      try clear c2b0
      try clear p2
      obtain ⟨x0_1, x3_1, rfl, rfl, HA, HK1, HB⟩ := hrel
      cases gk with
      | zero => exact absurd HA.out (by simp [laws_markText.l0])
      | succ k1 =>
        have H := HA.out
        clear HA
        simp only [laws_markText.l0] at H
        by_cases c3 : x0_1 > 0
        · rw [if_pos c3] at H
          have c3b0 : decide (0 < x0_1) = true := decide_eq_true c3
          clear c3
          obtain ⟨y120, hy120⟩ : ∃ y_ : List Int, y_ = (([(wrap64 (48 + (Int.tmod x0_1 10))) % 256] : List Int)) := ⟨_, rfl⟩
          replace H : (if (strOfNums y120).size + x3_1.size ≤ 9223372036854775807 then (laws_markText.l0 k1 (wrap64 (Int.tdiv x0_1 10)) ((strOfNums y120) ++ x3_1)) else (none)) = some r := by first | (rw [hy120]; with_reducible exact H) | (have H2_ := (Option.bind_some _ _).symm.trans H; rw [hy120]; with_reducible exact H2_) | (have H2_ := (Option.bind_some _ _).symm.trans H; with_reducible exact H2_) | with_reducible exact H | (rw [hy120]; exact H) | exact H
          have Ny120 := Aside0.mk hy120
          clear hy120
          by_cases c4 : (strOfNums y120).size + x3_1.size ≤ 9223372036854775807
          · rw [if_pos c4] at H
            have c4b0 := eq_true c4
            have c4b1 : decide ((strOfNums y120).size + x3_1.size ≤ 9223372036854775807) = true := decide_eq_true c4
            try have c4b2 : (9223372036854775807 < (strOfNums y120).size + x3_1.size) = False := eq_false (Nat.not_lt.2 c4)
            have H' := Aside0.mk H
            clear H
            go_wp2_with (first | ((with_reducible refine gate_dst (N := 12) rfl ?_); refine Kd.R_lit (Kd.int .u8) _ 5 ?hg (N := 12) ?hd (xs := ([(wrap64 (48 + (Int.tmod x0_1 10))) % 256] : List Int)) (inner := [.int .u8 ((wrap64 (48 + (Int.tmod x0_1 10))) % 256)]) (ok := fun _ => True) (okp := fun _ => True) ?hr ?hp (fun _ hk => hk) trivial (Below.refl _ _) (Nat.le_refl _) (by simp) ?_; (case hd => rfl); (case hg => rfl); (case hr => first | (go_simp; done) | (go_simp; rfl)); (case hp => exact (Reps.one (show Kd.M (Kd.int .u8) _ _ _ ((wrap64 (48 + (Int.tmod x0_1 10))) % 256) [.int .u8 ((wrap64 (48 + (Int.tmod x0_1 10))) % 256)] from rfl) (Reps.none _ _))); intro v121 w5 ho6 hb hg_ hnew_; clear hg_ hnew_; (first | rw [← Ny120.out] at ho6 | (simp only [Int.reduceToNat] at ho6; rw [← Ny120.out] at ho6)); have n0_ := Aside0.mk (Kd.R_lower ho6 (below_size (by repeat (first | (with_reducible first | exact HB.out | apply below_alloc | apply pw_below_drewN | apply below_drew1) | exact HB.out)))); have n1_ := Aside0.mk (below_step (by repeat (first | (with_reducible first | exact HB.out | apply below_alloc | apply pw_below_drewN | apply below_drew1) | exact HB.out)) hb); clear HB; have HO122 := n0_; have HB := n1_; clear n0_ n1_; clear hb ho6; have hcv7 := own_string (P := Try.prog) Try.underlying37 Try.underlying5 Try.underlying9 (Kd.own_of_R HO122.out)))
            go_roundg k1
            case measure => have := HK1.out; omega
            case rel => exact ⟨(wrap64 (Int.tdiv x0_1 10)), ((strOfNums y120) ++ x3_1), (by first | rfl | (simp; done) | (simp [*]; done)), (by first | rfl | (simp; done) | (simp [*]; done)), H', ⟨by have := HK1.out; omega⟩, ⟨by repeat (first | (with_reducible first | exact HB.out | apply below_alloc | apply pw_below_drewN | apply below_drew1) | exact HB.out)⟩⟩
          · rw [if_neg c4] at H
            exact absurd H (by simp)
        · rw [if_neg c3] at H
          have c3b0 : decide (0 < x0_1) = false := decide_eq_false c3
          clear c3
          by_cases c8 : 1 + x3_1.size ≤ 9223372036854775807
          · rw [if_pos c8] at H
            have c8b0 := eq_true c8
            have c8b1 : decide (1 + x3_1.size ≤ 9223372036854775807) = true := decide_eq_true c8
            try have c8b2 : (9223372036854775807 < 1 + x3_1.size) = False := eq_false (Nat.not_lt.2 c8)
            obtain rfl := Option.some.inj H
            go_wp2
            go_ret
            exact ⟨by first | rfl | (simp [errW_none, errW_some] <;> rfl) | (simp [*, errW_none, errW_some] <;> rfl), by repeat (first | (with_reducible first | exact HB.out | apply below_alloc | apply pw_below_drewN | apply below_drew1) | exact HB.out)⟩
          · rw [if_neg c8] at H
            exact absurd H (by simp)

/-! ### laws_markStringS: function 35 -/
def laws_markStringS.l0 : Nat → List ByteArray → Int → Int → Option (Int × List ByteArray)
  | 0, _, _, _ => none
  | k + 1, x0, x1, x5 => if x5 < (x0.length : Int) then ((laws_markText.f k x1).bind fun t123 => (if 0 ≤ x5 then (laws_markStringS.l0 k (x0.set (x5 : Int).toNat t123) (wrap64 (x1 + 1)) (wrap64 (x5 + 1))) else (none))) else (some (x1, x0))
def laws_markStringS.f (k : Nat) (l0 : List ByteArray) (a1 : Int) : Option (Int × List ByteArray) := laws_markStringS.l0 k l0 a1 0
theorem laws_markStringS.mono_l : ∀ k, (∀ y0 y1 y2, LeO (laws_markStringS.l0 k y0 y1 y2) (laws_markStringS.l0 (k + 1) y0 y1 y2))
  | 0 => fun _ _ _ r h => by simp [laws_markStringS.l0] at h
  | k + 1 => by
    have ih0 := laws_markStringS.mono_l k
    · intro y0 y1 y2
      unfold laws_markStringS.l0
      repeat' first
      | (with_reducible exact ih0 _ _ _)
      | (with_reducible exact laws_markText.mono _ _)
      | (with_reducible exact LeO.refl _)
      | (with_reducible exact LeO.none _)
      | (with_reducible refine LeO.ite ?_ ?_)
      | (with_reducible refine LeO.bind ?_ (fun _ => ?_))
      | exact ih0 _ _ _
      | exact laws_markText.mono _ _
      | exact LeO.none _
      | refine LeO.ite ?_ ?_
      | refine LeO.bind ?_ (fun _ => ?_)
theorem laws_markStringS.mono : ∀ a0 a1 k, LeO (laws_markStringS.f k a0 a1) (laws_markStringS.f (k + 1) a0 a1) := by
  intro a0 a1 k
  have ih0 := laws_markStringS.mono_l k
  unfold laws_markStringS.f
  repeat' first
      | (with_reducible exact ih0 _ _ _)
      | (with_reducible exact laws_markText.mono _ _)
      | (with_reducible exact LeO.refl _)
      | (with_reducible exact LeO.none _)
      | (with_reducible refine LeO.ite ?_ ?_)
      | (with_reducible refine LeO.bind ?_ (fun _ => ?_))
      | exact ih0 _ _ _
      | exact laws_markText.mono _ _
      | exact LeO.none _
      | refine LeO.ite ?_ ?_
      | refine LeO.bind ?_ (fun _ => ?_)
set_option maxHeartbeats 8000000 in
set_option maxRecDepth 100000 in
theorem laws_markStringS.calls (k : Nat) (P0_ : Nat → Prop) (u9000_ : Value) (l0 : List ByteArray) (a1 : Int) (r1 : Int) (r2 : List ByteArray) (w0 w : World) (hB : Below w0.heap.size w0 w) (ho0 : Kd.R Kd.string 9 w w0.heap.size P0_ u9000_ l0) (h : laws_markStringS.f k l0 a1 = some (r1, r2)) :
    Calls Try.prog 35 #[u9000_, .int .i64 a1] w fun e w' => e = .returned (.int .i64 r1) ∧ Kd.R Kd.string 9 w' w0.heap.size (fun k_ => (P0_ k_ ∨ w.heap.size ≤ k_)) u9000_ r2 ∧ Below w0.heap.size w0 w' ∧ Kept w w' (fun k_ => P0_ k_) := by
  have HO0 := Aside0.mk (show Kd.R Kd.string 9 w w0.heap.size (fun k_ => (P0_ k_ ∨ w.heap.size ≤ k_)) u9000_ l0 from Kd.R_mono ho0 (fun k_ hk => (.inl hk)))
  have HK := Aside0.mk (Kept.refl w (fun k_ => P0_ k_))
  have HW0 := Aside0.mk hB.size
  have HB := Aside0.mk hB
  clear hB
  have H : (laws_markStringS.l0 k l0 a1 0) = some (r1, r2) := h
  clear h
  have H' := Aside0.mk H
  clear H
  go_enter Try.func35, Try.ntmps35
  go_wp2
  go_loopg [1, 5] k (fun kq v1 v5 w' => ∃ (x0_1 : List ByteArray) (x1_1 : Int) (x5_1 : Int), v1 = .int .i64 x1_1 ∧ v5 = .int .i64 x5_1 ∧ Aside0 (laws_markStringS.l0 kq x0_1 x1_1 x5_1 = some (r1, r2)) ∧ Aside0 (kq ≤ k) ∧ Aside0 (Kd.R Kd.string 9 w' w0.heap.size (fun k_ => (P0_ k_ ∨ w.heap.size ≤ k_)) u9000_ x0_1) ∧ Aside0 (Kept w w' (fun k_ => P0_ k_)) ∧ Aside0 (Below w0.heap.size w0 w'))
  case atStart => exact ⟨(l0), (a1), (0), (by first | rfl | (simp; done) | (simp [*]; done)), (by first | rfl | (simp; done) | (simp [*]; done)), H', ⟨Nat.le_refl _⟩, ⟨by (with_reducible repeat (first | apply Kd.R_alloc | apply Kd.R_drewN | apply Kd.R_drew)); exact HO0.out⟩, ⟨by repeat (first | (with_reducible first | exact HK.out | apply Kept.alloc | apply Kept.drewN | apply Kept.drew) | exact HK.out)⟩, ⟨by repeat (first | (with_reducible first | exact HB.out | apply below_alloc | apply pw_below_drewN | apply below_drew1) | exact HB.out)⟩⟩
  case round =>
    clear H'
    try clear p2
    obtain ⟨x0_1, x1_1, x5_1, rfl, rfl, HA, HK1, HO_0, HK, HB⟩ := hrel
    cases gk with
    | zero => exact absurd HA.out (by simp [laws_markStringS.l0])
    | succ k1 =>
      have H := HA.out
      clear HA
      simp only [laws_markStringS.l0] at H
      by_cases c3 : x5_1 < (x0_1.length : Int)
      · rw [if_pos c3] at H
        have c3b0 : decide (x5_1 < (x0_1.length : Int)) = true := decide_eq_true c3
        clear c3
        replace H := Option.bind_eq_some_iff.mp H
        obtain ⟨t123, A40, H⟩ := H
        replace H : (if 0 ≤ x5_1 then (laws_markStringS.l0 k1 (x0_1.set (x5_1 : Int).toNat t123) (wrap64 (x1_1 + 1)) (wrap64 (x5_1 + 1))) else (none)) = some (r1, r2) := H
        have A4 := Aside0.mk A40
        clear A40
        by_cases c5 : 0 ≤ x5_1
        · rw [if_pos c5] at H
          have c5b0 : decide (0 ≤ x5_1) = true := decide_eq_true c5
          clear c5
          obtain ⟨y124, hy124⟩ : ∃ y_ : List ByteArray, y_ = (x0_1.set (x5_1 : Int).toNat t123) := ⟨_, rfl⟩
          replace H : (laws_markStringS.l0 k1 y124 (wrap64 (x1_1 + 1)) (wrap64 (x5_1 + 1))) = some (r1, r2) := by first | (rw [hy124]; with_reducible exact H) | (have H2_ := (Option.bind_some _ _).symm.trans H; rw [hy124]; with_reducible exact H2_) | (have H2_ := (Option.bind_some _ _).symm.trans H; with_reducible exact H2_) | with_reducible exact H | (rw [hy124]; exact H) | exact H
          have Ny124 := Aside0.mk hy124
          clear hy124
          have H' := Aside0.mk H
          clear H
          obtain ⟨Ao7, co7, eo7⟩ := Kd.R_slice HO_0.out
          subst eo7
          go_wp2_with (first | ((with_reducible refine gate_callee (f := 70) rfl ?_); refine goesL_ (some 15) rfl rfl Try.func70 (by kernel_rfl) rfl #[.int .i64 x1_1] rfl (by (try simp only [List.map_toArray, List.map_cons, List.map_nil]); first | done | rfl | (simp only [List.length_drop, List.length_take]; rfl)) ?_; (with_reducible refine (laws_markText.calls k1 x1_1 t123 _ A4.out).mono ?_); rintro e w8 ⟨rfl, hb⟩; refine ⟨_, rfl, ?_⟩; have n0_ := Aside0.mk (Kd.R_below (by (with_reducible repeat (first | apply Kd.R_alloc | apply Kd.R_drewN | apply Kd.R_drew)); exact HO_0.out) hb); have n1_ := Aside0.mk (Kept.below (S := (fun k_ => P0_ k_)) (by repeat (first | (with_reducible first | exact HK.out | apply Kept.alloc | apply Kept.drewN | apply Kept.drew) | exact HK.out)) hb); have n2_ := Aside0.mk (below_step (by repeat (first | (with_reducible first | exact HB.out | apply below_alloc | apply pw_below_drewN | apply below_drew1) | exact HB.out)) hb); clear HO_0; clear HK; clear HB; have HO_0 := n0_; have HK := n1_; have HB := n2_; clear n0_ n1_ n2_; (try clear hb); (try clear hb2); (try clear hk); (try clear hi); have p6 : 0 ≤ (x5_1 : Int) := of_decide_eq_true (by first | (with_reducible assumption) | assumption); have q6 : (x5_1 : Int) < ((x0_1.length : Int) : Int) := of_decide_eq_true (by first | (with_reducible assumption) | assumption); obtain ⟨go6, co6, eo6, gb6, gl6, cl6, HG6⟩ := Kd.R_form HO_0.out (by omega); (first | cases eo6 | (injection eo6 with ea_ en_ ec_; (first | subst ea_ | (injection ea_ with ea_; subst ea_)); subst ec_; clear en_)); have GB6 := Aside0.mk gb6; have GG6 := Aside0.mk HG6; clear gb6 gl6 HG6; have HMgo6 := Aside0.mk (show (P0_ go6 ∨ w.heap.size ≤ go6) from (HO_0.out.1 _ rfl)); obtain ⟨hx6_0, hf6_0⟩ := Kd.R_celln (⟨#[]⟩ : ByteArray) HO_0.out (x5_1 : Int) p6 q6; replace p6 := eq_true p6; replace q6 := eq_true q6; obtain ⟨hy9_, hz9_⟩ := Kd.R_celln (⟨#[]⟩ : ByteArray) HO_0.out (x5_1 : Int) (of_decide_eq_true (by first | (with_reducible assumption) | assumption)) (of_decide_eq_true (by first | (with_reducible assumption) | assumption)); have HP9 := Kd.R_putg HO_0.out (x5_1 : Int) t123) | ((with_reducible refine gate_store (t := 9) (p := 16) rfl ?_); refine store_event (t := 9) (p := 16) (v := ?vo_w10) (w1 := (w8.setCell ⟨go6, (x5_1 : Int).toNat, none⟩ (.string t123))) ?hg ?ho ?hn ?hr ?_; (case ho => rfl); (case hg => rfl); (case hn => rfl); (case hr => first | (go_simp; done) | (go_simp; rfl)); intro w10 hw; have hg : w8.grownBy w10 (some go6) := (by rw [hw]; exact HP9.2); have hp_ : Kd.R Kd.string 9 w10 w0.heap.size (fun k_ => (P0_ k_ ∨ w.heap.size ≤ k_)) (.slice (some ⟨go6, 0, none⟩) x0_1.length co7) y124 := (by rw [hw, Ny124.out]; exact HP9.1); clear HP9; have n0_ := Aside0.mk (hp_); have n1_ := Aside0.mk ((by rw [hw]; exact below_set (HB.out) GB6.out : Below w0.heap.size w0 w10)); have n2_ := Aside0.mk (Kept.of_grown (S := (fun k_ => P0_ k_)) hg (by repeat (first | (with_reducible first | exact HK.out | apply Kept.alloc | apply Kept.drewN | apply Kept.drew) | exact HK.out)) (fun k_ e_ => (HO_0.out.1 k_ e_))); clear HO_0; clear HB; clear HK; have HO_0 := n0_; have HB := n1_; have HK := n2_; clear n0_ n1_ n2_; clear hg hw hp_))
          go_roundg k1
          case measure => have := HK1.out; omega
          case rel => exact ⟨(y124), (wrap64 (x1_1 + 1)), (wrap64 (x5_1 + 1)), (by first | rfl | (simp; done) | (simp [*]; done)), (by first | rfl | (simp; done) | (simp [*]; done)), H', ⟨by have := HK1.out; omega⟩, ⟨by (with_reducible repeat (first | apply Kd.R_alloc | apply Kd.R_drewN | apply Kd.R_drew)); exact HO_0.out⟩, ⟨by repeat (first | (with_reducible first | exact HK.out | apply Kept.alloc | apply Kept.drewN | apply Kept.drew) | exact HK.out)⟩, ⟨by repeat (first | (with_reducible first | exact HB.out | apply below_alloc | apply pw_below_drewN | apply below_drew1) | exact HB.out)⟩⟩
        · rw [if_neg c5] at H
          exact absurd H (by simp)
      · rw [if_neg c3] at H
        have c3b0 : decide (x5_1 < (x0_1.length : Int)) = false := decide_eq_false c3
        clear c3
        simp only [Option.some.injEq, Prod.mk.injEq] at H
        obtain ⟨rfl, rfl⟩ := H
        obtain ⟨Ao11, co11, eo11⟩ := Kd.R_slice HO_0.out
        subst eo11
        go_wp2
        go_ret
        exact ⟨by first | rfl | (simp [errW_none, errW_some] <;> rfl) | (simp [*, errW_none, errW_some] <;> rfl), by (with_reducible repeat (first | apply Kd.R_alloc | apply Kd.R_drewN | apply Kd.R_drew)); exact HO_0.out, by repeat (first | (with_reducible first | exact HB.out | apply below_alloc | apply pw_below_drewN | apply below_drew1) | exact HB.out), by repeat (first | (with_reducible first | exact HK.out | apply Kept.alloc | apply Kept.drewN | apply Kept.drew) | exact HK.out)⟩

/-! ### laws_heldStringS: function 36 -/
def laws_heldStringS.l0 : Nat → List ByteArray → Int → Int → Option (Int)
  | 0, _, _, _ => none
  | k + 1, x0, x1, x5 => if x5 < (x0.length : Int) then (if 0 ≤ x5 then ((laws_markText.f k x1).bind fun t126 => (if (rdOf ByteArray.empty x0 x5).toList = t126.toList then (laws_heldStringS.l0 k x0 (wrap64 (x1 + 1)) (wrap64 (x5 + 1))) else (some (-1)))) else (none)) else (some x1)
def laws_heldStringS.f (k : Nat) (l0 : List ByteArray) (a1 : Int) : Option (Int) := laws_heldStringS.l0 k l0 a1 0
theorem laws_heldStringS.mono_l : ∀ k, (∀ y0 y1 y2, LeO (laws_heldStringS.l0 k y0 y1 y2) (laws_heldStringS.l0 (k + 1) y0 y1 y2))
  | 0 => fun _ _ _ r h => by simp [laws_heldStringS.l0] at h
  | k + 1 => by
    have ih0 := laws_heldStringS.mono_l k
    · intro y0 y1 y2
      unfold laws_heldStringS.l0
      repeat' first
      | (with_reducible exact ih0 _ _ _)
      | (with_reducible exact laws_markText.mono _ _)
      | (with_reducible exact LeO.refl _)
      | (with_reducible exact LeO.none _)
      | (with_reducible refine LeO.ite ?_ ?_)
      | (with_reducible refine LeO.bind ?_ (fun _ => ?_))
      | exact ih0 _ _ _
      | exact laws_markText.mono _ _
      | exact LeO.none _
      | refine LeO.ite ?_ ?_
      | refine LeO.bind ?_ (fun _ => ?_)
theorem laws_heldStringS.mono : ∀ a0 a1 k, LeO (laws_heldStringS.f k a0 a1) (laws_heldStringS.f (k + 1) a0 a1) := by
  intro a0 a1 k
  have ih0 := laws_heldStringS.mono_l k
  unfold laws_heldStringS.f
  repeat' first
      | (with_reducible exact ih0 _ _ _)
      | (with_reducible exact laws_markText.mono _ _)
      | (with_reducible exact LeO.refl _)
      | (with_reducible exact LeO.none _)
      | (with_reducible refine LeO.ite ?_ ?_)
      | (with_reducible refine LeO.bind ?_ (fun _ => ?_))
      | exact ih0 _ _ _
      | exact laws_markText.mono _ _
      | exact LeO.none _
      | refine LeO.ite ?_ ?_
      | refine LeO.bind ?_ (fun _ => ?_)
set_option maxHeartbeats 8000000 in
set_option maxRecDepth 100000 in
theorem laws_heldStringS.calls (k : Nat) (A0 : Option Addr) (c0 : Nat) (l0 : List ByteArray) (a1 : Int) (r : Int) (w : World) (hr0 : Kd.C Kd.string w A0 l0.length l0) (hc0 : l0.length ≤ c0) (h : laws_heldStringS.f k l0 a1 = some r) :
    Calls Try.prog 36 #[.slice A0 l0.length c0, .int .i64 a1] w fun e w' => e = .returned (.int .i64 r) ∧ Below w.heap.size w w' := by
  have HR0 := Aside0.mk hr0
  have HC0 := Aside0.mk hc0
  clear hr0 hc0
  have HB := Aside0.mk (Below.refl w.heap.size w)
  have H : (laws_heldStringS.l0 k l0 a1 0) = some r := h
  clear h
  have H' := Aside0.mk H
  clear H
  go_enter Try.func36, Try.ntmps36
  go_wp2
  go_loopg [1, 5] k (fun kq v1 v5 w' => ∃ (x1_1 : Int) (x5_1 : Int), v1 = .int .i64 x1_1 ∧ v5 = .int .i64 x5_1 ∧ Aside0 (laws_heldStringS.l0 kq l0 x1_1 x5_1 = some r) ∧ Aside0 (kq ≤ k) ∧ Aside0 (Below w.heap.size w w'))
  case atStart => exact ⟨(a1), (0), (by first | rfl | (simp; done) | (simp [*]; done)), (by first | rfl | (simp; done) | (simp [*]; done)), H', ⟨Nat.le_refl _⟩, ⟨by repeat (first | (with_reducible first | exact HB.out | apply below_alloc | apply pw_below_drewN | apply below_drew1) | exact HB.out)⟩⟩
  case round =>
    clear H'
    try clear p2
    obtain ⟨x1_1, x5_1, rfl, rfl, HA, HK1, HB⟩ := hrel
    cases gk with
    | zero => exact absurd HA.out (by simp [laws_heldStringS.l0])
    | succ k1 =>
      have H := HA.out
      clear HA
      simp only [laws_heldStringS.l0] at H
      by_cases c3 : x5_1 < (l0.length : Int)
      · rw [if_pos c3] at H
        have c3b0 : decide (x5_1 < (l0.length : Int)) = true := decide_eq_true c3
        clear c3
        by_cases c4 : 0 ≤ x5_1
        · rw [if_pos c4] at H
          have c4b0 : decide (0 ≤ x5_1) = true := decide_eq_true c4
          clear c4
          replace H := Option.bind_eq_some_iff.mp H
          obtain ⟨t126, A50, H⟩ := H
          replace H : (if (rdOf ByteArray.empty l0 x5_1).toList = t126.toList then (laws_heldStringS.l0 k1 l0 (wrap64 (x1_1 + 1)) (wrap64 (x5_1 + 1))) else (some (-1))) = some r := H
          have A5 := Aside0.mk A50
          clear A50
          by_cases c6 : (rdOf ByteArray.empty l0 x5_1).toList = t126.toList
          · rw [if_pos c6] at H
            have c6b0 : ((rdOf ByteArray.empty l0 x5_1).toList == t126.toList) = true := beq_iff_eq.mpr c6
            have c6b1 : ((rdOf ByteArray.empty l0 x5_1).toList != t126.toList) = false := bne_eq_false_iff_eq.mpr c6
            clear c6
            have H' := Aside0.mk H
            clear H
            try go_wp2
            have n0_ := Aside0.mk (below_drew1 HB.out)
            clear HB
            have HB := n0_
            clear n0_
            have p125 : 0 ≤ (x5_1 : Int) := of_decide_eq_true (by first | (with_reducible assumption) | assumption)
            have q125 : x5_1 < (l0.length : Int) := of_decide_eq_true (by first | (with_reducible assumption) | assumption)
            obtain ⟨ad125, e125, hx125_0⟩ := Kd.at_string HR0.out x5_1 p125 q125
            have hw125_0 := hx125_0
            cases e125
            replace hx125_0 := (HB.out.cell (World.block_lt_of_cell? w _ hx125_0)).trans hx125_0
            replace p125 := eq_true p125
            replace q125 := eq_true q125
            refine start_ (n := 7) (S := fun w' => w'.cell? (ad125.add (x5_1).toNat) = some (.string (rdOf ByteArray.empty l0 x5_1))) (ds := []) #[false, false, false, false, false, false, false] (by kernel_rfl) rfl rfl (((HB.out.cell (World.block_lt_of_cell? w _ hw125_0)).trans hw125_0)) (fun hHeld => ?_)
            generalize wr.drew = w7 at HB hx125_0 hHeld ⊢
            refine pure_ (i := 0) (N := some 12) (v := ?_) (a' := ?_) #[true, false, false, false, false, false, false] rfl rfl (by kernel_rfl) (fun _ _ _ h => h) (Or.inl ⟨by rfl, ?_⟩) ?_ ?_
            rotate_left
            · intro w'
              go_simp
              with_reducible rfl
            rotate_left
            · simp only [Act.put, List.setIfInBounds_toArray, List.set_cons_zero, List.set_cons_succ, i64_w, i32_w]
              rfl
            refine pure_ (i := 1) (N := some 13) (v := ?_) (a' := ?_) #[true, true, false, false, false, false, false] rfl rfl (by kernel_rfl) (fun _ _ _ h => h) (Or.inl ⟨by rfl, ?_⟩) ?_ ?_
            rotate_left
            · intro w'
              go_simp
              with_reducible rfl
            rotate_left
            · simp only [Act.put, List.setIfInBounds_toArray, List.set_cons_zero, List.set_cons_succ, i64_w, i32_w]
              rfl
            refine pure_ (i := 2) (N := some 14) (v := ?_) (a' := ?_) #[true, true, true, false, false, false, false] rfl rfl (by kernel_rfl) (fun _ _ _ h => h) (Or.inl ⟨by rfl, ?_⟩) ?_ ?_
            rotate_left
            · intro w'
              go_simp
              with_reducible rfl
            rotate_left
            · simp only [Act.put, List.setIfInBounds_toArray, List.set_cons_zero, List.set_cons_succ, i64_w, i32_w]
              rfl
            refine pure_ (i := 4) (N := some 16) (v := ?_) (a' := ?_) #[true, true, true, false, true, false, false] rfl rfl (by kernel_rfl) (fun _ _ _ h => h) (Or.inl ⟨by rfl, ?_⟩) ?_ ?_
            rotate_left
            · intro w'
              go_simp
              with_reducible rfl
            rotate_left
            · simp only [Act.put, List.setIfInBounds_toArray, List.set_cons_zero, List.set_cons_succ, i64_w, i32_w]
              rfl
            refine take_ (i := 3) (N := some 15) (v := ?_) (a' := ?_) #[true, true, true, true, true, false, false] rfl rfl (by kernel_rfl) (fun _ _ _ h => h) (Or.inl ⟨by rfl, ?_⟩) hHeld ?_ ?_
            rotate_left
            · intro w' s0
              go_simp
              with_reducible rfl
            rotate_left
            · simp only [Act.put, List.setIfInBounds_toArray, List.set_cons_zero, List.set_cons_succ, i64_w, i32_w]
              rfl
            refine one_ (i := 5) (N := some 17) #[true, true, true, true, true, true, false] rfl rfl (by kernel_rfl) (by decide) (fun K hK => ?_)
            refine goes_ Try.func70 (by kernel_rfl) rfl #[.int .i64 x1_1] (by rfl) rfl rfl (by (try simp only [List.map_toArray, List.map_cons, List.map_nil]); first | done | rfl | (simp only [List.length_drop, List.length_take]; rfl)) ?_
            with_reducible refine (laws_markText.calls k1 x1_1 t126 _ A5.out).mono ?_
            rintro e w8 ⟨rfl, hb⟩
            refine ⟨_, rfl, ?_⟩
            have n0_ := Aside0.mk (below_step (by repeat (first | (with_reducible first | exact HB.out | apply below_alloc | apply pw_below_drewN | apply below_drew1) | exact HB.out)) hb)
            clear HB
            have HB := n0_
            clear n0_
            (try clear hb)
            (try clear hb2)
            (try clear hk)
            (try clear hi)
            refine hK.out _ _ (((HB.out.cell (World.block_lt_of_cell? w _ hw125_0)).trans hw125_0)) (fun hHeld => ?_)
            clear hK K
            refine norm_ (a' := ?_) ?_ ?_
            rotate_left
            · show Act.put _ (some 17) _ = _
              simp only [Act.put, List.setIfInBounds_toArray, List.set_cons_zero, List.set_cons_succ, i64_w, i32_w]
              rfl
            refine pure_ (i := 6) (N := some 18) (v := ?_) (a' := ?_) #[true, true, true, true, true, true, true] rfl rfl (by kernel_rfl) (fun _ _ _ h => h) (Or.inl ⟨by rfl, ?_⟩) ?_ ?_
            rotate_left
            · intro w'
              go_simp
              with_reducible rfl
            rotate_left
            · simp only [Act.put, List.setIfInBounds_toArray, List.set_cons_zero, List.set_cons_succ, i64_w, i32_w]
              rfl
            refine done_ (by kernel_rfl) ?_
            try go_wp2
            go_roundg k1
            case measure => have := HK1.out; omega
            case rel => exact ⟨(wrap64 (x1_1 + 1)), (wrap64 (x5_1 + 1)), (by first | rfl | (simp; done) | (simp [*]; done)), (by first | rfl | (simp; done) | (simp [*]; done)), H', ⟨by have := HK1.out; omega⟩, ⟨by repeat (first | (with_reducible first | exact HB.out | apply below_alloc | apply pw_below_drewN | apply below_drew1) | exact HB.out)⟩⟩
          · rw [if_neg c6] at H
            have c6b0 : ((rdOf ByteArray.empty l0 x5_1).toList == t126.toList) = false := beq_eq_false_iff_ne.mpr c6
            have c6b1 : ((rdOf ByteArray.empty l0 x5_1).toList != t126.toList) = true := bne_iff_ne.mpr c6
            obtain rfl := Option.some.inj H
            try go_wp2
            have n0_ := Aside0.mk (below_drew1 HB.out)
            clear HB
            have HB := n0_
            clear n0_
            have p125 : 0 ≤ (x5_1 : Int) := of_decide_eq_true (by first | (with_reducible assumption) | assumption)
            have q125 : x5_1 < (l0.length : Int) := of_decide_eq_true (by first | (with_reducible assumption) | assumption)
            obtain ⟨ad125, e125, hx125_0⟩ := Kd.at_string HR0.out x5_1 p125 q125
            have hw125_0 := hx125_0
            cases e125
            replace hx125_0 := (HB.out.cell (World.block_lt_of_cell? w _ hx125_0)).trans hx125_0
            replace p125 := eq_true p125
            replace q125 := eq_true q125
            refine start_ (n := 7) (S := fun w' => w'.cell? (ad125.add (x5_1).toNat) = some (.string (rdOf ByteArray.empty l0 x5_1))) (ds := []) #[false, false, false, false, false, false, false] (by kernel_rfl) rfl rfl (((HB.out.cell (World.block_lt_of_cell? w _ hw125_0)).trans hw125_0)) (fun hHeld => ?_)
            generalize wr.drew = w9 at HB hx125_0 hHeld ⊢
            refine pure_ (i := 0) (N := some 12) (v := ?_) (a' := ?_) #[true, false, false, false, false, false, false] rfl rfl (by kernel_rfl) (fun _ _ _ h => h) (Or.inl ⟨by rfl, ?_⟩) ?_ ?_
            rotate_left
            · intro w'
              go_simp
              with_reducible rfl
            rotate_left
            · simp only [Act.put, List.setIfInBounds_toArray, List.set_cons_zero, List.set_cons_succ, i64_w, i32_w]
              rfl
            refine pure_ (i := 1) (N := some 13) (v := ?_) (a' := ?_) #[true, true, false, false, false, false, false] rfl rfl (by kernel_rfl) (fun _ _ _ h => h) (Or.inl ⟨by rfl, ?_⟩) ?_ ?_
            rotate_left
            · intro w'
              go_simp
              with_reducible rfl
            rotate_left
            · simp only [Act.put, List.setIfInBounds_toArray, List.set_cons_zero, List.set_cons_succ, i64_w, i32_w]
              rfl
            refine pure_ (i := 2) (N := some 14) (v := ?_) (a' := ?_) #[true, true, true, false, false, false, false] rfl rfl (by kernel_rfl) (fun _ _ _ h => h) (Or.inl ⟨by rfl, ?_⟩) ?_ ?_
            rotate_left
            · intro w'
              go_simp
              with_reducible rfl
            rotate_left
            · simp only [Act.put, List.setIfInBounds_toArray, List.set_cons_zero, List.set_cons_succ, i64_w, i32_w]
              rfl
            refine pure_ (i := 4) (N := some 16) (v := ?_) (a' := ?_) #[true, true, true, false, true, false, false] rfl rfl (by kernel_rfl) (fun _ _ _ h => h) (Or.inl ⟨by rfl, ?_⟩) ?_ ?_
            rotate_left
            · intro w'
              go_simp
              with_reducible rfl
            rotate_left
            · simp only [Act.put, List.setIfInBounds_toArray, List.set_cons_zero, List.set_cons_succ, i64_w, i32_w]
              rfl
            refine take_ (i := 3) (N := some 15) (v := ?_) (a' := ?_) #[true, true, true, true, true, false, false] rfl rfl (by kernel_rfl) (fun _ _ _ h => h) (Or.inl ⟨by rfl, ?_⟩) hHeld ?_ ?_
            rotate_left
            · intro w' s0
              go_simp
              with_reducible rfl
            rotate_left
            · simp only [Act.put, List.setIfInBounds_toArray, List.set_cons_zero, List.set_cons_succ, i64_w, i32_w]
              rfl
            refine one_ (i := 5) (N := some 17) #[true, true, true, true, true, true, false] rfl rfl (by kernel_rfl) (by decide) (fun K hK => ?_)
            refine goes_ Try.func70 (by kernel_rfl) rfl #[.int .i64 x1_1] (by rfl) rfl rfl (by (try simp only [List.map_toArray, List.map_cons, List.map_nil]); first | done | rfl | (simp only [List.length_drop, List.length_take]; rfl)) ?_
            with_reducible refine (laws_markText.calls k1 x1_1 t126 _ A5.out).mono ?_
            rintro e w10 ⟨rfl, hb⟩
            refine ⟨_, rfl, ?_⟩
            have n0_ := Aside0.mk (below_step (by repeat (first | (with_reducible first | exact HB.out | apply below_alloc | apply pw_below_drewN | apply below_drew1) | exact HB.out)) hb)
            clear HB
            have HB := n0_
            clear n0_
            (try clear hb)
            (try clear hb2)
            (try clear hk)
            (try clear hi)
            refine hK.out _ _ (((HB.out.cell (World.block_lt_of_cell? w _ hw125_0)).trans hw125_0)) (fun hHeld => ?_)
            clear hK K
            refine norm_ (a' := ?_) ?_ ?_
            rotate_left
            · show Act.put _ (some 17) _ = _
              simp only [Act.put, List.setIfInBounds_toArray, List.set_cons_zero, List.set_cons_succ, i64_w, i32_w]
              rfl
            refine pure_ (i := 6) (N := some 18) (v := ?_) (a' := ?_) #[true, true, true, true, true, true, true] rfl rfl (by kernel_rfl) (fun _ _ _ h => h) (Or.inl ⟨by rfl, ?_⟩) ?_ ?_
            rotate_left
            · intro w'
              go_simp
              with_reducible rfl
            rotate_left
            · simp only [Act.put, List.setIfInBounds_toArray, List.set_cons_zero, List.set_cons_succ, i64_w, i32_w]
              rfl
            refine done_ (by kernel_rfl) ?_
            try go_wp2
            go_ret
            exact ⟨by first | rfl | (simp [errW_none, errW_some] <;> rfl) | (simp [*, errW_none, errW_some] <;> rfl), by repeat (first | (with_reducible first | exact HB.out | apply below_alloc | apply pw_below_drewN | apply below_drew1) | exact HB.out)⟩
        · rw [if_neg c4] at H
          exact absurd H (by simp)
      · rw [if_neg c3] at H
        have c3b0 : decide (x5_1 < (l0.length : Int)) = false := decide_eq_false c3
        clear c3
        obtain rfl := Option.some.inj H
        go_wp2
        go_ret
        exact ⟨by first | rfl | (simp [errW_none, errW_some] <;> rfl) | (simp [*, errW_none, errW_some] <;> rfl), by repeat (first | (with_reducible first | exact HB.out | apply below_alloc | apply pw_below_drewN | apply below_drew1) | exact HB.out)⟩

end Go.Proofs.Ytphdamdgenepmaa.PFnExactProperties
