-- PRINTED BY print.sh 35421559b90ae4d0a3588c463048766b98c2df88dd9212a6774a882060cdf62d: not written by this session
import Derived.Test.YthebkooanhkpfaaPFnExactFirstValuex0
namespace Go.Proofs.Ythebkooanhkpfaa.PFnExactFirstValue
open Go.RowKit Go.Proofs.YthebkooanhkpfaaW.PrintWords Go.Proofs.YthebkooanhkpfaaW.PrintLast Go.Proofs.YthebkooanhkpfaaW.PrintMore
attribute [local go_sem] max2_int min2_int max_two min_two max_three min_three max_four min_four   -- for this text's walks alone
set_option linter.unusedVariables false
set_option linter.unusedSimpArgs false

/-! ### spec_Properties: function 30 -/
def spec_Properties.f  : Option (List ByteArray) := some (([(⟨#[99, 108, 105, 112, 45, 112, 97, 116, 104]⟩ : ByteArray), (⟨#[99, 111, 108, 111, 114]⟩ : ByteArray), (⟨#[100, 105, 115, 112, 108, 97, 121]⟩ : ByteArray), (⟨#[102, 105, 108, 108]⟩ : ByteArray), (⟨#[102, 105, 108, 108, 45, 111, 112, 97, 99, 105, 116, 121]⟩ : ByteArray), (⟨#[102, 105, 108, 108, 45, 114, 117, 108, 101]⟩ : ByteArray), (⟨#[111, 102, 102, 115, 101, 116]⟩ : ByteArray), (⟨#[111, 112, 97, 99, 105, 116, 121]⟩ : ByteArray), (⟨#[115, 116, 111, 112, 45, 99, 111, 108, 111, 114]⟩ : ByteArray), (⟨#[115, 116, 114, 111, 107, 101]⟩ : ByteArray), (⟨#[115, 116, 114, 111, 107, 101, 45, 100, 97, 115, 104, 97, 114, 114, 97, 121]⟩ : ByteArray), (⟨#[115, 116, 114, 111, 107, 101, 45, 108, 105, 110, 101, 99, 97, 112]⟩ : ByteArray), (⟨#[115, 116, 114, 111, 107, 101, 45, 108, 105, 110, 101, 106, 111, 105, 110]⟩ : ByteArray), (⟨#[115, 116, 114, 111, 107, 101, 45, 111, 112, 97, 99, 105, 116, 121]⟩ : ByteArray), (⟨#[115, 116, 114, 111, 107, 101, 45, 119, 105, 100, 116, 104]⟩ : ByteArray), (⟨#[118, 105, 115, 105, 98, 105, 108, 105, 116, 121]⟩ : ByteArray)] : List ByteArray))
set_option maxHeartbeats 8000000 in
set_option maxRecDepth 100000 in
theorem spec_Properties.calls  (r : List ByteArray) (w : World) (h : spec_Properties.f  = some r) :
    Calls Try.prog 30 #[] w fun e w' => ∃ v0_ : Value, e = .returned (v0_) ∧ Kd.R Kd.string 9 w' w.heap.size (fun _ => True) v0_ r ∧ Below w.heap.size w w' := by
  have HB := Aside0.mk (Below.refl w.heap.size w)
  have H : (some (([(⟨#[99, 108, 105, 112, 45, 112, 97, 116, 104]⟩ : ByteArray), (⟨#[99, 111, 108, 111, 114]⟩ : ByteArray), (⟨#[100, 105, 115, 112, 108, 97, 121]⟩ : ByteArray), (⟨#[102, 105, 108, 108]⟩ : ByteArray), (⟨#[102, 105, 108, 108, 45, 111, 112, 97, 99, 105, 116, 121]⟩ : ByteArray), (⟨#[102, 105, 108, 108, 45, 114, 117, 108, 101]⟩ : ByteArray), (⟨#[111, 102, 102, 115, 101, 116]⟩ : ByteArray), (⟨#[111, 112, 97, 99, 105, 116, 121]⟩ : ByteArray), (⟨#[115, 116, 111, 112, 45, 99, 111, 108, 111, 114]⟩ : ByteArray), (⟨#[115, 116, 114, 111, 107, 101]⟩ : ByteArray), (⟨#[115, 116, 114, 111, 107, 101, 45, 100, 97, 115, 104, 97, 114, 114, 97, 121]⟩ : ByteArray), (⟨#[115, 116, 114, 111, 107, 101, 45, 108, 105, 110, 101, 99, 97, 112]⟩ : ByteArray), (⟨#[115, 116, 114, 111, 107, 101, 45, 108, 105, 110, 101, 106, 111, 105, 110]⟩ : ByteArray), (⟨#[115, 116, 114, 111, 107, 101, 45, 111, 112, 97, 99, 105, 116, 121]⟩ : ByteArray), (⟨#[115, 116, 114, 111, 107, 101, 45, 119, 105, 100, 116, 104]⟩ : ByteArray), (⟨#[118, 105, 115, 105, 98, 105, 108, 105, 116, 121]⟩ : ByteArray)] : List ByteArray))) = some r := h
  clear h
  obtain ⟨y101, hy101⟩ : ∃ y_ : List ByteArray, y_ = (([(⟨#[99, 108, 105, 112, 45, 112, 97, 116, 104]⟩ : ByteArray), (⟨#[99, 111, 108, 111, 114]⟩ : ByteArray), (⟨#[100, 105, 115, 112, 108, 97, 121]⟩ : ByteArray), (⟨#[102, 105, 108, 108]⟩ : ByteArray), (⟨#[102, 105, 108, 108, 45, 111, 112, 97, 99, 105, 116, 121]⟩ : ByteArray), (⟨#[102, 105, 108, 108, 45, 114, 117, 108, 101]⟩ : ByteArray), (⟨#[111, 102, 102, 115, 101, 116]⟩ : ByteArray), (⟨#[111, 112, 97, 99, 105, 116, 121]⟩ : ByteArray), (⟨#[115, 116, 111, 112, 45, 99, 111, 108, 111, 114]⟩ : ByteArray), (⟨#[115, 116, 114, 111, 107, 101]⟩ : ByteArray), (⟨#[115, 116, 114, 111, 107, 101, 45, 100, 97, 115, 104, 97, 114, 114, 97, 121]⟩ : ByteArray), (⟨#[115, 116, 114, 111, 107, 101, 45, 108, 105, 110, 101, 99, 97, 112]⟩ : ByteArray), (⟨#[115, 116, 114, 111, 107, 101, 45, 108, 105, 110, 101, 106, 111, 105, 110]⟩ : ByteArray), (⟨#[115, 116, 114, 111, 107, 101, 45, 111, 112, 97, 99, 105, 116, 121]⟩ : ByteArray), (⟨#[115, 116, 114, 111, 107, 101, 45, 119, 105, 100, 116, 104]⟩ : ByteArray), (⟨#[118, 105, 115, 105, 98, 105, 108, 105, 116, 121]⟩ : ByteArray)] : List ByteArray)) := ⟨_, rfl⟩
  replace H : (some y101) = some r := by first | (rw [hy101]; with_reducible exact H) | (have H2_ := (Option.bind_some _ _).symm.trans H; rw [hy101]; with_reducible exact H2_) | (have H2_ := (Option.bind_some _ _).symm.trans H; with_reducible exact H2_) | with_reducible exact H | (rw [hy101]; exact H) | exact H
  have Ny101 := Aside0.mk hy101
  clear hy101
  obtain rfl := Option.some.inj H
  go_enter Try.func30, Try.ntmps30
  go_wp2_with (first | ((with_reducible refine gate_dst (N := 1) rfl ?_); refine Kd.R_lit Kd.string _ 9 ?hg (N := 1) ?hd (xs := ([(⟨#[99, 108, 105, 112, 45, 112, 97, 116, 104]⟩ : ByteArray), (⟨#[99, 111, 108, 111, 114]⟩ : ByteArray), (⟨#[100, 105, 115, 112, 108, 97, 121]⟩ : ByteArray), (⟨#[102, 105, 108, 108]⟩ : ByteArray), (⟨#[102, 105, 108, 108, 45, 111, 112, 97, 99, 105, 116, 121]⟩ : ByteArray), (⟨#[102, 105, 108, 108, 45, 114, 117, 108, 101]⟩ : ByteArray), (⟨#[111, 102, 102, 115, 101, 116]⟩ : ByteArray), (⟨#[111, 112, 97, 99, 105, 116, 121]⟩ : ByteArray), (⟨#[115, 116, 111, 112, 45, 99, 111, 108, 111, 114]⟩ : ByteArray), (⟨#[115, 116, 114, 111, 107, 101]⟩ : ByteArray), (⟨#[115, 116, 114, 111, 107, 101, 45, 100, 97, 115, 104, 97, 114, 114, 97, 121]⟩ : ByteArray), (⟨#[115, 116, 114, 111, 107, 101, 45, 108, 105, 110, 101, 99, 97, 112]⟩ : ByteArray), (⟨#[115, 116, 114, 111, 107, 101, 45, 108, 105, 110, 101, 106, 111, 105, 110]⟩ : ByteArray), (⟨#[115, 116, 114, 111, 107, 101, 45, 111, 112, 97, 99, 105, 116, 121]⟩ : ByteArray), (⟨#[115, 116, 114, 111, 107, 101, 45, 119, 105, 100, 116, 104]⟩ : ByteArray), (⟨#[118, 105, 115, 105, 98, 105, 108, 105, 116, 121]⟩ : ByteArray)] : List ByteArray)) (inner := [.string (⟨#[99, 108, 105, 112, 45, 112, 97, 116, 104]⟩ : ByteArray), .string (⟨#[99, 111, 108, 111, 114]⟩ : ByteArray), .string (⟨#[100, 105, 115, 112, 108, 97, 121]⟩ : ByteArray), .string (⟨#[102, 105, 108, 108]⟩ : ByteArray), .string (⟨#[102, 105, 108, 108, 45, 111, 112, 97, 99, 105, 116, 121]⟩ : ByteArray), .string (⟨#[102, 105, 108, 108, 45, 114, 117, 108, 101]⟩ : ByteArray), .string (⟨#[111, 102, 102, 115, 101, 116]⟩ : ByteArray), .string (⟨#[111, 112, 97, 99, 105, 116, 121]⟩ : ByteArray), .string (⟨#[115, 116, 111, 112, 45, 99, 111, 108, 111, 114]⟩ : ByteArray), .string (⟨#[115, 116, 114, 111, 107, 101]⟩ : ByteArray), .string (⟨#[115, 116, 114, 111, 107, 101, 45, 100, 97, 115, 104, 97, 114, 114, 97, 121]⟩ : ByteArray), .string (⟨#[115, 116, 114, 111, 107, 101, 45, 108, 105, 110, 101, 99, 97, 112]⟩ : ByteArray), .string (⟨#[115, 116, 114, 111, 107, 101, 45, 108, 105, 110, 101, 106, 111, 105, 110]⟩ : ByteArray), .string (⟨#[115, 116, 114, 111, 107, 101, 45, 111, 112, 97, 99, 105, 116, 121]⟩ : ByteArray), .string (⟨#[115, 116, 114, 111, 107, 101, 45, 119, 105, 100, 116, 104]⟩ : ByteArray), .string (⟨#[118, 105, 115, 105, 98, 105, 108, 105, 116, 121]⟩ : ByteArray)]) (ok := fun _ => True) (okp := fun _ => True) ?hr ?hp (fun _ hk => hk) trivial (Below.refl _ _) (Nat.le_refl _) (by simp) ?_; (case hd => rfl); (case hg => rfl); (case hr => first | (go_simp; done) | (go_simp; rfl)); (case hp => exact (Reps.one (show Kd.M Kd.string _ _ _ (⟨#[99, 108, 105, 112, 45, 112, 97, 116, 104]⟩ : ByteArray) [.string (⟨#[99, 108, 105, 112, 45, 112, 97, 116, 104]⟩ : ByteArray)] from rfl) (Reps.one (show Kd.M Kd.string _ _ _ (⟨#[99, 111, 108, 111, 114]⟩ : ByteArray) [.string (⟨#[99, 111, 108, 111, 114]⟩ : ByteArray)] from rfl) (Reps.one (show Kd.M Kd.string _ _ _ (⟨#[100, 105, 115, 112, 108, 97, 121]⟩ : ByteArray) [.string (⟨#[100, 105, 115, 112, 108, 97, 121]⟩ : ByteArray)] from rfl) (Reps.one (show Kd.M Kd.string _ _ _ (⟨#[102, 105, 108, 108]⟩ : ByteArray) [.string (⟨#[102, 105, 108, 108]⟩ : ByteArray)] from rfl) (Reps.one (show Kd.M Kd.string _ _ _ (⟨#[102, 105, 108, 108, 45, 111, 112, 97, 99, 105, 116, 121]⟩ : ByteArray) [.string (⟨#[102, 105, 108, 108, 45, 111, 112, 97, 99, 105, 116, 121]⟩ : ByteArray)] from rfl) (Reps.one (show Kd.M Kd.string _ _ _ (⟨#[102, 105, 108, 108, 45, 114, 117, 108, 101]⟩ : ByteArray) [.string (⟨#[102, 105, 108, 108, 45, 114, 117, 108, 101]⟩ : ByteArray)] from rfl) (Reps.one (show Kd.M Kd.string _ _ _ (⟨#[111, 102, 102, 115, 101, 116]⟩ : ByteArray) [.string (⟨#[111, 102, 102, 115, 101, 116]⟩ : ByteArray)] from rfl) (Reps.one (show Kd.M Kd.string _ _ _ (⟨#[111, 112, 97, 99, 105, 116, 121]⟩ : ByteArray) [.string (⟨#[111, 112, 97, 99, 105, 116, 121]⟩ : ByteArray)] from rfl) (Reps.one (show Kd.M Kd.string _ _ _ (⟨#[115, 116, 111, 112, 45, 99, 111, 108, 111, 114]⟩ : ByteArray) [.string (⟨#[115, 116, 111, 112, 45, 99, 111, 108, 111, 114]⟩ : ByteArray)] from rfl) (Reps.one (show Kd.M Kd.string _ _ _ (⟨#[115, 116, 114, 111, 107, 101]⟩ : ByteArray) [.string (⟨#[115, 116, 114, 111, 107, 101]⟩ : ByteArray)] from rfl) (Reps.one (show Kd.M Kd.string _ _ _ (⟨#[115, 116, 114, 111, 107, 101, 45, 100, 97, 115, 104, 97, 114, 114, 97, 121]⟩ : ByteArray) [.string (⟨#[115, 116, 114, 111, 107, 101, 45, 100, 97, 115, 104, 97, 114, 114, 97, 121]⟩ : ByteArray)] from rfl) (Reps.one (show Kd.M Kd.string _ _ _ (⟨#[115, 116, 114, 111, 107, 101, 45, 108, 105, 110, 101, 99, 97, 112]⟩ : ByteArray) [.string (⟨#[115, 116, 114, 111, 107, 101, 45, 108, 105, 110, 101, 99, 97, 112]⟩ : ByteArray)] from rfl) (Reps.one (show Kd.M Kd.string _ _ _ (⟨#[115, 116, 114, 111, 107, 101, 45, 108, 105, 110, 101, 106, 111, 105, 110]⟩ : ByteArray) [.string (⟨#[115, 116, 114, 111, 107, 101, 45, 108, 105, 110, 101, 106, 111, 105, 110]⟩ : ByteArray)] from rfl) (Reps.one (show Kd.M Kd.string _ _ _ (⟨#[115, 116, 114, 111, 107, 101, 45, 111, 112, 97, 99, 105, 116, 121]⟩ : ByteArray) [.string (⟨#[115, 116, 114, 111, 107, 101, 45, 111, 112, 97, 99, 105, 116, 121]⟩ : ByteArray)] from rfl) (Reps.one (show Kd.M Kd.string _ _ _ (⟨#[115, 116, 114, 111, 107, 101, 45, 119, 105, 100, 116, 104]⟩ : ByteArray) [.string (⟨#[115, 116, 114, 111, 107, 101, 45, 119, 105, 100, 116, 104]⟩ : ByteArray)] from rfl) (Reps.one (show Kd.M Kd.string _ _ _ (⟨#[118, 105, 115, 105, 98, 105, 108, 105, 116, 121]⟩ : ByteArray) [.string (⟨#[118, 105, 115, 105, 98, 105, 108, 105, 116, 121]⟩ : ByteArray)] from rfl) (Reps.none _ _)))))))))))))))))); intro v102 w1 ho2 hb hg_ hnew_; clear hg_ hnew_; (first | rw [← Ny101.out] at ho2 | (simp only [Int.reduceToNat] at ho2; rw [← Ny101.out] at ho2)); have n0_ := Aside0.mk (Kd.R_lower ho2 (below_size (by repeat (first | (with_reducible first | exact HB.out | apply below_alloc | apply pw_below_drewN | apply below_drew1) | exact HB.out)))); have n1_ := Aside0.mk (below_step (by repeat (first | (with_reducible first | exact HB.out | apply below_alloc | apply pw_below_drewN | apply below_drew1) | exact HB.out)) hb); clear HB; have HO103 := n0_; have HB := n1_; clear n0_ n1_; clear hb ho2))
  go_ret
  exact ⟨_, by first | rfl | (simp [errW_none, errW_some] <;> rfl) | (simp [*, errW_none, errW_some] <;> rfl), by (with_reducible repeat (first | apply Kd.R_alloc | apply Kd.R_drewN | apply Kd.R_drew)); exact HO103.out, by repeat (first | (with_reducible first | exact HB.out | apply below_alloc | apply pw_below_drewN | apply below_drew1) | exact HB.out)⟩

/-! ### spec_FirstValue: function 18 -/
def spec_FirstValue.l0 : Nat → ByteArray → List ByteArray → List ByteArray → Int → Int → Option (ByteArray × Bool)
  | 0, _, _, _, _, _ => none
  | k + 1, x0, x4, x8, x9, x10 => if x10 < x9 then (if 0 ≤ x10 then (if x10 < (x8.length : Int) then (if (rdOf ByteArray.empty x8 x10).toList = x0.toList then (if x10 < (x4.length : Int) then (some (rdOf ByteArray.empty x4 x10, true)) else (none)) else (spec_FirstValue.l0 k x0 x4 x8 x9 (wrap64 (x10 + 1)))) else (none)) else (none)) else (some ((⟨#[]⟩ : ByteArray), false))
def spec_FirstValue.f (k : Nat) (a0 : ByteArray) : Option (ByteArray × Bool) := (spec_Properties.f).bind fun t107 => (spec_FirstValue.l0 k a0 (([(⟨#[110, 111, 110, 101]⟩ : ByteArray), (⟨#[98, 108, 97, 99, 107]⟩ : ByteArray), (⟨#[105, 110, 108, 105, 110, 101]⟩ : ByteArray), (⟨#[98, 108, 97, 99, 107]⟩ : ByteArray), (⟨#[49]⟩ : ByteArray), (⟨#[110, 111, 110, 122, 101, 114, 111]⟩ : ByteArray), (⟨#[48]⟩ : ByteArray), (⟨#[49]⟩ : ByteArray), (⟨#[98, 108, 97, 99, 107]⟩ : ByteArray), (⟨#[110, 111, 110, 101]⟩ : ByteArray), (⟨#[110, 111, 110, 101]⟩ : ByteArray), (⟨#[98, 117, 116, 116]⟩ : ByteArray), (⟨#[109, 105, 116, 101, 114]⟩ : ByteArray), (⟨#[49]⟩ : ByteArray), (⟨#[49]⟩ : ByteArray), (⟨#[118, 105, 115, 105, 98, 108, 101]⟩ : ByteArray)] : List ByteArray)) t107 (t107.length : Int) 0)
theorem spec_FirstValue.mono_l : ∀ k, (∀ y0 y1 y2 y3 y4, LeO (spec_FirstValue.l0 k y0 y1 y2 y3 y4) (spec_FirstValue.l0 (k + 1) y0 y1 y2 y3 y4))
  | 0 => fun _ _ _ _ _ r h => by simp [spec_FirstValue.l0] at h
  | k + 1 => by
    have ih0 := spec_FirstValue.mono_l k
    · intro y0 y1 y2 y3 y4
      unfold spec_FirstValue.l0
      repeat' first
      | (with_reducible exact ih0 _ _ _ _ _)
      | (with_reducible exact LeO.refl _)
      | (with_reducible exact LeO.none _)
      | (with_reducible refine LeO.ite ?_ ?_)
      | (with_reducible refine LeO.bind ?_ (fun _ => ?_))
      | exact ih0 _ _ _ _ _
      | exact LeO.none _
      | refine LeO.ite ?_ ?_
      | refine LeO.bind ?_ (fun _ => ?_)
theorem spec_FirstValue.mono : ∀ a0 k, LeO (spec_FirstValue.f k a0) (spec_FirstValue.f (k + 1) a0) := by
  intro a0 k
  have ih0 := spec_FirstValue.mono_l k
  unfold spec_FirstValue.f
  repeat' first
      | (with_reducible exact ih0 _ _ _ _ _)
      | (with_reducible exact LeO.refl _)
      | (with_reducible exact LeO.none _)
      | (with_reducible refine LeO.ite ?_ ?_)
      | (with_reducible refine LeO.bind ?_ (fun _ => ?_))
      | exact ih0 _ _ _ _ _
      | exact LeO.none _
      | refine LeO.ite ?_ ?_
      | refine LeO.bind ?_ (fun _ => ?_)
set_option maxHeartbeats 8000000 in
set_option maxRecDepth 100000 in
theorem spec_FirstValue.calls (k : Nat) (a0 : ByteArray) (r1 : ByteArray) (r2 : Bool) (w : World) (h : spec_FirstValue.f k a0 = some (r1, r2)) :
    Calls Try.prog 18 #[.string a0] w fun e w' => e = .returned (.tuple #[.string r1, .bool r2]) ∧ Below w.heap.size w w' := by
  have HB := Aside0.mk (Below.refl w.heap.size w)
  have H : ((spec_Properties.f).bind fun t107 => (spec_FirstValue.l0 k a0 (([(⟨#[110, 111, 110, 101]⟩ : ByteArray), (⟨#[98, 108, 97, 99, 107]⟩ : ByteArray), (⟨#[105, 110, 108, 105, 110, 101]⟩ : ByteArray), (⟨#[98, 108, 97, 99, 107]⟩ : ByteArray), (⟨#[49]⟩ : ByteArray), (⟨#[110, 111, 110, 122, 101, 114, 111]⟩ : ByteArray), (⟨#[48]⟩ : ByteArray), (⟨#[49]⟩ : ByteArray), (⟨#[98, 108, 97, 99, 107]⟩ : ByteArray), (⟨#[110, 111, 110, 101]⟩ : ByteArray), (⟨#[110, 111, 110, 101]⟩ : ByteArray), (⟨#[98, 117, 116, 116]⟩ : ByteArray), (⟨#[109, 105, 116, 101, 114]⟩ : ByteArray), (⟨#[49]⟩ : ByteArray), (⟨#[49]⟩ : ByteArray), (⟨#[118, 105, 115, 105, 98, 108, 101]⟩ : ByteArray)] : List ByteArray)) t107 (t107.length : Int) 0)) = some (r1, r2) := h
  clear h
  obtain ⟨y104, hy104⟩ : ∃ y_ : List ByteArray, y_ = (([(⟨#[110, 111, 110, 101]⟩ : ByteArray), (⟨#[98, 108, 97, 99, 107]⟩ : ByteArray), (⟨#[105, 110, 108, 105, 110, 101]⟩ : ByteArray), (⟨#[98, 108, 97, 99, 107]⟩ : ByteArray), (⟨#[49]⟩ : ByteArray), (⟨#[110, 111, 110, 122, 101, 114, 111]⟩ : ByteArray), (⟨#[48]⟩ : ByteArray), (⟨#[49]⟩ : ByteArray), (⟨#[98, 108, 97, 99, 107]⟩ : ByteArray), (⟨#[110, 111, 110, 101]⟩ : ByteArray), (⟨#[110, 111, 110, 101]⟩ : ByteArray), (⟨#[98, 117, 116, 116]⟩ : ByteArray), (⟨#[109, 105, 116, 101, 114]⟩ : ByteArray), (⟨#[49]⟩ : ByteArray), (⟨#[49]⟩ : ByteArray), (⟨#[118, 105, 115, 105, 98, 108, 101]⟩ : ByteArray)] : List ByteArray)) := ⟨_, rfl⟩
  replace H : ((spec_Properties.f).bind fun t107 => (spec_FirstValue.l0 k a0 y104 t107 (t107.length : Int) 0)) = some (r1, r2) := by first | (rw [hy104]; with_reducible exact H) | (have H2_ := (Option.bind_some _ _).symm.trans H; rw [hy104]; with_reducible exact H2_) | (have H2_ := (Option.bind_some _ _).symm.trans H; with_reducible exact H2_) | with_reducible exact H | (rw [hy104]; exact H) | exact H
  have Ny104 := Aside0.mk hy104
  clear hy104
  replace H := Option.bind_eq_some_iff.mp H
  obtain ⟨t107, A20, H⟩ := H
  replace H : (spec_FirstValue.l0 k a0 y104 t107 (t107.length : Int) 0) = some (r1, r2) := H
  have A2 := Aside0.mk A20
  clear A20
  have H' := Aside0.mk H
  clear H
  go_enter Try.func18, Try.ntmps18
  go_wp2_with (first | ((with_reducible refine gate_dst (N := 7) rfl ?_); refine Kd.R_lit Kd.string _ 9 ?hg (N := 7) ?hd (xs := ([(⟨#[110, 111, 110, 101]⟩ : ByteArray), (⟨#[98, 108, 97, 99, 107]⟩ : ByteArray), (⟨#[105, 110, 108, 105, 110, 101]⟩ : ByteArray), (⟨#[98, 108, 97, 99, 107]⟩ : ByteArray), (⟨#[49]⟩ : ByteArray), (⟨#[110, 111, 110, 122, 101, 114, 111]⟩ : ByteArray), (⟨#[48]⟩ : ByteArray), (⟨#[49]⟩ : ByteArray), (⟨#[98, 108, 97, 99, 107]⟩ : ByteArray), (⟨#[110, 111, 110, 101]⟩ : ByteArray), (⟨#[110, 111, 110, 101]⟩ : ByteArray), (⟨#[98, 117, 116, 116]⟩ : ByteArray), (⟨#[109, 105, 116, 101, 114]⟩ : ByteArray), (⟨#[49]⟩ : ByteArray), (⟨#[49]⟩ : ByteArray), (⟨#[118, 105, 115, 105, 98, 108, 101]⟩ : ByteArray)] : List ByteArray)) (inner := [.string (⟨#[110, 111, 110, 101]⟩ : ByteArray), .string (⟨#[98, 108, 97, 99, 107]⟩ : ByteArray), .string (⟨#[105, 110, 108, 105, 110, 101]⟩ : ByteArray), .string (⟨#[98, 108, 97, 99, 107]⟩ : ByteArray), .string (⟨#[49]⟩ : ByteArray), .string (⟨#[110, 111, 110, 122, 101, 114, 111]⟩ : ByteArray), .string (⟨#[48]⟩ : ByteArray), .string (⟨#[49]⟩ : ByteArray), .string (⟨#[98, 108, 97, 99, 107]⟩ : ByteArray), .string (⟨#[110, 111, 110, 101]⟩ : ByteArray), .string (⟨#[110, 111, 110, 101]⟩ : ByteArray), .string (⟨#[98, 117, 116, 116]⟩ : ByteArray), .string (⟨#[109, 105, 116, 101, 114]⟩ : ByteArray), .string (⟨#[49]⟩ : ByteArray), .string (⟨#[49]⟩ : ByteArray), .string (⟨#[118, 105, 115, 105, 98, 108, 101]⟩ : ByteArray)]) (ok := fun _ => True) (okp := fun _ => True) ?hr ?hp (fun _ hk => hk) trivial (Below.refl _ _) (Nat.le_refl _) (by simp) ?_; (case hd => rfl); (case hg => rfl); (case hr => first | (go_simp; done) | (go_simp; rfl)); (case hp => exact (Reps.one (show Kd.M Kd.string _ _ _ (⟨#[110, 111, 110, 101]⟩ : ByteArray) [.string (⟨#[110, 111, 110, 101]⟩ : ByteArray)] from rfl) (Reps.one (show Kd.M Kd.string _ _ _ (⟨#[98, 108, 97, 99, 107]⟩ : ByteArray) [.string (⟨#[98, 108, 97, 99, 107]⟩ : ByteArray)] from rfl) (Reps.one (show Kd.M Kd.string _ _ _ (⟨#[105, 110, 108, 105, 110, 101]⟩ : ByteArray) [.string (⟨#[105, 110, 108, 105, 110, 101]⟩ : ByteArray)] from rfl) (Reps.one (show Kd.M Kd.string _ _ _ (⟨#[98, 108, 97, 99, 107]⟩ : ByteArray) [.string (⟨#[98, 108, 97, 99, 107]⟩ : ByteArray)] from rfl) (Reps.one (show Kd.M Kd.string _ _ _ (⟨#[49]⟩ : ByteArray) [.string (⟨#[49]⟩ : ByteArray)] from rfl) (Reps.one (show Kd.M Kd.string _ _ _ (⟨#[110, 111, 110, 122, 101, 114, 111]⟩ : ByteArray) [.string (⟨#[110, 111, 110, 122, 101, 114, 111]⟩ : ByteArray)] from rfl) (Reps.one (show Kd.M Kd.string _ _ _ (⟨#[48]⟩ : ByteArray) [.string (⟨#[48]⟩ : ByteArray)] from rfl) (Reps.one (show Kd.M Kd.string _ _ _ (⟨#[49]⟩ : ByteArray) [.string (⟨#[49]⟩ : ByteArray)] from rfl) (Reps.one (show Kd.M Kd.string _ _ _ (⟨#[98, 108, 97, 99, 107]⟩ : ByteArray) [.string (⟨#[98, 108, 97, 99, 107]⟩ : ByteArray)] from rfl) (Reps.one (show Kd.M Kd.string _ _ _ (⟨#[110, 111, 110, 101]⟩ : ByteArray) [.string (⟨#[110, 111, 110, 101]⟩ : ByteArray)] from rfl) (Reps.one (show Kd.M Kd.string _ _ _ (⟨#[110, 111, 110, 101]⟩ : ByteArray) [.string (⟨#[110, 111, 110, 101]⟩ : ByteArray)] from rfl) (Reps.one (show Kd.M Kd.string _ _ _ (⟨#[98, 117, 116, 116]⟩ : ByteArray) [.string (⟨#[98, 117, 116, 116]⟩ : ByteArray)] from rfl) (Reps.one (show Kd.M Kd.string _ _ _ (⟨#[109, 105, 116, 101, 114]⟩ : ByteArray) [.string (⟨#[109, 105, 116, 101, 114]⟩ : ByteArray)] from rfl) (Reps.one (show Kd.M Kd.string _ _ _ (⟨#[49]⟩ : ByteArray) [.string (⟨#[49]⟩ : ByteArray)] from rfl) (Reps.one (show Kd.M Kd.string _ _ _ (⟨#[49]⟩ : ByteArray) [.string (⟨#[49]⟩ : ByteArray)] from rfl) (Reps.one (show Kd.M Kd.string _ _ _ (⟨#[118, 105, 115, 105, 98, 108, 101]⟩ : ByteArray) [.string (⟨#[118, 105, 115, 105, 98, 108, 101]⟩ : ByteArray)] from rfl) (Reps.none _ _)))))))))))))))))); intro v105 w3 ho4 hb hg_ hnew_; clear hg_ hnew_; (first | rw [← Ny104.out] at ho4 | (simp only [Int.reduceToNat] at ho4; rw [← Ny104.out] at ho4)); have n0_ := Aside0.mk (Kd.R_lower ho4 (below_size (by repeat (first | (with_reducible first | exact HB.out | apply below_alloc | apply pw_below_drewN | apply below_drew1) | exact HB.out)))); have n1_ := Aside0.mk (below_step (by repeat (first | (with_reducible first | exact HB.out | apply below_alloc | apply pw_below_drewN | apply below_drew1) | exact HB.out)) hb); clear HB; have HO106 := n0_; have HB := n1_; clear n0_ n1_; clear hb ho4) | ((with_reducible refine gate_callee (f := 30) rfl ?_); refine goesL_ (some 8) rfl rfl Try.func30 (by kernel_rfl) rfl #[] rfl (by (try simp only [List.map_toArray, List.map_cons, List.map_nil]); first | done | rfl | (simp only [List.length_drop, List.length_take]; rfl)) ?_; (with_reducible refine (spec_Properties.calls  t107 _ A2.out).mono ?_); rintro e w5 ⟨v108, rfl, ho0, hb⟩; refine ⟨_, rfl, ?_⟩; have n0_ := Aside0.mk (Kd.R_elder' (by (with_reducible repeat (first | apply Kd.R_alloc | apply Kd.R_drewN | apply Kd.R_drew)); exact HO106.out) (Kd.R_base ho0) hb); have n1_ := Aside0.mk (Kd.R_lower (Kd.R_new' ho0 (Kd.R_lt (by (with_reducible repeat (first | apply Kd.R_alloc | apply Kd.R_drewN | apply Kd.R_drew)); exact HO106.out))) (below_size (by repeat (first | (with_reducible first | exact HB.out | apply below_alloc | apply pw_below_drewN | apply below_drew1) | exact HB.out)))); have n2_ := Aside0.mk (below_step (by repeat (first | (with_reducible first | exact HB.out | apply below_alloc | apply pw_below_drewN | apply below_drew1) | exact HB.out)) hb); clear HO106; clear HB; have HO106 := n0_; have HO109 := n1_; have HB := n2_; clear n0_ n1_ n2_; (try clear hb); (try clear hb2); (try clear hk); (try clear hi); (try clear ho0); obtain ⟨Ao6, co6, eo6⟩ := Kd.R_slice HO109.out; subst eo6))
  go_loopg [10] k (fun kq v10 w' => ∃ (x10_1 : Int), v10 = .int .i64 x10_1 ∧ Aside0 (spec_FirstValue.l0 kq a0 y104 t107 (t107.length : Int) x10_1 = some (r1, r2)) ∧ Aside0 (kq ≤ k) ∧ Aside0 (Kd.R Kd.string 9 w' w.heap.size (fun k_ => some k_ ≠ ((.slice Ao6 t107.length co6) : Value).ownBlock) v105 y104) ∧ Aside0 (Kd.R Kd.string 9 w' w.heap.size (fun k_ => some k_ ≠ (v105 : Value).ownBlock) (.slice Ao6 t107.length co6) t107) ∧ Aside0 (Below w.heap.size w w'))
  case atStart => exact ⟨(0), (by first | rfl | (simp; done) | (simp [*]; done)), H', ⟨Nat.le_refl _⟩, ⟨by (with_reducible repeat (first | apply Kd.R_alloc | apply Kd.R_drewN | apply Kd.R_drew)); exact Kd.R_mono HO106.out (fun _ hk => hk.2)⟩, ⟨by (with_reducible repeat (first | apply Kd.R_alloc | apply Kd.R_drewN | apply Kd.R_drew)); exact Kd.R_mono HO109.out (fun _ hk => hk.2)⟩, ⟨by repeat (first | (with_reducible first | exact HB.out | apply below_alloc | apply pw_below_drewN | apply below_drew1) | exact HB.out)⟩⟩
  case round =>
    clear H'
    try clear c1
    try clear p2
    try clear c3
    obtain ⟨x10_1, rfl, HA, HK1, HO_4, HO_8, HB⟩ := hrel
    cases gk with
    | zero => exact absurd HA.out (by simp [spec_FirstValue.l0])
    | succ k1 =>
      have H := HA.out
      clear HA
      simp only [spec_FirstValue.l0] at H
      by_cases c7 : x10_1 < (t107.length : Int)
      · rw [if_pos c7] at H
        have c7b0 : decide (x10_1 < (t107.length : Int)) = true := decide_eq_true c7
        clear c7
        by_cases c8 : 0 ≤ x10_1
        · rw [if_pos c8] at H
          have c8b0 : decide (0 ≤ x10_1) = true := decide_eq_true c8
          clear c8
          by_cases c9 : x10_1 < (t107.length : Int)
          · rw [if_pos c9] at H
            have c9b0 : decide (x10_1 < (t107.length : Int)) = true := decide_eq_true c9
            clear c9
            by_cases c10 : (rdOf ByteArray.empty t107 x10_1).toList = a0.toList
            · rw [if_pos c10] at H
              have c10b0 : ((rdOf ByteArray.empty t107 x10_1).toList == a0.toList) = true := beq_iff_eq.mpr c10
              have c10b1 : ((rdOf ByteArray.empty t107 x10_1).toList != a0.toList) = false := bne_eq_false_iff_eq.mpr c10
              clear c10
              by_cases c11 : x10_1 < (y104.length : Int)
              · rw [if_pos c11] at H
                have c11b0 : decide (x10_1 < (y104.length : Int)) = true := decide_eq_true c11
                clear c11
                simp only [Option.some.injEq, Prod.mk.injEq] at H
                obtain ⟨rfl, rfl⟩ := H
                have p110 : 0 ≤ (x10_1 : Int) := of_decide_eq_true (by first | (with_reducible assumption) | assumption)
                have q110 : x10_1 < (t107.length : Int) := of_decide_eq_true (by first | (with_reducible assumption) | assumption)
                obtain ⟨ad110, e110, hx110_0⟩ := Kd.at_string (Kd.R_reads' HO_8.out).2.2 x10_1 p110 q110
                cases e110
                replace p110 := eq_true p110
                replace q110 := eq_true q110
                obtain ⟨Ao12, co12, eo12⟩ := Kd.R_slice HO_4.out
                subst eo12
                have p111 : 0 ≤ (x10_1 : Int) := of_decide_eq_true (by first | (with_reducible assumption) | assumption)
                have q111 : x10_1 < (y104.length : Int) := of_decide_eq_true (by first | (with_reducible assumption) | assumption)
                obtain ⟨ad111, e111, hx111_0⟩ := Kd.at_string (Kd.R_reads' HO_4.out).2.2 x10_1 p111 q111
                cases e111
                replace p111 := eq_true p111
                replace q111 := eq_true q111
                go_wp2
                go_ret2
                exact ⟨by first | rfl | (simp [errW_none, errW_some] <;> rfl) | (simp [*, errW_none, errW_some] <;> rfl), by repeat (first | (with_reducible first | exact HB.out | apply below_alloc | apply pw_below_drewN | apply below_drew1) | exact HB.out)⟩
              · rw [if_neg c11] at H
                exact absurd H (by simp)
            · rw [if_neg c10] at H
              have c10b0 : ((rdOf ByteArray.empty t107 x10_1).toList == a0.toList) = false := beq_eq_false_iff_ne.mpr c10
              have c10b1 : ((rdOf ByteArray.empty t107 x10_1).toList != a0.toList) = true := bne_iff_ne.mpr c10
              have H' := Aside0.mk H
              clear H
              have p110 : 0 ≤ (x10_1 : Int) := of_decide_eq_true (by first | (with_reducible assumption) | assumption)
              have q110 : x10_1 < (t107.length : Int) := of_decide_eq_true (by first | (with_reducible assumption) | assumption)
              obtain ⟨ad110, e110, hx110_0⟩ := Kd.at_string (Kd.R_reads' HO_8.out).2.2 x10_1 p110 q110
              cases e110
              replace p110 := eq_true p110
              replace q110 := eq_true q110
              go_wp2
              go_roundg k1
              case measure => have := HK1.out; omega
              case rel => exact ⟨(wrap64 (x10_1 + 1)), (by first | rfl | (simp; done) | (simp [*]; done)), H', ⟨by have := HK1.out; omega⟩, ⟨by (with_reducible repeat (first | apply Kd.R_alloc | apply Kd.R_drewN | apply Kd.R_drew)); exact HO_4.out⟩, ⟨by (with_reducible repeat (first | apply Kd.R_alloc | apply Kd.R_drewN | apply Kd.R_drew)); exact HO_8.out⟩, ⟨by repeat (first | (with_reducible first | exact HB.out | apply below_alloc | apply pw_below_drewN | apply below_drew1) | exact HB.out)⟩⟩
          · rw [if_neg c9] at H
            exact absurd H (by simp)
        · rw [if_neg c8] at H
          exact absurd H (by simp)
      · rw [if_neg c7] at H
        have c7b0 : decide (x10_1 < (t107.length : Int)) = false := decide_eq_false c7
        clear c7
        simp only [Option.some.injEq, Prod.mk.injEq] at H
        obtain ⟨rfl, rfl⟩ := H
        go_wp2
        go_ret2
        exact ⟨by first | rfl | (simp [errW_none, errW_some] <;> rfl) | (simp [*, errW_none, errW_some] <;> rfl), by repeat (first | (with_reducible first | exact HB.out | apply below_alloc | apply pw_below_drewN | apply below_drew1) | exact HB.out)⟩

/-! ### impl_properties: function 36 -/
def impl_properties.f  : Option ((List (S39))) := some (([(⟨(⟨#[99, 108, 105, 112, 45, 112, 97, 116, 104]⟩ : ByteArray), (⟨#[110, 111, 110, 101]⟩ : ByteArray), false⟩ : S39), (⟨(⟨#[99, 111, 108, 111, 114]⟩ : ByteArray), (⟨#[98, 108, 97, 99, 107]⟩ : ByteArray), true⟩ : S39), (⟨(⟨#[100, 105, 115, 112, 108, 97, 121]⟩ : ByteArray), (⟨#[105, 110, 108, 105, 110, 101]⟩ : ByteArray), false⟩ : S39), (⟨(⟨#[102, 105, 108, 108]⟩ : ByteArray), (⟨#[98, 108, 97, 99, 107]⟩ : ByteArray), true⟩ : S39), (⟨(⟨#[102, 105, 108, 108, 45, 111, 112, 97, 99, 105, 116, 121]⟩ : ByteArray), (⟨#[49]⟩ : ByteArray), true⟩ : S39), (⟨(⟨#[102, 105, 108, 108, 45, 114, 117, 108, 101]⟩ : ByteArray), (⟨#[110, 111, 110, 122, 101, 114, 111]⟩ : ByteArray), true⟩ : S39), (⟨(⟨#[111, 102, 102, 115, 101, 116]⟩ : ByteArray), (⟨#[48]⟩ : ByteArray), false⟩ : S39), (⟨(⟨#[111, 112, 97, 99, 105, 116, 121]⟩ : ByteArray), (⟨#[49]⟩ : ByteArray), false⟩ : S39), (⟨(⟨#[115, 116, 111, 112, 45, 99, 111, 108, 111, 114]⟩ : ByteArray), (⟨#[98, 108, 97, 99, 107]⟩ : ByteArray), false⟩ : S39), (⟨(⟨#[115, 116, 114, 111, 107, 101]⟩ : ByteArray), (⟨#[110, 111, 110, 101]⟩ : ByteArray), true⟩ : S39), (⟨(⟨#[115, 116, 114, 111, 107, 101, 45, 100, 97, 115, 104, 97, 114, 114, 97, 121]⟩ : ByteArray), (⟨#[110, 111, 110, 101]⟩ : ByteArray), true⟩ : S39), (⟨(⟨#[115, 116, 114, 111, 107, 101, 45, 108, 105, 110, 101, 99, 97, 112]⟩ : ByteArray), (⟨#[98, 117, 116, 116]⟩ : ByteArray), true⟩ : S39), (⟨(⟨#[115, 116, 114, 111, 107, 101, 45, 108, 105, 110, 101, 106, 111, 105, 110]⟩ : ByteArray), (⟨#[109, 105, 116, 101, 114]⟩ : ByteArray), true⟩ : S39), (⟨(⟨#[115, 116, 114, 111, 107, 101, 45, 111, 112, 97, 99, 105, 116, 121]⟩ : ByteArray), (⟨#[49]⟩ : ByteArray), true⟩ : S39), (⟨(⟨#[115, 116, 114, 111, 107, 101, 45, 119, 105, 100, 116, 104]⟩ : ByteArray), (⟨#[49]⟩ : ByteArray), true⟩ : S39), (⟨(⟨#[118, 105, 115, 105, 98, 105, 108, 105, 116, 121]⟩ : ByteArray), (⟨#[118, 105, 115, 105, 98, 108, 101]⟩ : ByteArray), true⟩ : S39)] : List (S39)))
set_option maxHeartbeats 8000000 in
set_option maxRecDepth 100000 in
theorem impl_properties.calls  (r : List (S39)) (w : World) (h : impl_properties.f  = some r) :
    Calls Try.prog 36 #[] w fun e w' => ∃ v0_ : Value, e = .returned (v0_) ∧ Kd.R k39 39 w' w.heap.size (fun _ => True) v0_ r ∧ Below w.heap.size w w' := by
  have hu39 := Try.underlying39
  have HB := Aside0.mk (Below.refl w.heap.size w)
  have H : (some (([(⟨(⟨#[99, 108, 105, 112, 45, 112, 97, 116, 104]⟩ : ByteArray), (⟨#[110, 111, 110, 101]⟩ : ByteArray), false⟩ : S39), (⟨(⟨#[99, 111, 108, 111, 114]⟩ : ByteArray), (⟨#[98, 108, 97, 99, 107]⟩ : ByteArray), true⟩ : S39), (⟨(⟨#[100, 105, 115, 112, 108, 97, 121]⟩ : ByteArray), (⟨#[105, 110, 108, 105, 110, 101]⟩ : ByteArray), false⟩ : S39), (⟨(⟨#[102, 105, 108, 108]⟩ : ByteArray), (⟨#[98, 108, 97, 99, 107]⟩ : ByteArray), true⟩ : S39), (⟨(⟨#[102, 105, 108, 108, 45, 111, 112, 97, 99, 105, 116, 121]⟩ : ByteArray), (⟨#[49]⟩ : ByteArray), true⟩ : S39), (⟨(⟨#[102, 105, 108, 108, 45, 114, 117, 108, 101]⟩ : ByteArray), (⟨#[110, 111, 110, 122, 101, 114, 111]⟩ : ByteArray), true⟩ : S39), (⟨(⟨#[111, 102, 102, 115, 101, 116]⟩ : ByteArray), (⟨#[48]⟩ : ByteArray), false⟩ : S39), (⟨(⟨#[111, 112, 97, 99, 105, 116, 121]⟩ : ByteArray), (⟨#[49]⟩ : ByteArray), false⟩ : S39), (⟨(⟨#[115, 116, 111, 112, 45, 99, 111, 108, 111, 114]⟩ : ByteArray), (⟨#[98, 108, 97, 99, 107]⟩ : ByteArray), false⟩ : S39), (⟨(⟨#[115, 116, 114, 111, 107, 101]⟩ : ByteArray), (⟨#[110, 111, 110, 101]⟩ : ByteArray), true⟩ : S39), (⟨(⟨#[115, 116, 114, 111, 107, 101, 45, 100, 97, 115, 104, 97, 114, 114, 97, 121]⟩ : ByteArray), (⟨#[110, 111, 110, 101]⟩ : ByteArray), true⟩ : S39), (⟨(⟨#[115, 116, 114, 111, 107, 101, 45, 108, 105, 110, 101, 99, 97, 112]⟩ : ByteArray), (⟨#[98, 117, 116, 116]⟩ : ByteArray), true⟩ : S39), (⟨(⟨#[115, 116, 114, 111, 107, 101, 45, 108, 105, 110, 101, 106, 111, 105, 110]⟩ : ByteArray), (⟨#[109, 105, 116, 101, 114]⟩ : ByteArray), true⟩ : S39), (⟨(⟨#[115, 116, 114, 111, 107, 101, 45, 111, 112, 97, 99, 105, 116, 121]⟩ : ByteArray), (⟨#[49]⟩ : ByteArray), true⟩ : S39), (⟨(⟨#[115, 116, 114, 111, 107, 101, 45, 119, 105, 100, 116, 104]⟩ : ByteArray), (⟨#[49]⟩ : ByteArray), true⟩ : S39), (⟨(⟨#[118, 105, 115, 105, 98, 105, 108, 105, 116, 121]⟩ : ByteArray), (⟨#[118, 105, 115, 105, 98, 108, 101]⟩ : ByteArray), true⟩ : S39)] : List (S39)))) = some r := h
  clear h
  obtain ⟨y112, hy112⟩ : ∃ y_ : List (S39), y_ = (([(⟨(⟨#[99, 108, 105, 112, 45, 112, 97, 116, 104]⟩ : ByteArray), (⟨#[110, 111, 110, 101]⟩ : ByteArray), false⟩ : S39), (⟨(⟨#[99, 111, 108, 111, 114]⟩ : ByteArray), (⟨#[98, 108, 97, 99, 107]⟩ : ByteArray), true⟩ : S39), (⟨(⟨#[100, 105, 115, 112, 108, 97, 121]⟩ : ByteArray), (⟨#[105, 110, 108, 105, 110, 101]⟩ : ByteArray), false⟩ : S39), (⟨(⟨#[102, 105, 108, 108]⟩ : ByteArray), (⟨#[98, 108, 97, 99, 107]⟩ : ByteArray), true⟩ : S39), (⟨(⟨#[102, 105, 108, 108, 45, 111, 112, 97, 99, 105, 116, 121]⟩ : ByteArray), (⟨#[49]⟩ : ByteArray), true⟩ : S39), (⟨(⟨#[102, 105, 108, 108, 45, 114, 117, 108, 101]⟩ : ByteArray), (⟨#[110, 111, 110, 122, 101, 114, 111]⟩ : ByteArray), true⟩ : S39), (⟨(⟨#[111, 102, 102, 115, 101, 116]⟩ : ByteArray), (⟨#[48]⟩ : ByteArray), false⟩ : S39), (⟨(⟨#[111, 112, 97, 99, 105, 116, 121]⟩ : ByteArray), (⟨#[49]⟩ : ByteArray), false⟩ : S39), (⟨(⟨#[115, 116, 111, 112, 45, 99, 111, 108, 111, 114]⟩ : ByteArray), (⟨#[98, 108, 97, 99, 107]⟩ : ByteArray), false⟩ : S39), (⟨(⟨#[115, 116, 114, 111, 107, 101]⟩ : ByteArray), (⟨#[110, 111, 110, 101]⟩ : ByteArray), true⟩ : S39), (⟨(⟨#[115, 116, 114, 111, 107, 101, 45, 100, 97, 115, 104, 97, 114, 114, 97, 121]⟩ : ByteArray), (⟨#[110, 111, 110, 101]⟩ : ByteArray), true⟩ : S39), (⟨(⟨#[115, 116, 114, 111, 107, 101, 45, 108, 105, 110, 101, 99, 97, 112]⟩ : ByteArray), (⟨#[98, 117, 116, 116]⟩ : ByteArray), true⟩ : S39), (⟨(⟨#[115, 116, 114, 111, 107, 101, 45, 108, 105, 110, 101, 106, 111, 105, 110]⟩ : ByteArray), (⟨#[109, 105, 116, 101, 114]⟩ : ByteArray), true⟩ : S39), (⟨(⟨#[115, 116, 114, 111, 107, 101, 45, 111, 112, 97, 99, 105, 116, 121]⟩ : ByteArray), (⟨#[49]⟩ : ByteArray), true⟩ : S39), (⟨(⟨#[115, 116, 114, 111, 107, 101, 45, 119, 105, 100, 116, 104]⟩ : ByteArray), (⟨#[49]⟩ : ByteArray), true⟩ : S39), (⟨(⟨#[118, 105, 115, 105, 98, 105, 108, 105, 116, 121]⟩ : ByteArray), (⟨#[118, 105, 115, 105, 98, 108, 101]⟩ : ByteArray), true⟩ : S39)] : List (S39))) := ⟨_, rfl⟩
  replace H : (some y112) = some r := by first | (rw [hy112]; with_reducible exact H) | (have H2_ := (Option.bind_some _ _).symm.trans H; rw [hy112]; with_reducible exact H2_) | (have H2_ := (Option.bind_some _ _).symm.trans H; with_reducible exact H2_) | with_reducible exact H | (rw [hy112]; exact H) | exact H
  have Ny112 := Aside0.mk hy112
  clear hy112
  obtain rfl := Option.some.inj H
  go_enter Try.func36, Try.ntmps36
  go_wp2_with (first | ((with_reducible refine gate_dst (N := 17) rfl ?_); refine Kd.R_lit k39 _ 39 ?hg (N := 17) ?hd (xs := ([(⟨(⟨#[99, 108, 105, 112, 45, 112, 97, 116, 104]⟩ : ByteArray), (⟨#[110, 111, 110, 101]⟩ : ByteArray), false⟩ : S39), (⟨(⟨#[99, 111, 108, 111, 114]⟩ : ByteArray), (⟨#[98, 108, 97, 99, 107]⟩ : ByteArray), true⟩ : S39), (⟨(⟨#[100, 105, 115, 112, 108, 97, 121]⟩ : ByteArray), (⟨#[105, 110, 108, 105, 110, 101]⟩ : ByteArray), false⟩ : S39), (⟨(⟨#[102, 105, 108, 108]⟩ : ByteArray), (⟨#[98, 108, 97, 99, 107]⟩ : ByteArray), true⟩ : S39), (⟨(⟨#[102, 105, 108, 108, 45, 111, 112, 97, 99, 105, 116, 121]⟩ : ByteArray), (⟨#[49]⟩ : ByteArray), true⟩ : S39), (⟨(⟨#[102, 105, 108, 108, 45, 114, 117, 108, 101]⟩ : ByteArray), (⟨#[110, 111, 110, 122, 101, 114, 111]⟩ : ByteArray), true⟩ : S39), (⟨(⟨#[111, 102, 102, 115, 101, 116]⟩ : ByteArray), (⟨#[48]⟩ : ByteArray), false⟩ : S39), (⟨(⟨#[111, 112, 97, 99, 105, 116, 121]⟩ : ByteArray), (⟨#[49]⟩ : ByteArray), false⟩ : S39), (⟨(⟨#[115, 116, 111, 112, 45, 99, 111, 108, 111, 114]⟩ : ByteArray), (⟨#[98, 108, 97, 99, 107]⟩ : ByteArray), false⟩ : S39), (⟨(⟨#[115, 116, 114, 111, 107, 101]⟩ : ByteArray), (⟨#[110, 111, 110, 101]⟩ : ByteArray), true⟩ : S39), (⟨(⟨#[115, 116, 114, 111, 107, 101, 45, 100, 97, 115, 104, 97, 114, 114, 97, 121]⟩ : ByteArray), (⟨#[110, 111, 110, 101]⟩ : ByteArray), true⟩ : S39), (⟨(⟨#[115, 116, 114, 111, 107, 101, 45, 108, 105, 110, 101, 99, 97, 112]⟩ : ByteArray), (⟨#[98, 117, 116, 116]⟩ : ByteArray), true⟩ : S39), (⟨(⟨#[115, 116, 114, 111, 107, 101, 45, 108, 105, 110, 101, 106, 111, 105, 110]⟩ : ByteArray), (⟨#[109, 105, 116, 101, 114]⟩ : ByteArray), true⟩ : S39), (⟨(⟨#[115, 116, 114, 111, 107, 101, 45, 111, 112, 97, 99, 105, 116, 121]⟩ : ByteArray), (⟨#[49]⟩ : ByteArray), true⟩ : S39), (⟨(⟨#[115, 116, 114, 111, 107, 101, 45, 119, 105, 100, 116, 104]⟩ : ByteArray), (⟨#[49]⟩ : ByteArray), true⟩ : S39), (⟨(⟨#[118, 105, 115, 105, 98, 105, 108, 105, 116, 121]⟩ : ByteArray), (⟨#[118, 105, 115, 105, 98, 108, 101]⟩ : ByteArray), true⟩ : S39)] : List (S39))) (inner := [.string (⟨#[99, 108, 105, 112, 45, 112, 97, 116, 104]⟩ : ByteArray), .string (⟨#[110, 111, 110, 101]⟩ : ByteArray), .bool false, .string (⟨#[99, 111, 108, 111, 114]⟩ : ByteArray), .string (⟨#[98, 108, 97, 99, 107]⟩ : ByteArray), .bool true, .string (⟨#[100, 105, 115, 112, 108, 97, 121]⟩ : ByteArray), .string (⟨#[105, 110, 108, 105, 110, 101]⟩ : ByteArray), .bool false, .string (⟨#[102, 105, 108, 108]⟩ : ByteArray), .string (⟨#[98, 108, 97, 99, 107]⟩ : ByteArray), .bool true, .string (⟨#[102, 105, 108, 108, 45, 111, 112, 97, 99, 105, 116, 121]⟩ : ByteArray), .string (⟨#[49]⟩ : ByteArray), .bool true, .string (⟨#[102, 105, 108, 108, 45, 114, 117, 108, 101]⟩ : ByteArray), .string (⟨#[110, 111, 110, 122, 101, 114, 111]⟩ : ByteArray), .bool true, .string (⟨#[111, 102, 102, 115, 101, 116]⟩ : ByteArray), .string (⟨#[48]⟩ : ByteArray), .bool false, .string (⟨#[111, 112, 97, 99, 105, 116, 121]⟩ : ByteArray), .string (⟨#[49]⟩ : ByteArray), .bool false, .string (⟨#[115, 116, 111, 112, 45, 99, 111, 108, 111, 114]⟩ : ByteArray), .string (⟨#[98, 108, 97, 99, 107]⟩ : ByteArray), .bool false, .string (⟨#[115, 116, 114, 111, 107, 101]⟩ : ByteArray), .string (⟨#[110, 111, 110, 101]⟩ : ByteArray), .bool true, .string (⟨#[115, 116, 114, 111, 107, 101, 45, 100, 97, 115, 104, 97, 114, 114, 97, 121]⟩ : ByteArray), .string (⟨#[110, 111, 110, 101]⟩ : ByteArray), .bool true, .string (⟨#[115, 116, 114, 111, 107, 101, 45, 108, 105, 110, 101, 99, 97, 112]⟩ : ByteArray), .string (⟨#[98, 117, 116, 116]⟩ : ByteArray), .bool true, .string (⟨#[115, 116, 114, 111, 107, 101, 45, 108, 105, 110, 101, 106, 111, 105, 110]⟩ : ByteArray), .string (⟨#[109, 105, 116, 101, 114]⟩ : ByteArray), .bool true, .string (⟨#[115, 116, 114, 111, 107, 101, 45, 111, 112, 97, 99, 105, 116, 121]⟩ : ByteArray), .string (⟨#[49]⟩ : ByteArray), .bool true, .string (⟨#[115, 116, 114, 111, 107, 101, 45, 119, 105, 100, 116, 104]⟩ : ByteArray), .string (⟨#[49]⟩ : ByteArray), .bool true, .string (⟨#[118, 105, 115, 105, 98, 105, 108, 105, 116, 121]⟩ : ByteArray), .string (⟨#[118, 105, 115, 105, 98, 108, 101]⟩ : ByteArray), .bool true]) (ok := fun _ => True) (okp := fun _ => True) ?hr ?hp (fun _ hk => hk) trivial (Below.refl _ _) (Nat.le_refl _) (by simp) ?_; (case hd => rfl); (case hg => rfl); (case hr => first | (go_simp; done) | (go_simp; rfl)); (case hp => exact (Reps.c3 (show Kd.M k39 _ _ _ (⟨(⟨#[99, 108, 105, 112, 45, 112, 97, 116, 104]⟩ : ByteArray), (⟨#[110, 111, 110, 101]⟩ : ByteArray), false⟩ : S39) [.string (⟨#[99, 108, 105, 112, 45, 112, 97, 116, 104]⟩ : ByteArray), .string (⟨#[110, 111, 110, 101]⟩ : ByteArray), .bool false] from (k39_mkM _ _ _ (⟨(⟨#[99, 108, 105, 112, 45, 112, 97, 116, 104]⟩ : ByteArray), (⟨#[110, 111, 110, 101]⟩ : ByteArray), false⟩ : S39) )) (Reps.c3 (show Kd.M k39 _ _ _ (⟨(⟨#[99, 111, 108, 111, 114]⟩ : ByteArray), (⟨#[98, 108, 97, 99, 107]⟩ : ByteArray), true⟩ : S39) [.string (⟨#[99, 111, 108, 111, 114]⟩ : ByteArray), .string (⟨#[98, 108, 97, 99, 107]⟩ : ByteArray), .bool true] from (k39_mkM _ _ _ (⟨(⟨#[99, 111, 108, 111, 114]⟩ : ByteArray), (⟨#[98, 108, 97, 99, 107]⟩ : ByteArray), true⟩ : S39) )) (Reps.c3 (show Kd.M k39 _ _ _ (⟨(⟨#[100, 105, 115, 112, 108, 97, 121]⟩ : ByteArray), (⟨#[105, 110, 108, 105, 110, 101]⟩ : ByteArray), false⟩ : S39) [.string (⟨#[100, 105, 115, 112, 108, 97, 121]⟩ : ByteArray), .string (⟨#[105, 110, 108, 105, 110, 101]⟩ : ByteArray), .bool false] from (k39_mkM _ _ _ (⟨(⟨#[100, 105, 115, 112, 108, 97, 121]⟩ : ByteArray), (⟨#[105, 110, 108, 105, 110, 101]⟩ : ByteArray), false⟩ : S39) )) (Reps.c3 (show Kd.M k39 _ _ _ (⟨(⟨#[102, 105, 108, 108]⟩ : ByteArray), (⟨#[98, 108, 97, 99, 107]⟩ : ByteArray), true⟩ : S39) [.string (⟨#[102, 105, 108, 108]⟩ : ByteArray), .string (⟨#[98, 108, 97, 99, 107]⟩ : ByteArray), .bool true] from (k39_mkM _ _ _ (⟨(⟨#[102, 105, 108, 108]⟩ : ByteArray), (⟨#[98, 108, 97, 99, 107]⟩ : ByteArray), true⟩ : S39) )) (Reps.c3 (show Kd.M k39 _ _ _ (⟨(⟨#[102, 105, 108, 108, 45, 111, 112, 97, 99, 105, 116, 121]⟩ : ByteArray), (⟨#[49]⟩ : ByteArray), true⟩ : S39) [.string (⟨#[102, 105, 108, 108, 45, 111, 112, 97, 99, 105, 116, 121]⟩ : ByteArray), .string (⟨#[49]⟩ : ByteArray), .bool true] from (k39_mkM _ _ _ (⟨(⟨#[102, 105, 108, 108, 45, 111, 112, 97, 99, 105, 116, 121]⟩ : ByteArray), (⟨#[49]⟩ : ByteArray), true⟩ : S39) )) (Reps.c3 (show Kd.M k39 _ _ _ (⟨(⟨#[102, 105, 108, 108, 45, 114, 117, 108, 101]⟩ : ByteArray), (⟨#[110, 111, 110, 122, 101, 114, 111]⟩ : ByteArray), true⟩ : S39) [.string (⟨#[102, 105, 108, 108, 45, 114, 117, 108, 101]⟩ : ByteArray), .string (⟨#[110, 111, 110, 122, 101, 114, 111]⟩ : ByteArray), .bool true] from (k39_mkM _ _ _ (⟨(⟨#[102, 105, 108, 108, 45, 114, 117, 108, 101]⟩ : ByteArray), (⟨#[110, 111, 110, 122, 101, 114, 111]⟩ : ByteArray), true⟩ : S39) )) (Reps.c3 (show Kd.M k39 _ _ _ (⟨(⟨#[111, 102, 102, 115, 101, 116]⟩ : ByteArray), (⟨#[48]⟩ : ByteArray), false⟩ : S39) [.string (⟨#[111, 102, 102, 115, 101, 116]⟩ : ByteArray), .string (⟨#[48]⟩ : ByteArray), .bool false] from (k39_mkM _ _ _ (⟨(⟨#[111, 102, 102, 115, 101, 116]⟩ : ByteArray), (⟨#[48]⟩ : ByteArray), false⟩ : S39) )) (Reps.c3 (show Kd.M k39 _ _ _ (⟨(⟨#[111, 112, 97, 99, 105, 116, 121]⟩ : ByteArray), (⟨#[49]⟩ : ByteArray), false⟩ : S39) [.string (⟨#[111, 112, 97, 99, 105, 116, 121]⟩ : ByteArray), .string (⟨#[49]⟩ : ByteArray), .bool false] from (k39_mkM _ _ _ (⟨(⟨#[111, 112, 97, 99, 105, 116, 121]⟩ : ByteArray), (⟨#[49]⟩ : ByteArray), false⟩ : S39) )) (Reps.c3 (show Kd.M k39 _ _ _ (⟨(⟨#[115, 116, 111, 112, 45, 99, 111, 108, 111, 114]⟩ : ByteArray), (⟨#[98, 108, 97, 99, 107]⟩ : ByteArray), false⟩ : S39) [.string (⟨#[115, 116, 111, 112, 45, 99, 111, 108, 111, 114]⟩ : ByteArray), .string (⟨#[98, 108, 97, 99, 107]⟩ : ByteArray), .bool false] from (k39_mkM _ _ _ (⟨(⟨#[115, 116, 111, 112, 45, 99, 111, 108, 111, 114]⟩ : ByteArray), (⟨#[98, 108, 97, 99, 107]⟩ : ByteArray), false⟩ : S39) )) (Reps.c3 (show Kd.M k39 _ _ _ (⟨(⟨#[115, 116, 114, 111, 107, 101]⟩ : ByteArray), (⟨#[110, 111, 110, 101]⟩ : ByteArray), true⟩ : S39) [.string (⟨#[115, 116, 114, 111, 107, 101]⟩ : ByteArray), .string (⟨#[110, 111, 110, 101]⟩ : ByteArray), .bool true] from (k39_mkM _ _ _ (⟨(⟨#[115, 116, 114, 111, 107, 101]⟩ : ByteArray), (⟨#[110, 111, 110, 101]⟩ : ByteArray), true⟩ : S39) )) (Reps.c3 (show Kd.M k39 _ _ _ (⟨(⟨#[115, 116, 114, 111, 107, 101, 45, 100, 97, 115, 104, 97, 114, 114, 97, 121]⟩ : ByteArray), (⟨#[110, 111, 110, 101]⟩ : ByteArray), true⟩ : S39) [.string (⟨#[115, 116, 114, 111, 107, 101, 45, 100, 97, 115, 104, 97, 114, 114, 97, 121]⟩ : ByteArray), .string (⟨#[110, 111, 110, 101]⟩ : ByteArray), .bool true] from (k39_mkM _ _ _ (⟨(⟨#[115, 116, 114, 111, 107, 101, 45, 100, 97, 115, 104, 97, 114, 114, 97, 121]⟩ : ByteArray), (⟨#[110, 111, 110, 101]⟩ : ByteArray), true⟩ : S39) )) (Reps.c3 (show Kd.M k39 _ _ _ (⟨(⟨#[115, 116, 114, 111, 107, 101, 45, 108, 105, 110, 101, 99, 97, 112]⟩ : ByteArray), (⟨#[98, 117, 116, 116]⟩ : ByteArray), true⟩ : S39) [.string (⟨#[115, 116, 114, 111, 107, 101, 45, 108, 105, 110, 101, 99, 97, 112]⟩ : ByteArray), .string (⟨#[98, 117, 116, 116]⟩ : ByteArray), .bool true] from (k39_mkM _ _ _ (⟨(⟨#[115, 116, 114, 111, 107, 101, 45, 108, 105, 110, 101, 99, 97, 112]⟩ : ByteArray), (⟨#[98, 117, 116, 116]⟩ : ByteArray), true⟩ : S39) )) (Reps.c3 (show Kd.M k39 _ _ _ (⟨(⟨#[115, 116, 114, 111, 107, 101, 45, 108, 105, 110, 101, 106, 111, 105, 110]⟩ : ByteArray), (⟨#[109, 105, 116, 101, 114]⟩ : ByteArray), true⟩ : S39) [.string (⟨#[115, 116, 114, 111, 107, 101, 45, 108, 105, 110, 101, 106, 111, 105, 110]⟩ : ByteArray), .string (⟨#[109, 105, 116, 101, 114]⟩ : ByteArray), .bool true] from (k39_mkM _ _ _ (⟨(⟨#[115, 116, 114, 111, 107, 101, 45, 108, 105, 110, 101, 106, 111, 105, 110]⟩ : ByteArray), (⟨#[109, 105, 116, 101, 114]⟩ : ByteArray), true⟩ : S39) )) (Reps.c3 (show Kd.M k39 _ _ _ (⟨(⟨#[115, 116, 114, 111, 107, 101, 45, 111, 112, 97, 99, 105, 116, 121]⟩ : ByteArray), (⟨#[49]⟩ : ByteArray), true⟩ : S39) [.string (⟨#[115, 116, 114, 111, 107, 101, 45, 111, 112, 97, 99, 105, 116, 121]⟩ : ByteArray), .string (⟨#[49]⟩ : ByteArray), .bool true] from (k39_mkM _ _ _ (⟨(⟨#[115, 116, 114, 111, 107, 101, 45, 111, 112, 97, 99, 105, 116, 121]⟩ : ByteArray), (⟨#[49]⟩ : ByteArray), true⟩ : S39) )) (Reps.c3 (show Kd.M k39 _ _ _ (⟨(⟨#[115, 116, 114, 111, 107, 101, 45, 119, 105, 100, 116, 104]⟩ : ByteArray), (⟨#[49]⟩ : ByteArray), true⟩ : S39) [.string (⟨#[115, 116, 114, 111, 107, 101, 45, 119, 105, 100, 116, 104]⟩ : ByteArray), .string (⟨#[49]⟩ : ByteArray), .bool true] from (k39_mkM _ _ _ (⟨(⟨#[115, 116, 114, 111, 107, 101, 45, 119, 105, 100, 116, 104]⟩ : ByteArray), (⟨#[49]⟩ : ByteArray), true⟩ : S39) )) (Reps.c3 (show Kd.M k39 _ _ _ (⟨(⟨#[118, 105, 115, 105, 98, 105, 108, 105, 116, 121]⟩ : ByteArray), (⟨#[118, 105, 115, 105, 98, 108, 101]⟩ : ByteArray), true⟩ : S39) [.string (⟨#[118, 105, 115, 105, 98, 105, 108, 105, 116, 121]⟩ : ByteArray), .string (⟨#[118, 105, 115, 105, 98, 108, 101]⟩ : ByteArray), .bool true] from (k39_mkM _ _ _ (⟨(⟨#[118, 105, 115, 105, 98, 105, 108, 105, 116, 121]⟩ : ByteArray), (⟨#[118, 105, 115, 105, 98, 108, 101]⟩ : ByteArray), true⟩ : S39) )) (Reps.none _ _)))))))))))))))))); intro v113 w1 ho2 hb hg_ hnew_; clear hg_ hnew_; (first | rw [← Ny112.out] at ho2 | (simp only [Int.reduceToNat] at ho2; rw [← Ny112.out] at ho2)); have n0_ := Aside0.mk (Kd.R_lower ho2 (below_size (by repeat (first | (with_reducible first | exact HB.out | apply below_alloc | apply pw_below_drewN | apply below_drew1) | exact HB.out)))); have n1_ := Aside0.mk (below_step (by repeat (first | (with_reducible first | exact HB.out | apply below_alloc | apply pw_below_drewN | apply below_drew1) | exact HB.out)) hb); clear HB; have HO114 := n0_; have HB := n1_; clear n0_ n1_; clear hb ho2))
  go_ret
  exact ⟨_, by first | rfl | (simp [errW_none, errW_some] <;> rfl) | (simp [*, errW_none, errW_some] <;> rfl), by (with_reducible repeat (first | apply Kd.R_alloc | apply Kd.R_drewN | apply Kd.R_drew)); exact HO114.out, by repeat (first | (with_reducible first | exact HB.out | apply below_alloc | apply pw_below_drewN | apply below_drew1) | exact HB.out)⟩

/-! ### impl_propertyOf: function 29 -/
def impl_propertyOf.l0 : Nat → ByteArray → List (S39) → Int → Int → Option (ByteArray × ByteArray × Bool × Bool)
  | 0, _, _, _, _ => none
  | k + 1, x0, x6, x7, x8 => if x8 < x7 then (if 0 ≤ x8 then (if x8 < (x6.length : Int) then (if ((rd_T39 x6 x8).f0).toList = x0.toList then (some ((rd_T39 x6 x8).f0, (rd_T39 x6 x8).f1, (rd_T39 x6 x8).f2, true)) else (impl_propertyOf.l0 k x0 x6 x7 (wrap64 (x8 + 1)))) else (none)) else (none)) else (some ((⟨#[]⟩ : ByteArray), (⟨#[]⟩ : ByteArray), false, false))
def impl_propertyOf.f (k : Nat) (a0 : ByteArray) : Option (ByteArray × ByteArray × Bool × Bool) := (impl_properties.f).bind fun t116 => (impl_propertyOf.l0 k a0 t116 (t116.length : Int) 0)
theorem impl_propertyOf.mono_l : ∀ k, (∀ y0 y1 y2 y3, LeO (impl_propertyOf.l0 k y0 y1 y2 y3) (impl_propertyOf.l0 (k + 1) y0 y1 y2 y3))
  | 0 => fun _ _ _ _ r h => by simp [impl_propertyOf.l0] at h
  | k + 1 => by
    have ih0 := impl_propertyOf.mono_l k
    · intro y0 y1 y2 y3
      unfold impl_propertyOf.l0
      repeat' first
      | (with_reducible exact ih0 _ _ _ _)
      | (with_reducible exact LeO.refl _)
      | (with_reducible exact LeO.none _)
      | (with_reducible refine LeO.ite ?_ ?_)
      | (with_reducible refine LeO.bind ?_ (fun _ => ?_))
      | exact ih0 _ _ _ _
      | exact LeO.none _
      | refine LeO.ite ?_ ?_
      | refine LeO.bind ?_ (fun _ => ?_)
theorem impl_propertyOf.mono : ∀ a0 k, LeO (impl_propertyOf.f k a0) (impl_propertyOf.f (k + 1) a0) := by
  intro a0 k
  have ih0 := impl_propertyOf.mono_l k
  unfold impl_propertyOf.f
  repeat' first
      | (with_reducible exact ih0 _ _ _ _)
      | (with_reducible exact LeO.refl _)
      | (with_reducible exact LeO.none _)
      | (with_reducible refine LeO.ite ?_ ?_)
      | (with_reducible refine LeO.bind ?_ (fun _ => ?_))
      | exact ih0 _ _ _ _
      | exact LeO.none _
      | refine LeO.ite ?_ ?_
      | refine LeO.bind ?_ (fun _ => ?_)
set_option maxHeartbeats 8000000 in
set_option maxRecDepth 100000 in
theorem impl_propertyOf.calls (k : Nat) (a0 : ByteArray) (r1 : ByteArray) (r2 : ByteArray) (r3 : Bool) (r4 : Bool) (w : World) (h : impl_propertyOf.f k a0 = some (r1, r2, r3, r4)) :
    Calls Try.prog 29 #[.string a0] w fun e w' => e = .returned (.tuple #[.agg #[.string r1, .string r2, .bool r3], .bool r4]) ∧ Below w.heap.size w w' := by
  have hu39 := Try.underlying39
  have HB := Aside0.mk (Below.refl w.heap.size w)
  have H : ((impl_properties.f).bind fun t116 => (impl_propertyOf.l0 k a0 t116 (t116.length : Int) 0)) = some (r1, r2, r3, r4) := h
  clear h
  replace H := Option.bind_eq_some_iff.mp H
  obtain ⟨t116, A20, H⟩ := H
  replace H : (impl_propertyOf.l0 k a0 t116 (t116.length : Int) 0) = some (r1, r2, r3, r4) := H
  have A2 := Aside0.mk A20
  clear A20
  have H' := Aside0.mk H
  clear H
  go_enter Try.func29, Try.ntmps29
  go_wp2_with (first | ((with_reducible refine gate_dst (N := 2) rfl ?_); refine box_event ?hg (N := 2) ?hd (cs := #[.string (⟨#[]⟩ : ByteArray), .string (⟨#[]⟩ : ByteArray), .bool false]) (t := 39) ?hr ?_; (case hd => rfl); (case hg => rfl); (case hr => first | (go_simp; done) | (go_simp; rfl)); intro gb115 hg w3 hbox hb; have n0_ := Aside0.mk (below_step (by repeat (first | (with_reducible first | exact HB.out | apply below_alloc | apply pw_below_drewN | apply below_drew1) | exact HB.out)) hb); have n1_ := Aside0.mk (hbox); have n2_ := Aside0.mk ((by rw [hg]; exact (below_size (by repeat (first | (with_reducible first | exact HB.out | apply below_alloc | apply pw_below_drewN | apply below_drew1) | exact HB.out))) : w.heap.size ≤ gb115)); have n3_ := Aside0.mk ((by rw [hg]; exact (below_size (by repeat (first | (with_reducible first | exact HB.out | apply below_alloc | apply pw_below_drewN | apply below_drew1) | exact HB.out))) : w.heap.size ≤ gb115)); clear HB; have HB := n0_; have BK115 := n1_; have GW115 := n2_; have GE115 := n3_; clear n0_ n1_ n2_ n3_; clear hb hbox hg) | ((with_reducible refine gate_callee (f := 36) rfl ?_); refine goesL_ (some 6) rfl rfl Try.func36 (by kernel_rfl) rfl #[] rfl (by (try simp only [List.map_toArray, List.map_cons, List.map_nil]); first | done | rfl | (simp only [List.length_drop, List.length_take]; rfl)) ?_; (with_reducible refine (impl_properties.calls  t116 _ A2.out).mono ?_); rintro e w4 ⟨v117, rfl, ho0, hb⟩; refine ⟨_, rfl, ?_⟩; have n0_ := Aside0.mk (Kd.R_lower (Kd.R_newB ho0 (g := gb115) (o := .cells #[.string (⟨#[]⟩ : ByteArray), .string (⟨#[]⟩ : ByteArray), .bool false] 39 (0, 0)) (by (with_reducible repeat (first | refine blk_drewN ?_ _ | refine blk_drew ?_ | refine blk_alloc ?_ _)); exact BK115.out)) (below_size (by repeat (first | (with_reducible first | exact HB.out | apply below_alloc | apply pw_below_drewN | apply below_drew1 | refine below_set ?_ GE115.out) | exact HB.out)))); have n1_ := Aside0.mk (blk_below (g := gb115) (o := .cells #[.string (⟨#[]⟩ : ByteArray), .string (⟨#[]⟩ : ByteArray), .bool false] 39 (0, 0)) (by (with_reducible repeat (first | refine blk_drewN ?_ _ | refine blk_drew ?_ | refine blk_alloc ?_ _)); exact BK115.out) hb); have n2_ := Aside0.mk (below_step (by repeat (first | (with_reducible first | exact HB.out | apply below_alloc | apply pw_below_drewN | apply below_drew1 | refine below_set ?_ GE115.out) | exact HB.out)) hb); clear BK115; clear HB; have HO118 := n0_; have BK115 := n1_; have HB := n2_; clear n0_ n1_ n2_; (try clear hb); (try clear hb2); (try clear hk); (try clear hi); (try clear ho0); obtain ⟨Ao5, co5, eo5⟩ := Kd.R_slice HO118.out; subst eo5))
  go_loopg [8] k (fun kq v8 w' => ∃ (x8_1 : Int) (x116000_1 : ByteArray) (x116001_1 : ByteArray) (x116002_1 : Bool), v8 = .int .i64 x8_1 ∧ Aside0 (impl_propertyOf.l0 kq a0 t116 (t116.length : Int) x8_1 = some (r1, r2, r3, r4)) ∧ Aside0 (kq ≤ k) ∧ Aside0 (Kd.R k39 39 w' w.heap.size (fun k_ => k_ ≠ gb115) (.slice Ao5 t116.length co5) t116) ∧ Aside0 (w'.heap[gb115]? = some (.cells #[.string x116000_1, .string x116001_1, .bool x116002_1] 39 (0, 0))) ∧ Aside0 (Below w.heap.size w w'))
  case atStart => exact ⟨(0), ((⟨#[]⟩ : ByteArray)), ((⟨#[]⟩ : ByteArray)), (false), (by first | rfl | (simp; done) | (simp [*]; done)), H', ⟨Nat.le_refl _⟩, ⟨by (with_reducible repeat (first | apply Kd.R_alloc | apply Kd.R_drewN | apply Kd.R_drew)); exact Kd.R_mono HO118.out (fun _ hk => hk.2)⟩, ⟨by (with_reducible repeat (first | refine blk_drewN ?_ _ | refine blk_drew ?_ | refine blk_alloc ?_ _)); exact BK115.out⟩, ⟨by repeat (first | (with_reducible first | exact HB.out | apply below_alloc | apply pw_below_drewN | apply below_drew1 | refine below_set ?_ GE115.out) | exact HB.out)⟩⟩
  case round =>
    clear H'
    try clear c2
    try clear p2
    try clear c3
    obtain ⟨x8_1, x116000_1, x116001_1, x116002_1, rfl, HA, HK1, HO_6, BK115, HB⟩ := hrel
    cases gk with
    | zero => exact absurd HA.out (by simp [impl_propertyOf.l0])
    | succ k1 =>
      have H := HA.out
      clear HA
      simp only [impl_propertyOf.l0] at H
      by_cases c6 : x8_1 < (t116.length : Int)
      · rw [if_pos c6] at H
        have c6b0 : decide (x8_1 < (t116.length : Int)) = true := decide_eq_true c6
        clear c6
        by_cases c7 : 0 ≤ x8_1
        · rw [if_pos c7] at H
          have c7b0 : decide (0 ≤ x8_1) = true := decide_eq_true c7
          clear c7
          by_cases c8 : x8_1 < (t116.length : Int)
          · rw [if_pos c8] at H
            have c8b0 : decide (x8_1 < (t116.length : Int)) = true := decide_eq_true c8
            clear c8
            by_cases c9 : ((rd_T39 t116 x8_1).f0).toList = a0.toList
            · rw [if_pos c9] at H
              have c9b0 : (((rd_T39 t116 x8_1).f0).toList == a0.toList) = true := beq_iff_eq.mpr c9
              have c9b1 : (((rd_T39 t116 x8_1).f0).toList != a0.toList) = false := bne_eq_false_iff_eq.mpr c9
              clear c9
              simp only [Option.some.injEq, Prod.mk.injEq] at H
              obtain ⟨rfl, rfl, rfl, rfl⟩ := H
              have p119 : 0 ≤ (x8_1 : Int) := of_decide_eq_true (by first | (with_reducible assumption) | assumption)
              have q119 : x8_1 < (t116.length : Int) := of_decide_eq_true (by first | (with_reducible assumption) | assumption)
              obtain ⟨ad119, e119, hx119_0, hx119_1, hx119_2⟩ := at_T39 (Kd.R_reads' HO_6.out).2.2 x8_1 p119 q119
              cases e119
              replace p119 := eq_true p119
              replace q119 := eq_true q119
              go_wp2_with (first | ((with_reducible refine gate_dst (N := 5) rfl ?_); refine box_event ?hg (N := 5) ?hd (cs := #[.string (⟨#[]⟩ : ByteArray), .string (⟨#[]⟩ : ByteArray), .bool false]) (t := 39) ?hr ?_; (case hd => rfl); (case hg => rfl); (case hr => first | (go_simp; done) | (go_simp; rfl)); intro gb120 hg w10 hbox hb; have n0_ := Aside0.mk (Kd.R_below (Kd.R_elderB (by (with_reducible repeat (first | apply Kd.R_alloc | apply Kd.R_drewN | apply Kd.R_drew)); exact HO_6.out) gb120 (Nat.le_of_eq hg.symm)) hb); have n1_ := Aside0.mk (blk_below (g := gb115) (o := .cells #[.string x116000_1, .string x116001_1, .bool x116002_1] 39 (0, 0)) (by (with_reducible repeat (first | refine blk_drewN ?_ _ | refine blk_drew ?_ | refine blk_alloc ?_ _)); exact BK115.out) hb); have n2_ := Aside0.mk (below_step (by repeat (first | (with_reducible first | exact HB.out | apply below_alloc | apply pw_below_drewN | apply below_drew1 | refine below_set ?_ GE115.out) | exact HB.out)) hb); have n3_ := Aside0.mk (hbox); have n4_ := Aside0.mk ((by rw [hg]; exact (below_size (by repeat (first | (with_reducible first | exact HB.out | apply below_alloc | apply pw_below_drewN | apply below_drew1 | refine below_set ?_ GE115.out) | exact HB.out))) : w.heap.size ≤ gb120)); have n5_ := Aside0.mk ((by rw [hg]; exact (below_size (by repeat (first | (with_reducible first | exact HB.out | apply below_alloc | apply pw_below_drewN | apply below_drew1 | refine below_set ?_ GE115.out) | exact HB.out))) : w.heap.size ≤ gb120)); have n6_ := Aside0.mk ((by rw [hg]; exact Nat.ne_of_lt (blk_lt (g := gb115) (o := .cells #[.string x116000_1, .string x116001_1, .bool x116002_1] 39 (0, 0)) (by (with_reducible repeat (first | refine blk_drewN ?_ _ | refine blk_drew ?_ | refine blk_alloc ?_ _)); exact BK115.out)) : gb115 ≠ gb120)); have n7_ := Aside0.mk ((by rw [hg]; exact Nat.ne_of_gt (blk_lt (g := gb115) (o := .cells #[.string x116000_1, .string x116001_1, .bool x116002_1] 39 (0, 0)) (by (with_reducible repeat (first | refine blk_drewN ?_ _ | refine blk_drew ?_ | refine blk_alloc ?_ _)); exact BK115.out)) : gb120 ≠ gb115)); clear HO_6; clear BK115; clear HB; have HO_6 := n0_; have BK115 := n1_; have HB := n2_; have BK120 := n3_; have GW120 := n4_; have GE120 := n5_; have NB115_120 := n6_; have NB120_115 := n7_; clear n0_ n1_ n2_ n3_ n4_ n5_ n6_ n7_; clear hb hbox hg; have hnb11 := NB120_115.out; have hnc11 := NB115_120.out; have hcz12_0 : w10.cell? ⟨gb120, 0, none⟩ = some (.string (⟨#[]⟩ : ByteArray)) := (blk_cell BK120.out 0).trans rfl; have hcz12_1 : w10.cell? ⟨gb120, 1, none⟩ = some (.string (⟨#[]⟩ : ByteArray)) := (blk_cell BK120.out 1).trans rfl; have hcz12_2 : w10.cell? ⟨gb120, 2, none⟩ = some (.bool false) := (blk_cell BK120.out 2).trans rfl; have hfz12_0 := blk_frozen BK120.out 0; have hfz12_1 := blk_frozen BK120.out 1; have hfz12_2 := blk_frozen BK120.out 2; have hcz13_0 : w10.cell? ⟨gb115, 0, none⟩ = some (.string x116000_1) := (blk_cell BK115.out 0).trans rfl; have hcz13_1 : w10.cell? ⟨gb115, 1, none⟩ = some (.string x116001_1) := (blk_cell BK115.out 1).trans rfl; have hcz13_2 : w10.cell? ⟨gb115, 2, none⟩ = some (.bool x116002_1) := (blk_cell BK115.out 2).trans rfl; have hfz13_0 := blk_frozen BK115.out 0; have hfz13_1 := blk_frozen BK115.out 1; have hfz13_2 := blk_frozen BK115.out 2))
              refine bodyPost_ret (results_ct rfl _ _ gb115 39 #[.string ((rd_T39 t116 x8_1).f0), .string ((rd_T39 t116 x8_1).f1), .bool ((rd_T39 t116 x8_1).f2)] (0, 0) _ rfl (by (with_reducible repeat (first | refine blk_drewN ?_ _ | refine blk_drew ?_ | refine blk_alloc ?_ _)); refine blk_put (cs := #[.string ((rd_T39 t116 x8_1).f0), .string ((rd_T39 t116 x8_1).f1), .bool x116002_1]) ?_ 2 _ rfl; (with_reducible repeat (first | refine blk_drewN ?_ _ | refine blk_drew ?_ | refine blk_alloc ?_ _)); refine blk_put (cs := #[.string ((rd_T39 t116 x8_1).f0), .string x116001_1, .bool x116002_1]) ?_ 1 _ rfl; (with_reducible repeat (first | refine blk_drewN ?_ _ | refine blk_drew ?_ | refine blk_alloc ?_ _)); refine blk_put (cs := #[.string x116000_1, .string x116001_1, .bool x116002_1]) ?_ 0 _ rfl; (with_reducible repeat (first | refine blk_drewN ?_ _ | refine blk_drew ?_ | refine blk_alloc ?_ _)); refine blk_far ?_ NB115_120.out _; (with_reducible repeat (first | refine blk_drewN ?_ _ | refine blk_drew ?_ | refine blk_alloc ?_ _)); refine blk_far ?_ NB115_120.out _; (with_reducible repeat (first | refine blk_drewN ?_ _ | refine blk_drew ?_ | refine blk_alloc ?_ _)); refine blk_far ?_ NB115_120.out _; (with_reducible repeat (first | refine blk_drewN ?_ _ | refine blk_drew ?_ | refine blk_alloc ?_ _)); exact BK115.out) Try.underlying39 rfl (by kernel_rfl)) rfl ?_
              exact ⟨by first | rfl | (simp [errW_none, errW_some] <;> rfl) | (simp [*, errW_none, errW_some] <;> rfl), by repeat (first | (with_reducible first | exact HB.out | apply below_alloc | apply pw_below_drewN | apply below_drew1 | refine below_set ?_ GE115.out | refine below_set ?_ GE120.out) | exact HB.out)⟩
            · rw [if_neg c9] at H
              have c9b0 : (((rd_T39 t116 x8_1).f0).toList == a0.toList) = false := beq_eq_false_iff_ne.mpr c9
              have c9b1 : (((rd_T39 t116 x8_1).f0).toList != a0.toList) = true := bne_iff_ne.mpr c9
              have H' := Aside0.mk H
              clear H
              have p119 : 0 ≤ (x8_1 : Int) := of_decide_eq_true (by first | (with_reducible assumption) | assumption)
              have q119 : x8_1 < (t116.length : Int) := of_decide_eq_true (by first | (with_reducible assumption) | assumption)
              obtain ⟨ad119, e119, hx119_0, hx119_1, hx119_2⟩ := at_T39 (Kd.R_reads' HO_6.out).2.2 x8_1 p119 q119
              cases e119
              replace p119 := eq_true p119
              replace q119 := eq_true q119
              go_wp2_with (first | ((with_reducible refine gate_dst (N := 5) rfl ?_); refine box_event ?hg (N := 5) ?hd (cs := #[.string (⟨#[]⟩ : ByteArray), .string (⟨#[]⟩ : ByteArray), .bool false]) (t := 39) ?hr ?_; (case hd => rfl); (case hg => rfl); (case hr => first | (go_simp; done) | (go_simp; rfl)); intro gb120 hg w14 hbox hb; have n0_ := Aside0.mk (Kd.R_below (Kd.R_elderB (by (with_reducible repeat (first | apply Kd.R_alloc | apply Kd.R_drewN | apply Kd.R_drew)); exact HO_6.out) gb120 (Nat.le_of_eq hg.symm)) hb); have n1_ := Aside0.mk (blk_below (g := gb115) (o := .cells #[.string x116000_1, .string x116001_1, .bool x116002_1] 39 (0, 0)) (by (with_reducible repeat (first | refine blk_drewN ?_ _ | refine blk_drew ?_ | refine blk_alloc ?_ _)); exact BK115.out) hb); have n2_ := Aside0.mk (below_step (by repeat (first | (with_reducible first | exact HB.out | apply below_alloc | apply pw_below_drewN | apply below_drew1 | refine below_set ?_ GE115.out) | exact HB.out)) hb); have n3_ := Aside0.mk (hbox); have n4_ := Aside0.mk ((by rw [hg]; exact (below_size (by repeat (first | (with_reducible first | exact HB.out | apply below_alloc | apply pw_below_drewN | apply below_drew1 | refine below_set ?_ GE115.out) | exact HB.out))) : w.heap.size ≤ gb120)); have n5_ := Aside0.mk ((by rw [hg]; exact (below_size (by repeat (first | (with_reducible first | exact HB.out | apply below_alloc | apply pw_below_drewN | apply below_drew1 | refine below_set ?_ GE115.out) | exact HB.out))) : w.heap.size ≤ gb120)); have n6_ := Aside0.mk ((by rw [hg]; exact Nat.ne_of_lt (blk_lt (g := gb115) (o := .cells #[.string x116000_1, .string x116001_1, .bool x116002_1] 39 (0, 0)) (by (with_reducible repeat (first | refine blk_drewN ?_ _ | refine blk_drew ?_ | refine blk_alloc ?_ _)); exact BK115.out)) : gb115 ≠ gb120)); have n7_ := Aside0.mk ((by rw [hg]; exact Nat.ne_of_gt (blk_lt (g := gb115) (o := .cells #[.string x116000_1, .string x116001_1, .bool x116002_1] 39 (0, 0)) (by (with_reducible repeat (first | refine blk_drewN ?_ _ | refine blk_drew ?_ | refine blk_alloc ?_ _)); exact BK115.out)) : gb120 ≠ gb115)); clear HO_6; clear BK115; clear HB; have HO_6 := n0_; have BK115 := n1_; have HB := n2_; have BK120 := n3_; have GW120 := n4_; have GE120 := n5_; have NB115_120 := n6_; have NB120_115 := n7_; clear n0_ n1_ n2_ n3_ n4_ n5_ n6_ n7_; clear hb hbox hg; have hnb15 := NB120_115.out; have hnc15 := NB115_120.out; have hcz16_0 : w14.cell? ⟨gb120, 0, none⟩ = some (.string (⟨#[]⟩ : ByteArray)) := (blk_cell BK120.out 0).trans rfl; have hcz16_1 : w14.cell? ⟨gb120, 1, none⟩ = some (.string (⟨#[]⟩ : ByteArray)) := (blk_cell BK120.out 1).trans rfl; have hcz16_2 : w14.cell? ⟨gb120, 2, none⟩ = some (.bool false) := (blk_cell BK120.out 2).trans rfl; have hfz16_0 := blk_frozen BK120.out 0; have hfz16_1 := blk_frozen BK120.out 1; have hfz16_2 := blk_frozen BK120.out 2))
              go_roundg k1
              case measure => have := HK1.out; omega
              case rel => exact ⟨(wrap64 (x8_1 + 1)), (x116000_1), (x116001_1), (x116002_1), (by first | rfl | (simp; done) | (simp [*]; done)), H', ⟨by have := HK1.out; omega⟩, ⟨by (with_reducible repeat (first | apply Kd.R_alloc | apply Kd.R_drewN | apply Kd.R_drew)); exact Kd.R_mono (Kd.R_far (p := ⟨gb120, 2, none⟩) (Kd.R_far (p := ⟨gb120, 1, none⟩) (Kd.R_far (p := ⟨gb120, 0, none⟩) (Kd.R_mono HO_6.out (fun k_ hk => (⟨hk, hk.2⟩ : _ ∧ k_ ≠ gb120))) (fun _ hk => hk.2) (.string ((rd_T39 t116 x8_1).f0))) (fun _ hk => hk.2) (.string ((rd_T39 t116 x8_1).f1))) (fun _ hk => hk.2) (.bool ((rd_T39 t116 x8_1).f2))) (fun _ hk => hk.1.1)⟩, ⟨by (with_reducible repeat (first | refine blk_drewN ?_ _ | refine blk_drew ?_ | refine blk_alloc ?_ _)); refine blk_far ?_ NB115_120.out _; (with_reducible repeat (first | refine blk_drewN ?_ _ | refine blk_drew ?_ | refine blk_alloc ?_ _)); refine blk_far ?_ NB115_120.out _; (with_reducible repeat (first | refine blk_drewN ?_ _ | refine blk_drew ?_ | refine blk_alloc ?_ _)); refine blk_far ?_ NB115_120.out _; (with_reducible repeat (first | refine blk_drewN ?_ _ | refine blk_drew ?_ | refine blk_alloc ?_ _)); exact BK115.out⟩, ⟨by repeat (first | (with_reducible first | exact HB.out | apply below_alloc | apply pw_below_drewN | apply below_drew1 | refine below_set ?_ GE115.out | refine below_set ?_ GE120.out) | exact HB.out)⟩⟩
          · rw [if_neg c8] at H
            exact absurd H (by simp)
        · rw [if_neg c7] at H
          exact absurd H (by simp)
      · rw [if_neg c6] at H
        have c6b0 : decide (x8_1 < (t116.length : Int)) = false := decide_eq_false c6
        clear c6
        simp only [Option.some.injEq, Prod.mk.injEq] at H
        obtain ⟨rfl, rfl, rfl, rfl⟩ := H
        have hcz17_0 : wr.cell? ⟨gb115, 0, none⟩ = some (.string x116000_1) := (blk_cell BK115.out 0).trans rfl
        have hcz17_1 : wr.cell? ⟨gb115, 1, none⟩ = some (.string x116001_1) := (blk_cell BK115.out 1).trans rfl
        have hcz17_2 : wr.cell? ⟨gb115, 2, none⟩ = some (.bool x116002_1) := (blk_cell BK115.out 2).trans rfl
        have hfz17_0 := blk_frozen BK115.out 0
        have hfz17_1 := blk_frozen BK115.out 1
        have hfz17_2 := blk_frozen BK115.out 2
        go_wp2
        refine bodyPost_ret (results_ct rfl _ _ gb115 39 #[.string (⟨#[]⟩ : ByteArray), .string (⟨#[]⟩ : ByteArray), .bool false] (0, 0) _ rfl (by (with_reducible repeat (first | refine blk_drewN ?_ _ | refine blk_drew ?_ | refine blk_alloc ?_ _)); refine blk_put (cs := #[.string (⟨#[]⟩ : ByteArray), .string (⟨#[]⟩ : ByteArray), .bool x116002_1]) ?_ 2 _ rfl; (with_reducible repeat (first | refine blk_drewN ?_ _ | refine blk_drew ?_ | refine blk_alloc ?_ _)); refine blk_put (cs := #[.string (⟨#[]⟩ : ByteArray), .string x116001_1, .bool x116002_1]) ?_ 1 _ rfl; (with_reducible repeat (first | refine blk_drewN ?_ _ | refine blk_drew ?_ | refine blk_alloc ?_ _)); refine blk_put (cs := #[.string x116000_1, .string x116001_1, .bool x116002_1]) ?_ 0 _ rfl; (with_reducible repeat (first | refine blk_drewN ?_ _ | refine blk_drew ?_ | refine blk_alloc ?_ _)); exact BK115.out) Try.underlying39 rfl (by kernel_rfl)) rfl ?_
        exact ⟨by first | rfl | (simp [errW_none, errW_some] <;> rfl) | (simp [*, errW_none, errW_some] <;> rfl), by repeat (first | (with_reducible first | exact HB.out | apply below_alloc | apply pw_below_drewN | apply below_drew1 | refine below_set ?_ GE115.out) | exact HB.out)⟩

/-! ### impl_FirstValue: function 19 -/
def impl_FirstValue.f (k : Nat) (a0 : ByteArray) : Option (ByteArray × Bool) := (impl_propertyOf.f k a0).bind fun bt121 => (some (bt121.2.1, bt121.2.2.2))
theorem impl_FirstValue.mono : ∀ a0 k, LeO (impl_FirstValue.f k a0) (impl_FirstValue.f (k + 1) a0) := by
  intro a0 k
  unfold impl_FirstValue.f
  repeat' first
      | (with_reducible exact impl_propertyOf.mono _ _)
      | (with_reducible exact LeO.refl _)
      | (with_reducible exact LeO.none _)
      | (with_reducible refine LeO.ite ?_ ?_)
      | (with_reducible refine LeO.bind ?_ (fun _ => ?_))
      | exact impl_propertyOf.mono _ _
      | exact LeO.none _
      | refine LeO.ite ?_ ?_
      | refine LeO.bind ?_ (fun _ => ?_)
set_option maxHeartbeats 8000000 in
set_option maxRecDepth 100000 in
theorem impl_FirstValue.calls (k : Nat) (a0 : ByteArray) (r1 : ByteArray) (r2 : Bool) (w : World) (h : impl_FirstValue.f k a0 = some (r1, r2)) :
    Calls Try.prog 19 #[.string a0] w fun e w' => e = .returned (.tuple #[.string r1, .bool r2]) ∧ Below w.heap.size w w' := by
  have hu39 := Try.underlying39
  have HB := Aside0.mk (Below.refl w.heap.size w)
  have H : ((impl_propertyOf.f k a0).bind fun bt121 => (some (bt121.2.1, bt121.2.2.2))) = some (r1, r2) := h
  clear h
  replace H := Option.bind_eq_some_iff.mp H
  obtain ⟨⟨t121, t122, t123, t124⟩, A20, H⟩ := H
  replace H : (some (t122, t124)) = some (r1, r2) := H
  have A2 := Aside0.mk A20
  clear A20
  simp only [Option.some.injEq, Prod.mk.injEq] at H
  obtain ⟨rfl, rfl⟩ := H
  go_enter Try.func19, Try.ntmps19
  go_wp2_with (first | ((with_reducible refine gate_callee (f := 29) rfl ?_); refine goesL_ (some 8) rfl rfl Try.func29 (by kernel_rfl) rfl #[.string a0] rfl (by (try simp only [List.map_toArray, List.map_cons, List.map_nil]); first | done | rfl | (simp only [List.length_drop, List.length_take]; rfl)) ?_; (with_reducible refine (impl_propertyOf.calls k a0 t121 t122 t123 t124 _ A2.out).mono ?_); rintro e w3 ⟨rfl, hb⟩; refine ⟨_, rfl, ?_⟩; have n0_ := Aside0.mk (below_step (by repeat (first | (with_reducible first | exact HB.out | apply below_alloc | apply pw_below_drewN | apply below_drew1) | exact HB.out)) hb); clear HB; have HB := n0_; clear n0_; (try clear hb); (try clear hb2); (try clear hk); (try clear hi)) | ((with_reducible refine gate_dst (N := 4) rfl ?_); refine box_event ?hg (N := 4) ?hd (cs := #[.string (⟨#[]⟩ : ByteArray), .string (⟨#[]⟩ : ByteArray), .bool false]) (t := 39) ?hr ?_; (case hd => rfl); (case hg => rfl); (case hr => first | (go_simp; done) | (go_simp; rfl)); intro gb125 hg w4 hbox hb; have n0_ := Aside0.mk (below_step (by repeat (first | (with_reducible first | exact HB.out | apply below_alloc | apply pw_below_drewN | apply below_drew1) | exact HB.out)) hb); have n1_ := Aside0.mk (hbox); have n2_ := Aside0.mk ((by rw [hg]; exact (below_size (by repeat (first | (with_reducible first | exact HB.out | apply below_alloc | apply pw_below_drewN | apply below_drew1) | exact HB.out))) : w.heap.size ≤ gb125)); have n3_ := Aside0.mk ((by rw [hg]; exact (below_size (by repeat (first | (with_reducible first | exact HB.out | apply below_alloc | apply pw_below_drewN | apply below_drew1) | exact HB.out))) : w.heap.size ≤ gb125)); clear HB; have HB := n0_; have BK125 := n1_; have GW125 := n2_; have GE125 := n3_; clear n0_ n1_ n2_ n3_; clear hb hbox hg; have hcz5_0 : w4.cell? ⟨gb125, 0, none⟩ = some (.string (⟨#[]⟩ : ByteArray)) := (blk_cell BK125.out 0).trans rfl; have hcz5_1 : w4.cell? ⟨gb125, 1, none⟩ = some (.string (⟨#[]⟩ : ByteArray)) := (blk_cell BK125.out 1).trans rfl; have hcz5_2 : w4.cell? ⟨gb125, 2, none⟩ = some (.bool false) := (blk_cell BK125.out 2).trans rfl; have hfz5_0 := blk_frozen BK125.out 0; have hfz5_1 := blk_frozen BK125.out 1; have hfz5_2 := blk_frozen BK125.out 2))
  go_ret2
  exact ⟨by first | rfl | (simp [errW_none, errW_some] <;> rfl) | (simp [*, errW_none, errW_some] <;> rfl), by repeat (first | (with_reducible first | exact HB.out | apply below_alloc | apply pw_below_drewN | apply below_drew1 | refine below_set ?_ GE125.out) | exact HB.out)⟩

/-! ### laws_FnExactFirstValue: function 7 -/
def laws_FnExactFirstValue.f (k : Nat) (a0 : ByteArray) : Option (Bool) := if (a0.size : Int) > 1048576 then (some true) else ((spec_FirstValue.f k a0).bind fun bt126 => ((impl_FirstValue.f k a0).bind fun bt128 => (if bt128.1.toList = bt126.1.toList then (if (bt128.2 != bt126.2) = true then (some false) else (some true)) else (some false))))
theorem laws_FnExactFirstValue.mono : ∀ a0 k, LeO (laws_FnExactFirstValue.f k a0) (laws_FnExactFirstValue.f (k + 1) a0) := by
  intro a0 k
  unfold laws_FnExactFirstValue.f
  repeat' first
      | (with_reducible exact impl_FirstValue.mono _ _)
      | (with_reducible exact spec_FirstValue.mono _ _)
      | (with_reducible exact LeO.refl _)
      | (with_reducible exact LeO.none _)
      | (with_reducible refine LeO.ite ?_ ?_)
      | (with_reducible refine LeO.bind ?_ (fun _ => ?_))
      | exact impl_FirstValue.mono _ _
      | exact spec_FirstValue.mono _ _
      | exact LeO.none _
      | refine LeO.ite ?_ ?_
      | refine LeO.bind ?_ (fun _ => ?_)
set_option maxHeartbeats 8000000 in
set_option maxRecDepth 100000 in
theorem laws_FnExactFirstValue.calls (k : Nat) (a0 : ByteArray) (r : Bool) (w : World) (h : laws_FnExactFirstValue.f k a0 = some r) :
    Calls Try.prog 7 #[.string a0] w fun e w' => e = .returned (.bool r) ∧ Below w.heap.size w w' := by
  have HB := Aside0.mk (Below.refl w.heap.size w)
  have H : (if (a0.size : Int) > 1048576 then (some true) else ((spec_FirstValue.f k a0).bind fun bt126 => ((impl_FirstValue.f k a0).bind fun bt128 => (if bt128.1.toList = bt126.1.toList then (if (bt128.2 != bt126.2) = true then (some false) else (some true)) else (some false))))) = some r := h
  clear h
  by_cases c2 : (a0.size : Int) > 1048576
  · rw [if_pos c2] at H
    have c2b0 : decide (1048576 < (a0.size : Int)) = true := decide_eq_true c2
    have c2b1 : decide (1048576 < a0.size) = true := decide_eq_true (by omega)
    clear c2
    obtain rfl := Option.some.inj H
    go_enter Try.func7, Try.ntmps7
    go_wp2
    go_ret
    exact ⟨by first | rfl | (simp [errW_none, errW_some] <;> rfl) | (simp [*, errW_none, errW_some] <;> rfl), by repeat (first | (with_reducible first | exact HB.out | apply below_alloc | apply pw_below_drewN | apply below_drew1) | exact HB.out)⟩
  · rw [if_neg c2] at H
    have c2b0 : decide (1048576 < (a0.size : Int)) = false := decide_eq_false c2
    have c2b1 : decide (1048576 < a0.size) = false := decide_eq_false (by omega)
    clear c2
    replace H := Option.bind_eq_some_iff.mp H
    obtain ⟨⟨t126, t127⟩, A30, H⟩ := H
    replace H : ((impl_FirstValue.f k a0).bind fun bt128 => (if bt128.1.toList = t126.toList then (if (bt128.2 != t127) = true then (some false) else (some true)) else (some false))) = some r := H
    have A3 := Aside0.mk A30
    clear A30
    replace H := Option.bind_eq_some_iff.mp H
    obtain ⟨⟨t128, t129⟩, A40, H⟩ := H
    replace H : (if t128.toList = t126.toList then (if (t129 != t127) = true then (some false) else (some true)) else (some false)) = some r := H
    have A4 := Aside0.mk A40
    clear A40
    by_cases c5 : t128.toList = t126.toList
    · rw [if_pos c5] at H
      have c5b0 : (t128.toList == t126.toList) = true := beq_iff_eq.mpr c5
      have c5b1 : (t128.toList != t126.toList) = false := bne_eq_false_iff_eq.mpr c5
      clear c5
      by_cases c6 : (t129 != t127) = true
      · rw [if_pos c6] at H
        have c6b0 : (t129 != t127) = true := c6
        (try (have c6b1 : decide (t129 = t127) = false := by simpa using c6))
        (try (have c6b2 : (t129 == t127) = false := by simpa using c6))
        (try (have c6b3 : ¬ (t129 = t127) := by simpa using c6))
        clear c6
        obtain rfl := Option.some.inj H
        go_enter Try.func7, Try.ntmps7
        go_wp2_with (first | ((with_reducible refine gate_callee (f := 18) rfl ?_); refine goesL_ (some 12) rfl rfl Try.func18 (by kernel_rfl) rfl #[.string a0] rfl (by (try simp only [List.map_toArray, List.map_cons, List.map_nil]); first | done | rfl | (simp only [List.length_drop, List.length_take]; rfl)) ?_; (with_reducible refine (spec_FirstValue.calls k a0 t126 t127 _ A3.out).mono ?_); rintro e w7 ⟨rfl, hb⟩; refine ⟨_, rfl, ?_⟩; have n0_ := Aside0.mk (below_step (by repeat (first | (with_reducible first | exact HB.out | apply below_alloc | apply pw_below_drewN | apply below_drew1) | exact HB.out)) hb); clear HB; have HB := n0_; clear n0_; (try clear hb); (try clear hb2); (try clear hk); (try clear hi)) | ((with_reducible refine gate_callee (f := 19) rfl ?_); refine goesL_ (some 17) rfl rfl Try.func19 (by kernel_rfl) rfl #[.string a0] rfl (by (try simp only [List.map_toArray, List.map_cons, List.map_nil]); first | done | rfl | (simp only [List.length_drop, List.length_take]; rfl)) ?_; (with_reducible refine (impl_FirstValue.calls k a0 t128 t129 _ A4.out).mono ?_); rintro e w8 ⟨rfl, hb⟩; refine ⟨_, rfl, ?_⟩; have n0_ := Aside0.mk (below_step (by repeat (first | (with_reducible first | exact HB.out | apply below_alloc | apply pw_below_drewN | apply below_drew1) | exact HB.out)) hb); clear HB; have HB := n0_; clear n0_; (try clear hb); (try clear hb2); (try clear hk); (try clear hi)))
        go_ret
        exact ⟨by first | rfl | (simp [errW_none, errW_some] <;> rfl) | (simp [*, errW_none, errW_some] <;> rfl), by repeat (first | (with_reducible first | exact HB.out | apply below_alloc | apply pw_below_drewN | apply below_drew1) | exact HB.out)⟩
      · rw [if_neg c6] at H
        have c6b0 : (t129 != t127) = false := by simpa using c6
        (try (have c6b1 : decide (t129 = t127) = true := by simpa using c6))
        (try (have c6b2 : (t129 == t127) = true := by simpa using c6))
        clear c6
        obtain rfl := Option.some.inj H
        go_enter Try.func7, Try.ntmps7
        go_wp2_with (first | ((with_reducible refine gate_callee (f := 18) rfl ?_); refine goesL_ (some 12) rfl rfl Try.func18 (by kernel_rfl) rfl #[.string a0] rfl (by (try simp only [List.map_toArray, List.map_cons, List.map_nil]); first | done | rfl | (simp only [List.length_drop, List.length_take]; rfl)) ?_; (with_reducible refine (spec_FirstValue.calls k a0 t126 t127 _ A3.out).mono ?_); rintro e w9 ⟨rfl, hb⟩; refine ⟨_, rfl, ?_⟩; have n0_ := Aside0.mk (below_step (by repeat (first | (with_reducible first | exact HB.out | apply below_alloc | apply pw_below_drewN | apply below_drew1) | exact HB.out)) hb); clear HB; have HB := n0_; clear n0_; (try clear hb); (try clear hb2); (try clear hk); (try clear hi)) | ((with_reducible refine gate_callee (f := 19) rfl ?_); refine goesL_ (some 17) rfl rfl Try.func19 (by kernel_rfl) rfl #[.string a0] rfl (by (try simp only [List.map_toArray, List.map_cons, List.map_nil]); first | done | rfl | (simp only [List.length_drop, List.length_take]; rfl)) ?_; (with_reducible refine (impl_FirstValue.calls k a0 t128 t129 _ A4.out).mono ?_); rintro e w10 ⟨rfl, hb⟩; refine ⟨_, rfl, ?_⟩; have n0_ := Aside0.mk (below_step (by repeat (first | (with_reducible first | exact HB.out | apply below_alloc | apply pw_below_drewN | apply below_drew1) | exact HB.out)) hb); clear HB; have HB := n0_; clear n0_; (try clear hb); (try clear hb2); (try clear hk); (try clear hi)))
        go_ret
        exact ⟨by first | rfl | (simp [errW_none, errW_some] <;> rfl) | (simp [*, errW_none, errW_some] <;> rfl), by repeat (first | (with_reducible first | exact HB.out | apply below_alloc | apply pw_below_drewN | apply below_drew1) | exact HB.out)⟩
    · rw [if_neg c5] at H
      have c5b0 : (t128.toList == t126.toList) = false := beq_eq_false_iff_ne.mpr c5
      have c5b1 : (t128.toList != t126.toList) = true := bne_iff_ne.mpr c5
      obtain rfl := Option.some.inj H
      go_enter Try.func7, Try.ntmps7
      go_wp2_with (first | ((with_reducible refine gate_callee (f := 18) rfl ?_); refine goesL_ (some 12) rfl rfl Try.func18 (by kernel_rfl) rfl #[.string a0] rfl (by (try simp only [List.map_toArray, List.map_cons, List.map_nil]); first | done | rfl | (simp only [List.length_drop, List.length_take]; rfl)) ?_; (with_reducible refine (spec_FirstValue.calls k a0 t126 t127 _ A3.out).mono ?_); rintro e w11 ⟨rfl, hb⟩; refine ⟨_, rfl, ?_⟩; have n0_ := Aside0.mk (below_step (by repeat (first | (with_reducible first | exact HB.out | apply below_alloc | apply pw_below_drewN | apply below_drew1) | exact HB.out)) hb); clear HB; have HB := n0_; clear n0_; (try clear hb); (try clear hb2); (try clear hk); (try clear hi)) | ((with_reducible refine gate_callee (f := 19) rfl ?_); refine goesL_ (some 17) rfl rfl Try.func19 (by kernel_rfl) rfl #[.string a0] rfl (by (try simp only [List.map_toArray, List.map_cons, List.map_nil]); first | done | rfl | (simp only [List.length_drop, List.length_take]; rfl)) ?_; (with_reducible refine (impl_FirstValue.calls k a0 t128 t129 _ A4.out).mono ?_); rintro e w12 ⟨rfl, hb⟩; refine ⟨_, rfl, ?_⟩; have n0_ := Aside0.mk (below_step (by repeat (first | (with_reducible first | exact HB.out | apply below_alloc | apply pw_below_drewN | apply below_drew1) | exact HB.out)) hb); clear HB; have HB := n0_; clear n0_; (try clear hb); (try clear hb2); (try clear hk); (try clear hi)))
      go_ret
      exact ⟨by first | rfl | (simp [errW_none, errW_some] <;> rfl) | (simp [*, errW_none, errW_some] <;> rfl), by repeat (first | (with_reducible first | exact HB.out | apply below_alloc | apply pw_below_drewN | apply below_drew1) | exact HB.out)⟩

/-- THE ONE PURE STATEMENT of laws_FnExactFirstValue: yours. -/
def laws_FnExactFirstValue.Pure : Prop := ∀ (a0 : ByteArray), a0.size ≤ 140737488351232 → ∃ k, laws_FnExactFirstValue.f k a0 = some true
theorem laws_FnExactFirstValue.walk (P : laws_FnExactFirstValue.Pure) (a0 : ByteArray) (w : World) (w0 : a0.size ≤ 140737488351232) :
    Calls Try.prog 7 #[.string a0] w fun e w' => e = .returned (.bool true) ∧ Below w.heap.size w w' := by
  obtain ⟨k, h⟩ := P a0 w0
  refine (laws_FnExactFirstValue.calls k a0 true w h).mono ?_
  rintro e w' ⟨rfl, hd⟩
  exact ⟨rfl, hd⟩

end Go.Proofs.Ythebkooanhkpfaa.PFnExactFirstValue
