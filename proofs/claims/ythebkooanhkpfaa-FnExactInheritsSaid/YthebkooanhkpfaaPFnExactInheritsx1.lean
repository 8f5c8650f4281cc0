-- PRINTED BY print.sh 35421559b90ae4d0a3588c463048766b98c2df88dd9212a6774a882060cdf62d: not written by this session
import Derived.Test.YthebkooanhkpfaaPFnExactInheritsx0
namespace Go.Proofs.Ythebkooanhkpfaa.PFnExactInherits
open Go.RowKit Go.Proofs.YthebkooanhkpfaaW.PrintWords Go.Proofs.YthebkooanhkpfaaW.PrintLast Go.Proofs.YthebkooanhkpfaaW.PrintMore
attribute [local go_sem] max2_int min2_int max_two min_two max_three min_three max_four min_four   -- for this text's walks alone
set_option linter.unusedVariables false
set_option linter.unusedSimpArgs false

/-! ### spec_l6Has: function 28 -/
def spec_l6Has.l0 : Nat → ByteArray → List ByteArray → Int → Int → Option (Bool)
  | 0, _, _, _, _ => none
  | k + 1, x1, x7, x8, x9 => if x9 < x8 then (if 0 ≤ x9 then (if x9 < (x7.length : Int) then (if (rdOf ByteArray.empty x7 x9).toList = x1.toList then (some true) else (spec_l6Has.l0 k x1 x7 x8 (wrap64 (x9 + 1)))) else (none)) else (none)) else (some false)
def spec_l6Has.f (k : Nat) (l0 : List ByteArray) (a1 : ByteArray) : Option (Bool) := spec_l6Has.l0 k a1 l0 (l0.length : Int) 0
theorem spec_l6Has.mono_l : ∀ k, (∀ y0 y1 y2 y3, LeO (spec_l6Has.l0 k y0 y1 y2 y3) (spec_l6Has.l0 (k + 1) y0 y1 y2 y3))
  | 0 => fun _ _ _ _ r h => by simp [spec_l6Has.l0] at h
  | k + 1 => by
    have ih0 := spec_l6Has.mono_l k
    · intro y0 y1 y2 y3
      unfold spec_l6Has.l0
      repeat' first
      | (with_reducible exact ih0 _ _ _ _)
      | (with_reducible exact LeO.refl _)
      | (with_reducible exact LeO.none _)
      | (with_reducible refine LeO.ite ?_ ?_)
      | (with_reducible refine LeO.bind ?_ (fun _ => ?_))
      | exact ih0 _ _ _ _
      | exact LeO.none _
      | refine LeO.ite ?_ ?_
      | refine LeO.bind ?_ (fun _ => ?_)
theorem spec_l6Has.mono : ∀ a0 a1 k, LeO (spec_l6Has.f k a0 a1) (spec_l6Has.f (k + 1) a0 a1) := by
  intro a0 a1 k
  have ih0 := spec_l6Has.mono_l k
  unfold spec_l6Has.f
  repeat' first
      | (with_reducible exact ih0 _ _ _ _)
      | (with_reducible exact LeO.refl _)
      | (with_reducible exact LeO.none _)
      | (with_reducible refine LeO.ite ?_ ?_)
      | (with_reducible refine LeO.bind ?_ (fun _ => ?_))
      | exact ih0 _ _ _ _
      | exact LeO.none _
      | refine LeO.ite ?_ ?_
      | refine LeO.bind ?_ (fun _ => ?_)
set_option maxHeartbeats 8000000 in
set_option maxRecDepth 100000 in
theorem spec_l6Has.calls (k : Nat) (A0 : Option Addr) (c0 : Nat) (l0 : List ByteArray) (a1 : ByteArray) (r : Bool) (w : World) (hr0 : Kd.C Kd.string w A0 l0.length l0) (hc0 : l0.length ≤ c0) (h : spec_l6Has.f k l0 a1 = some r) :
    Calls Try.prog 28 #[.slice A0 l0.length c0, .string a1] w fun e w' => e = .returned (.bool r) ∧ Drawn0 w w' := by
  have HR0 := Aside0.mk hr0
  have HC0 := Aside0.mk hc0
  clear hr0 hc0
  have H : (spec_l6Has.l0 k a1 l0 (l0.length : Int) 0) = some r := h
  clear h
  have H' := Aside0.mk H
  clear H
  go_enter Try.func28, Try.ntmps28
  go_wp2
  go_loopg [9] k (fun kq v9 w' => ∃ (x9_1 : Int), v9 = .int .i64 x9_1 ∧ Aside0 (spec_l6Has.l0 kq a1 l0 (l0.length : Int) x9_1 = some r) ∧ Aside0 (kq ≤ k) ∧ Drawn0 w w')
  case atStart => exact ⟨(0), (by first | rfl | (simp; done) | (simp [*]; done)), H', ⟨Nat.le_refl _⟩, by repeat (first | exact Drawn0.refl _ | apply Drawn0.step)⟩
  case round =>
    clear H'
    try clear c2
    try clear p2
    obtain ⟨x9_1, rfl, HA, HK1, ⟨m1, rfl⟩⟩ := hrel
    cases gk with
    | zero => exact absurd HA.out (by simp [spec_l6Has.l0])
    | succ k1 =>
      have H := HA.out
      clear HA
      simp only [spec_l6Has.l0] at H
      by_cases c3 : x9_1 < (l0.length : Int)
      · rw [if_pos c3] at H
        have c3b0 : decide (x9_1 < (l0.length : Int)) = true := decide_eq_true c3
        clear c3
        by_cases c4 : 0 ≤ x9_1
        · rw [if_pos c4] at H
          have c4b0 : decide (0 ≤ x9_1) = true := decide_eq_true c4
          clear c4
          by_cases c5 : x9_1 < (l0.length : Int)
          · rw [if_pos c5] at H
            have c5b0 : decide (x9_1 < (l0.length : Int)) = true := decide_eq_true c5
            clear c5
            by_cases c6 : (rdOf ByteArray.empty l0 x9_1).toList = a1.toList
            · rw [if_pos c6] at H
              have c6b0 : ((rdOf ByteArray.empty l0 x9_1).toList == a1.toList) = true := beq_iff_eq.mpr c6
              have c6b1 : ((rdOf ByteArray.empty l0 x9_1).toList != a1.toList) = false := bne_eq_false_iff_eq.mpr c6
              clear c6
              obtain rfl := Option.some.inj H
              have p101 : 0 ≤ (x9_1 : Int) := of_decide_eq_true (by first | (with_reducible assumption) | assumption)
              have q101 : x9_1 < (l0.length : Int) := of_decide_eq_true (by first | (with_reducible assumption) | assumption)
              obtain ⟨ad101, e101, hx101_0⟩ := Kd.at_string HR0.out x9_1 p101 q101
              cases e101
              replace p101 := eq_true p101
              replace q101 := eq_true q101
              go_wp2
              go_ret
              exact ⟨by first | rfl | (simp; done) | (simp [*]; done), by repeat (first | exact Drawn0.refl _ | apply Drawn0.step)⟩
            · rw [if_neg c6] at H
              have c6b0 : ((rdOf ByteArray.empty l0 x9_1).toList == a1.toList) = false := beq_eq_false_iff_ne.mpr c6
              have c6b1 : ((rdOf ByteArray.empty l0 x9_1).toList != a1.toList) = true := bne_iff_ne.mpr c6
              have H' := Aside0.mk H
              clear H
              have p101 : 0 ≤ (x9_1 : Int) := of_decide_eq_true (by first | (with_reducible assumption) | assumption)
              have q101 : x9_1 < (l0.length : Int) := of_decide_eq_true (by first | (with_reducible assumption) | assumption)
              obtain ⟨ad101, e101, hx101_0⟩ := Kd.at_string HR0.out x9_1 p101 q101
              cases e101
              replace p101 := eq_true p101
              replace q101 := eq_true q101
              go_wp2
              go_roundg k1
              case measure => have := HK1.out; omega
              case rel => exact ⟨(wrap64 (x9_1 + 1)), (by first | rfl | (simp; done) | (simp [*]; done)), H', ⟨by have := HK1.out; omega⟩, by repeat (first | exact Drawn0.refl _ | apply Drawn0.step)⟩
          · rw [if_neg c5] at H
            exact absurd H (by simp)
        · rw [if_neg c4] at H
          exact absurd H (by simp)
      · rw [if_neg c3] at H
        have c3b0 : decide (x9_1 < (l0.length : Int)) = false := decide_eq_false c3
        clear c3
        obtain rfl := Option.some.inj H
        go_wp2
        go_ret
        exact ⟨by first | rfl | (simp; done) | (simp [*]; done), by repeat (first | exact Drawn0.refl _ | apply Drawn0.step)⟩

/-! ### spec_Inherits: function 16 -/
def spec_Inherits.f (k : Nat) (a0 : ByteArray) : Option (Bool) := (spec_l6Has.f k (([(⟨#[99, 111, 108, 111, 114]⟩ : ByteArray), (⟨#[102, 105, 108, 108]⟩ : ByteArray), (⟨#[102, 105, 108, 108, 45, 111, 112, 97, 99, 105, 116, 121]⟩ : ByteArray), (⟨#[102, 105, 108, 108, 45, 114, 117, 108, 101]⟩ : ByteArray), (⟨#[115, 116, 114, 111, 107, 101]⟩ : ByteArray), (⟨#[115, 116, 114, 111, 107, 101, 45, 100, 97, 115, 104, 97, 114, 114, 97, 121]⟩ : ByteArray), (⟨#[115, 116, 114, 111, 107, 101, 45, 108, 105, 110, 101, 99, 97, 112]⟩ : ByteArray), (⟨#[115, 116, 114, 111, 107, 101, 45, 108, 105, 110, 101, 106, 111, 105, 110]⟩ : ByteArray), (⟨#[115, 116, 114, 111, 107, 101, 45, 111, 112, 97, 99, 105, 116, 121]⟩ : ByteArray), (⟨#[115, 116, 114, 111, 107, 101, 45, 119, 105, 100, 116, 104]⟩ : ByteArray), (⟨#[118, 105, 115, 105, 98, 105, 108, 105, 116, 121]⟩ : ByteArray)] : List ByteArray)) a0).bind fun t105 => (some t105)
theorem spec_Inherits.mono : ∀ a0 k, LeO (spec_Inherits.f k a0) (spec_Inherits.f (k + 1) a0) := by
  intro a0 k
  unfold spec_Inherits.f
  repeat' first
      | (with_reducible exact spec_l6Has.mono _ _ _)
      | (with_reducible exact LeO.refl _)
      | (with_reducible exact LeO.none _)
      | (with_reducible refine LeO.ite ?_ ?_)
      | (with_reducible refine LeO.bind ?_ (fun _ => ?_))
      | exact spec_l6Has.mono _ _ _
      | exact LeO.none _
      | refine LeO.ite ?_ ?_
      | refine LeO.bind ?_ (fun _ => ?_)
set_option maxHeartbeats 8000000 in
set_option maxRecDepth 100000 in
theorem spec_Inherits.calls (k : Nat) (a0 : ByteArray) (r : Bool) (w : World) (h : spec_Inherits.f k a0 = some r) :
    Calls Try.prog 16 #[.string a0] w fun e w' => e = .returned (.bool r) ∧ Below w.heap.size w w' := by
  have HB := Aside0.mk (Below.refl w.heap.size w)
  have H : ((spec_l6Has.f k (([(⟨#[99, 111, 108, 111, 114]⟩ : ByteArray), (⟨#[102, 105, 108, 108]⟩ : ByteArray), (⟨#[102, 105, 108, 108, 45, 111, 112, 97, 99, 105, 116, 121]⟩ : ByteArray), (⟨#[102, 105, 108, 108, 45, 114, 117, 108, 101]⟩ : ByteArray), (⟨#[115, 116, 114, 111, 107, 101]⟩ : ByteArray), (⟨#[115, 116, 114, 111, 107, 101, 45, 100, 97, 115, 104, 97, 114, 114, 97, 121]⟩ : ByteArray), (⟨#[115, 116, 114, 111, 107, 101, 45, 108, 105, 110, 101, 99, 97, 112]⟩ : ByteArray), (⟨#[115, 116, 114, 111, 107, 101, 45, 108, 105, 110, 101, 106, 111, 105, 110]⟩ : ByteArray), (⟨#[115, 116, 114, 111, 107, 101, 45, 111, 112, 97, 99, 105, 116, 121]⟩ : ByteArray), (⟨#[115, 116, 114, 111, 107, 101, 45, 119, 105, 100, 116, 104]⟩ : ByteArray), (⟨#[118, 105, 115, 105, 98, 105, 108, 105, 116, 121]⟩ : ByteArray)] : List ByteArray)) a0).bind fun t105 => (some t105)) = some r := h
  clear h
  obtain ⟨y102, hy102⟩ : ∃ y_ : List ByteArray, y_ = (([(⟨#[99, 111, 108, 111, 114]⟩ : ByteArray), (⟨#[102, 105, 108, 108]⟩ : ByteArray), (⟨#[102, 105, 108, 108, 45, 111, 112, 97, 99, 105, 116, 121]⟩ : ByteArray), (⟨#[102, 105, 108, 108, 45, 114, 117, 108, 101]⟩ : ByteArray), (⟨#[115, 116, 114, 111, 107, 101]⟩ : ByteArray), (⟨#[115, 116, 114, 111, 107, 101, 45, 100, 97, 115, 104, 97, 114, 114, 97, 121]⟩ : ByteArray), (⟨#[115, 116, 114, 111, 107, 101, 45, 108, 105, 110, 101, 99, 97, 112]⟩ : ByteArray), (⟨#[115, 116, 114, 111, 107, 101, 45, 108, 105, 110, 101, 106, 111, 105, 110]⟩ : ByteArray), (⟨#[115, 116, 114, 111, 107, 101, 45, 111, 112, 97, 99, 105, 116, 121]⟩ : ByteArray), (⟨#[115, 116, 114, 111, 107, 101, 45, 119, 105, 100, 116, 104]⟩ : ByteArray), (⟨#[118, 105, 115, 105, 98, 105, 108, 105, 116, 121]⟩ : ByteArray)] : List ByteArray)) := ⟨_, rfl⟩
  replace H : ((spec_l6Has.f k y102 a0).bind fun t105 => (some t105)) = some r := by first | (rw [hy102]; with_reducible exact H) | (have H2_ := (Option.bind_some _ _).symm.trans H; rw [hy102]; with_reducible exact H2_) | (have H2_ := (Option.bind_some _ _).symm.trans H; with_reducible exact H2_) | with_reducible exact H | (rw [hy102]; exact H) | exact H
  have Ny102 := Aside0.mk hy102
  clear hy102
  replace H := Option.bind_eq_some_iff.mp H
  obtain ⟨t105, A20, H⟩ := H
  replace H : (some t105) = some r := H
  have A2 := Aside0.mk A20
  clear A20
  obtain rfl := Option.some.inj H
  go_enter Try.func16, Try.ntmps16
  go_wp2_with (first | ((with_reducible refine gate_dst (N := 3) rfl ?_); refine Kd.R_lit Kd.string _ 9 ?hg (N := 3) ?hd (xs := ([(⟨#[99, 111, 108, 111, 114]⟩ : ByteArray), (⟨#[102, 105, 108, 108]⟩ : ByteArray), (⟨#[102, 105, 108, 108, 45, 111, 112, 97, 99, 105, 116, 121]⟩ : ByteArray), (⟨#[102, 105, 108, 108, 45, 114, 117, 108, 101]⟩ : ByteArray), (⟨#[115, 116, 114, 111, 107, 101]⟩ : ByteArray), (⟨#[115, 116, 114, 111, 107, 101, 45, 100, 97, 115, 104, 97, 114, 114, 97, 121]⟩ : ByteArray), (⟨#[115, 116, 114, 111, 107, 101, 45, 108, 105, 110, 101, 99, 97, 112]⟩ : ByteArray), (⟨#[115, 116, 114, 111, 107, 101, 45, 108, 105, 110, 101, 106, 111, 105, 110]⟩ : ByteArray), (⟨#[115, 116, 114, 111, 107, 101, 45, 111, 112, 97, 99, 105, 116, 121]⟩ : ByteArray), (⟨#[115, 116, 114, 111, 107, 101, 45, 119, 105, 100, 116, 104]⟩ : ByteArray), (⟨#[118, 105, 115, 105, 98, 105, 108, 105, 116, 121]⟩ : ByteArray)] : List ByteArray)) (inner := [.string (⟨#[99, 111, 108, 111, 114]⟩ : ByteArray), .string (⟨#[102, 105, 108, 108]⟩ : ByteArray), .string (⟨#[102, 105, 108, 108, 45, 111, 112, 97, 99, 105, 116, 121]⟩ : ByteArray), .string (⟨#[102, 105, 108, 108, 45, 114, 117, 108, 101]⟩ : ByteArray), .string (⟨#[115, 116, 114, 111, 107, 101]⟩ : ByteArray), .string (⟨#[115, 116, 114, 111, 107, 101, 45, 100, 97, 115, 104, 97, 114, 114, 97, 121]⟩ : ByteArray), .string (⟨#[115, 116, 114, 111, 107, 101, 45, 108, 105, 110, 101, 99, 97, 112]⟩ : ByteArray), .string (⟨#[115, 116, 114, 111, 107, 101, 45, 108, 105, 110, 101, 106, 111, 105, 110]⟩ : ByteArray), .string (⟨#[115, 116, 114, 111, 107, 101, 45, 111, 112, 97, 99, 105, 116, 121]⟩ : ByteArray), .string (⟨#[115, 116, 114, 111, 107, 101, 45, 119, 105, 100, 116, 104]⟩ : ByteArray), .string (⟨#[118, 105, 115, 105, 98, 105, 108, 105, 116, 121]⟩ : ByteArray)]) (ok := fun _ => True) (okp := fun _ => True) ?hr ?hp (fun _ hk => hk) trivial (Below.refl _ _) (Nat.le_refl _) (by simp) ?_; (case hd => rfl); (case hg => rfl); (case hr => first | (go_simp; done) | (go_simp; rfl)); (case hp => exact (Reps.one (show Kd.M Kd.string _ _ _ (⟨#[99, 111, 108, 111, 114]⟩ : ByteArray) [.string (⟨#[99, 111, 108, 111, 114]⟩ : ByteArray)] from rfl) (Reps.one (show Kd.M Kd.string _ _ _ (⟨#[102, 105, 108, 108]⟩ : ByteArray) [.string (⟨#[102, 105, 108, 108]⟩ : ByteArray)] from rfl) (Reps.one (show Kd.M Kd.string _ _ _ (⟨#[102, 105, 108, 108, 45, 111, 112, 97, 99, 105, 116, 121]⟩ : ByteArray) [.string (⟨#[102, 105, 108, 108, 45, 111, 112, 97, 99, 105, 116, 121]⟩ : ByteArray)] from rfl) (Reps.one (show Kd.M Kd.string _ _ _ (⟨#[102, 105, 108, 108, 45, 114, 117, 108, 101]⟩ : ByteArray) [.string (⟨#[102, 105, 108, 108, 45, 114, 117, 108, 101]⟩ : ByteArray)] from rfl) (Reps.one (show Kd.M Kd.string _ _ _ (⟨#[115, 116, 114, 111, 107, 101]⟩ : ByteArray) [.string (⟨#[115, 116, 114, 111, 107, 101]⟩ : ByteArray)] from rfl) (Reps.one (show Kd.M Kd.string _ _ _ (⟨#[115, 116, 114, 111, 107, 101, 45, 100, 97, 115, 104, 97, 114, 114, 97, 121]⟩ : ByteArray) [.string (⟨#[115, 116, 114, 111, 107, 101, 45, 100, 97, 115, 104, 97, 114, 114, 97, 121]⟩ : ByteArray)] from rfl) (Reps.one (show Kd.M Kd.string _ _ _ (⟨#[115, 116, 114, 111, 107, 101, 45, 108, 105, 110, 101, 99, 97, 112]⟩ : ByteArray) [.string (⟨#[115, 116, 114, 111, 107, 101, 45, 108, 105, 110, 101, 99, 97, 112]⟩ : ByteArray)] from rfl) (Reps.one (show Kd.M Kd.string _ _ _ (⟨#[115, 116, 114, 111, 107, 101, 45, 108, 105, 110, 101, 106, 111, 105, 110]⟩ : ByteArray) [.string (⟨#[115, 116, 114, 111, 107, 101, 45, 108, 105, 110, 101, 106, 111, 105, 110]⟩ : ByteArray)] from rfl) (Reps.one (show Kd.M Kd.string _ _ _ (⟨#[115, 116, 114, 111, 107, 101, 45, 111, 112, 97, 99, 105, 116, 121]⟩ : ByteArray) [.string (⟨#[115, 116, 114, 111, 107, 101, 45, 111, 112, 97, 99, 105, 116, 121]⟩ : ByteArray)] from rfl) (Reps.one (show Kd.M Kd.string _ _ _ (⟨#[115, 116, 114, 111, 107, 101, 45, 119, 105, 100, 116, 104]⟩ : ByteArray) [.string (⟨#[115, 116, 114, 111, 107, 101, 45, 119, 105, 100, 116, 104]⟩ : ByteArray)] from rfl) (Reps.one (show Kd.M Kd.string _ _ _ (⟨#[118, 105, 115, 105, 98, 105, 108, 105, 116, 121]⟩ : ByteArray) [.string (⟨#[118, 105, 115, 105, 98, 105, 108, 105, 116, 121]⟩ : ByteArray)] from rfl) (Reps.none _ _))))))))))))); intro v103 w3 ho4 hb hg_ hnew_; clear hg_ hnew_; (first | rw [← Ny102.out] at ho4 | (simp only [Int.reduceToNat] at ho4; rw [← Ny102.out] at ho4)); have n0_ := Aside0.mk (Kd.R_lower ho4 (below_size (by repeat (first | (with_reducible first | exact HB.out | apply below_alloc | apply pw_below_drewN | apply below_drew1) | exact HB.out)))); have n1_ := Aside0.mk (below_step (by repeat (first | (with_reducible first | exact HB.out | apply below_alloc | apply pw_below_drewN | apply below_drew1) | exact HB.out)) hb); clear HB; have HO104 := n0_; have HB := n1_; clear n0_ n1_; clear hb ho4; obtain ⟨Ao5, co5, eo5⟩ := Kd.R_slice HO104.out; subst eo5) | ((with_reducible refine gate_callee (f := 28) rfl ?_); refine goesL_ (some 5) rfl rfl Try.func28 (by kernel_rfl) rfl #[.slice Ao5 y102.length co5, .string a0] rfl (by (try simp only [List.map_toArray, List.map_cons, List.map_nil]); first | done | rfl | (simp only [List.length_drop, List.length_take]; rfl)) ?_; (with_reducible refine (spec_l6Has.calls k _ _ y102 a0 t105 _ ?side1 ?side2 A2.out).mono ?_); (case side1 => repeat (first | exact (Kd.R_reads' HO104.out).2.2 | (with_reducible refine Kd.C_alloc ?_ _) | (with_reducible refine Kd.C_drewN ?_ _) | (with_reducible refine Kd.C_drew ?_))); (case side2 => exact (Kd.R_reads' HO104.out).2.1); rintro e w' ⟨rfl, ⟨nd, rfl⟩⟩; refine ⟨_, rfl, ?_⟩))
  go_ret
  exact ⟨by first | rfl | (simp [errW_none, errW_some] <;> rfl) | (simp [*, errW_none, errW_some] <;> rfl), by repeat (first | (with_reducible first | exact HB.out | apply below_alloc | apply pw_below_drewN | apply below_drew1) | exact HB.out)⟩

/-! ### impl_properties: function 36 -/
def impl_properties.f  : Option ((List (S39))) := some (([(⟨(⟨#[99, 108, 105, 112, 45, 112, 97, 116, 104]⟩ : ByteArray), (⟨#[110, 111, 110, 101]⟩ : ByteArray), false⟩ : S39), (⟨(⟨#[99, 111, 108, 111, 114]⟩ : ByteArray), (⟨#[98, 108, 97, 99, 107]⟩ : ByteArray), true⟩ : S39), (⟨(⟨#[100, 105, 115, 112, 108, 97, 121]⟩ : ByteArray), (⟨#[105, 110, 108, 105, 110, 101]⟩ : ByteArray), false⟩ : S39), (⟨(⟨#[102, 105, 108, 108]⟩ : ByteArray), (⟨#[98, 108, 97, 99, 107]⟩ : ByteArray), true⟩ : S39), (⟨(⟨#[102, 105, 108, 108, 45, 111, 112, 97, 99, 105, 116, 121]⟩ : ByteArray), (⟨#[49]⟩ : ByteArray), true⟩ : S39), (⟨(⟨#[102, 105, 108, 108, 45, 114, 117, 108, 101]⟩ : ByteArray), (⟨#[110, 111, 110, 122, 101, 114, 111]⟩ : ByteArray), true⟩ : S39), (⟨(⟨#[111, 102, 102, 115, 101, 116]⟩ : ByteArray), (⟨#[48]⟩ : ByteArray), false⟩ : S39), (⟨(⟨#[111, 112, 97, 99, 105, 116, 121]⟩ : ByteArray), (⟨#[49]⟩ : ByteArray), false⟩ : S39), (⟨(⟨#[115, 116, 111, 112, 45, 99, 111, 108, 111, 114]⟩ : ByteArray), (⟨#[98, 108, 97, 99, 107]⟩ : ByteArray), false⟩ : S39), (⟨(⟨#[115, 116, 114, 111, 107, 101]⟩ : ByteArray), (⟨#[110, 111, 110, 101]⟩ : ByteArray), true⟩ : S39), (⟨(⟨#[115, 116, 114, 111, 107, 101, 45, 100, 97, 115, 104, 97, 114, 114, 97, 121]⟩ : ByteArray), (⟨#[110, 111, 110, 101]⟩ : ByteArray), true⟩ : S39), (⟨(⟨#[115, 116, 114, 111, 107, 101, 45, 108, 105, 110, 101, 99, 97, 112]⟩ : ByteArray), (⟨#[98, 117, 116, 116]⟩ : ByteArray), true⟩ : S39), (⟨(⟨#[115, 116, 114, 111, 107, 101, 45, 108, 105, 110, 101, 106, 111, 105, 110]⟩ : ByteArray), (⟨#[109, 105, 116, 101, 114]⟩ : ByteArray), true⟩ : S39), (⟨(⟨#[115, 116, 114, 111, 107, 101, 45, 111, 112, 97, 99, 105, 116, 121]⟩ : ByteArray), (⟨#[49]⟩ : ByteArray), true⟩ : S39), (⟨(⟨#[115, 116, 114, 111, 107, 101, 45, 119, 105, 100, 116, 104]⟩ : ByteArray), (⟨#[49]⟩ : ByteArray), true⟩ : S39), (⟨(⟨#[118, 105, 115, 105, 98, 105, 108, 105, 116, 121]⟩ : ByteArray), (⟨#[118, 105, 115, 105, 98, 108, 101]⟩ : ByteArray), true⟩ : S39)] : List (S39)))
set_option maxHeartbeats 8000000 in
set_option maxRecDepth 100000 in
theorem impl_properties.calls  (r : List (S39)) (w : World) (h : impl_properties.f  = some r) :
    Calls Try.prog 36 #[] w fun e w' => ∃ v0_ : Value, e = .returned (v0_) ∧ Kd.R k39 39 w' w.heap.size (fun _ => True) v0_ r ∧ Below w.heap.size w w' := by
  have hu39 := Try.underlying39
  have HB := Aside0.mk (Below.refl w.heap.size w)
  have H : (some (([(⟨(⟨#[99, 108, 105, 112, 45, 112, 97, 116, 104]⟩ : ByteArray), (⟨#[110, 111, 110, 101]⟩ : ByteArray), false⟩ : S39), (⟨(⟨#[99, 111, 108, 111, 114]⟩ : ByteArray), (⟨#[98, 108, 97, 99, 107]⟩ : ByteArray), true⟩ : S39), (⟨(⟨#[100, 105, 115, 112, 108, 97, 121]⟩ : ByteArray), (⟨#[105, 110, 108, 105, 110, 101]⟩ : ByteArray), false⟩ : S39), (⟨(⟨#[102, 105, 108, 108]⟩ : ByteArray), (⟨#[98, 108, 97, 99, 107]⟩ : ByteArray), true⟩ : S39), (⟨(⟨#[102, 105, 108, 108, 45, 111, 112, 97, 99, 105, 116, 121]⟩ : ByteArray), (⟨#[49]⟩ : ByteArray), true⟩ : S39), (⟨(⟨#[102, 105, 108, 108, 45, 114, 117, 108, 101]⟩ : ByteArray), (⟨#[110, 111, 110, 122, 101, 114, 111]⟩ : ByteArray), true⟩ : S39), (⟨(⟨#[111, 102, 102, 115, 101, 116]⟩ : ByteArray), (⟨#[48]⟩ : ByteArray), false⟩ : S39), (⟨(⟨#[111, 112, 97, 99, 105, 116, 121]⟩ : ByteArray), (⟨#[49]⟩ : ByteArray), false⟩ : S39), (⟨(⟨#[115, 116, 111, 112, 45, 99, 111, 108, 111, 114]⟩ : ByteArray), (⟨#[98, 108, 97, 99, 107]⟩ : ByteArray), false⟩ : S39), (⟨(⟨#[115, 116, 114, 111, 107, 101]⟩ : ByteArray), (⟨#[110, 111, 110, 101]⟩ : ByteArray), true⟩ : S39), (⟨(⟨#[115, 116, 114, 111, 107, 101, 45, 100, 97, 115, 104, 97, 114, 114, 97, 121]⟩ : ByteArray), (⟨#[110, 111, 110, 101]⟩ : ByteArray), true⟩ : S39), (⟨(⟨#[115, 116, 114, 111, 107, 101, 45, 108, 105, 110, 101, 99, 97, 112]⟩ : ByteArray), (⟨#[98, 117, 116, 116]⟩ : ByteArray), true⟩ : S39), (⟨(⟨#[115, 116, 114, 111, 107, 101, 45, 108, 105, 110, 101, 106, 111, 105, 110]⟩ : ByteArray), (⟨#[109, 105, 116, 101, 114]⟩ : ByteArray), true⟩ : S39), (⟨(⟨#[115, 116, 114, 111, 107, 101, 45, 111, 112, 97, 99, 105, 116, 121]⟩ : ByteArray), (⟨#[49]⟩ : ByteArray), true⟩ : S39), (⟨(⟨#[115, 116, 114, 111, 107, 101, 45, 119, 105, 100, 116, 104]⟩ : ByteArray), (⟨#[49]⟩ : ByteArray), true⟩ : S39), (⟨(⟨#[118, 105, 115, 105, 98, 105, 108, 105, 116, 121]⟩ : ByteArray), (⟨#[118, 105, 115, 105, 98, 108, 101]⟩ : ByteArray), true⟩ : S39)] : List (S39)))) = some r := h
  clear h
  obtain ⟨y106, hy106⟩ : ∃ y_ : List (S39), y_ = (([(⟨(⟨#[99, 108, 105, 112, 45, 112, 97, 116, 104]⟩ : ByteArray), (⟨#[110, 111, 110, 101]⟩ : ByteArray), false⟩ : S39), (⟨(⟨#[99, 111, 108, 111, 114]⟩ : ByteArray), (⟨#[98, 108, 97, 99, 107]⟩ : ByteArray), true⟩ : S39), (⟨(⟨#[100, 105, 115, 112, 108, 97, 121]⟩ : ByteArray), (⟨#[105, 110, 108, 105, 110, 101]⟩ : ByteArray), false⟩ : S39), (⟨(⟨#[102, 105, 108, 108]⟩ : ByteArray), (⟨#[98, 108, 97, 99, 107]⟩ : ByteArray), true⟩ : S39), (⟨(⟨#[102, 105, 108, 108, 45, 111, 112, 97, 99, 105, 116, 121]⟩ : ByteArray), (⟨#[49]⟩ : ByteArray), true⟩ : S39), (⟨(⟨#[102, 105, 108, 108, 45, 114, 117, 108, 101]⟩ : ByteArray), (⟨#[110, 111, 110, 122, 101, 114, 111]⟩ : ByteArray), true⟩ : S39), (⟨(⟨#[111, 102, 102, 115, 101, 116]⟩ : ByteArray), (⟨#[48]⟩ : ByteArray), false⟩ : S39), (⟨(⟨#[111, 112, 97, 99, 105, 116, 121]⟩ : ByteArray), (⟨#[49]⟩ : ByteArray), false⟩ : S39), (⟨(⟨#[115, 116, 111, 112, 45, 99, 111, 108, 111, 114]⟩ : ByteArray), (⟨#[98, 108, 97, 99, 107]⟩ : ByteArray), false⟩ : S39), (⟨(⟨#[115, 116, 114, 111, 107, 101]⟩ : ByteArray), (⟨#[110, 111, 110, 101]⟩ : ByteArray), true⟩ : S39), (⟨(⟨#[115, 116, 114, 111, 107, 101, 45, 100, 97, 115, 104, 97, 114, 114, 97, 121]⟩ : ByteArray), (⟨#[110, 111, 110, 101]⟩ : ByteArray), true⟩ : S39), (⟨(⟨#[115, 116, 114, 111, 107, 101, 45, 108, 105, 110, 101, 99, 97, 112]⟩ : ByteArray), (⟨#[98, 117, 116, 116]⟩ : ByteArray), true⟩ : S39), (⟨(⟨#[115, 116, 114, 111, 107, 101, 45, 108, 105, 110, 101, 106, 111, 105, 110]⟩ : ByteArray), (⟨#[109, 105, 116, 101, 114]⟩ : ByteArray), true⟩ : S39), (⟨(⟨#[115, 116, 114, 111, 107, 101, 45, 111, 112, 97, 99, 105, 116, 121]⟩ : ByteArray), (⟨#[49]⟩ : ByteArray), true⟩ : S39), (⟨(⟨#[115, 116, 114, 111, 107, 101, 45, 119, 105, 100, 116, 104]⟩ : ByteArray), (⟨#[49]⟩ : ByteArray), true⟩ : S39), (⟨(⟨#[118, 105, 115, 105, 98, 105, 108, 105, 116, 121]⟩ : ByteArray), (⟨#[118, 105, 115, 105, 98, 108, 101]⟩ : ByteArray), true⟩ : S39)] : List (S39))) := ⟨_, rfl⟩
  replace H : (some y106) = some r := by first | (rw [hy106]; with_reducible exact H) | (have H2_ := (Option.bind_some _ _).symm.trans H; rw [hy106]; with_reducible exact H2_) | (have H2_ := (Option.bind_some _ _).symm.trans H; with_reducible exact H2_) | with_reducible exact H | (rw [hy106]; exact H) | exact H
  have Ny106 := Aside0.mk hy106
  clear hy106
  obtain rfl := Option.some.inj H
  go_enter Try.func36, Try.ntmps36
  go_wp2_with (first | ((with_reducible refine gate_dst (N := 17) rfl ?_); refine Kd.R_lit k39 _ 39 ?hg (N := 17) ?hd (xs := ([(⟨(⟨#[99, 108, 105, 112, 45, 112, 97, 116, 104]⟩ : ByteArray), (⟨#[110, 111, 110, 101]⟩ : ByteArray), false⟩ : S39), (⟨(⟨#[99, 111, 108, 111, 114]⟩ : ByteArray), (⟨#[98, 108, 97, 99, 107]⟩ : ByteArray), true⟩ : S39), (⟨(⟨#[100, 105, 115, 112, 108, 97, 121]⟩ : ByteArray), (⟨#[105, 110, 108, 105, 110, 101]⟩ : ByteArray), false⟩ : S39), (⟨(⟨#[102, 105, 108, 108]⟩ : ByteArray), (⟨#[98, 108, 97, 99, 107]⟩ : ByteArray), true⟩ : S39), (⟨(⟨#[102, 105, 108, 108, 45, 111, 112, 97, 99, 105, 116, 121]⟩ : ByteArray), (⟨#[49]⟩ : ByteArray), true⟩ : S39), (⟨(⟨#[102, 105, 108, 108, 45, 114, 117, 108, 101]⟩ : ByteArray), (⟨#[110, 111, 110, 122, 101, 114, 111]⟩ : ByteArray), true⟩ : S39), (⟨(⟨#[111, 102, 102, 115, 101, 116]⟩ : ByteArray), (⟨#[48]⟩ : ByteArray), false⟩ : S39), (⟨(⟨#[111, 112, 97, 99, 105, 116, 121]⟩ : ByteArray), (⟨#[49]⟩ : ByteArray), false⟩ : S39), (⟨(⟨#[115, 116, 111, 112, 45, 99, 111, 108, 111, 114]⟩ : ByteArray), (⟨#[98, 108, 97, 99, 107]⟩ : ByteArray), false⟩ : S39), (⟨(⟨#[115, 116, 114, 111, 107, 101]⟩ : ByteArray), (⟨#[110, 111, 110, 101]⟩ : ByteArray), true⟩ : S39), (⟨(⟨#[115, 116, 114, 111, 107, 101, 45, 100, 97, 115, 104, 97, 114, 114, 97, 121]⟩ : ByteArray), (⟨#[110, 111, 110, 101]⟩ : ByteArray), true⟩ : S39), (⟨(⟨#[115, 116, 114, 111, 107, 101, 45, 108, 105, 110, 101, 99, 97, 112]⟩ : ByteArray), (⟨#[98, 117, 116, 116]⟩ : ByteArray), true⟩ : S39), (⟨(⟨#[115, 116, 114, 111, 107, 101, 45, 108, 105, 110, 101, 106, 111, 105, 110]⟩ : ByteArray), (⟨#[109, 105, 116, 101, 114]⟩ : ByteArray), true⟩ : S39), (⟨(⟨#[115, 116, 114, 111, 107, 101, 45, 111, 112, 97, 99, 105, 116, 121]⟩ : ByteArray), (⟨#[49]⟩ : ByteArray), true⟩ : S39), (⟨(⟨#[115, 116, 114, 111, 107, 101, 45, 119, 105, 100, 116, 104]⟩ : ByteArray), (⟨#[49]⟩ : ByteArray), true⟩ : S39), (⟨(⟨#[118, 105, 115, 105, 98, 105, 108, 105, 116, 121]⟩ : ByteArray), (⟨#[118, 105, 115, 105, 98, 108, 101]⟩ : ByteArray), true⟩ : S39)] : List (S39))) (inner := [.string (⟨#[99, 108, 105, 112, 45, 112, 97, 116, 104]⟩ : ByteArray), .string (⟨#[110, 111, 110, 101]⟩ : ByteArray), .bool false, .string (⟨#[99, 111, 108, 111, 114]⟩ : ByteArray), .string (⟨#[98, 108, 97, 99, 107]⟩ : ByteArray), .bool true, .string (⟨#[100, 105, 115, 112, 108, 97, 121]⟩ : ByteArray), .string (⟨#[105, 110, 108, 105, 110, 101]⟩ : ByteArray), .bool false, .string (⟨#[102, 105, 108, 108]⟩ : ByteArray), .string (⟨#[98, 108, 97, 99, 107]⟩ : ByteArray), .bool true, .string (⟨#[102, 105, 108, 108, 45, 111, 112, 97, 99, 105, 116, 121]⟩ : ByteArray), .string (⟨#[49]⟩ : ByteArray), .bool true, .string (⟨#[102, 105, 108, 108, 45, 114, 117, 108, 101]⟩ : ByteArray), .string (⟨#[110, 111, 110, 122, 101, 114, 111]⟩ : ByteArray), .bool true, .string (⟨#[111, 102, 102, 115, 101, 116]⟩ : ByteArray), .string (⟨#[48]⟩ : ByteArray), .bool false, .string (⟨#[111, 112, 97, 99, 105, 116, 121]⟩ : ByteArray), .string (⟨#[49]⟩ : ByteArray), .bool false, .string (⟨#[115, 116, 111, 112, 45, 99, 111, 108, 111, 114]⟩ : ByteArray), .string (⟨#[98, 108, 97, 99, 107]⟩ : ByteArray), .bool false, .string (⟨#[115, 116, 114, 111, 107, 101]⟩ : ByteArray), .string (⟨#[110, 111, 110, 101]⟩ : ByteArray), .bool true, .string (⟨#[115, 116, 114, 111, 107, 101, 45, 100, 97, 115, 104, 97, 114, 114, 97, 121]⟩ : ByteArray), .string (⟨#[110, 111, 110, 101]⟩ : ByteArray), .bool true, .string (⟨#[115, 116, 114, 111, 107, 101, 45, 108, 105, 110, 101, 99, 97, 112]⟩ : ByteArray), .string (⟨#[98, 117, 116, 116]⟩ : ByteArray), .bool true, .string (⟨#[115, 116, 114, 111, 107, 101, 45, 108, 105, 110, 101, 106, 111, 105, 110]⟩ : ByteArray), .string (⟨#[109, 105, 116, 101, 114]⟩ : ByteArray), .bool true, .string (⟨#[115, 116, 114, 111, 107, 101, 45, 111, 112, 97, 99, 105, 116, 121]⟩ : ByteArray), .string (⟨#[49]⟩ : ByteArray), .bool true, .string (⟨#[115, 116, 114, 111, 107, 101, 45, 119, 105, 100, 116, 104]⟩ : ByteArray), .string (⟨#[49]⟩ : ByteArray), .bool true, .string (⟨#[118, 105, 115, 105, 98, 105, 108, 105, 116, 121]⟩ : ByteArray), .string (⟨#[118, 105, 115, 105, 98, 108, 101]⟩ : ByteArray), .bool true]) (ok := fun _ => True) (okp := fun _ => True) ?hr ?hp (fun _ hk => hk) trivial (Below.refl _ _) (Nat.le_refl _) (by simp) ?_; (case hd => rfl); (case hg => rfl); (case hr => first | (go_simp; done) | (go_simp; rfl)); (case hp => exact (Reps.c3 (show Kd.M k39 _ _ _ (⟨(⟨#[99, 108, 105, 112, 45, 112, 97, 116, 104]⟩ : ByteArray), (⟨#[110, 111, 110, 101]⟩ : ByteArray), false⟩ : S39) [.string (⟨#[99, 108, 105, 112, 45, 112, 97, 116, 104]⟩ : ByteArray), .string (⟨#[110, 111, 110, 101]⟩ : ByteArray), .bool false] from (k39_mkM _ _ _ (⟨(⟨#[99, 108, 105, 112, 45, 112, 97, 116, 104]⟩ : ByteArray), (⟨#[110, 111, 110, 101]⟩ : ByteArray), false⟩ : S39) )) (Reps.c3 (show Kd.M k39 _ _ _ (⟨(⟨#[99, 111, 108, 111, 114]⟩ : ByteArray), (⟨#[98, 108, 97, 99, 107]⟩ : ByteArray), true⟩ : S39) [.string (⟨#[99, 111, 108, 111, 114]⟩ : ByteArray), .string (⟨#[98, 108, 97, 99, 107]⟩ : ByteArray), .bool true] from (k39_mkM _ _ _ (⟨(⟨#[99, 111, 108, 111, 114]⟩ : ByteArray), (⟨#[98, 108, 97, 99, 107]⟩ : ByteArray), true⟩ : S39) )) (Reps.c3 (show Kd.M k39 _ _ _ (⟨(⟨#[100, 105, 115, 112, 108, 97, 121]⟩ : ByteArray), (⟨#[105, 110, 108, 105, 110, 101]⟩ : ByteArray), false⟩ : S39) [.string (⟨#[100, 105, 115, 112, 108, 97, 121]⟩ : ByteArray), .string (⟨#[105, 110, 108, 105, 110, 101]⟩ : ByteArray), .bool false] from (k39_mkM _ _ _ (⟨(⟨#[100, 105, 115, 112, 108, 97, 121]⟩ : ByteArray), (⟨#[105, 110, 108, 105, 110, 101]⟩ : ByteArray), false⟩ : S39) )) (Reps.c3 (show Kd.M k39 _ _ _ (⟨(⟨#[102, 105, 108, 108]⟩ : ByteArray), (⟨#[98, 108, 97, 99, 107]⟩ : ByteArray), true⟩ : S39) [.string (⟨#[102, 105, 108, 108]⟩ : ByteArray), .string (⟨#[98, 108, 97, 99, 107]⟩ : ByteArray), .bool true] from (k39_mkM _ _ _ (⟨(⟨#[102, 105, 108, 108]⟩ : ByteArray), (⟨#[98, 108, 97, 99, 107]⟩ : ByteArray), true⟩ : S39) )) (Reps.c3 (show Kd.M k39 _ _ _ (⟨(⟨#[102, 105, 108, 108, 45, 111, 112, 97, 99, 105, 116, 121]⟩ : ByteArray), (⟨#[49]⟩ : ByteArray), true⟩ : S39) [.string (⟨#[102, 105, 108, 108, 45, 111, 112, 97, 99, 105, 116, 121]⟩ : ByteArray), .string (⟨#[49]⟩ : ByteArray), .bool true] from (k39_mkM _ _ _ (⟨(⟨#[102, 105, 108, 108, 45, 111, 112, 97, 99, 105, 116, 121]⟩ : ByteArray), (⟨#[49]⟩ : ByteArray), true⟩ : S39) )) (Reps.c3 (show Kd.M k39 _ _ _ (⟨(⟨#[102, 105, 108, 108, 45, 114, 117, 108, 101]⟩ : ByteArray), (⟨#[110, 111, 110, 122, 101, 114, 111]⟩ : ByteArray), true⟩ : S39) [.string (⟨#[102, 105, 108, 108, 45, 114, 117, 108, 101]⟩ : ByteArray), .string (⟨#[110, 111, 110, 122, 101, 114, 111]⟩ : ByteArray), .bool true] from (k39_mkM _ _ _ (⟨(⟨#[102, 105, 108, 108, 45, 114, 117, 108, 101]⟩ : ByteArray), (⟨#[110, 111, 110, 122, 101, 114, 111]⟩ : ByteArray), true⟩ : S39) )) (Reps.c3 (show Kd.M k39 _ _ _ (⟨(⟨#[111, 102, 102, 115, 101, 116]⟩ : ByteArray), (⟨#[48]⟩ : ByteArray), false⟩ : S39) [.string (⟨#[111, 102, 102, 115, 101, 116]⟩ : ByteArray), .string (⟨#[48]⟩ : ByteArray), .bool false] from (k39_mkM _ _ _ (⟨(⟨#[111, 102, 102, 115, 101, 116]⟩ : ByteArray), (⟨#[48]⟩ : ByteArray), false⟩ : S39) )) (Reps.c3 (show Kd.M k39 _ _ _ (⟨(⟨#[111, 112, 97, 99, 105, 116, 121]⟩ : ByteArray), (⟨#[49]⟩ : ByteArray), false⟩ : S39) [.string (⟨#[111, 112, 97, 99, 105, 116, 121]⟩ : ByteArray), .string (⟨#[49]⟩ : ByteArray), .bool false] from (k39_mkM _ _ _ (⟨(⟨#[111, 112, 97, 99, 105, 116, 121]⟩ : ByteArray), (⟨#[49]⟩ : ByteArray), false⟩ : S39) )) (Reps.c3 (show Kd.M k39 _ _ _ (⟨(⟨#[115, 116, 111, 112, 45, 99, 111, 108, 111, 114]⟩ : ByteArray), (⟨#[98, 108, 97, 99, 107]⟩ : ByteArray), false⟩ : S39) [.string (⟨#[115, 116, 111, 112, 45, 99, 111, 108, 111, 114]⟩ : ByteArray), .string (⟨#[98, 108, 97, 99, 107]⟩ : ByteArray), .bool false] from (k39_mkM _ _ _ (⟨(⟨#[115, 116, 111, 112, 45, 99, 111, 108, 111, 114]⟩ : ByteArray), (⟨#[98, 108, 97, 99, 107]⟩ : ByteArray), false⟩ : S39) )) (Reps.c3 (show Kd.M k39 _ _ _ (⟨(⟨#[115, 116, 114, 111, 107, 101]⟩ : ByteArray), (⟨#[110, 111, 110, 101]⟩ : ByteArray), true⟩ : S39) [.string (⟨#[115, 116, 114, 111, 107, 101]⟩ : ByteArray), .string (⟨#[110, 111, 110, 101]⟩ : ByteArray), .bool true] from (k39_mkM _ _ _ (⟨(⟨#[115, 116, 114, 111, 107, 101]⟩ : ByteArray), (⟨#[110, 111, 110, 101]⟩ : ByteArray), true⟩ : S39) )) (Reps.c3 (show Kd.M k39 _ _ _ (⟨(⟨#[115, 116, 114, 111, 107, 101, 45, 100, 97, 115, 104, 97, 114, 114, 97, 121]⟩ : ByteArray), (⟨#[110, 111, 110, 101]⟩ : ByteArray), true⟩ : S39) [.string (⟨#[115, 116, 114, 111, 107, 101, 45, 100, 97, 115, 104, 97, 114, 114, 97, 121]⟩ : ByteArray), .string (⟨#[110, 111, 110, 101]⟩ : ByteArray), .bool true] from (k39_mkM _ _ _ (⟨(⟨#[115, 116, 114, 111, 107, 101, 45, 100, 97, 115, 104, 97, 114, 114, 97, 121]⟩ : ByteArray), (⟨#[110, 111, 110, 101]⟩ : ByteArray), true⟩ : S39) )) (Reps.c3 (show Kd.M k39 _ _ _ (⟨(⟨#[115, 116, 114, 111, 107, 101, 45, 108, 105, 110, 101, 99, 97, 112]⟩ : ByteArray), (⟨#[98, 117, 116, 116]⟩ : ByteArray), true⟩ : S39) [.string (⟨#[115, 116, 114, 111, 107, 101, 45, 108, 105, 110, 101, 99, 97, 112]⟩ : ByteArray), .string (⟨#[98, 117, 116, 116]⟩ : ByteArray), .bool true] from (k39_mkM _ _ _ (⟨(⟨#[115, 116, 114, 111, 107, 101, 45, 108, 105, 110, 101, 99, 97, 112]⟩ : ByteArray), (⟨#[98, 117, 116, 116]⟩ : ByteArray), true⟩ : S39) )) (Reps.c3 (show Kd.M k39 _ _ _ (⟨(⟨#[115, 116, 114, 111, 107, 101, 45, 108, 105, 110, 101, 106, 111, 105, 110]⟩ : ByteArray), (⟨#[109, 105, 116, 101, 114]⟩ : ByteArray), true⟩ : S39) [.string (⟨#[115, 116, 114, 111, 107, 101, 45, 108, 105, 110, 101, 106, 111, 105, 110]⟩ : ByteArray), .string (⟨#[109, 105, 116, 101, 114]⟩ : ByteArray), .bool true] from (k39_mkM _ _ _ (⟨(⟨#[115, 116, 114, 111, 107, 101, 45, 108, 105, 110, 101, 106, 111, 105, 110]⟩ : ByteArray), (⟨#[109, 105, 116, 101, 114]⟩ : ByteArray), true⟩ : S39) )) (Reps.c3 (show Kd.M k39 _ _ _ (⟨(⟨#[115, 116, 114, 111, 107, 101, 45, 111, 112, 97, 99, 105, 116, 121]⟩ : ByteArray), (⟨#[49]⟩ : ByteArray), true⟩ : S39) [.string (⟨#[115, 116, 114, 111, 107, 101, 45, 111, 112, 97, 99, 105, 116, 121]⟩ : ByteArray), .string (⟨#[49]⟩ : ByteArray), .bool true] from (k39_mkM _ _ _ (⟨(⟨#[115, 116, 114, 111, 107, 101, 45, 111, 112, 97, 99, 105, 116, 121]⟩ : ByteArray), (⟨#[49]⟩ : ByteArray), true⟩ : S39) )) (Reps.c3 (show Kd.M k39 _ _ _ (⟨(⟨#[115, 116, 114, 111, 107, 101, 45, 119, 105, 100, 116, 104]⟩ : ByteArray), (⟨#[49]⟩ : ByteArray), true⟩ : S39) [.string (⟨#[115, 116, 114, 111, 107, 101, 45, 119, 105, 100, 116, 104]⟩ : ByteArray), .string (⟨#[49]⟩ : ByteArray), .bool true] from (k39_mkM _ _ _ (⟨(⟨#[115, 116, 114, 111, 107, 101, 45, 119, 105, 100, 116, 104]⟩ : ByteArray), (⟨#[49]⟩ : ByteArray), true⟩ : S39) )) (Reps.c3 (show Kd.M k39 _ _ _ (⟨(⟨#[118, 105, 115, 105, 98, 105, 108, 105, 116, 121]⟩ : ByteArray), (⟨#[118, 105, 115, 105, 98, 108, 101]⟩ : ByteArray), true⟩ : S39) [.string (⟨#[118, 105, 115, 105, 98, 105, 108, 105, 116, 121]⟩ : ByteArray), .string (⟨#[118, 105, 115, 105, 98, 108, 101]⟩ : ByteArray), .bool true] from (k39_mkM _ _ _ (⟨(⟨#[118, 105, 115, 105, 98, 105, 108, 105, 116, 121]⟩ : ByteArray), (⟨#[118, 105, 115, 105, 98, 108, 101]⟩ : ByteArray), true⟩ : S39) )) (Reps.none _ _)))))))))))))))))); intro v107 w1 ho2 hb hg_ hnew_; clear hg_ hnew_; (first | rw [← Ny106.out] at ho2 | (simp only [Int.reduceToNat] at ho2; rw [← Ny106.out] at ho2)); have n0_ := Aside0.mk (Kd.R_lower ho2 (below_size (by repeat (first | (with_reducible first | exact HB.out | apply below_alloc | apply pw_below_drewN | apply below_drew1) | exact HB.out)))); have n1_ := Aside0.mk (below_step (by repeat (first | (with_reducible first | exact HB.out | apply below_alloc | apply pw_below_drewN | apply below_drew1) | exact HB.out)) hb); clear HB; have HO108 := n0_; have HB := n1_; clear n0_ n1_; clear hb ho2))
  go_ret
  exact ⟨_, by first | rfl | (simp [errW_none, errW_some] <;> rfl) | (simp [*, errW_none, errW_some] <;> rfl), by (with_reducible repeat (first | apply Kd.R_alloc | apply Kd.R_drewN | apply Kd.R_drew)); exact HO108.out, by repeat (first | (with_reducible first | exact HB.out | apply below_alloc | apply pw_below_drewN | apply below_drew1) | exact HB.out)⟩

/-! ### impl_propertyOf: function 29 -/
def impl_propertyOf.l0 : Nat → ByteArray → List (S39) → Int → Int → Option (ByteArray × ByteArray × Bool × Bool)
  | 0, _, _, _, _ => none
  | k + 1, x0, x6, x7, x8 => if x8 < x7 then (if 0 ≤ x8 then (if x8 < (x6.length : Int) then (if ((rd_T39 x6 x8).f0).toList = x0.toList then (some ((rd_T39 x6 x8).f0, (rd_T39 x6 x8).f1, (rd_T39 x6 x8).f2, true)) else (impl_propertyOf.l0 k x0 x6 x7 (wrap64 (x8 + 1)))) else (none)) else (none)) else (some ((⟨#[]⟩ : ByteArray), (⟨#[]⟩ : ByteArray), false, false))
def impl_propertyOf.f (k : Nat) (a0 : ByteArray) : Option (ByteArray × ByteArray × Bool × Bool) := (impl_properties.f).bind fun t110 => (impl_propertyOf.l0 k a0 t110 (t110.length : Int) 0)
theorem impl_propertyOf.mono_l : ∀ k, (∀ y0 y1 y2 y3, LeO (impl_propertyOf.l0 k y0 y1 y2 y3) (impl_propertyOf.l0 (k + 1) y0 y1 y2 y3))
  | 0 => fun _ _ _ _ r h => by simp [impl_propertyOf.l0] at h
  | k + 1 => by
    have ih0 := impl_propertyOf.mono_l k
    · intro y0 y1 y2 y3
      unfold impl_propertyOf.l0
      repeat' first
      | (with_reducible exact ih0 _ _ _ _)
      | (with_reducible exact LeO.refl _)
      | (with_reducible exact LeO.none _)
      | (with_reducible refine LeO.ite ?_ ?_)
      | (with_reducible refine LeO.bind ?_ (fun _ => ?_))
      | exact ih0 _ _ _ _
      | exact LeO.none _
      | refine LeO.ite ?_ ?_
      | refine LeO.bind ?_ (fun _ => ?_)
theorem impl_propertyOf.mono : ∀ a0 k, LeO (impl_propertyOf.f k a0) (impl_propertyOf.f (k + 1) a0) := by
  intro a0 k
  have ih0 := impl_propertyOf.mono_l k
  unfold impl_propertyOf.f
  repeat' first
      | (with_reducible exact ih0 _ _ _ _)
      | (with_reducible exact LeO.refl _)
      | (with_reducible exact LeO.none _)
      | (with_reducible refine LeO.ite ?_ ?_)
      | (with_reducible refine LeO.bind ?_ (fun _ => ?_))
      | exact ih0 _ _ _ _
      | exact LeO.none _
      | refine LeO.ite ?_ ?_
      | refine LeO.bind ?_ (fun _ => ?_)
set_option maxHeartbeats 8000000 in
set_option maxRecDepth 100000 in
theorem impl_propertyOf.calls (k : Nat) (a0 : ByteArray) (r1 : ByteArray) (r2 : ByteArray) (r3 : Bool) (r4 : Bool) (w : World) (h : impl_propertyOf.f k a0 = some (r1, r2, r3, r4)) :
    Calls Try.prog 29 #[.string a0] w fun e w' => e = .returned (.tuple #[.agg #[.string r1, .string r2, .bool r3], .bool r4]) ∧ Below w.heap.size w w' := by
  have hu39 := Try.underlying39
  have HB := Aside0.mk (Below.refl w.heap.size w)
  have H : ((impl_properties.f).bind fun t110 => (impl_propertyOf.l0 k a0 t110 (t110.length : Int) 0)) = some (r1, r2, r3, r4) := h
  clear h
  replace H := Option.bind_eq_some_iff.mp H
  obtain ⟨t110, A20, H⟩ := H
  replace H : (impl_propertyOf.l0 k a0 t110 (t110.length : Int) 0) = some (r1, r2, r3, r4) := H
  have A2 := Aside0.mk A20
  clear A20
  have H' := Aside0.mk H
  clear H
  go_enter Try.func29, Try.ntmps29
  go_wp2_with (first | ((with_reducible refine gate_dst (N := 2) rfl ?_); refine box_event ?hg (N := 2) ?hd (cs := #[.string (⟨#[]⟩ : ByteArray), .string (⟨#[]⟩ : ByteArray), .bool false]) (t := 39) ?hr ?_; (case hd => rfl); (case hg => rfl); (case hr => first | (go_simp; done) | (go_simp; rfl)); intro gb109 hg w3 hbox hb; have n0_ := Aside0.mk (below_step (by repeat (first | (with_reducible first | exact HB.out | apply below_alloc | apply pw_below_drewN | apply below_drew1) | exact HB.out)) hb); have n1_ := Aside0.mk (hbox); have n2_ := Aside0.mk ((by rw [hg]; exact (below_size (by repeat (first | (with_reducible first | exact HB.out | apply below_alloc | apply pw_below_drewN | apply below_drew1) | exact HB.out))) : w.heap.size ≤ gb109)); have n3_ := Aside0.mk ((by rw [hg]; exact (below_size (by repeat (first | (with_reducible first | exact HB.out | apply below_alloc | apply pw_below_drewN | apply below_drew1) | exact HB.out))) : w.heap.size ≤ gb109)); clear HB; have HB := n0_; have BK109 := n1_; have GW109 := n2_; have GE109 := n3_; clear n0_ n1_ n2_ n3_; clear hb hbox hg) | ((with_reducible refine gate_callee (f := 36) rfl ?_); refine goesL_ (some 6) rfl rfl Try.func36 (by kernel_rfl) rfl #[] rfl (by (try simp only [List.map_toArray, List.map_cons, List.map_nil]); first | done | rfl | (simp only [List.length_drop, List.length_take]; rfl)) ?_; (with_reducible refine (impl_properties.calls  t110 _ A2.out).mono ?_); rintro e w4 ⟨v111, rfl, ho0, hb⟩; refine ⟨_, rfl, ?_⟩; have n0_ := Aside0.mk (Kd.R_lower (Kd.R_newB ho0 (g := gb109) (o := .cells #[.string (⟨#[]⟩ : ByteArray), .string (⟨#[]⟩ : ByteArray), .bool false] 39 (0, 0)) (by (with_reducible repeat (first | refine blk_drewN ?_ _ | refine blk_drew ?_ | refine blk_alloc ?_ _)); exact BK109.out)) (below_size (by repeat (first | (with_reducible first | exact HB.out | apply below_alloc | apply pw_below_drewN | apply below_drew1 | refine below_set ?_ GE109.out) | exact HB.out)))); have n1_ := Aside0.mk (blk_below (g := gb109) (o := .cells #[.string (⟨#[]⟩ : ByteArray), .string (⟨#[]⟩ : ByteArray), .bool false] 39 (0, 0)) (by (with_reducible repeat (first | refine blk_drewN ?_ _ | refine blk_drew ?_ | refine blk_alloc ?_ _)); exact BK109.out) hb); have n2_ := Aside0.mk (below_step (by repeat (first | (with_reducible first | exact HB.out | apply below_alloc | apply pw_below_drewN | apply below_drew1 | refine below_set ?_ GE109.out) | exact HB.out)) hb); clear BK109; clear HB; have HO112 := n0_; have BK109 := n1_; have HB := n2_; clear n0_ n1_ n2_; (try clear hb); (try clear hb2); (try clear hk); (try clear hi); (try clear ho0); obtain ⟨Ao5, co5, eo5⟩ := Kd.R_slice HO112.out; subst eo5))
  go_loopg [8] k (fun kq v8 w' => ∃ (x8_1 : Int) (x110000_1 : ByteArray) (x110001_1 : ByteArray) (x110002_1 : Bool), v8 = .int .i64 x8_1 ∧ Aside0 (impl_propertyOf.l0 kq a0 t110 (t110.length : Int) x8_1 = some (r1, r2, r3, r4)) ∧ Aside0 (kq ≤ k) ∧ Aside0 (Kd.R k39 39 w' w.heap.size (fun k_ => k_ ≠ gb109) (.slice Ao5 t110.length co5) t110) ∧ Aside0 (w'.heap[gb109]? = some (.cells #[.string x110000_1, .string x110001_1, .bool x110002_1] 39 (0, 0))) ∧ Aside0 (Below w.heap.size w w'))
  case atStart => exact ⟨(0), ((⟨#[]⟩ : ByteArray)), ((⟨#[]⟩ : ByteArray)), (false), (by first | rfl | (simp; done) | (simp [*]; done)), H', ⟨Nat.le_refl _⟩, ⟨by (with_reducible repeat (first | apply Kd.R_alloc | apply Kd.R_drewN | apply Kd.R_drew)); exact Kd.R_mono HO112.out (fun _ hk => hk.2)⟩, ⟨by (with_reducible repeat (first | refine blk_drewN ?_ _ | refine blk_drew ?_ | refine blk_alloc ?_ _)); exact BK109.out⟩, ⟨by repeat (first | (with_reducible first | exact HB.out | apply below_alloc | apply pw_below_drewN | apply below_drew1 | refine below_set ?_ GE109.out) | exact HB.out)⟩⟩
  case round =>
    clear H'
    try clear c2
    try clear p2
    try clear c3
    obtain ⟨x8_1, x110000_1, x110001_1, x110002_1, rfl, HA, HK1, HO_6, BK109, HB⟩ := hrel
    cases gk with
    | zero => exact absurd HA.out (by simp [impl_propertyOf.l0])
    | succ k1 =>
      have H := HA.out
      clear HA
      simp only [impl_propertyOf.l0] at H
      by_cases c6 : x8_1 < (t110.length : Int)
      · rw [if_pos c6] at H
        have c6b0 : decide (x8_1 < (t110.length : Int)) = true := decide_eq_true c6
        clear c6
        by_cases c7 : 0 ≤ x8_1
        · rw [if_pos c7] at H
          have c7b0 : decide (0 ≤ x8_1) = true := decide_eq_true c7
          clear c7
          by_cases c8 : x8_1 < (t110.length : Int)
          · rw [if_pos c8] at H
            have c8b0 : decide (x8_1 < (t110.length : Int)) = true := decide_eq_true c8
            clear c8
            by_cases c9 : ((rd_T39 t110 x8_1).f0).toList = a0.toList
            · rw [if_pos c9] at H
              have c9b0 : (((rd_T39 t110 x8_1).f0).toList == a0.toList) = true := beq_iff_eq.mpr c9
              have c9b1 : (((rd_T39 t110 x8_1).f0).toList != a0.toList) = false := bne_eq_false_iff_eq.mpr c9
              clear c9
              simp only [Option.some.injEq, Prod.mk.injEq] at H
              obtain ⟨rfl, rfl, rfl, rfl⟩ := H
              have p113 : 0 ≤ (x8_1 : Int) := of_decide_eq_true (by first | (with_reducible assumption) | assumption)
              have q113 : x8_1 < (t110.length : Int) := of_decide_eq_true (by first | (with_reducible assumption) | assumption)
              obtain ⟨ad113, e113, hx113_0, hx113_1, hx113_2⟩ := at_T39 (Kd.R_reads' HO_6.out).2.2 x8_1 p113 q113
              cases e113
              replace p113 := eq_true p113
              replace q113 := eq_true q113
              go_wp2_with (first | ((with_reducible refine gate_dst (N := 5) rfl ?_); refine box_event ?hg (N := 5) ?hd (cs := #[.string (⟨#[]⟩ : ByteArray), .string (⟨#[]⟩ : ByteArray), .bool false]) (t := 39) ?hr ?_; (case hd => rfl); (case hg => rfl); (case hr => first | (go_simp; done) | (go_simp; rfl)); intro gb114 hg w10 hbox hb; have n0_ := Aside0.mk (Kd.R_below (Kd.R_elderB (by (with_reducible repeat (first | apply Kd.R_alloc | apply Kd.R_drewN | apply Kd.R_drew)); exact HO_6.out) gb114 (Nat.le_of_eq hg.symm)) hb); have n1_ := Aside0.mk (blk_below (g := gb109) (o := .cells #[.string x110000_1, .string x110001_1, .bool x110002_1] 39 (0, 0)) (by (with_reducible repeat (first | refine blk_drewN ?_ _ | refine blk_drew ?_ | refine blk_alloc ?_ _)); exact BK109.out) hb); have n2_ := Aside0.mk (below_step (by repeat (first | (with_reducible first | exact HB.out | apply below_alloc | apply pw_below_drewN | apply below_drew1 | refine below_set ?_ GE109.out) | exact HB.out)) hb); have n3_ := Aside0.mk (hbox); have n4_ := Aside0.mk ((by rw [hg]; exact (below_size (by repeat (first | (with_reducible first | exact HB.out | apply below_alloc | apply pw_below_drewN | apply below_drew1 | refine below_set ?_ GE109.out) | exact HB.out))) : w.heap.size ≤ gb114)); have n5_ := Aside0.mk ((by rw [hg]; exact (below_size (by repeat (first | (with_reducible first | exact HB.out | apply below_alloc | apply pw_below_drewN | apply below_drew1 | refine below_set ?_ GE109.out) | exact HB.out))) : w.heap.size ≤ gb114)); have n6_ := Aside0.mk ((by rw [hg]; exact Nat.ne_of_lt (blk_lt (g := gb109) (o := .cells #[.string x110000_1, .string x110001_1, .bool x110002_1] 39 (0, 0)) (by (with_reducible repeat (first | refine blk_drewN ?_ _ | refine blk_drew ?_ | refine blk_alloc ?_ _)); exact BK109.out)) : gb109 ≠ gb114)); have n7_ := Aside0.mk ((by rw [hg]; exact Nat.ne_of_gt (blk_lt (g := gb109) (o := .cells #[.string x110000_1, .string x110001_1, .bool x110002_1] 39 (0, 0)) (by (with_reducible repeat (first | refine blk_drewN ?_ _ | refine blk_drew ?_ | refine blk_alloc ?_ _)); exact BK109.out)) : gb114 ≠ gb109)); clear HO_6; clear BK109; clear HB; have HO_6 := n0_; have BK109 := n1_; have HB := n2_; have BK114 := n3_; have GW114 := n4_; have GE114 := n5_; have NB109_114 := n6_; have NB114_109 := n7_; clear n0_ n1_ n2_ n3_ n4_ n5_ n6_ n7_; clear hb hbox hg; have hnb11 := NB114_109.out; have hnc11 := NB109_114.out; have hcz12_0 : w10.cell? ⟨gb114, 0, none⟩ = some (.string (⟨#[]⟩ : ByteArray)) := (blk_cell BK114.out 0).trans rfl; have hcz12_1 : w10.cell? ⟨gb114, 1, none⟩ = some (.string (⟨#[]⟩ : ByteArray)) := (blk_cell BK114.out 1).trans rfl; have hcz12_2 : w10.cell? ⟨gb114, 2, none⟩ = some (.bool false) := (blk_cell BK114.out 2).trans rfl; have hfz12_0 := blk_frozen BK114.out 0; have hfz12_1 := blk_frozen BK114.out 1; have hfz12_2 := blk_frozen BK114.out 2; have hcz13_0 : w10.cell? ⟨gb109, 0, none⟩ = some (.string x110000_1) := (blk_cell BK109.out 0).trans rfl; have hcz13_1 : w10.cell? ⟨gb109, 1, none⟩ = some (.string x110001_1) := (blk_cell BK109.out 1).trans rfl; have hcz13_2 : w10.cell? ⟨gb109, 2, none⟩ = some (.bool x110002_1) := (blk_cell BK109.out 2).trans rfl; have hfz13_0 := blk_frozen BK109.out 0; have hfz13_1 := blk_frozen BK109.out 1; have hfz13_2 := blk_frozen BK109.out 2))
              refine bodyPost_ret (results_ct rfl _ _ gb109 39 #[.string ((rd_T39 t110 x8_1).f0), .string ((rd_T39 t110 x8_1).f1), .bool ((rd_T39 t110 x8_1).f2)] (0, 0) _ rfl (by (with_reducible repeat (first | refine blk_drewN ?_ _ | refine blk_drew ?_ | refine blk_alloc ?_ _)); refine blk_put (cs := #[.string ((rd_T39 t110 x8_1).f0), .string ((rd_T39 t110 x8_1).f1), .bool x110002_1]) ?_ 2 _ rfl; (with_reducible repeat (first | refine blk_drewN ?_ _ | refine blk_drew ?_ | refine blk_alloc ?_ _)); refine blk_put (cs := #[.string ((rd_T39 t110 x8_1).f0), .string x110001_1, .bool x110002_1]) ?_ 1 _ rfl; (with_reducible repeat (first | refine blk_drewN ?_ _ | refine blk_drew ?_ | refine blk_alloc ?_ _)); refine blk_put (cs := #[.string x110000_1, .string x110001_1, .bool x110002_1]) ?_ 0 _ rfl; (with_reducible repeat (first | refine blk_drewN ?_ _ | refine blk_drew ?_ | refine blk_alloc ?_ _)); refine blk_far ?_ NB109_114.out _; (with_reducible repeat (first | refine blk_drewN ?_ _ | refine blk_drew ?_ | refine blk_alloc ?_ _)); refine blk_far ?_ NB109_114.out _; (with_reducible repeat (first | refine blk_drewN ?_ _ | refine blk_drew ?_ | refine blk_alloc ?_ _)); refine blk_far ?_ NB109_114.out _; (with_reducible repeat (first | refine blk_drewN ?_ _ | refine blk_drew ?_ | refine blk_alloc ?_ _)); exact BK109.out) Try.underlying39 rfl (by kernel_rfl)) rfl ?_
              exact ⟨by first | rfl | (simp [errW_none, errW_some] <;> rfl) | (simp [*, errW_none, errW_some] <;> rfl), by repeat (first | (with_reducible first | exact HB.out | apply below_alloc | apply pw_below_drewN | apply below_drew1 | refine below_set ?_ GE109.out | refine below_set ?_ GE114.out) | exact HB.out)⟩
            · rw [if_neg c9] at H
              have c9b0 : (((rd_T39 t110 x8_1).f0).toList == a0.toList) = false := beq_eq_false_iff_ne.mpr c9
              have c9b1 : (((rd_T39 t110 x8_1).f0).toList != a0.toList) = true := bne_iff_ne.mpr c9
              have H' := Aside0.mk H
              clear H
              have p113 : 0 ≤ (x8_1 : Int) := of_decide_eq_true (by first | (with_reducible assumption) | assumption)
              have q113 : x8_1 < (t110.length : Int) := of_decide_eq_true (by first | (with_reducible assumption) | assumption)
              obtain ⟨ad113, e113, hx113_0, hx113_1, hx113_2⟩ := at_T39 (Kd.R_reads' HO_6.out).2.2 x8_1 p113 q113
              cases e113
              replace p113 := eq_true p113
              replace q113 := eq_true q113
              go_wp2_with (first | ((with_reducible refine gate_dst (N := 5) rfl ?_); refine box_event ?hg (N := 5) ?hd (cs := #[.string (⟨#[]⟩ : ByteArray), .string (⟨#[]⟩ : ByteArray), .bool false]) (t := 39) ?hr ?_; (case hd => rfl); (case hg => rfl); (case hr => first | (go_simp; done) | (go_simp; rfl)); intro gb114 hg w14 hbox hb; have n0_ := Aside0.mk (Kd.R_below (Kd.R_elderB (by (with_reducible repeat (first | apply Kd.R_alloc | apply Kd.R_drewN | apply Kd.R_drew)); exact HO_6.out) gb114 (Nat.le_of_eq hg.symm)) hb); have n1_ := Aside0.mk (blk_below (g := gb109) (o := .cells #[.string x110000_1, .string x110001_1, .bool x110002_1] 39 (0, 0)) (by (with_reducible repeat (first | refine blk_drewN ?_ _ | refine blk_drew ?_ | refine blk_alloc ?_ _)); exact BK109.out) hb); have n2_ := Aside0.mk (below_step (by repeat (first | (with_reducible first | exact HB.out | apply below_alloc | apply pw_below_drewN | apply below_drew1 | refine below_set ?_ GE109.out) | exact HB.out)) hb); have n3_ := Aside0.mk (hbox); have n4_ := Aside0.mk ((by rw [hg]; exact (below_size (by repeat (first | (with_reducible first | exact HB.out | apply below_alloc | apply pw_below_drewN | apply below_drew1 | refine below_set ?_ GE109.out) | exact HB.out))) : w.heap.size ≤ gb114)); have n5_ := Aside0.mk ((by rw [hg]; exact (below_size (by repeat (first | (with_reducible first | exact HB.out | apply below_alloc | apply pw_below_drewN | apply below_drew1 | refine below_set ?_ GE109.out) | exact HB.out))) : w.heap.size ≤ gb114)); have n6_ := Aside0.mk ((by rw [hg]; exact Nat.ne_of_lt (blk_lt (g := gb109) (o := .cells #[.string x110000_1, .string x110001_1, .bool x110002_1] 39 (0, 0)) (by (with_reducible repeat (first | refine blk_drewN ?_ _ | refine blk_drew ?_ | refine blk_alloc ?_ _)); exact BK109.out)) : gb109 ≠ gb114)); have n7_ := Aside0.mk ((by rw [hg]; exact Nat.ne_of_gt (blk_lt (g := gb109) (o := .cells #[.string x110000_1, .string x110001_1, .bool x110002_1] 39 (0, 0)) (by (with_reducible repeat (first | refine blk_drewN ?_ _ | refine blk_drew ?_ | refine blk_alloc ?_ _)); exact BK109.out)) : gb114 ≠ gb109)); clear HO_6; clear BK109; clear HB; have HO_6 := n0_; have BK109 := n1_; have HB := n2_; have BK114 := n3_; have GW114 := n4_; have GE114 := n5_; have NB109_114 := n6_; have NB114_109 := n7_; clear n0_ n1_ n2_ n3_ n4_ n5_ n6_ n7_; clear hb hbox hg; have hnb15 := NB114_109.out; have hnc15 := NB109_114.out; have hcz16_0 : w14.cell? ⟨gb114, 0, none⟩ = some (.string (⟨#[]⟩ : ByteArray)) := (blk_cell BK114.out 0).trans rfl; have hcz16_1 : w14.cell? ⟨gb114, 1, none⟩ = some (.string (⟨#[]⟩ : ByteArray)) := (blk_cell BK114.out 1).trans rfl; have hcz16_2 : w14.cell? ⟨gb114, 2, none⟩ = some (.bool false) := (blk_cell BK114.out 2).trans rfl; have hfz16_0 := blk_frozen BK114.out 0; have hfz16_1 := blk_frozen BK114.out 1; have hfz16_2 := blk_frozen BK114.out 2))
              go_roundg k1
              case measure => have := HK1.out; omega
              case rel => exact ⟨(wrap64 (x8_1 + 1)), (x110000_1), (x110001_1), (x110002_1), (by first | rfl | (simp; done) | (simp [*]; done)), H', ⟨by have := HK1.out; omega⟩, ⟨by (with_reducible repeat (first | apply Kd.R_alloc | apply Kd.R_drewN | apply Kd.R_drew)); exact Kd.R_mono (Kd.R_far (p := ⟨gb114, 2, none⟩) (Kd.R_far (p := ⟨gb114, 1, none⟩) (Kd.R_far (p := ⟨gb114, 0, none⟩) (Kd.R_mono HO_6.out (fun k_ hk => (⟨hk, hk.2⟩ : _ ∧ k_ ≠ gb114))) (fun _ hk => hk.2) (.string ((rd_T39 t110 x8_1).f0))) (fun _ hk => hk.2) (.string ((rd_T39 t110 x8_1).f1))) (fun _ hk => hk.2) (.bool ((rd_T39 t110 x8_1).f2))) (fun _ hk => hk.1.1)⟩, ⟨by (with_reducible repeat (first | refine blk_drewN ?_ _ | refine blk_drew ?_ | refine blk_alloc ?_ _)); refine blk_far ?_ NB109_114.out _; (with_reducible repeat (first | refine blk_drewN ?_ _ | refine blk_drew ?_ | refine blk_alloc ?_ _)); refine blk_far ?_ NB109_114.out _; (with_reducible repeat (first | refine blk_drewN ?_ _ | refine blk_drew ?_ | refine blk_alloc ?_ _)); refine blk_far ?_ NB109_114.out _; (with_reducible repeat (first | refine blk_drewN ?_ _ | refine blk_drew ?_ | refine blk_alloc ?_ _)); exact BK109.out⟩, ⟨by repeat (first | (with_reducible first | exact HB.out | apply below_alloc | apply pw_below_drewN | apply below_drew1 | refine below_set ?_ GE109.out | refine below_set ?_ GE114.out) | exact HB.out)⟩⟩
          · rw [if_neg c8] at H
            exact absurd H (by simp)
        · rw [if_neg c7] at H
          exact absurd H (by simp)
      · rw [if_neg c6] at H
        have c6b0 : decide (x8_1 < (t110.length : Int)) = false := decide_eq_false c6
        clear c6
        simp only [Option.some.injEq, Prod.mk.injEq] at H
        obtain ⟨rfl, rfl, rfl, rfl⟩ := H
        have hcz17_0 : wr.cell? ⟨gb109, 0, none⟩ = some (.string x110000_1) := (blk_cell BK109.out 0).trans rfl
        have hcz17_1 : wr.cell? ⟨gb109, 1, none⟩ = some (.string x110001_1) := (blk_cell BK109.out 1).trans rfl
        have hcz17_2 : wr.cell? ⟨gb109, 2, none⟩ = some (.bool x110002_1) := (blk_cell BK109.out 2).trans rfl
        have hfz17_0 := blk_frozen BK109.out 0
        have hfz17_1 := blk_frozen BK109.out 1
        have hfz17_2 := blk_frozen BK109.out 2
        go_wp2
        refine bodyPost_ret (results_ct rfl _ _ gb109 39 #[.string (⟨#[]⟩ : ByteArray), .string (⟨#[]⟩ : ByteArray), .bool false] (0, 0) _ rfl (by (with_reducible repeat (first | refine blk_drewN ?_ _ | refine blk_drew ?_ | refine blk_alloc ?_ _)); refine blk_put (cs := #[.string (⟨#[]⟩ : ByteArray), .string (⟨#[]⟩ : ByteArray), .bool x110002_1]) ?_ 2 _ rfl; (with_reducible repeat (first | refine blk_drewN ?_ _ | refine blk_drew ?_ | refine blk_alloc ?_ _)); refine blk_put (cs := #[.string (⟨#[]⟩ : ByteArray), .string x110001_1, .bool x110002_1]) ?_ 1 _ rfl; (with_reducible repeat (first | refine blk_drewN ?_ _ | refine blk_drew ?_ | refine blk_alloc ?_ _)); refine blk_put (cs := #[.string x110000_1, .string x110001_1, .bool x110002_1]) ?_ 0 _ rfl; (with_reducible repeat (first | refine blk_drewN ?_ _ | refine blk_drew ?_ | refine blk_alloc ?_ _)); exact BK109.out) Try.underlying39 rfl (by kernel_rfl)) rfl ?_
        exact ⟨by first | rfl | (simp [errW_none, errW_some] <;> rfl) | (simp [*, errW_none, errW_some] <;> rfl), by repeat (first | (with_reducible first | exact HB.out | apply below_alloc | apply pw_below_drewN | apply below_drew1 | refine below_set ?_ GE109.out) | exact HB.out)⟩

/-! ### impl_Inherits: function 17 -/
def impl_Inherits.f (k : Nat) (a0 : ByteArray) : Option (Bool) := (impl_propertyOf.f k a0).bind fun bt115 => (some bt115.2.2.1)
theorem impl_Inherits.mono : ∀ a0 k, LeO (impl_Inherits.f k a0) (impl_Inherits.f (k + 1) a0) := by
  intro a0 k
  unfold impl_Inherits.f
  repeat' first
      | (with_reducible exact impl_propertyOf.mono _ _)
      | (with_reducible exact LeO.refl _)
      | (with_reducible exact LeO.none _)
      | (with_reducible refine LeO.ite ?_ ?_)
      | (with_reducible refine LeO.bind ?_ (fun _ => ?_))
      | exact impl_propertyOf.mono _ _
      | exact LeO.none _
      | refine LeO.ite ?_ ?_
      | refine LeO.bind ?_ (fun _ => ?_)
set_option maxHeartbeats 8000000 in
set_option maxRecDepth 100000 in
theorem impl_Inherits.calls (k : Nat) (a0 : ByteArray) (r : Bool) (w : World) (h : impl_Inherits.f k a0 = some r) :
    Calls Try.prog 17 #[.string a0] w fun e w' => e = .returned (.bool r) ∧ Below w.heap.size w w' := by
  have hu39 := Try.underlying39
  have HB := Aside0.mk (Below.refl w.heap.size w)
  have H : ((impl_propertyOf.f k a0).bind fun bt115 => (some bt115.2.2.1)) = some r := h
  clear h
  replace H := Option.bind_eq_some_iff.mp H
  obtain ⟨⟨t115, t116, t117, t118⟩, A20, H⟩ := H
  replace H : (some t117) = some r := H
  have A2 := Aside0.mk A20
  clear A20
  obtain rfl := Option.some.inj H
  go_enter Try.func17, Try.ntmps17
  go_wp2_with (first | ((with_reducible refine gate_callee (f := 29) rfl ?_); refine goesL_ (some 7) rfl rfl Try.func29 (by kernel_rfl) rfl #[.string a0] rfl (by (try simp only [List.map_toArray, List.map_cons, List.map_nil]); first | done | rfl | (simp only [List.length_drop, List.length_take]; rfl)) ?_; (with_reducible refine (impl_propertyOf.calls k a0 t115 t116 t117 t118 _ A2.out).mono ?_); rintro e w3 ⟨rfl, hb⟩; refine ⟨_, rfl, ?_⟩; have n0_ := Aside0.mk (below_step (by repeat (first | (with_reducible first | exact HB.out | apply below_alloc | apply pw_below_drewN | apply below_drew1) | exact HB.out)) hb); clear HB; have HB := n0_; clear n0_; (try clear hb); (try clear hb2); (try clear hk); (try clear hi)) | ((with_reducible refine gate_dst (N := 3) rfl ?_); refine box_event ?hg (N := 3) ?hd (cs := #[.string (⟨#[]⟩ : ByteArray), .string (⟨#[]⟩ : ByteArray), .bool false]) (t := 39) ?hr ?_; (case hd => rfl); (case hg => rfl); (case hr => first | (go_simp; done) | (go_simp; rfl)); intro gb119 hg w4 hbox hb; have n0_ := Aside0.mk (below_step (by repeat (first | (with_reducible first | exact HB.out | apply below_alloc | apply pw_below_drewN | apply below_drew1) | exact HB.out)) hb); have n1_ := Aside0.mk (hbox); have n2_ := Aside0.mk ((by rw [hg]; exact (below_size (by repeat (first | (with_reducible first | exact HB.out | apply below_alloc | apply pw_below_drewN | apply below_drew1) | exact HB.out))) : w.heap.size ≤ gb119)); have n3_ := Aside0.mk ((by rw [hg]; exact (below_size (by repeat (first | (with_reducible first | exact HB.out | apply below_alloc | apply pw_below_drewN | apply below_drew1) | exact HB.out))) : w.heap.size ≤ gb119)); clear HB; have HB := n0_; have BK119 := n1_; have GW119 := n2_; have GE119 := n3_; clear n0_ n1_ n2_ n3_; clear hb hbox hg; have hcz5_0 : w4.cell? ⟨gb119, 0, none⟩ = some (.string (⟨#[]⟩ : ByteArray)) := (blk_cell BK119.out 0).trans rfl; have hcz5_1 : w4.cell? ⟨gb119, 1, none⟩ = some (.string (⟨#[]⟩ : ByteArray)) := (blk_cell BK119.out 1).trans rfl; have hcz5_2 : w4.cell? ⟨gb119, 2, none⟩ = some (.bool false) := (blk_cell BK119.out 2).trans rfl; have hfz5_0 := blk_frozen BK119.out 0; have hfz5_1 := blk_frozen BK119.out 1; have hfz5_2 := blk_frozen BK119.out 2))
  go_ret
  exact ⟨by first | rfl | (simp [errW_none, errW_some] <;> rfl) | (simp [*, errW_none, errW_some] <;> rfl), by repeat (first | (with_reducible first | exact HB.out | apply below_alloc | apply pw_below_drewN | apply below_drew1 | refine below_set ?_ GE119.out) | exact HB.out)⟩

/-! ### laws_FnExactInherits: function 6 -/
def laws_FnExactInherits.f (k : Nat) (a0 : ByteArray) : Option (Bool) := if (a0.size : Int) > 1048576 then (some true) else ((spec_Inherits.f k a0).bind fun t120 => ((impl_Inherits.f k a0).bind fun t121 => (if (t121 != t120) = true then (some false) else (some true))))
theorem laws_FnExactInherits.mono : ∀ a0 k, LeO (laws_FnExactInherits.f k a0) (laws_FnExactInherits.f (k + 1) a0) := by
  intro a0 k
  unfold laws_FnExactInherits.f
  repeat' first
      | (with_reducible exact impl_Inherits.mono _ _)
      | (with_reducible exact spec_Inherits.mono _ _)
      | (with_reducible exact LeO.refl _)
      | (with_reducible exact LeO.none _)
      | (with_reducible refine LeO.ite ?_ ?_)
      | (with_reducible refine LeO.bind ?_ (fun _ => ?_))
      | exact impl_Inherits.mono _ _
      | exact spec_Inherits.mono _ _
      | exact LeO.none _
      | refine LeO.ite ?_ ?_
      | refine LeO.bind ?_ (fun _ => ?_)
set_option maxHeartbeats 8000000 in
set_option maxRecDepth 100000 in
theorem laws_FnExactInherits.calls (k : Nat) (a0 : ByteArray) (r : Bool) (w : World) (h : laws_FnExactInherits.f k a0 = some r) :
    Calls Try.prog 6 #[.string a0] w fun e w' => e = .returned (.bool r) ∧ Below w.heap.size w w' := by
  have HB := Aside0.mk (Below.refl w.heap.size w)
  have H : (if (a0.size : Int) > 1048576 then (some true) else ((spec_Inherits.f k a0).bind fun t120 => ((impl_Inherits.f k a0).bind fun t121 => (if (t121 != t120) = true then (some false) else (some true))))) = some r := h
  clear h
  by_cases c2 : (a0.size : Int) > 1048576
  · rw [if_pos c2] at H
    have c2b0 : decide (1048576 < (a0.size : Int)) = true := decide_eq_true c2
    have c2b1 : decide (1048576 < a0.size) = true := decide_eq_true (by omega)
    clear c2
    obtain rfl := Option.some.inj H
    go_enter Try.func6, Try.ntmps6
    go_wp2
    go_ret
    exact ⟨by first | rfl | (simp [errW_none, errW_some] <;> rfl) | (simp [*, errW_none, errW_some] <;> rfl), by repeat (first | (with_reducible first | exact HB.out | apply below_alloc | apply pw_below_drewN | apply below_drew1) | exact HB.out)⟩
  · rw [if_neg c2] at H
    have c2b0 : decide (1048576 < (a0.size : Int)) = false := decide_eq_false c2
    have c2b1 : decide (1048576 < a0.size) = false := decide_eq_false (by omega)
    clear c2
    replace H := Option.bind_eq_some_iff.mp H
    obtain ⟨t120, A30, H⟩ := H
    replace H : ((impl_Inherits.f k a0).bind fun t121 => (if (t121 != t120) = true then (some false) else (some true))) = some r := H
    have A3 := Aside0.mk A30
    clear A30
    replace H := Option.bind_eq_some_iff.mp H
    obtain ⟨t121, A40, H⟩ := H
    replace H : (if (t121 != t120) = true then (some false) else (some true)) = some r := H
    have A4 := Aside0.mk A40
    clear A40
    by_cases c5 : (t121 != t120) = true
    · rw [if_pos c5] at H
      have c5b0 : (t121 != t120) = true := c5
      (try (have c5b1 : decide (t121 = t120) = false := by simpa using c5))
      (try (have c5b2 : (t121 == t120) = false := by simpa using c5))
      (try (have c5b3 : ¬ (t121 = t120) := by simpa using c5))
      clear c5
      obtain rfl := Option.some.inj H
      go_enter Try.func6, Try.ntmps6
      go_wp2_with (first | ((with_reducible refine gate_callee (f := 16) rfl ?_); refine goesL_ (some 9) rfl rfl Try.func16 (by kernel_rfl) rfl #[.string a0] rfl (by (try simp only [List.map_toArray, List.map_cons, List.map_nil]); first | done | rfl | (simp only [List.length_drop, List.length_take]; rfl)) ?_; (with_reducible refine (spec_Inherits.calls k a0 t120 _ A3.out).mono ?_); rintro e w6 ⟨rfl, hb⟩; refine ⟨_, rfl, ?_⟩; have n0_ := Aside0.mk (below_step (by repeat (first | (with_reducible first | exact HB.out | apply below_alloc | apply pw_below_drewN | apply below_drew1) | exact HB.out)) hb); clear HB; have HB := n0_; clear n0_; (try clear hb); (try clear hb2); (try clear hk); (try clear hi)) | ((with_reducible refine gate_callee (f := 17) rfl ?_); refine goesL_ (some 11) rfl rfl Try.func17 (by kernel_rfl) rfl #[.string a0] rfl (by (try simp only [List.map_toArray, List.map_cons, List.map_nil]); first | done | rfl | (simp only [List.length_drop, List.length_take]; rfl)) ?_; (with_reducible refine (impl_Inherits.calls k a0 t121 _ A4.out).mono ?_); rintro e w7 ⟨rfl, hb⟩; refine ⟨_, rfl, ?_⟩; have n0_ := Aside0.mk (below_step (by repeat (first | (with_reducible first | exact HB.out | apply below_alloc | apply pw_below_drewN | apply below_drew1) | exact HB.out)) hb); clear HB; have HB := n0_; clear n0_; (try clear hb); (try clear hb2); (try clear hk); (try clear hi)))
      go_ret
      exact ⟨by first | rfl | (simp [errW_none, errW_some] <;> rfl) | (simp [*, errW_none, errW_some] <;> rfl), by repeat (first | (with_reducible first | exact HB.out | apply below_alloc | apply pw_below_drewN | apply below_drew1) | exact HB.out)⟩
    · rw [if_neg c5] at H
      have c5b0 : (t121 != t120) = false := by simpa using c5
      (try (have c5b1 : decide (t121 = t120) = true := by simpa using c5))
      (try (have c5b2 : (t121 == t120) = true := by simpa using c5))
      clear c5
      obtain rfl := Option.some.inj H
      go_enter Try.func6, Try.ntmps6
      go_wp2_with (first | ((with_reducible refine gate_callee (f := 16) rfl ?_); refine goesL_ (some 9) rfl rfl Try.func16 (by kernel_rfl) rfl #[.string a0] rfl (by (try simp only [List.map_toArray, List.map_cons, List.map_nil]); first | done | rfl | (simp only [List.length_drop, List.length_take]; rfl)) ?_; (with_reducible refine (spec_Inherits.calls k a0 t120 _ A3.out).mono ?_); rintro e w8 ⟨rfl, hb⟩; refine ⟨_, rfl, ?_⟩; have n0_ := Aside0.mk (below_step (by repeat (first | (with_reducible first | exact HB.out | apply below_alloc | apply pw_below_drewN | apply below_drew1) | exact HB.out)) hb); clear HB; have HB := n0_; clear n0_; (try clear hb); (try clear hb2); (try clear hk); (try clear hi)) | ((with_reducible refine gate_callee (f := 17) rfl ?_); refine goesL_ (some 11) rfl rfl Try.func17 (by kernel_rfl) rfl #[.string a0] rfl (by (try simp only [List.map_toArray, List.map_cons, List.map_nil]); first | done | rfl | (simp only [List.length_drop, List.length_take]; rfl)) ?_; (with_reducible refine (impl_Inherits.calls k a0 t121 _ A4.out).mono ?_); rintro e w9 ⟨rfl, hb⟩; refine ⟨_, rfl, ?_⟩; have n0_ := Aside0.mk (below_step (by repeat (first | (with_reducible first | exact HB.out | apply below_alloc | apply pw_below_drewN | apply below_drew1) | exact HB.out)) hb); clear HB; have HB := n0_; clear n0_; (try clear hb); (try clear hb2); (try clear hk); (try clear hi)))
      go_ret
      exact ⟨by first | rfl | (simp [errW_none, errW_some] <;> rfl) | (simp [*, errW_none, errW_some] <;> rfl), by repeat (first | (with_reducible first | exact HB.out | apply below_alloc | apply pw_below_drewN | apply below_drew1) | exact HB.out)⟩

/-- THE ONE PURE STATEMENT of laws_FnExactInherits: yours. -/
def laws_FnExactInherits.Pure : Prop := ∀ (a0 : ByteArray), a0.size ≤ 140737488351232 → ∃ k, laws_FnExactInherits.f k a0 = some true
theorem laws_FnExactInherits.walk (P : laws_FnExactInherits.Pure) (a0 : ByteArray) (w : World) (w0 : a0.size ≤ 140737488351232) :
    Calls Try.prog 6 #[.string a0] w fun e w' => e = .returned (.bool true) ∧ Below w.heap.size w w' := by
  obtain ⟨k, h⟩ := P a0 w0
  refine (laws_FnExactInherits.calls k a0 true w h).mono ?_
  rintro e w' ⟨rfl, hd⟩
  exact ⟨rfl, hd⟩

end Go.Proofs.Ythebkooanhkpfaa.PFnExactInherits
