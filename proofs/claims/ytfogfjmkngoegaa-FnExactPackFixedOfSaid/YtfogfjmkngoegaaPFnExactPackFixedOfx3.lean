-- Laid by a program of this session out of the translation (its own run of the print). Lean checks it.
import Derived.Test.YtfogfjmkngoegaaPFnExactPackFixedOfx0
import Derived.Test.YtfogfjmkngoegaaPFnExactPackFixedOfx1
namespace Go.Proofs.Ytfogfjmkngoegaa.PFnExactPackFixedOf
open Go.RowKit Go.Proofs.YtfogfjmkngoegaaW.PrintWords Go.Proofs.YtfogfjmkngoegaaW.PrintLast Go.Proofs.YtfogfjmkngoegaaW.PrintMore
attribute [local go_sem] max2_int min2_int max_two min_two max_three min_three max_four min_four   -- for this text's walks alone
set_option linter.unusedVariables false
set_option linter.unusedSimpArgs false

/-! ### impl_fixedLengths: function 20 -/
def impl_fixedLengths.l0 : Nat → List Int → Int → Option (List Int)
 | 0, _, _ => none
 | k + 1, x1, x4 => if x4 < 288 then (if x4 < 144 then (if x1.length < 17592186044416 then (impl_fixedLengths.l0 k (x1 ++ [8]) (wrap64 (x4 + 1))) else (none)) else (if x4 < 256 then (if x1.length < 17592186044416 then (impl_fixedLengths.l0 k (x1 ++ [9]) (wrap64 (x4 + 1))) else (none)) else (if x4 < 280 then (if x1.length < 17592186044416 then (impl_fixedLengths.l0 k (x1 ++ [7]) (wrap64 (x4 + 1))) else (none)) else (if x1.length < 17592186044416 then (impl_fixedLengths.l0 k (x1 ++ [8]) (wrap64 (x4 + 1))) else (none))))) else (some x1)
def impl_fixedLengths.f (k : Nat)  : Option (List Int) := impl_fixedLengths.l0 k (([] : List Int)) 0
set_option maxHeartbeats 8000000 in
set_option maxRecDepth 100000 in
theorem impl_fixedLengths.calls (k : Nat)  (r : List Int) (w : World) (h : impl_fixedLengths.f k  = some r) :
  Calls Try.prog 20 #[] w fun e w' => ∃ v0_ : Value, e = .returned (v0_) ∧ Kd.R (Kd.int .i64) 3 w' w.heap.size (fun _ => True) v0_ r ∧ Below w.heap.size w w' := by
 have HB := Aside0.mk (Below.refl w.heap.size w)
 have H : (impl_fixedLengths.l0 k (([] : List Int)) 0) = some r := h
 clear h
 obtain ⟨y125, hy125⟩ : ∃ y_ : List Int, y_ = (([] : List Int)) := ⟨_, rfl⟩
 replace H : (impl_fixedLengths.l0 k y125 0) = some r := by first | (rw [hy125]; with_reducible exact H) | (have H2_ := (Option.bind_some _ _).symm.trans H; rw [hy125]; with_reducible exact H2_) | (have H2_ := (Option.bind_some _ _).symm.trans H; with_reducible exact H2_) | with_reducible exact H | (rw [hy125]; exact H) | exact H
 have Ny125 := Aside0.mk hy125
 clear hy125
 have H' := Aside0.mk H
 clear H
 go_enter Try.func20, Try.ntmps20
 go_wp2_with (first | ((with_reducible refine gate_dst (N := 3) rfl ?_); refine Kd.R_lit (Kd.int .i64) _ 3 ?hg (N := 3) ?hd (xs := ([] : List Int)) (inner := []) (ok := fun _ => True) (okp := fun _ => True) ?hr ?hp (fun _ hk => hk) trivial (Below.refl _ _) (Nat.le_refl _) (by simp) ?_; (case hd => rfl); (case hg => rfl); (case hr => first | (go_simp; done) | (go_simp; rfl)); (case hp => exact (Reps.none _ _)); intro v126 w1 ho2 hb hg_ hnew_; clear hg_ hnew_; (first | rw [← Ny125.out] at ho2 | (simp only [Int.reduceToNat] at ho2; rw [← Ny125.out] at ho2)); have n0_ := Aside0.mk (Kd.R_lower ho2 (below_size (by repeat (first | (with_reducible first | exact HB.out | apply below_alloc | apply pw_below_drewN | apply below_drew1) | exact HB.out)))); have n1_ := Aside0.mk (below_step (by repeat (first | (with_reducible first | exact HB.out | apply below_alloc | apply pw_below_drewN | apply below_drew1) | exact HB.out)) hb); clear HB; have HO127 := n0_; have HB := n1_; clear n0_ n1_; clear hb ho2))
 go_loopg [1, 4] k (fun kq v1 v4 w' => ∃ (x1_1 : List Int) (x4_1 : Int), v4 = .int .i64 x4_1 ∧ Aside0 (impl_fixedLengths.l0 kq x1_1 x4_1 = some r) ∧ Aside0 (kq ≤ k) ∧ Aside0 (Kd.R (Kd.int .i64) 3 w' w.heap.size (fun _ => True) v1 x1_1) ∧ Aside0 (Below w.heap.size w w'))
 case atStart => exact ⟨(y125), (0), (by first | rfl | (simp; done) | (simp [*]; done) | (simp [wrap64]; done)), H', ⟨Nat.le_refl _⟩, ⟨by (with_reducible repeat (first | apply Kd.R_alloc | apply Kd.R_drewN | apply Kd.R_drew)); exact HO127.out⟩, ⟨by repeat (first | (with_reducible first | exact HB.out | apply below_alloc | apply pw_below_drewN | apply below_drew1) | exact HB.out)⟩⟩
 case round =>
  clear H'
  (try clear c2);(try clear p2)
  obtain ⟨x1_1, x4_1, rfl, HA, HK1, HO_1, HB⟩ := hrel
  cases gk with
  | zero => exact absurd HA.out (by simp [impl_fixedLengths.l0])
  | succ k1 =>
   have H := HA.out
   clear HA
   simp only [impl_fixedLengths.l0] at H
   by_cases c3 : x4_1 < 288
   ·rw [if_pos c3] at H
    have c3b0 : decide (x4_1 < 288) = true := decide_eq_true c3
    clear c3
    by_cases c4 : x4_1 < 144
    ·rw [if_pos c4] at H
     have c4b0 : decide (x4_1 < 144) = true := decide_eq_true c4
     clear c4
     by_cases c5 : x1_1.length < 17592186044416
     ·rw [if_pos c5] at H
      have LMc5 := Aside0.mk c5
      clear c5
      obtain ⟨y128, hy128⟩ : ∃ y_ : List Int, y_ = (x1_1 ++ [8]) := ⟨_, rfl⟩
      replace H : (impl_fixedLengths.l0 k1 y128 (wrap64 (x4_1 + 1))) = some r := by first | (rw [hy128]; with_reducible exact H) | (have H2_ := (Option.bind_some _ _).symm.trans H; rw [hy128]; with_reducible exact H2_) | (have H2_ := (Option.bind_some _ _).symm.trans H; with_reducible exact H2_) | with_reducible exact H | (rw [hy128]; exact H) | exact H
      have Ny128 := Aside0.mk hy128
      clear hy128
      have H' := Aside0.mk H
      clear H
      go_wp2_with (first | ((with_reducible refine gate_builtin (b := .append) (xs := #[.tmp 13, .tmp 14]) rfl ?_); at_builtin; refine Kd.R_append (Kd.int .i64) (w0 := w) w.heap.size rfl (.tmp 13) (.tmp 14) 33 3 (.int .i64 0) 8 rfl Try.underlying33 info3 rfl (by decide) (by omega) u1 x1_1 8 [.int .i64 8] (fun _ => True) (fun _ => False) rfl rfl ?aP (fun _ hk => hk.elim) ?aF ?aO ?aB ?aS ?aL ?_; (case aP => exact rfl); (case aB => exact (by repeat (first | (with_reducible first | exact HB.out | apply below_alloc | apply pw_below_drewN | apply below_drew1) | exact HB.out))); (case aF => exact (fun _ _ => trivial)); (case aO => exact (by (with_reducible repeat (first | apply Kd.R_alloc | apply Kd.R_drewN | apply Kd.R_drew)); exact HO_1.out)); (case aS => exact (below_size (by repeat (first | (with_reducible first | exact HB.out | apply below_alloc | apply pw_below_drewN | apply below_drew1) | exact HB.out)))); (case aL => have := LMc5.out; omega); intro v129 w6 ho hb hg hat; rw [← Ny128.out] at ho; have n0_ := Aside0.mk (hb); have n1_ := Aside0.mk (ho); clear HB; clear HO_1; have HB := n0_; have HO130 := n1_; clear n0_ n1_; clear ho hb hg hat))
      go_roundg k1
      case measure => have := HK1.out; omega
      case rel => exact ⟨(y128), (wrap64 (x4_1 + 1)), (by first | rfl | (simp; done) | (simp [*]; done) | (simp [wrap64]; done)), H', ⟨by have := HK1.out; omega⟩, ⟨by (with_reducible repeat (first | apply Kd.R_alloc | apply Kd.R_drewN | apply Kd.R_drew)); exact HO130.out⟩, ⟨by repeat (first | (with_reducible first | exact HB.out | apply below_alloc | apply pw_below_drewN | apply below_drew1) | exact HB.out)⟩⟩
     ·rw [if_neg c5] at H
      exact absurd H (by simp)
    ·rw [if_neg c4] at H
     have c4b0 : decide (x4_1 < 144) = false := decide_eq_false c4
     clear c4
     by_cases c7 : x4_1 < 256
     ·rw [if_pos c7] at H
      have c7b0 : decide (x4_1 < 256) = true := decide_eq_true c7
      clear c7
      by_cases c8 : x1_1.length < 17592186044416
      ·rw [if_pos c8] at H
       have LMc8 := Aside0.mk c8
       clear c8
       obtain ⟨y131, hy131⟩ : ∃ y_ : List Int, y_ = (x1_1 ++ [9]) := ⟨_, rfl⟩
       replace H : (impl_fixedLengths.l0 k1 y131 (wrap64 (x4_1 + 1))) = some r := by first | (rw [hy131]; with_reducible exact H) | (have H2_ := (Option.bind_some _ _).symm.trans H; rw [hy131]; with_reducible exact H2_) | (have H2_ := (Option.bind_some _ _).symm.trans H; with_reducible exact H2_) | with_reducible exact H | (rw [hy131]; exact H) | exact H
       have Ny131 := Aside0.mk hy131
       clear hy131
       have H' := Aside0.mk H
       clear H
       go_wp2_with (first | ((with_reducible refine gate_builtin (b := .append) (xs := #[.tmp 19, .tmp 20]) rfl ?_); at_builtin; refine Kd.R_append (Kd.int .i64) (w0 := w) w.heap.size rfl (.tmp 19) (.tmp 20) 33 3 (.int .i64 0) 8 rfl Try.underlying33 info3 rfl (by decide) (by omega) u1 x1_1 9 [.int .i64 9] (fun _ => True) (fun _ => False) rfl rfl ?aP (fun _ hk => hk.elim) ?aF ?aO ?aB ?aS ?aL ?_; (case aP => exact rfl); (case aB => exact (by repeat (first | (with_reducible first | exact HB.out | apply below_alloc | apply pw_below_drewN | apply below_drew1) | exact HB.out))); (case aF => exact (fun _ _ => trivial)); (case aO => exact (by (with_reducible repeat (first | apply Kd.R_alloc | apply Kd.R_drewN | apply Kd.R_drew)); exact HO_1.out)); (case aS => exact (below_size (by repeat (first | (with_reducible first | exact HB.out | apply below_alloc | apply pw_below_drewN | apply below_drew1) | exact HB.out)))); (case aL => have := LMc8.out; omega); intro v132 w9 ho hb hg hat; rw [← Ny131.out] at ho; have n0_ := Aside0.mk (hb); have n1_ := Aside0.mk (ho); clear HB; clear HO_1; have HB := n0_; have HO133 := n1_; clear n0_ n1_; clear ho hb hg hat))
       go_roundg k1
       case measure => have := HK1.out; omega
       case rel => exact ⟨(y131), (wrap64 (x4_1 + 1)), (by first | rfl | (simp; done) | (simp [*]; done) | (simp [wrap64]; done)), H', ⟨by have := HK1.out; omega⟩, ⟨by (with_reducible repeat (first | apply Kd.R_alloc | apply Kd.R_drewN | apply Kd.R_drew)); exact HO133.out⟩, ⟨by repeat (first | (with_reducible first | exact HB.out | apply below_alloc | apply pw_below_drewN | apply below_drew1) | exact HB.out)⟩⟩
      ·rw [if_neg c8] at H
       exact absurd H (by simp)
     ·rw [if_neg c7] at H
      have c7b0 : decide (x4_1 < 256) = false := decide_eq_false c7
      clear c7
      by_cases c10 : x4_1 < 280
      ·rw [if_pos c10] at H
       have c10b0 : decide (x4_1 < 280) = true := decide_eq_true c10
       clear c10
       by_cases c11 : x1_1.length < 17592186044416
       ·rw [if_pos c11] at H
        have LMc11 := Aside0.mk c11
        clear c11
        obtain ⟨y134, hy134⟩ : ∃ y_ : List Int, y_ = (x1_1 ++ [7]) := ⟨_, rfl⟩
        replace H : (impl_fixedLengths.l0 k1 y134 (wrap64 (x4_1 + 1))) = some r := by first | (rw [hy134]; with_reducible exact H) | (have H2_ := (Option.bind_some _ _).symm.trans H; rw [hy134]; with_reducible exact H2_) | (have H2_ := (Option.bind_some _ _).symm.trans H; with_reducible exact H2_) | with_reducible exact H | (rw [hy134]; exact H) | exact H
        have Ny134 := Aside0.mk hy134
        clear hy134
        have H' := Aside0.mk H
        clear H
        go_wp2_with (first | ((with_reducible refine gate_builtin (b := .append) (xs := #[.tmp 25, .tmp 26]) rfl ?_); at_builtin; refine Kd.R_append (Kd.int .i64) (w0 := w) w.heap.size rfl (.tmp 25) (.tmp 26) 33 3 (.int .i64 0) 8 rfl Try.underlying33 info3 rfl (by decide) (by omega) u1 x1_1 7 [.int .i64 7] (fun _ => True) (fun _ => False) rfl rfl ?aP (fun _ hk => hk.elim) ?aF ?aO ?aB ?aS ?aL ?_; (case aP => exact rfl); (case aB => exact (by repeat (first | (with_reducible first | exact HB.out | apply below_alloc | apply pw_below_drewN | apply below_drew1) | exact HB.out))); (case aF => exact (fun _ _ => trivial)); (case aO => exact (by (with_reducible repeat (first | apply Kd.R_alloc | apply Kd.R_drewN | apply Kd.R_drew)); exact HO_1.out)); (case aS => exact (below_size (by repeat (first | (with_reducible first | exact HB.out | apply below_alloc | apply pw_below_drewN | apply below_drew1) | exact HB.out)))); (case aL => have := LMc11.out; omega); intro v135 w12 ho hb hg hat; rw [← Ny134.out] at ho; have n0_ := Aside0.mk (hb); have n1_ := Aside0.mk (ho); clear HB; clear HO_1; have HB := n0_; have HO136 := n1_; clear n0_ n1_; clear ho hb hg hat))
        go_roundg k1
        case measure => have := HK1.out; omega
        case rel => exact ⟨(y134), (wrap64 (x4_1 + 1)), (by first | rfl | (simp; done) | (simp [*]; done) | (simp [wrap64]; done)), H', ⟨by have := HK1.out; omega⟩, ⟨by (with_reducible repeat (first | apply Kd.R_alloc | apply Kd.R_drewN | apply Kd.R_drew)); exact HO136.out⟩, ⟨by repeat (first | (with_reducible first | exact HB.out | apply below_alloc | apply pw_below_drewN | apply below_drew1) | exact HB.out)⟩⟩
       ·rw [if_neg c11] at H
        exact absurd H (by simp)
      ·rw [if_neg c10] at H
       have c10b0 : decide (x4_1 < 280) = false := decide_eq_false c10
       clear c10
       by_cases c13 : x1_1.length < 17592186044416
       ·rw [if_pos c13] at H
        have LMc13 := Aside0.mk c13
        clear c13
        obtain ⟨y137, hy137⟩ : ∃ y_ : List Int, y_ = (x1_1 ++ [8]) := ⟨_, rfl⟩
        replace H : (impl_fixedLengths.l0 k1 y137 (wrap64 (x4_1 + 1))) = some r := by first | (rw [hy137]; with_reducible exact H) | (have H2_ := (Option.bind_some _ _).symm.trans H; rw [hy137]; with_reducible exact H2_) | (have H2_ := (Option.bind_some _ _).symm.trans H; with_reducible exact H2_) | with_reducible exact H | (rw [hy137]; exact H) | exact H
        have Ny137 := Aside0.mk hy137
        clear hy137
        have H' := Aside0.mk H
        clear H
        go_wp2_with (first | ((with_reducible refine gate_builtin (b := .append) (xs := #[.tmp 7, .tmp 8]) rfl ?_); at_builtin; refine Kd.R_append (Kd.int .i64) (w0 := w) w.heap.size rfl (.tmp 7) (.tmp 8) 33 3 (.int .i64 0) 8 rfl Try.underlying33 info3 rfl (by decide) (by omega) u1 x1_1 8 [.int .i64 8] (fun _ => True) (fun _ => False) rfl rfl ?aP (fun _ hk => hk.elim) ?aF ?aO ?aB ?aS ?aL ?_; (case aP => exact rfl); (case aB => exact (by repeat (first | (with_reducible first | exact HB.out | apply below_alloc | apply pw_below_drewN | apply below_drew1) | exact HB.out))); (case aF => exact (fun _ _ => trivial)); (case aO => exact (by (with_reducible repeat (first | apply Kd.R_alloc | apply Kd.R_drewN | apply Kd.R_drew)); exact HO_1.out)); (case aS => exact (below_size (by repeat (first | (with_reducible first | exact HB.out | apply below_alloc | apply pw_below_drewN | apply below_drew1) | exact HB.out)))); (case aL => have := LMc13.out; omega); intro v138 w14 ho hb hg hat; rw [← Ny137.out] at ho; have n0_ := Aside0.mk (hb); have n1_ := Aside0.mk (ho); clear HB; clear HO_1; have HB := n0_; have HO139 := n1_; clear n0_ n1_; clear ho hb hg hat))
        go_roundg k1
        case measure => have := HK1.out; omega
        case rel => exact ⟨(y137), (wrap64 (x4_1 + 1)), (by first | rfl | (simp; done) | (simp [*]; done) | (simp [wrap64]; done)), H', ⟨by have := HK1.out; omega⟩, ⟨by (with_reducible repeat (first | apply Kd.R_alloc | apply Kd.R_drewN | apply Kd.R_drew)); exact HO139.out⟩, ⟨by repeat (first | (with_reducible first | exact HB.out | apply below_alloc | apply pw_below_drewN | apply below_drew1) | exact HB.out)⟩⟩
       ·rw [if_neg c13] at H
        exact absurd H (by simp)
   ·rw [if_neg c3] at H
    have c3b0 : decide (x4_1 < 288) = false := decide_eq_false c3
    clear c3
    obtain rfl := Option.some.inj H
    go_wp2
    go_ret
    exact ⟨_, by first | rfl | (simp [errW_none, errW_some] <;> rfl) | (simp [*, errW_none, errW_some] <;> rfl), by (with_reducible repeat (first | apply Kd.R_alloc | apply Kd.R_drewN | apply Kd.R_drew)); exact HO_1.out, by repeat (first | (with_reducible first | exact HB.out | apply below_alloc | apply pw_below_drewN | apply below_drew1) | exact HB.out)⟩

/-! ### impl_codesBy: function 21 -/
mutual
def impl_codesBy.l0 : Nat → List Int → List Int → Int → Int → Int → Option (List Int × Int)
 | 0, _, _, _, _, _ => none
 | k + 1, x0, x4, x5, x6, x7 => if x7 ≤ 15 then (impl_codesBy.l1 k x0 x4 x5 (wrap64 (x6 * 2)) x7 x0 (x0.length : Int) 0) else (some (x4, x5))
def impl_codesBy.l1 : Nat → List Int → List Int → Int → Int → Int → List Int → Int → Int → Option (List Int × Int)
 | 0, _, _, _, _, _, _, _, _ => none
 | k + 1, x0, x4, x5, x6, x7, x19, x20, x21 => if x21 < x20 then (if 0 ≤ x21 then (if x21 < (x19.length : Int) then (if (rd x19 x21) = x7 then (if x21 < (x4.length : Int) then (if 0 ≤ (wrap64 (15 - x7)) then (impl_codesBy.l1 k x0 (x4.set (x21 : Int).toNat x6) (wrap64 (x5 + (shl .i64 1 (wrap64 (15 - x7))))) (wrap64 (x6 + 1)) x7 x19 x20 (wrap64 (x21 + 1))) else (none)) else (none)) else (impl_codesBy.l1 k x0 x4 x5 x6 x7 x19 x20 (wrap64 (x21 + 1)))) else (none)) else (none)) else (impl_codesBy.l0 k x0 x4 x5 x6 (wrap64 (x7 + 1)))
end
def impl_codesBy.f (k : Nat) (l0 : List Int) : Option (List Int × Int) := if 0 ≤ (l0.length : Int) then (if ((l0.length : Int) : Int).toNat ≤ 35184372088832 then (impl_codesBy.l0 k l0 (List.replicate ((l0.length : Int) : Int).toNat 0) 0 0 1) else (none)) else (none)
set_option maxHeartbeats 8000000 in
set_option maxRecDepth 100000 in
theorem impl_codesBy.calls (k : Nat) (A0 : Option Addr) (c0 : Nat) (l0 : List Int) (r1 : List Int) (r2 : Int) (w : World) (hr0 : Kd.C (Kd.int .i64) w A0 l0.length l0) (hc0 : l0.length ≤ c0) (h : impl_codesBy.f k l0 = some (r1, r2)) :
  Calls Try.prog 21 #[.slice A0 l0.length c0] w fun e w' => ∃ v0_ : Value, e = .returned (.tuple #[v0_, .int .i64 r2]) ∧ Kd.R (Kd.int .i64) 3 w' w.heap.size (fun _ => True) v0_ r1 ∧ Below w.heap.size w w' := by
 have HR0 := Aside0.mk hr0
 have HC0 := Aside0.mk hc0
 clear hr0 hc0
 have HB := Aside0.mk (Below.refl w.heap.size w)
 have H : (if 0 ≤ (l0.length : Int) then (if ((l0.length : Int) : Int).toNat ≤ 35184372088832 then (impl_codesBy.l0 k l0 (List.replicate ((l0.length : Int) : Int).toNat 0) 0 0 1) else (none)) else (none)) = some (r1, r2) := h
 clear h
 by_cases c2 : 0 ≤ (l0.length : Int)
 ·rw [if_pos c2] at H
  have c2b0 := eq_true c2
  have c2b1 : decide (0 ≤ (l0.length : Int)) = true := decide_eq_true c2
  clear c2
  by_cases c3 : ((l0.length : Int) : Int).toNat ≤ 35184372088832
  ·rw [if_pos c3] at H
   have c3b0 := eq_true c3
   have c3b1 : decide (((l0.length : Int) : Int).toNat ≤ 35184372088832) = true := decide_eq_true c3
   clear c3
   obtain ⟨y140, hy140⟩ : ∃ y_ : List Int, y_ = (List.replicate ((l0.length : Int) : Int).toNat 0) := ⟨_, rfl⟩
   replace H : (impl_codesBy.l0 k l0 y140 0 0 1) = some (r1, r2) := by first | (rw [hy140]; with_reducible exact H) | (have H2_ := (Option.bind_some _ _).symm.trans H; rw [hy140]; with_reducible exact H2_) | (have H2_ := (Option.bind_some _ _).symm.trans H; with_reducible exact H2_) | with_reducible exact H | (rw [hy140]; exact H) | exact H
   have Ny140 := Aside0.mk hy140
   clear hy140
   have H' := Aside0.mk H
   clear H
   go_enter Try.func21, Try.ntmps21
   go_wp2_with (first | ((with_reducible refine gate_dst (N := 12) rfl ?_); refine Kd.R_make (Kd.int .i64) _ 3 rfl (N := 12) rfl 33 _ _ rfl (l0.length : Int) rfl rfl Try.underlying33 (.int .i64 0) 8 info3 rfl (by decide) (by omega) 0 (ok := fun _ => True) (okp := fun _ => True) rfl (fun _ hk => hk) trivial (of_decide_eq_true (by first | (with_reducible assumption) | assumption)) (Nat.le_trans (Nat.mul_le_mul_right _ (of_decide_eq_true (by first | (with_reducible assumption) | assumption) : (l0.length : Int).toNat ≤ 35184372088832)) (by omega)) (Below.refl _ _) (Nat.le_refl _) ?_; intro v141 w4 ho5 hb hg_ hnew_; clear hg_ hnew_; (first | rw [← Ny140.out] at ho5 | (simp only [Int.reduceToNat] at ho5; rw [← Ny140.out] at ho5)); have n0_ := Aside0.mk (Kd.R_lower ho5 (below_size (by repeat (first | (with_reducible first | exact HB.out | apply below_alloc | apply pw_below_drewN | apply below_drew1) | exact HB.out)))); have n1_ := Aside0.mk (below_step (by repeat (first | (with_reducible first | exact HB.out | apply below_alloc | apply pw_below_drewN | apply below_drew1) | exact HB.out)) hb); clear HB; have HO142 := n0_; have HB := n1_; clear n0_ n1_; clear hb ho5))
   go_loopg [5, 6, 7] k (fun kq v5 v6 v7 w' => ∃ (x4_1 : List Int) (x5_1 : Int) (x6_1 : Int) (x7_1 : Int), v5 = .int .i64 x5_1 ∧ v6 = .int .i64 x6_1 ∧ v7 = .int .i64 x7_1 ∧ Aside0 (impl_codesBy.l0 kq l0 x4_1 x5_1 x6_1 x7_1 = some (r1, r2)) ∧ Aside0 (kq ≤ k) ∧ Aside0 (Kd.R (Kd.int .i64) 3 w' w.heap.size (fun _ => True) v141 x4_1) ∧ Aside0 (Below w.heap.size w w'))
   case atStart => exact ⟨(y140), (0), (0), (1), (by first | rfl | (simp; done) | (simp [*]; done) | (simp [wrap64]; done)), (by first | rfl | (simp; done) | (simp [*]; done) | (simp [wrap64]; done)), (by first | rfl | (simp; done) | (simp [*]; done) | (simp [wrap64]; done)), H', ⟨Nat.le_refl _⟩, ⟨by (with_reducible repeat (first | apply Kd.R_alloc | apply Kd.R_drewN | apply Kd.R_drew)); exact HO142.out⟩, ⟨by repeat (first | (with_reducible first | exact HB.out | apply below_alloc | apply pw_below_drewN | apply below_drew1) | exact HB.out)⟩⟩
   case round =>
    clear H'
    (try clear c2);(try clear c2b0);(try clear c2b1);(try clear p2);(try clear c3);(try clear c3b0);(try clear c3b1)
    obtain ⟨x4_1, x5_1, x6_1, x7_1, rfl, rfl, rfl, HA, HK1, HO_4, HB⟩ := hrel
    cases gk with
    | zero => exact absurd HA.out (by simp [impl_codesBy.l0])
    | succ k1 =>
     have H := HA.out
     clear HA
     simp only [impl_codesBy.l0] at H
     by_cases c6 : x7_1 ≤ 15
     ·rw [if_pos c6] at H
      have c6b0 : decide (x7_1 ≤ 15) = true := decide_eq_true c6
      clear c6
      have H' := Aside0.mk H
      clear H
      go_wp2
      go_loopg [5, 6, 21] k1 (fun kq v5 v6 v21 w' => ∃ (x4_2 : List Int) (x5_2 : Int) (x6_2 : Int) (x21_2 : Int), v5 = .int .i64 x5_2 ∧ v6 = .int .i64 x6_2 ∧ v21 = .int .i64 x21_2 ∧ Aside0 (impl_codesBy.l1 kq l0 x4_2 x5_2 x6_2 x7_1 l0 (l0.length : Int) x21_2 = some (r1, r2)) ∧ Aside0 (kq ≤ k1) ∧ Aside0 (Kd.R (Kd.int .i64) 3 w' w.heap.size (fun _ => True) v141 x4_2) ∧ Aside0 (Below w.heap.size w w'))
      case atStart => exact ⟨(x4_1), (x5_1), (wrap64 (x6_1 * 2)), (0), (by first | rfl | (simp; done) | (simp [*]; done) | (simp [wrap64]; done)), (by first | rfl | (simp; done) | (simp [*]; done) | (simp [wrap64]; done)), (by first | rfl | (simp; done) | (simp [*]; done) | (simp [wrap64]; done)), H', ⟨Nat.le_refl _⟩, ⟨by (with_reducible repeat (first | apply Kd.R_alloc | apply Kd.R_drewN | apply Kd.R_drew)); exact HO_4.out⟩, ⟨by repeat (first | (with_reducible first | exact HB.out | apply below_alloc | apply pw_below_drewN | apply below_drew1) | exact HB.out)⟩⟩
      case round =>
       clear H'
       (try clear c2);(try clear c2b0);(try clear c2b1);(try clear p2);(try clear c3);(try clear c3b0);(try clear c3b1);(try clear c6);(try clear c6b0);(try clear p6);(try clear p2)
       obtain ⟨x4_2, x5_2, x6_2, x21_2, rfl, rfl, rfl, HA, HK2, HO_4, HB⟩ := hrel
       cases gk with
       | zero => exact absurd HA.out (by simp [impl_codesBy.l1])
       | succ k2 =>
        have H := HA.out
        clear HA
        simp only [impl_codesBy.l1] at H
        by_cases c7 : x21_2 < (l0.length : Int)
        ·rw [if_pos c7] at H
         have c7b0 : decide (x21_2 < (l0.length : Int)) = true := decide_eq_true c7
         clear c7
         by_cases c8 : 0 ≤ x21_2
         ·rw [if_pos c8] at H
          have c8b0 : decide (0 ≤ x21_2) = true := decide_eq_true c8
          clear c8
          by_cases c9 : x21_2 < (l0.length : Int)
          ·rw [if_pos c9] at H
           have c9b0 : decide (x21_2 < (l0.length : Int)) = true := decide_eq_true c9
           clear c9
           by_cases c10 : (rd l0 x21_2) = x7_1
           ·rw [if_pos c10] at H
            have c10b0 : ((rd l0 x21_2) == x7_1) = true := beq_iff_eq.mpr c10
            have c10b1 : ((rd l0 x21_2) != x7_1) = false := bne_eq_false_iff_eq.mpr c10
            clear c10
            by_cases c11 : x21_2 < (x4_2.length : Int)
            ·rw [if_pos c11] at H
             have c11b0 : decide (x21_2 < (x4_2.length : Int)) = true := decide_eq_true c11
             clear c11
             obtain ⟨y144, hy144⟩ : ∃ y_ : List Int, y_ = (x4_2.set (x21_2 : Int).toNat x6_2) := ⟨_, rfl⟩
             replace H : (if 0 ≤ (wrap64 (15 - x7_1)) then (impl_codesBy.l1 k2 l0 y144 (wrap64 (x5_2 + (shl .i64 1 (wrap64 (15 - x7_1))))) (wrap64 (x6_2 + 1)) x7_1 l0 (l0.length : Int) (wrap64 (x21_2 + 1))) else (none)) = some (r1, r2) := by first | (rw [hy144]; with_reducible exact H) | (have H2_ := (Option.bind_some _ _).symm.trans H; rw [hy144]; with_reducible exact H2_) | (have H2_ := (Option.bind_some _ _).symm.trans H; with_reducible exact H2_) | with_reducible exact H | (rw [hy144]; exact H) | exact H
             have Ny144 := Aside0.mk hy144
             clear hy144
             obtain ⟨ji13, hji13⟩ : ∃ j_ : Int, (wrap64 (15 - x7_1)) = j_ := ⟨_, rfl⟩
             replace H : (if 0 ≤ (ji13) then (impl_codesBy.l1 k2 l0 y144 (wrap64 (x5_2 + (shl .i64 1 (ji13)))) (wrap64 (x6_2 + 1)) x7_1 l0 (l0.length : Int) (wrap64 (x21_2 + 1))) else (none)) = some (r1, r2) := by first | (rw [hji13] at H; exact H) | (simp only [hji13] at H ⊢; exact H)
             have hji13w : (IntKind.i64.wrap (15 - x7_1)) = ji13 := (i64_w _).trans hji13
             by_cases c14 : 0 ≤ (ji13)
             ·rw [if_pos c14] at H
              have c14b0 := eq_true c14
              have c14b1 : decide (0 ≤ (ji13)) = true := decide_eq_true c14
              clear c14
              obtain ⟨ji15, hji15⟩ : ∃ j_ : Int, (shl .i64 1 (ji13)) = j_ := ⟨_, rfl⟩
              replace H : (impl_codesBy.l1 k2 l0 y144 (wrap64 (x5_2 + (ji15))) (wrap64 (x6_2 + 1)) x7_1 l0 (l0.length : Int) (wrap64 (x21_2 + 1))) = some (r1, r2) := by first | (rw [hji15] at H; exact H) | (simp only [hji15] at H ⊢; exact H)
              have hji15_ : (IntKind.i64.wrap (1 * 2 ^ min (ji13).toNat 64)) = ji15 := hji15
              have hji15z : (ji13) ≤ 64 → (IntKind.i64.wrap (1 * 2 ^ (ji13).toNat)) = ji15 := shl_small hji15
              have hji15u : (IntKind.i64.wrap (2 ^ min (ji13).toNat 64)) = ji15 := by have h_ := hji15_; rw [Int.one_mul] at h_; exact h_
              have hji15v : (ji13) ≤ 64 → (IntKind.i64.wrap (2 ^ (ji13).toNat)) = ji15 := fun hle_ => by have h_ := hji15z hle_; rw [Int.one_mul] at h_; exact h_
              have hji15y : (wrap64 (1 * 2 ^ min (ji13).toNat 64)) = ji15 := (i64_w _).symm.trans hji15_
              have hji15x : (ji13) ≤ 64 → (wrap64 (1 * 2 ^ (ji13).toNat)) = ji15 := fun h_ => (i64_w _).symm.trans (hji15z h_)
              have H' := Aside0.mk H
              clear H
              have p143 : 0 ≤ (x21_2 : Int) := of_decide_eq_true (by first | (with_reducible assumption) | assumption)
              have q143 : x21_2 < (l0.length : Int) := of_decide_eq_true (by first | (with_reducible assumption) | assumption)
              obtain ⟨ad143, e143, hx143_0⟩ := Kd.at_int HR0.out x21_2 p143 q143
              cases e143
              replace hx143_0 := (HB.out.cell (World.block_lt_of_cell? w _ hx143_0)).trans hx143_0
              replace p143 := eq_true p143
              replace q143 := eq_true q143
              have p12 : 0 ≤ (x21_2 : Int) := of_decide_eq_true (by first | (with_reducible assumption) | assumption)
              have q12 : (x21_2 : Int) < ((x4_2.length : Int) : Int) := of_decide_eq_true (by first | (with_reducible assumption) | assumption)
              obtain ⟨go12, co12, eo12, gb12, gl12, cl12, HG12⟩ := Kd.R_form HO_4.out (by omega)
              (first | cases eo12 | (injection eo12 with ea_ en_ ec_; (first | subst ea_ | (injection ea_ with ea_; subst ea_)); subst ec_; clear en_))
              have GB12 := Aside0.mk gb12
              have GG12 := Aside0.mk HG12
              clear gb12 gl12 HG12
              obtain ⟨hx12_0, hf12_0⟩ := Kd.R_celln 0 HO_4.out (x21_2 : Int) p12 q12
              replace p12 := eq_true p12
              replace q12 := eq_true q12
              have HP16 := Kd.R_putg HO_4.out (x21_2 : Int) x6_2
              go_wp2_with (first | ((with_reducible refine gate_store (t := 3) (p := 32) rfl ?_); refine store_event (t := 3) (p := 32) (v := ?vo_w17) (w1 := (wr.setCell ⟨go12, (x21_2 : Int).toNat, none⟩ (.int .i64 x6_2))) ?hg ?ho ?hn ?hr ?_; (case ho => rfl); (case hg => rfl); (case hn => rfl); (case hr => first | (go_simp; done) | (go_simp; rfl)); intro w17 hw; have hg : wr.grownBy w17 (some go12) := (by rw [hw]; exact HP16.2); have hp_ : Kd.R (Kd.int .i64) 3 w17 w.heap.size (fun _ => True) (.slice (some ⟨go12, 0, none⟩) x4_2.length co12) y144 := (by rw [hw, Ny144.out]; exact HP16.1); clear HP16; have n0_ := Aside0.mk (hp_); have n1_ := Aside0.mk ((by rw [hw]; exact below_set (HB.out) GB12.out : Below w.heap.size w w17)); clear HO_4; clear HB; have HO_4 := n0_; have HB := n1_; clear n0_ n1_; clear hg hw hp_))
              go_roundg k2
              case measure => have := HK1.out; have := HK2.out; omega
              case rel => exact ⟨(y144), (wrap64 (x5_2 + (ji15))), (wrap64 (x6_2 + 1)), (wrap64 (x21_2 + 1)), (by first | rfl | (simp; done) | (simp only [← hji15] <;> (first | rfl | simp)) | (simp [*]; done)), (by first | rfl | (simp; done) | (simp [*]; done) | (simp [wrap64]; done)), (by first | rfl | (simp; done) | (simp [*]; done) | (simp [wrap64]; done)), H', ⟨by have := HK1.out; have := HK2.out; omega⟩, ⟨by (with_reducible repeat (first | apply Kd.R_alloc | apply Kd.R_drewN | apply Kd.R_drew)); exact HO_4.out⟩, ⟨by repeat (first | (with_reducible first | exact HB.out | apply below_alloc | apply pw_below_drewN | apply below_drew1) | exact HB.out)⟩⟩
             ·rw [if_neg c14] at H
              exact absurd H (by simp)
            ·rw [if_neg c11] at H
             exact absurd H (by simp)
           ·rw [if_neg c10] at H
            have c10b0 : ((rd l0 x21_2) == x7_1) = false := beq_eq_false_iff_ne.mpr c10
            have c10b1 : ((rd l0 x21_2) != x7_1) = true := bne_iff_ne.mpr c10
            have H' := Aside0.mk H
            clear H
            have p143 : 0 ≤ (x21_2 : Int) := of_decide_eq_true (by first | (with_reducible assumption) | assumption)
            have q143 : x21_2 < (l0.length : Int) := of_decide_eq_true (by first | (with_reducible assumption) | assumption)
            obtain ⟨ad143, e143, hx143_0⟩ := Kd.at_int HR0.out x21_2 p143 q143
            cases e143
            replace hx143_0 := (HB.out.cell (World.block_lt_of_cell? w _ hx143_0)).trans hx143_0
            replace p143 := eq_true p143
            replace q143 := eq_true q143
            go_wp2
            go_roundg k2
            case measure => have := HK1.out; have := HK2.out; omega
            case rel => exact ⟨(x4_2), (x5_2), (x6_2), (wrap64 (x21_2 + 1)), (by first | rfl | (simp; done) | (simp [*]; done) | (simp [wrap64]; done)), (by first | rfl | (simp; done) | (simp [*]; done) | (simp [wrap64]; done)), (by first | rfl | (simp; done) | (simp [*]; done) | (simp [wrap64]; done)), H', ⟨by have := HK1.out; have := HK2.out; omega⟩, ⟨by (with_reducible repeat (first | apply Kd.R_alloc | apply Kd.R_drewN | apply Kd.R_drew)); exact HO_4.out⟩, ⟨by repeat (first | (with_reducible first | exact HB.out | apply below_alloc | apply pw_below_drewN | apply below_drew1) | exact HB.out)⟩⟩
          ·rw [if_neg c9] at H
           exact absurd H (by simp)
         ·rw [if_neg c8] at H
          exact absurd H (by simp)
        ·rw [if_neg c7] at H
         have c7b0 : decide (x21_2 < (l0.length : Int)) = false := decide_eq_false c7
         clear c7
         have H' := Aside0.mk H
         clear H
         go_wp2
         go_roundg k2
         case measure => have := HK1.out; have := HK2.out; omega
         case rel => exact ⟨(x4_2), (x5_2), (x6_2), (wrap64 (x7_1 + 1)), (by first | rfl | (simp; done) | (simp [*]; done) | (simp [wrap64]; done)), (by first | rfl | (simp; done) | (simp [*]; done) | (simp [wrap64]; done)), (by first | rfl | (simp; done) | (simp [*]; done) | (simp [wrap64]; done)), H', ⟨by have := HK1.out; have := HK2.out; omega⟩, ⟨by (with_reducible repeat (first | apply Kd.R_alloc | apply Kd.R_drewN | apply Kd.R_drew)); exact HO_4.out⟩, ⟨by repeat (first | (with_reducible first | exact HB.out | apply below_alloc | apply pw_below_drewN | apply below_drew1) | exact HB.out)⟩⟩
     ·rw [if_neg c6] at H
      have c6b0 : decide (x7_1 ≤ 15) = false := decide_eq_false c6
      clear c6
      simp only [Option.some.injEq, Prod.mk.injEq] at H
      obtain ⟨rfl, rfl⟩ := H
      go_wp2
      go_ret2
      exact ⟨_, by first | rfl | (simp [errW_none, errW_some] <;> rfl) | (simp [*, errW_none, errW_some] <;> rfl), by (with_reducible repeat (first | apply Kd.R_alloc | apply Kd.R_drewN | apply Kd.R_drew)); exact HO_4.out, by repeat (first | (with_reducible first | exact HB.out | apply below_alloc | apply pw_below_drewN | apply below_drew1) | exact HB.out)⟩
  ·rw [if_neg c3] at H
   exact absurd H (by simp)
 ·rw [if_neg c2] at H
  exact absurd H (by simp)

/-! ### impl_bitWriter_put: function 54 -/
def putO (out : List Int) (many : Int) : List Int := if many = 0 then out ++ [0] else out
def putM (many : Int) : Int := if many = 0 then 8 else many
def impl_bitWriter_put.f (out : List Int) (many x : Int) : Option (List Int × Int) :=
 if (0 ≤ many ∧ many ≤ 8) ∧ out.length < 140737488355327 ∧ (many = 0 ∨ 0 < out.length) then some ((putO out many).set ((putO out many).length - 1) (bits .or .u8 (rdOf 0 (putO out many) (((putO out many).length : Int) - 1)) (wrap64 (x * 2 ^ ((8 : Int) - putM many).toNat) % 256)), putM many - 1) else none
set_option maxHeartbeats 8000000 in
set_option maxRecDepth 100000 in
theorem impl_bitWriter_put.calls (out : List Int) (many x : Int) (out' : List Int) (many' : Int) (base g : Nat) (w0 w : World) (hbase : base ≤ w.heap.size) (hB : Below base w0 w) (hW : W8 39 w base g out many) (h : impl_bitWriter_put.f out many x = some (out', many')) :
  Calls Try.prog 54 #[.pointer (some ⟨g, 0, none⟩), .int .i64 x] w fun e w' => e = .returned (.tuple #[]) ∧ Below base w0 w' ∧ W8 39 w' base g out' many' ∧ Kept8 w w' g := by
 obtain ⟨v, hb, hge, hR⟩ := hW
 unfold impl_bitWriter_put.f at h
 by_cases hc : (0 ≤ many ∧ many ≤ 8) ∧ out.length < 140737488355327 ∧ (many = 0 ∨ 0 < out.length)
 rotate_left
 ·rw [if_neg hc] at h; cases h
 rw [if_pos hc] at h
 obtain ⟨⟨hm, hm8⟩, hl0, hz⟩ := hc
 obtain ⟨rfl, rfl⟩ := Prod.mk.inj (Option.some.inj h)
 clear h
 have HBK := Aside0.mk hb
 have HR := Aside0.mk hR
 have HB := Aside0.mk hB
 have HSZ := Aside0.mk hbase
 have HL0 := Aside0.mk hl0
 have a0_ : w.cell? ⟨g, 0, none⟩ = some v := (blk_cell hb 0).trans rfl
 have a1_ : w.cell? ⟨g, 1, none⟩ = some (.int .i64 many) := (blk_cell hb 1).trans rfl
 have f0_ := blk_frozen hb 0
 have f1_ := blk_frozen hb 1
 by_cases h8 : many = 0
 ·subst h8
  have eo : putO out 0 = out ++ [0] := if_pos rfl
  have em : putM 0 = 8 := if_pos rfl
  obtain ⟨o, ho⟩ : ∃ o : List Int, o = out ++ [0] := ⟨_, rfl⟩
  rw [eo, em, ← ho, show x * 2 ^ ((8 : Int) - 8).toNat = x by simp, show (8 : Int) - 1 = 7 from rfl]
  have NO := Aside0.mk ho
  have HN : Aside0 (0 < o.length) := ⟨by rw [ho, List.length_append]; simp⟩
  have HL : Aside0 (o.length ≤ 140737488355328) := ⟨by have := HL0.out; rw [ho, List.length_append, List.length_singleton]; omega⟩
  clear hb hR hB hz eo em ho
  go_enter Try.func54, Try.ntmps54
  go_upto_region 2 with (first | ((with_reducible refine gate_builtin (b := .append) (xs := #[.tmp 13, .tmp 14]) rfl ?_); at_builtin; refine Kd.R_append (Kd.int .u8) (w0 := w0) base rfl (.tmp 13) (.tmp 14) 22 5 (.int .u8 0) 1 rfl Try.underlying22 info5 rfl (by decide) (by omega) v out 0 [.int .u8 0] (fun _ => True) (fun _ => False) rfl rfl ?aP (fun _ hk => hk.elim) ?aF ?aO ?aB ?aS ?aL ?_; (case aP => exact rfl); (case aF => exact (fun _ _ => trivial)); (case aO => exact HR.out); (case aB => exact HB.out); (case aS => exact HSZ.out); (case aL => have := HL0.out; omega); intro v1 w6 ho hb6 hg6 hat; rw [← NO.out] at ho; obtain ⟨b, cap, rfl, hle⟩ := sl8_ ho HN.out; have BK6 : w6.heap[g]? = some (.cells #[v, .int .i64 0] 39 (0, 0)) := blk_grown HBK.out hg6 (Kd.R_ne HR.out HBK.out (by decide)); have c6_ : w6.cell? ⟨g, 0, none⟩ = some v := (blk_cell BK6 0).trans rfl; have f6_ := blk_frozen BK6 0; have n0_ := Aside0.mk BK6; have n1_ := Aside0.mk ho; have n2_ := Aside0.mk hb6; have n3_ := Aside0.mk (Kept8.grown (Kept8.refl w g) hg6 (Kd.R_typed HR.out)); clear BK6 ho hb6 hg6 hat))
  have BK6 : Aside0 ((w6.setCell ⟨g, 0, none⟩ (.slice (some ⟨b, 0, none⟩) o.length cap)).heap[g]? = some (.cells #[.slice (some ⟨b, 0, none⟩) o.length cap, .int .i64 0] 39 (0, 0))) := ⟨blk_put n0_.out 0 _ rfl⟩
  have k1_ : (w6.setCell ⟨g, 0, none⟩ (.slice (some ⟨b, 0, none⟩) o.length cap)).cell? ⟨g, 1, none⟩ = some (.int .i64 0) := (blk_cell BK6.out 1).trans rfl
  have kf_ := blk_frozen BK6.out 1
  go_upto_region 3 with (fail)
  obtain ⟨W, hW⟩ : ∃ W : World, W = (w6.setCell ⟨g, 0, none⟩ (.slice (some ⟨b, 0, none⟩) o.length cap)).setCell ⟨g, 1, none⟩ (.int .i64 8) := ⟨_, rfl⟩
  have BK : Aside0 (W.heap[g]? = some (.cells #[.slice (some ⟨b, 0, none⟩) o.length cap, .int .i64 8] 39 (0, 0))) := ⟨by rw [hW]; exact blk_put BK6.out 1 _ rfl⟩
  have RR : Aside0 (Kd.R (Kd.int .u8) 5 W base (fun _ => True) (.slice (some ⟨b, 0, none⟩) o.length cap) o) := ⟨by
   rw [hW]
   exact Kd.R_mono (Kd.R_far (Kd.R_far (Kd.R_types n1_.out n0_.out (by decide)) (p := ⟨g, 0, none⟩) (fun k hk => hk.2) _) (p := ⟨g, 1, none⟩) (fun k hk => hk.2) _) (fun _ _ => trivial)⟩
  have KK : Aside0 (Kept8 w W g) := ⟨by rw [hW]; exact Kept8.setG (Kept8.setG n3_.out _) _⟩
  have BB : Aside0 (Below base w0 W) := ⟨by rw [hW]; exact Below.setCell (Below.setCell n2_.out hge _) hge _⟩
  rw [← hW]
  clear hW n0_ n1_ n2_ n3_ c6_ f6_ a0_ a1_ f0_ f1_ k1_ kf_ BK6
  obtain ⟨cl, fz⟩ := Kd.R_celln 0 RR.out ((o.length : Int) - 1) (by have := HN.out; omega) (by omega)
  have ei : ((o.length : Int) - 1).toNat = o.length - 1 := by omega
  rw [ei] at cl fz
  clear ei
  have hpos := HN.out
  have hlim := HL.out
  have b0_ : W.cell? ⟨g, 0, none⟩ = some (.slice (some ⟨b, 0, none⟩) o.length cap) := (blk_cell BK.out 0).trans rfl
  have b1_ : W.cell? ⟨g, 1, none⟩ = some (.int .i64 8) := (blk_cell BK.out 1).trans rfl
  have g1_ := blk_frozen BK.out 1
  have hbg : b ≠ g := fun e => (Kd.R_ne RR.out BK.out (by decide)) (by rw [e]; rfl)
  have P2 := Kd.R_putn RR.out ((o.length : Int) - 1) (bits .or .u8 (rdOf 0 o ((o.length : Int) - 1)) (wrap64 x % 256))
  have ei : ((o.length : Int) - 1).toNat = o.length - 1 := by omega
  rw [ei] at P2
  obtain ⟨cb, hcb⟩ := Kd.R_typed RR.out b rfl
  have hgb : base ≤ b := (Kd.R_base RR.out) b rfl
  have X0 := Aside0.mk (show W.heap[b]? = some (.cells cb 5 (0, 0)) from hcb)
  have X1 := Aside0.mk P2
  clear P2 ei hcb
  go_region
  obtain ⟨V, hV⟩ : ∃ V : World, V = (W.setCell ⟨b, o.length - 1, none⟩ (.int .u8 (bits .or .u8 (rdOf 0 o ((o.length : Int) - 1)) (wrap64 x % 256)))) := ⟨_, rfl⟩
  have BV : V.heap[g]? = some (.cells #[.slice (some ⟨b, 0, none⟩) o.length cap, .int .i64 8] 39 (0, 0)) := by rw [hV]; exact blk_far BK.out (fun e => hbg e.symm) _
  have RV : Kd.R (Kd.int .u8) 5 V base (fun _ => True) (.slice (some ⟨b, 0, none⟩) o.length cap) (o.set (o.length - 1) (bits .or .u8 (rdOf 0 o ((o.length : Int) - 1)) (wrap64 x % 256))) := by rw [hV]; exact X1.out
  have KV : Kept8 w V g := by rw [hV]; exact Kept8.setRow KK.out X0.out _
  have BBV : Below base w0 V := by rw [hV]; exact Below.setCell BB.out hgb _
  rw [← hV]
  have v1_ : V.drew.cell? ⟨g, 1, none⟩ = some (.int .i64 8) := (blk_cell (blk_drew BV) 1).trans rfl
  have vg1_ := blk_frozen (blk_drew BV) 1
  have BV' := Aside0.mk BV
  have RV' := Aside0.mk RV
  clear BV RV b0_ b1_ cl fz g1_ hV
  go_wp2
  go_end0
  have B2 := blk_put (blk_drew BV'.out) 1 (.int .i64 (7)) rfl
  have R1 := Kd.R_types (Kd.R_drew RV'.out) (blk_drew BV'.out) (by decide)
  refine ⟨rfl, Below.setCell BBV.drew hge _, ?_, Kept8.setG KV.drew _⟩
  refine ⟨_, B2, hge, ?_⟩
  have R2 := Kd.R_mono (Kd.R_far R1 (p := ⟨g, 1, none⟩) (fun k hk => hk.2) (.int .i64 (7))) (ok' := fun _ => True) (fun _ _ => trivial)
  exact R2
 ·have h8b : ((many : Int) == 0) = false := beq_eq_false_iff_ne.mpr h8
  have eo : putO out many = out := if_neg h8
  have em : putM many = many := if_neg h8
  rw [eo, em]
  have hn : 0 < out.length := by rcases hz with hz | hz; exact absurd hz h8; exact hz
  obtain ⟨b, cap, rfl, hle⟩ := sl8_ hR hn
  have BK := HBK
  have RR := HR
  have KK := Aside0.mk (Kept8.refl w g)
  have BB := HB
  have HN := Aside0.mk hn
  have HL : Aside0 (out.length ≤ 140737488355328) := ⟨by omega⟩
  clear hb hR hB hz eo hn em
  go_enter Try.func54, Try.ntmps54
  go_upto_region 3 with (fail)
  clear a0_ a1_ f0_ f1_
  obtain ⟨cl, fz⟩ := Kd.R_celln 0 RR.out ((out.length : Int) - 1) (by have := HN.out; omega) (by omega)
  have ei : ((out.length : Int) - 1).toNat = out.length - 1 := by omega
  rw [ei] at cl fz
  clear ei
  have hpos := HN.out
  have hlim := HL.out
  have b0_ : w.cell? ⟨g, 0, none⟩ = some (.slice (some ⟨b, 0, none⟩) out.length cap) := (blk_cell BK.out 0).trans rfl
  have b1_ : w.cell? ⟨g, 1, none⟩ = some (.int .i64 many) := (blk_cell BK.out 1).trans rfl
  have g1_ := blk_frozen BK.out 1
  have hbg : b ≠ g := fun e => (Kd.R_ne RR.out BK.out (by decide)) (by rw [e]; rfl)
  have P2 := Kd.R_putn RR.out ((out.length : Int) - 1) (bits .or .u8 (rdOf 0 out ((out.length : Int) - 1)) (wrap64 (x * 2 ^ ((8 : Int) - many).toNat) % 256))
  have ei : ((out.length : Int) - 1).toNat = out.length - 1 := by omega
  rw [ei] at P2
  obtain ⟨cb, hcb⟩ := Kd.R_typed RR.out b rfl
  have hgb : base ≤ b := (Kd.R_base RR.out) b rfl
  have X0 := Aside0.mk (show w.heap[b]? = some (.cells cb 5 (0, 0)) from hcb)
  have X1 := Aside0.mk P2
  clear P2 ei hcb
  go_region
  obtain ⟨V, hV⟩ : ∃ V : World, V = (w.setCell ⟨b, out.length - 1, none⟩ (.int .u8 (bits .or .u8 (rdOf 0 out ((out.length : Int) - 1)) (wrap64 (x * 2 ^ ((8 : Int) - many).toNat) % 256)))) := ⟨_, rfl⟩
  have BV : V.heap[g]? = some (.cells #[.slice (some ⟨b, 0, none⟩) out.length cap, .int .i64 many] 39 (0, 0)) := by rw [hV]; exact blk_far BK.out (fun e => hbg e.symm) _
  have RV : Kd.R (Kd.int .u8) 5 V base (fun _ => True) (.slice (some ⟨b, 0, none⟩) out.length cap) (out.set (out.length - 1) (bits .or .u8 (rdOf 0 out ((out.length : Int) - 1)) (wrap64 (x * 2 ^ ((8 : Int) - many).toNat) % 256))) := by rw [hV]; exact X1.out
  have KV : Kept8 w V g := by rw [hV]; exact Kept8.setRow KK.out X0.out _
  have BBV : Below base w0 V := by rw [hV]; exact Below.setCell BB.out hgb _
  rw [← hV]
  have v1_ : V.drew.cell? ⟨g, 1, none⟩ = some (.int .i64 many) := (blk_cell (blk_drew BV) 1).trans rfl
  have vg1_ := blk_frozen (blk_drew BV) 1
  have BV' := Aside0.mk BV
  have RV' := Aside0.mk RV
  clear BV RV b0_ b1_ cl fz g1_ hV
  go_wp2
  go_end0
  have B2 := blk_put (blk_drew BV'.out) 1 (.int .i64 (many - 1)) rfl
  have R1 := Kd.R_types (Kd.R_drew RV'.out) (blk_drew BV'.out) (by decide)
  refine ⟨rfl, Below.setCell BBV.drew hge _, ?_, Kept8.setG KV.drew _⟩
  refine ⟨_, B2, hge, ?_⟩
  have R2 := Kd.R_mono (Kd.R_far R1 (p := ⟨g, 1, none⟩) (fun k hk => hk.2) (.int .i64 (many - 1))) (ok' := fun _ => True) (fun _ _ => trivial)
  exact R2

/-! ### impl_bitWriter_number: function 22 -/
def impl_bitWriter_numberG (n : Int) : Nat → Nat → List Int → Int → Option (List Int × Int)
 | 0, _, o, m => some (o, m)
 | r + 1, k, o, m => (impl_bitWriter_put.f o m (bits .and .i64 (n / 2 ^ k) 1)).bind fun p => impl_bitWriter_numberG n r (k + 1) p.1 p.2
def impl_bitWriter_number.f (out : List Int) (many n cnt : Int) : Option (List Int × Int) := if 0 ≤ cnt ∧ cnt ≤ 62 then impl_bitWriter_numberG n cnt.toNat 0 out many else none
set_option maxHeartbeats 8000000 in
set_option maxRecDepth 100000 in
theorem impl_bitWriter_number.calls (out : List Int) (many n cnt : Int) (out' : List Int) (many' : Int) (base g : Nat) (w0 w : World) (hbase : base ≤ w.heap.size) (hB : Below base w0 w) (hW : W8 39 w base g out many) (h : impl_bitWriter_number.f out many n cnt = some (out', many')) :
  Calls Try.prog 22 #[.pointer (some ⟨g, 0, none⟩), .int .i64 n, .int .i64 cnt] w fun e w' => e = .returned (.tuple #[]) ∧ Below base w0 w' ∧ W8 39 w' base g out' many' ∧ Kept8 w w' g := by
 unfold impl_bitWriter_number.f at h
 by_cases hc : 0 ≤ cnt ∧ cnt ≤ 62
 rotate_left
 ·rw [if_neg hc] at h; cases h
 rw [if_pos hc] at h
 have HB := Aside0.mk hB
 have HW := Aside0.mk hW
 have HH := Aside0.mk h
 have HC := Aside0.mk hc
 have HSZ := Aside0.mk hbase
 have hc0 := hc.1
 have hc62 := hc.2
 clear hB hW h hc hbase
 go_enter Try.func22, Try.ntmps22
 go_wp2
 go_loopg [8] cnt.toNat (fun kq v w' => ∃ (k : Nat) (o : List Int) (m : Int), v = .int .i64 (k : Int) ∧ Aside0 (impl_bitWriter_numberG n kq k o m = some (out', many')) ∧ Aside0 (kq + k = cnt.toNat) ∧ Aside0 (base ≤ w'.heap.size) ∧ Aside0 (Below base w0 w') ∧ Aside0 (W8 39 w' base g o m) ∧ Aside0 (Kept8 w w' g))
 case atStart => exact ⟨0, out, many, rfl, HH, ⟨rfl⟩, HSZ, HB, HW, ⟨Kept8.refl w g⟩⟩
 case round =>
  obtain ⟨k, o, m, rfl, HA, HI, HS, HB2, HW2, HK⟩ := hrel
  cases gk with
  | zero =>
   have H := HA.out
   simp only [impl_bitWriter_numberG, Option.some.injEq, Prod.mk.injEq] at H
   obtain ⟨rfl, rfl⟩ := H
   have hk : decide ((k : Int) < cnt) = false := decide_eq_false (by have := HI.out; omega)
   clear HA HI
   go_wp2
   go_end0
   exact ⟨rfl, HB2.out, HW2.out, HK.out⟩
  | succ r =>
   have H := HA.out
   clear HA
   simp only [impl_bitWriter_numberG] at H
   obtain ⟨⟨o2, m2⟩, hd, H⟩ := Option.bind_eq_some_iff.mp H
   have HD := Aside0.mk hd
   have H' := Aside0.mk H
   have hk : decide ((k : Int) < cnt) = true := decide_eq_true (by have := HI.out; omega)
   have hk2 : (k : Int) < 64 := by have := HI.out; omega
   have hk3 : (k : Int) < cnt := by have := HI.out; omega
   clear hd H
   go_wp2_with (go_at_call 54; (with_reducible refine (impl_bitWriter_put.calls o m _ o2 m2 base g w0 _ HS.out HB2.out HW2.out HD.out).mono ?_); rintro e w2 ⟨rfl, hb_, hw_, hk_⟩; have X1 := Aside0.mk hb_; have X2 := Aside0.mk hw_; have X3 := Aside0.mk (Kept8.trans HK.out hk_); have X4 := Aside0.mk (Nat.le_trans HS.out hk_.1); clear hb_ hw_ hk_)
   go_roundg r
   case measure => omega
   case rel => exact ⟨k + 1, o2, m2, by first | rfl | (rw [Int.natCast_add]; rfl) | (simp; done), H', ⟨by have := HI.out; omega⟩, X4, X1, X2, X3⟩

/-! ### impl_bitWriter_code: function 24 -/
def impl_bitWriter_codeG (n : Int) : Nat → List Int → Int → Option (List Int × Int)
 | 0, o, m => some (o, m)
 | r + 1, o, m => (impl_bitWriter_put.f o m (bits .and .i64 (n / 2 ^ r) 1)).bind fun p => impl_bitWriter_codeG n r p.1 p.2
def impl_bitWriter_code.f (out : List Int) (many n cnt : Int) : Option (List Int × Int) := if 0 ≤ cnt ∧ cnt ≤ 62 then impl_bitWriter_codeG n cnt.toNat out many else none
set_option maxHeartbeats 8000000 in
set_option maxRecDepth 100000 in
theorem impl_bitWriter_code.calls (out : List Int) (many n cnt : Int) (out' : List Int) (many' : Int) (base g : Nat) (w0 w : World) (hbase : base ≤ w.heap.size) (hB : Below base w0 w) (hW : W8 39 w base g out many) (h : impl_bitWriter_code.f out many n cnt = some (out', many')) :
  Calls Try.prog 24 #[.pointer (some ⟨g, 0, none⟩), .int .i64 n, .int .i64 cnt] w fun e w' => e = .returned (.tuple #[]) ∧ Below base w0 w' ∧ W8 39 w' base g out' many' ∧ Kept8 w w' g := by
 unfold impl_bitWriter_code.f at h
 by_cases hc : 0 ≤ cnt ∧ cnt ≤ 62
 rotate_left
 ·rw [if_neg hc] at h; cases h
 rw [if_pos hc] at h
 have HB := Aside0.mk hB
 have HW := Aside0.mk hW
 have HH := Aside0.mk h
 have HC := Aside0.mk hc
 have HSZ := Aside0.mk hbase
 have hc0 := hc.1
 have hc62 := hc.2
 clear hB hW h hc hbase
 go_enter Try.func24, Try.ntmps24
 go_wp2
 go_loopg [6] cnt.toNat (fun kq v w' => ∃ (o : List Int) (m : Int), v = .int .i64 ((kq : Int) - 1) ∧ Aside0 (impl_bitWriter_codeG n kq o m = some (out', many')) ∧ Aside0 (kq ≤ cnt.toNat) ∧ Aside0 (base ≤ w'.heap.size) ∧ Aside0 (Below base w0 w') ∧ Aside0 (W8 39 w' base g o m) ∧ Aside0 (Kept8 w w' g))
 case atStart => exact ⟨out, many, by rw [Int.toNat_of_nonneg hc0], HH, ⟨Nat.le_refl _⟩, HSZ, HB, HW, ⟨Kept8.refl w g⟩⟩
 case round =>
  obtain ⟨o, m, rfl, HA, HI, HS, HB2, HW2, HK⟩ := hrel
  cases gk with
  | zero =>
   have H := HA.out
   simp only [impl_bitWriter_codeG, Option.some.injEq, Prod.mk.injEq] at H
   obtain ⟨rfl, rfl⟩ := H
   clear HA HI
   go_wp2
   go_end0
   exact ⟨rfl, HB2.out, HW2.out, HK.out⟩
  | succ r =>
   have H := HA.out
   clear HA
   simp only [impl_bitWriter_codeG] at H
   obtain ⟨⟨o2, m2⟩, hd, H⟩ := Option.bind_eq_some_iff.mp H
   have HD := Aside0.mk hd
   have H' := Aside0.mk H
   have er : ((r + 1 : Nat) : Int) - 1 = (r : Int) := by omega
   rw [er]
   have hk2 : (r : Int) < 64 := by have := HI.out; omega
   have hk3 : decide ((r : Int) ≥ 0) = true := decide_eq_true (by omega)
   clear hd H er
   go_wp2_with (go_at_call 54; (with_reducible refine (impl_bitWriter_put.calls o m _ o2 m2 base g w0 _ HS.out HB2.out HW2.out HD.out).mono ?_); rintro e w2 ⟨rfl, hb_, hw_, hk_⟩; have X1 := Aside0.mk hb_; have X2 := Aside0.mk hw_; have X3 := Aside0.mk (Kept8.trans HK.out hk_); have X4 := Aside0.mk (Nat.le_trans HS.out hk_.1); clear hb_ hw_ hk_)
   go_roundg r
   case measure => omega
   case rel => exact ⟨o2, m2, rfl, H', ⟨by have := HI.out; omega⟩, X4, X1, X2, X3⟩

/-! ### impl_within: function 32 -/
def impl_within.f (a0 : Int) (a1 : Int) (a2 : Int) : Option (Bool) := if a1 ≤ a0 then (some (decide (a0 ≤ a2))) else (some false)
set_option maxHeartbeats 8000000 in
set_option maxRecDepth 100000 in
theorem impl_within.calls (a0 : Int) (a1 : Int) (a2 : Int) (r : Bool) (w : World) (h : impl_within.f a0 a1 a2 = some r) :
  Calls Try.prog 32 #[.int .i64 a0, .int .i64 a1, .int .i64 a2] w fun e w' => e = .returned (.bool r) ∧ Drawn0 w w' := by
 have H : (if a1 ≤ a0 then (some (decide (a0 ≤ a2))) else (some false)) = some r := h
 clear h
 by_cases c4 : a1 ≤ a0
 ·rw [if_pos c4] at H
  have c4b0 : decide (a1 ≤ a0) = true := decide_eq_true c4
  clear c4
  obtain rfl := Option.some.inj H
  go_enter Try.func32, Try.ntmps32
  go_wp2
  go_ret
  exact ⟨by first | rfl | (simp; done) | (simp [*]; done), by repeat (first | exact Drawn0.refl _ | apply Drawn0.step)⟩
 ·rw [if_neg c4] at H
  have c4b0 : decide (a1 ≤ a0) = false := decide_eq_false c4
  clear c4
  obtain rfl := Option.some.inj H
  go_enter Try.func32, Try.ntmps32
  go_wp2
  go_ret
  exact ⟨by first | rfl | (simp; done) | (simp [*]; done), by repeat (first | exact Drawn0.refl _ | apply Drawn0.step)⟩

end Go.Proofs.Ytfogfjmkngoegaa.PFnExactPackFixedOf
