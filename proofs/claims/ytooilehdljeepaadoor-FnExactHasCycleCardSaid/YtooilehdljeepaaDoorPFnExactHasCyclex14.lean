-- Laid by a program of this session out of the translation (its own run of the print). Lean checks it.
import Derived.Test.YtooilehdljeepaaDoorPFnExactHasCyclex0
import Derived.Test.YtooilehdljeepaaDoorPFnExactHasCyclex9
import Derived.Test.YtooilehdljeepaaDoorPFnExactHasCyclex11
import Derived.Test.YtooilehdljeepaaDoorPFnExactHasCyclex12
import Derived.Test.YtooilehdljeepaaDoorPFnExactHasCyclex13
namespace Go.Proofs.YtooilehdljeepaaDoor.PFnExactHasCycle
open Go.RowKit Go.Proofs.YtooilehdljeepaaDoorW.PrintWords Go.Proofs.YtooilehdljeepaaDoorW.PrintLast Go.Proofs.YtooilehdljeepaaDoorW.PrintMore
attribute [local go_sem] max2_int min2_int max_two min_two max_three min_three max_four min_four   -- for this text's walks alone
set_option linter.unusedVariables false
set_option linter.unusedSimpArgs false

/-! ### slices_Sort_int_int: function 99 -/
def laid189_ren_ : Go.Shelf.Ren := ⟨fun | 125 => 148 | 128 => 174 | 129 => 175 | 189 => 99 | 215 => 190 | 216 => 171 | 257 => 147 | 294 => 165 | 295 => 166 | 296 => 167 | 297 => 168 | 298 => 169 | 299 => 170 | 300 => 172 | 301 => 173 | 328 => 185 | 329 => 186 | 330 => 187 | 331 => 188 | 332 => 189 | 343 => 196 | n => n, fun | 28 => 77 | 46 => 158 | 51 => 177 | 53 => 179 | 131 => 174 | 182 => 168 | 183 => 169 | 218 => 186 | 222 => 190 | 228 => 194 | 229 => 145 | n => n, fun | 1 => 0 | 3 => 1 | 4 => 2 | n => n⟩
theorem laid189_ : Go.Proofs.Lays.n189 Tryd.prog laid189_ren_ := {
 mixed := by kernel_rfl
 f125 := Tryd.func148.trans (congrArg some (by kernel_rfl))
 f128 := Tryd.func174.trans (congrArg some (by kernel_rfl))
 f129 := Tryd.func175.trans (congrArg some (by kernel_rfl))
 f189 := Tryd.func99.trans (congrArg some (by kernel_rfl))
 f215 := Tryd.func190.trans (congrArg some (by kernel_rfl))
 f216 := Tryd.func171.trans (congrArg some (by kernel_rfl))
 f257 := Tryd.func147.trans (congrArg some (by kernel_rfl))
 f294 := Tryd.func165.trans (congrArg some (by kernel_rfl))
 f295 := Tryd.func166.trans (congrArg some (by kernel_rfl))
 f296 := Tryd.func167.trans (congrArg some (by kernel_rfl))
 f297 := Tryd.func168.trans (congrArg some (by kernel_rfl))
 f298 := Tryd.func169.trans (congrArg some (by kernel_rfl))
 f299 := Tryd.func170.trans (congrArg some (by kernel_rfl))
 f300 := Tryd.func172.trans (congrArg some (by kernel_rfl))
 f301 := Tryd.func173.trans (congrArg some (by kernel_rfl))
 f328 := Tryd.func185.trans (congrArg some (by kernel_rfl))
 f329 := Tryd.func186.trans (congrArg some (by kernel_rfl))
 f330 := Tryd.func187.trans (congrArg some (by kernel_rfl))
 f331 := Tryd.func188.trans (congrArg some (by kernel_rfl))
 f332 := Tryd.func189.trans (congrArg some (by kernel_rfl))
 f343 := Tryd.func196.trans (congrArg some (by kernel_rfl))
 t0 := Tryd.underlying0
 a0 := Tryd.isAgg0
 z0 := Tryd.sizeOf0
 v0 := Tryd.zeroValue0
 t3 := Tryd.underlying3
 a3 := Tryd.isAgg3
 z3 := Tryd.sizeOf3
 v3 := Tryd.zeroValue3
 t4 := Tryd.underlying4
 a4 := Tryd.isAgg4
 z4 := Tryd.sizeOf4
 v4 := Tryd.zeroValue4
 t5 := Tryd.underlying5
 a5 := Tryd.isAgg5
 z5 := Tryd.sizeOf5
 v5 := Tryd.zeroValue5
 t9 := Tryd.underlying9
 a9 := Tryd.isAgg9
 z9 := Tryd.sizeOf9
 v9 := Tryd.zeroValue9
 t28 := Tryd.underlying77
 a28 := Tryd.isAgg77
 z28 := Tryd.sizeOf77
 v28 := Tryd.zeroValue77
 t46 := Tryd.underlying158
 a46 := Tryd.isAgg158
 z46 := Tryd.sizeOf158
 v46 := Tryd.zeroValue158
 t51 := Tryd.underlying177
 a51 := Tryd.isAgg177
 z51 := Tryd.sizeOf177
 v51 := Tryd.zeroValue177
 t53 := Tryd.underlying179
 a53 := Tryd.isAgg179
 z53 := Tryd.sizeOf179
 v53 := Tryd.zeroValue179
 t131 := Tryd.underlying174
 a131 := Tryd.isAgg174
 z131 := Tryd.sizeOf174
 v131 := Tryd.zeroValue174
 t182 := Tryd.underlying168
 a182 := Tryd.isAgg168
 z182 := Tryd.sizeOf168
 v182 := Tryd.zeroValue168
 t183 := Tryd.underlying169
 a183 := Tryd.isAgg169
 z183 := Tryd.sizeOf169
 v183 := Tryd.zeroValue169
 t218 := Tryd.underlying186
 a218 := Tryd.isAgg186
 z218 := Tryd.sizeOf186
 v218 := Tryd.zeroValue186
 t222 := Tryd.underlying190
 a222 := Tryd.isAgg190
 z222 := Tryd.sizeOf190
 v222 := Tryd.zeroValue190
 t228 := Tryd.underlying194
 a228 := Tryd.isAgg194
 z228 := Tryd.sizeOf194
 v228 := Tryd.zeroValue194
 t229 := Tryd.underlying145
 a229 := Tryd.isAgg145
 z229 := Tryd.sizeOf145
 v229 := Tryd.zeroValue145 }

def slices_Sort_int_int.f (a0 : List Int) : Option (List Int) := if a0.length < 4611686018427387904 then some (a0.mergeSort fun x y => decide (x ≤ y)) else none
theorem slices_Sort_int_int.calls (P0_ : Nat → Prop) (u9000_ : Value) (l0 : List Int) (r : List Int) (w0 w : World) (hB : Below w0.heap.size w0 w) (ho0 : Kd.R (Kd.int .i64) 3 w w0.heap.size P0_ u9000_ l0) (h : slices_Sort_int_int.f l0 = some r) :
  Calls Tryd.prog 99 #[u9000_] w fun e w' => e = .returned (.tuple #[]) ∧ Kd.R (Kd.int .i64) 3 w' w0.heap.size (fun k_ => (P0_ k_ ∨ w.heap.size ≤ k_)) u9000_ r ∧ Below w0.heap.size w0 w' ∧ Kept w w' (fun k_ => P0_ k_) := by
 unfold slices_Sort_int_int.f at h
 by_cases hs : l0.length < 4611686018427387904
 ·rw [if_pos hs] at h
  obtain rfl := Option.some.inj h
  have hown := Kd.own_of_R ho0
  have hin := ho0.1
  rcases hown.2 with ⟨rfl, hn⟩ | ⟨g, cap, cur, rfl, hbase, hb, hnc, hcm, hcs, htake⟩
  ·have e0 : l0 = [] := List.length_eq_zero_iff.mp hn
   subst e0
   refine (Any.slices_Sort_int_none laid189_ none 0 w).mono fun e w' ⟨he, hw⟩ => ?_
   subst hw
   rw [List.mergeSort_nil]
   exact ⟨he, Kd.R_mono ho0 (fun _ hk => .inl hk), hB, Kept.refl _ _⟩
  ·refine (Any.slices_Sort_int laid189_ g 0 cap l0 w (holds_of_blockI hb (by rw [Nat.mul_one] at htake; exact htake)) (Array.getElem?_eq_some_iff.1 hb).1 hs).mono fun e w' ⟨he, n, os, hw⟩ => ?_
   subst hw
   have hlen : (l0.mergeSort fun x y => decide (x ≤ y)).length = l0.length := List.length_mergeSort _
   have hg := grownBy_sortedI (w := w) (g := g) (n := n) (os := os) (l0.mergeSort fun x y => decide (x ≤ y)).toArray
   refine ⟨he, Kd.R_of_own ?_ (fun k hk => .inl (hin k hk)), hB.grown hg hB.size (fun k hk => by injection hk with hk; omega), Kept.of_grown hg (Kept.refl _ _) (fun k hk => .inl (hin k hk))⟩
   have := ownsRow_sortedI (w := w) (n := n) (os := os) hlen hbase hb hnc hcm hcs
   rw [hlen]
   exact this
 ·rw [if_neg hs] at h; cases h

/-! ### impl_UsesOf: function 50 -/
mutual
def impl_UsesOf.j0 : Nat → List (S69) → Int → Bool → Option (List Int × Bool)
 | 0, _, _, _ => none
 | k + 1, x0, x1, x18 => if x18 = true then (some (([] : List Int), false)) else (impl_UsesOf.l0 k x0 x1 (([] : List Int)) x0 (x0.length : Int) 0)
def impl_UsesOf.l0 : Nat → List (S69) → Int → List Int → List (S69) → Int → Int → Option (List Int × Bool)
 | 0, _, _, _, _, _, _ => none
 | k + 1, x0, x1, x6, x20, x21, x22 => if x22 < x21 then (if 0 ≤ x22 then (if x22 < (x20.length : Int) then (if ((rd_T69 x20 x22).f0).toList = ([117, 115, 101] : List UInt8) then ((impl_isAround.f k x0 x1 x22).bind fun t303 => (impl_UsesOf.j2 k x0 x1 x6 x20 x21 x22 (!t303) ((rd_T69 x20 x22).f0) ((rd_T69 x20 x22).f1) ((rd_T69 x20 x22).f2) ((rd_T69 x20 x22).f3))) else (impl_UsesOf.j2 k x0 x1 x6 x20 x21 x22 true ((rd_T69 x20 x22).f0) ((rd_T69 x20 x22).f1) ((rd_T69 x20 x22).f2) ((rd_T69 x20 x22).f3))) else (none)) else (none)) else ((slices_Sort_int_int.f x6).bind fun t300 => (some (t300, true)))
def impl_UsesOf.j2 : Nat → List (S69) → Int → List Int → List (S69) → Int → Int → Bool → ByteArray → Int → List (S144) → ByteArray → Option (List Int × Bool)
 | 0, _, _, _, _, _, _, _, _, _, _, _ => none
 | k + 1, x0, x1, x6, x20, x21, x22, x36, x303000, x303001, x303002, x303003 => if x36 = true then (impl_UsesOf.l0 k x0 x1 x6 x20 x21 (wrap64 (x22 + 1))) else ((impl_HrefOf.f k x303000 x303001 x303002 x303003).bind fun t304 => ((impl_NodeOf.f k x0 t304).bind fun t305 => (if t305 ≥ 0 then ((slices_Contains_int_int.f k x6 t305).bind fun t306 => (if t306 = true then (impl_UsesOf.l0 k x0 x1 x6 x20 x21 (wrap64 (x22 + 1))) else (if x6.length < 17592186044416 then (impl_UsesOf.l0 k x0 x1 (x6 ++ [t305]) x20 x21 (wrap64 (x22 + 1))) else (none)))) else (impl_UsesOf.l0 k x0 x1 x6 x20 x21 (wrap64 (x22 + 1))))))
end
def impl_UsesOf.f (k : Nat) (l0 : List (S69)) (a1 : Int) : Option (List Int × Bool) := (impl_GoodNodes.f k l0).bind fun t295 => (if t295 = true then ((impl_isElement.f l0 a1).bind fun t296 => (impl_UsesOf.j0 k l0 a1 (!t296))) else (impl_UsesOf.j0 k l0 a1 true))
set_option maxHeartbeats 8000000 in
set_option maxRecDepth 100000 in
theorem impl_UsesOf.calls (k : Nat) (A0 : Option Addr) (c0 : Nat) (l0 : List (S69)) (a1 : Int) (r1 : List Int) (r2 : Bool) (w : World) (hr0 : Kd.C k69 w A0 l0.length l0) (hc0 : l0.length ≤ c0) (h : impl_UsesOf.f k l0 a1 = some (r1, r2)) (hT_ : U8Tabs_ w) :
  Calls Tryd.prog 50 #[.slice A0 l0.length c0, .int .i64 a1] w fun e w' => ∃ v0_ : Value, e = .returned (.tuple #[v0_, .bool r2]) ∧ Kd.R (Kd.int .i64) 3 w' w.heap.size (fun _ => True) v0_ r1 ∧ Below w.heap.size w w' := by
 have hu69 := Tryd.underlying69
 have HR0 := Aside0.mk hr0
 have HC0 := Aside0.mk hc0
 clear hr0 hc0
 have HB := Aside0.mk (Below.refl w.heap.size w)
 have H : ((impl_GoodNodes.f k l0).bind fun t295 => (if t295 = true then ((impl_isElement.f l0 a1).bind fun t296 => (impl_UsesOf.j0 k l0 a1 (!t296))) else (impl_UsesOf.j0 k l0 a1 true))) = some (r1, r2) := h
 clear h
 have HC3 := Aside0.mk H
 clear H
 go_enter Tryd.func50, Tryd.ntmps50
 go_upto_region 1 with (fail)
 go_cut [18] (fun v18 wc => ∃ (kq : Nat) (x18_2 : Bool), v18 = .bool x18_2 ∧ Aside0 (impl_UsesOf.j0 kq l0 a1 x18_2 = some (r1, r2)) ∧ Aside0 (kq ≤ k) ∧ Aside0 (Below w.heap.size w wc))
 case first =>
  have H := HC3.out
  clear HC3
  replace H := Option.bind_eq_some_iff.mp H
  obtain ⟨t295, A40, H⟩ := H
  replace H : (if t295 = true then ((impl_isElement.f l0 a1).bind fun t296 => (impl_UsesOf.j0 k l0 a1 (!t296))) else (impl_UsesOf.j0 k l0 a1 true)) = some (r1, r2) := H
  have A4 := Aside0.mk A40
  clear A40
  by_cases c5 : t295 = true
  ·subst c5
   have H1 : ((impl_isElement.f l0 a1).bind fun t296 => (impl_UsesOf.j0 k l0 a1 (!t296))) = some (r1, r2) := by rw [if_pos rfl] at H; exact H
   clear H
   have H := H1
   clear H1
   replace H := Option.bind_eq_some_iff.mp H
   obtain ⟨t296, A60, H⟩ := H
   replace H : (impl_UsesOf.j0 k l0 a1 (!t296)) = some (r1, r2) := H
   have A6 := Aside0.mk A60
   clear A60
   have H' := Aside0.mk H
   clear H
   go_wp2_with (first | ((with_reducible refine gate_callee (f := 43) rfl ?_); refine goesL_ (some 11) rfl rfl Tryd.func43 (by kernel_rfl) rfl #[.slice A0 l0.length c0] rfl au_ ?_; (with_reducible refine (impl_GoodNodes.calls k _ _ l0 true _ ?side1 ?side2 A4.out ?hT_).mono ?_); (case hT_ => exact utf8_keep_ hT_ bel_); (case side1 => exact cs_ (Kd.C_below HR0.out HB.out)); (case side2 => exact HC0.out); rintro e w7 ⟨rfl, hb⟩; refine ⟨_, rfl, ?_⟩; have n0_ := Aside0.mk (below_step bel_ hb); clear HB; have HB := n0_; clear n0_; (try clear hb);(try clear hb2);(try clear hk);(try clear hi)) | (go_at_call 44; (with_reducible refine (impl_isElement.calls _ _ l0 a1 t296 _ ?side1 ?side2 A6.out).mono ?_); (case side1 => exact cs_ (Kd.C_below HR0.out HB.out)); (case side2 => exact HC0.out); rintro e w' ⟨rfl, ⟨nd, rfl⟩⟩))
   go_meet
   case rel => exact ⟨_, (!t296), sv_, H', ⟨by first | omega | exact Nat.le_refl _⟩, ⟨bel_⟩⟩
  ·replace c5 := Bool.eq_false_iff.mpr c5
   subst c5
   have H1 : (impl_UsesOf.j0 k l0 a1 true) = some (r1, r2) := by rw [if_neg (show ¬ (false = true) by decide)] at H; exact H
   clear H
   have H := H1
   clear H1
   have H' := Aside0.mk H
   clear H
   go_wp2_with (first | ((with_reducible refine gate_callee (f := 43) rfl ?_); refine goesL_ (some 11) rfl rfl Tryd.func43 (by kernel_rfl) rfl #[.slice A0 l0.length c0] rfl au_ ?_; (with_reducible refine (impl_GoodNodes.calls k _ _ l0 false _ ?side1 ?side2 A4.out ?hT_).mono ?_); (case hT_ => exact utf8_keep_ hT_ bel_); (case side1 => exact cs_ (Kd.C_below HR0.out HB.out)); (case side2 => exact HC0.out); rintro e w8 ⟨rfl, hb⟩; refine ⟨_, rfl, ?_⟩; have n0_ := Aside0.mk (below_step bel_ hb); clear HB; have HB := n0_; clear n0_; (try clear hb);(try clear hb2);(try clear hk);(try clear hi)))
   go_meet
   case rel => exact ⟨_, (true), sv_, H', ⟨by first | omega | exact Nat.le_refl _⟩, ⟨bel_⟩⟩
 case rest =>
  clear HC3
  (try clear p2);(try clear c4);(try clear c5)
  obtain ⟨kq, x18_2, rfl, HA, HJ2, HB⟩ := hcut
  cases kq with
  | zero => exact absurd HA.out (by simp [impl_UsesOf.j0])
  | succ kj2 =>
   have H := HA.out
   clear HA
   simp only [impl_UsesOf.j0] at H
   by_cases c9 : x18_2 = true
   ·subst c9
    have H1 : (some (([] : List Int), false)) = some (r1, r2) := by rw [if_pos rfl] at H; exact H
    clear H
    have H := H1
    clear H1
    simp only [Option.some.injEq, Prod.mk.injEq] at H
    obtain ⟨rfl, rfl⟩ := H
    go_wp2
    go_ret2
    exact ⟨_, er_, by first | exact Kd.R_nil _ _ _ _ _ | exact Kd.N_nil _ _ _ _ _ | exact Kd.V_nil _ _ _ _ _ | exact Kd.Q_nil _ _ _ _ _ | exact Kd.S_nil _ _ _ _ _, bel_⟩
   ·replace c9 := Bool.eq_false_iff.mpr c9
    subst c9
    have H1 : (impl_UsesOf.l0 kj2 l0 a1 (([] : List Int)) l0 (l0.length : Int) 0) = some (r1, r2) := by rw [if_neg (show ¬ (false = true) by decide)] at H; exact H
    clear H
    have H := H1
    clear H1
    obtain ⟨y297, hy297⟩ : ∃ y_ : List Int, y_ = (([] : List Int)) := ⟨_, rfl⟩
    replace H : (impl_UsesOf.l0 kj2 l0 a1 y297 l0 (l0.length : Int) 0) = some (r1, r2) := by first | (rw [hy297]; with_reducible exact H) | (have H2_ := (Option.bind_some _ _).symm.trans H; rw [hy297]; with_reducible exact H2_) | (have H2_ := (Option.bind_some _ _).symm.trans H; with_reducible exact H2_) | with_reducible exact H | (rw [hy297]; exact H) | exact H
    have Ny297 := Aside0.mk hy297
    clear hy297
    have H' := Aside0.mk H
    clear H
    go_wp2_with (first | ((with_reducible refine gate_dst (N := 19) rfl ?_); refine Kd.R_lit (Kd.int .i64) _ 3 ?hg (N := 19) ?hd (xs := ([] : List Int)) (inner := []) (ok := fun _ => True) (okp := fun _ => True) ?hr ?hp (fun _ hk => hk) trivial (Below.refl _ _) (Nat.le_refl _) (by simp) ?_; (case hd => rfl); (case hg => rfl); (case hr => first | (go_simp; done) | (go_simp; rfl)); (case hp => exact (Reps.none _ _)); intro v298 w10 ho11 hb hg_ hnew_; clear hg_ hnew_; (first | rw [← Ny297.out] at ho11 | (simp only [Int.reduceToNat] at ho11; rw [← Ny297.out] at ho11)); have n0_ := Aside0.mk (Kd.R_lower ho11 (below_size bel_)); have n1_ := Aside0.mk (below_step bel_ hb); clear HB; have HO299 := n0_; have HB := n1_; clear n0_ n1_; clear hb ho11))
    go_loopg [6, 22] kj2 (fun kq v6 v22 w' => ∃ (x6_2 : List Int) (x22_2 : Int), v22 = .int .i64 x22_2 ∧ Aside0 (impl_UsesOf.l0 kq l0 a1 x6_2 l0 (l0.length : Int) x22_2 = some (r1, r2)) ∧ Aside0 (kq ≤ kj2) ∧ Aside0 (Kd.R (Kd.int .i64) 3 w' w.heap.size (fun _ => True) v6 x6_2) ∧ Aside0 (Below w.heap.size w w'))
    case atStart => exact ⟨(y297), (0), sv_, H', ⟨Nat.le_refl _⟩, ⟨by (with_reducible repeat (first | apply Kd.R_alloc | apply Kd.R_drewN | apply Kd.R_drew)); exact HO299.out⟩, ⟨bel_⟩⟩
    case round =>
     clear H'
     (try clear p2);(try clear c4);(try clear c5);(try clear c9);(try clear p2)
     obtain ⟨x6_2, x22_2, rfl, HA, HK2, HO_6, HB⟩ := hrel
     cases gk with
     | zero => exact absurd HA.out (by simp [impl_UsesOf.l0])
     | succ k2 =>
      have H := HA.out
      clear HA
      simp only [impl_UsesOf.l0] at H
      by_cases c12 : x22_2 < (l0.length : Int)
      ·rw [if_pos c12] at H
       have c12b0 : decide (x22_2 < (l0.length : Int)) = true := decide_eq_true c12
       clear c12
       by_cases c13 : 0 ≤ x22_2
       ·rw [if_pos c13] at H
        have c13b0 : decide (0 ≤ x22_2) = true := decide_eq_true c13
        clear c13
        by_cases c14 : x22_2 < (l0.length : Int)
        ·rw [if_pos c14] at H
         have c14b0 : decide (x22_2 < (l0.length : Int)) = true := decide_eq_true c14
         clear c14
         have HC15 := Aside0.mk H
         clear H
         have p301 : 0 ≤ (x22_2 : Int) := of_decide_eq_true am_
         have q301 : x22_2 < (l0.length : Int) := of_decide_eq_true am_
         obtain ⟨ad301, A301_2, c301_2, e301, hx301_0, hx301_1, hx301_2, hx301_3, hl301_2, hi301_2⟩ := at_T69 HR0.out x22_2 p301 q301
         cases e301
         replace hx301_0 := pw_cell_below HB.out hx301_0
         replace hx301_1 := pw_cell_below HB.out hx301_1
         replace hx301_2 := pw_cell_below HB.out hx301_2
         replace hx301_3 := pw_cell_below HB.out hx301_3
         have HR301_2 := Aside0.mk hi301_2
         have HC301_2 := Aside0.mk hl301_2
         clear hi301_2 hl301_2
         replace p301 := eq_true p301
         replace q301 := eq_true q301
         go_upto_region 7 with (first | ((with_reducible refine gate_dst (N := 8) rfl ?_); refine box_event ?hg (N := 8) ?hd (cs := #[.string (⟨#[]⟩ : ByteArray), .int .i64 0, .slice none 0 0, .string (⟨#[]⟩ : ByteArray)]) (t := 69) ?hr ?_; (case hd => rfl); (case hg => rfl); (case hr => first | (go_simp; done) | (go_simp; rfl)); intro gb302 hg w16 hbox hb; have n0_ := Aside0.mk (Kd.R_below (kdR_ HO_6.out) hb); have n1_ := Aside0.mk (below_step bel_ hb); have n2_ := Aside0.mk (hbox); have n3_ := Aside0.mk ((by rw [hg]; exact (below_size bel_) : w.heap.size ≤ gb302)); have n4_ := Aside0.mk ((by rw [hg]; exact (below_size bel_) : w.heap.size ≤ gb302)); clear HO_6; clear HB; have HO_6 := n0_; have HB := n1_; have BK302 := n2_; have GW302 := n3_; have GE302 := n4_; clear n0_ n1_ n2_ n3_ n4_; clear hb hbox hg; have hcz17_0 := bc4_0 BK302.out; have hcz17_1 := bc4_1 BK302.out; have hcz17_2 := bc4_2 BK302.out; have hcz17_3 := bc4_3 BK302.out; have hfz17_0 := blk_frozen BK302.out 0; have hfz17_1 := blk_frozen BK302.out 1; have hfz17_2 := blk_frozen BK302.out 2; have hfz17_3 := blk_frozen BK302.out 3))
         (try simp only [Act.put, List.setIfInBounds_toArray, List.set_cons_zero, List.set_cons_succ])
         go_cut [36] (fun v36 wc => ∃ (kq : Nat) (x36_14 : Bool), v36 = .bool x36_14 ∧ Aside0 (impl_UsesOf.j2 kq l0 a1 x6_2 l0 (l0.length : Int) x22_2 x36_14 ((rd_T69 l0 x22_2).f0) ((rd_T69 l0 x22_2).f1) ((rd_T69 l0 x22_2).f2) ((rd_T69 l0 x22_2).f3) = some (r1, r2)) ∧ Aside0 (kq ≤ k2) ∧ Aside0 (Kd.R (Kd.int .i64) 3 wc w.heap.size (fun _ => True) u6 x6_2) ∧ Aside0 (wc.heap[gb302]? = some (.cells #[.string ((rd_T69 l0 x22_2).f0), .int .i64 ((rd_T69 l0 x22_2).f1), (.slice A301_2 ((rd_T69 l0 x22_2).f2).length c301_2), .string ((rd_T69 l0 x22_2).f3)] 69 (0, 0))) ∧ Aside0 (Below w.heap.size w wc))
         case first =>
          have H := HC15.out
          clear HC15
          by_cases c18 : ((rd_T69 l0 x22_2).f0).toList = ([117, 115, 101] : List UInt8)
          ·rw [if_pos c18] at H
           have c18b0 : (((rd_T69 l0 x22_2).f0).toList == ([117, 115, 101] : List UInt8)) = true := beq_iff_eq.mpr c18
           have c18b1 : (((rd_T69 l0 x22_2).f0).toList != ([117, 115, 101] : List UInt8)) = false := bne_eq_false_iff_eq.mpr c18
           clear c18
           (first | rw [c18b0] | (simp only [i64_w, i32_w]; rw [c18b0]) | skip)
           replace H := Option.bind_eq_some_iff.mp H
           obtain ⟨t303, A190, H⟩ := H
           replace H : (impl_UsesOf.j2 k2 l0 a1 x6_2 l0 (l0.length : Int) x22_2 (!t303) ((rd_T69 l0 x22_2).f0) ((rd_T69 l0 x22_2).f1) ((rd_T69 l0 x22_2).f2) ((rd_T69 l0 x22_2).f3)) = some (r1, r2) := H
           have A19 := Aside0.mk A190
           clear A190
           have H' := Aside0.mk H
           clear H
           have hcz20_0 := bc4_0 BK302.out
           have hcz20_1 := bc4_1 BK302.out
           have hcz20_2 := bc4_2 BK302.out
           have hcz20_3 := bc4_3 BK302.out
           have hfz20_0 := blk_frozen BK302.out 0
           have hfz20_1 := blk_frozen BK302.out 1
           have hfz20_2 := blk_frozen BK302.out 2
           have hfz20_3 := blk_frozen BK302.out 3
           go_wp2_with (first | (go_at_call 86; (with_reducible refine (impl_isAround.calls k2 _ _ l0 a1 x22_2 t303 _ ?side1 ?side2 A19.out).mono ?_); (case side1 => exact Kd.C_below HR0.out bes_); (case side2 => exact HC0.out); rintro e w' ⟨rfl, ⟨nd, rfl⟩⟩))
           go_meet
           case rel => exact ⟨_, (!t303), sv_, H', ⟨by have := HJ2.out; have := HK2.out; first | omega | exact Nat.le_refl _⟩, ⟨by (with_reducible repeat (first | apply Kd.R_alloc | apply Kd.R_drewN | apply Kd.R_drew)); exact Kd.R_mono (Kd.R_far (p := ⟨gb302, 3, none⟩) (Kd.R_far (p := ⟨gb302, 2, none⟩) (Kd.R_far (p := ⟨gb302, 1, none⟩) (Kd.R_far (p := ⟨gb302, 0, none⟩) (Kd.R_types HO_6.out BK302.out (by decide)) (fun _ hk => hk.2) (.string ((rd_T69 l0 x22_2).f0))) (fun _ hk => hk.2) (.int .i64 ((rd_T69 l0 x22_2).f1))) (fun _ hk => hk.2) (.slice A301_2 ((rd_T69 l0 x22_2).f2).length c301_2)) (fun _ hk => hk.2) (.string ((rd_T69 l0 x22_2).f3))) (fun _ hk => trivial)⟩, ⟨by (with_reducible repeat (first | refine blk_drewN ?_ _ | refine blk_drew ?_ | refine blk_alloc ?_ _)); refine blk_put (cs := #[.string ((rd_T69 l0 x22_2).f0), .int .i64 ((rd_T69 l0 x22_2).f1), .slice A301_2 ((rd_T69 l0 x22_2).f2).length c301_2, .string (⟨#[]⟩ : ByteArray)]) ?_ 3 _ rfl; (with_reducible repeat (first | refine blk_drewN ?_ _ | refine blk_drew ?_ | refine blk_alloc ?_ _)); refine blk_put (cs := #[.string ((rd_T69 l0 x22_2).f0), .int .i64 ((rd_T69 l0 x22_2).f1), .slice none 0 0, .string (⟨#[]⟩ : ByteArray)]) ?_ 2 _ rfl; (with_reducible repeat (first | refine blk_drewN ?_ _ | refine blk_drew ?_ | refine blk_alloc ?_ _)); refine blk_put (cs := #[.string ((rd_T69 l0 x22_2).f0), .int .i64 0, .slice none 0 0, .string (⟨#[]⟩ : ByteArray)]) ?_ 1 _ rfl; (with_reducible repeat (first | refine blk_drewN ?_ _ | refine blk_drew ?_ | refine blk_alloc ?_ _)); refine blk_put (cs := #[.string (⟨#[]⟩ : ByteArray), .int .i64 0, .slice none 0 0, .string (⟨#[]⟩ : ByteArray)]) ?_ 0 _ rfl; (with_reducible repeat (first | refine blk_drewN ?_ _ | refine blk_drew ?_ | refine blk_alloc ?_ _)); exact BK302.out⟩, ⟨bes_⟩⟩
          ·rw [if_neg c18] at H
           have c18b0 : (((rd_T69 l0 x22_2).f0).toList == ([117, 115, 101] : List UInt8)) = false := beq_eq_false_iff_ne.mpr c18
           have c18b1 : (((rd_T69 l0 x22_2).f0).toList != ([117, 115, 101] : List UInt8)) = true := bne_iff_ne.mpr c18
           (first | rw [c18b0] | (simp only [i64_w, i32_w]; rw [c18b0]) | skip)
           have H' := Aside0.mk H
           clear H
           have hcz21_0 := bc4_0 BK302.out
           have hcz21_1 := bc4_1 BK302.out
           have hcz21_2 := bc4_2 BK302.out
           have hcz21_3 := bc4_3 BK302.out
           have hfz21_0 := blk_frozen BK302.out 0
           have hfz21_1 := blk_frozen BK302.out 1
           have hfz21_2 := blk_frozen BK302.out 2
           have hfz21_3 := blk_frozen BK302.out 3
           go_wp2
           go_meet
           case rel => exact ⟨_, (true), sv_, H', ⟨by have := HJ2.out; have := HK2.out; first | omega | exact Nat.le_refl _⟩, ⟨by (with_reducible repeat (first | apply Kd.R_alloc | apply Kd.R_drewN | apply Kd.R_drew)); exact Kd.R_mono (Kd.R_far (p := ⟨gb302, 3, none⟩) (Kd.R_far (p := ⟨gb302, 2, none⟩) (Kd.R_far (p := ⟨gb302, 1, none⟩) (Kd.R_far (p := ⟨gb302, 0, none⟩) (Kd.R_types HO_6.out BK302.out (by decide)) (fun _ hk => hk.2) (.string ((rd_T69 l0 x22_2).f0))) (fun _ hk => hk.2) (.int .i64 ((rd_T69 l0 x22_2).f1))) (fun _ hk => hk.2) (.slice A301_2 ((rd_T69 l0 x22_2).f2).length c301_2)) (fun _ hk => hk.2) (.string ((rd_T69 l0 x22_2).f3))) (fun _ hk => trivial)⟩, ⟨by (with_reducible repeat (first | refine blk_drewN ?_ _ | refine blk_drew ?_ | refine blk_alloc ?_ _)); refine blk_put (cs := #[.string ((rd_T69 l0 x22_2).f0), .int .i64 ((rd_T69 l0 x22_2).f1), .slice A301_2 ((rd_T69 l0 x22_2).f2).length c301_2, .string (⟨#[]⟩ : ByteArray)]) ?_ 3 _ rfl; (with_reducible repeat (first | refine blk_drewN ?_ _ | refine blk_drew ?_ | refine blk_alloc ?_ _)); refine blk_put (cs := #[.string ((rd_T69 l0 x22_2).f0), .int .i64 ((rd_T69 l0 x22_2).f1), .slice none 0 0, .string (⟨#[]⟩ : ByteArray)]) ?_ 2 _ rfl; (with_reducible repeat (first | refine blk_drewN ?_ _ | refine blk_drew ?_ | refine blk_alloc ?_ _)); refine blk_put (cs := #[.string ((rd_T69 l0 x22_2).f0), .int .i64 0, .slice none 0 0, .string (⟨#[]⟩ : ByteArray)]) ?_ 1 _ rfl; (with_reducible repeat (first | refine blk_drewN ?_ _ | refine blk_drew ?_ | refine blk_alloc ?_ _)); refine blk_put (cs := #[.string (⟨#[]⟩ : ByteArray), .int .i64 0, .slice none 0 0, .string (⟨#[]⟩ : ByteArray)]) ?_ 0 _ rfl; (with_reducible repeat (first | refine blk_drewN ?_ _ | refine blk_drew ?_ | refine blk_alloc ?_ _)); exact BK302.out⟩, ⟨bes_⟩⟩
         case rest =>
          clear HC15
          (try clear c1);(try clear p2);(try clear c3);(try clear p3);(try clear q3);(try clear hx3);(try clear c4);(try clear c5);(try clear c9);(try clear c12);(try clear c12b0);(try clear c13);(try clear c13b0);(try clear c14);(try clear c14b0);(try clear c18);(try clear c18b0 c18b1);(try clear hcz17_0 hcz17_1 hcz17_2 hcz17_3);(try clear hcz20_0 hcz20_1 hcz20_2 hcz20_3);(try clear hcz21_0 hcz21_1 hcz21_2 hcz21_3);(try clear hfz17_0 hfz17_1 hfz17_2 hfz17_3);(try clear hfz20_0 hfz20_1 hfz20_2 hfz20_3);(try clear hfz21_0 hfz21_1 hfz21_2 hfz21_3);(try clear hx301_0);(try clear hx301_1);(try clear hx301_2);(try clear hx301_3);(try clear p2);(try clear p301);(try clear q301)
          obtain ⟨kq, x36_14, rfl, HA, HJ14, HO_6, BK302, HB⟩ := hcut
          cases kq with
          | zero => exact absurd HA.out (by simp [impl_UsesOf.j2])
          | succ kj14 =>
           have H := HA.out
           clear HA
           simp only [impl_UsesOf.j2] at H
           by_cases c22 : x36_14 = true
           ·subst c22
            have H1 : (impl_UsesOf.l0 kj14 l0 a1 x6_2 l0 (l0.length : Int) (wrap64 (x22_2 + 1))) = some (r1, r2) := by rw [if_pos rfl] at H; exact H
            clear H
            have H := H1
            clear H1
            have H' := Aside0.mk H
            clear H
            go_wp2
            go_roundg kj14
            case measure => have := HJ2.out; have := HK2.out; have := HJ14.out; omega
            case rel => exact ⟨(x6_2), (wrap64 (x22_2 + 1)), sv_, H', ⟨by have := HJ2.out; have := HK2.out; have := HJ14.out; omega⟩, ⟨by (with_reducible repeat (first | apply Kd.R_alloc | apply Kd.R_drewN | apply Kd.R_drew)); exact HO_6.out⟩, ⟨bes_⟩⟩
           ·replace c22 := Bool.eq_false_iff.mpr c22
            subst c22
            have H1 : ((impl_HrefOf.f kj14 ((rd_T69 l0 x22_2).f0) ((rd_T69 l0 x22_2).f1) ((rd_T69 l0 x22_2).f2) ((rd_T69 l0 x22_2).f3)).bind fun t304 => ((impl_NodeOf.f kj14 l0 t304).bind fun t305 => (if t305 ≥ 0 then ((slices_Contains_int_int.f kj14 x6_2 t305).bind fun t306 => (if t306 = true then (impl_UsesOf.l0 kj14 l0 a1 x6_2 l0 (l0.length : Int) (wrap64 (x22_2 + 1))) else (if x6_2.length < 17592186044416 then (impl_UsesOf.l0 kj14 l0 a1 (x6_2 ++ [t305]) l0 (l0.length : Int) (wrap64 (x22_2 + 1))) else (none)))) else (impl_UsesOf.l0 kj14 l0 a1 x6_2 l0 (l0.length : Int) (wrap64 (x22_2 + 1)))))) = some (r1, r2) := by rw [if_neg (show ¬ (false = true) by decide)] at H; exact H
            clear H
            have H := H1
            clear H1
            replace H := Option.bind_eq_some_iff.mp H
            obtain ⟨t304, A230, H⟩ := H
            replace H : ((impl_NodeOf.f kj14 l0 t304).bind fun t305 => (if t305 ≥ 0 then ((slices_Contains_int_int.f kj14 x6_2 t305).bind fun t306 => (if t306 = true then (impl_UsesOf.l0 kj14 l0 a1 x6_2 l0 (l0.length : Int) (wrap64 (x22_2 + 1))) else (if x6_2.length < 17592186044416 then (impl_UsesOf.l0 kj14 l0 a1 (x6_2 ++ [t305]) l0 (l0.length : Int) (wrap64 (x22_2 + 1))) else (none)))) else (impl_UsesOf.l0 kj14 l0 a1 x6_2 l0 (l0.length : Int) (wrap64 (x22_2 + 1))))) = some (r1, r2) := H
            have A23 := Aside0.mk A230
            clear A230
            replace H := Option.bind_eq_some_iff.mp H
            obtain ⟨t305, A240, H⟩ := H
            replace H : (if t305 ≥ 0 then ((slices_Contains_int_int.f kj14 x6_2 t305).bind fun t306 => (if t306 = true then (impl_UsesOf.l0 kj14 l0 a1 x6_2 l0 (l0.length : Int) (wrap64 (x22_2 + 1))) else (if x6_2.length < 17592186044416 then (impl_UsesOf.l0 kj14 l0 a1 (x6_2 ++ [t305]) l0 (l0.length : Int) (wrap64 (x22_2 + 1))) else (none)))) else (impl_UsesOf.l0 kj14 l0 a1 x6_2 l0 (l0.length : Int) (wrap64 (x22_2 + 1)))) = some (r1, r2) := H
            have A24 := Aside0.mk A240
            clear A240
            by_cases c25 : t305 ≥ 0
            ·rw [if_pos c25] at H
             have c25b0 : decide (0 ≤ t305) = true := decide_eq_true c25
             clear c25
             replace H := Option.bind_eq_some_iff.mp H
             obtain ⟨t306, A260, H⟩ := H
             replace H : (if t306 = true then (impl_UsesOf.l0 kj14 l0 a1 x6_2 l0 (l0.length : Int) (wrap64 (x22_2 + 1))) else (if x6_2.length < 17592186044416 then (impl_UsesOf.l0 kj14 l0 a1 (x6_2 ++ [t305]) l0 (l0.length : Int) (wrap64 (x22_2 + 1))) else (none))) = some (r1, r2) := H
             have A26 := Aside0.mk A260
             clear A260
             by_cases c27 : t306 = true
             ·subst c27
              have H1 : (impl_UsesOf.l0 kj14 l0 a1 x6_2 l0 (l0.length : Int) (wrap64 (x22_2 + 1))) = some (r1, r2) := by rw [if_pos rfl] at H; exact H
              clear H
              have H := H1
              clear H1
              have H' := Aside0.mk H
              clear H
              have hcz28_0 := bc4_0 BK302.out
              have hcz28_1 := bc4_1 BK302.out
              have hcz28_2 := bc4_2 BK302.out
              have hcz28_3 := bc4_3 BK302.out
              have hfz28_0 := blk_frozen BK302.out 0
              have hfz28_1 := blk_frozen BK302.out 1
              have hfz28_2 := blk_frozen BK302.out 2
              have hfz28_3 := blk_frozen BK302.out 3
              go_wp2_with (first | ((with_reducible refine gate_callee (f := 97) rfl ?_); refine goesL_ (some 39) rfl rfl Tryd.func97 (by kernel_rfl) rfl #[.agg #[.string ((rd_T69 l0 x22_2).f0), .int .i64 ((rd_T69 l0 x22_2).f1), .slice A301_2 ((rd_T69 l0 x22_2).f2).length c301_2, .string ((rd_T69 l0 x22_2).f3)]] rfl au_ ?_; (with_reducible refine (impl_HrefOf.calls kj14 ((rd_T69 l0 x22_2).f0) ((rd_T69 l0 x22_2).f1) _ _ ((rd_T69 l0 x22_2).f2) ((rd_T69 l0 x22_2).f3) t304 _ ?side1 ?side2 A23.out).mono ?_); (case side1 => exact cs_ (Kd.C_below HR301_2.out HB.out)); (case side2 => exact HC301_2.out); rintro e w29 ⟨rfl, hb⟩; refine ⟨_, rfl, ?_⟩; have n0_ := Aside0.mk (Kd.R_below (kdR_ HO_6.out) hb); have n1_ := Aside0.mk (blk_below (g := gb302) (o := .cells #[.string ((rd_T69 l0 x22_2).f0), .int .i64 ((rd_T69 l0 x22_2).f1), .slice A301_2 ((rd_T69 l0 x22_2).f2).length c301_2, .string ((rd_T69 l0 x22_2).f3)] 69 (0, 0)) (bk_ BK302.out) hb); have n2_ := Aside0.mk (below_step bes_ hb); clear HO_6; clear BK302; clear HB; have HO_6 := n0_; have BK302 := n1_; have HB := n2_; clear n0_ n1_ n2_; (try clear hb);(try clear hb2);(try clear hk);(try clear hi)) | ((with_reducible refine gate_callee (f := 96) rfl ?_); refine goesL_ (some 40) rfl rfl Tryd.func96 (by kernel_rfl) rfl #[.slice (some ad301) l0.length c0, .string t304] rfl au_ ?_; (with_reducible refine (impl_NodeOf.calls kj14 _ _ l0 t304 t305 _ ?side1 ?side2 A24.out ?hT_).mono ?_); (case hT_ => exact utf8_keep_ hT_ bes_); (case side1 => exact cs_ (Kd.C_below HR0.out HB.out)); (case side2 => exact HC0.out); rintro e w30 ⟨rfl, hb⟩; refine ⟨_, rfl, ?_⟩; have n0_ := Aside0.mk (Kd.R_below (kdR_ HO_6.out) hb); have n1_ := Aside0.mk (blk_below (g := gb302) (o := .cells #[.string ((rd_T69 l0 x22_2).f0), .int .i64 ((rd_T69 l0 x22_2).f1), .slice A301_2 ((rd_T69 l0 x22_2).f2).length c301_2, .string ((rd_T69 l0 x22_2).f3)] 69 (0, 0)) (bk_ BK302.out) hb); have n2_ := Aside0.mk (below_step bes_ hb); clear HO_6; clear BK302; clear HB; have HO_6 := n0_; have BK302 := n1_; have HB := n2_; clear n0_ n1_ n2_; (try clear hb);(try clear hb2);(try clear hk);(try clear hi); obtain ⟨Ao31, co31, eo31⟩ := Kd.R_slice HO_6.out; subst eo31) | (go_at_call 98; (with_reducible refine (slices_Contains_int_int.calls kj14 _ _ x6_2 t305 true _ ?side1 ?side2 A26.out).mono ?_); (case side1 => exact cs_ (Kd.R_reads' HO_6.out).2.2); (case side2 => exact (Kd.R_reads' HO_6.out).2.1); rintro e w' ⟨rfl, ⟨nd, rfl⟩⟩))
              go_roundg kj14
              case measure => have := HJ2.out; have := HK2.out; have := HJ14.out; omega
              case rel => exact ⟨(x6_2), (wrap64 (x22_2 + 1)), sv_, H', ⟨by have := HJ2.out; have := HK2.out; have := HJ14.out; omega⟩, ⟨by (with_reducible repeat (first | apply Kd.R_alloc | apply Kd.R_drewN | apply Kd.R_drew)); exact HO_6.out⟩, ⟨bes_⟩⟩
             ·replace c27 := Bool.eq_false_iff.mpr c27
              subst c27
              have H1 : (if x6_2.length < 17592186044416 then (impl_UsesOf.l0 kj14 l0 a1 (x6_2 ++ [t305]) l0 (l0.length : Int) (wrap64 (x22_2 + 1))) else (none)) = some (r1, r2) := by rw [if_neg (show ¬ (false = true) by decide)] at H; exact H
              clear H
              have H := H1
              clear H1
              by_cases c32 : x6_2.length < 17592186044416
              ·rw [if_pos c32] at H
               have LMc32 := Aside0.mk c32
               clear c32
               obtain ⟨y307, hy307⟩ : ∃ y_ : List Int, y_ = (x6_2 ++ [t305]) := ⟨_, rfl⟩
               replace H : (impl_UsesOf.l0 kj14 l0 a1 y307 l0 (l0.length : Int) (wrap64 (x22_2 + 1))) = some (r1, r2) := by first | (rw [hy307]; with_reducible exact H) | (have H2_ := (Option.bind_some _ _).symm.trans H; rw [hy307]; with_reducible exact H2_) | (have H2_ := (Option.bind_some _ _).symm.trans H; with_reducible exact H2_) | with_reducible exact H | (rw [hy307]; exact H) | exact H
               have Ny307 := Aside0.mk hy307
               clear hy307
               have H' := Aside0.mk H
               clear H
               have hcz33_0 := bc4_0 BK302.out
               have hcz33_1 := bc4_1 BK302.out
               have hcz33_2 := bc4_2 BK302.out
               have hcz33_3 := bc4_3 BK302.out
               have hfz33_0 := blk_frozen BK302.out 0
               have hfz33_1 := blk_frozen BK302.out 1
               have hfz33_2 := blk_frozen BK302.out 2
               have hfz33_3 := blk_frozen BK302.out 3
               go_wp2_with (first | ((with_reducible refine gate_callee (f := 97) rfl ?_); refine goesL_ (some 39) rfl rfl Tryd.func97 (by kernel_rfl) rfl #[.agg #[.string ((rd_T69 l0 x22_2).f0), .int .i64 ((rd_T69 l0 x22_2).f1), .slice A301_2 ((rd_T69 l0 x22_2).f2).length c301_2, .string ((rd_T69 l0 x22_2).f3)]] rfl au_ ?_; (with_reducible refine (impl_HrefOf.calls kj14 ((rd_T69 l0 x22_2).f0) ((rd_T69 l0 x22_2).f1) _ _ ((rd_T69 l0 x22_2).f2) ((rd_T69 l0 x22_2).f3) t304 _ ?side1 ?side2 A23.out).mono ?_); (case side1 => exact cs_ (Kd.C_below HR301_2.out HB.out)); (case side2 => exact HC301_2.out); rintro e w34 ⟨rfl, hb⟩; refine ⟨_, rfl, ?_⟩; have n0_ := Aside0.mk (Kd.R_below (kdR_ HO_6.out) hb); have n1_ := Aside0.mk (blk_below (g := gb302) (o := .cells #[.string ((rd_T69 l0 x22_2).f0), .int .i64 ((rd_T69 l0 x22_2).f1), .slice A301_2 ((rd_T69 l0 x22_2).f2).length c301_2, .string ((rd_T69 l0 x22_2).f3)] 69 (0, 0)) (bk_ BK302.out) hb); have n2_ := Aside0.mk (below_step bes_ hb); clear HO_6; clear BK302; clear HB; have HO_6 := n0_; have BK302 := n1_; have HB := n2_; clear n0_ n1_ n2_; (try clear hb);(try clear hb2);(try clear hk);(try clear hi)) | ((with_reducible refine gate_callee (f := 96) rfl ?_); refine goesL_ (some 40) rfl rfl Tryd.func96 (by kernel_rfl) rfl #[.slice (some ad301) l0.length c0, .string t304] rfl au_ ?_; (with_reducible refine (impl_NodeOf.calls kj14 _ _ l0 t304 t305 _ ?side1 ?side2 A24.out ?hT_).mono ?_); (case hT_ => exact utf8_keep_ hT_ bes_); (case side1 => exact cs_ (Kd.C_below HR0.out HB.out)); (case side2 => exact HC0.out); rintro e w35 ⟨rfl, hb⟩; refine ⟨_, rfl, ?_⟩; have n0_ := Aside0.mk (Kd.R_below (kdR_ HO_6.out) hb); have n1_ := Aside0.mk (blk_below (g := gb302) (o := .cells #[.string ((rd_T69 l0 x22_2).f0), .int .i64 ((rd_T69 l0 x22_2).f1), .slice A301_2 ((rd_T69 l0 x22_2).f2).length c301_2, .string ((rd_T69 l0 x22_2).f3)] 69 (0, 0)) (bk_ BK302.out) hb); have n2_ := Aside0.mk (below_step bes_ hb); clear HO_6; clear BK302; clear HB; have HO_6 := n0_; have BK302 := n1_; have HB := n2_; clear n0_ n1_ n2_; (try clear hb);(try clear hb2);(try clear hk);(try clear hi); obtain ⟨Ao36, co36, eo36⟩ := Kd.R_slice HO_6.out; subst eo36) | (go_at_call 98; (with_reducible refine (slices_Contains_int_int.calls kj14 _ _ x6_2 t305 false _ ?side1 ?side2 A26.out).mono ?_); (case side1 => exact cs_ (Kd.R_reads' HO_6.out).2.2); (case side2 => exact (Kd.R_reads' HO_6.out).2.1); rintro e w' ⟨rfl, ⟨nd, rfl⟩⟩) | ((with_reducible refine gate_builtin (b := .append) (xs := #[.tmp 49, .tmp 51]) rfl ?_); at_builtin; refine Kd.R_append (Kd.int .i64) (w0 := w) w.heap.size rfl (.tmp 49) (.tmp 51) 77 3 (.int .i64 0) 8 rfl Tryd.underlying77 info3 rfl (by decide) (by omega) (.slice Ao36 x6_2.length co36) x6_2 t305 [.int .i64 t305] (fun _ => True) (fun _ => False) rfl rfl ?aP (fun _ hk => hk.elim) ?aF ?aO ?aB ?aS ?aL ?_; (case aP => exact rfl); (case aB => exact bes_); (case aF => exact (fun _ _ => trivial)); (case aO => exact (kdR_ HO_6.out)); (case aS => exact (below_size bes_)); (case aL => have := LMc32.out; omega); intro v308 w37 ho hb hg hat; rw [← Ny307.out] at ho; have n0_ := Aside0.mk (blk_grown (g := gb302) (o := .cells #[.string ((rd_T69 l0 x22_2).f0), .int .i64 ((rd_T69 l0 x22_2).f1), .slice A301_2 ((rd_T69 l0 x22_2).f2).length c301_2, .string ((rd_T69 l0 x22_2).f3)] 69 (0, 0)) (bk_ BK302.out) hg (Kd.R_ne HO_6.out BK302.out (by decide))); have n1_ := Aside0.mk (hb); have n2_ := Aside0.mk (ho); clear BK302; clear HB; clear HO_6; have BK302 := n0_; have HB := n1_; have HO309 := n2_; clear n0_ n1_ n2_; clear ho hb hg hat))
               go_roundg kj14
               case measure => have := HJ2.out; have := HK2.out; have := HJ14.out; omega
               case rel => exact ⟨(y307), (wrap64 (x22_2 + 1)), sv_, H', ⟨by have := HJ2.out; have := HK2.out; have := HJ14.out; omega⟩, ⟨by (with_reducible repeat (first | apply Kd.R_alloc | apply Kd.R_drewN | apply Kd.R_drew)); exact HO309.out⟩, ⟨bes_⟩⟩
              ·rw [if_neg c32] at H
               exact absurd H (by simp)
            ·rw [if_neg c25] at H
             have c25b0 : decide (0 ≤ t305) = false := decide_eq_false c25
             clear c25
             have H' := Aside0.mk H
             clear H
             have hcz38_0 := bc4_0 BK302.out
             have hcz38_1 := bc4_1 BK302.out
             have hcz38_2 := bc4_2 BK302.out
             have hcz38_3 := bc4_3 BK302.out
             have hfz38_0 := blk_frozen BK302.out 0
             have hfz38_1 := blk_frozen BK302.out 1
             have hfz38_2 := blk_frozen BK302.out 2
             have hfz38_3 := blk_frozen BK302.out 3
             go_wp2_with (first | ((with_reducible refine gate_callee (f := 97) rfl ?_); refine goesL_ (some 39) rfl rfl Tryd.func97 (by kernel_rfl) rfl #[.agg #[.string ((rd_T69 l0 x22_2).f0), .int .i64 ((rd_T69 l0 x22_2).f1), .slice A301_2 ((rd_T69 l0 x22_2).f2).length c301_2, .string ((rd_T69 l0 x22_2).f3)]] rfl au_ ?_; (with_reducible refine (impl_HrefOf.calls kj14 ((rd_T69 l0 x22_2).f0) ((rd_T69 l0 x22_2).f1) _ _ ((rd_T69 l0 x22_2).f2) ((rd_T69 l0 x22_2).f3) t304 _ ?side1 ?side2 A23.out).mono ?_); (case side1 => exact cs_ (Kd.C_below HR301_2.out HB.out)); (case side2 => exact HC301_2.out); rintro e w39 ⟨rfl, hb⟩; refine ⟨_, rfl, ?_⟩; have n0_ := Aside0.mk (Kd.R_below (kdR_ HO_6.out) hb); have n1_ := Aside0.mk (blk_below (g := gb302) (o := .cells #[.string ((rd_T69 l0 x22_2).f0), .int .i64 ((rd_T69 l0 x22_2).f1), .slice A301_2 ((rd_T69 l0 x22_2).f2).length c301_2, .string ((rd_T69 l0 x22_2).f3)] 69 (0, 0)) (bk_ BK302.out) hb); have n2_ := Aside0.mk (below_step bes_ hb); clear HO_6; clear BK302; clear HB; have HO_6 := n0_; have BK302 := n1_; have HB := n2_; clear n0_ n1_ n2_; (try clear hb);(try clear hb2);(try clear hk);(try clear hi)) | ((with_reducible refine gate_callee (f := 96) rfl ?_); refine goesL_ (some 40) rfl rfl Tryd.func96 (by kernel_rfl) rfl #[.slice (some ad301) l0.length c0, .string t304] rfl au_ ?_; (with_reducible refine (impl_NodeOf.calls kj14 _ _ l0 t304 t305 _ ?side1 ?side2 A24.out ?hT_).mono ?_); (case hT_ => exact utf8_keep_ hT_ bes_); (case side1 => exact cs_ (Kd.C_below HR0.out HB.out)); (case side2 => exact HC0.out); rintro e w40 ⟨rfl, hb⟩; refine ⟨_, rfl, ?_⟩; have n0_ := Aside0.mk (Kd.R_below (kdR_ HO_6.out) hb); have n1_ := Aside0.mk (blk_below (g := gb302) (o := .cells #[.string ((rd_T69 l0 x22_2).f0), .int .i64 ((rd_T69 l0 x22_2).f1), .slice A301_2 ((rd_T69 l0 x22_2).f2).length c301_2, .string ((rd_T69 l0 x22_2).f3)] 69 (0, 0)) (bk_ BK302.out) hb); have n2_ := Aside0.mk (below_step bes_ hb); clear HO_6; clear BK302; clear HB; have HO_6 := n0_; have BK302 := n1_; have HB := n2_; clear n0_ n1_ n2_; (try clear hb);(try clear hb2);(try clear hk);(try clear hi)))
             go_roundg kj14
             case measure => have := HJ2.out; have := HK2.out; have := HJ14.out; omega
             case rel => exact ⟨(x6_2), (wrap64 (x22_2 + 1)), sv_, H', ⟨by have := HJ2.out; have := HK2.out; have := HJ14.out; omega⟩, ⟨by (with_reducible repeat (first | apply Kd.R_alloc | apply Kd.R_drewN | apply Kd.R_drew)); exact HO_6.out⟩, ⟨bes_⟩⟩
        ·rw [if_neg c14] at H
         exact absurd H (by simp)
       ·rw [if_neg c13] at H
        exact absurd H (by simp)
      ·rw [if_neg c12] at H
       have c12b0 : decide (x22_2 < (l0.length : Int)) = false := decide_eq_false c12
       clear c12
       replace H := Option.bind_eq_some_iff.mp H
       obtain ⟨t300, A410, H⟩ := H
       replace H : (some (t300, true)) = some (r1, r2) := H
       have A41 := Aside0.mk A410
       clear A410
       simp only [Option.some.injEq, Prod.mk.injEq] at H
       obtain ⟨rfl, rfl⟩ := H
       obtain ⟨Ao42, co42, eo42⟩ := Kd.R_slice HO_6.out
       subst eo42
       go_wp2_with (first | ((with_reducible refine gate_callee (f := 99) rfl ?_); refine goesL_ (some 55) rfl rfl Tryd.func99 (by kernel_rfl) rfl #[.slice Ao42 x6_2.length co42] rfl au_ ?_; (with_reducible refine (slices_Sort_int_int.calls (fun k_ => some k_ = (.slice Ao42 x6_2.length co42 : Value).ownBlock) (.slice Ao42 x6_2.length co42) x6_2 t300 w _ ?side1 ?side2 A41.out).mono ?_); (case side1 => repeat (first | (with_reducible first | exact HB.out | apply below_alloc | apply pw_below_drewN | apply below_drew1) | exact HB.out)); (case side2 => exact Kd.R_tight rfl HO_6.out); rintro e w43 ⟨rfl, hy0, hb, hkp⟩; refine ⟨_, rfl, ?_⟩; have n0_ := Aside0.mk (Kd.R_reok rfl hy0 (fun k_ e_ => HO_6.out.1 k_ e_)); have n1_ := Aside0.mk (hb); clear HO_6; clear HB; have HO_6 := n0_; have HB := n1_; clear n0_ n1_; (try clear hb);(try clear hkp);(try clear hy0)))
       go_ret2
       exact ⟨_, er_, by (with_reducible repeat (first | apply Kd.R_alloc | apply Kd.R_drewN | apply Kd.R_drew)); exact HO_6.out, bel_⟩

end Go.Proofs.YtooilehdljeepaaDoor.PFnExactHasCycle
