-- Laid by a program of this session out of the translation (its own run of the print). Lean checks it.
import Derived.Test.YtpndhkbfmgddbaaPFnExactMulAffinex0
import Derived.Test.YtpndhkbfmgddbaaPFnExactMulAffinex4
namespace Go.Proofs.Ytpndhkbfmgddbaa.PFnExactMulAffine
open Go.RowKit Go.Proofs.YtpndhkbfmgddbaaW.PrintWords Go.Proofs.YtpndhkbfmgddbaaW.PrintLast Go.Proofs.YtpndhkbfmgddbaaW.PrintMore
attribute [local go_sem] call_add64
attribute [local go_sem] max2_int min2_int max_two min_two max_three min_three max_four min_four   -- for this text's walks alone
set_option linter.unusedVariables false
set_option linter.unusedSimpArgs false

/-! ### impl_FixMul: function 11 -/
mutual
def impl_FixMul.j0 : Nat → Int → Int → Bool → Option (Int)
 | 0, _, _, _ => none
 | k + 1, x0, x1, x21 => if x21 = true then ((impl_down.f (wrap64 ((wrap64 (x0 * x1)) + 32768)) 65536).bind fun t184 => ((impl_cut.f t184 (-1099511627776) 1099511627776).bind fun t185 => (some t185))) else ((bits_Mul64.f (IntKind.u64.wrap (mx x0 (wrap64 (-x0)))) (IntKind.u64.wrap (mx x1 (wrap64 (-x1))))).bind fun bt186 => (if ((decide (x0 < 0)) != (decide (x1 < 0))) = true then (impl_FixMul.j1 k ((decide (x0 < 0)) != (decide (x1 < 0))) bt186.1 bt186.2 (32768 - 1)) else (impl_FixMul.j1 k ((decide (x0 < 0)) != (decide (x1 < 0))) bt186.1 bt186.2 32768)))
def impl_FixMul.j1 : Nat → Bool → Int → Int → Int → Option (Int)
 | 0, _, _, _, _ => none
 | k + 1, x5, x6, x7, x8 => if ((IntKind.u64.wrap (x6 + (add64c x7 x8))) / 65536) = 0 then (if x5 = true then (some (wrap64 (-(wrap64 (mn (Go.bits .or .u64 (IntKind.u64.wrap ((IntKind.u64.wrap (x6 + (add64c x7 x8))) * 281474976710656)) ((add64s x7 x8) / 65536)) 1099511627776))))) else (some (wrap64 (mn (Go.bits .or .u64 (IntKind.u64.wrap ((IntKind.u64.wrap (x6 + (add64c x7 x8))) * 281474976710656)) ((add64s x7 x8) / 65536)) 1099511627776)))) else (if x5 = true then (some (-1099511627776)) else (some 1099511627776))
end
def impl_FixMul.f (k : Nat) (a0 : Int) (a1 : Int) : Option (Int) := (impl_areFixed.f k (([a0, a1] : List Int))).bind fun t181 => (if t181 = true then ((impl_within.f a0 (-1073741824) 1073741824).bind fun t182 => (if t182 = true then ((impl_within.f a1 (-1073741824) 1073741824).bind fun t183 => (impl_FixMul.j0 k a0 a1 t183)) else (impl_FixMul.j0 k a0 a1 false))) else (some 0))
theorem impl_FixMul.mono_l : ∀ k, (∀ y0 y1 y2, LeO (impl_FixMul.j0 k y0 y1 y2) (impl_FixMul.j0 (k + 1) y0 y1 y2)) ∧ (∀ y0 y1 y2 y3, LeO (impl_FixMul.j1 k y0 y1 y2 y3) (impl_FixMul.j1 (k + 1) y0 y1 y2 y3))
 | 0 => ⟨fun _ _ _ r h => by simp [impl_FixMul.j0] at h, fun _ _ _ _ r h => by simp [impl_FixMul.j1] at h⟩
 | k + 1 => by
  obtain ⟨ih0, ih1⟩ := impl_FixMul.mono_l k
  refine ⟨?_, ?_⟩
  ·intro y0 y1 y2
   unfold impl_FixMul.j0
   repeat' first
   | (with_reducible exact ih0 _ _ _)
   | (with_reducible exact ih1 _ _ _ _)
   | (with_reducible exact impl_areFixed.mono _ _)
   | (with_reducible exact LeO.refl _)
   | (with_reducible exact LeO.none _)
   | (with_reducible refine LeO.ite ?_ ?_)
   | (with_reducible refine LeO.bind ?_ (fun _ => ?_))
   | exact ih0 _ _ _
   | exact ih1 _ _ _ _
   | exact impl_areFixed.mono _ _
   | exact LeO.none _
   | refine LeO.ite ?_ ?_
   | refine LeO.bind ?_ (fun _ => ?_)
  ·intro y0 y1 y2 y3
   unfold impl_FixMul.j1
   repeat' first
   | (with_reducible exact ih0 _ _ _)
   | (with_reducible exact ih1 _ _ _ _)
   | (with_reducible exact impl_areFixed.mono _ _)
   | (with_reducible exact LeO.refl _)
   | (with_reducible exact LeO.none _)
   | (with_reducible refine LeO.ite ?_ ?_)
   | (with_reducible refine LeO.bind ?_ (fun _ => ?_))
   | exact ih0 _ _ _
   | exact ih1 _ _ _ _
   | exact impl_areFixed.mono _ _
   | exact LeO.none _
   | refine LeO.ite ?_ ?_
   | refine LeO.bind ?_ (fun _ => ?_)
theorem impl_FixMul.mono : ∀ a0 a1 k, LeO (impl_FixMul.f k a0 a1) (impl_FixMul.f (k + 1) a0 a1) := by
 intro a0 a1 k
 obtain ⟨ih0, ih1⟩ := impl_FixMul.mono_l k
 unfold impl_FixMul.f
 repeat' first
   | (with_reducible exact ih0 _ _ _)
   | (with_reducible exact ih1 _ _ _ _)
   | (with_reducible exact impl_areFixed.mono _ _)
   | (with_reducible exact LeO.refl _)
   | (with_reducible exact LeO.none _)
   | (with_reducible refine LeO.ite ?_ ?_)
   | (with_reducible refine LeO.bind ?_ (fun _ => ?_))
   | exact ih0 _ _ _
   | exact ih1 _ _ _ _
   | exact impl_areFixed.mono _ _
   | exact LeO.none _
   | refine LeO.ite ?_ ?_
   | refine LeO.bind ?_ (fun _ => ?_)
set_option maxHeartbeats 8000000 in
set_option maxRecDepth 100000 in
theorem impl_FixMul.calls (k : Nat) (a0 : Int) (a1 : Int) (r : Int) (w : World) (h : impl_FixMul.f k a0 a1 = some r) :
  Calls Try.prog 11 #[.int .i64 a0, .int .i64 a1] w fun e w' => e = .returned (.int .i64 r) ∧ Below w.heap.size w w' := by
 have HB := Aside0.mk (Below.refl w.heap.size w)
 have H : ((impl_areFixed.f k (([a0, a1] : List Int))).bind fun t181 => (if t181 = true then ((impl_within.f a0 (-1073741824) 1073741824).bind fun t182 => (if t182 = true then ((impl_within.f a1 (-1073741824) 1073741824).bind fun t183 => (impl_FixMul.j0 k a0 a1 t183)) else (impl_FixMul.j0 k a0 a1 false))) else (some 0))) = some r := h
 clear h
 obtain ⟨y178, hy178⟩ : ∃ y_ : List Int, y_ = (([a0, a1] : List Int)) := ⟨_, rfl⟩
 replace H : ((impl_areFixed.f k y178).bind fun t181 => (if t181 = true then ((impl_within.f a0 (-1073741824) 1073741824).bind fun t182 => (if t182 = true then ((impl_within.f a1 (-1073741824) 1073741824).bind fun t183 => (impl_FixMul.j0 k a0 a1 t183)) else (impl_FixMul.j0 k a0 a1 false))) else (some 0))) = some r := by first | (rw [hy178]; with_reducible exact H) | (have H2_ := (Option.bind_some _ _).symm.trans H; rw [hy178]; with_reducible exact H2_) | (have H2_ := (Option.bind_some _ _).symm.trans H; with_reducible exact H2_) | with_reducible exact H | (rw [hy178]; exact H) | exact H
 have Ny178 := Aside0.mk hy178
 clear hy178
 replace H := Option.bind_eq_some_iff.mp H
 obtain ⟨t181, A30, H⟩ := H
 replace H : (if t181 = true then ((impl_within.f a0 (-1073741824) 1073741824).bind fun t182 => (if t182 = true then ((impl_within.f a1 (-1073741824) 1073741824).bind fun t183 => (impl_FixMul.j0 k a0 a1 t183)) else (impl_FixMul.j0 k a0 a1 false))) else (some 0)) = some r := H
 have A3 := Aside0.mk A30
 clear A30
 by_cases c4 : t181 = true
 ·subst c4
  have H1 : ((impl_within.f a0 (-1073741824) 1073741824).bind fun t182 => (if t182 = true then ((impl_within.f a1 (-1073741824) 1073741824).bind fun t183 => (impl_FixMul.j0 k a0 a1 t183)) else (impl_FixMul.j0 k a0 a1 false))) = some r := by rw [if_pos rfl] at H; exact H
  clear H
  have H := H1
  clear H1
  have HC5 := Aside0.mk H
  clear H
  go_enter Try.func11, Try.ntmps11
  go_upto_region 3 with (first | ((with_reducible refine gate_dst (N := 13) rfl ?_); refine Kd.R_lit (Kd.int .i64) _ 3 ?hg (N := 13) ?hd (xs := ([a0, a1] : List Int)) (inner := [.int .i64 a0, .int .i64 a1]) (ok := fun _ => True) (okp := fun _ => True) ?hr ?hp (fun _ hk => hk) trivial (Below.refl _ _) (Nat.le_refl _) (by simp) ?_; (case hd => rfl); (case hg => rfl); (case hr => first | (go_simp; done) | (go_simp; rfl)); (case hp => exact (Reps.one (show Kd.M (Kd.int .i64) _ _ _ a0 [.int .i64 a0] from rfl) (Reps.one (show Kd.M (Kd.int .i64) _ _ _ a1 [.int .i64 a1] from rfl) (Reps.none _ _)))); intro v179 w6 ho7 hb hg_ hnew_; clear hg_ hnew_; (first | rw [← Ny178.out] at ho7 | (simp only [Int.reduceToNat] at ho7; rw [← Ny178.out] at ho7)); have n0_ := Aside0.mk (Kd.R_lower ho7 (below_size (by repeat (first | (with_reducible first | exact HB.out | apply below_alloc | apply pw_below_drewN | apply below_drew1) | exact HB.out)))); have n1_ := Aside0.mk (below_step (by repeat (first | (with_reducible first | exact HB.out | apply below_alloc | apply pw_below_drewN | apply below_drew1) | exact HB.out)) hb); clear HB; have HO180 := n0_; have HB := n1_; clear n0_ n1_; clear hb ho7; obtain ⟨Ao8, co8, eo8⟩ := Kd.R_slice HO180.out; subst eo8) | ((with_reducible refine gate_callee (f := 15) rfl ?_); refine goesL_ (some 14) rfl rfl Try.func15 (by kernel_rfl) rfl #[.slice Ao8 y178.length co8] rfl (by (try simp only [List.map_toArray, List.map_cons, List.map_nil]); first | done | rfl | (simp only [List.length_drop, List.length_take]; rfl)) ?_; (with_reducible refine (impl_areFixed.calls k _ _ y178 true _ ?side1 ?side2 A3.out).mono ?_); (case side1 => repeat (first | exact (Kd.R_reads' HO180.out).2.2 | (with_reducible refine Kd.C_alloc ?_ _) | (with_reducible refine Kd.C_drewN ?_ _) | (with_reducible refine Kd.C_drew ?_))); (case side2 => exact (Kd.R_reads' HO180.out).2.1); rintro e w' ⟨rfl, ⟨nd, rfl⟩⟩; refine ⟨_, rfl, ?_⟩))
  (try simp only [Act.put, List.setIfInBounds_toArray, List.set_cons_zero, List.set_cons_succ])
  go_cut [21] (fun v21 wc => ∃ (kq : Nat) (x21_4 : Bool), v21 = .bool x21_4 ∧ Aside0 (impl_FixMul.j0 kq a0 a1 x21_4 = some r) ∧ Aside0 (kq ≤ k) ∧ Aside0 (Below w.heap.size w wc))
  case first =>
   have H := HC5.out
   clear HC5
   replace H := Option.bind_eq_some_iff.mp H
   obtain ⟨t182, A90, H⟩ := H
   replace H : (if t182 = true then ((impl_within.f a1 (-1073741824) 1073741824).bind fun t183 => (impl_FixMul.j0 k a0 a1 t183)) else (impl_FixMul.j0 k a0 a1 false)) = some r := H
   have A9 := Aside0.mk A90
   clear A90
   by_cases c10 : t182 = true
   ·subst c10
    have H1 : ((impl_within.f a1 (-1073741824) 1073741824).bind fun t183 => (impl_FixMul.j0 k a0 a1 t183)) = some r := by rw [if_pos rfl] at H; exact H
    clear H
    have H := H1
    clear H1
    replace H := Option.bind_eq_some_iff.mp H
    obtain ⟨t183, A110, H⟩ := H
    replace H : (impl_FixMul.j0 k a0 a1 t183) = some r := H
    have A11 := Aside0.mk A110
    clear A110
    have H' := Aside0.mk H
    clear H
    go_wp2_with (first | ((with_reducible refine gate_callee (f := 14) rfl ?_); refine goesL_ (some 17) rfl rfl Try.func14 (by kernel_rfl) rfl #[.int .i64 a0, .int .i64 (-1073741824), .int .i64 1073741824] rfl (by (try simp only [List.map_toArray, List.map_cons, List.map_nil]); first | done | rfl | (simp only [List.length_drop, List.length_take]; rfl)) ?_; (with_reducible refine (impl_within.calls a0 (-1073741824) 1073741824 true _ A9.out).mono ?_); rintro e w' ⟨rfl, ⟨nd, rfl⟩⟩; refine ⟨_, rfl, ?_⟩) | (go_at_call 14; (with_reducible refine (impl_within.calls a1 (-1073741824) 1073741824 t183 _ A11.out).mono ?_); rintro e w' ⟨rfl, ⟨nd, rfl⟩⟩))
    go_meet
    case rel => exact ⟨_, (t183), (by first | rfl | (simp; done) | (simp [*]; done) | (simp [wrap64]; done)), H', ⟨by first | omega | exact Nat.le_refl _⟩, ⟨by repeat (first | (with_reducible first | exact HB.out | apply below_alloc | apply pw_below_drewN | apply below_drew1) | exact HB.out)⟩⟩
   ·replace c10 := Bool.eq_false_iff.mpr c10
    subst c10
    have H1 : (impl_FixMul.j0 k a0 a1 false) = some r := by rw [if_neg (show ¬ (false = true) by decide)] at H; exact H
    clear H
    have H := H1
    clear H1
    have H' := Aside0.mk H
    clear H
    go_wp2_with (first | ((with_reducible refine gate_callee (f := 14) rfl ?_); refine goesL_ (some 17) rfl rfl Try.func14 (by kernel_rfl) rfl #[.int .i64 a0, .int .i64 (-1073741824), .int .i64 1073741824] rfl (by (try simp only [List.map_toArray, List.map_cons, List.map_nil]); first | done | rfl | (simp only [List.length_drop, List.length_take]; rfl)) ?_; (with_reducible refine (impl_within.calls a0 (-1073741824) 1073741824 false _ A9.out).mono ?_); rintro e w' ⟨rfl, ⟨nd, rfl⟩⟩; refine ⟨_, rfl, ?_⟩))
    go_meet
    case rel => exact ⟨_, (false), (by first | rfl | (simp; done) | (simp [*]; done) | (simp [wrap64]; done)), H', ⟨by first | omega | exact Nat.le_refl _⟩, ⟨by repeat (first | (with_reducible first | exact HB.out | apply below_alloc | apply pw_below_drewN | apply below_drew1) | exact HB.out)⟩⟩
  case rest =>
   clear HC5
   (try clear c1);(try clear p2);(try clear c4);(try clear c10);(try clear c11)
   obtain ⟨kq, x21_4, rfl, HA, HJ4, HB⟩ := hcut
   cases kq with
   | zero => exact absurd HA.out (by simp [impl_FixMul.j0])
   | succ kj4 =>
    have H := HA.out
    clear HA
    simp only [impl_FixMul.j0] at H
    by_cases c12 : x21_4 = true
    ·subst c12
     have H1 : ((impl_down.f (wrap64 ((wrap64 (a0 * a1)) + 32768)) 65536).bind fun t184 => ((impl_cut.f t184 (-1099511627776) 1099511627776).bind fun t185 => (some t185))) = some r := by rw [if_pos rfl] at H; exact H
     clear H
     have H := H1
     clear H1
     replace H := Option.bind_eq_some_iff.mp H
     obtain ⟨t184, A130, H⟩ := H
     replace H : ((impl_cut.f t184 (-1099511627776) 1099511627776).bind fun t185 => (some t185)) = some r := H
     have A13 := Aside0.mk A130
     clear A130
     replace H := Option.bind_eq_some_iff.mp H
     obtain ⟨t185, A140, H⟩ := H
     replace H : (some t185) = some r := H
     have A14 := Aside0.mk A140
     clear A140
     obtain rfl := Option.some.inj H
     go_wp2_with (first | ((with_reducible refine gate_callee (f := 17) rfl ?_); refine goesL_ (some 26) rfl rfl Try.func17 (by kernel_rfl) rfl #[.int .i64 (wrap64 ((wrap64 (a0 * a1)) + 32768)), .int .i64 65536] rfl (by (try simp only [List.map_toArray, List.map_cons, List.map_nil]); first | done | rfl | (simp only [List.length_drop, List.length_take]; rfl)) ?_; (with_reducible refine (impl_down.calls (wrap64 ((wrap64 (a0 * a1)) + 32768)) 65536 t184 _ A13.out).mono ?_); rintro e w' ⟨rfl, ⟨nd, rfl⟩⟩; refine ⟨_, rfl, ?_⟩) | ((with_reducible refine gate_callee (f := 16) rfl ?_); refine goesL_ (some 27) rfl rfl Try.func16 (by kernel_rfl) rfl #[.int .i64 t184, .int .i64 (-1099511627776), .int .i64 1099511627776] rfl (by (try simp only [List.map_toArray, List.map_cons, List.map_nil]); first | done | rfl | (simp only [List.length_drop, List.length_take]; rfl)) ?_; (with_reducible refine (impl_cut.calls t184 (-1099511627776) 1099511627776 t185 _ A14.out).mono ?_); rintro e w15 ⟨rfl, hb⟩; refine ⟨_, rfl, ?_⟩; have n0_ := Aside0.mk (below_step (by repeat (first | (with_reducible first | exact HB.out | apply below_alloc | apply pw_below_drewN | apply below_drew1) | exact HB.out)) hb); clear HB; have HB := n0_; clear n0_; (try clear hb); (try clear hb2); (try clear hk); (try clear hi)))
     go_ret
     exact ⟨by first | rfl | (simp [errW_none, errW_some] <;> rfl) | (simp [*, errW_none, errW_some] <;> rfl), by repeat (first | (with_reducible first | exact HB.out | apply below_alloc | apply pw_below_drewN | apply below_drew1) | exact HB.out)⟩
    ·replace c12 := Bool.eq_false_iff.mpr c12
     subst c12
     have H1 : ((bits_Mul64.f (IntKind.u64.wrap (mx a0 (wrap64 (-a0)))) (IntKind.u64.wrap (mx a1 (wrap64 (-a1))))).bind fun bt186 => (if ((decide (a0 < 0)) != (decide (a1 < 0))) = true then (impl_FixMul.j1 kj4 ((decide (a0 < 0)) != (decide (a1 < 0))) bt186.1 bt186.2 (32768 - 1)) else (impl_FixMul.j1 kj4 ((decide (a0 < 0)) != (decide (a1 < 0))) bt186.1 bt186.2 32768))) = some r := by rw [if_neg (show ¬ (false = true) by decide)] at H; exact H
     clear H
     have H := H1
     clear H1
     obtain ⟨ji16, hji16⟩ : ∃ j_ : Int, (mx a0 (wrap64 (-a0))) = j_ := ⟨_, rfl⟩
     replace H : ((bits_Mul64.f (IntKind.u64.wrap (ji16)) (IntKind.u64.wrap (mx a1 (wrap64 (-a1))))).bind fun bt186 => (if ((decide (a0 < 0)) != (decide (a1 < 0))) = true then (impl_FixMul.j1 kj4 ((decide (a0 < 0)) != (decide (a1 < 0))) bt186.1 bt186.2 (32768 - 1)) else (impl_FixMul.j1 kj4 ((decide (a0 < 0)) != (decide (a1 < 0))) bt186.1 bt186.2 32768))) = some r := by first | (rw [hji16] at H; exact H) | (simp only [hji16] at H ⊢; exact H)
     have hji16_ : (if a0 < (wrap64 (-a0)) then (wrap64 (-a0)) else a0) = ji16 := hji16
     obtain ⟨ji17, hji17⟩ : ∃ j_ : Int, (mx a1 (wrap64 (-a1))) = j_ := ⟨_, rfl⟩
     replace H : ((bits_Mul64.f (IntKind.u64.wrap (ji16)) (IntKind.u64.wrap (ji17))).bind fun bt186 => (if ((decide (a0 < 0)) != (decide (a1 < 0))) = true then (impl_FixMul.j1 kj4 ((decide (a0 < 0)) != (decide (a1 < 0))) bt186.1 bt186.2 (32768 - 1)) else (impl_FixMul.j1 kj4 ((decide (a0 < 0)) != (decide (a1 < 0))) bt186.1 bt186.2 32768))) = some r := by first | (rw [hji17] at H; exact H) | (simp only [hji17] at H ⊢; exact H)
     have hji17_ : (if a1 < (wrap64 (-a1)) then (wrap64 (-a1)) else a1) = ji17 := hji17
     replace H := Option.bind_eq_some_iff.mp H
     obtain ⟨⟨t186, t187⟩, A180, H⟩ := H
     replace H : (if ((decide (a0 < 0)) != (decide (a1 < 0))) = true then (impl_FixMul.j1 kj4 ((decide (a0 < 0)) != (decide (a1 < 0))) t186 t187 (32768 - 1)) else (impl_FixMul.j1 kj4 ((decide (a0 < 0)) != (decide (a1 < 0))) t186 t187 32768)) = some r := H
     have A18 := Aside0.mk A180
     clear A180
     have HC19 := Aside0.mk H
     clear H
     go_upto_if 47 with (first | ((with_reducible refine gate_callee (f := 18) rfl ?_); refine goesL_ (some 44) rfl rfl Try.func18 (by kernel_rfl) rfl #[.int .u64 (IntKind.u64.wrap (ji16)), .int .u64 (IntKind.u64.wrap (ji17))] rfl (by (try simp only [List.map_toArray, List.map_cons, List.map_nil]); first | done | (simp only [hji16, hji17]; rfl) | rfl | (simp only [List.length_drop, List.length_take]; rfl)) ?_; (with_reducible refine (bits_Mul64.calls (IntKind.u64.wrap (ji16)) (IntKind.u64.wrap (ji17)) t186 t187 _ A18.out).mono ?_); rintro e w' ⟨rfl, ⟨nd, rfl⟩⟩; refine ⟨_, rfl, ?_⟩))
     (try simp only [Act.put, List.setIfInBounds_toArray, List.set_cons_zero, List.set_cons_succ])
     go_cut [8] (fun v8 wc => ∃ (kq : Nat) (x8_18 : Int), v8 = .int .u64 x8_18 ∧ Aside0 (impl_FixMul.j1 kq ((decide (a0 < 0)) != (decide (a1 < 0))) t186 t187 x8_18 = some r) ∧ Aside0 (kq ≤ kj4) ∧ Aside0 (Below w.heap.size w wc))
     case first =>
      have H := HC19.out
      clear HC19
      by_cases c20 : ((decide (a0 < 0)) != (decide (a1 < 0))) = true
      ·rw [if_pos c20] at H
       have c20b0 : ((decide (a0 < 0)) != (decide (a1 < 0))) = true := c20
       have c20b9 : ¬ ((!((decide (a0 < 0)) == (decide (a1 < 0)))) = false) := fun h_ => by have h9_ : (!((decide (a0 < 0)) == (decide (a1 < 0)))) = true := c20b0; rw [h9_] at h_; cases h_
       (try (have c20b1 : decide ((decide (a0 < 0)) = (decide (a1 < 0))) = false := by simpa using c20))
       (try (have c20b2 : ((decide (a0 < 0)) == (decide (a1 < 0))) = false := by simpa using c20))
       (try (have c20b3 : ¬ ((decide (a0 < 0)) = (decide (a1 < 0))) := by simpa using c20))
       clear c20
       (first | rw [c20b0] | (simp only [i64_w, i32_w]; rw [c20b0]) | skip)
       have H' := Aside0.mk H
       clear H
       go_wp2
       go_meet
       case rel => exact ⟨_, (32768 - 1), (by first | rfl | (simp; done) | (simp [*]; done) | (simp [wrap64]; done)), H', ⟨by have := HJ4.out; first | omega | exact Nat.le_refl _⟩, ⟨by repeat (first | (with_reducible first | exact HB.out | apply below_alloc | apply pw_below_drewN | apply below_drew1) | exact HB.out)⟩⟩
      ·rw [if_neg c20] at H
       have c20b0 : ((decide (a0 < 0)) != (decide (a1 < 0))) = false := by simpa using c20
       have c20b9 : ¬ ((!((decide (a0 < 0)) == (decide (a1 < 0)))) = true) := fun h_ => by have h9_ : (!((decide (a0 < 0)) == (decide (a1 < 0)))) = false := c20b0; rw [h9_] at h_; cases h_
       (try (have c20b1 : decide ((decide (a0 < 0)) = (decide (a1 < 0))) = true := by simpa using c20))
       (try (have c20b2 : ((decide (a0 < 0)) == (decide (a1 < 0))) = true := by simpa using c20))
       clear c20
       (first | rw [c20b0] | (simp only [i64_w, i32_w]; rw [c20b0]) | skip)
       have H' := Aside0.mk H
       clear H
       go_wp2
       go_meet
       case rel => exact ⟨_, (32768), (by first | rfl | (simp; done) | (simp [*]; done) | (simp [wrap64]; done)), H', ⟨by have := HJ4.out; first | omega | exact Nat.le_refl _⟩, ⟨by repeat (first | (with_reducible first | exact HB.out | apply below_alloc | apply pw_below_drewN | apply below_drew1) | exact HB.out)⟩⟩
     case rest =>
      clear HC19
      (try clear c1);(try clear c2);(try clear p2);(try clear c4);(try clear p6);(try clear c10);(try clear c11);(try clear c12);(try clear c14);(try clear c15);(try clear c16);(try clear c17);(try clear c18);(try clear c20);(try clear c20b0);(try clear c20b1);(try clear c20b2);(try clear p2)
      obtain ⟨kq, x8_18, rfl, HA, HJ18, HB⟩ := hcut
      cases kq with
      | zero => exact absurd HA.out (by simp [impl_FixMul.j1])
      | succ kj18 =>
       have H := HA.out
       clear HA
       simp only [impl_FixMul.j1] at H
       by_cases c21 : ((IntKind.u64.wrap (t186 + (add64c t187 x8_18))) / 65536) = 0
       ·rw [if_pos c21] at H
        have c21b0 : (((IntKind.u64.wrap (t186 + (add64c t187 x8_18))) / 65536) == 0) = true := beq_iff_eq.mpr c21
        have c21b1 : (((IntKind.u64.wrap (t186 + (add64c t187 x8_18))) / 65536) != 0) = false := bne_eq_false_iff_eq.mpr c21
        clear c21
        obtain ⟨ji22, hji22⟩ : ∃ j_ : Int, (mn (Go.bits .or .u64 (IntKind.u64.wrap ((IntKind.u64.wrap (t186 + (add64c t187 x8_18))) * 281474976710656)) ((add64s t187 x8_18) / 65536)) 1099511627776) = j_ := ⟨_, rfl⟩
        replace H : (if ((decide (a0 < 0)) != (decide (a1 < 0))) = true then (some (wrap64 (-(wrap64 (ji22))))) else (some (wrap64 (ji22)))) = some r := by first | (rw [hji22] at H; exact H) | (simp only [hji22] at H ⊢; exact H)
        have hji22_ : (if 1099511627776 < (Go.bits .or .u64 (IntKind.u64.wrap ((IntKind.u64.wrap (t186 + (add64c t187 x8_18))) * 281474976710656)) ((add64s t187 x8_18) / 65536)) then 1099511627776 else (Go.bits .or .u64 (IntKind.u64.wrap ((IntKind.u64.wrap (t186 + (add64c t187 x8_18))) * 281474976710656)) ((add64s t187 x8_18) / 65536))) = ji22 := hji22
        by_cases c23 : ((decide (a0 < 0)) != (decide (a1 < 0))) = true
        ·rw [if_pos c23] at H
         have c23b0 : ((decide (a0 < 0)) != (decide (a1 < 0))) = true := c23
         have c23b9 : ¬ ((!((decide (a0 < 0)) == (decide (a1 < 0)))) = false) := fun h_ => by have h9_ : (!((decide (a0 < 0)) == (decide (a1 < 0)))) = true := c23b0; rw [h9_] at h_; cases h_
         (try (have c23b1 : decide ((decide (a0 < 0)) = (decide (a1 < 0))) = false := by simpa using c23))
         (try (have c23b2 : ((decide (a0 < 0)) == (decide (a1 < 0))) = false := by simpa using c23))
         (try (have c23b3 : ¬ ((decide (a0 < 0)) = (decide (a1 < 0))) := by simpa using c23))
         clear c23
         obtain rfl := Option.some.inj H
         go_wp2
         go_ret
         exact ⟨by first | rfl | (simp [errW_none, errW_some] <;> rfl) | (simp only [← hji16, ← hji17, ← hji22]; first | rfl | (simp [errW_none, errW_some] <;> rfl)) | (simp [*, errW_none, errW_some] <;> rfl), by repeat (first | (with_reducible first | exact HB.out | apply below_alloc | apply pw_below_drewN | apply below_drew1) | exact HB.out)⟩
        ·rw [if_neg c23] at H
         have c23b0 : ((decide (a0 < 0)) != (decide (a1 < 0))) = false := by simpa using c23
         have c23b9 : ¬ ((!((decide (a0 < 0)) == (decide (a1 < 0)))) = true) := fun h_ => by have h9_ : (!((decide (a0 < 0)) == (decide (a1 < 0)))) = false := c23b0; rw [h9_] at h_; cases h_
         (try (have c23b1 : decide ((decide (a0 < 0)) = (decide (a1 < 0))) = true := by simpa using c23))
         (try (have c23b2 : ((decide (a0 < 0)) == (decide (a1 < 0))) = true := by simpa using c23))
         clear c23
         obtain rfl := Option.some.inj H
         go_wp2
         go_ret
         exact ⟨by first | rfl | (simp [errW_none, errW_some] <;> rfl) | (simp only [← hji16, ← hji17, ← hji22]; first | rfl | (simp [errW_none, errW_some] <;> rfl)) | (simp [*, errW_none, errW_some] <;> rfl), by repeat (first | (with_reducible first | exact HB.out | apply below_alloc | apply pw_below_drewN | apply below_drew1) | exact HB.out)⟩
       ·rw [if_neg c21] at H
        have c21b0 : (((IntKind.u64.wrap (t186 + (add64c t187 x8_18))) / 65536) == 0) = false := beq_eq_false_iff_ne.mpr c21
        have c21b1 : (((IntKind.u64.wrap (t186 + (add64c t187 x8_18))) / 65536) != 0) = true := bne_iff_ne.mpr c21
        by_cases c24 : ((decide (a0 < 0)) != (decide (a1 < 0))) = true
        ·rw [if_pos c24] at H
         have c24b0 : ((decide (a0 < 0)) != (decide (a1 < 0))) = true := c24
         have c24b9 : ¬ ((!((decide (a0 < 0)) == (decide (a1 < 0)))) = false) := fun h_ => by have h9_ : (!((decide (a0 < 0)) == (decide (a1 < 0)))) = true := c24b0; rw [h9_] at h_; cases h_
         (try (have c24b1 : decide ((decide (a0 < 0)) = (decide (a1 < 0))) = false := by simpa using c24))
         (try (have c24b2 : ((decide (a0 < 0)) == (decide (a1 < 0))) = false := by simpa using c24))
         (try (have c24b3 : ¬ ((decide (a0 < 0)) = (decide (a1 < 0))) := by simpa using c24))
         clear c24
         obtain rfl := Option.some.inj H
         go_wp2
         go_ret
         exact ⟨by first | rfl | (simp [errW_none, errW_some] <;> rfl) | (simp only [← hji16, ← hji17]; first | rfl | (simp [errW_none, errW_some] <;> rfl)) | (simp [*, errW_none, errW_some] <;> rfl), by repeat (first | (with_reducible first | exact HB.out | apply below_alloc | apply pw_below_drewN | apply below_drew1) | exact HB.out)⟩
        ·rw [if_neg c24] at H
         have c24b0 : ((decide (a0 < 0)) != (decide (a1 < 0))) = false := by simpa using c24
         have c24b9 : ¬ ((!((decide (a0 < 0)) == (decide (a1 < 0)))) = true) := fun h_ => by have h9_ : (!((decide (a0 < 0)) == (decide (a1 < 0)))) = false := c24b0; rw [h9_] at h_; cases h_
         (try (have c24b1 : decide ((decide (a0 < 0)) = (decide (a1 < 0))) = true := by simpa using c24))
         (try (have c24b2 : ((decide (a0 < 0)) == (decide (a1 < 0))) = true := by simpa using c24))
         clear c24
         obtain rfl := Option.some.inj H
         go_wp2
         go_ret
         exact ⟨by first | rfl | (simp [errW_none, errW_some] <;> rfl) | (simp only [← hji16, ← hji17]; first | rfl | (simp [errW_none, errW_some] <;> rfl)) | (simp [*, errW_none, errW_some] <;> rfl), by repeat (first | (with_reducible first | exact HB.out | apply below_alloc | apply pw_below_drewN | apply below_drew1) | exact HB.out)⟩
 ·replace c4 := Bool.eq_false_iff.mpr c4
  subst c4
  have H1 : (some 0) = some r := by rw [if_neg (show ¬ (false = true) by decide)] at H; exact H
  clear H
  have H := H1
  clear H1
  obtain rfl := Option.some.inj H
  go_enter Try.func11, Try.ntmps11
  go_wp2_with (first | ((with_reducible refine gate_dst (N := 13) rfl ?_); refine Kd.R_lit (Kd.int .i64) _ 3 ?hg (N := 13) ?hd (xs := ([a0, a1] : List Int)) (inner := [.int .i64 a0, .int .i64 a1]) (ok := fun _ => True) (okp := fun _ => True) ?hr ?hp (fun _ hk => hk) trivial (Below.refl _ _) (Nat.le_refl _) (by simp) ?_; (case hd => rfl); (case hg => rfl); (case hr => first | (go_simp; done) | (go_simp; rfl)); (case hp => exact (Reps.one (show Kd.M (Kd.int .i64) _ _ _ a0 [.int .i64 a0] from rfl) (Reps.one (show Kd.M (Kd.int .i64) _ _ _ a1 [.int .i64 a1] from rfl) (Reps.none _ _)))); intro v179 w25 ho26 hb hg_ hnew_; clear hg_ hnew_; (first | rw [← Ny178.out] at ho26 | (simp only [Int.reduceToNat] at ho26; rw [← Ny178.out] at ho26)); have n0_ := Aside0.mk (Kd.R_lower ho26 (below_size (by repeat (first | (with_reducible first | exact HB.out | apply below_alloc | apply pw_below_drewN | apply below_drew1) | exact HB.out)))); have n1_ := Aside0.mk (below_step (by repeat (first | (with_reducible first | exact HB.out | apply below_alloc | apply pw_below_drewN | apply below_drew1) | exact HB.out)) hb); clear HB; have HO180 := n0_; have HB := n1_; clear n0_ n1_; clear hb ho26; obtain ⟨Ao27, co27, eo27⟩ := Kd.R_slice HO180.out; subst eo27) | ((with_reducible refine gate_callee (f := 15) rfl ?_); refine goesL_ (some 14) rfl rfl Try.func15 (by kernel_rfl) rfl #[.slice Ao27 y178.length co27] rfl (by (try simp only [List.map_toArray, List.map_cons, List.map_nil]); first | done | rfl | (simp only [List.length_drop, List.length_take]; rfl)) ?_; (with_reducible refine (impl_areFixed.calls k _ _ y178 false _ ?side1 ?side2 A3.out).mono ?_); (case side1 => repeat (first | exact (Kd.R_reads' HO180.out).2.2 | (with_reducible refine Kd.C_alloc ?_ _) | (with_reducible refine Kd.C_drewN ?_ _) | (with_reducible refine Kd.C_drew ?_))); (case side2 => exact (Kd.R_reads' HO180.out).2.1); rintro e w' ⟨rfl, ⟨nd, rfl⟩⟩; refine ⟨_, rfl, ?_⟩))
  go_ret
  exact ⟨by first | rfl | (simp [errW_none, errW_some] <;> rfl) | (simp [*, errW_none, errW_some] <;> rfl), by repeat (first | (with_reducible first | exact HB.out | apply below_alloc | apply pw_below_drewN | apply below_drew1) | exact HB.out)⟩

end Go.Proofs.Ytpndhkbfmgddbaa.PFnExactMulAffine
