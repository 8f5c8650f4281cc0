-- Laid by a program of this session out of the translation (its own run of the print). Lean checks it.
import Derived.Test.YtooilehdljeepaaDoorPFnExactReadSheetx0
import Derived.Test.YtooilehdljeepaaDoorPFnExactReadSheetx2
namespace Go.Proofs.YtooilehdljeepaaDoor.PFnExactReadSheet
open Go.RowKit Go.Proofs.YtooilehdljeepaaDoorW.PrintWords Go.Proofs.YtooilehdljeepaaDoorW.PrintLast Go.Proofs.YtooilehdljeepaaDoorW.PrintMore
attribute [local go_sem] max2_int min2_int max_two min_two max_three min_three max_four min_four   -- for this text's walks alone
set_option linter.unusedVariables false
set_option linter.unusedSimpArgs false

/-! ### spec_l5Part: function 150 -/
mutual
def spec_l5Part.j0 : Nat → ByteArray → Int → ByteArray → ByteArray → Option (ByteArray × ByteArray × List ByteArray × Bool)
 | 0, _, _, _, _ => none
 | k + 1, x0, x5, x139000, x139001 => if x5 < (x0.size : Int) then (if 0 ≤ x5 then (spec_l5Part.j1 k x0 x5 ((bt x0 x5) == 35) x139000 x139001) else (none)) else (spec_l5Part.j1 k x0 x5 false x139000 x139001)
def spec_l5Part.j1 : Nat → ByteArray → Int → Bool → ByteArray → ByteArray → Option (ByteArray × ByteArray × List ByteArray × Bool)
 | 0, _, _, _, _, _ => none
 | k + 1, x0, x5, x35, x139000, x139001 => if x35 = true then (if 0 ≤ (wrap64 (x5 + 1)) then (if (wrap64 (x5 + 1)) ≤ (x0.size : Int) then ((spec_l5Run.f k (x0.extract ((wrap64 (x5 + 1)) : Int).toNat x0.size)).bind fun t140 => (if t140 = 0 then (some (x139000, x139001, ([] : List ByteArray), false)) else (if (wrap64 (x5 + 1)) ≤ (wrap64 ((wrap64 (x5 + 1)) + t140)) then (if (wrap64 ((wrap64 (x5 + 1)) + t140)) ≤ (x0.size : Int) then (spec_l5Part.j2 k x0 (wrap64 (x5 + (wrap64 (1 + t140)))) x139000 (x0.extract ((wrap64 (x5 + 1)) : Int).toNat ((wrap64 ((wrap64 (x5 + 1)) + t140)) : Int).toNat)) else (none)) else (none)))) else (none)) else (none)) else (spec_l5Part.j2 k x0 x5 x139000 x139001)
def spec_l5Part.j2 : Nat → ByteArray → Int → ByteArray → ByteArray → Option (ByteArray × ByteArray × List ByteArray × Bool)
 | 0, _, _, _, _ => none
 | k + 1, x0, x5, x139000, x139001 => spec_l5Part.l0 k x0 x5 x139000 x139001 ([] : List ByteArray)
def spec_l5Part.l0 : Nat → ByteArray → Int → ByteArray → ByteArray → List ByteArray → Option (ByteArray × ByteArray × List ByteArray × Bool)
 | 0, _, _, _, _, _ => none
 | k + 1, x0, x5, x139000, x139001, x139002 => if x5 < (x0.size : Int) then (if 0 ≤ x5 then (spec_l5Part.j4 k x0 x5 ((bt x0 x5) == 46) x139000 x139001 x139002) else (none)) else (spec_l5Part.j4 k x0 x5 false x139000 x139001 x139002)
def spec_l5Part.j4 : Nat → ByteArray → Int → Bool → ByteArray → ByteArray → List ByteArray → Option (ByteArray × ByteArray × List ByteArray × Bool)
 | 0, _, _, _, _, _, _ => none
 | k + 1, x0, x5, x66, x139000, x139001, x139002 => if x66 = true then (if 0 ≤ (wrap64 (x5 + 1)) then (if (wrap64 (x5 + 1)) ≤ (x0.size : Int) then ((spec_l5Run.f k (x0.extract ((wrap64 (x5 + 1)) : Int).toNat x0.size)).bind fun t141 => (if t141 = 0 then (some (x139000, x139001, x139002, false)) else (if (x139002.length : Int) = 4 then (some (x139000, x139001, x139002, false)) else (if (wrap64 (x5 + 1)) ≤ (wrap64 ((wrap64 (x5 + 1)) + t141)) then (if (wrap64 ((wrap64 (x5 + 1)) + t141)) ≤ (x0.size : Int) then (if x139002.length < 8796093022208 then (spec_l5Part.l0 k x0 (wrap64 (x5 + (wrap64 (1 + t141)))) x139000 x139001 (x139002 ++ [x0.extract ((wrap64 (x5 + 1)) : Int).toNat ((wrap64 ((wrap64 (x5 + 1)) + t141)) : Int).toNat])) else (none)) else (none)) else (none))))) else (none)) else (none)) else (some (x139000, x139001, x139002, (x5 == (x0.size : Int))))
end
def spec_l5Part.f (k : Nat) (a0 : ByteArray) : Option (ByteArray × ByteArray × List ByteArray × Bool) := if a0.toList = ([] : List UInt8) then (some ((⟨#[]⟩ : ByteArray), (⟨#[]⟩ : ByteArray), ([] : List ByteArray), false)) else (if 0 < (a0.size : Int) then (if (bt a0 0) = 42 then (spec_l5Part.j0 k a0 1 (⟨#[42]⟩ : ByteArray) (⟨#[]⟩ : ByteArray)) else ((spec_l5Run.f k a0).bind fun t139 => (if t139 > 0 then (if 0 ≤ t139 then (if t139 ≤ (a0.size : Int) then (spec_l5Part.j0 k a0 t139 (a0.extract 0 (t139 : Int).toNat) (⟨#[]⟩ : ByteArray)) else (none)) else (none)) else (spec_l5Part.j0 k a0 0 (⟨#[]⟩ : ByteArray) (⟨#[]⟩ : ByteArray))))) else (none))
def spec_l5Part.T22 : Bool × List (List Nat × List Nat) := (true, [([], []), ([0], [0]), ([], []), ([], []), ([3], [3]), ([], []), ([5], [5]), ([], []), ([6, 7], [6, 7]), ([2, 4, 8], [2, 4, 8]), ([9], [9]), ([1, 10], [1, 10]), ([0, 1, 2, 3, 4, 5, 6, 7, 8, 9, 10, 11], []), ([12, 11, 11, 0, 1, 2, 3, 4, 5, 6, 7, 8, 9, 10, 11], [11, 12])])
def spec_l5Part.B22 : List Nat := [0, 1, 0, 0, 8, 0, 32, 0, 224, 508, 1020, 2047, 4095, 8191]
theorem spec_l5Part.tab22 : rtab .any (opsOf Tryd.f150 22) = spec_l5Part.T22 := by kernel_rfl
theorem spec_l5Part.bits22 : waitsOk spec_l5Part.T22.2 spec_l5Part.B22 = true := by kernel_rfl
set_option maxHeartbeats 8000000 in
set_option maxRecDepth 100000 in
theorem spec_l5Part.calls (k : Nat) (a0 : ByteArray) (r1 : ByteArray) (r2 : ByteArray) (r3 : List ByteArray) (r4 : Bool) (w : World) (h : spec_l5Part.f k a0 = some (r1, r2, r3, r4)) :
  Calls Tryd.prog 150 #[.string a0] w fun e w' => ∃ v2_ : Value, e = .returned (.tuple #[.agg #[.string r1, .string r2, v2_], .bool r4]) ∧ Kd.R Kd.string 9 w' w.heap.size (fun _ => True) v2_ r3 ∧ Below w.heap.size w w' := by
 have hu71 := Tryd.underlying71
 have HB := Aside0.mk (Below.refl w.heap.size w)
 have H : (if a0.toList = ([] : List UInt8) then (some ((⟨#[]⟩ : ByteArray), (⟨#[]⟩ : ByteArray), ([] : List ByteArray), false)) else (if 0 < (a0.size : Int) then (if (bt a0 0) = 42 then (spec_l5Part.j0 k a0 1 (⟨#[42]⟩ : ByteArray) (⟨#[]⟩ : ByteArray)) else ((spec_l5Run.f k a0).bind fun t139 => (if t139 > 0 then (if 0 ≤ t139 then (if t139 ≤ (a0.size : Int) then (spec_l5Part.j0 k a0 t139 (a0.extract 0 (t139 : Int).toNat) (⟨#[]⟩ : ByteArray)) else (none)) else (none)) else (spec_l5Part.j0 k a0 0 (⟨#[]⟩ : ByteArray) (⟨#[]⟩ : ByteArray))))) else (none))) = some (r1, r2, r3, r4) := h
 clear h
 by_cases c2 : a0.toList = ([] : List UInt8)
 ·rw [if_pos c2] at H
  have c2b0 : (a0.toList == ([] : List UInt8)) = true := beq_iff_eq.mpr c2
  have c2b7 : a0.toList.isEmpty = true := by rw [beq_iff_eq.mp c2b0]; rfl
  have c2b8 : ¬ (a0.toList.isEmpty = false) := fun h_ => by have h9_ := beq_iff_eq.mp c2b0; rw [h9_] at h_; cases h_
  have c2b1 : (a0.toList != ([] : List UInt8)) = false := bne_eq_false_iff_eq.mpr c2
  clear c2
  simp only [Option.some.injEq, Prod.mk.injEq] at H
  obtain ⟨rfl, rfl, rfl, rfl⟩ := H
  go_enter Tryd.func150, Tryd.ntmps150
  go_wp2_with (first | ((with_reducible refine gate_dst (N := 2) rfl ?_); (try (refine gate_guard (by rfl) ?_; dsimp only)); refine box_event ?hg (N := 2) ?hd (cs := #[.string (⟨#[]⟩ : ByteArray), .string (⟨#[]⟩ : ByteArray), .slice none 0 0]) (t := 71) ?hr ?_; (case hd => rfl); (case hg => rfl); (case hr => first | (go_simp; done) | (go_simp; rfl)); intro gb137 hg w3 hbox hb; have n0_ := Aside0.mk (below_step bel_ hb); have n1_ := Aside0.mk (hbox); have n2_ := Aside0.mk ((by rw [hg]; exact (below_size bel_) : w.heap.size ≤ gb137)); have n3_ := Aside0.mk ((by rw [hg]; exact (below_size bel_) : w.heap.size ≤ gb137)); clear HB; have HB := n0_; have BK137 := n1_; have GW137 := n2_; have GE137 := n3_; clear n0_ n1_ n2_ n3_; clear hb hbox hg) | ((with_reducible refine gate_dst (N := 4) rfl ?_); (try (refine gate_guard (by rfl) ?_; dsimp only)); refine box_event ?hg (N := 4) ?hd (cs := #[.string (⟨#[]⟩ : ByteArray), .string (⟨#[]⟩ : ByteArray), .slice none 0 0]) (t := 71) ?hr ?_; (case hd => rfl); (case hg => rfl); (case hr => first | (go_simp; done) | (go_simp; rfl)); intro gb138 hg w4 hbox hb; have n0_ := Aside0.mk (blk_below (g := gb137) (o := .cells #[.string (⟨#[]⟩ : ByteArray), .string (⟨#[]⟩ : ByteArray), .slice none 0 0] 71 (0, 0)) (bk_ BK137.out) hb); have n1_ := Aside0.mk (below_step bes_ hb); have n2_ := Aside0.mk (hbox); have n3_ := Aside0.mk ((by rw [hg]; exact (below_size bes_) : w.heap.size ≤ gb138)); have n4_ := Aside0.mk ((by rw [hg]; exact (below_size bes_) : w.heap.size ≤ gb138)); have n5_ := Aside0.mk ((by rw [hg]; exact Nat.ne_of_lt (blk_lt (g := gb137) (o := .cells #[.string (⟨#[]⟩ : ByteArray), .string (⟨#[]⟩ : ByteArray), .slice none 0 0] 71 (0, 0)) (bk_ BK137.out)) : gb137 ≠ gb138)); have n6_ := Aside0.mk ((by rw [hg]; exact Nat.ne_of_gt (blk_lt (g := gb137) (o := .cells #[.string (⟨#[]⟩ : ByteArray), .string (⟨#[]⟩ : ByteArray), .slice none 0 0] 71 (0, 0)) (bk_ BK137.out)) : gb138 ≠ gb137)); clear BK137; clear HB; have BK137 := n0_; have HB := n1_; have BK138 := n2_; have GW138 := n3_; have GE138 := n4_; have NB137_138 := n5_; have NB138_137 := n6_; clear n0_ n1_ n2_ n3_ n4_ n5_ n6_; clear hb hbox hg; have hnb5 := NB138_137.out; have hnc5 := NB137_138.out; have hcz6_0 := bc3_0 BK138.out; have hcz6_1 := bc3_1 BK138.out; have hcz6_2 := bc3_2 BK138.out; have hfz6_0 := blk_frozen BK138.out 0; have hfz6_1 := blk_frozen BK138.out 1; have hfz6_2 := blk_frozen BK138.out 2; have hcz7_0 := bc3_0 BK137.out; have hcz7_1 := bc3_1 BK137.out; have hcz7_2 := bc3_2 BK137.out; have hfz7_0 := blk_frozen BK137.out 0; have hfz7_1 := blk_frozen BK137.out 1; have hfz7_2 := blk_frozen BK137.out 2))
  refine bodyPost_ret (results_ct rfl _ _ gb137 71 #[.string (⟨#[]⟩ : ByteArray), .string (⟨#[]⟩ : ByteArray), .slice none 0 0] (0, 0) _ rfl (by (with_reducible repeat (first | refine blk_drewN ?_ _ | refine blk_drew ?_ | refine blk_alloc ?_ _)); refine blk_put (cs := #[.string (⟨#[]⟩ : ByteArray), .string (⟨#[]⟩ : ByteArray), .slice none 0 0]) ?_ 2 _ rfl; (with_reducible repeat (first | refine blk_drewN ?_ _ | refine blk_drew ?_ | refine blk_alloc ?_ _)); refine blk_put (cs := #[.string (⟨#[]⟩ : ByteArray), .string (⟨#[]⟩ : ByteArray), .slice none 0 0]) ?_ 1 _ rfl; (with_reducible repeat (first | refine blk_drewN ?_ _ | refine blk_drew ?_ | refine blk_alloc ?_ _)); refine blk_put (cs := #[.string (⟨#[]⟩ : ByteArray), .string (⟨#[]⟩ : ByteArray), .slice none 0 0]) ?_ 0 _ rfl; (with_reducible repeat (first | refine blk_drewN ?_ _ | refine blk_drew ?_ | refine blk_alloc ?_ _)); refine blk_far ?_ NB137_138.out _; (with_reducible repeat (first | refine blk_drewN ?_ _ | refine blk_drew ?_ | refine blk_alloc ?_ _)); refine blk_far ?_ NB137_138.out _; (with_reducible repeat (first | refine blk_drewN ?_ _ | refine blk_drew ?_ | refine blk_alloc ?_ _)); refine blk_far ?_ NB137_138.out _; (with_reducible repeat (first | refine blk_drewN ?_ _ | refine blk_drew ?_ | refine blk_alloc ?_ _)); exact BK137.out) Tryd.underlying71 rfl (by kernel_rfl)) rfl ?_
  exact ⟨_, er_, by first | exact Kd.R_nil _ _ _ _ _ | exact Kd.N_nil _ _ _ _ _ | exact Kd.V_nil _ _ _ _ _ | exact Kd.Q_nil _ _ _ _ _ | exact Kd.S_nil _ _ _ _ _, bes_⟩
 ·rw [if_neg c2] at H
  have c2b0 : (a0.toList == ([] : List UInt8)) = false := beq_eq_false_iff_ne.mpr c2
  have c2b7 : a0.toList.isEmpty = false := Bool.eq_false_iff.mpr (fun h_ => absurd (List.isEmpty_iff.mp h_) (beq_eq_false_iff_ne.mp c2b0))
  have c2b8 : ¬ (a0.toList.isEmpty = true) := fun h_ => absurd (List.isEmpty_iff.mp h_) (beq_eq_false_iff_ne.mp c2b0)
  have c2b1 : (a0.toList != ([] : List UInt8)) = true := bne_iff_ne.mpr c2
  by_cases c8 : 0 < (a0.size : Int)
  ·rw [if_pos c8] at H
   have c8b0 : decide (0 < (a0.size : Int)) = true := decide_eq_true c8
   have c8b1 : decide (0 < a0.size) = true := decide_eq_true (by omega)
   clear c8
   have HC10 := Aside0.mk H
   clear H
   go_enter Tryd.func150, Tryd.ntmps150
   go_upto_if 15 with (first | ((with_reducible refine gate_dst (N := 2) rfl ?_); (try (refine gate_guard (by rfl) ?_; dsimp only)); refine box_event ?hg (N := 2) ?hd (cs := #[.string (⟨#[]⟩ : ByteArray), .string (⟨#[]⟩ : ByteArray), .slice none 0 0]) (t := 71) ?hr ?_; (case hd => rfl); (case hg => rfl); (case hr => first | (go_simp; done) | (go_simp; rfl)); intro gb137 hg w11 hbox hb; have n0_ := Aside0.mk (below_step bel_ hb); have n1_ := Aside0.mk (hbox); have n2_ := Aside0.mk ((by rw [hg]; exact (below_size bel_) : w.heap.size ≤ gb137)); have n3_ := Aside0.mk ((by rw [hg]; exact (below_size bel_) : w.heap.size ≤ gb137)); clear HB; have HB := n0_; have BK137 := n1_; have GW137 := n2_; have GE137 := n3_; clear n0_ n1_ n2_ n3_; clear hb hbox hg) | ((with_reducible refine gate_dst (N := 4) rfl ?_); (try (refine gate_guard (by rfl) ?_; dsimp only)); refine box_event ?hg (N := 4) ?hd (cs := #[.string (⟨#[]⟩ : ByteArray), .string (⟨#[]⟩ : ByteArray), .slice none 0 0]) (t := 71) ?hr ?_; (case hd => rfl); (case hg => rfl); (case hr => first | (go_simp; done) | (go_simp; rfl)); intro gb138 hg w12 hbox hb; have n0_ := Aside0.mk (blk_below (g := gb137) (o := .cells #[.string (⟨#[]⟩ : ByteArray), .string (⟨#[]⟩ : ByteArray), .slice none 0 0] 71 (0, 0)) (bk_ BK137.out) hb); have n1_ := Aside0.mk (below_step bes_ hb); have n2_ := Aside0.mk (hbox); have n3_ := Aside0.mk ((by rw [hg]; exact (below_size bes_) : w.heap.size ≤ gb138)); have n4_ := Aside0.mk ((by rw [hg]; exact (below_size bes_) : w.heap.size ≤ gb138)); have n5_ := Aside0.mk ((by rw [hg]; exact Nat.ne_of_lt (blk_lt (g := gb137) (o := .cells #[.string (⟨#[]⟩ : ByteArray), .string (⟨#[]⟩ : ByteArray), .slice none 0 0] 71 (0, 0)) (bk_ BK137.out)) : gb137 ≠ gb138)); have n6_ := Aside0.mk ((by rw [hg]; exact Nat.ne_of_gt (blk_lt (g := gb137) (o := .cells #[.string (⟨#[]⟩ : ByteArray), .string (⟨#[]⟩ : ByteArray), .slice none 0 0] 71 (0, 0)) (bk_ BK137.out)) : gb138 ≠ gb137)); clear BK137; clear HB; have BK137 := n0_; have HB := n1_; have BK138 := n2_; have GW138 := n3_; have GE138 := n4_; have NB137_138 := n5_; have NB138_137 := n6_; clear n0_ n1_ n2_ n3_ n4_ n5_ n6_; clear hb hbox hg; have hnb13 := NB138_137.out; have hnc13 := NB137_138.out; have hcz14_0 := bc3_0 BK138.out; have hcz14_1 := bc3_1 BK138.out; have hcz14_2 := bc3_2 BK138.out; have hfz14_0 := blk_frozen BK138.out 0; have hfz14_1 := blk_frozen BK138.out 1; have hfz14_2 := blk_frozen BK138.out 2; have p9 : 0 ≤ (0 : Int) := (by omega); have q9 : 0 < a0.size := (by have : (0 : Int) < (a0.size : Int) := of_decide_eq_true am_; omega); have hx9 : ∀ h : 0 < a0.size, ((a0[0]'h).toNat : Int) = bt a0 0 := bt_at a0 0; clear p9; have qi9 : (0 < (a0.size : Int)) = True := eq_true (of_decide_eq_true am_); replace q9 := eq_true q9))
   (try simp only [Act.put, List.setIfInBounds_toArray, List.set_cons_zero, List.set_cons_succ])
   go_cut [5] (fun v5 wc => ∃ (kq : Nat) (x5_9 : Int) (x139000_9 : ByteArray), v5 = .int .i64 x5_9 ∧ Aside0 (spec_l5Part.j0 kq a0 x5_9 x139000_9 (⟨#[]⟩ : ByteArray) = some (r1, r2, r3, r4)) ∧ Aside0 (kq ≤ k) ∧ Aside0 (wc.heap[gb137]? = some (.cells #[.string (⟨#[]⟩ : ByteArray), .string (⟨#[]⟩ : ByteArray), (.slice none 0 0)] 71 (0, 0))) ∧ Aside0 (wc.heap[gb138]? = some (.cells #[.string x139000_9, .string (⟨#[]⟩ : ByteArray), (.slice none 0 0)] 71 (0, 0))) ∧ Aside0 (Below w.heap.size w wc))
   case first =>
    have H := HC10.out
    clear HC10
    by_cases c15 : (bt a0 0) = 42
    ·rw [if_pos c15] at H
     have c15b0 : ((bt a0 0) == 42) = true := beq_iff_eq.mpr c15
     have c15b1 : ((bt a0 0) != 42) = false := bne_eq_false_iff_eq.mpr c15
     clear c15
     (first | rw [c15b0] | (simp only [i64_w, i32_w]; rw [c15b0]) | skip)
     have H' := Aside0.mk H
     clear H
     have hnb16 := NB138_137.out
     have hnc16 := NB137_138.out
     have hcz17_0 := bc3_0 BK138.out
     have hcz17_1 := bc3_1 BK138.out
     have hcz17_2 := bc3_2 BK138.out
     have hfz17_0 := blk_frozen BK138.out 0
     have hfz17_1 := blk_frozen BK138.out 1
     have hfz17_2 := blk_frozen BK138.out 2
     go_wp2
     go_meet
     case rel => exact ⟨_, (1), ((⟨#[42]⟩ : ByteArray)), sv_, H', ⟨by first | omega | exact Nat.le_refl _⟩, ⟨by (with_reducible repeat (first | refine blk_drewN ?_ _ | refine blk_drew ?_ | refine blk_alloc ?_ _)); refine blk_far ?_ NB137_138.out _; (with_reducible repeat (first | refine blk_drewN ?_ _ | refine blk_drew ?_ | refine blk_alloc ?_ _)); refine blk_far ?_ NB137_138.out _; (with_reducible repeat (first | refine blk_drewN ?_ _ | refine blk_drew ?_ | refine blk_alloc ?_ _)); refine blk_far ?_ NB137_138.out _; (with_reducible repeat (first | refine blk_drewN ?_ _ | refine blk_drew ?_ | refine blk_alloc ?_ _)); refine blk_far ?_ NB137_138.out _; (with_reducible repeat (first | refine blk_drewN ?_ _ | refine blk_drew ?_ | refine blk_alloc ?_ _)); exact BK137.out⟩, ⟨by (with_reducible repeat (first | refine blk_drewN ?_ _ | refine blk_drew ?_ | refine blk_alloc ?_ _)); refine blk_put (cs := #[.string (⟨#[]⟩ : ByteArray), .string (⟨#[]⟩ : ByteArray), .slice none 0 0]) ?_ 0 _ rfl; (with_reducible repeat (first | refine blk_drewN ?_ _ | refine blk_drew ?_ | refine blk_alloc ?_ _)); refine blk_put (cs := #[.string (⟨#[]⟩ : ByteArray), .string (⟨#[]⟩ : ByteArray), .slice none 0 0]) ?_ 2 _ rfl; (with_reducible repeat (first | refine blk_drewN ?_ _ | refine blk_drew ?_ | refine blk_alloc ?_ _)); refine blk_put (cs := #[.string (⟨#[]⟩ : ByteArray), .string (⟨#[]⟩ : ByteArray), .slice none 0 0]) ?_ 1 _ rfl; (with_reducible repeat (first | refine blk_drewN ?_ _ | refine blk_drew ?_ | refine blk_alloc ?_ _)); refine blk_put (cs := #[.string (⟨#[]⟩ : ByteArray), .string (⟨#[]⟩ : ByteArray), .slice none 0 0]) ?_ 0 _ rfl; (with_reducible repeat (first | refine blk_drewN ?_ _ | refine blk_drew ?_ | refine blk_alloc ?_ _)); exact BK138.out⟩, ⟨bes_⟩⟩
    ·rw [if_neg c15] at H
     have c15b0 : ((bt a0 0) == 42) = false := beq_eq_false_iff_ne.mpr c15
     have c15b1 : ((bt a0 0) != 42) = true := bne_iff_ne.mpr c15
     (first | rw [c15b0] | (simp only [i64_w, i32_w]; rw [c15b0]) | skip)
     replace H := Option.bind_eq_some_iff.mp H
     obtain ⟨t139, A180, H⟩ := H
     replace H : (if t139 > 0 then (if 0 ≤ t139 then (if t139 ≤ (a0.size : Int) then (spec_l5Part.j0 k a0 t139 (a0.extract 0 (t139 : Int).toNat) (⟨#[]⟩ : ByteArray)) else (none)) else (none)) else (spec_l5Part.j0 k a0 0 (⟨#[]⟩ : ByteArray) (⟨#[]⟩ : ByteArray))) = some (r1, r2, r3, r4) := H
     have A18 := Aside0.mk A180
     clear A180
     by_cases c19 : t139 > 0
     ·rw [if_pos c19] at H
      have c19b0 : decide (0 < t139) = true := decide_eq_true c19
      clear c19
      by_cases c20 : 0 ≤ t139
      ·rw [if_pos c20] at H
       have c20b0 := eq_true c20
       have c20b1 : decide (0 ≤ t139) = true := decide_eq_true c20
       clear c20
       by_cases c21 : t139 ≤ (a0.size : Int)
       ·rw [if_pos c21] at H
        have c21b0 := eq_true c21
        have c21b1 : decide (t139 ≤ (a0.size : Int)) = true := decide_eq_true c21
        clear c21
        have H' := Aside0.mk H
        clear H
        go_wp2_with (first | ((with_reducible refine gate_callee (f := 161) rfl ?_); refine goesL_ (some 18) rfl rfl Tryd.func161 (by kernel_rfl) rfl #[.string a0] rfl au_ ?_; (with_reducible refine (spec_l5Run.calls k a0 t139 _ A18.out).mono ?_); rintro e w' ⟨rfl, ⟨nd, rfl⟩⟩; refine ⟨_, rfl, ?_⟩; have hnb22 := NB138_137.out; have hnc22 := NB137_138.out; have hcz23_0 := bc3_0 BK138.out; have hcz23_1 := bc3_1 BK138.out; have hcz23_2 := bc3_2 BK138.out; have hfz23_0 := blk_frozen BK138.out 0; have hfz23_1 := blk_frozen BK138.out 1; have hfz23_2 := blk_frozen BK138.out 2))
        go_meet
        case rel => exact ⟨_, (t139), (a0.extract 0 (t139 : Int).toNat), sv_, H', ⟨by first | omega | exact Nat.le_refl _⟩, ⟨by (with_reducible repeat (first | refine blk_drewN ?_ _ | refine blk_drew ?_ | refine blk_alloc ?_ _)); refine blk_far ?_ NB137_138.out _; (with_reducible repeat (first | refine blk_drewN ?_ _ | refine blk_drew ?_ | refine blk_alloc ?_ _)); refine blk_far ?_ NB137_138.out _; (with_reducible repeat (first | refine blk_drewN ?_ _ | refine blk_drew ?_ | refine blk_alloc ?_ _)); refine blk_far ?_ NB137_138.out _; (with_reducible repeat (first | refine blk_drewN ?_ _ | refine blk_drew ?_ | refine blk_alloc ?_ _)); refine blk_far ?_ NB137_138.out _; (with_reducible repeat (first | refine blk_drewN ?_ _ | refine blk_drew ?_ | refine blk_alloc ?_ _)); exact BK137.out⟩, ⟨by (with_reducible repeat (first | refine blk_drewN ?_ _ | refine blk_drew ?_ | refine blk_alloc ?_ _)); refine blk_put (cs := #[.string (⟨#[]⟩ : ByteArray), .string (⟨#[]⟩ : ByteArray), .slice none 0 0]) ?_ 0 _ rfl; (with_reducible repeat (first | refine blk_drewN ?_ _ | refine blk_drew ?_ | refine blk_alloc ?_ _)); refine blk_put (cs := #[.string (⟨#[]⟩ : ByteArray), .string (⟨#[]⟩ : ByteArray), .slice none 0 0]) ?_ 2 _ rfl; (with_reducible repeat (first | refine blk_drewN ?_ _ | refine blk_drew ?_ | refine blk_alloc ?_ _)); refine blk_put (cs := #[.string (⟨#[]⟩ : ByteArray), .string (⟨#[]⟩ : ByteArray), .slice none 0 0]) ?_ 1 _ rfl; (with_reducible repeat (first | refine blk_drewN ?_ _ | refine blk_drew ?_ | refine blk_alloc ?_ _)); refine blk_put (cs := #[.string (⟨#[]⟩ : ByteArray), .string (⟨#[]⟩ : ByteArray), .slice none 0 0]) ?_ 0 _ rfl; (with_reducible repeat (first | refine blk_drewN ?_ _ | refine blk_drew ?_ | refine blk_alloc ?_ _)); exact BK138.out⟩, ⟨bes_⟩⟩
       ·rw [if_neg c21] at H
        exact absurd H (by simp)
      ·rw [if_neg c20] at H
       exact absurd H (by simp)
     ·rw [if_neg c19] at H
      have c19b0 : decide (0 < t139) = false := decide_eq_false c19
      clear c19
      have H' := Aside0.mk H
      clear H
      go_wp2_with (first | ((with_reducible refine gate_callee (f := 161) rfl ?_); refine goesL_ (some 18) rfl rfl Tryd.func161 (by kernel_rfl) rfl #[.string a0] rfl au_ ?_; (with_reducible refine (spec_l5Run.calls k a0 t139 _ A18.out).mono ?_); rintro e w' ⟨rfl, ⟨nd, rfl⟩⟩; refine ⟨_, rfl, ?_⟩))
      go_meet
      case rel => exact ⟨_, (0), ((⟨#[]⟩ : ByteArray)), sv_, H', ⟨by first | omega | exact Nat.le_refl _⟩, ⟨by (with_reducible repeat (first | refine blk_drewN ?_ _ | refine blk_drew ?_ | refine blk_alloc ?_ _)); refine blk_far ?_ NB137_138.out _; (with_reducible repeat (first | refine blk_drewN ?_ _ | refine blk_drew ?_ | refine blk_alloc ?_ _)); refine blk_far ?_ NB137_138.out _; (with_reducible repeat (first | refine blk_drewN ?_ _ | refine blk_drew ?_ | refine blk_alloc ?_ _)); refine blk_far ?_ NB137_138.out _; (with_reducible repeat (first | refine blk_drewN ?_ _ | refine blk_drew ?_ | refine blk_alloc ?_ _)); exact BK137.out⟩, ⟨by (with_reducible repeat (first | refine blk_drewN ?_ _ | refine blk_drew ?_ | refine blk_alloc ?_ _)); refine blk_put (cs := #[.string (⟨#[]⟩ : ByteArray), .string (⟨#[]⟩ : ByteArray), .slice none 0 0]) ?_ 2 _ rfl; (with_reducible repeat (first | refine blk_drewN ?_ _ | refine blk_drew ?_ | refine blk_alloc ?_ _)); refine blk_put (cs := #[.string (⟨#[]⟩ : ByteArray), .string (⟨#[]⟩ : ByteArray), .slice none 0 0]) ?_ 1 _ rfl; (with_reducible repeat (first | refine blk_drewN ?_ _ | refine blk_drew ?_ | refine blk_alloc ?_ _)); refine blk_put (cs := #[.string (⟨#[]⟩ : ByteArray), .string (⟨#[]⟩ : ByteArray), .slice none 0 0]) ?_ 0 _ rfl; (with_reducible repeat (first | refine blk_drewN ?_ _ | refine blk_drew ?_ | refine blk_alloc ?_ _)); exact BK138.out⟩, ⟨bes_⟩⟩
   case rest =>
    clear HC10
    (try clear c1);(try clear c2);(try clear c2b0 c2b1);(try clear p2);(try clear c5);(try clear c8);(try clear c8b0 c8b1);(try clear p9);(try clear q9);(try clear hx9);(try clear qi9);(try clear c13);(try clear c15);(try clear c15b0 c15b1);(try clear c16);(try clear c19);(try clear c19b0);(try clear c20);(try clear c20b0 c20b1);(try clear c21);(try clear c21b0 c21b1);(try clear c22);(try clear hcz14_0 hcz14_1 hcz14_2);(try clear hcz17_0 hcz17_1 hcz17_2);(try clear hcz23_0 hcz23_1 hcz23_2);(try clear hcz6_0 hcz6_1 hcz6_2);(try clear hcz7_0 hcz7_1 hcz7_2);(try clear hfz14_0 hfz14_1 hfz14_2);(try clear hfz17_0 hfz17_1 hfz17_2);(try clear hfz23_0 hfz23_1 hfz23_2)
    (try clear hfz6_0 hfz6_1 hfz6_2);(try clear hfz7_0 hfz7_1 hfz7_2);(try clear p9);(try clear q9)
    obtain ⟨kq, x5_9, x139000_9, rfl, HA, HJ9, BK137, BK138, HB⟩ := hcut
    cases kq with
    | zero => exact absurd HA.out (by simp [spec_l5Part.j0])
    | succ kj9 =>
     have H := HA.out
     clear HA
     simp only [spec_l5Part.j0] at H
     have HC24 := Aside0.mk H
     clear H
     go_upto_region 12 with (fail)
     go_cut [35] (fun v35 wc => ∃ (kq : Nat) (x35_23 : Bool), v35 = .bool x35_23 ∧ Aside0 (spec_l5Part.j1 kq a0 x5_9 x35_23 x139000_9 (⟨#[]⟩ : ByteArray) = some (r1, r2, r3, r4)) ∧ Aside0 (kq ≤ kj9) ∧ Aside0 (wc.heap[gb137]? = some (.cells #[.string (⟨#[]⟩ : ByteArray), .string (⟨#[]⟩ : ByteArray), (.slice none 0 0)] 71 (0, 0))) ∧ Aside0 (wc.heap[gb138]? = some (.cells #[.string x139000_9, .string (⟨#[]⟩ : ByteArray), (.slice none 0 0)] 71 (0, 0))) ∧ Aside0 (Below w.heap.size w wc))
     case first =>
      have H := HC24.out
      clear HC24
      by_cases c25 : x5_9 < (a0.size : Int)
      ·rw [if_pos c25] at H
       have c25b0 : decide (x5_9 < (a0.size : Int)) = true := decide_eq_true c25
       clear c25
       (first | rw [c25b0] | (simp only [i64_w, i32_w]; rw [c25b0]) | skip)
       by_cases c26 : 0 ≤ x5_9
       ·rw [if_pos c26] at H
        have c26b0 : decide (0 ≤ x5_9) = true := decide_eq_true c26
        clear c26
        have H' := Aside0.mk H
        clear H
        have p27 : 0 ≤ (x5_9 : Int) := of_decide_eq_true am_
        have q27 : x5_9 < (a0.size : Int) := of_decide_eq_true am_
        have hx27 := bt_at a0 x5_9
        replace p27 := eq_true p27
        replace q27 := eq_true q27
        go_wp2
        go_meet
        case rel => exact ⟨_, (((bt a0 x5_9) == 35)), sv_, H', ⟨by have := HJ9.out; first | omega | exact Nat.le_refl _⟩, ⟨by (with_reducible repeat (first | refine blk_drewN ?_ _ | refine blk_drew ?_ | refine blk_alloc ?_ _)); exact BK137.out⟩, ⟨by (with_reducible repeat (first | refine blk_drewN ?_ _ | refine blk_drew ?_ | refine blk_alloc ?_ _)); exact BK138.out⟩, ⟨bes_⟩⟩
       ·rw [if_neg c26] at H
        exact absurd H (by simp)
      ·rw [if_neg c25] at H
       have c25b0 : decide (x5_9 < (a0.size : Int)) = false := decide_eq_false c25
       clear c25
       (first | rw [c25b0] | (simp only [i64_w, i32_w]; rw [c25b0]) | skip)
       have H' := Aside0.mk H
       clear H
       go_wp2
       go_meet
       case rel => exact ⟨_, (false), sv_, H', ⟨by have := HJ9.out; first | omega | exact Nat.le_refl _⟩, ⟨by (with_reducible repeat (first | refine blk_drewN ?_ _ | refine blk_drew ?_ | refine blk_alloc ?_ _)); exact BK137.out⟩, ⟨by (with_reducible repeat (first | refine blk_drewN ?_ _ | refine blk_drew ?_ | refine blk_alloc ?_ _)); exact BK138.out⟩, ⟨bes_⟩⟩
     case rest =>
      clear HC24
      (try clear c1);(try clear c2);(try clear c2b0 c2b1);(try clear p2);(try clear q2);(try clear hx2);(try clear c5);(try clear c8);(try clear c8b0 c8b1);(try clear p9);(try clear q9);(try clear hx9);(try clear qi9);(try clear c13);(try clear c15);(try clear c15b0 c15b1);(try clear c16);(try clear c19);(try clear c19b0);(try clear c20);(try clear c20b0 c20b1);(try clear c21);(try clear c21b0 c21b1);(try clear c22);(try clear c25);(try clear c25b0);(try clear c26);(try clear c26b0);(try clear p27);(try clear q27);(try clear hx27);(try clear hcz14_0 hcz14_1 hcz14_2);(try clear hcz17_0 hcz17_1 hcz17_2);(try clear hcz23_0 hcz23_1 hcz23_2);(try clear hcz6_0 hcz6_1 hcz6_2);(try clear hcz7_0 hcz7_1 hcz7_2);(try clear hfz14_0)
      (try clear hfz14_1 hfz14_2);(try clear hfz17_0 hfz17_1 hfz17_2);(try clear hfz23_0 hfz23_1 hfz23_2);(try clear hfz6_0 hfz6_1 hfz6_2);(try clear hfz7_0 hfz7_1 hfz7_2);(try clear p2);(try clear p27);(try clear p9);(try clear q27);(try clear q9)
      obtain ⟨kq, x35_23, rfl, HA, HJ23, BK137, BK138, HB⟩ := hcut
      cases kq with
      | zero => exact absurd HA.out (by simp [spec_l5Part.j1])
      | succ kj23 =>
       have H := HA.out
       clear HA
       simp only [spec_l5Part.j1] at H
       have HC28 := Aside0.mk H
       clear H
       go_upto_if 35 with (fail)
       go_cut [5] (fun v5 wc => ∃ (kq : Nat) (x5_27 : Int) (x138000_27 : ByteArray) (x138001_27 : ByteArray) (x139001_27 : ByteArray), v5 = .int .i64 x5_27 ∧ Aside0 (spec_l5Part.j2 kq a0 x5_27 x139000_9 x139001_27 = some (r1, r2, r3, r4)) ∧ Aside0 (kq ≤ kj23) ∧ Aside0 (wc.heap[gb137]? = some (.cells #[.string x138000_27, .string x138001_27, (.slice none 0 0)] 71 (0, 0))) ∧ Aside0 (wc.heap[gb138]? = some (.cells #[.string x139000_9, .string x139001_27, (.slice none 0 0)] 71 (0, 0))) ∧ Aside0 (Below w.heap.size w wc))
       case first =>
        have H := HC28.out
        clear HC28
        by_cases c29 : x35_23 = true
        ·subst c29
         have H1 : (if 0 ≤ (wrap64 (x5_9 + 1)) then (if (wrap64 (x5_9 + 1)) ≤ (a0.size : Int) then ((spec_l5Run.f kj23 (a0.extract ((wrap64 (x5_9 + 1)) : Int).toNat a0.size)).bind fun t140 => (if t140 = 0 then (some (x139000_9, (⟨#[]⟩ : ByteArray), ([] : List ByteArray), false)) else (if (wrap64 (x5_9 + 1)) ≤ (wrap64 ((wrap64 (x5_9 + 1)) + t140)) then (if (wrap64 ((wrap64 (x5_9 + 1)) + t140)) ≤ (a0.size : Int) then (spec_l5Part.j2 kj23 a0 (wrap64 (x5_9 + (wrap64 (1 + t140)))) x139000_9 (a0.extract ((wrap64 (x5_9 + 1)) : Int).toNat ((wrap64 ((wrap64 (x5_9 + 1)) + t140)) : Int).toNat)) else (none)) else (none)))) else (none)) else (none)) = some (r1, r2, r3, r4) := by rw [if_pos rfl] at H; exact H
         clear H
         have H := H1
         clear H1
         obtain ⟨ji30, hji30⟩ : ∃ j_ : Int, (wrap64 (x5_9 + 1)) = j_ := ⟨_, rfl⟩
         replace H : (if 0 ≤ (ji30) then (if (ji30) ≤ (a0.size : Int) then ((spec_l5Run.f kj23 (a0.extract ((ji30) : Int).toNat a0.size)).bind fun t140 => (if t140 = 0 then (some (x139000_9, (⟨#[]⟩ : ByteArray), ([] : List ByteArray), false)) else (if (ji30) ≤ (wrap64 ((ji30) + t140)) then (if (wrap64 ((ji30) + t140)) ≤ (a0.size : Int) then (spec_l5Part.j2 kj23 a0 (wrap64 (x5_9 + (wrap64 (1 + t140)))) x139000_9 (a0.extract ((ji30) : Int).toNat ((wrap64 ((ji30) + t140)) : Int).toNat)) else (none)) else (none)))) else (none)) else (none)) = some (r1, r2, r3, r4) := by first | (rw [hji30] at H; exact H) | (simp only [hji30] at H ⊢; exact H)
         have hji30w : (IntKind.i64.wrap (x5_9 + 1)) = ji30 := (i64_w _).trans hji30
         by_cases c31 : 0 ≤ (ji30)
         ·rw [if_pos c31] at H
          have c31b0 := eq_true c31
          have c31b1 : decide (0 ≤ (ji30)) = true := decide_eq_true c31
          clear c31
          by_cases c32 : (ji30) ≤ (a0.size : Int)
          ·rw [if_pos c32] at H
           have c32b0 := eq_true c32
           have c32b1 : decide ((ji30) ≤ (a0.size : Int)) = true := decide_eq_true c32
           clear c32
           replace H := Option.bind_eq_some_iff.mp H
           obtain ⟨t140, A330, H⟩ := H
           replace H : (if t140 = 0 then (some (x139000_9, (⟨#[]⟩ : ByteArray), ([] : List ByteArray), false)) else (if (ji30) ≤ (wrap64 ((ji30) + t140)) then (if (wrap64 ((ji30) + t140)) ≤ (a0.size : Int) then (spec_l5Part.j2 kj23 a0 (wrap64 (x5_9 + (wrap64 (1 + t140)))) x139000_9 (a0.extract ((ji30) : Int).toNat ((wrap64 ((ji30) + t140)) : Int).toNat)) else (none)) else (none))) = some (r1, r2, r3, r4) := H
           have A33 := Aside0.mk A330
           clear A330
           by_cases c34 : t140 = 0
           ·rw [if_pos c34] at H
            have c34b0 : (t140 == 0) = true := beq_iff_eq.mpr c34
            have c34b1 : (t140 != 0) = false := bne_eq_false_iff_eq.mpr c34
            clear c34
            (first | rw [c34b0] | (simp only [i64_w, i32_w]; rw [c34b0]) | skip)
            simp only [Option.some.injEq, Prod.mk.injEq] at H
            obtain ⟨rfl, rfl, rfl, rfl⟩ := H
            go_wp2_with (first | ((with_reducible refine gate_callee (f := 161) rfl ?_); refine goesL_ (some 40) rfl rfl Tryd.func161 (by kernel_rfl) rfl #[.string (a0.extract ((ji30) : Int).toNat a0.size)] rfl (by (try simp only [List.map_toArray, List.map_cons, List.map_nil]); first | done | (simp only [hji30]; rfl) | rfl | (simp only [List.length_drop, List.length_take]; rfl)) ?_; (with_reducible refine (spec_l5Run.calls kj23 (a0.extract ((ji30) : Int).toNat a0.size) t140 _ A33.out).mono ?_); rintro e w' ⟨rfl, ⟨nd, rfl⟩⟩; refine ⟨_, rfl, ?_⟩; (try (rw [drewN_self wc]; generalize hq_ : World.drewN wc _ = wc; have n0_ : Aside0 (wc.heap[gb137]? = some (.cells #[.string (⟨#[]⟩ : ByteArray), .string (⟨#[]⟩ : ByteArray), .slice none 0 0] 71 (0, 0))) := ⟨by rw [← hq_]; exact (bk_ BK137.out)⟩; have n1_ : Aside0 (wc.heap[gb138]? = some (.cells #[.string x139000_9, .string (⟨#[]⟩ : ByteArray), .slice none 0 0] 71 (0, 0))) := ⟨by rw [← hq_]; exact (bk_ BK138.out)⟩; have n2_ : Aside0 (Below w.heap.size w wc) := ⟨by rw [← hq_]; exact bes_⟩; clear BK137 BK138 HB hq_; have BK137 := n0_; have BK138 := n1_; have HB := n2_; clear n0_ n1_ n2_)); have hnb35 := NB138_137.out; have hnc35 := NB137_138.out; have hcz36_0 := bc3_0 BK138.out; have hcz36_1 := bc3_1 BK138.out; have hcz36_2 := bc3_2 BK138.out; have hfz36_0 := blk_frozen BK138.out 0; have hfz36_1 := blk_frozen BK138.out 1; have hfz36_2 := blk_frozen BK138.out 2; have hcz37_0 := bc3_0 BK137.out; have hcz37_1 := bc3_1 BK137.out; have hcz37_2 := bc3_2 BK137.out; have hfz37_0 := blk_frozen BK137.out 0; have hfz37_1 := blk_frozen BK137.out 1; have hfz37_2 := blk_frozen BK137.out 2))
            refine bodyPost_ret (results_ct rfl _ _ gb137 71 #[.string x139000_9, .string (⟨#[]⟩ : ByteArray), .slice none 0 0] (0, 0) _ rfl (by (with_reducible repeat (first | refine blk_drewN ?_ _ | refine blk_drew ?_ | refine blk_alloc ?_ _)); refine blk_put (cs := #[.string x139000_9, .string (⟨#[]⟩ : ByteArray), .slice none 0 0]) ?_ 2 _ rfl; (with_reducible repeat (first | refine blk_drewN ?_ _ | refine blk_drew ?_ | refine blk_alloc ?_ _)); refine blk_put (cs := #[.string x139000_9, .string (⟨#[]⟩ : ByteArray), .slice none 0 0]) ?_ 1 _ rfl; (with_reducible repeat (first | refine blk_drewN ?_ _ | refine blk_drew ?_ | refine blk_alloc ?_ _)); refine blk_put (cs := #[.string (⟨#[]⟩ : ByteArray), .string (⟨#[]⟩ : ByteArray), .slice none 0 0]) ?_ 0 _ rfl; (with_reducible repeat (first | refine blk_drewN ?_ _ | refine blk_drew ?_ | refine blk_alloc ?_ _)); exact BK137.out) Tryd.underlying71 rfl (by kernel_rfl)) rfl ?_
            exact ⟨_, by first | rfl | (simp [errW_none, errW_some] <;> rfl) | (simp only [← hji30]; first | rfl | (simp [errW_none, errW_some] <;> rfl)) | (simp [*, errW_none, errW_some] <;> rfl), by first | exact Kd.R_nil _ _ _ _ _ | exact Kd.N_nil _ _ _ _ _ | exact Kd.V_nil _ _ _ _ _ | exact Kd.Q_nil _ _ _ _ _ | exact Kd.S_nil _ _ _ _ _, bes_⟩
           ·rw [if_neg c34] at H
            have c34b0 : (t140 == 0) = false := beq_eq_false_iff_ne.mpr c34
            have c34b1 : (t140 != 0) = true := bne_iff_ne.mpr c34
            (first | rw [c34b0] | (simp only [i64_w, i32_w]; rw [c34b0]) | skip)
            have c38b0 := eq_true (of_decide_eq_true am_ : 0 ≤ (ji30))
            by_cases c39 : (ji30) ≤ (wrap64 ((ji30) + t140))
            ·rw [if_pos c39] at H
             have c39b0 := eq_true c39
             have c39b1 : decide ((ji30) ≤ (wrap64 ((ji30) + t140))) = true := decide_eq_true c39
             by_cases c40 : (wrap64 ((ji30) + t140)) ≤ (a0.size : Int)
             ·rw [if_pos c40] at H
              have c40b0 := eq_true c40
              have c40b1 : decide ((wrap64 ((ji30) + t140)) ≤ (a0.size : Int)) = true := decide_eq_true c40
              have H' := Aside0.mk H
              clear H
              go_wp2_with (first | ((with_reducible refine gate_callee (f := 161) rfl ?_); refine goesL_ (some 40) rfl rfl Tryd.func161 (by kernel_rfl) rfl #[.string (a0.extract ((ji30) : Int).toNat a0.size)] rfl (by (try simp only [List.map_toArray, List.map_cons, List.map_nil]); first | done | (simp only [hji30]; rfl) | rfl | (simp only [List.length_drop, List.length_take]; rfl)) ?_; (with_reducible refine (spec_l5Run.calls kj23 (a0.extract ((ji30) : Int).toNat a0.size) t140 _ A33.out).mono ?_); rintro e w' ⟨rfl, ⟨nd, rfl⟩⟩; refine ⟨_, rfl, ?_⟩; (try (rw [drewN_self wc]; generalize hq_ : World.drewN wc _ = wc; have n0_ : Aside0 (wc.heap[gb137]? = some (.cells #[.string (⟨#[]⟩ : ByteArray), .string (⟨#[]⟩ : ByteArray), .slice none 0 0] 71 (0, 0))) := ⟨by rw [← hq_]; exact (bk_ BK137.out)⟩; have n1_ : Aside0 (wc.heap[gb138]? = some (.cells #[.string x139000_9, .string (⟨#[]⟩ : ByteArray), .slice none 0 0] 71 (0, 0))) := ⟨by rw [← hq_]; exact (bk_ BK138.out)⟩; have n2_ : Aside0 (Below w.heap.size w wc) := ⟨by rw [← hq_]; exact bes_⟩; clear BK137 BK138 HB hq_; have BK137 := n0_; have BK138 := n1_; have HB := n2_; clear n0_ n1_ n2_)); have hnb41 := NB138_137.out; have hnc41 := NB137_138.out; have hcz42_0 := bc3_0 BK138.out; have hcz42_1 := bc3_1 BK138.out; have hcz42_2 := bc3_2 BK138.out; have hfz42_0 := blk_frozen BK138.out 0; have hfz42_1 := blk_frozen BK138.out 1; have hfz42_2 := blk_frozen BK138.out 2))
              go_meet
              case rel => exact ⟨_, (wrap64 (x5_9 + (wrap64 (1 + t140)))), ((⟨#[]⟩ : ByteArray)), ((⟨#[]⟩ : ByteArray)), (a0.extract ((ji30) : Int).toNat ((wrap64 ((ji30) + t140)) : Int).toNat), sv_, H', ⟨by have := HJ9.out; have := HJ23.out; first | omega | exact Nat.le_refl _⟩, ⟨by (with_reducible repeat (first | refine blk_drewN ?_ _ | refine blk_drew ?_ | refine blk_alloc ?_ _)); refine blk_far ?_ NB137_138.out _; (with_reducible repeat (first | refine blk_drewN ?_ _ | refine blk_drew ?_ | refine blk_alloc ?_ _)); exact BK137.out⟩, ⟨by (with_reducible repeat (first | refine blk_drewN ?_ _ | refine blk_drew ?_ | refine blk_alloc ?_ _)); refine blk_put (cs := #[.string x139000_9, .string (⟨#[]⟩ : ByteArray), .slice none 0 0]) ?_ 1 _ rfl; (with_reducible repeat (first | refine blk_drewN ?_ _ | refine blk_drew ?_ | refine blk_alloc ?_ _)); exact BK138.out⟩, ⟨bes_⟩⟩
             ·rw [if_neg c40] at H
              exact absurd H (by simp)
            ·rw [if_neg c39] at H
             exact absurd H (by simp)
          ·rw [if_neg c32] at H
           exact absurd H (by simp)
         ·rw [if_neg c31] at H
          exact absurd H (by simp)
        ·replace c29 := Bool.eq_false_iff.mpr c29
         subst c29
         have H1 : (spec_l5Part.j2 kj23 a0 x5_9 x139000_9 (⟨#[]⟩ : ByteArray)) = some (r1, r2, r3, r4) := by rw [if_neg (show ¬ (false = true) by decide)] at H; exact H
         clear H
         have H := H1
         clear H1
         have H' := Aside0.mk H
         clear H
         go_wp2
         go_meet
         case rel => exact ⟨_, (x5_9), ((⟨#[]⟩ : ByteArray)), ((⟨#[]⟩ : ByteArray)), ((⟨#[]⟩ : ByteArray)), sv_, H', ⟨by have := HJ9.out; have := HJ23.out; first | omega | exact Nat.le_refl _⟩, ⟨by (with_reducible repeat (first | refine blk_drewN ?_ _ | refine blk_drew ?_ | refine blk_alloc ?_ _)); exact BK137.out⟩, ⟨by (with_reducible repeat (first | refine blk_drewN ?_ _ | refine blk_drew ?_ | refine blk_alloc ?_ _)); exact BK138.out⟩, ⟨bes_⟩⟩
       case rest =>
        clear HC28
        (try clear c1);(try clear c2);(try clear c2b0 c2b1);(try clear p2);(try clear q2);(try clear hx2);(try clear c3);(try clear c4);(try clear c5);(try clear p6);(try clear c8);(try clear c8b0 c8b1);(try clear p9);(try clear q9);(try clear hx9);(try clear qi9);(try clear c13);(try clear c15);(try clear c15b0 c15b1);(try clear c16);(try clear c19);(try clear c19b0);(try clear c20);(try clear c20b0 c20b1);(try clear c21);(try clear c21b0 c21b1);(try clear c22);(try clear c25);(try clear c25b0);(try clear c26);(try clear c26b0);(try clear p27);(try clear q27);(try clear hx27);(try clear c29);(try clear c31);(try clear c31b0 c31b1);(try clear c32);(try clear c32b0 c32b1);(try clear c34);(try clear c34b0 c34b1);(try clear c35);(try clear c38);(try clear c38b0);(try clear c39);(try clear c39b0 c39b1)
        (try clear c40);(try clear c40b0 c40b1);(try clear c41);(try clear hcz14_0 hcz14_1 hcz14_2);(try clear hcz17_0 hcz17_1 hcz17_2);(try clear hcz23_0 hcz23_1 hcz23_2);(try clear hcz36_0 hcz36_1 hcz36_2);(try clear hcz37_0 hcz37_1 hcz37_2);(try clear hcz42_0 hcz42_1 hcz42_2);(try clear hcz6_0 hcz6_1 hcz6_2);(try clear hcz7_0 hcz7_1 hcz7_2);(try clear hfz14_0 hfz14_1 hfz14_2);(try clear hfz17_0 hfz17_1 hfz17_2);(try clear hfz23_0 hfz23_1 hfz23_2);(try clear hfz36_0 hfz36_1 hfz36_2);(try clear hfz37_0 hfz37_1 hfz37_2);(try clear hfz42_0 hfz42_1 hfz42_2)
        (try clear hfz6_0 hfz6_1 hfz6_2);(try clear hfz7_0 hfz7_1 hfz7_2);(try clear p2);(try clear p27);(try clear p9);(try clear q2);(try clear q27);(try clear q9)
        obtain ⟨kq, x5_27, x138000_27, x138001_27, x139001_27, rfl, HA, HJ27, BK137, BK138, HB⟩ := hcut
        cases kq with
        | zero => exact absurd HA.out (by simp [spec_l5Part.j2])
        | succ kj27 =>
         have H := HA.out
         clear HA
         simp only [spec_l5Part.j2] at H
         have H' := Aside0.mk H
         clear H
         go_wp2
         go_loopg [5] kj27 (fun kq v5 w' => ∃ (x5_4 : Int) (x138000_4 : ByteArray) (x138001_4 : ByteArray) (x139002_4 : List ByteArray) (u139002 : Value), v5 = .int .i64 x5_4 ∧ Aside0 (spec_l5Part.l0 kq a0 x5_4 x139000_9 x139001_27 x139002_4 = some (r1, r2, r3, r4)) ∧ Aside0 (kq ≤ kj27) ∧ Aside0 (Kd.R Kd.string 9 w' w.heap.size (fun _ => True) u139002 x139002_4) ∧ Aside0 (w'.heap[gb137]? = some (.cells #[.string x138000_4, .string x138001_4, (.slice none 0 0)] 71 (0, 0))) ∧ Aside0 (w'.heap[gb138]? = some (.cells #[.string x139000_9, .string x139001_27, u139002] 71 (0, 0))) ∧ Aside0 (Below w.heap.size w w'))
         case atStart => exact ⟨(x5_27), (x138000_27), (x138001_27), (([] : List ByteArray)), (.slice none 0 0), sv_, H', ⟨Nat.le_refl _⟩, ⟨by first | exact Kd.R_nil _ _ _ _ _ | exact Kd.N_nil _ _ _ _ _ | exact Kd.V_nil _ _ _ _ _ | exact Kd.Q_nil _ _ _ _ _ | exact Kd.S_nil _ _ _ _ _⟩, ⟨by (with_reducible repeat (first | refine blk_drewN ?_ _ | refine blk_drew ?_ | refine blk_alloc ?_ _)); exact BK137.out⟩, ⟨by (with_reducible repeat (first | refine blk_drewN ?_ _ | refine blk_drew ?_ | refine blk_alloc ?_ _)); exact BK138.out⟩, ⟨bes_⟩⟩
         case round =>
          clear H'
          (try clear c1);(try clear c2);(try clear c2b0 c2b1);(try clear p2);(try clear q2);(try clear hx2);(try clear c3);(try clear c4);(try clear c5);(try clear p6);(try clear c8);(try clear c8b0 c8b1);(try clear p9);(try clear q9);(try clear hx9);(try clear qi9);(try clear c13);(try clear c15);(try clear c15b0 c15b1);(try clear c16);(try clear c19);(try clear c19b0);(try clear c20);(try clear c20b0 c20b1);(try clear c21);(try clear c21b0 c21b1);(try clear c22);(try clear c25);(try clear c25b0);(try clear c26);(try clear c26b0);(try clear p27);(try clear q27);(try clear hx27);(try clear c29);(try clear c31);(try clear c31b0 c31b1);(try clear c32);(try clear c32b0 c32b1);(try clear c34);(try clear c34b0 c34b1);(try clear c35);(try clear c38);(try clear c38b0);(try clear c39);(try clear c39b0 c39b1)
          (try clear c40);(try clear c40b0 c40b1);(try clear c41);(try clear hcz14_0 hcz14_1 hcz14_2);(try clear hcz17_0 hcz17_1 hcz17_2);(try clear hcz23_0 hcz23_1 hcz23_2);(try clear hcz36_0 hcz36_1 hcz36_2);(try clear hcz37_0 hcz37_1 hcz37_2);(try clear hcz42_0 hcz42_1 hcz42_2);(try clear hcz6_0 hcz6_1 hcz6_2);(try clear hcz7_0 hcz7_1 hcz7_2);(try clear hfz14_0 hfz14_1 hfz14_2);(try clear hfz17_0 hfz17_1 hfz17_2);(try clear hfz23_0 hfz23_1 hfz23_2);(try clear hfz36_0 hfz36_1 hfz36_2);(try clear hfz37_0 hfz37_1 hfz37_2);(try clear hfz42_0 hfz42_1 hfz42_2)
          (try clear hfz6_0 hfz6_1 hfz6_2);(try clear hfz7_0 hfz7_1 hfz7_2);(try clear p2);(try clear p27);(try clear p6);(try clear p9);(try clear q2);(try clear q27);(try clear q9)
          obtain ⟨x5_4, x138000_4, x138001_4, x139002_4, u139002, rfl, HA, HK4, HO_139002, BK137, BK138, HB⟩ := hrel
          cases gk with
          | zero => exact absurd HA.out (by simp [spec_l5Part.l0])
          | succ k4 =>
           have H := HA.out
           clear HA
           simp only [spec_l5Part.l0] at H
           have HC43 := Aside0.mk H
           clear H
           go_upto_region 18 with (fail)
           go_cut [66] (fun v66 wc => ∃ (kq : Nat) (x66_42 : Bool), v66 = .bool x66_42 ∧ Aside0 (spec_l5Part.j4 kq a0 x5_4 x66_42 x139000_9 x139001_27 x139002_4 = some (r1, r2, r3, r4)) ∧ Aside0 (kq ≤ k4) ∧ Aside0 (Kd.R Kd.string 9 wc w.heap.size (fun _ => True) u139002 x139002_4) ∧ Aside0 (wc.heap[gb137]? = some (.cells #[.string x138000_4, .string x138001_4, (.slice none 0 0)] 71 (0, 0))) ∧ Aside0 (wc.heap[gb138]? = some (.cells #[.string x139000_9, .string x139001_27, u139002] 71 (0, 0))) ∧ Aside0 (Below w.heap.size w wc))
           case first =>
            have H := HC43.out
            clear HC43
            by_cases c44 : x5_4 < (a0.size : Int)
            ·rw [if_pos c44] at H
             have c44b0 : decide (x5_4 < (a0.size : Int)) = true := decide_eq_true c44
             clear c44
             (first | rw [c44b0] | (simp only [i64_w, i32_w]; rw [c44b0]) | skip)
             by_cases c45 : 0 ≤ x5_4
             ·rw [if_pos c45] at H
              have c45b0 : decide (0 ≤ x5_4) = true := decide_eq_true c45
              clear c45
              have H' := Aside0.mk H
              clear H
              have p46 : 0 ≤ (x5_4 : Int) := of_decide_eq_true am_
              have q46 : x5_4 < (a0.size : Int) := of_decide_eq_true am_
              have hx46 := bt_at a0 x5_4
              replace p46 := eq_true p46
              replace q46 := eq_true q46
              go_wp2
              go_meet
              case rel => exact ⟨_, (((bt a0 x5_4) == 46)), sv_, H', ⟨by have := HJ9.out; have := HJ23.out; have := HJ27.out; have := HK4.out; first | omega | exact Nat.le_refl _⟩, ⟨by (with_reducible repeat (first | apply Kd.R_alloc | apply Kd.R_drewN | apply Kd.R_drew)); exact HO_139002.out⟩, ⟨by (with_reducible repeat (first | refine blk_drewN ?_ _ | refine blk_drew ?_ | refine blk_alloc ?_ _)); exact BK137.out⟩, ⟨by (with_reducible repeat (first | refine blk_drewN ?_ _ | refine blk_drew ?_ | refine blk_alloc ?_ _)); exact BK138.out⟩, ⟨bes_⟩⟩
             ·rw [if_neg c45] at H
              exact absurd H (by simp)
            ·rw [if_neg c44] at H
             have c44b0 : decide (x5_4 < (a0.size : Int)) = false := decide_eq_false c44
             clear c44
             (first | rw [c44b0] | (simp only [i64_w, i32_w]; rw [c44b0]) | skip)
             have H' := Aside0.mk H
             clear H
             go_wp2
             go_meet
             case rel => exact ⟨_, (false), sv_, H', ⟨by have := HJ9.out; have := HJ23.out; have := HJ27.out; have := HK4.out; first | omega | exact Nat.le_refl _⟩, ⟨by (with_reducible repeat (first | apply Kd.R_alloc | apply Kd.R_drewN | apply Kd.R_drew)); exact HO_139002.out⟩, ⟨by (with_reducible repeat (first | refine blk_drewN ?_ _ | refine blk_drew ?_ | refine blk_alloc ?_ _)); exact BK137.out⟩, ⟨by (with_reducible repeat (first | refine blk_drewN ?_ _ | refine blk_drew ?_ | refine blk_alloc ?_ _)); exact BK138.out⟩, ⟨bes_⟩⟩
           case rest =>
            clear HC43
            (try clear c1);(try clear c2);(try clear c2b0 c2b1);(try clear p2);(try clear q2);(try clear hx2);(try clear c3);(try clear c4);(try clear p4);(try clear q4);(try clear hx4);(try clear c5);(try clear p6);(try clear c8);(try clear c8b0 c8b1);(try clear p9);(try clear q9);(try clear hx9);(try clear qi9);(try clear c13);(try clear c15);(try clear c15b0 c15b1);(try clear c16);(try clear c19);(try clear c19b0);(try clear c20);(try clear c20b0 c20b1);(try clear c21);(try clear c21b0 c21b1);(try clear c22);(try clear c25);(try clear c25b0);(try clear c26);(try clear c26b0);(try clear p27);(try clear q27);(try clear hx27);(try clear c29);(try clear c31);(try clear c31b0 c31b1);(try clear c32);(try clear c32b0 c32b1);(try clear c34);(try clear c34b0 c34b1);(try clear c35);(try clear c38);(try clear c38b0)
            (try clear c39);(try clear c39b0 c39b1);(try clear c40);(try clear c40b0 c40b1);(try clear c41);(try clear c44);(try clear c44b0);(try clear c45);(try clear c45b0);(try clear p46);(try clear q46);(try clear hx46);(try clear hcz14_0 hcz14_1 hcz14_2);(try clear hcz17_0 hcz17_1 hcz17_2);(try clear hcz23_0 hcz23_1 hcz23_2);(try clear hcz36_0 hcz36_1 hcz36_2);(try clear hcz37_0 hcz37_1 hcz37_2);(try clear hcz42_0 hcz42_1 hcz42_2);(try clear hcz6_0 hcz6_1 hcz6_2);(try clear hcz7_0 hcz7_1 hcz7_2);(try clear hfz14_0 hfz14_1 hfz14_2);(try clear hfz17_0 hfz17_1 hfz17_2);(try clear hfz23_0 hfz23_1 hfz23_2);(try clear hfz36_0)
            (try clear hfz36_1 hfz36_2);(try clear hfz37_0 hfz37_1 hfz37_2);(try clear hfz42_0 hfz42_1 hfz42_2);(try clear hfz6_0 hfz6_1 hfz6_2);(try clear hfz7_0 hfz7_1 hfz7_2);(try clear p2);(try clear p27);(try clear p46);(try clear p6);(try clear p9);(try clear q2);(try clear q27);(try clear q46);(try clear q9)
            obtain ⟨kq, x66_42, rfl, HA, HJ42, HO_139002, BK137, BK138, HB⟩ := hcut
            cases kq with
            | zero => exact absurd HA.out (by simp [spec_l5Part.j4])
            | succ kj42 =>
             have H := HA.out
             clear HA
             simp only [spec_l5Part.j4] at H
             by_cases c47 : x66_42 = true
             ·subst c47
              have H1 : (if 0 ≤ (wrap64 (x5_4 + 1)) then (if (wrap64 (x5_4 + 1)) ≤ (a0.size : Int) then ((spec_l5Run.f kj42 (a0.extract ((wrap64 (x5_4 + 1)) : Int).toNat a0.size)).bind fun t141 => (if t141 = 0 then (some (x139000_9, x139001_27, x139002_4, false)) else (if (x139002_4.length : Int) = 4 then (some (x139000_9, x139001_27, x139002_4, false)) else (if (wrap64 (x5_4 + 1)) ≤ (wrap64 ((wrap64 (x5_4 + 1)) + t141)) then (if (wrap64 ((wrap64 (x5_4 + 1)) + t141)) ≤ (a0.size : Int) then (if x139002_4.length < 8796093022208 then (spec_l5Part.l0 kj42 a0 (wrap64 (x5_4 + (wrap64 (1 + t141)))) x139000_9 x139001_27 (x139002_4 ++ [a0.extract ((wrap64 (x5_4 + 1)) : Int).toNat ((wrap64 ((wrap64 (x5_4 + 1)) + t141)) : Int).toNat])) else (none)) else (none)) else (none))))) else (none)) else (none)) = some (r1, r2, r3, r4) := by rw [if_pos rfl] at H; exact H
              clear H
              have H := H1
              clear H1
              obtain ⟨ji48, hji48⟩ : ∃ j_ : Int, (wrap64 (x5_4 + 1)) = j_ := ⟨_, rfl⟩
              replace H : (if 0 ≤ (ji48) then (if (ji48) ≤ (a0.size : Int) then ((spec_l5Run.f kj42 (a0.extract ((ji48) : Int).toNat a0.size)).bind fun t141 => (if t141 = 0 then (some (x139000_9, x139001_27, x139002_4, false)) else (if (x139002_4.length : Int) = 4 then (some (x139000_9, x139001_27, x139002_4, false)) else (if (ji48) ≤ (wrap64 ((ji48) + t141)) then (if (wrap64 ((ji48) + t141)) ≤ (a0.size : Int) then (if x139002_4.length < 8796093022208 then (spec_l5Part.l0 kj42 a0 (wrap64 (x5_4 + (wrap64 (1 + t141)))) x139000_9 x139001_27 (x139002_4 ++ [a0.extract ((ji48) : Int).toNat ((wrap64 ((ji48) + t141)) : Int).toNat])) else (none)) else (none)) else (none))))) else (none)) else (none)) = some (r1, r2, r3, r4) := by first | (rw [hji48] at H; exact H) | (simp only [hji48] at H ⊢; exact H)
              have hji48w : (IntKind.i64.wrap (x5_4 + 1)) = ji48 := (i64_w _).trans hji48
              by_cases c49 : 0 ≤ (ji48)
              ·rw [if_pos c49] at H
               have c49b0 := eq_true c49
               have c49b1 : decide (0 ≤ (ji48)) = true := decide_eq_true c49
               clear c49
               by_cases c50 : (ji48) ≤ (a0.size : Int)
               ·rw [if_pos c50] at H
                have c50b0 := eq_true c50
                have c50b1 : decide ((ji48) ≤ (a0.size : Int)) = true := decide_eq_true c50
                clear c50
                replace H := Option.bind_eq_some_iff.mp H
                obtain ⟨t141, A510, H⟩ := H
                replace H : (if t141 = 0 then (some (x139000_9, x139001_27, x139002_4, false)) else (if (x139002_4.length : Int) = 4 then (some (x139000_9, x139001_27, x139002_4, false)) else (if (ji48) ≤ (wrap64 ((ji48) + t141)) then (if (wrap64 ((ji48) + t141)) ≤ (a0.size : Int) then (if x139002_4.length < 8796093022208 then (spec_l5Part.l0 kj42 a0 (wrap64 (x5_4 + (wrap64 (1 + t141)))) x139000_9 x139001_27 (x139002_4 ++ [a0.extract ((ji48) : Int).toNat ((wrap64 ((ji48) + t141)) : Int).toNat])) else (none)) else (none)) else (none)))) = some (r1, r2, r3, r4) := H
                have A51 := Aside0.mk A510
                clear A510
                by_cases c52 : t141 = 0
                ·rw [if_pos c52] at H
                 have c52b0 : (t141 == 0) = true := beq_iff_eq.mpr c52
                 have c52b1 : (t141 != 0) = false := bne_eq_false_iff_eq.mpr c52
                 clear c52
                 simp only [Option.some.injEq, Prod.mk.injEq] at H
                 obtain ⟨rfl, rfl, rfl, rfl⟩ := H
                 go_wp2_with (first | ((with_reducible refine gate_callee (f := 161) rfl ?_); refine goesL_ (some 71) rfl rfl Tryd.func161 (by kernel_rfl) rfl #[.string (a0.extract ((ji48) : Int).toNat a0.size)] rfl (by (try simp only [List.map_toArray, List.map_cons, List.map_nil]); first | done | (simp only [hji48]; rfl) | rfl | (simp only [List.length_drop, List.length_take]; rfl)) ?_; (with_reducible refine (spec_l5Run.calls kj42 (a0.extract ((ji48) : Int).toNat a0.size) t141 _ A51.out).mono ?_); rintro e w' ⟨rfl, ⟨nd, rfl⟩⟩; refine ⟨_, rfl, ?_⟩; (try (rw [drewN_self wc]; generalize hq_ : World.drewN wc _ = wc; have n0_ : Aside0 (Kd.R Kd.string 9 wc w.heap.size (fun _ => True) u139002 x139002_4) := ⟨by rw [← hq_]; exact (kdR_ HO_139002.out)⟩; have n1_ : Aside0 (wc.heap[gb137]? = some (.cells #[.string x138000_4, .string x138001_4, .slice none 0 0] 71 (0, 0))) := ⟨by rw [← hq_]; exact (bk_ BK137.out)⟩; have n2_ : Aside0 (wc.heap[gb138]? = some (.cells #[.string x139000_9, .string x139001_27, u139002] 71 (0, 0))) := ⟨by rw [← hq_]; exact (bk_ BK138.out)⟩; have n3_ : Aside0 (Below w.heap.size w wc) := ⟨by rw [← hq_]; exact bes_⟩; clear HO_139002 BK137 BK138 HB hq_; have HO_139002 := n0_; have BK137 := n1_; have BK138 := n2_; have HB := n3_; clear n0_ n1_ n2_ n3_)); have hnb53 := NB138_137.out; have hnc53 := NB137_138.out; have hcz54_0 := bc3_0 BK138.out; have hcz54_1 := bc3_1 BK138.out; have hcz54_2 := bc3_2 BK138.out; have hfz54_0 := blk_frozen BK138.out 0; have hfz54_1 := blk_frozen BK138.out 1; have hfz54_2 := blk_frozen BK138.out 2; have hcz55_0 := bc3_0 BK137.out; have hcz55_1 := bc3_1 BK137.out; have hcz55_2 := bc3_2 BK137.out; have hfz55_0 := blk_frozen BK137.out 0; have hfz55_1 := blk_frozen BK137.out 1; have hfz55_2 := blk_frozen BK137.out 2; obtain ⟨Ao56, co56, eo56⟩ := Kd.R_slice HO_139002.out; subst eo56))
                 refine bodyPost_ret (results_ct rfl _ _ gb137 71 #[.string x139000_9, .string x139001_27, .slice Ao56 x139002_4.length co56] (0, 0) _ rfl (by (with_reducible repeat (first | refine blk_drewN ?_ _ | refine blk_drew ?_ | refine blk_alloc ?_ _)); refine blk_put (cs := #[.string x139000_9, .string x139001_27, .slice none 0 0]) ?_ 2 _ rfl; (with_reducible repeat (first | refine blk_drewN ?_ _ | refine blk_drew ?_ | refine blk_alloc ?_ _)); refine blk_put (cs := #[.string x139000_9, .string x138001_4, .slice none 0 0]) ?_ 1 _ rfl; (with_reducible repeat (first | refine blk_drewN ?_ _ | refine blk_drew ?_ | refine blk_alloc ?_ _)); refine blk_put (cs := #[.string x138000_4, .string x138001_4, .slice none 0 0]) ?_ 0 _ rfl; (with_reducible repeat (first | refine blk_drewN ?_ _ | refine blk_drew ?_ | refine blk_alloc ?_ _)); exact BK137.out) Tryd.underlying71 rfl (by kernel_rfl)) rfl ?_
                 exact ⟨_, by first | rfl | (simp [errW_none, errW_some] <;> rfl) | (simp only [← hji48]; first | rfl | (simp [errW_none, errW_some] <;> rfl)) | (simp [*, errW_none, errW_some] <;> rfl), by (with_reducible repeat (first | apply Kd.R_alloc | apply Kd.R_drewN | apply Kd.R_drew)); exact Kd.R_mono (Kd.R_far (p := ⟨gb137, 2, none⟩) (Kd.R_far (p := ⟨gb137, 1, none⟩) (Kd.R_far (p := ⟨gb137, 0, none⟩) (Kd.R_types HO_139002.out BK137.out (by decide)) (fun _ hk => hk.2) (.string x139000_9)) (fun _ hk => hk.2) (.string x139001_27)) (fun _ hk => hk.2) (.slice Ao56 x139002_4.length co56)) (fun _ hk => trivial), bes_⟩
                ·rw [if_neg c52] at H
                 have c52b0 : (t141 == 0) = false := beq_eq_false_iff_ne.mpr c52
                 have c52b1 : (t141 != 0) = true := bne_iff_ne.mpr c52
                 by_cases c57 : (x139002_4.length : Int) = 4
                 ·rw [if_pos c57] at H
                  have c57b0 : ((x139002_4.length : Int) == 4) = true := beq_iff_eq.mpr c57
                  have c57b1 : ((x139002_4.length : Int) != 4) = false := bne_eq_false_iff_eq.mpr c57
                  clear c57
                  simp only [Option.some.injEq, Prod.mk.injEq] at H
                  obtain ⟨rfl, rfl, rfl, rfl⟩ := H
                  go_wp2_with (first | ((with_reducible refine gate_callee (f := 161) rfl ?_); refine goesL_ (some 71) rfl rfl Tryd.func161 (by kernel_rfl) rfl #[.string (a0.extract ((ji48) : Int).toNat a0.size)] rfl (by (try simp only [List.map_toArray, List.map_cons, List.map_nil]); first | done | (simp only [hji48]; rfl) | rfl | (simp only [List.length_drop, List.length_take]; rfl)) ?_; (with_reducible refine (spec_l5Run.calls kj42 (a0.extract ((ji48) : Int).toNat a0.size) t141 _ A51.out).mono ?_); rintro e w' ⟨rfl, ⟨nd, rfl⟩⟩; refine ⟨_, rfl, ?_⟩; (try (rw [drewN_self wc]; generalize hq_ : World.drewN wc _ = wc; have n0_ : Aside0 (Kd.R Kd.string 9 wc w.heap.size (fun _ => True) u139002 x139002_4) := ⟨by rw [← hq_]; exact (kdR_ HO_139002.out)⟩; have n1_ : Aside0 (wc.heap[gb137]? = some (.cells #[.string x138000_4, .string x138001_4, .slice none 0 0] 71 (0, 0))) := ⟨by rw [← hq_]; exact (bk_ BK137.out)⟩; have n2_ : Aside0 (wc.heap[gb138]? = some (.cells #[.string x139000_9, .string x139001_27, u139002] 71 (0, 0))) := ⟨by rw [← hq_]; exact (bk_ BK138.out)⟩; have n3_ : Aside0 (Below w.heap.size w wc) := ⟨by rw [← hq_]; exact bes_⟩; clear HO_139002 BK137 BK138 HB hq_; have HO_139002 := n0_; have BK137 := n1_; have BK138 := n2_; have HB := n3_; clear n0_ n1_ n2_ n3_)); have hnb58 := NB138_137.out; have hnc58 := NB137_138.out; have hcz59_0 := bc3_0 BK138.out; have hcz59_1 := bc3_1 BK138.out; have hcz59_2 := bc3_2 BK138.out; have hfz59_0 := blk_frozen BK138.out 0; have hfz59_1 := blk_frozen BK138.out 1; have hfz59_2 := blk_frozen BK138.out 2; obtain ⟨Ao60, co60, eo60⟩ := Kd.R_slice HO_139002.out; subst eo60; have hcz61_0 := bc3_0 BK137.out; have hcz61_1 := bc3_1 BK137.out; have hcz61_2 := bc3_2 BK137.out; have hfz61_0 := blk_frozen BK137.out 0; have hfz61_1 := blk_frozen BK137.out 1; have hfz61_2 := blk_frozen BK137.out 2))
                  refine bodyPost_ret (results_ct rfl _ _ gb137 71 #[.string x139000_9, .string x139001_27, .slice Ao60 x139002_4.length co60] (0, 0) _ rfl (by (with_reducible repeat (first | refine blk_drewN ?_ _ | refine blk_drew ?_ | refine blk_alloc ?_ _)); refine blk_put (cs := #[.string x139000_9, .string x139001_27, .slice none 0 0]) ?_ 2 _ rfl; (with_reducible repeat (first | refine blk_drewN ?_ _ | refine blk_drew ?_ | refine blk_alloc ?_ _)); refine blk_put (cs := #[.string x139000_9, .string x138001_4, .slice none 0 0]) ?_ 1 _ rfl; (with_reducible repeat (first | refine blk_drewN ?_ _ | refine blk_drew ?_ | refine blk_alloc ?_ _)); refine blk_put (cs := #[.string x138000_4, .string x138001_4, .slice none 0 0]) ?_ 0 _ rfl; (with_reducible repeat (first | refine blk_drewN ?_ _ | refine blk_drew ?_ | refine blk_alloc ?_ _)); exact BK137.out) Tryd.underlying71 rfl (by kernel_rfl)) rfl ?_
                  exact ⟨_, by first | rfl | (simp [errW_none, errW_some] <;> rfl) | (simp only [← hji48]; first | rfl | (simp [errW_none, errW_some] <;> rfl)) | (simp [*, errW_none, errW_some] <;> rfl), by (with_reducible repeat (first | apply Kd.R_alloc | apply Kd.R_drewN | apply Kd.R_drew)); exact Kd.R_mono (Kd.R_far (p := ⟨gb137, 2, none⟩) (Kd.R_far (p := ⟨gb137, 1, none⟩) (Kd.R_far (p := ⟨gb137, 0, none⟩) (Kd.R_types HO_139002.out BK137.out (by decide)) (fun _ hk => hk.2) (.string x139000_9)) (fun _ hk => hk.2) (.string x139001_27)) (fun _ hk => hk.2) (.slice Ao60 x139002_4.length co60)) (fun _ hk => trivial), bes_⟩
                 ·rw [if_neg c57] at H
                  have c57b0 : ((x139002_4.length : Int) == 4) = false := beq_eq_false_iff_ne.mpr c57
                  have c57b1 : ((x139002_4.length : Int) != 4) = true := bne_iff_ne.mpr c57
                  have c62b0 := eq_true (of_decide_eq_true am_ : 0 ≤ (ji48))
                  by_cases c63 : (ji48) ≤ (wrap64 ((ji48) + t141))
                  ·rw [if_pos c63] at H
                   have c63b0 := eq_true c63
                   have c63b1 : decide ((ji48) ≤ (wrap64 ((ji48) + t141))) = true := decide_eq_true c63
                   by_cases c64 : (wrap64 ((ji48) + t141)) ≤ (a0.size : Int)
                   ·rw [if_pos c64] at H
                    have c64b0 := eq_true c64
                    have c64b1 : decide ((wrap64 ((ji48) + t141)) ≤ (a0.size : Int)) = true := decide_eq_true c64
                    by_cases c65 : x139002_4.length < 8796093022208
                    ·rw [if_pos c65] at H
                     have LMc65 := Aside0.mk c65
                     clear c65
                     obtain ⟨y142, hy142⟩ : ∃ y_ : List ByteArray, y_ = (x139002_4 ++ [a0.extract ((ji48) : Int).toNat ((wrap64 ((ji48) + t141)) : Int).toNat]) := ⟨_, rfl⟩
                     replace H : (spec_l5Part.l0 kj42 a0 (wrap64 (x5_4 + (wrap64 (1 + t141)))) x139000_9 x139001_27 y142) = some (r1, r2, r3, r4) := by first | (rw [hy142]; with_reducible exact H) | (have H2_ := (Option.bind_some _ _).symm.trans H; rw [hy142]; with_reducible exact H2_) | (have H2_ := (Option.bind_some _ _).symm.trans H; with_reducible exact H2_) | with_reducible exact H | (rw [hy142]; exact H) | exact H
                     have Ny142 := Aside0.mk hy142
                     clear hy142
                     have H' := Aside0.mk H
                     clear H
                     try go_wp2_with (first | ((with_reducible refine gate_callee (f := 161) rfl ?_); refine goesL_ (some 71) rfl rfl Tryd.func161 (by kernel_rfl) rfl #[.string (a0.extract ((ji48) : Int).toNat a0.size)] rfl (by (try simp only [List.map_toArray, List.map_cons, List.map_nil]); first | done | (simp only [hji48]; rfl) | rfl | (simp only [List.length_drop, List.length_take]; rfl)) ?_; (with_reducible refine (spec_l5Run.calls kj42 (a0.extract ((ji48) : Int).toNat a0.size) t141 _ A51.out).mono ?_); rintro e w' ⟨rfl, ⟨nd, rfl⟩⟩; refine ⟨_, rfl, ?_⟩; (try (rw [drewN_self wc]; generalize hq_ : World.drewN wc _ = wc; have n0_ : Aside0 (Kd.R Kd.string 9 wc w.heap.size (fun _ => True) u139002 x139002_4) := ⟨by rw [← hq_]; exact (kdR_ HO_139002.out)⟩; have n1_ : Aside0 (wc.heap[gb137]? = some (.cells #[.string x138000_4, .string x138001_4, .slice none 0 0] 71 (0, 0))) := ⟨by rw [← hq_]; exact (bk_ BK137.out)⟩; have n2_ : Aside0 (wc.heap[gb138]? = some (.cells #[.string x139000_9, .string x139001_27, u139002] 71 (0, 0))) := ⟨by rw [← hq_]; exact (bk_ BK138.out)⟩; have n3_ : Aside0 (Below w.heap.size w wc) := ⟨by rw [← hq_]; exact bes_⟩; clear HO_139002 BK137 BK138 HB hq_; have HO_139002 := n0_; have BK137 := n1_; have BK138 := n2_; have HB := n3_; clear n0_ n1_ n2_ n3_)); have hnb66 := NB138_137.out; have hnc66 := NB137_138.out; have hcz67_0 := bc3_0 BK138.out; have hcz67_1 := bc3_1 BK138.out; have hcz67_2 := bc3_2 BK138.out; have hfz67_0 := blk_frozen BK138.out 0; have hfz67_1 := blk_frozen BK138.out 1; have hfz67_2 := blk_frozen BK138.out 2; obtain ⟨Ao68, co68, eo68⟩ := Kd.R_slice HO_139002.out; subst eo68))
                     have n0_ := Aside0.mk (Kd.R_drew HO_139002.out)
                     have n1_ := Aside0.mk (blk_drew BK137.out)
                     have n2_ := Aside0.mk (blk_drew BK138.out)
                     have n3_ := Aside0.mk (below_drew1 HB.out)
                     clear HO_139002
                     clear BK137
                     clear BK138
                     clear HB
                     have HO_139002 := n0_
                     have BK137 := n1_
                     have BK138 := n2_
                     have HB := n3_
                     clear n0_ n1_ n2_ n3_
                     refine start_ (n := 14) (S := fun w' => w'.cell? ⟨gb138, 0, none⟩ = some (.string x139000_9) ∧ w'.cell? ⟨gb138, 1, none⟩ = some (.string x139001_27) ∧ w'.cell? ⟨gb138, 2, none⟩ = some (.slice Ao68 x139002_4.length co68)) (ds := [13]) #[false, false, false, false, false, false, false, false, false, false, false, false, false, false] (by kernel_rfl) rfl rfl ⟨(blk_cell BK138.out 0).trans rfl, (blk_cell BK138.out 1).trans rfl, (blk_cell BK138.out 2).trans rfl⟩ (fun hHeld => ?_); refine with_tabW spec_l5Part.tab22 spec_l5Part.bits22 (fun HT_ HW_ => ?_)
                     generalize wc.drew = w69 at HO_139002 BK137 BK138 HB hHeld ⊢
                     refine pure_ (i := 0) (N := some 81) (v := ?_) (a' := ?_) #[true, false, false, false, false, false, false, false, false, false, false, false, false, false] rfl rfl (any_of HT_.out (by kernel_rfl)) (fun _ _ _ h => h) (Or.inl ⟨by rfl, ?_⟩) ?_ ?_
                     rotate_left
                     ·intro w'
                      go_simp
                      with_reducible rfl
                     rotate_left
                     ·simp only [Act.put, List.setIfInBounds_toArray, List.set_cons_zero, List.set_cons_succ, i64_w, i32_w]
                      rfl
                     refine pure_ (i := 2) (N := some 83) (v := ?_) (a' := ?_) #[true, false, true, false, false, false, false, false, false, false, false, false, false, false] rfl rfl (any_of HT_.out (by kernel_rfl)) (fun _ _ _ h => h) (Or.inl ⟨by rfl, ?_⟩) ?_ ?_
                     rotate_left
                     ·intro w'
                      go_simp
                      with_reducible rfl
                     rotate_left
                     ·simp only [Act.put, List.setIfInBounds_toArray, List.set_cons_zero, List.set_cons_succ, i64_w, i32_w]
                      rfl
                     refine pure_ (i := 3) (N := some 84) (v := ?_) (a' := ?_) #[true, false, true, true, false, false, false, false, false, false, false, false, false, false] rfl rfl (any_of HT_.out (by kernel_rfl)) (fun _ _ _ h => h) (Or.inl ⟨by rfl, ?_⟩) ?_ ?_
                     rotate_left
                     ·intro w'
                      go_simp
                      with_reducible rfl
                     rotate_left
                     ·simp only [Act.put, List.setIfInBounds_toArray, List.set_cons_zero, List.set_cons_succ, i64_w, i32_w]
                      rfl
                     refine pure_ (i := 4) (N := some 85) (v := ?_) (a' := ?_) #[true, false, true, true, true, false, false, false, false, false, false, false, false, false] rfl rfl (any_of HT_.out (by kernel_rfl)) (fun _ _ _ h => h) (Or.inl ⟨by rfl, ?_⟩) ?_ ?_
                     rotate_left
                     ·intro w'
                      go_simp
                      with_reducible rfl
                     rotate_left
                     ·simp only [Act.put, List.setIfInBounds_toArray, List.set_cons_zero, List.set_cons_succ, i64_w, i32_w]
                      rfl
                     refine pure_ (i := 5) (N := some 86) (v := ?_) (a' := ?_) #[true, false, true, true, true, true, false, false, false, false, false, false, false, false] rfl rfl (any_of HT_.out (by kernel_rfl)) (fun _ _ _ h => h) (Or.inl ⟨by rfl, ?_⟩) ?_ ?_
                     rotate_left
                     ·intro w'
                      go_simp
                      with_reducible rfl
                     rotate_left
                     ·simp only [Act.put, List.setIfInBounds_toArray, List.set_cons_zero, List.set_cons_succ, i64_w, i32_w]
                      rfl
                     refine pure_ (i := 6) (N := some 87) (v := ?_) (a' := ?_) #[true, false, true, true, true, true, true, false, false, false, false, false, false, false] rfl rfl (any_of HT_.out (by kernel_rfl)) (fun _ _ _ h => h) (Or.inl ⟨by rfl, ?_⟩) ?_ ?_
                     rotate_left
                     ·intro w'
                      go_simp
                      with_reducible rfl
                     rotate_left
                     ·simp only [Act.put, List.setIfInBounds_toArray, List.set_cons_zero, List.set_cons_succ, i64_w, i32_w]
                      rfl
                     refine pure_ (i := 7) (N := some 88) (v := ?_) (a' := ?_) #[true, false, true, true, true, true, true, true, false, false, false, false, false, false] rfl rfl (any_of HT_.out (by kernel_rfl)) (fun _ _ _ h => h) (Or.inl ⟨by rfl, ?_⟩) ?_ ?_
                     rotate_left
                     ·intro w'
                      go_simp
                      with_reducible rfl
                     rotate_left
                     ·simp only [Act.put, List.setIfInBounds_toArray, List.set_cons_zero, List.set_cons_succ, i64_w, i32_w]
                      rfl
                     refine pure_ (i := 8) (N := some 89) (v := ?_) (a' := ?_) #[true, false, true, true, true, true, true, true, true, false, false, false, false, false] rfl rfl (any_of HT_.out (by kernel_rfl)) (fun _ _ _ h => h) (Or.inl ⟨by rfl, ?_⟩) ?_ ?_
                     rotate_left
                     ·intro w'
                      go_simp
                      with_reducible rfl
                     rotate_left
                     ·simp only [Act.put, List.setIfInBounds_toArray, List.set_cons_zero, List.set_cons_succ, i64_w, i32_w]
                      rfl
                     refine pure_ (i := 9) (N := some 90) (v := ?_) (a' := ?_) #[true, false, true, true, true, true, true, true, true, true, false, false, false, false] rfl rfl (any_of HT_.out (by kernel_rfl)) (fun _ _ _ h => h) (Or.inl ⟨by rfl, ?_⟩) ?_ ?_
                     rotate_left
                     ·intro w'
                      go_simp
                      with_reducible rfl
                     rotate_left
                     ·simp only [Act.put, List.setIfInBounds_toArray, List.set_cons_zero, List.set_cons_succ, i64_w, i32_w]
                      rfl
                     refine take_ (i := 1) (N := some 82) (v := ?_) (a' := ?_) #[true, true, true, true, true, true, true, true, true, true, false, false, false, false] rfl rfl (take_ofW HT_.out HW_.out (by kernel_rfl)) (fun _ _ _ h => h) (Or.inl ⟨by rfl, ?_⟩) hHeld ?_ ?_
                     rotate_left
                     ·rintro w' ⟨s0, s1, s2⟩
                      go_simp
                      with_reducible rfl
                     rotate_left
                     ·simp only [Act.put, List.setIfInBounds_toArray, List.set_cons_zero, List.set_cons_succ, i64_w, i32_w]
                      rfl
                     refine one_ (i := 10) (N := some 91) #[true, true, true, true, true, true, true, true, true, true, true, false, false, false] rfl rfl (one_of HT_.out (by kernel_rfl)) (by decide) (fun K hK => ?_)
                     refine value_ (w1 := ?_) (v := ?_) (by rfl) rfl ?_ ?_
                     rotate_left 2
                     ·go_simp
                      constructor
                      ·rfl
                      ·rfl
                     refine hK.out _ _ ⟨(blk_cell (blk_alloc BK138.out _) 0).trans rfl, (blk_cell (blk_alloc BK138.out _) 1).trans rfl, (blk_cell (blk_alloc BK138.out _) 2).trans rfl⟩ (fun hHeld => ?_)
                     clear hK K
                     refine norm_ (a' := ?_) ?_ ?_
                     rotate_left
                     ·show Act.put _ (some 91) _ = _
                      simp only [Act.put, List.setIfInBounds_toArray, List.set_cons_zero, List.set_cons_succ, i64_w, i32_w]
                      rfl
                     refine one_ (i := 11) (N := some 92) #[true, true, true, true, true, true, true, true, true, true, true, true, false, false] rfl rfl (one_of HT_.out (by kernel_rfl)) (by decide) (fun K hK => ?_)
                     refine Kd.R_append_step Kd.string (w0 := w) w.heap.size (by rfl) (.tmp 82) (.tmp 91) 51 9 (.string ⟨#[]⟩) 16 rfl Tryd.underlying51 info9 rfl (by decide) (by omega) (.slice Ao68 x139002_4.length co68) x139002_4 (a0.extract ((ji48) : Int).toNat ((wrap64 ((ji48) + t141)) : Int).toNat) [.string (a0.extract ((ji48) : Int).toNat ((wrap64 ((ji48) + t141)) : Int).toNat)] (fun _ => True) (fun _ => False) rfl rfl ?aP (fun _ hk => hk.elim) ?aF ?aO ?aB ?aS ?aL ?_
                     (case aP => exact rfl)
                     (case aB => exact bes_)
                     (case aF => exact (fun _ _ => trivial))
                     (case aO => exact (kdR_ HO_139002.out))
                     (case aS => exact (below_size bes_))
                     (case aL => have := LMc65.out; omega)
                     intro v143 w70 ho hb hg hat
                     rw [← Ny142.out] at ho
                     have n0_ := Aside0.mk (blk_grown (g := gb137) (o := .cells #[.string x138000_4, .string x138001_4, .slice none 0 0] 71 (0, 0)) (bk_ BK137.out) hg (Kd.R_ne HO_139002.out BK137.out (by decide)))
                     have n1_ := Aside0.mk (blk_grown (g := gb138) (o := .cells #[.string x139000_9, .string x139001_27, .slice Ao68 x139002_4.length co68] 71 (0, 0)) (bk_ BK138.out) hg (Kd.R_ne HO_139002.out BK138.out (by decide)))
                     have n2_ := Aside0.mk (hb)
                     have n3_ := Aside0.mk (ho)
                     clear BK137
                     clear BK138
                     clear HB
                     clear HO_139002
                     have BK137 := n0_
                     have BK138 := n1_
                     have HB := n2_
                     have HO144 := n3_
                     clear n0_ n1_ n2_ n3_
                     clear ho hb hg hat
                     obtain ⟨Ao71, co71, eo71⟩ := Kd.R_slice HO144.out
                     (first | subst eo71 | (injection eo71 with f1_ f2_ f3_; have f4_ := f1_.symm; have f5_ := f3_.symm; clear f1_ f2_ f3_; subst f4_; subst f5_))
                     refine hK.out _ _ ⟨(blk_cell BK138.out 0).trans rfl, (blk_cell BK138.out 1).trans rfl, (blk_cell BK138.out 2).trans rfl⟩ (fun hHeld => ?_)
                     clear hK K
                     refine norm_ (a' := ?_) ?_ ?_
                     rotate_left
                     ·show Act.put _ (some 92) _ = _
                      simp only [Act.put, List.setIfInBounds_toArray, List.set_cons_zero, List.set_cons_succ, i64_w, i32_w]
                      rfl
                     refine pure_ (i := 12) (N := some 93) (v := ?_) (a' := ?_) #[true, true, true, true, true, true, true, true, true, true, true, true, true, false] rfl rfl (any_of HT_.out (by kernel_rfl)) (fun _ _ _ h => h) (Or.inl ⟨by rfl, ?_⟩) ?_ ?_
                     rotate_left
                     ·intro w'
                      go_simp
                      with_reducible rfl
                     rotate_left
                     ·simp only [Act.put, List.setIfInBounds_toArray, List.set_cons_zero, List.set_cons_succ, i64_w, i32_w]
                      rfl
                     refine last_ (i := 13) (N := none) #[true, true, true, true, true, true, true, true, true, true, true, true, true, true] rfl rfl (one_of HT_.out (by kernel_rfl)) (by decide) (fun K hK => ?_)
                     have hs72 : w70.cell? ⟨gb138, 2, none⟩ = some (.slice Ao68 x139002_4.length co68) := (blk_cell BK138.out 2).trans rfl
                     have hfs72 := blk_frozen BK138.out 2
                     have hns72_0 := NB137_138.out
                     have hms72_0 := NB138_137.out
                     refine skip_ (w1 := ?_) (by rfl) rfl ?_ ?_
                     rotate_left
                     ·go_simp
                      rfl
                     refine hK.out _ _ ?_
                     clear hK K
                     refine done_ (done_of HT_.out (by kernel_rfl)) ?_
                     try go_wp2
                     go_roundg kj42
                     case measure => have := HJ9.out; have := HJ23.out; have := HJ27.out; have := HK4.out; have := HJ42.out; omega
                     case rel => exact ⟨(wrap64 (x5_4 + (wrap64 (1 + t141)))), (x138000_4), (x138001_4), (y142), (.slice Ao71 y142.length co71), sv_, H', ⟨by have := HJ9.out; have := HJ23.out; have := HJ27.out; have := HK4.out; have := HJ42.out; omega⟩, ⟨by (with_reducible repeat (first | apply Kd.R_alloc | apply Kd.R_drewN | apply Kd.R_drew)); exact Kd.R_mono (Kd.R_far (p := ⟨gb138, 2, none⟩) (Kd.R_types HO144.out BK138.out (by decide)) (fun _ hk => hk.2) (.slice Ao71 y142.length co71)) (fun _ hk => trivial)⟩, ⟨by (with_reducible repeat (first | refine blk_drewN ?_ _ | refine blk_drew ?_ | refine blk_alloc ?_ _)); refine blk_far ?_ NB137_138.out _; (with_reducible repeat (first | refine blk_drewN ?_ _ | refine blk_drew ?_ | refine blk_alloc ?_ _)); exact BK137.out⟩, ⟨by (with_reducible repeat (first | refine blk_drewN ?_ _ | refine blk_drew ?_ | refine blk_alloc ?_ _)); refine blk_put (cs := #[.string x139000_9, .string x139001_27, .slice Ao68 x139002_4.length co68]) ?_ 2 _ rfl; (with_reducible repeat (first | refine blk_drewN ?_ _ | refine blk_drew ?_ | refine blk_alloc ?_ _)); exact BK138.out⟩, ⟨bes_⟩⟩
                    ·rw [if_neg c65] at H
                     exact absurd H (by simp)
                   ·rw [if_neg c64] at H
                    exact absurd H (by simp)
                  ·rw [if_neg c63] at H
                   exact absurd H (by simp)
               ·rw [if_neg c50] at H
                exact absurd H (by simp)
              ·rw [if_neg c49] at H
               exact absurd H (by simp)
             ·replace c47 := Bool.eq_false_iff.mpr c47
              subst c47
              have H1 : (some (x139000_9, x139001_27, x139002_4, (x5_4 == (a0.size : Int)))) = some (r1, r2, r3, r4) := by rw [if_neg (show ¬ (false = true) by decide)] at H; exact H
              clear H
              have H := H1
              clear H1
              simp only [Option.some.injEq, Prod.mk.injEq] at H
              obtain ⟨rfl, rfl, rfl, rfl⟩ := H
              have hnb73 := NB138_137.out
              have hnc73 := NB137_138.out
              have hcz74_0 := bc3_0 BK138.out
              have hcz74_1 := bc3_1 BK138.out
              have hcz74_2 := bc3_2 BK138.out
              have hfz74_0 := blk_frozen BK138.out 0
              have hfz74_1 := blk_frozen BK138.out 1
              have hfz74_2 := blk_frozen BK138.out 2
              have hcz75_0 := bc3_0 BK137.out
              have hcz75_1 := bc3_1 BK137.out
              have hcz75_2 := bc3_2 BK137.out
              have hfz75_0 := blk_frozen BK137.out 0
              have hfz75_1 := blk_frozen BK137.out 1
              have hfz75_2 := blk_frozen BK137.out 2
              obtain ⟨Ao76, co76, eo76⟩ := Kd.R_slice HO_139002.out
              subst eo76
              go_wp2
              refine bodyPost_ret (results_ct rfl _ _ gb137 71 #[.string x139000_9, .string x139001_27, .slice Ao76 x139002_4.length co76] (0, 0) _ rfl (by (with_reducible repeat (first | refine blk_drewN ?_ _ | refine blk_drew ?_ | refine blk_alloc ?_ _)); refine blk_put (cs := #[.string x139000_9, .string x139001_27, .slice none 0 0]) ?_ 2 _ rfl; (with_reducible repeat (first | refine blk_drewN ?_ _ | refine blk_drew ?_ | refine blk_alloc ?_ _)); refine blk_put (cs := #[.string x139000_9, .string x138001_4, .slice none 0 0]) ?_ 1 _ rfl; (with_reducible repeat (first | refine blk_drewN ?_ _ | refine blk_drew ?_ | refine blk_alloc ?_ _)); refine blk_put (cs := #[.string x138000_4, .string x138001_4, .slice none 0 0]) ?_ 0 _ rfl; (with_reducible repeat (first | refine blk_drewN ?_ _ | refine blk_drew ?_ | refine blk_alloc ?_ _)); exact BK137.out) Tryd.underlying71 rfl (by kernel_rfl)) rfl ?_
              exact ⟨_, er_, by (with_reducible repeat (first | apply Kd.R_alloc | apply Kd.R_drewN | apply Kd.R_drew)); exact Kd.R_mono (Kd.R_far (p := ⟨gb137, 2, none⟩) (Kd.R_far (p := ⟨gb137, 1, none⟩) (Kd.R_far (p := ⟨gb137, 0, none⟩) (Kd.R_types HO_139002.out BK137.out (by decide)) (fun _ hk => hk.2) (.string x139000_9)) (fun _ hk => hk.2) (.string x139001_27)) (fun _ hk => hk.2) (.slice Ao76 x139002_4.length co76)) (fun _ hk => trivial), bes_⟩
  ·rw [if_neg c8] at H
   exact absurd H (by simp)

end Go.Proofs.YtooilehdljeepaaDoor.PFnExactReadSheet
