-- Laid by a program of this session out of the translation (its own run of the print). Lean checks it.
import Derived.Test.YthfbpmjcjiihnaaGreatDoorPFnExactMarksTextx0
import Derived.Test.YthfbpmjcjiihnaaGreatDoorPFnExactMarksTextx4
import Derived.Test.YthfbpmjcjiihnaaGreatDoorPFnExactMarksTextx5
namespace Go.Proofs.YthfbpmjcjiihnaaGreatDoor.PFnExactMarksText
open Go.RowKit Go.Proofs.YthfbpmjcjiihnaaGreatDoorW.PrintWords Go.Proofs.YthfbpmjcjiihnaaGreatDoorW.PrintLast Go.Proofs.YthfbpmjcjiihnaaGreatDoorW.PrintMore
attribute [local go_sem] max2_int min2_int max_two min_two max_three min_three max_four min_four   -- for this text's walks alone
set_option linter.unusedVariables false
set_option linter.unusedSimpArgs false

/-! ### spec_l4Text: function 11 -/
mutual
def spec_l4Text.l0 : Nat → List (S38) → Int → ByteArray → List (S49) → Int → Int → ByteArray → Int → List (S49) → ByteArray → Option (ByteArray)
 | 0, _, _, _, _, _, _, _, _, _, _ => none
 | k + 1, x0, x1, x6, x25, x26, x27, x156000, x156001, x156002, x156003 => if x27 < x26 then (if 0 ≤ x27 then (if x27 < (x25.length : Int) then (if 1 + ((rd_T49 x25 x27).f0).size ≤ 9223372036854775807 then (if ((⟨#[32]⟩ : ByteArray) ++ ((rd_T49 x25 x27).f0)).size + 2 ≤ 9223372036854775807 then ((spec_l4Told.f k ((rd_T49 x25 x27).f1)).bind fun t159 => (if (((⟨#[32]⟩ : ByteArray) ++ ((rd_T49 x25 x27).f0)) ++ (⟨#[61, 34]⟩ : ByteArray)).size + t159.size ≤ 9223372036854775807 then (if ((((⟨#[32]⟩ : ByteArray) ++ ((rd_T49 x25 x27).f0)) ++ (⟨#[61, 34]⟩ : ByteArray)) ++ t159).size + 1 ≤ 9223372036854775807 then (if x6.size + (((((⟨#[32]⟩ : ByteArray) ++ ((rd_T49 x25 x27).f0)) ++ (⟨#[61, 34]⟩ : ByteArray)) ++ t159) ++ (⟨#[34]⟩ : ByteArray)).size ≤ 9223372036854775807 then (spec_l4Text.l0 k x0 x1 (x6 ++ (((((⟨#[32]⟩ : ByteArray) ++ ((rd_T49 x25 x27).f0)) ++ (⟨#[61, 34]⟩ : ByteArray)) ++ t159) ++ (⟨#[34]⟩ : ByteArray))) x25 x26 (wrap64 (x27 + 1)) x156000 x156001 x156002 x156003) else (none)) else (none)) else (none))) else (none)) else (none)) else (none)) else (none)) else (spec_l4Text.l1 k x0 x1 x6 (⟨#[]⟩ : ByteArray) (wrap64 (x1 + 1)) x156000 x156001 x156002 x156003)
def spec_l4Text.l1 : Nat → List (S38) → Int → ByteArray → ByteArray → Int → ByteArray → Int → List (S49) → ByteArray → Option (ByteArray)
 | 0, _, _, _, _, _, _, _, _, _ => none
 | k + 1, x0, x1, x6, x9, x10, x156000, x156001, x156002, x156003 => if x10 < (x0.length : Int) then (if 0 ≤ x10 then (if ((rd_T38 x0 x10).f1) = x1 then ((spec_l4Text.f k x0 x10).bind fun t161 => (if x9.size + t161.size ≤ 9223372036854775807 then (spec_l4Text.l1 k x0 x1 x6 (x9 ++ t161) (wrap64 (x10 + 1)) x156000 x156001 x156002 x156003) else (none))) else (spec_l4Text.l1 k x0 x1 x6 x9 (wrap64 (x10 + 1)) x156000 x156001 x156002 x156003)) else (none)) else (if x9.toList = ([] : List UInt8) then (if x6.size + 2 ≤ 9223372036854775807 then (some (x6 ++ (⟨#[47, 62]⟩ : ByteArray))) else (none)) else (if x6.size + 1 ≤ 9223372036854775807 then (if (x6 ++ (⟨#[62]⟩ : ByteArray)).size + x9.size ≤ 9223372036854775807 then (if ((x6 ++ (⟨#[62]⟩ : ByteArray)) ++ x9).size + 2 ≤ 9223372036854775807 then (if (((x6 ++ (⟨#[62]⟩ : ByteArray)) ++ x9) ++ (⟨#[60, 47]⟩ : ByteArray)).size + x156000.size ≤ 9223372036854775807 then (if ((((x6 ++ (⟨#[62]⟩ : ByteArray)) ++ x9) ++ (⟨#[60, 47]⟩ : ByteArray)) ++ x156000).size + 1 ≤ 9223372036854775807 then (some (((((x6 ++ (⟨#[62]⟩ : ByteArray)) ++ x9) ++ (⟨#[60, 47]⟩ : ByteArray)) ++ x156000) ++ (⟨#[62]⟩ : ByteArray))) else (none)) else (none)) else (none)) else (none)) else (none)))
def spec_l4Text.f : Nat → List (S38) → Int → Option (ByteArray)
 | 0, _, _ => none
 | k + 1, l0, a1 => if 0 ≤ a1 then (if a1 < (l0.length : Int) then (if ((rd_T38 l0 a1).f0).toList = ([] : List UInt8) then ((spec_l4Told.f k ((rd_T38 l0 a1).f3)).bind fun t156 => (some t156)) else (if 1 + ((rd_T38 l0 a1).f0).size ≤ 9223372036854775807 then (spec_l4Text.l0 k l0 a1 ((⟨#[60]⟩ : ByteArray) ++ ((rd_T38 l0 a1).f0)) ((rd_T38 l0 a1).f2) (((rd_T38 l0 a1).f2).length : Int) 0 ((rd_T38 l0 a1).f0) ((rd_T38 l0 a1).f1) ((rd_T38 l0 a1).f2) ((rd_T38 l0 a1).f3)) else (none))) else (none)) else (none)
end
def spec_l4Text.T8 : Bool × List (List Nat × List Nat) := (true, [([], []), ([], []), ([1], [1]), ([2], [2]), ([3], [3]), ([], []), ([5], [5]), ([6], [6]), ([4, 7], [4, 7]), ([8], [8]), ([0, 9], [0, 9]), ([10, 7, 0, 1, 2, 3, 4, 5, 6, 7, 8, 9, 10], [0, 10])])
def spec_l4Text.B8 : List Nat := [0, 0, 2, 6, 14, 0, 32, 96, 254, 510, 1023, 2047]
theorem spec_l4Text.tab8 : rtab .any (opsOf Tryz.f11 8) = spec_l4Text.T8 := by kernel_rfl
theorem spec_l4Text.bits8 : waitsOk spec_l4Text.T8.2 spec_l4Text.B8 = true := by kernel_rfl
set_option maxHeartbeats 8000000 in
set_option maxRecDepth 100000 in
theorem spec_l4Text.calls (k : Nat) : ∀ (A0 : Option Addr) (c0 : Nat) (l0 : List (S38)) (a1 : Int) (r : ByteArray) (w : World) (hr0 : Kd.C k38 w A0 l0.length l0) (hc0 : l0.length ≤ c0) (h : spec_l4Text.f k l0 a1 = some r),
  Calls Tryz.prog 11 #[.slice A0 l0.length c0, .int .i64 a1] w fun e w' => e = .returned (.string r) ∧ Below w.heap.size w w' := by
 induction k using Nat.strongRecOn with
 | _ k ih =>
 intro A0 c0 l0 a1 r w hr0 hc0 h
 cases k with
 | zero => exact absurd h (by simp [spec_l4Text.f])
 | succ k =>
 simp only [spec_l4Text.f] at h
 have hu38 := Tryz.underlying38
 have hu49 := Tryz.underlying49
 have HR0 := Aside0.mk hr0
 have HC0 := Aside0.mk hc0
 clear hr0 hc0
 have HB := Aside0.mk (Below.refl w.heap.size w)
 have H : (if 0 ≤ a1 then (if a1 < (l0.length : Int) then (if ((rd_T38 l0 a1).f0).toList = ([] : List UInt8) then ((spec_l4Told.f k ((rd_T38 l0 a1).f3)).bind fun t156 => (some t156)) else (if 1 + ((rd_T38 l0 a1).f0).size ≤ 9223372036854775807 then (spec_l4Text.l0 k l0 a1 ((⟨#[60]⟩ : ByteArray) ++ ((rd_T38 l0 a1).f0)) ((rd_T38 l0 a1).f2) (((rd_T38 l0 a1).f2).length : Int) 0 ((rd_T38 l0 a1).f0) ((rd_T38 l0 a1).f1) ((rd_T38 l0 a1).f2) ((rd_T38 l0 a1).f3)) else (none))) else (none)) else (none)) = some r := h
 clear h
 by_cases c3 : 0 ≤ a1
 ·rw [if_pos c3] at H
  have c3b0 : decide (0 ≤ a1) = true := decide_eq_true c3
  clear c3
  by_cases c4 : a1 < (l0.length : Int)
  ·rw [if_pos c4] at H
   have c4b0 : decide (a1 < (l0.length : Int)) = true := decide_eq_true c4
   clear c4
   by_cases c5 : ((rd_T38 l0 a1).f0).toList = ([] : List UInt8)
   ·rw [if_pos c5] at H
    have c5b0 : (((rd_T38 l0 a1).f0).toList == ([] : List UInt8)) = true := beq_iff_eq.mpr c5
    have c5b7 : ((rd_T38 l0 a1).f0).toList.isEmpty = true := by rw [beq_iff_eq.mp c5b0]; rfl
    have c5b8 : ¬ (((rd_T38 l0 a1).f0).toList.isEmpty = false) := fun h_ => by have h9_ := beq_iff_eq.mp c5b0; rw [h9_] at h_; cases h_
    have c5b1 : (((rd_T38 l0 a1).f0).toList != ([] : List UInt8)) = false := bne_eq_false_iff_eq.mpr c5
    clear c5
    replace H := Option.bind_eq_some_iff.mp H
    obtain ⟨t156, A60, H⟩ := H
    replace H : (some t156) = some r := H
    have A6 := Aside0.mk A60
    clear A60
    obtain rfl := Option.some.inj H
    have p154 : 0 ≤ (a1 : Int) := of_decide_eq_true am_
    have q154 : a1 < (l0.length : Int) := of_decide_eq_true am_
    obtain ⟨ad154, A154_2, c154_2, e154, hx154_0, hx154_1, hx154_2, hx154_3, hl154_2, hi154_2⟩ := at_T38 HR0.out a1 p154 q154
    cases e154
    have HR154_2 := Aside0.mk hi154_2
    have HC154_2 := Aside0.mk hl154_2
    clear hi154_2 hl154_2
    replace p154 := eq_true p154
    replace q154 := eq_true q154
    go_enter Tryz.func11, Tryz.ntmps11
    go_wp2_with (first | ((with_reducible refine gate_dst (N := 5) rfl ?_); refine box_event ?hg (N := 5) ?hd (cs := #[.string (⟨#[]⟩ : ByteArray), .int .i64 0, .slice none 0 0, .string (⟨#[]⟩ : ByteArray)]) (t := 38) ?hr ?_; (case hd => rfl); (case hg => rfl); (case hr => first | (go_simp; done) | (go_simp; rfl)); intro gb155 hg w7 hbox hb; have n0_ := Aside0.mk (below_step bel_ hb); have n1_ := Aside0.mk (hbox); have n2_ := Aside0.mk ((by rw [hg]; exact (below_size bel_) : w.heap.size ≤ gb155)); have n3_ := Aside0.mk ((by rw [hg]; exact (below_size bel_) : w.heap.size ≤ gb155)); clear HB; have HB := n0_; have BK155 := n1_; have GW155 := n2_; have GE155 := n3_; clear n0_ n1_ n2_ n3_; clear hb hbox hg; have hcz8_0 := bc4_0 BK155.out; have hcz8_1 := bc4_1 BK155.out; have hcz8_2 := bc4_2 BK155.out; have hcz8_3 := bc4_3 BK155.out; have hfz8_0 := blk_frozen BK155.out 0; have hfz8_1 := blk_frozen BK155.out 1; have hfz8_2 := blk_frozen BK155.out 2; have hfz8_3 := blk_frozen BK155.out 3) | ((with_reducible refine gate_callee (f := 22) rfl ?_); refine goesL_ (some 20) rfl rfl Tryz.func22 (by kernel_rfl) rfl #[.string ((rd_T38 l0 a1).f3)] rfl au_ ?_; (with_reducible refine (spec_l4Told.calls k ((rd_T38 l0 a1).f3) t156 _ A6.out).mono ?_); rintro e w9 ⟨rfl, hb⟩; refine ⟨_, rfl, ?_⟩; have n0_ := Aside0.mk (blk_below (g := gb155) (o := .cells #[.string ((rd_T38 l0 a1).f0), .int .i64 ((rd_T38 l0 a1).f1), .slice A154_2 ((rd_T38 l0 a1).f2).length c154_2, .string ((rd_T38 l0 a1).f3)] 38 (0, 0)) (by (with_reducible repeat (first | refine blk_drewN ?_ _ | refine blk_drew ?_ | refine blk_alloc ?_ _)); refine blk_put (cs := #[.string ((rd_T38 l0 a1).f0), .int .i64 ((rd_T38 l0 a1).f1), .slice A154_2 ((rd_T38 l0 a1).f2).length c154_2, .string (⟨#[]⟩ : ByteArray)]) ?_ 3 _ rfl; (with_reducible repeat (first | refine blk_drewN ?_ _ | refine blk_drew ?_ | refine blk_alloc ?_ _)); refine blk_put (cs := #[.string ((rd_T38 l0 a1).f0), .int .i64 ((rd_T38 l0 a1).f1), .slice none 0 0, .string (⟨#[]⟩ : ByteArray)]) ?_ 2 _ rfl; (with_reducible repeat (first | refine blk_drewN ?_ _ | refine blk_drew ?_ | refine blk_alloc ?_ _)); refine blk_put (cs := #[.string ((rd_T38 l0 a1).f0), .int .i64 0, .slice none 0 0, .string (⟨#[]⟩ : ByteArray)]) ?_ 1 _ rfl; (with_reducible repeat (first | refine blk_drewN ?_ _ | refine blk_drew ?_ | refine blk_alloc ?_ _)); refine blk_put (cs := #[.string (⟨#[]⟩ : ByteArray), .int .i64 0, .slice none 0 0, .string (⟨#[]⟩ : ByteArray)]) ?_ 0 _ rfl; (with_reducible repeat (first | refine blk_drewN ?_ _ | refine blk_drew ?_ | refine blk_alloc ?_ _)); exact BK155.out) hb); have n1_ := Aside0.mk (below_step bes_ hb); clear BK155; clear HB; have BK155 := n0_; have HB := n1_; clear n0_ n1_; (try clear hb);(try clear hb2);(try clear hk);(try clear hi)))
    go_ret
    exact ⟨er_, bes_⟩
   ·rw [if_neg c5] at H
    have c5b0 : (((rd_T38 l0 a1).f0).toList == ([] : List UInt8)) = false := beq_eq_false_iff_ne.mpr c5
    have c5b7 : ((rd_T38 l0 a1).f0).toList.isEmpty = false := Bool.eq_false_iff.mpr (fun h_ => absurd (List.isEmpty_iff.mp h_) (beq_eq_false_iff_ne.mp c5b0))
    have c5b8 : ¬ (((rd_T38 l0 a1).f0).toList.isEmpty = true) := fun h_ => absurd (List.isEmpty_iff.mp h_) (beq_eq_false_iff_ne.mp c5b0)
    have c5b1 : (((rd_T38 l0 a1).f0).toList != ([] : List UInt8)) = true := bne_iff_ne.mpr c5
    by_cases c10 : 1 + ((rd_T38 l0 a1).f0).size ≤ 9223372036854775807
    ·rw [if_pos c10] at H
     have c10b0 := eq_true c10
     have c10b1 : decide (1 + ((rd_T38 l0 a1).f0).size ≤ 9223372036854775807) = true := decide_eq_true c10
     try have c10b2 : (9223372036854775807 < 1 + ((rd_T38 l0 a1).f0).size) = False := eq_false (Nat.not_lt.2 c10)
     have H' := Aside0.mk H
     clear H
     have p154 : 0 ≤ (a1 : Int) := of_decide_eq_true am_
     have q154 : a1 < (l0.length : Int) := of_decide_eq_true am_
     obtain ⟨ad154, A154_2, c154_2, e154, hx154_0, hx154_1, hx154_2, hx154_3, hl154_2, hi154_2⟩ := at_T38 HR0.out a1 p154 q154
     cases e154
     have HR154_2 := Aside0.mk hi154_2
     have HC154_2 := Aside0.mk hl154_2
     clear hi154_2 hl154_2
     replace p154 := eq_true p154
     replace q154 := eq_true q154
     go_enter Tryz.func11, Tryz.ntmps11
     go_wp2_with (first | ((with_reducible refine gate_dst (N := 5) rfl ?_); refine box_event ?hg (N := 5) ?hd (cs := #[.string (⟨#[]⟩ : ByteArray), .int .i64 0, .slice none 0 0, .string (⟨#[]⟩ : ByteArray)]) (t := 38) ?hr ?_; (case hd => rfl); (case hg => rfl); (case hr => first | (go_simp; done) | (go_simp; rfl)); intro gb155 hg w11 hbox hb; have n0_ := Aside0.mk (below_step bel_ hb); have n1_ := Aside0.mk (hbox); have n2_ := Aside0.mk ((by rw [hg]; exact (below_size bel_) : w.heap.size ≤ gb155)); have n3_ := Aside0.mk ((by rw [hg]; exact (below_size bel_) : w.heap.size ≤ gb155)); clear HB; have HB := n0_; have BK155 := n1_; have GW155 := n2_; have GE155 := n3_; clear n0_ n1_ n2_ n3_; clear hb hbox hg; have hcz12_0 := bc4_0 BK155.out; have hcz12_1 := bc4_1 BK155.out; have hcz12_2 := bc4_2 BK155.out; have hcz12_3 := bc4_3 BK155.out; have hfz12_0 := blk_frozen BK155.out 0; have hfz12_1 := blk_frozen BK155.out 1; have hfz12_2 := blk_frozen BK155.out 2; have hfz12_3 := blk_frozen BK155.out 3))
     go_loopg [6, 27] k (fun kq v6 v27 w' => ∃ (x6_1 : ByteArray) (x27_1 : Int), v6 = .string x6_1 ∧ v27 = .int .i64 x27_1 ∧ Aside0 (spec_l4Text.l0 kq l0 a1 x6_1 ((rd_T38 l0 a1).f2) (((rd_T38 l0 a1).f2).length : Int) x27_1 ((rd_T38 l0 a1).f0) ((rd_T38 l0 a1).f1) ((rd_T38 l0 a1).f2) ((rd_T38 l0 a1).f3) = some r) ∧ Aside0 (kq ≤ k) ∧ Aside0 (w'.heap[gb155]? = some (.cells #[.string ((rd_T38 l0 a1).f0), .int .i64 ((rd_T38 l0 a1).f1), (.slice A154_2 ((rd_T38 l0 a1).f2).length c154_2), .string ((rd_T38 l0 a1).f3)] 38 (0, 0))) ∧ Aside0 (Below w.heap.size w w'))
     case atStart => exact ⟨((⟨#[60]⟩ : ByteArray) ++ ((rd_T38 l0 a1).f0)), (0), sv_, sv_, H', ⟨Nat.le_refl _⟩, ⟨by (with_reducible repeat (first | refine blk_drewN ?_ _ | refine blk_drew ?_ | refine blk_alloc ?_ _)); refine blk_put (cs := #[.string ((rd_T38 l0 a1).f0), .int .i64 ((rd_T38 l0 a1).f1), .slice A154_2 ((rd_T38 l0 a1).f2).length c154_2, .string (⟨#[]⟩ : ByteArray)]) ?_ 3 _ rfl; (with_reducible repeat (first | refine blk_drewN ?_ _ | refine blk_drew ?_ | refine blk_alloc ?_ _)); refine blk_put (cs := #[.string ((rd_T38 l0 a1).f0), .int .i64 ((rd_T38 l0 a1).f1), .slice none 0 0, .string (⟨#[]⟩ : ByteArray)]) ?_ 2 _ rfl; (with_reducible repeat (first | refine blk_drewN ?_ _ | refine blk_drew ?_ | refine blk_alloc ?_ _)); refine blk_put (cs := #[.string ((rd_T38 l0 a1).f0), .int .i64 0, .slice none 0 0, .string (⟨#[]⟩ : ByteArray)]) ?_ 1 _ rfl; (with_reducible repeat (first | refine blk_drewN ?_ _ | refine blk_drew ?_ | refine blk_alloc ?_ _)); refine blk_put (cs := #[.string (⟨#[]⟩ : ByteArray), .int .i64 0, .slice none 0 0, .string (⟨#[]⟩ : ByteArray)]) ?_ 0 _ rfl; (with_reducible repeat (first | refine blk_drewN ?_ _ | refine blk_drew ?_ | refine blk_alloc ?_ _)); exact BK155.out⟩, ⟨bes_⟩⟩
     case round =>
      clear H'
      (try clear c1);(try clear p1);(try clear q1);(try clear hx1);(try clear c2);(try clear p2);(try clear c3);(try clear c3b0);(try clear c4);(try clear c4b0);(try clear c5);(try clear c5b0 c5b1);(try clear c10);(try clear c10b0 c10b1 c10b2);(try clear c11);(try clear hcz12_0 hcz12_1 hcz12_2 hcz12_3);(try clear hcz8_0 hcz8_1 hcz8_2 hcz8_3);(try clear hfz12_0 hfz12_1 hfz12_2 hfz12_3);(try clear hfz8_0 hfz8_1 hfz8_2 hfz8_3);(try clear hx154_0);(try clear hx154_1);(try clear hx154_2);(try clear hx154_3);(try clear p154);(try clear q154)
      obtain ⟨x6_1, x27_1, rfl, rfl, HA, HK1, BK155, HB⟩ := hrel
      cases gk with
      | zero => exact absurd HA.out (by simp [spec_l4Text.l0])
      | succ k1 =>
       have H := HA.out
       clear HA
       simp only [spec_l4Text.l0] at H
       by_cases c13 : x27_1 < (((rd_T38 l0 a1).f2).length : Int)
       ·rw [if_pos c13] at H
        have c13b0 : decide (x27_1 < (((rd_T38 l0 a1).f2).length : Int)) = true := decide_eq_true c13
        clear c13
        by_cases c14 : 0 ≤ x27_1
        ·rw [if_pos c14] at H
         have c14b0 : decide (0 ≤ x27_1) = true := decide_eq_true c14
         clear c14
         by_cases c15 : x27_1 < (((rd_T38 l0 a1).f2).length : Int)
         ·rw [if_pos c15] at H
          have c15b0 : decide (x27_1 < (((rd_T38 l0 a1).f2).length : Int)) = true := decide_eq_true c15
          clear c15
          by_cases c16 : 1 + ((rd_T49 ((rd_T38 l0 a1).f2) x27_1).f0).size ≤ 9223372036854775807
          ·rw [if_pos c16] at H
           have c16b0 := eq_true c16
           have c16b1 : decide (1 + ((rd_T49 ((rd_T38 l0 a1).f2) x27_1).f0).size ≤ 9223372036854775807) = true := decide_eq_true c16
           try have c16b2 : (9223372036854775807 < 1 + ((rd_T49 ((rd_T38 l0 a1).f2) x27_1).f0).size) = False := eq_false (Nat.not_lt.2 c16)
           by_cases c17 : ((⟨#[32]⟩ : ByteArray) ++ ((rd_T49 ((rd_T38 l0 a1).f2) x27_1).f0)).size + 2 ≤ 9223372036854775807
           ·rw [if_pos c17] at H
            have c17b0 := eq_true c17
            have c17b1 : decide (((⟨#[32]⟩ : ByteArray) ++ ((rd_T49 ((rd_T38 l0 a1).f2) x27_1).f0)).size + 2 ≤ 9223372036854775807) = true := decide_eq_true c17
            try have c17b2 : (9223372036854775807 < ((⟨#[32]⟩ : ByteArray) ++ ((rd_T49 ((rd_T38 l0 a1).f2) x27_1).f0)).size + 2) = False := eq_false (Nat.not_lt.2 c17)
            try have c17b7 : (9223372036854775807 < (1 + ((rd_T49 ((rd_T38 l0 a1).f2) x27_1).f0).size) + 2) = False := by have h9_ := c17b2; simp only [ByteArray.size_append] at h9_; exact h9_
            replace H := Option.bind_eq_some_iff.mp H
            obtain ⟨t159, A180, H⟩ := H
            replace H : (if (((⟨#[32]⟩ : ByteArray) ++ ((rd_T49 ((rd_T38 l0 a1).f2) x27_1).f0)) ++ (⟨#[61, 34]⟩ : ByteArray)).size + t159.size ≤ 9223372036854775807 then (if ((((⟨#[32]⟩ : ByteArray) ++ ((rd_T49 ((rd_T38 l0 a1).f2) x27_1).f0)) ++ (⟨#[61, 34]⟩ : ByteArray)) ++ t159).size + 1 ≤ 9223372036854775807 then (if x6_1.size + (((((⟨#[32]⟩ : ByteArray) ++ ((rd_T49 ((rd_T38 l0 a1).f2) x27_1).f0)) ++ (⟨#[61, 34]⟩ : ByteArray)) ++ t159) ++ (⟨#[34]⟩ : ByteArray)).size ≤ 9223372036854775807 then (spec_l4Text.l0 k1 l0 a1 (x6_1 ++ (((((⟨#[32]⟩ : ByteArray) ++ ((rd_T49 ((rd_T38 l0 a1).f2) x27_1).f0)) ++ (⟨#[61, 34]⟩ : ByteArray)) ++ t159) ++ (⟨#[34]⟩ : ByteArray))) ((rd_T38 l0 a1).f2) (((rd_T38 l0 a1).f2).length : Int) (wrap64 (x27_1 + 1)) ((rd_T38 l0 a1).f0) ((rd_T38 l0 a1).f1) ((rd_T38 l0 a1).f2) ((rd_T38 l0 a1).f3)) else (none)) else (none)) else (none)) = some r := H
            have A18 := Aside0.mk A180
            clear A180
            by_cases c19 : (((⟨#[32]⟩ : ByteArray) ++ ((rd_T49 ((rd_T38 l0 a1).f2) x27_1).f0)) ++ (⟨#[61, 34]⟩ : ByteArray)).size + t159.size ≤ 9223372036854775807
            ·rw [if_pos c19] at H
             have c19b0 := eq_true c19
             have c19b1 : decide ((((⟨#[32]⟩ : ByteArray) ++ ((rd_T49 ((rd_T38 l0 a1).f2) x27_1).f0)) ++ (⟨#[61, 34]⟩ : ByteArray)).size + t159.size ≤ 9223372036854775807) = true := decide_eq_true c19
             try have c19b2 : (9223372036854775807 < (((⟨#[32]⟩ : ByteArray) ++ ((rd_T49 ((rd_T38 l0 a1).f2) x27_1).f0)) ++ (⟨#[61, 34]⟩ : ByteArray)).size + t159.size) = False := eq_false (Nat.not_lt.2 c19)
             try have c19b7 : (9223372036854775807 < ((1 + ((rd_T49 ((rd_T38 l0 a1).f2) x27_1).f0).size) + 2) + t159.size) = False := by have h9_ := c19b2; simp only [ByteArray.size_append] at h9_; exact h9_
             by_cases c20 : ((((⟨#[32]⟩ : ByteArray) ++ ((rd_T49 ((rd_T38 l0 a1).f2) x27_1).f0)) ++ (⟨#[61, 34]⟩ : ByteArray)) ++ t159).size + 1 ≤ 9223372036854775807
             ·rw [if_pos c20] at H
              have c20b0 := eq_true c20
              have c20b1 : decide (((((⟨#[32]⟩ : ByteArray) ++ ((rd_T49 ((rd_T38 l0 a1).f2) x27_1).f0)) ++ (⟨#[61, 34]⟩ : ByteArray)) ++ t159).size + 1 ≤ 9223372036854775807) = true := decide_eq_true c20
              try have c20b2 : (9223372036854775807 < ((((⟨#[32]⟩ : ByteArray) ++ ((rd_T49 ((rd_T38 l0 a1).f2) x27_1).f0)) ++ (⟨#[61, 34]⟩ : ByteArray)) ++ t159).size + 1) = False := eq_false (Nat.not_lt.2 c20)
              try have c20b7 : (9223372036854775807 < (((1 + ((rd_T49 ((rd_T38 l0 a1).f2) x27_1).f0).size) + 2) + t159.size) + 1) = False := by have h9_ := c20b2; simp only [ByteArray.size_append] at h9_; exact h9_
              by_cases c21 : x6_1.size + (((((⟨#[32]⟩ : ByteArray) ++ ((rd_T49 ((rd_T38 l0 a1).f2) x27_1).f0)) ++ (⟨#[61, 34]⟩ : ByteArray)) ++ t159) ++ (⟨#[34]⟩ : ByteArray)).size ≤ 9223372036854775807
              ·rw [if_pos c21] at H
               have c21b0 := eq_true c21
               have c21b1 : decide (x6_1.size + (((((⟨#[32]⟩ : ByteArray) ++ ((rd_T49 ((rd_T38 l0 a1).f2) x27_1).f0)) ++ (⟨#[61, 34]⟩ : ByteArray)) ++ t159) ++ (⟨#[34]⟩ : ByteArray)).size ≤ 9223372036854775807) = true := decide_eq_true c21
               try have c21b2 : (9223372036854775807 < x6_1.size + (((((⟨#[32]⟩ : ByteArray) ++ ((rd_T49 ((rd_T38 l0 a1).f2) x27_1).f0)) ++ (⟨#[61, 34]⟩ : ByteArray)) ++ t159) ++ (⟨#[34]⟩ : ByteArray)).size) = False := eq_false (Nat.not_lt.2 c21)
               try have c21b7 : (9223372036854775807 < x6_1.size + ((((1 + ((rd_T49 ((rd_T38 l0 a1).f2) x27_1).f0).size) + 2) + t159.size) + 1)) = False := by have h9_ := c21b2; simp only [ByteArray.size_append] at h9_; exact h9_
               have H' := Aside0.mk H
               clear H
               have p157 : 0 ≤ (x27_1 : Int) := of_decide_eq_true am_
               have q157 : x27_1 < (((rd_T38 l0 a1).f2).length : Int) := of_decide_eq_true am_
               obtain ⟨ad157, e157, hx157_0, hx157_1⟩ := at_T49 HR154_2.out x27_1 p157 q157
               cases e157
               replace hx157_0 := pw_cell_below HB.out hx157_0
               replace hx157_1 := pw_cell_below HB.out hx157_1
               replace p157 := eq_true p157
               replace q157 := eq_true q157
               try go_wp2_with (first | ((with_reducible refine gate_dst (N := 8) rfl ?_); refine box_event ?hg (N := 8) ?hd (cs := #[.string (⟨#[]⟩ : ByteArray), .string (⟨#[]⟩ : ByteArray)]) (t := 49) ?hr ?_; (case hd => rfl); (case hg => rfl); (case hr => first | (go_simp; done) | (go_simp; rfl)); intro gb158 hg w22 hbox hb; have n0_ := Aside0.mk (blk_below (g := gb155) (o := .cells #[.string ((rd_T38 l0 a1).f0), .int .i64 ((rd_T38 l0 a1).f1), .slice (some ad157) ((rd_T38 l0 a1).f2).length c154_2, .string ((rd_T38 l0 a1).f3)] 38 (0, 0)) (bk_ BK155.out) hb); have n1_ := Aside0.mk (below_step bes_ hb); have n2_ := Aside0.mk (hbox); have n3_ := Aside0.mk ((by rw [hg]; exact (below_size bes_) : w.heap.size ≤ gb158)); have n4_ := Aside0.mk ((by rw [hg]; exact (below_size bes_) : w.heap.size ≤ gb158)); have n5_ := Aside0.mk ((by rw [hg]; exact Nat.ne_of_lt (blk_lt (g := gb155) (o := .cells #[.string ((rd_T38 l0 a1).f0), .int .i64 ((rd_T38 l0 a1).f1), .slice (some ad157) ((rd_T38 l0 a1).f2).length c154_2, .string ((rd_T38 l0 a1).f3)] 38 (0, 0)) (bk_ BK155.out)) : gb155 ≠ gb158)); have n6_ := Aside0.mk ((by rw [hg]; exact Nat.ne_of_gt (blk_lt (g := gb155) (o := .cells #[.string ((rd_T38 l0 a1).f0), .int .i64 ((rd_T38 l0 a1).f1), .slice (some ad157) ((rd_T38 l0 a1).f2).length c154_2, .string ((rd_T38 l0 a1).f3)] 38 (0, 0)) (bk_ BK155.out)) : gb158 ≠ gb155)); clear BK155; clear HB; have BK155 := n0_; have HB := n1_; have BK158 := n2_; have GW158 := n3_; have GE158 := n4_; have NB155_158 := n5_; have NB158_155 := n6_; clear n0_ n1_ n2_ n3_ n4_ n5_ n6_; clear hb hbox hg; have hnb23 := NB158_155.out; have hnc23 := NB155_158.out; have hcz24_0 := bc2_0 BK158.out; have hcz24_1 := bc2_1 BK158.out; have hfz24_0 := blk_frozen BK158.out 0; have hfz24_1 := blk_frozen BK158.out 1))
               have n0_ : Aside0 (((w22.setCell ⟨gb158, 0, none⟩ (.string ((rd_T49 ((rd_T38 l0 a1).f2) x27_1).f0))).setCell ⟨gb158, 1, none⟩ (.string ((rd_T49 ((rd_T38 l0 a1).f2) x27_1).f1))).heap[gb155]? = some (.cells #[.string ((rd_T38 l0 a1).f0), .int .i64 ((rd_T38 l0 a1).f1), .slice (some ad157) ((rd_T38 l0 a1).f2).length c154_2, .string ((rd_T38 l0 a1).f3)] 38 (0, 0))) := ⟨by (with_reducible repeat (first | refine blk_drewN ?_ _ | refine blk_drew ?_ | refine blk_alloc ?_ _)); refine blk_far ?_ NB155_158.out _; (with_reducible repeat (first | refine blk_drewN ?_ _ | refine blk_drew ?_ | refine blk_alloc ?_ _)); refine blk_far ?_ NB155_158.out _; (with_reducible repeat (first | refine blk_drewN ?_ _ | refine blk_drew ?_ | refine blk_alloc ?_ _)); exact BK155.out⟩
               have n1_ : Aside0 (((w22.setCell ⟨gb158, 0, none⟩ (.string ((rd_T49 ((rd_T38 l0 a1).f2) x27_1).f0))).setCell ⟨gb158, 1, none⟩ (.string ((rd_T49 ((rd_T38 l0 a1).f2) x27_1).f1))).heap[gb158]? = some (.cells #[.string ((rd_T49 ((rd_T38 l0 a1).f2) x27_1).f0), .string ((rd_T49 ((rd_T38 l0 a1).f2) x27_1).f1)] 49 (0, 0))) := ⟨by (with_reducible repeat (first | refine blk_drewN ?_ _ | refine blk_drew ?_ | refine blk_alloc ?_ _)); refine blk_put (cs := #[.string ((rd_T49 ((rd_T38 l0 a1).f2) x27_1).f0), .string (⟨#[]⟩ : ByteArray)]) ?_ 1 _ rfl; (with_reducible repeat (first | refine blk_drewN ?_ _ | refine blk_drew ?_ | refine blk_alloc ?_ _)); refine blk_put (cs := #[.string (⟨#[]⟩ : ByteArray), .string (⟨#[]⟩ : ByteArray)]) ?_ 0 _ rfl; (with_reducible repeat (first | refine blk_drewN ?_ _ | refine blk_drew ?_ | refine blk_alloc ?_ _)); exact BK158.out⟩
               have n2_ : Aside0 (Below w.heap.size w ((w22.setCell ⟨gb158, 0, none⟩ (.string ((rd_T49 ((rd_T38 l0 a1).f2) x27_1).f0))).setCell ⟨gb158, 1, none⟩ (.string ((rd_T49 ((rd_T38 l0 a1).f2) x27_1).f1)))) := ⟨bes_⟩
               (try clear BK155)
               (try clear BK158)
               (try clear HB)
               (try rw [show ∀ (w_ : World) (n_ : Nat) (a_ : Addr) (v_ : Value), (w_.drewN n_).setCell a_ v_ = (w_.setCell a_ v_).drewN n_ from fun _ _ _ _ => rfl])
               generalize ((w22.setCell ⟨gb158, 0, none⟩ (.string ((rd_T49 ((rd_T38 l0 a1).f2) x27_1).f0))).setCell ⟨gb158, 1, none⟩ (.string ((rd_T49 ((rd_T38 l0 a1).f2) x27_1).f1))) = w25 at n0_ n1_ n2_ ⊢
               have BK155 := n0_
               have BK158 := n1_
               have HB := n2_
               clear n0_ n1_ n2_
               have n0_ := Aside0.mk (blk_drew BK155.out)
               have n1_ := Aside0.mk (blk_drew BK158.out)
               have n2_ := Aside0.mk (below_drew1 HB.out)
               clear BK155
               clear BK158
               clear HB
               have BK155 := n0_
               have BK158 := n1_
               have HB := n2_
               clear n0_ n1_ n2_
               refine start_ (n := 12) (S := fun w' => w'.cell? ⟨gb158, 0, none⟩ = some (.string ((rd_T49 ((rd_T38 l0 a1).f2) x27_1).f0)) ∧ w'.cell? ⟨gb158, 1, none⟩ = some (.string ((rd_T49 ((rd_T38 l0 a1).f2) x27_1).f1))) (ds := []) #[false, false, false, false, false, false, false, false, false, false, false, false] (by kernel_rfl) rfl rfl ⟨(blk_cell BK158.out 0).trans rfl, (blk_cell BK158.out 1).trans rfl⟩ (fun hHeld => ?_); refine with_tabW spec_l4Text.tab8 spec_l4Text.bits8 (fun HT_ HW_ => ?_)
               generalize w25.drew = w26 at BK155 BK158 HB hHeld ⊢
               refine pure_ (i := 0) (N := some 31) (v := ?_) (a' := ?_) #[true, false, false, false, false, false, false, false, false, false, false, false] rfl rfl (any_of HT_.out (by kernel_rfl)) (fun _ _ _ h => h) (Or.inl ⟨by rfl, ?_⟩) ?_ ?_
               rotate_left
               ·intro w'
                go_simp
                with_reducible rfl
               rotate_left
               ·simp only [Act.put, List.setIfInBounds_toArray, List.set_cons_zero, List.set_cons_succ, i64_w, i32_w]
                rfl
               refine pure_ (i := 1) (N := some 32) (v := ?_) (a' := ?_) #[true, true, false, false, false, false, false, false, false, false, false, false] rfl rfl (any_of HT_.out (by kernel_rfl)) (fun _ _ _ h => h) (Or.inl ⟨by rfl, ?_⟩) ?_ ?_
               rotate_left
               ·intro w'
                go_simp
                with_reducible rfl
               rotate_left
               ·simp only [Act.put, List.setIfInBounds_toArray, List.set_cons_zero, List.set_cons_succ, i64_w, i32_w]
                rfl
               refine pure_ (i := 5) (N := some 36) (v := ?_) (a' := ?_) #[true, true, false, false, false, true, false, false, false, false, false, false] rfl rfl (any_of HT_.out (by kernel_rfl)) (fun _ _ _ h => h) (Or.inl ⟨by rfl, ?_⟩) ?_ ?_
               rotate_left
               ·intro w'
                go_simp
                with_reducible rfl
               rotate_left
               ·simp only [Act.put, List.setIfInBounds_toArray, List.set_cons_zero, List.set_cons_succ, i64_w, i32_w]
                rfl
               refine take_ (i := 2) (N := some 33) (v := ?_) (a' := ?_) #[true, true, true, false, false, true, false, false, false, false, false, false] rfl rfl (take_ofW HT_.out HW_.out (by kernel_rfl)) (fun _ _ _ h => h) (Or.inl ⟨by rfl, ?_⟩) hHeld ?_ ?_
               rotate_left
               ·rintro w' ⟨s0, s1⟩
                go_simp
                with_reducible rfl
               rotate_left
               ·simp only [Act.put, List.setIfInBounds_toArray, List.set_cons_zero, List.set_cons_succ, i64_w, i32_w]
                rfl
               refine pure_ (i := 3) (N := some 34) (v := ?_) (a' := ?_) #[true, true, true, true, false, true, false, false, false, false, false, false] rfl rfl (any_of HT_.out (by kernel_rfl)) (fun _ _ _ h => h) (Or.inl ⟨by rfl, ?_⟩) ?_ ?_
               rotate_left
               ·intro w'
                go_simp
                with_reducible rfl
               rotate_left
               ·simp only [Act.put, List.setIfInBounds_toArray, List.set_cons_zero, List.set_cons_succ, i64_w, i32_w]
                rfl
               refine pure_ (i := 4) (N := some 35) (v := ?_) (a' := ?_) #[true, true, true, true, true, true, false, false, false, false, false, false] rfl rfl (any_of HT_.out (by kernel_rfl)) (fun _ _ _ h => h) (Or.inl ⟨by rfl, ?_⟩) ?_ ?_
               rotate_left
               ·intro w'
                go_simp
                with_reducible rfl
               rotate_left
               ·simp only [Act.put, List.setIfInBounds_toArray, List.set_cons_zero, List.set_cons_succ, i64_w, i32_w]
                rfl
               refine take_ (i := 6) (N := some 37) (v := ?_) (a' := ?_) #[true, true, true, true, true, true, true, false, false, false, false, false] rfl rfl (take_ofW HT_.out HW_.out (by kernel_rfl)) (fun _ _ _ h => h) (Or.inl ⟨by rfl, ?_⟩) hHeld ?_ ?_
               rotate_left
               ·rintro w' ⟨s0, s1⟩
                go_simp
                with_reducible rfl
               rotate_left
               ·simp only [Act.put, List.setIfInBounds_toArray, List.set_cons_zero, List.set_cons_succ, i64_w, i32_w]
                rfl
               refine one_ (i := 7) (N := some 38) #[true, true, true, true, true, true, true, true, false, false, false, false] rfl rfl (one_of HT_.out (by kernel_rfl)) (by decide) (fun K hK => ?_)
               refine goes_ Tryz.func22 (by kernel_rfl) rfl #[.string ((rd_T49 ((rd_T38 l0 a1).f2) x27_1).f1)] (by rfl) rfl rfl au_ ?_
               with_reducible refine (spec_l4Told.calls k1 ((rd_T49 ((rd_T38 l0 a1).f2) x27_1).f1) t159 _ A18.out).mono ?_
               rintro e w27 ⟨rfl, hb⟩
               refine ⟨_, rfl, ?_⟩
               have n0_ := Aside0.mk (blk_below (g := gb155) (o := .cells #[.string ((rd_T38 l0 a1).f0), .int .i64 ((rd_T38 l0 a1).f1), .slice (some ad157) ((rd_T38 l0 a1).f2).length c154_2, .string ((rd_T38 l0 a1).f3)] 38 (0, 0)) (bk_ BK155.out) hb)
               have n1_ := Aside0.mk (blk_below (g := gb158) (o := .cells #[.string ((rd_T49 ((rd_T38 l0 a1).f2) x27_1).f0), .string ((rd_T49 ((rd_T38 l0 a1).f2) x27_1).f1)] 49 (0, 0)) (bk_ BK158.out) hb)
               have n2_ := Aside0.mk (below_step bes_ hb)
               clear BK155
               clear BK158
               clear HB
               have BK155 := n0_
               have BK158 := n1_
               have HB := n2_
               clear n0_ n1_ n2_
               (try clear hb)
               (try clear hb2)
               (try clear hk)
               (try clear hi)
               refine hK.out _ _ ⟨(blk_cell BK158.out 0).trans rfl, (blk_cell BK158.out 1).trans rfl⟩ (fun hHeld => ?_)
               clear hK K
               refine norm_ (a' := ?_) ?_ ?_
               rotate_left
               ·show Act.put _ (some 38) _ = _
                simp only [Act.put, List.setIfInBounds_toArray, List.set_cons_zero, List.set_cons_succ, i64_w, i32_w]
                rfl
               refine pure_ (i := 8) (N := some 39) (v := ?_) (a' := ?_) #[true, true, true, true, true, true, true, true, true, false, false, false] rfl rfl (any_of HT_.out (by kernel_rfl)) (fun _ _ _ h => h) (Or.inl ⟨by rfl, ?_⟩) ?_ ?_
               rotate_left
               ·intro w'
                go_simp
                with_reducible rfl
               rotate_left
               ·simp only [Act.put, List.setIfInBounds_toArray, List.set_cons_zero, List.set_cons_succ, i64_w, i32_w]
                rfl
               refine pure_ (i := 9) (N := some 40) (v := ?_) (a' := ?_) #[true, true, true, true, true, true, true, true, true, true, false, false] rfl rfl (any_of HT_.out (by kernel_rfl)) (fun _ _ _ h => h) (Or.inl ⟨by rfl, ?_⟩) ?_ ?_
               rotate_left
               ·intro w'
                go_simp
                with_reducible rfl
               rotate_left
               ·simp only [Act.put, List.setIfInBounds_toArray, List.set_cons_zero, List.set_cons_succ, i64_w, i32_w]
                rfl
               refine pure_ (i := 10) (N := some 41) (v := ?_) (a' := ?_) #[true, true, true, true, true, true, true, true, true, true, true, false] rfl rfl (any_of HT_.out (by kernel_rfl)) (fun _ _ _ h => h) (Or.inl ⟨by rfl, ?_⟩) ?_ ?_
               rotate_left
               ·intro w'
                go_simp
                with_reducible rfl
               rotate_left
               ·simp only [Act.put, List.setIfInBounds_toArray, List.set_cons_zero, List.set_cons_succ, i64_w, i32_w]
                rfl
               refine pure_ (i := 11) (N := some 6) (v := ?_) (a' := ?_) #[true, true, true, true, true, true, true, true, true, true, true, true] rfl rfl (any_of HT_.out (by kernel_rfl)) (fun _ _ _ h => h) (Or.inl ⟨by rfl, ?_⟩) ?_ ?_
               rotate_left
               ·intro w'
                go_simp
                with_reducible rfl
               rotate_left
               ·simp only [Act.put, List.setIfInBounds_toArray, List.set_cons_zero, List.set_cons_succ, i64_w, i32_w]
                rfl
               refine done_ (done_of HT_.out (by kernel_rfl)) ?_
               try go_wp2
               go_roundg k1
               case measure => have := HK1.out; omega
               case rel => exact ⟨(x6_1 ++ (((((⟨#[32]⟩ : ByteArray) ++ ((rd_T49 ((rd_T38 l0 a1).f2) x27_1).f0)) ++ (⟨#[61, 34]⟩ : ByteArray)) ++ t159) ++ (⟨#[34]⟩ : ByteArray))), (wrap64 (x27_1 + 1)), sv_, sv_, H', ⟨by have := HK1.out; omega⟩, ⟨by (with_reducible repeat (first | refine blk_drewN ?_ _ | refine blk_drew ?_ | refine blk_alloc ?_ _)); exact BK155.out⟩, ⟨bes_⟩⟩
              ·rw [if_neg c21] at H
               exact absurd H (by simp)
             ·rw [if_neg c20] at H
              exact absurd H (by simp)
            ·rw [if_neg c19] at H
             exact absurd H (by simp)
           ·rw [if_neg c17] at H
            exact absurd H (by simp)
          ·rw [if_neg c16] at H
           exact absurd H (by simp)
         ·rw [if_neg c15] at H
          exact absurd H (by simp)
        ·rw [if_neg c14] at H
         exact absurd H (by simp)
       ·rw [if_neg c13] at H
        have c13b0 : decide (x27_1 < (((rd_T38 l0 a1).f2).length : Int)) = false := decide_eq_false c13
        clear c13
        have H' := Aside0.mk H
        clear H
        go_wp2
        go_loopg [9, 10] k1 (fun kq v9 v10 w' => ∃ (x9_2 : ByteArray) (x10_2 : Int), v9 = .string x9_2 ∧ v10 = .int .i64 x10_2 ∧ Aside0 (spec_l4Text.l1 kq l0 a1 x6_1 x9_2 x10_2 ((rd_T38 l0 a1).f0) ((rd_T38 l0 a1).f1) ((rd_T38 l0 a1).f2) ((rd_T38 l0 a1).f3) = some r) ∧ Aside0 (kq ≤ k1) ∧ Aside0 (w'.heap[gb155]? = some (.cells #[.string ((rd_T38 l0 a1).f0), .int .i64 ((rd_T38 l0 a1).f1), (.slice A154_2 ((rd_T38 l0 a1).f2).length c154_2), .string ((rd_T38 l0 a1).f3)] 38 (0, 0))) ∧ Aside0 (Below w.heap.size w w'))
        case atStart => exact ⟨((⟨#[]⟩ : ByteArray)), (wrap64 (a1 + 1)), sv_, sv_, H', ⟨Nat.le_refl _⟩, ⟨by (with_reducible repeat (first | refine blk_drewN ?_ _ | refine blk_drew ?_ | refine blk_alloc ?_ _)); exact BK155.out⟩, ⟨bes_⟩⟩
        case round =>
         clear H'
         (try clear c1);(try clear p1);(try clear q1);(try clear hx1);(try clear c2);(try clear p2);(try clear c3);(try clear c3b0);(try clear c4);(try clear c4b0);(try clear c5);(try clear c5b0 c5b1);(try clear p6);(try clear c10);(try clear c10b0 c10b1 c10b2);(try clear c11);(try clear c13);(try clear c13b0);(try clear c14);(try clear c14b0);(try clear c15);(try clear c15b0);(try clear p15);(try clear q15);(try clear hx15);(try clear c16);(try clear c16b0 c16b1 c16b2);(try clear c17);(try clear c17b0 c17b1 c17b2);(try clear c19);(try clear c19b0 c19b1 c19b2);(try clear c20);(try clear c20b0 c20b1 c20b2);(try clear c21);(try clear c21b0 c21b1 c21b2);(try clear c22);(try clear c23);(try clear hcz12_0 hcz12_1 hcz12_2 hcz12_3)
         (try clear hcz24_0 hcz24_1);(try clear hcz8_0 hcz8_1 hcz8_2 hcz8_3);(try clear hfz12_0 hfz12_1 hfz12_2 hfz12_3);(try clear hfz24_0 hfz24_1);(try clear hfz8_0 hfz8_1 hfz8_2 hfz8_3);(try clear hx154_0);(try clear hx154_1);(try clear hx154_2);(try clear hx154_3);(try clear hx157_0);(try clear hx157_1);(try clear p1);(try clear p154);(try clear p157);(try clear p2);(try clear q1);(try clear q154);(try clear q157)
         obtain ⟨x9_2, x10_2, rfl, rfl, HA, HK2, BK155, HB⟩ := hrel
         cases gk with
         | zero => exact absurd HA.out (by simp [spec_l4Text.l1])
         | succ k2 =>
          have H := HA.out
          clear HA
          simp only [spec_l4Text.l1] at H
          by_cases c28 : x10_2 < (l0.length : Int)
          ·rw [if_pos c28] at H
           have c28b0 : decide (x10_2 < (l0.length : Int)) = true := decide_eq_true c28
           clear c28
           by_cases c29 : 0 ≤ x10_2
           ·rw [if_pos c29] at H
            have c29b0 : decide (0 ≤ x10_2) = true := decide_eq_true c29
            clear c29
            by_cases c30 : ((rd_T38 l0 x10_2).f1) = a1
            ·rw [if_pos c30] at H
             have c30b0 : (((rd_T38 l0 x10_2).f1) == a1) = true := beq_iff_eq.mpr c30
             have c30b1 : (((rd_T38 l0 x10_2).f1) != a1) = false := bne_eq_false_iff_eq.mpr c30
             clear c30
             replace H := Option.bind_eq_some_iff.mp H
             obtain ⟨t161, A310, H⟩ := H
             replace H : (if x9_2.size + t161.size ≤ 9223372036854775807 then (spec_l4Text.l1 k2 l0 a1 x6_1 (x9_2 ++ t161) (wrap64 (x10_2 + 1)) ((rd_T38 l0 a1).f0) ((rd_T38 l0 a1).f1) ((rd_T38 l0 a1).f2) ((rd_T38 l0 a1).f3)) else (none)) = some r := H
             have A31 := Aside0.mk A310
             clear A310
             by_cases c32 : x9_2.size + t161.size ≤ 9223372036854775807
             ·rw [if_pos c32] at H
              have c32b0 := eq_true c32
              have c32b1 : decide (x9_2.size + t161.size ≤ 9223372036854775807) = true := decide_eq_true c32
              try have c32b2 : (9223372036854775807 < x9_2.size + t161.size) = False := eq_false (Nat.not_lt.2 c32)
              have H' := Aside0.mk H
              clear H
              have p160 : 0 ≤ (x10_2 : Int) := of_decide_eq_true am_
              have q160 : x10_2 < (l0.length : Int) := of_decide_eq_true am_
              obtain ⟨ad160, A160_2, c160_2, e160, hx160_0, hx160_1, hx160_2, hx160_3, hl160_2, hi160_2⟩ := at_T38 HR0.out x10_2 p160 q160
              obtain rfl : ad154 = ad160 := (by injection e160)
              replace hx160_0 := pw_cell_below HB.out hx160_0
              replace hx160_1 := pw_cell_below HB.out hx160_1
              replace hx160_2 := pw_cell_below HB.out hx160_2
              replace hx160_3 := pw_cell_below HB.out hx160_3
              have HR160_2 := Aside0.mk hi160_2
              have HC160_2 := Aside0.mk hl160_2
              clear hi160_2 hl160_2
              replace p160 := eq_true p160
              replace q160 := eq_true q160
              go_wp2_with (first | ((with_reducible refine gate_callee (f := 11) rfl ?_); refine goesL_ (some 61) rfl rfl Tryz.func11 (by kernel_rfl) rfl #[.slice (some ad154) l0.length c0, .int .i64 x10_2] rfl au_ ?_; (with_reducible refine (ih k2 (by have := HK1.out; have := HK2.out; omega) _ _ l0 x10_2 t161 _ ?side1 ?side2 A31.out).mono ?_); (case side1 => exact cs_ (Kd.C_below HR0.out HB.out)); (case side2 => exact HC0.out); rintro e w33 ⟨rfl, hb⟩; refine ⟨_, rfl, ?_⟩; have n0_ := Aside0.mk (blk_below (g := gb155) (o := .cells #[.string ((rd_T38 l0 a1).f0), .int .i64 ((rd_T38 l0 a1).f1), .slice A154_2 ((rd_T38 l0 a1).f2).length c154_2, .string ((rd_T38 l0 a1).f3)] 38 (0, 0)) (bk_ BK155.out) hb); have n1_ := Aside0.mk (below_step bes_ hb); clear BK155; clear HB; have BK155 := n0_; have HB := n1_; clear n0_ n1_; (try clear hb);(try clear hb2);(try clear hk);(try clear hi)))
              go_roundg k2
              case measure => have := HK1.out; have := HK2.out; omega
              case rel => exact ⟨(x9_2 ++ t161), (wrap64 (x10_2 + 1)), sv_, sv_, H', ⟨by have := HK1.out; have := HK2.out; omega⟩, ⟨by (with_reducible repeat (first | refine blk_drewN ?_ _ | refine blk_drew ?_ | refine blk_alloc ?_ _)); exact BK155.out⟩, ⟨bes_⟩⟩
             ·rw [if_neg c32] at H
              exact absurd H (by simp)
            ·rw [if_neg c30] at H
             have c30b0 : (((rd_T38 l0 x10_2).f1) == a1) = false := beq_eq_false_iff_ne.mpr c30
             have c30b1 : (((rd_T38 l0 x10_2).f1) != a1) = true := bne_iff_ne.mpr c30
             have H' := Aside0.mk H
             clear H
             have p160 : 0 ≤ (x10_2 : Int) := of_decide_eq_true am_
             have q160 : x10_2 < (l0.length : Int) := of_decide_eq_true am_
             obtain ⟨ad160, A160_2, c160_2, e160, hx160_0, hx160_1, hx160_2, hx160_3, hl160_2, hi160_2⟩ := at_T38 HR0.out x10_2 p160 q160
             obtain rfl : ad154 = ad160 := (by injection e160)
             replace hx160_0 := pw_cell_below HB.out hx160_0
             replace hx160_1 := pw_cell_below HB.out hx160_1
             replace hx160_2 := pw_cell_below HB.out hx160_2
             replace hx160_3 := pw_cell_below HB.out hx160_3
             have HR160_2 := Aside0.mk hi160_2
             have HC160_2 := Aside0.mk hl160_2
             clear hi160_2 hl160_2
             replace p160 := eq_true p160
             replace q160 := eq_true q160
             go_wp2
             go_roundg k2
             case measure => have := HK1.out; have := HK2.out; omega
             case rel => exact ⟨(x9_2), (wrap64 (x10_2 + 1)), sv_, sv_, H', ⟨by have := HK1.out; have := HK2.out; omega⟩, ⟨by (with_reducible repeat (first | refine blk_drewN ?_ _ | refine blk_drew ?_ | refine blk_alloc ?_ _)); exact BK155.out⟩, ⟨bes_⟩⟩
           ·rw [if_neg c29] at H
            exact absurd H (by simp)
          ·rw [if_neg c28] at H
           have c28b0 : decide (x10_2 < (l0.length : Int)) = false := decide_eq_false c28
           clear c28
           by_cases c34 : x9_2.toList = ([] : List UInt8)
           ·rw [if_pos c34] at H
            have c34b0 : (x9_2.toList == ([] : List UInt8)) = true := beq_iff_eq.mpr c34
            have c34b7 : x9_2.toList.isEmpty = true := by rw [beq_iff_eq.mp c34b0]; rfl
            have c34b8 : ¬ (x9_2.toList.isEmpty = false) := fun h_ => by have h9_ := beq_iff_eq.mp c34b0; rw [h9_] at h_; cases h_
            have c34b1 : (x9_2.toList != ([] : List UInt8)) = false := bne_eq_false_iff_eq.mpr c34
            clear c34
            by_cases c35 : x6_1.size + 2 ≤ 9223372036854775807
            ·rw [if_pos c35] at H
             have c35b0 := eq_true c35
             have c35b1 : decide (x6_1.size + 2 ≤ 9223372036854775807) = true := decide_eq_true c35
             try have c35b2 : (9223372036854775807 < x6_1.size + 2) = False := eq_false (Nat.not_lt.2 c35)
             obtain rfl := Option.some.inj H
             go_wp2
             go_ret
             exact ⟨er_, bes_⟩
            ·rw [if_neg c35] at H
             exact absurd H (by simp)
           ·rw [if_neg c34] at H
            have c34b0 : (x9_2.toList == ([] : List UInt8)) = false := beq_eq_false_iff_ne.mpr c34
            have c34b7 : x9_2.toList.isEmpty = false := Bool.eq_false_iff.mpr (fun h_ => absurd (List.isEmpty_iff.mp h_) (beq_eq_false_iff_ne.mp c34b0))
            have c34b8 : ¬ (x9_2.toList.isEmpty = true) := fun h_ => absurd (List.isEmpty_iff.mp h_) (beq_eq_false_iff_ne.mp c34b0)
            have c34b1 : (x9_2.toList != ([] : List UInt8)) = true := bne_iff_ne.mpr c34
            by_cases c36 : x6_1.size + 1 ≤ 9223372036854775807
            ·rw [if_pos c36] at H
             have c36b0 := eq_true c36
             have c36b1 : decide (x6_1.size + 1 ≤ 9223372036854775807) = true := decide_eq_true c36
             try have c36b2 : (9223372036854775807 < x6_1.size + 1) = False := eq_false (Nat.not_lt.2 c36)
             by_cases c37 : (x6_1 ++ (⟨#[62]⟩ : ByteArray)).size + x9_2.size ≤ 9223372036854775807
             ·rw [if_pos c37] at H
              have c37b0 := eq_true c37
              have c37b1 : decide ((x6_1 ++ (⟨#[62]⟩ : ByteArray)).size + x9_2.size ≤ 9223372036854775807) = true := decide_eq_true c37
              try have c37b2 : (9223372036854775807 < (x6_1 ++ (⟨#[62]⟩ : ByteArray)).size + x9_2.size) = False := eq_false (Nat.not_lt.2 c37)
              try have c37b3 : (9223372036854775807 < (x6_1.size + 1) + x9_2.size) = False := by have h9_ := c37b2; simp only [ByteArray.size_append] at h9_; exact h9_
              try have c37b7 : (9223372036854775807 < (x6_1.size + 1) + x9_2.size) = False := by have h9_ := c37b2; simp only [ByteArray.size_append] at h9_; exact h9_
              by_cases c38 : ((x6_1 ++ (⟨#[62]⟩ : ByteArray)) ++ x9_2).size + 2 ≤ 9223372036854775807
              ·rw [if_pos c38] at H
               have c38b0 := eq_true c38
               have c38b1 : decide (((x6_1 ++ (⟨#[62]⟩ : ByteArray)) ++ x9_2).size + 2 ≤ 9223372036854775807) = true := decide_eq_true c38
               try have c38b2 : (9223372036854775807 < ((x6_1 ++ (⟨#[62]⟩ : ByteArray)) ++ x9_2).size + 2) = False := eq_false (Nat.not_lt.2 c38)
               try have c38b7 : (9223372036854775807 < ((x6_1.size + 1) + x9_2.size) + 2) = False := by have h9_ := c38b2; simp only [ByteArray.size_append] at h9_; exact h9_
               by_cases c39 : (((x6_1 ++ (⟨#[62]⟩ : ByteArray)) ++ x9_2) ++ (⟨#[60, 47]⟩ : ByteArray)).size + ((rd_T38 l0 a1).f0).size ≤ 9223372036854775807
               ·rw [if_pos c39] at H
                have c39b0 := eq_true c39
                have c39b1 : decide ((((x6_1 ++ (⟨#[62]⟩ : ByteArray)) ++ x9_2) ++ (⟨#[60, 47]⟩ : ByteArray)).size + ((rd_T38 l0 a1).f0).size ≤ 9223372036854775807) = true := decide_eq_true c39
                try have c39b2 : (9223372036854775807 < (((x6_1 ++ (⟨#[62]⟩ : ByteArray)) ++ x9_2) ++ (⟨#[60, 47]⟩ : ByteArray)).size + ((rd_T38 l0 a1).f0).size) = False := eq_false (Nat.not_lt.2 c39)
                try have c39b7 : (9223372036854775807 < (((x6_1.size + 1) + x9_2.size) + 2) + ((rd_T38 l0 a1).f0).size) = False := by have h9_ := c39b2; simp only [ByteArray.size_append] at h9_; exact h9_
                by_cases c40 : ((((x6_1 ++ (⟨#[62]⟩ : ByteArray)) ++ x9_2) ++ (⟨#[60, 47]⟩ : ByteArray)) ++ ((rd_T38 l0 a1).f0)).size + 1 ≤ 9223372036854775807
                ·rw [if_pos c40] at H
                 have c40b0 := eq_true c40
                 have c40b1 : decide (((((x6_1 ++ (⟨#[62]⟩ : ByteArray)) ++ x9_2) ++ (⟨#[60, 47]⟩ : ByteArray)) ++ ((rd_T38 l0 a1).f0)).size + 1 ≤ 9223372036854775807) = true := decide_eq_true c40
                 try have c40b2 : (9223372036854775807 < ((((x6_1 ++ (⟨#[62]⟩ : ByteArray)) ++ x9_2) ++ (⟨#[60, 47]⟩ : ByteArray)) ++ ((rd_T38 l0 a1).f0)).size + 1) = False := eq_false (Nat.not_lt.2 c40)
                 try have c40b7 : (9223372036854775807 < ((((x6_1.size + 1) + x9_2.size) + 2) + ((rd_T38 l0 a1).f0).size) + 1) = False := by have h9_ := c40b2; simp only [ByteArray.size_append] at h9_; exact h9_
                 obtain rfl := Option.some.inj H
                 have hcz41_0 := bc4_0 BK155.out
                 have hcz41_1 := bc4_1 BK155.out
                 have hcz41_2 := bc4_2 BK155.out
                 have hcz41_3 := bc4_3 BK155.out
                 have hfz41_0 := blk_frozen BK155.out 0
                 have hfz41_1 := blk_frozen BK155.out 1
                 have hfz41_2 := blk_frozen BK155.out 2
                 have hfz41_3 := blk_frozen BK155.out 3
                 go_wp2
                 go_ret
                 exact ⟨er_, bes_⟩
                ·rw [if_neg c40] at H
                 exact absurd H (by simp)
               ·rw [if_neg c39] at H
                exact absurd H (by simp)
              ·rw [if_neg c38] at H
               exact absurd H (by simp)
             ·rw [if_neg c37] at H
              exact absurd H (by simp)
            ·rw [if_neg c36] at H
             exact absurd H (by simp)
    ·rw [if_neg c10] at H
     exact absurd H (by simp)
  ·rw [if_neg c4] at H
   exact absurd H (by simp)
 ·rw [if_neg c3] at H
  exact absurd H (by simp)

/-! ### spec_MarksText: function 5 -/
def spec_MarksText.f (k : Nat) (l0 : List (S38)) : Option (ByteArray × Bool) := (spec_GoodNodes.f k l0).bind fun t162 => (if t162 = true then ((spec_l4Text.f k l0 0).bind fun t163 => (if (t163.size : Int) > 3000 then (some ((⟨#[]⟩ : ByteArray), false)) else (some (t163, true)))) else (some ((⟨#[]⟩ : ByteArray), false)))
set_option maxHeartbeats 8000000 in
set_option maxRecDepth 100000 in
theorem spec_MarksText.calls (k : Nat) (A0 : Option Addr) (c0 : Nat) (l0 : List (S38)) (r1 : ByteArray) (r2 : Bool) (w : World) (hr0 : Kd.C k38 w A0 l0.length l0) (hc0 : l0.length ≤ c0) (h : spec_MarksText.f k l0 = some (r1, r2)) :
  Calls Tryz.prog 5 #[.slice A0 l0.length c0] w fun e w' => e = .returned (.tuple #[.string r1, .bool r2]) ∧ Below w.heap.size w w' := by
 have HR0 := Aside0.mk hr0
 have HC0 := Aside0.mk hc0
 clear hr0 hc0
 have HB := Aside0.mk (Below.refl w.heap.size w)
 have H : ((spec_GoodNodes.f k l0).bind fun t162 => (if t162 = true then ((spec_l4Text.f k l0 0).bind fun t163 => (if (t163.size : Int) > 3000 then (some ((⟨#[]⟩ : ByteArray), false)) else (some (t163, true)))) else (some ((⟨#[]⟩ : ByteArray), false)))) = some (r1, r2) := h
 clear h
 replace H := Option.bind_eq_some_iff.mp H
 obtain ⟨t162, A20, H⟩ := H
 replace H : (if t162 = true then ((spec_l4Text.f k l0 0).bind fun t163 => (if (t163.size : Int) > 3000 then (some ((⟨#[]⟩ : ByteArray), false)) else (some (t163, true)))) else (some ((⟨#[]⟩ : ByteArray), false))) = some (r1, r2) := H
 have A2 := Aside0.mk A20
 clear A20
 by_cases c3 : t162 = true
 ·subst c3
  have H1 : ((spec_l4Text.f k l0 0).bind fun t163 => (if (t163.size : Int) > 3000 then (some ((⟨#[]⟩ : ByteArray), false)) else (some (t163, true)))) = some (r1, r2) := by rw [if_pos rfl] at H; exact H
  clear H
  have H := H1
  clear H1
  replace H := Option.bind_eq_some_iff.mp H
  obtain ⟨t163, A40, H⟩ := H
  replace H : (if (t163.size : Int) > 3000 then (some ((⟨#[]⟩ : ByteArray), false)) else (some (t163, true))) = some (r1, r2) := H
  have A4 := Aside0.mk A40
  clear A40
  by_cases c5 : (t163.size : Int) > 3000
  ·rw [if_pos c5] at H
   have c5b0 : decide (3000 < (t163.size : Int)) = true := decide_eq_true c5
   have c5b1 : decide (3000 < t163.size) = true := decide_eq_true (by omega)
   clear c5
   simp only [Option.some.injEq, Prod.mk.injEq] at H
   obtain ⟨rfl, rfl⟩ := H
   go_enter Tryz.func5, Tryz.ntmps5
   go_wp2_with (first | ((with_reducible refine gate_callee (f := 10) rfl ?_); refine goesL_ (some 6) rfl rfl Tryz.func10 (by kernel_rfl) rfl #[.slice A0 l0.length c0] rfl au_ ?_; (with_reducible refine (spec_GoodNodes.calls k _ _ l0 true _ ?side1 ?side2 A2.out).mono ?_); (case side1 => exact cs_ HR0.out); (case side2 => exact HC0.out); rintro e w6 ⟨rfl, hb⟩; refine ⟨_, rfl, ?_⟩; have n0_ := Aside0.mk (below_step bel_ hb); clear HB; have HB := n0_; clear n0_; (try clear hb);(try clear hb2);(try clear hk);(try clear hi)) | ((with_reducible refine gate_callee (f := 11) rfl ?_); refine goesL_ (some 9) rfl rfl Tryz.func11 (by kernel_rfl) rfl #[.slice A0 l0.length c0, .int .i64 0] rfl au_ ?_; (with_reducible refine (spec_l4Text.calls k _ _ l0 0 t163 _ ?side1 ?side2 A4.out).mono ?_); (case side1 => exact cs_ (Kd.C_below HR0.out HB.out)); (case side2 => exact HC0.out); rintro e w7 ⟨rfl, hb⟩; refine ⟨_, rfl, ?_⟩; have n0_ := Aside0.mk (below_step bel_ hb); clear HB; have HB := n0_; clear n0_; (try clear hb);(try clear hb2);(try clear hk);(try clear hi)))
   go_ret2
   exact ⟨er_, bel_⟩
  ·rw [if_neg c5] at H
   have c5b0 : decide (3000 < (t163.size : Int)) = false := decide_eq_false c5
   have c5b1 : decide (3000 < t163.size) = false := decide_eq_false (by omega)
   clear c5
   simp only [Option.some.injEq, Prod.mk.injEq] at H
   obtain ⟨rfl, rfl⟩ := H
   go_enter Tryz.func5, Tryz.ntmps5
   go_wp2_with (first | ((with_reducible refine gate_callee (f := 10) rfl ?_); refine goesL_ (some 6) rfl rfl Tryz.func10 (by kernel_rfl) rfl #[.slice A0 l0.length c0] rfl au_ ?_; (with_reducible refine (spec_GoodNodes.calls k _ _ l0 true _ ?side1 ?side2 A2.out).mono ?_); (case side1 => exact cs_ HR0.out); (case side2 => exact HC0.out); rintro e w8 ⟨rfl, hb⟩; refine ⟨_, rfl, ?_⟩; have n0_ := Aside0.mk (below_step bel_ hb); clear HB; have HB := n0_; clear n0_; (try clear hb);(try clear hb2);(try clear hk);(try clear hi)) | ((with_reducible refine gate_callee (f := 11) rfl ?_); refine goesL_ (some 9) rfl rfl Tryz.func11 (by kernel_rfl) rfl #[.slice A0 l0.length c0, .int .i64 0] rfl au_ ?_; (with_reducible refine (spec_l4Text.calls k _ _ l0 0 t163 _ ?side1 ?side2 A4.out).mono ?_); (case side1 => exact cs_ (Kd.C_below HR0.out HB.out)); (case side2 => exact HC0.out); rintro e w9 ⟨rfl, hb⟩; refine ⟨_, rfl, ?_⟩; have n0_ := Aside0.mk (below_step bel_ hb); clear HB; have HB := n0_; clear n0_; (try clear hb);(try clear hb2);(try clear hk);(try clear hi)))
   go_ret2
   exact ⟨er_, bel_⟩
 ·replace c3 := Bool.eq_false_iff.mpr c3
  subst c3
  have H1 : (some ((⟨#[]⟩ : ByteArray), false)) = some (r1, r2) := by rw [if_neg (show ¬ (false = true) by decide)] at H; exact H
  clear H
  have H := H1
  clear H1
  simp only [Option.some.injEq, Prod.mk.injEq] at H
  obtain ⟨rfl, rfl⟩ := H
  go_enter Tryz.func5, Tryz.ntmps5
  go_wp2_with (first | ((with_reducible refine gate_callee (f := 10) rfl ?_); refine goesL_ (some 6) rfl rfl Tryz.func10 (by kernel_rfl) rfl #[.slice A0 l0.length c0] rfl au_ ?_; (with_reducible refine (spec_GoodNodes.calls k _ _ l0 false _ ?side1 ?side2 A2.out).mono ?_); (case side1 => exact cs_ HR0.out); (case side2 => exact HC0.out); rintro e w10 ⟨rfl, hb⟩; refine ⟨_, rfl, ?_⟩; have n0_ := Aside0.mk (below_step bel_ hb); clear HB; have HB := n0_; clear n0_; (try clear hb);(try clear hb2);(try clear hk);(try clear hi)))
  go_ret2
  exact ⟨er_, bel_⟩

/-! ### laws_toAttr: function 38 -/
def laws_toAttr.f (a0_0 : ByteArray) (a0_1 : ByteArray) : Option (ByteArray × ByteArray) := some (a0_0, a0_1)
set_option maxHeartbeats 8000000 in
set_option maxRecDepth 100000 in
theorem laws_toAttr.calls (a0_0 : ByteArray) (a0_1 : ByteArray) (r1 : ByteArray) (r2 : ByteArray) (w : World) (h : laws_toAttr.f a0_0 a0_1 = some (r1, r2)) :
  Calls Tryz.prog 38 #[.agg #[.string a0_0, .string a0_1]] w fun e w' => e = .returned (.agg #[.string r1, .string r2]) ∧ Below w.heap.size w w' := by
 have hu56 := Tryz.underlying56
 have hu49 := Tryz.underlying49
 have HB := Aside0.mk (Below.refl w.heap.size w)
 have H : (some (a0_0, a0_1)) = some (r1, r2) := h
 clear h
 simp only [Option.some.injEq, Prod.mk.injEq] at H
 obtain ⟨rfl, rfl⟩ := H
 go_enter Tryz.func38, Tryz.ntmps38
 go_wp2_with (first | ((with_reducible refine gate_dst (N := 1) rfl ?_); refine box_event ?hg (N := 1) ?hd (cs := #[.string a0_0, .string a0_1]) (t := 56) ?hr ?_; (case hd => rfl); (case hg => rfl); (case hr => first | (go_simp; done) | (go_simp; rfl)); intro gb164 hg w2 hbox hb; have n0_ := Aside0.mk (below_step bel_ hb); have n1_ := Aside0.mk (hbox); have n2_ := Aside0.mk ((by rw [hg]; exact (below_size bel_) : w.heap.size ≤ gb164)); have n3_ := Aside0.mk ((by rw [hg]; exact (below_size bel_) : w.heap.size ≤ gb164)); clear HB; have HB := n0_; have BK164 := n1_; have GW164 := n2_; have GE164 := n3_; clear n0_ n1_ n2_ n3_; clear hb hbox hg) | ((with_reducible refine gate_dst (N := 2) rfl ?_); refine box_event ?hg (N := 2) ?hd (cs := #[.string (⟨#[]⟩ : ByteArray), .string (⟨#[]⟩ : ByteArray)]) (t := 49) ?hr ?_; (case hd => rfl); (case hg => rfl); (case hr => first | (go_simp; done) | (go_simp; rfl)); intro gb165 hg w3 hbox hb; have n0_ := Aside0.mk (blk_below (g := gb164) (o := .cells #[.string a0_0, .string a0_1] 56 (0, 0)) (bk_ BK164.out) hb); have n1_ := Aside0.mk (below_step bes_ hb); have n2_ := Aside0.mk (hbox); have n3_ := Aside0.mk ((by rw [hg]; exact (below_size bes_) : w.heap.size ≤ gb165)); have n4_ := Aside0.mk ((by rw [hg]; exact (below_size bes_) : w.heap.size ≤ gb165)); have n5_ := Aside0.mk ((by rw [hg]; exact Nat.ne_of_lt (blk_lt (g := gb164) (o := .cells #[.string a0_0, .string a0_1] 56 (0, 0)) (bk_ BK164.out)) : gb164 ≠ gb165)); have n6_ := Aside0.mk ((by rw [hg]; exact Nat.ne_of_gt (blk_lt (g := gb164) (o := .cells #[.string a0_0, .string a0_1] 56 (0, 0)) (bk_ BK164.out)) : gb165 ≠ gb164)); clear BK164; clear HB; have BK164 := n0_; have HB := n1_; have BK165 := n2_; have GW165 := n3_; have GE165 := n4_; have NB164_165 := n5_; have NB165_164 := n6_; clear n0_ n1_ n2_ n3_ n4_ n5_ n6_; clear hb hbox hg) | ((with_reducible refine gate_dst (N := 3) rfl ?_); refine box_event ?hg (N := 3) ?hd (cs := #[.string (⟨#[]⟩ : ByteArray), .string (⟨#[]⟩ : ByteArray)]) (t := 49) ?hr ?_; (case hd => rfl); (case hg => rfl); (case hr => first | (go_simp; done) | (go_simp; rfl)); intro gb166 hg w4 hbox hb; have n0_ := Aside0.mk (blk_below (g := gb164) (o := .cells #[.string a0_0, .string a0_1] 56 (0, 0)) (bk_ BK164.out) hb); have n1_ := Aside0.mk (blk_below (g := gb165) (o := .cells #[.string (⟨#[]⟩ : ByteArray), .string (⟨#[]⟩ : ByteArray)] 49 (0, 0)) (bk_ BK165.out) hb); have n2_ := Aside0.mk (below_step bes_ hb); have n3_ := Aside0.mk (hbox); have n4_ := Aside0.mk ((by rw [hg]; exact (below_size bes_) : w.heap.size ≤ gb166)); have n5_ := Aside0.mk ((by rw [hg]; exact (below_size bes_) : w.heap.size ≤ gb166)); have n6_ := Aside0.mk ((by rw [hg]; exact Nat.ne_of_lt (blk_lt (g := gb164) (o := .cells #[.string a0_0, .string a0_1] 56 (0, 0)) (bk_ BK164.out)) : gb164 ≠ gb166)); have n7_ := Aside0.mk ((by rw [hg]; exact Nat.ne_of_gt (blk_lt (g := gb164) (o := .cells #[.string a0_0, .string a0_1] 56 (0, 0)) (bk_ BK164.out)) : gb166 ≠ gb164)); have n8_ := Aside0.mk ((by rw [hg]; exact Nat.ne_of_lt (blk_lt (g := gb165) (o := .cells #[.string (⟨#[]⟩ : ByteArray), .string (⟨#[]⟩ : ByteArray)] 49 (0, 0)) (bk_ BK165.out)) : gb165 ≠ gb166)); have n9_ := Aside0.mk ((by rw [hg]; exact Nat.ne_of_gt (blk_lt (g := gb165) (o := .cells #[.string (⟨#[]⟩ : ByteArray), .string (⟨#[]⟩ : ByteArray)] 49 (0, 0)) (bk_ BK165.out)) : gb166 ≠ gb165)); clear BK164; clear BK165; clear HB; have BK164 := n0_; have BK165 := n1_; have HB := n2_; have BK166 := n3_; have GW166 := n4_; have GE166 := n5_; have NB164_166 := n6_; have NB166_164 := n7_; have NB165_166 := n8_; have NB166_165 := n9_; clear n0_ n1_ n2_ n3_ n4_ n5_ n6_ n7_ n8_ n9_; clear hb hbox hg; have hnb5 := NB164_165.out; have hnc5 := NB165_164.out; have hnb6 := NB164_166.out; have hnc6 := NB166_164.out; have hcz7_0 := bc2_0 BK164.out; have hcz7_1 := bc2_1 BK164.out; have hfz7_0 := blk_frozen BK164.out 0; have hfz7_1 := blk_frozen BK164.out 1; have hnb8 := NB166_165.out; have hnc8 := NB165_166.out; have hcz9_0 := bc2_0 BK166.out; have hcz9_1 := bc2_1 BK166.out; have hfz9_0 := blk_frozen BK166.out 0; have hfz9_1 := blk_frozen BK166.out 1; have hcz10_0 := bc2_0 BK165.out; have hcz10_1 := bc2_1 BK165.out; have hfz10_0 := blk_frozen BK165.out 0; have hfz10_1 := blk_frozen BK165.out 1))
 refine bodyPost_ret (results_cell_row rfl _ _ gb165 49 #[.string a0_0, .string a0_1] (0, 0) _ rfl (by (with_reducible repeat (first | refine blk_drewN ?_ _ | refine blk_drew ?_ | refine blk_alloc ?_ _)); refine blk_put (cs := #[.string a0_0, .string (⟨#[]⟩ : ByteArray)]) ?_ 1 _ rfl; (with_reducible repeat (first | refine blk_drewN ?_ _ | refine blk_drew ?_ | refine blk_alloc ?_ _)); refine blk_put (cs := #[.string (⟨#[]⟩ : ByteArray), .string (⟨#[]⟩ : ByteArray)]) ?_ 0 _ rfl; (with_reducible repeat (first | refine blk_drewN ?_ _ | refine blk_drew ?_ | refine blk_alloc ?_ _)); refine blk_far ?_ NB165_166.out _; (with_reducible repeat (first | refine blk_drewN ?_ _ | refine blk_drew ?_ | refine blk_alloc ?_ _)); refine blk_far ?_ NB165_166.out _; (with_reducible repeat (first | refine blk_drewN ?_ _ | refine blk_drew ?_ | refine blk_alloc ?_ _)); exact BK165.out) Tryz.underlying49 rfl (by kernel_rfl)) rfl ?_
 exact ⟨er_, bes_⟩

/-! ### laws_toAttrS: function 23 -/
def laws_toAttrS.l0 : Nat → List (S56) → List (S49) → Int → Option ((List (S49)))
 | 0, _, _, _ => none
 | k + 1, x0, x3, x4 => if x4 < (x0.length : Int) then (if 0 ≤ x4 then ((laws_toAttr.f ((rd_T56 x0 x4).f0) ((rd_T56 x0 x4).f1)).bind fun bt171 => (if x4 < (x3.length : Int) then (laws_toAttrS.l0 k x0 (x3.set (x4 : Int).toNat (⟨bt171.1, bt171.2⟩ : S49)) (wrap64 (x4 + 1))) else (none))) else (none)) else (some x3)
def laws_toAttrS.f (k : Nat) (l0 : List (S56)) : Option ((List (S49))) := if 0 ≤ (l0.length : Int) then (if ((l0.length : Int) : Int).toNat ≤ 8796093022208 then (laws_toAttrS.l0 k l0 (List.replicate ((l0.length : Int) : Int).toNat z49) 0) else (none)) else (none)
set_option maxHeartbeats 8000000 in
set_option maxRecDepth 100000 in
theorem laws_toAttrS.calls (k : Nat) (A0 : Option Addr) (c0 : Nat) (l0 : List (S56)) (r : List (S49)) (w : World) (hr0 : Kd.C k56 w A0 l0.length l0) (hc0 : l0.length ≤ c0) (h : laws_toAttrS.f k l0 = some r) :
  Calls Tryz.prog 23 #[.slice A0 l0.length c0] w fun e w' => ∃ v0_ : Value, e = .returned (v0_) ∧ Kd.R k49 49 w' w.heap.size (fun _ => True) v0_ r ∧ Below w.heap.size w w' := by
 have hu56 := Tryz.underlying56
 have hu49 := Tryz.underlying49
 have HR0 := Aside0.mk hr0
 have HC0 := Aside0.mk hc0
 clear hr0 hc0
 have HB := Aside0.mk (Below.refl w.heap.size w)
 have H : (if 0 ≤ (l0.length : Int) then (if ((l0.length : Int) : Int).toNat ≤ 8796093022208 then (laws_toAttrS.l0 k l0 (List.replicate ((l0.length : Int) : Int).toNat z49) 0) else (none)) else (none)) = some r := h
 clear h
 by_cases c2 : 0 ≤ (l0.length : Int)
 ·rw [if_pos c2] at H
  have c2b0 := eq_true c2
  have c2b1 : decide (0 ≤ (l0.length : Int)) = true := decide_eq_true c2
  clear c2
  by_cases c3 : ((l0.length : Int) : Int).toNat ≤ 8796093022208
  ·rw [if_pos c3] at H
   have c3b0 := eq_true c3
   have c3b1 : decide (((l0.length : Int) : Int).toNat ≤ 8796093022208) = true := decide_eq_true c3
   clear c3
   obtain ⟨y167, hy167⟩ : ∃ y_ : List (S49), y_ = (List.replicate ((l0.length : Int) : Int).toNat z49) := ⟨_, rfl⟩
   replace H : (laws_toAttrS.l0 k l0 y167 0) = some r := by first | (rw [hy167]; with_reducible exact H) | (have H2_ := (Option.bind_some _ _).symm.trans H; rw [hy167]; with_reducible exact H2_) | (have H2_ := (Option.bind_some _ _).symm.trans H; with_reducible exact H2_) | with_reducible exact H | (rw [hy167]; exact H) | exact H
   have Ny167 := Aside0.mk hy167
   clear hy167
   have H' := Aside0.mk H
   clear H
   go_enter Tryz.func23, Tryz.ntmps23
   go_wp2_with (first | ((with_reducible refine gate_dst (N := 7) rfl ?_); refine Kd.R_make k49 _ 49 rfl (N := 7) rfl 36 _ _ rfl (l0.length : Int) rfl rfl Tryz.underlying36 (.agg #[(.string ⟨#[]⟩), (.string ⟨#[]⟩)]) 32 info49 rfl (by decide) (by omega) z49 (ok := fun _ => True) (okp := fun _ => True) (k49_mkM _ _ _ z49 ) (fun _ hk => hk) trivial (of_decide_eq_true am_) (Nat.le_trans (Nat.mul_le_mul_right _ (of_decide_eq_true am_ : (l0.length : Int).toNat ≤ 8796093022208)) (by omega)) (Below.refl _ _) (Nat.le_refl _) ?_; intro v168 w4 ho5 hb hg_ hnew_; clear hg_ hnew_; (first | rw [← Ny167.out] at ho5 | (simp only [Int.reduceToNat] at ho5; rw [← Ny167.out] at ho5)); have n0_ := Aside0.mk (Kd.R_lower ho5 (below_size bel_)); have n1_ := Aside0.mk (below_step bel_ hb); clear HB; have HO169 := n0_; have HB := n1_; clear n0_ n1_; clear hb ho5))
   go_loopg [4] k (fun kq v4 w' => ∃ (x3_1 : List (S49)) (x4_1 : Int), v4 = .int .i64 x4_1 ∧ Aside0 (laws_toAttrS.l0 kq l0 x3_1 x4_1 = some r) ∧ Aside0 (kq ≤ k) ∧ Aside0 (Kd.R k49 49 w' w.heap.size (fun _ => True) v168 x3_1) ∧ Aside0 (Below w.heap.size w w'))
   case atStart => exact ⟨(y167), (0), sv_, H', ⟨Nat.le_refl _⟩, ⟨by (with_reducible repeat (first | apply Kd.R_alloc | apply Kd.R_drewN | apply Kd.R_drew)); exact HO169.out⟩, ⟨bel_⟩⟩
   case round =>
    clear H'
    (try clear c2);(try clear c2b0 c2b1);(try clear p2);(try clear c3);(try clear c3b0 c3b1)
    obtain ⟨x3_1, x4_1, rfl, HA, HK1, HO_3, HB⟩ := hrel
    cases gk with
    | zero => exact absurd HA.out (by simp [laws_toAttrS.l0])
    | succ k1 =>
     have H := HA.out
     clear HA
     simp only [laws_toAttrS.l0] at H
     by_cases c6 : x4_1 < (l0.length : Int)
     ·rw [if_pos c6] at H
      have c6b0 : decide (x4_1 < (l0.length : Int)) = true := decide_eq_true c6
      clear c6
      by_cases c7 : 0 ≤ x4_1
      ·rw [if_pos c7] at H
       have c7b0 : decide (0 ≤ x4_1) = true := decide_eq_true c7
       clear c7
       replace H := Option.bind_eq_some_iff.mp H
       obtain ⟨⟨t171, t172⟩, A80, H⟩ := H
       replace H : (if x4_1 < (x3_1.length : Int) then (laws_toAttrS.l0 k1 l0 (x3_1.set (x4_1 : Int).toNat (⟨t171, t172⟩ : S49)) (wrap64 (x4_1 + 1))) else (none)) = some r := H
       have A8 := Aside0.mk A80
       clear A80
       by_cases c9 : x4_1 < (x3_1.length : Int)
       ·rw [if_pos c9] at H
        have c9b0 : decide (x4_1 < (x3_1.length : Int)) = true := decide_eq_true c9
        clear c9
        obtain ⟨y173, hy173⟩ : ∃ y_ : List (S49), y_ = (x3_1.set (x4_1 : Int).toNat (⟨t171, t172⟩ : S49)) := ⟨_, rfl⟩
        replace H : (laws_toAttrS.l0 k1 l0 y173 (wrap64 (x4_1 + 1))) = some r := by first | (rw [hy173]; with_reducible exact H) | (have H2_ := (Option.bind_some _ _).symm.trans H; rw [hy173]; with_reducible exact H2_) | (have H2_ := (Option.bind_some _ _).symm.trans H; with_reducible exact H2_) | with_reducible exact H | (rw [hy173]; exact H) | exact H
        have Ny173 := Aside0.mk hy173
        clear hy173
        have H' := Aside0.mk H
        clear H
        have p170 : 0 ≤ (x4_1 : Int) := of_decide_eq_true am_
        have q170 : x4_1 < (l0.length : Int) := of_decide_eq_true am_
        obtain ⟨ad170, e170, hx170_0, hx170_1⟩ := at_T56 HR0.out x4_1 p170 q170
        cases e170
        replace hx170_0 := pw_cell_below HB.out hx170_0
        replace hx170_1 := pw_cell_below HB.out hx170_1
        replace p170 := eq_true p170
        replace q170 := eq_true q170
        go_wp2_with (first | ((with_reducible refine gate_callee (f := 38) rfl ?_); refine goesL_ (some 20) rfl rfl Tryz.func38 (by kernel_rfl) rfl #[.agg #[.string ((rd_T56 l0 x4_1).f0), .string ((rd_T56 l0 x4_1).f1)]] rfl au_ ?_; (with_reducible refine (laws_toAttr.calls ((rd_T56 l0 x4_1).f0) ((rd_T56 l0 x4_1).f1) t171 t172 _ A8.out).mono ?_); rintro e w11 ⟨rfl, hb⟩; refine ⟨_, rfl, ?_⟩; have n0_ := Aside0.mk (Kd.R_below (kdR_ HO_3.out) hb); have n1_ := Aside0.mk (below_step bel_ hb); clear HO_3; clear HB; have HO_3 := n0_; have HB := n1_; clear n0_ n1_; (try clear hb);(try clear hb2);(try clear hk);(try clear hi); have p10 : 0 ≤ (x4_1 : Int) := of_decide_eq_true am_; have q10 : (x4_1 : Int) < ((x3_1.length : Int) : Int) := of_decide_eq_true am_; obtain ⟨go10, co10, eo10, gb10, gl10, cl10, HG10⟩ := Kd.R_form HO_3.out (by omega); (first | cases eo10 | (injection eo10 with ea_ en_ ec_; (first | subst ea_ | (injection ea_ with ea_; subst ea_)); subst ec_; clear en_)); have GB10 := Aside0.mk gb10; have GG10 := Aside0.mk HG10; clear gb10 gl10 HG10; obtain ⟨ce10, hcl10, hM10, hcc10, hfr10⟩ := Kd.R_elem HO_3.out z49 (x4_1 : Int) p10 q10; obtain rfl := k49_openM hM10; have hx10_0 : w11.cell? ⟨go10, (x4_1 : Int).toNat * 2, none⟩ = some (.string ((rd_T49 x3_1 x4_1).f0)) := hcc10 0 _ rfl; have hx10_1 : w11.cell? ⟨go10, (x4_1 : Int).toNat * 2 + 1, none⟩ = some (.string ((rd_T49 x3_1 x4_1).f1)) := hcc10 1 _ rfl; have hf10_0 : w11.frozen? ⟨go10, (x4_1 : Int).toNat * 2, none⟩ = false := hfr10 0; have hf10_1 : w11.frozen? ⟨go10, (x4_1 : Int).toNat * 2 + 1, none⟩ = false := hfr10 1; (first | clear hcl10 hcc10 hfr10 hM10 | clear hcl10 hcc10 hfr10); replace p10 := eq_true p10; replace q10 := eq_true q10; have HX12 := Aside0.mk (show Kd.R k49 49 w11 w.heap.size (fun _ => True) (.slice (some ⟨go10, 0, none⟩) x3_1.length co10) x3_1 from (kdR_ HO_3.out)); obtain ⟨ce12, hcl12, hM12, hcc12, hfr12⟩ := Kd.R_elem HX12.out z49 (x4_1 : Int) (of_decide_eq_true am_) (by have h_ : (x4_1 : Int) < ((x3_1.length : Int) : Int) := of_decide_eq_true am_; first | exact h_ | (have e_ := (Kd.R_reads' HO_3.out).1; omega) | simpa using h_); obtain rfl := k49_openM hM12; have HP12 := Kd.R_seg HX12.out (x4_1 : Int) (of_decide_eq_true am_) (by have h_ : (x4_1 : Int) < ((x3_1.length : Int) : Int) := of_decide_eq_true am_; first | exact h_ | (have e_ := (Kd.R_reads' HO_3.out).1; omega) | simpa using h_) (seg := [.string t171, .string t172]) (j := 0) hcl12 hcc12 (show 2 ≤ 2 from by decide) (x' := (⟨t171, t172⟩ : S49)) (k49_mkM _ _ _ (⟨t171, t172⟩ : S49) ) (fun _ hk => hk); have hx12_0 := hcc12 0 _ rfl; (try simp only [show (k49).sz = 2 from rfl, Nat.mul_one, Nat.add_zero] at hx12_0); have hf12_0 := hfr12 0; (try simp only [show (k49).sz = 2 from rfl, Nat.mul_one, Nat.add_zero] at hf12_0); have hx12_1 := hcc12 1 _ rfl; (try simp only [show (k49).sz = 2 from rfl, Nat.mul_one, Nat.add_zero] at hx12_1); have hf12_1 := hfr12 1; (try simp only [show (k49).sz = 2 from rfl, Nat.mul_one, Nat.add_zero] at hf12_1); (first | clear hcl12 hcc12 hfr12 hM12 | clear hcl12 hcc12 hfr12)) | ((with_reducible refine gate_store (t := 49) (p := 21) rfl ?_); refine store_event (t := 49) (p := 21) (v := ?vo_w13) (w1 := ((w11.setCell ⟨go10, (x4_1 : Int).toNat * 2, none⟩ (.string t171)).setCell ⟨go10, (x4_1 : Int).toNat * 2 + 1, none⟩ (.string t172))) ?hg ?ho ?hn ?hr ?_; (case ho => rfl); (case hg => rfl); (case hn => rfl); (case hr => first | (go_simp; done) | (go_simp; rfl)); intro w13 hw; have hg : w11.grownBy w13 (some go10) := (by rw [hw]; exact HP12.2); have hp_ : Kd.R k49 49 w13 w.heap.size (fun _ => True) (.slice (some ⟨go10, 0, none⟩) x3_1.length co10) y173 := (by rw [hw, Ny173.out]; exact HP12.1); clear HP12; have n0_ := Aside0.mk (hp_); have n1_ := Aside0.mk ((by rw [hw]; exact below_set (below_set (HB.out) GB10.out) GB10.out : Below w.heap.size w w13)); clear HO_3; clear HB; have HO_3 := n0_; have HB := n1_; clear n0_ n1_; clear hg hw hp_))
        go_roundg k1
        case measure => have := HK1.out; omega
        case rel => exact ⟨(y173), (wrap64 (x4_1 + 1)), sv_, H', ⟨by have := HK1.out; omega⟩, ⟨by (with_reducible repeat (first | apply Kd.R_alloc | apply Kd.R_drewN | apply Kd.R_drew)); exact HO_3.out⟩, ⟨bel_⟩⟩
       ·rw [if_neg c9] at H
        exact absurd H (by simp)
      ·rw [if_neg c7] at H
       exact absurd H (by simp)
     ·rw [if_neg c6] at H
      have c6b0 : decide (x4_1 < (l0.length : Int)) = false := decide_eq_false c6
      clear c6
      obtain rfl := Option.some.inj H
      go_wp2
      go_ret
      exact ⟨_, er_, by (with_reducible repeat (first | apply Kd.R_alloc | apply Kd.R_drewN | apply Kd.R_drew)); exact HO_3.out, bel_⟩
  ·rw [if_neg c3] at H
   exact absurd H (by simp)
 ·rw [if_neg c2] at H
  exact absurd H (by simp)

end Go.Proofs.YthfbpmjcjiihnaaGreatDoor.PFnExactMarksText
