-- Laid by a program of this session out of the translation (its own run of the print). Lean checks it.
import Derived.Test.YthfbpmjcjiihnaaGreatDoorPFnExactMarksTextx0
import Derived.Test.YthfbpmjcjiihnaaGreatDoorPFnExactMarksTextx1
import Derived.Test.YthfbpmjcjiihnaaGreatDoorPFnExactMarksTextx3
namespace Go.Proofs.YthfbpmjcjiihnaaGreatDoor.PFnExactMarksText
open Go.RowKit Go.Proofs.YthfbpmjcjiihnaaGreatDoorW.PrintWords Go.Proofs.YthfbpmjcjiihnaaGreatDoorW.PrintLast Go.Proofs.YthfbpmjcjiihnaaGreatDoorW.PrintMore
attribute [local go_sem] max2_int min2_int max_two min_two max_three min_three max_four min_four   -- for this text's walks alone
set_option linter.unusedVariables false
set_option linter.unusedSimpArgs false

/-! ### spec_GoodNodes: function 10 -/
mutual
def spec_GoodNodes.l0 : Nat → List (S38) → List (S38) → Int → Int → Option (Bool)
 | 0, _, _, _, _ => none
 | k + 1, x0, x10, x11, x12 => if x12 < x11 then (if 0 ≤ x12 then (if x12 < (x10.length : Int) then ((spec_l1In.f ((rd_T38 x10 x12).f1) (-1) (wrap64 (x12 - 1))).bind fun t133 => (if t133 = true then (if ((((rd_T38 x10 x12).f1) == (-1)) != (x12 == 0)) = true then (spec_GoodNodes.j1 k x0 x12 x10 x11 x12 true ((rd_T38 x10 x12).f0) ((rd_T38 x10 x12).f1) ((rd_T38 x10 x12).f2) ((rd_T38 x10 x12).f3)) else ((spec_l4Attrs.f k ((rd_T38 x10 x12).f2)).bind fun t134 => (spec_GoodNodes.j1 k x0 x12 x10 x11 x12 (!t134) ((rd_T38 x10 x12).f0) ((rd_T38 x10 x12).f1) ((rd_T38 x10 x12).f2) ((rd_T38 x10 x12).f3)))) else (spec_GoodNodes.j1 k x0 x12 x10 x11 x12 true ((rd_T38 x10 x12).f0) ((rd_T38 x10 x12).f1) ((rd_T38 x10 x12).f2) ((rd_T38 x10 x12).f3)))) else (none)) else (none)) else (some true)
def spec_GoodNodes.j1 : Nat → List (S38) → Int → List (S38) → Int → Int → Bool → ByteArray → Int → List (S49) → ByteArray → Option (Bool)
 | 0, _, _, _, _, _, _, _, _, _, _ => none
 | k + 1, x0, x3, x10, x11, x12, x36, x133000, x133001, x133002, x133003 => if x36 = true then (some false) else (if x3 > 0 then (spec_GoodNodes.l1 k x0 x3 (wrap64 (x3 - 1)) x10 x11 x12 x133000 x133001 x133002 x133003) else (spec_GoodNodes.j3 k x0 x3 x10 x11 x12 x133000 x133001 x133002 x133003))
def spec_GoodNodes.j3 : Nat → List (S38) → Int → List (S38) → Int → Int → ByteArray → Int → List (S49) → ByteArray → Option (Bool)
 | 0, _, _, _, _, _, _, _, _, _ => none
 | k + 1, x0, x3, x10, x11, x12, x133000, x133001, x133002, x133003 => if x133000.toList = ([] : List UInt8) then (if x3 = 0 then (spec_GoodNodes.j4 k x0 x3 x10 x11 x12 true x133000 x133001 x133002 x133003) else (if (x133002.length : Int) > 0 then (spec_GoodNodes.j4 k x0 x3 x10 x11 x12 true x133000 x133001 x133002 x133003) else (if x133003.toList = ([] : List UInt8) then (spec_GoodNodes.j4 k x0 x3 x10 x11 x12 true x133000 x133001 x133002 x133003) else ((spec_l4Bad.f k x133003).bind fun t140 => (spec_GoodNodes.j4 k x0 x3 x10 x11 x12 (decide (t140 ≥ 0)) x133000 x133001 x133002 x133003))))) else ((spec_l4Name.f k x133000).bind fun t138 => (if t138 = true then (if x133003.toList = ([] : List UInt8) then ((spec_l4Deep.f k x0 x3).bind fun t139 => (if t139 > 10 then (some false) else (spec_GoodNodes.l0 k x0 x10 x11 (wrap64 (x12 + 1))))) else (some false)) else (some false)))
def spec_GoodNodes.j4 : Nat → List (S38) → Int → List (S38) → Int → Int → Bool → ByteArray → Int → List (S49) → ByteArray → Option (Bool)
 | 0, _, _, _, _, _, _, _, _, _, _ => none
 | k + 1, x0, x3, x10, x11, x12, x100, x133000, x133001, x133002, x133003 => if x100 = true then (some false) else (if 0 ≤ (wrap64 (x3 - 1)) then (if (wrap64 (x3 - 1)) < (x0.length : Int) then (if ((rd_T38 x0 (wrap64 (x3 - 1))).f0).toList = ([] : List UInt8) then (if ((rd_T38 x0 (wrap64 (x3 - 1))).f1) = x133001 then (some false) else (spec_GoodNodes.l0 k x0 x10 x11 (wrap64 (x12 + 1)))) else (spec_GoodNodes.l0 k x0 x10 x11 (wrap64 (x12 + 1)))) else (none)) else (none))
def spec_GoodNodes.l1 : Nat → List (S38) → Int → Int → List (S38) → Int → Int → ByteArray → Int → List (S49) → ByteArray → Option (Bool)
 | 0, _, _, _, _, _, _, _, _, _, _ => none
 | k + 1, x0, x3, x5, x10, x11, x12, x133000, x133001, x133002, x133003 => if x5 ≥ 0 then (if x5 = x133001 then (if x5 < 0 then (some false) else (if 0 ≤ x5 then (if x5 < (x0.length : Int) then (if ((rd_T38 x0 x5).f0).toList = ([] : List UInt8) then (some false) else (spec_GoodNodes.j3 k x0 x3 x10 x11 x12 x133000 x133001 x133002 x133003)) else (none)) else (none))) else (if 0 ≤ x5 then (if x5 < (x0.length : Int) then (spec_GoodNodes.l1 k x0 x3 ((rd_T38 x0 x5).f1) x10 x11 x12 x133000 x133001 x133002 x133003) else (none)) else (none))) else (if x5 < 0 then (some false) else (if 0 ≤ x5 then (if x5 < (x0.length : Int) then (if ((rd_T38 x0 x5).f0).toList = ([] : List UInt8) then (some false) else (spec_GoodNodes.j3 k x0 x3 x10 x11 x12 x133000 x133001 x133002 x133003)) else (none)) else (none)))
end
def spec_GoodNodes.f (k : Nat) (l0 : List (S38)) : Option (Bool) := (spec_l1In.f (l0.length : Int) 1 60).bind fun t130 => (if t130 = true then (spec_GoodNodes.l0 k l0 l0 (l0.length : Int) 0) else (some false))
set_option maxHeartbeats 8000000 in
set_option maxRecDepth 100000 in
theorem spec_GoodNodes.calls (k : Nat) (A0 : Option Addr) (c0 : Nat) (l0 : List (S38)) (r : Bool) (w : World) (hr0 : Kd.C k38 w A0 l0.length l0) (hc0 : l0.length ≤ c0) (h : spec_GoodNodes.f k l0 = some r) :
  Calls Tryz.prog 10 #[.slice A0 l0.length c0] w fun e w' => e = .returned (.bool r) ∧ Below w.heap.size w w' := by
 have hu38 := Tryz.underlying38
 have HR0 := Aside0.mk hr0
 have HC0 := Aside0.mk hc0
 clear hr0 hc0
 have HB := Aside0.mk (Below.refl w.heap.size w)
 have H : ((spec_l1In.f (l0.length : Int) 1 60).bind fun t130 => (if t130 = true then (spec_GoodNodes.l0 k l0 l0 (l0.length : Int) 0) else (some false))) = some r := h
 clear h
 replace H := Option.bind_eq_some_iff.mp H
 obtain ⟨t130, A20, H⟩ := H
 replace H : (if t130 = true then (spec_GoodNodes.l0 k l0 l0 (l0.length : Int) 0) else (some false)) = some r := H
 have A2 := Aside0.mk A20
 clear A20
 by_cases c3 : t130 = true
 ·subst c3
  have H1 : (spec_GoodNodes.l0 k l0 l0 (l0.length : Int) 0) = some r := by rw [if_pos rfl] at H; exact H
  clear H
  have H := H1
  clear H1
  have H' := Aside0.mk H
  clear H
  go_enter Tryz.func10, Tryz.ntmps10
  go_wp2_with (first | (go_at_call 17; (with_reducible refine (spec_l1In.calls (l0.length : Int) 1 60 true _ A2.out).mono ?_); rintro e w' ⟨rfl, ⟨nd, rfl⟩⟩; (try exact dd_)))
  repeat (go_quiet (first | (go_at_call 17; (with_reducible refine (spec_l1In.calls (l0.length : Int) 1 60 true _ A2.out).mono ?_); rintro e w' ⟨rfl, ⟨nd, rfl⟩⟩; (try exact dd_))); try go_wp2_with (first | (go_at_call 17; (with_reducible refine (spec_l1In.calls (l0.length : Int) 1 60 true _ A2.out).mono ?_); rintro e w' ⟨rfl, ⟨nd, rfl⟩⟩; (try exact dd_))))
  go_loopg [12] k (fun kq v12 w' => ∃ (x12_1 : Int), v12 = .int .i64 x12_1 ∧ Aside0 (spec_GoodNodes.l0 kq l0 l0 (l0.length : Int) x12_1 = some r) ∧ Aside0 (kq ≤ k) ∧ Aside0 (Below w.heap.size w w'))
  case atStart => exact ⟨(0), sv_, H', ⟨Nat.le_refl _⟩, ⟨bel_⟩⟩
  case round =>
   clear H'
   (try clear c1);(try clear p2);(try clear c3)
   obtain ⟨x12_1, rfl, HA, HK1, HB⟩ := hrel
   cases gk with
   | zero => exact absurd HA.out (by simp [spec_GoodNodes.l0])
   | succ k1 =>
    have H := HA.out
    clear HA
    simp only [spec_GoodNodes.l0] at H
    by_cases c4 : x12_1 < (l0.length : Int)
    ·rw [if_pos c4] at H
     have c4b0 : decide (x12_1 < (l0.length : Int)) = true := decide_eq_true c4
     clear c4
     by_cases c5 : 0 ≤ x12_1
     ·rw [if_pos c5] at H
      have c5b0 : decide (0 ≤ x12_1) = true := decide_eq_true c5
      clear c5
      by_cases c6 : x12_1 < (l0.length : Int)
      ·rw [if_pos c6] at H
       have c6b0 : decide (x12_1 < (l0.length : Int)) = true := decide_eq_true c6
       clear c6
       have HC7 := Aside0.mk H
       clear H
       have p131 : 0 ≤ (x12_1 : Int) := of_decide_eq_true am_
       have q131 : x12_1 < (l0.length : Int) := of_decide_eq_true am_
       obtain ⟨ad131, A131_2, c131_2, e131, hx131_0, hx131_1, hx131_2, hx131_3, hl131_2, hi131_2⟩ := at_T38 HR0.out x12_1 p131 q131
       cases e131
       replace hx131_0 := pw_cell_below HB.out hx131_0
       replace hx131_1 := pw_cell_below HB.out hx131_1
       replace hx131_2 := pw_cell_below HB.out hx131_2
       replace hx131_3 := pw_cell_below HB.out hx131_3
       have HR131_2 := Aside0.mk hi131_2
       have HC131_2 := Aside0.mk hl131_2
       clear hi131_2 hl131_2
       replace p131 := eq_true p131
       replace q131 := eq_true q131
       go_upto_region 6 with (first | ((with_reducible refine gate_dst (N := 4) rfl ?_); (try (refine gate_guard (by rfl) ?_; dsimp only)); refine box_event ?hg (N := 4) ?hd (cs := #[.string (⟨#[]⟩ : ByteArray), .int .i64 0, .slice none 0 0, .string (⟨#[]⟩ : ByteArray)]) (t := 38) ?hr ?_; (case hd => rfl); (case hg => rfl); (case hr => first | (go_simp; done) | (go_simp; rfl)); intro gb132 hg w8 hbox hb; have n0_ := Aside0.mk (below_step bel_ hb); have n1_ := Aside0.mk (hbox); have n2_ := Aside0.mk ((by rw [hg]; exact (below_size bel_) : w.heap.size ≤ gb132)); have n3_ := Aside0.mk ((by rw [hg]; exact (below_size bel_) : w.heap.size ≤ gb132)); clear HB; have HB := n0_; have BK132 := n1_; have GW132 := n2_; have GE132 := n3_; clear n0_ n1_ n2_ n3_; clear hb hbox hg; have hcz9_0 := bc4_0 BK132.out; have hcz9_1 := bc4_1 BK132.out; have hcz9_2 := bc4_2 BK132.out; have hcz9_3 := bc4_3 BK132.out; have hfz9_0 := blk_frozen BK132.out 0; have hfz9_1 := blk_frozen BK132.out 1; have hfz9_2 := blk_frozen BK132.out 2; have hfz9_3 := blk_frozen BK132.out 3))
       repeat (go_quiet (first | ((with_reducible refine gate_dst (N := 4) rfl ?_); (try (refine gate_guard (by rfl) ?_; dsimp only)); refine box_event ?hg (N := 4) ?hd (cs := #[.string (⟨#[]⟩ : ByteArray), .int .i64 0, .slice none 0 0, .string (⟨#[]⟩ : ByteArray)]) (t := 38) ?hr ?_; (case hd => rfl); (case hg => rfl); (case hr => first | (go_simp; done) | (go_simp; rfl)); intro gb132 hg w8 hbox hb; have n0_ := Aside0.mk (below_step bel_ hb); have n1_ := Aside0.mk (hbox); have n2_ := Aside0.mk ((by rw [hg]; exact (below_size bel_) : w.heap.size ≤ gb132)); have n3_ := Aside0.mk ((by rw [hg]; exact (below_size bel_) : w.heap.size ≤ gb132)); clear HB; have HB := n0_; have BK132 := n1_; have GW132 := n2_; have GE132 := n3_; clear n0_ n1_ n2_ n3_; clear hb hbox hg; have hcz9_0 := bc4_0 BK132.out; have hcz9_1 := bc4_1 BK132.out; have hcz9_2 := bc4_2 BK132.out; have hcz9_3 := bc4_3 BK132.out; have hfz9_0 := blk_frozen BK132.out 0; have hfz9_1 := blk_frozen BK132.out 1; have hfz9_2 := blk_frozen BK132.out 2; have hfz9_3 := blk_frozen BK132.out 3)); go_upto_region 6 with (first | ((with_reducible refine gate_dst (N := 4) rfl ?_); (try (refine gate_guard (by rfl) ?_; dsimp only)); refine box_event ?hg (N := 4) ?hd (cs := #[.string (⟨#[]⟩ : ByteArray), .int .i64 0, .slice none 0 0, .string (⟨#[]⟩ : ByteArray)]) (t := 38) ?hr ?_; (case hd => rfl); (case hg => rfl); (case hr => first | (go_simp; done) | (go_simp; rfl)); intro gb132 hg w8 hbox hb; have n0_ := Aside0.mk (below_step bel_ hb); have n1_ := Aside0.mk (hbox); have n2_ := Aside0.mk ((by rw [hg]; exact (below_size bel_) : w.heap.size ≤ gb132)); have n3_ := Aside0.mk ((by rw [hg]; exact (below_size bel_) : w.heap.size ≤ gb132)); clear HB; have HB := n0_; have BK132 := n1_; have GW132 := n2_; have GE132 := n3_; clear n0_ n1_ n2_ n3_; clear hb hbox hg; have hcz9_0 := bc4_0 BK132.out; have hcz9_1 := bc4_1 BK132.out; have hcz9_2 := bc4_2 BK132.out; have hcz9_3 := bc4_3 BK132.out; have hfz9_0 := blk_frozen BK132.out 0; have hfz9_1 := blk_frozen BK132.out 1; have hfz9_2 := blk_frozen BK132.out 2; have hfz9_3 := blk_frozen BK132.out 3)))
       (try simp only [Act.put, List.setIfInBounds_toArray, List.set_cons_zero, List.set_cons_succ])
       go_cut [36] (fun v36 wc => ∃ (kq : Nat) (x36_6 : Bool), v36 = .bool x36_6 ∧ Aside0 (spec_GoodNodes.j1 kq l0 x12_1 l0 (l0.length : Int) x12_1 x36_6 ((rd_T38 l0 x12_1).f0) ((rd_T38 l0 x12_1).f1) ((rd_T38 l0 x12_1).f2) ((rd_T38 l0 x12_1).f3) = some r) ∧ Aside0 (kq ≤ k1) ∧ Aside0 (wc.heap[gb132]? = some (.cells #[.string ((rd_T38 l0 x12_1).f0), .int .i64 ((rd_T38 l0 x12_1).f1), (.slice A131_2 ((rd_T38 l0 x12_1).f2).length c131_2), .string ((rd_T38 l0 x12_1).f3)] 38 (0, 0))) ∧ Aside0 (Below w.heap.size w wc))
       case first =>
        have H := HC7.out
        clear HC7
        replace H := Option.bind_eq_some_iff.mp H
        obtain ⟨t133, A100, H⟩ := H
        replace H : (if t133 = true then (if ((((rd_T38 l0 x12_1).f1) == (-1)) != (x12_1 == 0)) = true then (spec_GoodNodes.j1 k1 l0 x12_1 l0 (l0.length : Int) x12_1 true ((rd_T38 l0 x12_1).f0) ((rd_T38 l0 x12_1).f1) ((rd_T38 l0 x12_1).f2) ((rd_T38 l0 x12_1).f3)) else ((spec_l4Attrs.f k1 ((rd_T38 l0 x12_1).f2)).bind fun t134 => (spec_GoodNodes.j1 k1 l0 x12_1 l0 (l0.length : Int) x12_1 (!t134) ((rd_T38 l0 x12_1).f0) ((rd_T38 l0 x12_1).f1) ((rd_T38 l0 x12_1).f2) ((rd_T38 l0 x12_1).f3)))) else (spec_GoodNodes.j1 k1 l0 x12_1 l0 (l0.length : Int) x12_1 true ((rd_T38 l0 x12_1).f0) ((rd_T38 l0 x12_1).f1) ((rd_T38 l0 x12_1).f2) ((rd_T38 l0 x12_1).f3))) = some r := H
        have A10 := Aside0.mk A100
        clear A100
        by_cases c11 : t133 = true
        ·subst c11
         have H1 : (if ((((rd_T38 l0 x12_1).f1) == (-1)) != (x12_1 == 0)) = true then (spec_GoodNodes.j1 k1 l0 x12_1 l0 (l0.length : Int) x12_1 true ((rd_T38 l0 x12_1).f0) ((rd_T38 l0 x12_1).f1) ((rd_T38 l0 x12_1).f2) ((rd_T38 l0 x12_1).f3)) else ((spec_l4Attrs.f k1 ((rd_T38 l0 x12_1).f2)).bind fun t134 => (spec_GoodNodes.j1 k1 l0 x12_1 l0 (l0.length : Int) x12_1 (!t134) ((rd_T38 l0 x12_1).f0) ((rd_T38 l0 x12_1).f1) ((rd_T38 l0 x12_1).f2) ((rd_T38 l0 x12_1).f3)))) = some r := by rw [if_pos rfl] at H; exact H
         clear H
         have H := H1
         clear H1
         by_cases c12 : ((((rd_T38 l0 x12_1).f1) == (-1)) != (x12_1 == 0)) = true
         ·rw [if_pos c12] at H
          have c12b0 : ((((rd_T38 l0 x12_1).f1) == (-1)) != (x12_1 == 0)) = true := c12
          (try (have c12b1 : decide ((((rd_T38 l0 x12_1).f1) == (-1)) = (x12_1 == 0)) = false := by simpa using c12))
          (try (have c12b2 : ((((rd_T38 l0 x12_1).f1) == (-1)) == (x12_1 == 0)) = false := by simpa using c12))
          (try (have c12b3 : ¬ ((((rd_T38 l0 x12_1).f1) == (-1)) = (x12_1 == 0)) := by simpa using c12))
          clear c12
          (first | rw [c12b0] | (simp only [i64_w, i32_w]; rw [c12b0]) | skip)
          have H' := Aside0.mk H
          clear H
          have hcz13_0 := bc4_0 BK132.out
          have hcz13_1 := bc4_1 BK132.out
          have hcz13_2 := bc4_2 BK132.out
          have hcz13_3 := bc4_3 BK132.out
          have hfz13_0 := blk_frozen BK132.out 0
          have hfz13_1 := blk_frozen BK132.out 1
          have hfz13_2 := blk_frozen BK132.out 2
          have hfz13_3 := blk_frozen BK132.out 3
          go_wp2_with (first | (go_at_call 17; (with_reducible refine (spec_l1In.calls ((rd_T38 l0 x12_1).f1) (-1) (wrap64 (x12_1 - 1)) true _ A10.out).mono ?_); rintro e w' ⟨rfl, ⟨nd, rfl⟩⟩; (try exact dd_)))
          repeat (go_quiet (first | (go_at_call 17; (with_reducible refine (spec_l1In.calls ((rd_T38 l0 x12_1).f1) (-1) (wrap64 (x12_1 - 1)) true _ A10.out).mono ?_); rintro e w' ⟨rfl, ⟨nd, rfl⟩⟩; (try exact dd_))); try go_wp2_with (first | (go_at_call 17; (with_reducible refine (spec_l1In.calls ((rd_T38 l0 x12_1).f1) (-1) (wrap64 (x12_1 - 1)) true _ A10.out).mono ?_); rintro e w' ⟨rfl, ⟨nd, rfl⟩⟩; (try exact dd_))))
          go_meet
          case rel => exact ⟨_, (true), sv_, H', ⟨by have := HK1.out; first | omega | exact Nat.le_refl _⟩, ⟨by (with_reducible repeat (first | refine blk_drewN ?_ _ | refine blk_drew ?_ | refine blk_alloc ?_ _)); refine blk_put (cs := #[.string ((rd_T38 l0 x12_1).f0), .int .i64 ((rd_T38 l0 x12_1).f1), .slice A131_2 ((rd_T38 l0 x12_1).f2).length c131_2, .string (⟨#[]⟩ : ByteArray)]) ?_ 3 _ rfl; (with_reducible repeat (first | refine blk_drewN ?_ _ | refine blk_drew ?_ | refine blk_alloc ?_ _)); refine blk_put (cs := #[.string ((rd_T38 l0 x12_1).f0), .int .i64 ((rd_T38 l0 x12_1).f1), .slice none 0 0, .string (⟨#[]⟩ : ByteArray)]) ?_ 2 _ rfl; (with_reducible repeat (first | refine blk_drewN ?_ _ | refine blk_drew ?_ | refine blk_alloc ?_ _)); refine blk_put (cs := #[.string ((rd_T38 l0 x12_1).f0), .int .i64 0, .slice none 0 0, .string (⟨#[]⟩ : ByteArray)]) ?_ 1 _ rfl; (with_reducible repeat (first | refine blk_drewN ?_ _ | refine blk_drew ?_ | refine blk_alloc ?_ _)); refine blk_put (cs := #[.string (⟨#[]⟩ : ByteArray), .int .i64 0, .slice none 0 0, .string (⟨#[]⟩ : ByteArray)]) ?_ 0 _ rfl; (with_reducible repeat (first | refine blk_drewN ?_ _ | refine blk_drew ?_ | refine blk_alloc ?_ _)); exact BK132.out⟩, ⟨bes_⟩⟩
         ·rw [if_neg c12] at H
          have c12b0 : ((((rd_T38 l0 x12_1).f1) == (-1)) != (x12_1 == 0)) = false := by simpa using c12
          (try (have c12b1 : decide ((((rd_T38 l0 x12_1).f1) == (-1)) = (x12_1 == 0)) = true := by simpa using c12))
          (try (have c12b2 : ((((rd_T38 l0 x12_1).f1) == (-1)) == (x12_1 == 0)) = true := by simpa using c12))
          clear c12
          (first | rw [c12b0] | (simp only [i64_w, i32_w]; rw [c12b0]) | skip)
          replace H := Option.bind_eq_some_iff.mp H
          obtain ⟨t134, A140, H⟩ := H
          replace H : (spec_GoodNodes.j1 k1 l0 x12_1 l0 (l0.length : Int) x12_1 (!t134) ((rd_T38 l0 x12_1).f0) ((rd_T38 l0 x12_1).f1) ((rd_T38 l0 x12_1).f2) ((rd_T38 l0 x12_1).f3)) = some r := H
          have A14 := Aside0.mk A140
          clear A140
          have H' := Aside0.mk H
          clear H
          have hcz15_0 := bc4_0 BK132.out
          have hcz15_1 := bc4_1 BK132.out
          have hcz15_2 := bc4_2 BK132.out
          have hcz15_3 := bc4_3 BK132.out
          have hfz15_0 := blk_frozen BK132.out 0
          have hfz15_1 := blk_frozen BK132.out 1
          have hfz15_2 := blk_frozen BK132.out 2
          have hfz15_3 := blk_frozen BK132.out 3
          go_wp2_with (first | (go_at_call 17; (with_reducible refine (spec_l1In.calls ((rd_T38 l0 x12_1).f1) (-1) (wrap64 (x12_1 - 1)) true _ A10.out).mono ?_); rintro e w' ⟨rfl, ⟨nd, rfl⟩⟩; (try exact dd_)) | (go_at_call 18; (with_reducible refine (spec_l4Attrs.calls k1 _ _ ((rd_T38 l0 x12_1).f2) t134 _ ?side1 ?side2 A14.out).mono ?_); (case side1 => exact Kd.C_below HR131_2.out bes_); (case side2 => exact HC131_2.out); rintro e w16 ⟨rfl, hb⟩; have n0_ := Aside0.mk (blk_below (g := gb132) (o := .cells #[.string ((rd_T38 l0 x12_1).f0), .int .i64 ((rd_T38 l0 x12_1).f1), .slice A131_2 ((rd_T38 l0 x12_1).f2).length c131_2, .string ((rd_T38 l0 x12_1).f3)] 38 (0, 0)) (by (with_reducible repeat (first | refine blk_drewN ?_ _ | refine blk_drew ?_ | refine blk_alloc ?_ _)); refine blk_put (cs := #[.string ((rd_T38 l0 x12_1).f0), .int .i64 ((rd_T38 l0 x12_1).f1), .slice A131_2 ((rd_T38 l0 x12_1).f2).length c131_2, .string (⟨#[]⟩ : ByteArray)]) ?_ 3 _ rfl; (with_reducible repeat (first | refine blk_drewN ?_ _ | refine blk_drew ?_ | refine blk_alloc ?_ _)); refine blk_put (cs := #[.string ((rd_T38 l0 x12_1).f0), .int .i64 ((rd_T38 l0 x12_1).f1), .slice none 0 0, .string (⟨#[]⟩ : ByteArray)]) ?_ 2 _ rfl; (with_reducible repeat (first | refine blk_drewN ?_ _ | refine blk_drew ?_ | refine blk_alloc ?_ _)); refine blk_put (cs := #[.string ((rd_T38 l0 x12_1).f0), .int .i64 0, .slice none 0 0, .string (⟨#[]⟩ : ByteArray)]) ?_ 1 _ rfl; (with_reducible repeat (first | refine blk_drewN ?_ _ | refine blk_drew ?_ | refine blk_alloc ?_ _)); refine blk_put (cs := #[.string (⟨#[]⟩ : ByteArray), .int .i64 0, .slice none 0 0, .string (⟨#[]⟩ : ByteArray)]) ?_ 0 _ rfl; (with_reducible repeat (first | refine blk_drewN ?_ _ | refine blk_drew ?_ | refine blk_alloc ?_ _)); exact BK132.out) hb); have n1_ := Aside0.mk (below_step bes_ hb); clear BK132; clear HB; have BK132 := n0_; have HB := n1_; clear n0_ n1_; (try clear hb);(try clear hb2);(try clear hk);(try clear hi)))
          repeat (go_quiet (first | (go_at_call 17; (with_reducible refine (spec_l1In.calls ((rd_T38 l0 x12_1).f1) (-1) (wrap64 (x12_1 - 1)) true _ A10.out).mono ?_); rintro e w' ⟨rfl, ⟨nd, rfl⟩⟩; (try exact dd_)) | (go_at_call 18; (with_reducible refine (spec_l4Attrs.calls k1 _ _ ((rd_T38 l0 x12_1).f2) t134 _ ?side1 ?side2 A14.out).mono ?_); (case side1 => exact Kd.C_below HR131_2.out bes_); (case side2 => exact HC131_2.out); rintro e w16 ⟨rfl, hb⟩; have n0_ := Aside0.mk (blk_below (g := gb132) (o := .cells #[.string ((rd_T38 l0 x12_1).f0), .int .i64 ((rd_T38 l0 x12_1).f1), .slice A131_2 ((rd_T38 l0 x12_1).f2).length c131_2, .string ((rd_T38 l0 x12_1).f3)] 38 (0, 0)) (by (with_reducible repeat (first | refine blk_drewN ?_ _ | refine blk_drew ?_ | refine blk_alloc ?_ _)); refine blk_put (cs := #[.string ((rd_T38 l0 x12_1).f0), .int .i64 ((rd_T38 l0 x12_1).f1), .slice A131_2 ((rd_T38 l0 x12_1).f2).length c131_2, .string (⟨#[]⟩ : ByteArray)]) ?_ 3 _ rfl; (with_reducible repeat (first | refine blk_drewN ?_ _ | refine blk_drew ?_ | refine blk_alloc ?_ _)); refine blk_put (cs := #[.string ((rd_T38 l0 x12_1).f0), .int .i64 ((rd_T38 l0 x12_1).f1), .slice none 0 0, .string (⟨#[]⟩ : ByteArray)]) ?_ 2 _ rfl; (with_reducible repeat (first | refine blk_drewN ?_ _ | refine blk_drew ?_ | refine blk_alloc ?_ _)); refine blk_put (cs := #[.string ((rd_T38 l0 x12_1).f0), .int .i64 0, .slice none 0 0, .string (⟨#[]⟩ : ByteArray)]) ?_ 1 _ rfl; (with_reducible repeat (first | refine blk_drewN ?_ _ | refine blk_drew ?_ | refine blk_alloc ?_ _)); refine blk_put (cs := #[.string (⟨#[]⟩ : ByteArray), .int .i64 0, .slice none 0 0, .string (⟨#[]⟩ : ByteArray)]) ?_ 0 _ rfl; (with_reducible repeat (first | refine blk_drewN ?_ _ | refine blk_drew ?_ | refine blk_alloc ?_ _)); exact BK132.out) hb); have n1_ := Aside0.mk (below_step bes_ hb); clear BK132; clear HB; have BK132 := n0_; have HB := n1_; clear n0_ n1_; (try clear hb);(try clear hb2);(try clear hk);(try clear hi))); try go_wp2_with (first | (go_at_call 17; (with_reducible refine (spec_l1In.calls ((rd_T38 l0 x12_1).f1) (-1) (wrap64 (x12_1 - 1)) true _ A10.out).mono ?_); rintro e w' ⟨rfl, ⟨nd, rfl⟩⟩; (try exact dd_)) | (go_at_call 18; (with_reducible refine (spec_l4Attrs.calls k1 _ _ ((rd_T38 l0 x12_1).f2) t134 _ ?side1 ?side2 A14.out).mono ?_); (case side1 => exact Kd.C_below HR131_2.out bes_); (case side2 => exact HC131_2.out); rintro e w16 ⟨rfl, hb⟩; have n0_ := Aside0.mk (blk_below (g := gb132) (o := .cells #[.string ((rd_T38 l0 x12_1).f0), .int .i64 ((rd_T38 l0 x12_1).f1), .slice A131_2 ((rd_T38 l0 x12_1).f2).length c131_2, .string ((rd_T38 l0 x12_1).f3)] 38 (0, 0)) (by (with_reducible repeat (first | refine blk_drewN ?_ _ | refine blk_drew ?_ | refine blk_alloc ?_ _)); refine blk_put (cs := #[.string ((rd_T38 l0 x12_1).f0), .int .i64 ((rd_T38 l0 x12_1).f1), .slice A131_2 ((rd_T38 l0 x12_1).f2).length c131_2, .string (⟨#[]⟩ : ByteArray)]) ?_ 3 _ rfl; (with_reducible repeat (first | refine blk_drewN ?_ _ | refine blk_drew ?_ | refine blk_alloc ?_ _)); refine blk_put (cs := #[.string ((rd_T38 l0 x12_1).f0), .int .i64 ((rd_T38 l0 x12_1).f1), .slice none 0 0, .string (⟨#[]⟩ : ByteArray)]) ?_ 2 _ rfl; (with_reducible repeat (first | refine blk_drewN ?_ _ | refine blk_drew ?_ | refine blk_alloc ?_ _)); refine blk_put (cs := #[.string ((rd_T38 l0 x12_1).f0), .int .i64 0, .slice none 0 0, .string (⟨#[]⟩ : ByteArray)]) ?_ 1 _ rfl; (with_reducible repeat (first | refine blk_drewN ?_ _ | refine blk_drew ?_ | refine blk_alloc ?_ _)); refine blk_put (cs := #[.string (⟨#[]⟩ : ByteArray), .int .i64 0, .slice none 0 0, .string (⟨#[]⟩ : ByteArray)]) ?_ 0 _ rfl; (with_reducible repeat (first | refine blk_drewN ?_ _ | refine blk_drew ?_ | refine blk_alloc ?_ _)); exact BK132.out) hb); have n1_ := Aside0.mk (below_step bes_ hb); clear BK132; clear HB; have BK132 := n0_; have HB := n1_; clear n0_ n1_; (try clear hb);(try clear hb2);(try clear hk);(try clear hi))))
          go_meet
          case rel => exact ⟨_, (!t134), sv_, H', ⟨by have := HK1.out; first | omega | exact Nat.le_refl _⟩, ⟨by (with_reducible repeat (first | refine blk_drewN ?_ _ | refine blk_drew ?_ | refine blk_alloc ?_ _)); exact BK132.out⟩, ⟨bes_⟩⟩
        ·replace c11 := Bool.eq_false_iff.mpr c11
         subst c11
         have H1 : (spec_GoodNodes.j1 k1 l0 x12_1 l0 (l0.length : Int) x12_1 true ((rd_T38 l0 x12_1).f0) ((rd_T38 l0 x12_1).f1) ((rd_T38 l0 x12_1).f2) ((rd_T38 l0 x12_1).f3)) = some r := by rw [if_neg (show ¬ (false = true) by decide)] at H; exact H
         clear H
         have H := H1
         clear H1
         have H' := Aside0.mk H
         clear H
         have hcz17_0 := bc4_0 BK132.out
         have hcz17_1 := bc4_1 BK132.out
         have hcz17_2 := bc4_2 BK132.out
         have hcz17_3 := bc4_3 BK132.out
         have hfz17_0 := blk_frozen BK132.out 0
         have hfz17_1 := blk_frozen BK132.out 1
         have hfz17_2 := blk_frozen BK132.out 2
         have hfz17_3 := blk_frozen BK132.out 3
         go_wp2_with (first | (go_at_call 17; (with_reducible refine (spec_l1In.calls ((rd_T38 l0 x12_1).f1) (-1) (wrap64 (x12_1 - 1)) false _ A10.out).mono ?_); rintro e w' ⟨rfl, ⟨nd, rfl⟩⟩; (try exact dd_)))
         repeat (go_quiet (first | (go_at_call 17; (with_reducible refine (spec_l1In.calls ((rd_T38 l0 x12_1).f1) (-1) (wrap64 (x12_1 - 1)) false _ A10.out).mono ?_); rintro e w' ⟨rfl, ⟨nd, rfl⟩⟩; (try exact dd_))); try go_wp2_with (first | (go_at_call 17; (with_reducible refine (spec_l1In.calls ((rd_T38 l0 x12_1).f1) (-1) (wrap64 (x12_1 - 1)) false _ A10.out).mono ?_); rintro e w' ⟨rfl, ⟨nd, rfl⟩⟩; (try exact dd_))))
         go_meet
         case rel => exact ⟨_, (true), sv_, H', ⟨by have := HK1.out; first | omega | exact Nat.le_refl _⟩, ⟨by (with_reducible repeat (first | refine blk_drewN ?_ _ | refine blk_drew ?_ | refine blk_alloc ?_ _)); refine blk_put (cs := #[.string ((rd_T38 l0 x12_1).f0), .int .i64 ((rd_T38 l0 x12_1).f1), .slice A131_2 ((rd_T38 l0 x12_1).f2).length c131_2, .string (⟨#[]⟩ : ByteArray)]) ?_ 3 _ rfl; (with_reducible repeat (first | refine blk_drewN ?_ _ | refine blk_drew ?_ | refine blk_alloc ?_ _)); refine blk_put (cs := #[.string ((rd_T38 l0 x12_1).f0), .int .i64 ((rd_T38 l0 x12_1).f1), .slice none 0 0, .string (⟨#[]⟩ : ByteArray)]) ?_ 2 _ rfl; (with_reducible repeat (first | refine blk_drewN ?_ _ | refine blk_drew ?_ | refine blk_alloc ?_ _)); refine blk_put (cs := #[.string ((rd_T38 l0 x12_1).f0), .int .i64 0, .slice none 0 0, .string (⟨#[]⟩ : ByteArray)]) ?_ 1 _ rfl; (with_reducible repeat (first | refine blk_drewN ?_ _ | refine blk_drew ?_ | refine blk_alloc ?_ _)); refine blk_put (cs := #[.string (⟨#[]⟩ : ByteArray), .int .i64 0, .slice none 0 0, .string (⟨#[]⟩ : ByteArray)]) ?_ 0 _ rfl; (with_reducible repeat (first | refine blk_drewN ?_ _ | refine blk_drew ?_ | refine blk_alloc ?_ _)); exact BK132.out⟩, ⟨bes_⟩⟩
       case rest =>
        clear HC7
        (try clear c1);(try clear p1);(try clear q1);(try clear hx1);(try clear p2);(try clear c3);(try clear c4);(try clear c4b0);(try clear c5);(try clear c5b0);(try clear c6);(try clear c6b0);(try clear p6);(try clear c10);(try clear c11);(try clear c12);(try clear c12b0 c12b1 c12b2);(try clear c13);(try clear p13);(try clear q13);(try clear hx13);(try clear hcz13_0 hcz13_1 hcz13_2 hcz13_3);(try clear hcz15_0 hcz15_1 hcz15_2 hcz15_3);(try clear hcz17_0 hcz17_1 hcz17_2 hcz17_3);(try clear hcz9_0 hcz9_1 hcz9_2 hcz9_3);(try clear hfz13_0 hfz13_1 hfz13_2 hfz13_3);(try clear hfz15_0 hfz15_1 hfz15_2 hfz15_3);(try clear hfz17_0 hfz17_1 hfz17_2)
        (try clear hfz17_3);(try clear hfz9_0 hfz9_1 hfz9_2 hfz9_3);(try clear hx131_0);(try clear hx131_1);(try clear hx131_2);(try clear hx131_3);(try clear p131);(try clear p2);(try clear q131)
        obtain ⟨kq, x36_6, rfl, HA, HJ6, BK132, HB⟩ := hcut
        cases kq with
        | zero => exact absurd HA.out (by simp [spec_GoodNodes.j1])
        | succ kj6 =>
         have H := HA.out
         clear HA
         simp only [spec_GoodNodes.j1] at H
         by_cases c18 : x36_6 = true
         ·subst c18
          have H1 : (some false) = some r := by rw [if_pos rfl] at H; exact H
          clear H
          have H := H1
          clear H1
          obtain rfl := Option.some.inj H
          go_wp2
          repeat (go_quiet (fail); try go_wp2)
          go_ret
          exact ⟨er_, bes_⟩
         ·replace c18 := Bool.eq_false_iff.mpr c18
          subst c18
          have H1 : (if x12_1 > 0 then (spec_GoodNodes.l1 kj6 l0 x12_1 (wrap64 (x12_1 - 1)) l0 (l0.length : Int) x12_1 ((rd_T38 l0 x12_1).f0) ((rd_T38 l0 x12_1).f1) ((rd_T38 l0 x12_1).f2) ((rd_T38 l0 x12_1).f3)) else (spec_GoodNodes.j3 kj6 l0 x12_1 l0 (l0.length : Int) x12_1 ((rd_T38 l0 x12_1).f0) ((rd_T38 l0 x12_1).f1) ((rd_T38 l0 x12_1).f2) ((rd_T38 l0 x12_1).f3))) = some r := by rw [if_neg (show ¬ (false = true) by decide)] at H; exact H
          clear H
          have H := H1
          clear H1
          have HC19 := Aside0.mk H
          clear H
          go_upto_if 38 with (fail)
          repeat (go_quiet (fail); go_upto_if 38 with (fail))
          go_cut [] (fun wc => ∃ (kq : Nat), Aside0 (spec_GoodNodes.j3 kq l0 x12_1 l0 (l0.length : Int) x12_1 ((rd_T38 l0 x12_1).f0) ((rd_T38 l0 x12_1).f1) ((rd_T38 l0 x12_1).f2) ((rd_T38 l0 x12_1).f3) = some r) ∧ Aside0 (kq ≤ kj6) ∧ Aside0 (wc.heap[gb132]? = some (.cells #[.string ((rd_T38 l0 x12_1).f0), .int .i64 ((rd_T38 l0 x12_1).f1), (.slice A131_2 ((rd_T38 l0 x12_1).f2).length c131_2), .string ((rd_T38 l0 x12_1).f3)] 38 (0, 0))) ∧ Aside0 (Below w.heap.size w wc))
          case first =>
           have H := HC19.out
           clear HC19
           by_cases c20 : x12_1 > 0
           ·rw [if_pos c20] at H
            have c20b0 : decide (0 < x12_1) = true := decide_eq_true c20
            clear c20
            (first | rw [c20b0] | (simp only [i64_w, i32_w]; rw [c20b0]) | skip)
            have H' := Aside0.mk H
            clear H
            go_wp2
            repeat (go_quiet (fail); try go_wp2)
            go_loopg [5] kj6 (fun kq v5 w' => ∃ (x5_3 : Int), v5 = .int .i64 x5_3 ∧ Aside0 (spec_GoodNodes.l1 kq l0 x12_1 x5_3 l0 (l0.length : Int) x12_1 ((rd_T38 l0 x12_1).f0) ((rd_T38 l0 x12_1).f1) ((rd_T38 l0 x12_1).f2) ((rd_T38 l0 x12_1).f3) = some r) ∧ Aside0 (kq ≤ kj6) ∧ Aside0 (w'.heap[gb132]? = some (.cells #[.string ((rd_T38 l0 x12_1).f0), .int .i64 ((rd_T38 l0 x12_1).f1), (.slice A131_2 ((rd_T38 l0 x12_1).f2).length c131_2), .string ((rd_T38 l0 x12_1).f3)] 38 (0, 0))) ∧ Aside0 (Below w.heap.size w w'))
            case atStart => exact ⟨(wrap64 (x12_1 - 1)), sv_, H', ⟨Nat.le_refl _⟩, ⟨by (with_reducible repeat (first | refine blk_drewN ?_ _ | refine blk_drew ?_ | refine blk_alloc ?_ _)); exact BK132.out⟩, ⟨bes_⟩⟩
            case round =>
             clear H'
             (try clear c1);(try clear p1);(try clear q1);(try clear hx1);(try clear c2);(try clear p2);(try clear c3);(try clear c4);(try clear c4b0);(try clear c5);(try clear c5b0);(try clear c6);(try clear c6b0);(try clear p6);(try clear c10);(try clear c11);(try clear c12);(try clear c12b0 c12b1 c12b2);(try clear c13);(try clear p13);(try clear q13);(try clear hx13);(try clear c18);(try clear c20);(try clear c20b0);(try clear hcz13_0 hcz13_1 hcz13_2 hcz13_3);(try clear hcz15_0 hcz15_1 hcz15_2 hcz15_3);(try clear hcz17_0 hcz17_1 hcz17_2 hcz17_3);(try clear hcz9_0 hcz9_1 hcz9_2 hcz9_3);(try clear hfz13_0 hfz13_1 hfz13_2 hfz13_3);(try clear hfz15_0 hfz15_1 hfz15_2 hfz15_3)
             (try clear hfz17_0 hfz17_1 hfz17_2 hfz17_3);(try clear hfz9_0 hfz9_1 hfz9_2 hfz9_3);(try clear hx131_0);(try clear hx131_1);(try clear hx131_2);(try clear hx131_3);(try clear p1);(try clear p13);(try clear p131);(try clear p2);(try clear p6);(try clear q1);(try clear q13);(try clear q131)
             obtain ⟨x5_3, rfl, HA, HK3, BK132, HB⟩ := hrel
             cases gk with
             | zero => exact absurd HA.out (by simp [spec_GoodNodes.l1])
             | succ k3 =>
              have H := HA.out
              clear HA
              simp only [spec_GoodNodes.l1] at H
              by_cases c21 : x5_3 ≥ 0
              ·rw [if_pos c21] at H
               have c21b0 : decide (0 ≤ x5_3) = true := decide_eq_true c21
               clear c21
               by_cases c22 : x5_3 = ((rd_T38 l0 x12_1).f1)
               ·rw [if_pos c22] at H
                have c22b0 : (x5_3 == ((rd_T38 l0 x12_1).f1)) = true := beq_iff_eq.mpr c22
                have c22b1 : (x5_3 != ((rd_T38 l0 x12_1).f1)) = false := bne_eq_false_iff_eq.mpr c22
                clear c22
                by_cases c23 : x5_3 < 0
                ·rw [if_pos c23] at H
                 have c23b0 : decide (x5_3 < 0) = true := decide_eq_true c23
                 clear c23
                 obtain rfl := Option.some.inj H
                 have hcz24_0 := bc4_0 BK132.out
                 have hcz24_1 := bc4_1 BK132.out
                 have hcz24_2 := bc4_2 BK132.out
                 have hcz24_3 := bc4_3 BK132.out
                 have hfz24_0 := blk_frozen BK132.out 0
                 have hfz24_1 := blk_frozen BK132.out 1
                 have hfz24_2 := blk_frozen BK132.out 2
                 have hfz24_3 := blk_frozen BK132.out 3
                 go_wp2
                 repeat (go_quiet (fail); try go_wp2)
                 go_ret
                 exact ⟨er_, bes_⟩
                ·rw [if_neg c23] at H
                 have c23b0 : decide (x5_3 < 0) = false := decide_eq_false c23
                 clear c23
                 by_cases c25 : 0 ≤ x5_3
                 ·rw [if_pos c25] at H
                  have c25b0 : decide (0 ≤ x5_3) = true := decide_eq_true c25
                  clear c25
                  by_cases c26 : x5_3 < (l0.length : Int)
                  ·rw [if_pos c26] at H
                   have c26b0 : decide (x5_3 < (l0.length : Int)) = true := decide_eq_true c26
                   clear c26
                   by_cases c27 : ((rd_T38 l0 x5_3).f0).toList = ([] : List UInt8)
                   ·rw [if_pos c27] at H
                    have c27b0 : (((rd_T38 l0 x5_3).f0).toList == ([] : List UInt8)) = true := beq_iff_eq.mpr c27
                    have c27b7 : ((rd_T38 l0 x5_3).f0).toList.isEmpty = true := by rw [beq_iff_eq.mp c27b0]; rfl
                    have c27b8 : ¬ (((rd_T38 l0 x5_3).f0).toList.isEmpty = false) := fun h_ => by have h9_ := beq_iff_eq.mp c27b0; rw [h9_] at h_; cases h_
                    have c27b1 : (((rd_T38 l0 x5_3).f0).toList != ([] : List UInt8)) = false := bne_eq_false_iff_eq.mpr c27
                    clear c27
                    obtain rfl := Option.some.inj H
                    have hcz28_0 := bc4_0 BK132.out
                    have hcz28_1 := bc4_1 BK132.out
                    have hcz28_2 := bc4_2 BK132.out
                    have hcz28_3 := bc4_3 BK132.out
                    have hfz28_0 := blk_frozen BK132.out 0
                    have hfz28_1 := blk_frozen BK132.out 1
                    have hfz28_2 := blk_frozen BK132.out 2
                    have hfz28_3 := blk_frozen BK132.out 3
                    have p135 : 0 ≤ (x5_3 : Int) := of_decide_eq_true am_
                    have q135 : x5_3 < (l0.length : Int) := of_decide_eq_true am_
                    obtain ⟨ad135, A135_2, c135_2, e135, hx135_0, hx135_1, hx135_2, hx135_3, hl135_2, hi135_2⟩ := at_T38 HR0.out x5_3 p135 q135
                    obtain rfl : ad131 = ad135 := (by injection e135)
                    replace hx135_0 := pw_cell_below HB.out hx135_0
                    replace hx135_1 := pw_cell_below HB.out hx135_1
                    replace hx135_2 := pw_cell_below HB.out hx135_2
                    replace hx135_3 := pw_cell_below HB.out hx135_3
                    have HR135_2 := Aside0.mk hi135_2
                    have HC135_2 := Aside0.mk hl135_2
                    clear hi135_2 hl135_2
                    replace p135 := eq_true p135
                    replace q135 := eq_true q135
                    go_wp2
                    repeat (go_quiet (fail); try go_wp2)
                    go_ret
                    exact ⟨er_, bes_⟩
                   ·rw [if_neg c27] at H
                    have c27b0 : (((rd_T38 l0 x5_3).f0).toList == ([] : List UInt8)) = false := beq_eq_false_iff_ne.mpr c27
                    have c27b7 : ((rd_T38 l0 x5_3).f0).toList.isEmpty = false := Bool.eq_false_iff.mpr (fun h_ => absurd (List.isEmpty_iff.mp h_) (beq_eq_false_iff_ne.mp c27b0))
                    have c27b8 : ¬ (((rd_T38 l0 x5_3).f0).toList.isEmpty = true) := fun h_ => absurd (List.isEmpty_iff.mp h_) (beq_eq_false_iff_ne.mp c27b0)
                    have c27b1 : (((rd_T38 l0 x5_3).f0).toList != ([] : List UInt8)) = true := bne_iff_ne.mpr c27
                    have H' := Aside0.mk H
                    clear H
                    have hcz29_0 := bc4_0 BK132.out
                    have hcz29_1 := bc4_1 BK132.out
                    have hcz29_2 := bc4_2 BK132.out
                    have hcz29_3 := bc4_3 BK132.out
                    have hfz29_0 := blk_frozen BK132.out 0
                    have hfz29_1 := blk_frozen BK132.out 1
                    have hfz29_2 := blk_frozen BK132.out 2
                    have hfz29_3 := blk_frozen BK132.out 3
                    have p135 : 0 ≤ (x5_3 : Int) := of_decide_eq_true am_
                    have q135 : x5_3 < (l0.length : Int) := of_decide_eq_true am_
                    obtain ⟨ad135, A135_2, c135_2, e135, hx135_0, hx135_1, hx135_2, hx135_3, hl135_2, hi135_2⟩ := at_T38 HR0.out x5_3 p135 q135
                    obtain rfl : ad131 = ad135 := (by injection e135)
                    replace hx135_0 := pw_cell_below HB.out hx135_0
                    replace hx135_1 := pw_cell_below HB.out hx135_1
                    replace hx135_2 := pw_cell_below HB.out hx135_2
                    replace hx135_3 := pw_cell_below HB.out hx135_3
                    have HR135_2 := Aside0.mk hi135_2
                    have HC135_2 := Aside0.mk hl135_2
                    clear hi135_2 hl135_2
                    replace p135 := eq_true p135
                    replace q135 := eq_true q135
                    go_wp2
                    repeat (go_quiet (fail); try go_wp2)
                    go_meet
                    case rel => exact ⟨_, H', ⟨by have := HK1.out; have := HJ6.out; have := HK3.out; first | omega | exact Nat.le_refl _⟩, ⟨by (with_reducible repeat (first | refine blk_drewN ?_ _ | refine blk_drew ?_ | refine blk_alloc ?_ _)); exact BK132.out⟩, ⟨bes_⟩⟩
                  ·rw [if_neg c26] at H
                   exact absurd H (by simp)
                 ·rw [if_neg c25] at H
                  exact absurd H (by simp)
               ·rw [if_neg c22] at H
                have c22b0 : (x5_3 == ((rd_T38 l0 x12_1).f1)) = false := beq_eq_false_iff_ne.mpr c22
                have c22b1 : (x5_3 != ((rd_T38 l0 x12_1).f1)) = true := bne_iff_ne.mpr c22
                by_cases c30 : 0 ≤ x5_3
                ·rw [if_pos c30] at H
                 have c30b0 : decide (0 ≤ x5_3) = true := decide_eq_true c30
                 clear c30
                 by_cases c31 : x5_3 < (l0.length : Int)
                 ·rw [if_pos c31] at H
                  have c31b0 : decide (x5_3 < (l0.length : Int)) = true := decide_eq_true c31
                  clear c31
                  have H' := Aside0.mk H
                  clear H
                  have hcz32_0 := bc4_0 BK132.out
                  have hcz32_1 := bc4_1 BK132.out
                  have hcz32_2 := bc4_2 BK132.out
                  have hcz32_3 := bc4_3 BK132.out
                  have hfz32_0 := blk_frozen BK132.out 0
                  have hfz32_1 := blk_frozen BK132.out 1
                  have hfz32_2 := blk_frozen BK132.out 2
                  have hfz32_3 := blk_frozen BK132.out 3
                  have p136 : 0 ≤ (x5_3 : Int) := of_decide_eq_true am_
                  have q136 : x5_3 < (l0.length : Int) := of_decide_eq_true am_
                  obtain ⟨ad136, A136_2, c136_2, e136, hx136_0, hx136_1, hx136_2, hx136_3, hl136_2, hi136_2⟩ := at_T38 HR0.out x5_3 p136 q136
                  obtain rfl : ad131 = ad136 := (by injection e136)
                  replace hx136_0 := pw_cell_below HB.out hx136_0
                  replace hx136_1 := pw_cell_below HB.out hx136_1
                  replace hx136_2 := pw_cell_below HB.out hx136_2
                  replace hx136_3 := pw_cell_below HB.out hx136_3
                  have HR136_2 := Aside0.mk hi136_2
                  have HC136_2 := Aside0.mk hl136_2
                  clear hi136_2 hl136_2
                  replace p136 := eq_true p136
                  replace q136 := eq_true q136
                  go_wp2
                  repeat (go_quiet (fail); try go_wp2)
                  go_roundg k3
                  case measure => have := HK1.out; have := HJ6.out; have := HK3.out; omega
                  case rel => exact ⟨((rd_T38 l0 x5_3).f1), sv_, H', ⟨by have := HK1.out; have := HJ6.out; have := HK3.out; omega⟩, ⟨by (with_reducible repeat (first | refine blk_drewN ?_ _ | refine blk_drew ?_ | refine blk_alloc ?_ _)); exact BK132.out⟩, ⟨bes_⟩⟩
                 ·rw [if_neg c31] at H
                  exact absurd H (by simp)
                ·rw [if_neg c30] at H
                 exact absurd H (by simp)
              ·rw [if_neg c21] at H
               have c21b0 : decide (0 ≤ x5_3) = false := decide_eq_false c21
               clear c21
               by_cases c33 : x5_3 < 0
               ·rw [if_pos c33] at H
                have c33b0 : decide (x5_3 < 0) = true := decide_eq_true c33
                clear c33
                obtain rfl := Option.some.inj H
                go_wp2
                repeat (go_quiet (fail); try go_wp2)
                go_ret
                exact ⟨er_, bes_⟩
               ·rw [if_neg c33] at H
                have c33b0 : decide (x5_3 < 0) = false := decide_eq_false c33
                clear c33
                by_cases c34 : 0 ≤ x5_3
                ·rw [if_pos c34] at H
                 have c34b0 : decide (0 ≤ x5_3) = true := decide_eq_true c34
                 exact absurd c34b0 (by rw [c21b0]; decide)
                ·rw [if_neg c34] at H
                 exact absurd H (by simp)
           ·rw [if_neg c20] at H
            have c20b0 : decide (0 < x12_1) = false := decide_eq_false c20
            clear c20
            (first | rw [c20b0] | (simp only [i64_w, i32_w]; rw [c20b0]) | skip)
            have H' := Aside0.mk H
            clear H
            go_wp2
            repeat (go_quiet (fail); try go_wp2)
            go_meet
            case rel => exact ⟨_, H', ⟨by have := HK1.out; have := HJ6.out; first | omega | exact Nat.le_refl _⟩, ⟨by (with_reducible repeat (first | refine blk_drewN ?_ _ | refine blk_drew ?_ | refine blk_alloc ?_ _)); exact BK132.out⟩, ⟨bes_⟩⟩
          case rest =>
           clear HC19
           (try clear c1);(try clear p1);(try clear q1);(try clear hx1);(try clear c2);(try clear p2);(try clear c3);(try clear c4);(try clear c4b0);(try clear c5);(try clear c5b0);(try clear c6);(try clear c6b0);(try clear p6);(try clear c10);(try clear c11);(try clear c12);(try clear c12b0 c12b1 c12b2);(try clear c13);(try clear p13);(try clear q13);(try clear hx13);(try clear c18);(try clear c20);(try clear c20b0);(try clear c21);(try clear c21b0);(try clear c22);(try clear c22b0 c22b1);(try clear c23);(try clear c23b0);(try clear c25);(try clear c25b0);(try clear c26);(try clear c26b0);(try clear c27);(try clear c27b0 c27b1);(try clear c30);(try clear c30b0);(try clear c31);(try clear c31b0);(try clear c33);(try clear c33b0);(try clear c34);(try clear c34b0);(try clear c35);(try clear c35b0);(try clear c36);(try clear c36b0 c36b1);(try clear hcz13_0)
           (try clear hcz13_1 hcz13_2 hcz13_3);(try clear hcz15_0 hcz15_1 hcz15_2 hcz15_3);(try clear hcz17_0 hcz17_1 hcz17_2 hcz17_3);(try clear hcz24_0 hcz24_1 hcz24_2 hcz24_3);(try clear hcz28_0 hcz28_1 hcz28_2 hcz28_3);(try clear hcz29_0 hcz29_1 hcz29_2 hcz29_3);(try clear hcz32_0 hcz32_1 hcz32_2 hcz32_3);(try clear hcz9_0 hcz9_1 hcz9_2 hcz9_3);(try clear hfz13_0 hfz13_1 hfz13_2 hfz13_3);(try clear hfz15_0 hfz15_1 hfz15_2 hfz15_3);(try clear hfz17_0 hfz17_1 hfz17_2 hfz17_3);(try clear hfz24_0 hfz24_1 hfz24_2)
           (try clear hfz24_3);(try clear hfz28_0 hfz28_1 hfz28_2 hfz28_3);(try clear hfz29_0 hfz29_1 hfz29_2 hfz29_3);(try clear hfz32_0 hfz32_1 hfz32_2 hfz32_3);(try clear hfz9_0 hfz9_1 hfz9_2 hfz9_3);(try clear hx131_0);(try clear hx131_1);(try clear hx131_2);(try clear hx131_3);(try clear hx135_0);(try clear hx135_1);(try clear hx135_2);(try clear hx135_3);(try clear hx136_0);(try clear hx136_1);(try clear hx136_2);(try clear hx136_3);(try clear hx137_0);(try clear hx137_1);(try clear hx137_2);(try clear hx137_3);(try clear p1);(try clear p13);(try clear p131);(try clear p135);(try clear p136);(try clear p137);(try clear p2);(try clear p6);(try clear q1);(try clear q13);(try clear q131);(try clear q135);(try clear q136);(try clear q137)
           obtain ⟨kq, HA, HJ18, BK132, HB⟩ := hcut
           cases kq with
           | zero => exact absurd HA.out (by simp [spec_GoodNodes.j3])
           | succ kj18 =>
            have H := HA.out
            clear HA
            simp only [spec_GoodNodes.j3] at H
            by_cases c37 : ((rd_T38 l0 x12_1).f0).toList = ([] : List UInt8)
            ·rw [if_pos c37] at H
             have c37b0 : (((rd_T38 l0 x12_1).f0).toList == ([] : List UInt8)) = true := beq_iff_eq.mpr c37
             have c37b7 : ((rd_T38 l0 x12_1).f0).toList.isEmpty = true := by rw [beq_iff_eq.mp c37b0]; rfl
             have c37b8 : ¬ (((rd_T38 l0 x12_1).f0).toList.isEmpty = false) := fun h_ => by have h9_ := beq_iff_eq.mp c37b0; rw [h9_] at h_; cases h_
             have c37b1 : (((rd_T38 l0 x12_1).f0).toList != ([] : List UInt8)) = false := bne_eq_false_iff_eq.mpr c37
             clear c37
             have HC38 := Aside0.mk H
             clear H
             have hcz39_0 := bc4_0 BK132.out
             have hcz39_1 := bc4_1 BK132.out
             have hcz39_2 := bc4_2 BK132.out
             have hcz39_3 := bc4_3 BK132.out
             have hfz39_0 := blk_frozen BK132.out 0
             have hfz39_1 := blk_frozen BK132.out 1
             have hfz39_2 := blk_frozen BK132.out 2
             have hfz39_3 := blk_frozen BK132.out 3
             go_upto_region 17 with (fail)
             repeat (go_quiet (fail); go_upto_region 17 with (fail))
             go_cut [100] (fun v100 wc => ∃ (kq : Nat) (x100_37 : Bool), v100 = .bool x100_37 ∧ Aside0 (spec_GoodNodes.j4 kq l0 x12_1 l0 (l0.length : Int) x12_1 x100_37 ((rd_T38 l0 x12_1).f0) ((rd_T38 l0 x12_1).f1) ((rd_T38 l0 x12_1).f2) ((rd_T38 l0 x12_1).f3) = some r) ∧ Aside0 (kq ≤ kj18) ∧ Aside0 (wc.heap[gb132]? = some (.cells #[.string ((rd_T38 l0 x12_1).f0), .int .i64 ((rd_T38 l0 x12_1).f1), (.slice A131_2 ((rd_T38 l0 x12_1).f2).length c131_2), .string ((rd_T38 l0 x12_1).f3)] 38 (0, 0))) ∧ Aside0 (Below w.heap.size w wc))
             case first =>
              have H := HC38.out
              clear HC38
              by_cases c40 : x12_1 = 0
              ·rw [if_pos c40] at H
               have c40b0 : (x12_1 == 0) = true := beq_iff_eq.mpr c40
               have c40b1 : (x12_1 != 0) = false := bne_eq_false_iff_eq.mpr c40
               clear c40
               (first | rw [c40b0] | (simp only [i64_w, i32_w]; rw [c40b0]) | skip)
               have H' := Aside0.mk H
               clear H
               go_wp2
               repeat (go_quiet (fail); try go_wp2)
               go_meet
               case rel => exact ⟨_, (true), sv_, H', ⟨by have := HK1.out; have := HJ6.out; have := HJ18.out; first | omega | exact Nat.le_refl _⟩, ⟨by (with_reducible repeat (first | refine blk_drewN ?_ _ | refine blk_drew ?_ | refine blk_alloc ?_ _)); exact BK132.out⟩, ⟨bes_⟩⟩
              ·rw [if_neg c40] at H
               have c40b0 : (x12_1 == 0) = false := beq_eq_false_iff_ne.mpr c40
               have c40b1 : (x12_1 != 0) = true := bne_iff_ne.mpr c40
               (first | rw [c40b0] | (simp only [i64_w, i32_w]; rw [c40b0]) | skip)
               by_cases c41 : (((rd_T38 l0 x12_1).f2).length : Int) > 0
               ·rw [if_pos c41] at H
                have c41b0 : decide (0 < (((rd_T38 l0 x12_1).f2).length : Int)) = true := decide_eq_true c41
                have c41b1 : decide (0 < ((rd_T38 l0 x12_1).f2).length) = true := decide_eq_true (by omega)
                clear c41
                have H' := Aside0.mk H
                clear H
                have hcz42_0 := bc4_0 BK132.out
                have hcz42_1 := bc4_1 BK132.out
                have hcz42_2 := bc4_2 BK132.out
                have hcz42_3 := bc4_3 BK132.out
                have hfz42_0 := blk_frozen BK132.out 0
                have hfz42_1 := blk_frozen BK132.out 1
                have hfz42_2 := blk_frozen BK132.out 2
                have hfz42_3 := blk_frozen BK132.out 3
                go_wp2
                repeat (go_quiet (fail); try go_wp2)
                go_meet
                case rel => exact ⟨_, (true), sv_, H', ⟨by have := HK1.out; have := HJ6.out; have := HJ18.out; first | omega | exact Nat.le_refl _⟩, ⟨by (with_reducible repeat (first | refine blk_drewN ?_ _ | refine blk_drew ?_ | refine blk_alloc ?_ _)); exact BK132.out⟩, ⟨bes_⟩⟩
               ·rw [if_neg c41] at H
                have c41b0 : decide (0 < (((rd_T38 l0 x12_1).f2).length : Int)) = false := decide_eq_false c41
                have c41b1 : decide (0 < ((rd_T38 l0 x12_1).f2).length) = false := decide_eq_false (by omega)
                clear c41
                by_cases c43 : ((rd_T38 l0 x12_1).f3).toList = ([] : List UInt8)
                ·rw [if_pos c43] at H
                 have c43b0 : (((rd_T38 l0 x12_1).f3).toList == ([] : List UInt8)) = true := beq_iff_eq.mpr c43
                 have c43b7 : ((rd_T38 l0 x12_1).f3).toList.isEmpty = true := by rw [beq_iff_eq.mp c43b0]; rfl
                 have c43b8 : ¬ (((rd_T38 l0 x12_1).f3).toList.isEmpty = false) := fun h_ => by have h9_ := beq_iff_eq.mp c43b0; rw [h9_] at h_; cases h_
                 have c43b1 : (((rd_T38 l0 x12_1).f3).toList != ([] : List UInt8)) = false := bne_eq_false_iff_eq.mpr c43
                 clear c43
                 have H' := Aside0.mk H
                 clear H
                 have hcz44_0 := bc4_0 BK132.out
                 have hcz44_1 := bc4_1 BK132.out
                 have hcz44_2 := bc4_2 BK132.out
                 have hcz44_3 := bc4_3 BK132.out
                 have hfz44_0 := blk_frozen BK132.out 0
                 have hfz44_1 := blk_frozen BK132.out 1
                 have hfz44_2 := blk_frozen BK132.out 2
                 have hfz44_3 := blk_frozen BK132.out 3
                 go_wp2
                 repeat (go_quiet (fail); try go_wp2)
                 go_meet
                 case rel => exact ⟨_, (true), sv_, H', ⟨by have := HK1.out; have := HJ6.out; have := HJ18.out; first | omega | exact Nat.le_refl _⟩, ⟨by (with_reducible repeat (first | refine blk_drewN ?_ _ | refine blk_drew ?_ | refine blk_alloc ?_ _)); exact BK132.out⟩, ⟨bes_⟩⟩
                ·rw [if_neg c43] at H
                 have c43b0 : (((rd_T38 l0 x12_1).f3).toList == ([] : List UInt8)) = false := beq_eq_false_iff_ne.mpr c43
                 have c43b7 : ((rd_T38 l0 x12_1).f3).toList.isEmpty = false := Bool.eq_false_iff.mpr (fun h_ => absurd (List.isEmpty_iff.mp h_) (beq_eq_false_iff_ne.mp c43b0))
                 have c43b8 : ¬ (((rd_T38 l0 x12_1).f3).toList.isEmpty = true) := fun h_ => absurd (List.isEmpty_iff.mp h_) (beq_eq_false_iff_ne.mp c43b0)
                 have c43b1 : (((rd_T38 l0 x12_1).f3).toList != ([] : List UInt8)) = true := bne_iff_ne.mpr c43
                 replace H := Option.bind_eq_some_iff.mp H
                 obtain ⟨t140, A450, H⟩ := H
                 replace H : (spec_GoodNodes.j4 kj18 l0 x12_1 l0 (l0.length : Int) x12_1 (decide (t140 ≥ 0)) ((rd_T38 l0 x12_1).f0) ((rd_T38 l0 x12_1).f1) ((rd_T38 l0 x12_1).f2) ((rd_T38 l0 x12_1).f3)) = some r := H
                 have A45 := Aside0.mk A450
                 clear A450
                 have H' := Aside0.mk H
                 clear H
                 have hcz46_0 := bc4_0 BK132.out
                 have hcz46_1 := bc4_1 BK132.out
                 have hcz46_2 := bc4_2 BK132.out
                 have hcz46_3 := bc4_3 BK132.out
                 have hfz46_0 := blk_frozen BK132.out 0
                 have hfz46_1 := blk_frozen BK132.out 1
                 have hfz46_2 := blk_frozen BK132.out 2
                 have hfz46_3 := blk_frozen BK132.out 3
                 go_wp2_with (first | (go_at_call 21; (with_reducible refine (spec_l4Bad.calls kj18 ((rd_T38 l0 x12_1).f3) t140 _ A45.out).mono ?_); rintro e w' ⟨rfl, ⟨nd, rfl⟩⟩; (try exact dd_)))
                 repeat (go_quiet (first | (go_at_call 21; (with_reducible refine (spec_l4Bad.calls kj18 ((rd_T38 l0 x12_1).f3) t140 _ A45.out).mono ?_); rintro e w' ⟨rfl, ⟨nd, rfl⟩⟩; (try exact dd_))); try go_wp2_with (first | (go_at_call 21; (with_reducible refine (spec_l4Bad.calls kj18 ((rd_T38 l0 x12_1).f3) t140 _ A45.out).mono ?_); rintro e w' ⟨rfl, ⟨nd, rfl⟩⟩; (try exact dd_))))
                 go_meet
                 case rel => exact ⟨_, (decide (t140 ≥ 0)), sv_, H', ⟨by have := HK1.out; have := HJ6.out; have := HJ18.out; first | omega | exact Nat.le_refl _⟩, ⟨by (with_reducible repeat (first | refine blk_drewN ?_ _ | refine blk_drew ?_ | refine blk_alloc ?_ _)); exact BK132.out⟩, ⟨bes_⟩⟩
             case rest =>
              clear HC38
              (try clear c1);(try clear p1);(try clear q1);(try clear hx1);(try clear c2);(try clear p2);(try clear c3);(try clear c4);(try clear c4b0);(try clear c5);(try clear c5b0);(try clear c6);(try clear c6b0);(try clear p6);(try clear c10);(try clear c11);(try clear c12);(try clear c12b0 c12b1 c12b2);(try clear c13);(try clear p13);(try clear q13);(try clear hx13);(try clear c18);(try clear c20);(try clear c20b0);(try clear c21);(try clear c21b0);(try clear c22);(try clear c22b0 c22b1);(try clear c23);(try clear c23b0);(try clear c25);(try clear c25b0);(try clear c26);(try clear c26b0);(try clear c27);(try clear c27b0 c27b1);(try clear c30);(try clear c30b0);(try clear c31);(try clear c31b0);(try clear c33);(try clear c33b0);(try clear c34);(try clear c34b0);(try clear c35);(try clear c35b0);(try clear c36);(try clear c36b0 c36b1);(try clear c37)
              (try clear c37b0 c37b1);(try clear c40);(try clear c40b0 c40b1);(try clear c41);(try clear c41b0 c41b1);(try clear c43);(try clear c43b0 c43b1);(try clear hcz13_0 hcz13_1 hcz13_2 hcz13_3);(try clear hcz15_0 hcz15_1 hcz15_2 hcz15_3);(try clear hcz17_0 hcz17_1 hcz17_2 hcz17_3);(try clear hcz24_0 hcz24_1 hcz24_2 hcz24_3);(try clear hcz28_0 hcz28_1 hcz28_2 hcz28_3);(try clear hcz29_0 hcz29_1 hcz29_2 hcz29_3);(try clear hcz32_0 hcz32_1 hcz32_2 hcz32_3);(try clear hcz39_0 hcz39_1 hcz39_2 hcz39_3);(try clear hcz42_0 hcz42_1 hcz42_2 hcz42_3)
              (try clear hcz44_0 hcz44_1 hcz44_2 hcz44_3);(try clear hcz46_0 hcz46_1 hcz46_2 hcz46_3);(try clear hcz9_0 hcz9_1 hcz9_2 hcz9_3);(try clear hfz13_0 hfz13_1 hfz13_2 hfz13_3);(try clear hfz15_0 hfz15_1 hfz15_2 hfz15_3);(try clear hfz17_0 hfz17_1 hfz17_2 hfz17_3);(try clear hfz24_0 hfz24_1 hfz24_2 hfz24_3);(try clear hfz28_0 hfz28_1 hfz28_2 hfz28_3);(try clear hfz29_0 hfz29_1 hfz29_2 hfz29_3);(try clear hfz32_0 hfz32_1 hfz32_2 hfz32_3);(try clear hfz39_0 hfz39_1 hfz39_2 hfz39_3);(try clear hfz42_0 hfz42_1)
              (try clear hfz42_2 hfz42_3);(try clear hfz44_0 hfz44_1 hfz44_2 hfz44_3);(try clear hfz46_0 hfz46_1 hfz46_2 hfz46_3);(try clear hfz9_0 hfz9_1 hfz9_2 hfz9_3);(try clear hx131_0);(try clear hx131_1);(try clear hx131_2);(try clear hx131_3);(try clear hx135_0);(try clear hx135_1);(try clear hx135_2);(try clear hx135_3);(try clear hx136_0);(try clear hx136_1);(try clear hx136_2);(try clear hx136_3);(try clear hx137_0);(try clear hx137_1);(try clear hx137_2);(try clear hx137_3);(try clear p1);(try clear p13);(try clear p131);(try clear p135);(try clear p136);(try clear p137);(try clear p2);(try clear p6);(try clear q1);(try clear q13);(try clear q131);(try clear q135);(try clear q136);(try clear q137)
              obtain ⟨kq, x100_37, rfl, HA, HJ37, BK132, HB⟩ := hcut
              cases kq with
              | zero => exact absurd HA.out (by simp [spec_GoodNodes.j4])
              | succ kj37 =>
               have H := HA.out
               clear HA
               simp only [spec_GoodNodes.j4] at H
               by_cases c47 : x100_37 = true
               ·subst c47
                have H1 : (some false) = some r := by rw [if_pos rfl] at H; exact H
                clear H
                have H := H1
                clear H1
                obtain rfl := Option.some.inj H
                go_wp2
                repeat (go_quiet (fail); try go_wp2)
                go_ret
                exact ⟨er_, bes_⟩
               ·replace c47 := Bool.eq_false_iff.mpr c47
                subst c47
                have H1 : (if 0 ≤ (wrap64 (x12_1 - 1)) then (if (wrap64 (x12_1 - 1)) < (l0.length : Int) then (if ((rd_T38 l0 (wrap64 (x12_1 - 1))).f0).toList = ([] : List UInt8) then (if ((rd_T38 l0 (wrap64 (x12_1 - 1))).f1) = ((rd_T38 l0 x12_1).f1) then (some false) else (spec_GoodNodes.l0 kj37 l0 l0 (l0.length : Int) (wrap64 (x12_1 + 1)))) else (spec_GoodNodes.l0 kj37 l0 l0 (l0.length : Int) (wrap64 (x12_1 + 1)))) else (none)) else (none)) = some r := by rw [if_neg (show ¬ (false = true) by decide)] at H; exact H
                clear H
                have H := H1
                clear H1
                obtain ⟨ji48, hji48⟩ : ∃ j_ : Int, (wrap64 (x12_1 - 1)) = j_ := ⟨_, rfl⟩
                replace H : (if 0 ≤ (ji48) then (if (ji48) < (l0.length : Int) then (if ((rd_T38 l0 (ji48)).f0).toList = ([] : List UInt8) then (if ((rd_T38 l0 (ji48)).f1) = ((rd_T38 l0 x12_1).f1) then (some false) else (spec_GoodNodes.l0 kj37 l0 l0 (l0.length : Int) (wrap64 (x12_1 + 1)))) else (spec_GoodNodes.l0 kj37 l0 l0 (l0.length : Int) (wrap64 (x12_1 + 1)))) else (none)) else (none)) = some r := by first | (rw [hji48] at H; exact H) | (simp only [hji48] at H ⊢; exact H)
                have hji48w : (IntKind.i64.wrap (x12_1 - 1)) = ji48 := (i64_w _).trans hji48
                by_cases c49 : 0 ≤ (ji48)
                ·rw [if_pos c49] at H
                 have c49b0 : decide (0 ≤ (ji48)) = true := decide_eq_true c49
                 clear c49
                 by_cases c50 : (ji48) < (l0.length : Int)
                 ·rw [if_pos c50] at H
                  have c50b0 : decide ((ji48) < (l0.length : Int)) = true := decide_eq_true c50
                  clear c50
                  by_cases c51 : ((rd_T38 l0 (ji48)).f0).toList = ([] : List UInt8)
                  ·rw [if_pos c51] at H
                   have c51b0 : (((rd_T38 l0 (ji48)).f0).toList == ([] : List UInt8)) = true := beq_iff_eq.mpr c51
                   have c51b7 : ((rd_T38 l0 (ji48)).f0).toList.isEmpty = true := by rw [beq_iff_eq.mp c51b0]; rfl
                   have c51b8 : ¬ (((rd_T38 l0 (ji48)).f0).toList.isEmpty = false) := fun h_ => by have h9_ := beq_iff_eq.mp c51b0; rw [h9_] at h_; cases h_
                   have c51b1 : (((rd_T38 l0 (ji48)).f0).toList != ([] : List UInt8)) = false := bne_eq_false_iff_eq.mpr c51
                   clear c51
                   by_cases c52 : ((rd_T38 l0 (ji48)).f1) = ((rd_T38 l0 x12_1).f1)
                   ·rw [if_pos c52] at H
                    have c52b0 : (((rd_T38 l0 (ji48)).f1) == ((rd_T38 l0 x12_1).f1)) = true := beq_iff_eq.mpr c52
                    have c52b1 : (((rd_T38 l0 (ji48)).f1) != ((rd_T38 l0 x12_1).f1)) = false := bne_eq_false_iff_eq.mpr c52
                    clear c52
                    obtain rfl := Option.some.inj H
                    have p141 : 0 ≤ ((ji48) : Int) := of_decide_eq_true am_
                    have q141 : (ji48) < (l0.length : Int) := of_decide_eq_true am_
                    obtain ⟨ad141, A141_2, c141_2, e141, hx141_0, hx141_1, hx141_2, hx141_3, hl141_2, hi141_2⟩ := at_T38 HR0.out (ji48) p141 q141
                    obtain rfl : ad131 = ad141 := (by injection e141)
                    replace hx141_0 := pw_cell_below HB.out hx141_0
                    replace hx141_1 := pw_cell_below HB.out hx141_1
                    replace hx141_2 := pw_cell_below HB.out hx141_2
                    replace hx141_3 := pw_cell_below HB.out hx141_3
                    have HR141_2 := Aside0.mk hi141_2
                    have HC141_2 := Aside0.mk hl141_2
                    clear hi141_2 hl141_2
                    replace p141 := eq_true p141
                    replace q141 := eq_true q141
                    have p142 : 0 ≤ ((ji48) : Int) := of_decide_eq_true am_
                    have q142 : (ji48) < (l0.length : Int) := of_decide_eq_true am_
                    obtain ⟨ad142, A142_2, c142_2, e142, hx142_0, hx142_1, hx142_2, hx142_3, hl142_2, hi142_2⟩ := at_T38 HR0.out (ji48) p142 q142
                    obtain rfl : ad131 = ad142 := (by injection e142)
                    (try (have e9_ := hx142_2.symm.trans hw141_2; simp only [Option.some.injEq, Value.slice.injEq, true_and, and_true] at e9_; obtain ⟨rfl, rfl⟩ := e9_))
                    replace hx142_0 := pw_cell_below HB.out hx142_0
                    replace hx142_1 := pw_cell_below HB.out hx142_1
                    replace hx142_2 := pw_cell_below HB.out hx142_2
                    replace hx142_3 := pw_cell_below HB.out hx142_3
                    have HR142_2 := Aside0.mk hi142_2
                    have HC142_2 := Aside0.mk hl142_2
                    clear hi142_2 hl142_2
                    replace p142 := eq_true p142
                    replace q142 := eq_true q142
                    have ea_ := Option.some.inj (hx141_2.symm.trans hx142_2)
                    injection ea_ with ea_ en_ ec_
                    subst ea_
                    subst ec_
                    clear en_
                    have hcz53_0 := bc4_0 BK132.out
                    have hcz53_1 := bc4_1 BK132.out
                    have hcz53_2 := bc4_2 BK132.out
                    have hcz53_3 := bc4_3 BK132.out
                    have hfz53_0 := blk_frozen BK132.out 0
                    have hfz53_1 := blk_frozen BK132.out 1
                    have hfz53_2 := blk_frozen BK132.out 2
                    have hfz53_3 := blk_frozen BK132.out 3
                    go_wp2
                    repeat (go_quiet (fail); try go_wp2)
                    go_ret
                    exact ⟨by first | rfl | (simp [errW_none, errW_some] <;> rfl) | (simp only [← hji48]; first | rfl | (simp [errW_none, errW_some] <;> rfl)) | (simp [*, errW_none, errW_some] <;> rfl), bes_⟩
                   ·rw [if_neg c52] at H
                    have c52b0 : (((rd_T38 l0 (ji48)).f1) == ((rd_T38 l0 x12_1).f1)) = false := beq_eq_false_iff_ne.mpr c52
                    have c52b1 : (((rd_T38 l0 (ji48)).f1) != ((rd_T38 l0 x12_1).f1)) = true := bne_iff_ne.mpr c52
                    have H' := Aside0.mk H
                    clear H
                    have p141 : 0 ≤ ((ji48) : Int) := of_decide_eq_true am_
                    have q141 : (ji48) < (l0.length : Int) := of_decide_eq_true am_
                    obtain ⟨ad141, A141_2, c141_2, e141, hx141_0, hx141_1, hx141_2, hx141_3, hl141_2, hi141_2⟩ := at_T38 HR0.out (ji48) p141 q141
                    obtain rfl : ad131 = ad141 := (by injection e141)
                    replace hx141_0 := pw_cell_below HB.out hx141_0
                    replace hx141_1 := pw_cell_below HB.out hx141_1
                    replace hx141_2 := pw_cell_below HB.out hx141_2
                    replace hx141_3 := pw_cell_below HB.out hx141_3
                    have HR141_2 := Aside0.mk hi141_2
                    have HC141_2 := Aside0.mk hl141_2
                    clear hi141_2 hl141_2
                    replace p141 := eq_true p141
                    replace q141 := eq_true q141
                    have p142 : 0 ≤ ((ji48) : Int) := of_decide_eq_true am_
                    have q142 : (ji48) < (l0.length : Int) := of_decide_eq_true am_
                    obtain ⟨ad142, A142_2, c142_2, e142, hx142_0, hx142_1, hx142_2, hx142_3, hl142_2, hi142_2⟩ := at_T38 HR0.out (ji48) p142 q142
                    obtain rfl : ad131 = ad142 := (by injection e142)
                    (try (have e9_ := hx142_2.symm.trans hw141_2; simp only [Option.some.injEq, Value.slice.injEq, true_and, and_true] at e9_; obtain ⟨rfl, rfl⟩ := e9_))
                    replace hx142_0 := pw_cell_below HB.out hx142_0
                    replace hx142_1 := pw_cell_below HB.out hx142_1
                    replace hx142_2 := pw_cell_below HB.out hx142_2
                    replace hx142_3 := pw_cell_below HB.out hx142_3
                    have HR142_2 := Aside0.mk hi142_2
                    have HC142_2 := Aside0.mk hl142_2
                    clear hi142_2 hl142_2
                    replace p142 := eq_true p142
                    replace q142 := eq_true q142
                    have ea_ := Option.some.inj (hx141_2.symm.trans hx142_2)
                    injection ea_ with ea_ en_ ec_
                    subst ea_
                    subst ec_
                    clear en_
                    have hcz54_0 := bc4_0 BK132.out
                    have hcz54_1 := bc4_1 BK132.out
                    have hcz54_2 := bc4_2 BK132.out
                    have hcz54_3 := bc4_3 BK132.out
                    have hfz54_0 := blk_frozen BK132.out 0
                    have hfz54_1 := blk_frozen BK132.out 1
                    have hfz54_2 := blk_frozen BK132.out 2
                    have hfz54_3 := blk_frozen BK132.out 3
                    go_wp2
                    repeat (go_quiet (fail); try go_wp2)
                    go_roundg kj37
                    case measure => have := HK1.out; have := HJ6.out; have := HJ18.out; have := HJ37.out; omega
                    case rel => exact ⟨(wrap64 (x12_1 + 1)), sv_, H', ⟨by have := HK1.out; have := HJ6.out; have := HJ18.out; have := HJ37.out; omega⟩, ⟨bes_⟩⟩
                  ·rw [if_neg c51] at H
                   have c51b0 : (((rd_T38 l0 (ji48)).f0).toList == ([] : List UInt8)) = false := beq_eq_false_iff_ne.mpr c51
                   have c51b7 : ((rd_T38 l0 (ji48)).f0).toList.isEmpty = false := Bool.eq_false_iff.mpr (fun h_ => absurd (List.isEmpty_iff.mp h_) (beq_eq_false_iff_ne.mp c51b0))
                   have c51b8 : ¬ (((rd_T38 l0 (ji48)).f0).toList.isEmpty = true) := fun h_ => absurd (List.isEmpty_iff.mp h_) (beq_eq_false_iff_ne.mp c51b0)
                   have c51b1 : (((rd_T38 l0 (ji48)).f0).toList != ([] : List UInt8)) = true := bne_iff_ne.mpr c51
                   have H' := Aside0.mk H
                   clear H
                   have p141 : 0 ≤ ((ji48) : Int) := of_decide_eq_true am_
                   have q141 : (ji48) < (l0.length : Int) := of_decide_eq_true am_
                   obtain ⟨ad141, A141_2, c141_2, e141, hx141_0, hx141_1, hx141_2, hx141_3, hl141_2, hi141_2⟩ := at_T38 HR0.out (ji48) p141 q141
                   obtain rfl : ad131 = ad141 := (by injection e141)
                   replace hx141_0 := pw_cell_below HB.out hx141_0
                   replace hx141_1 := pw_cell_below HB.out hx141_1
                   replace hx141_2 := pw_cell_below HB.out hx141_2
                   replace hx141_3 := pw_cell_below HB.out hx141_3
                   have HR141_2 := Aside0.mk hi141_2
                   have HC141_2 := Aside0.mk hl141_2
                   clear hi141_2 hl141_2
                   replace p141 := eq_true p141
                   replace q141 := eq_true q141
                   go_wp2
                   repeat (go_quiet (fail); try go_wp2)
                   go_roundg kj37
                   case measure => have := HK1.out; have := HJ6.out; have := HJ18.out; have := HJ37.out; omega
                   case rel => exact ⟨(wrap64 (x12_1 + 1)), sv_, H', ⟨by have := HK1.out; have := HJ6.out; have := HJ18.out; have := HJ37.out; omega⟩, ⟨bes_⟩⟩
                 ·rw [if_neg c50] at H
                  exact absurd H (by simp)
                ·rw [if_neg c49] at H
                 exact absurd H (by simp)
            ·rw [if_neg c37] at H
             have c37b0 : (((rd_T38 l0 x12_1).f0).toList == ([] : List UInt8)) = false := beq_eq_false_iff_ne.mpr c37
             have c37b7 : ((rd_T38 l0 x12_1).f0).toList.isEmpty = false := Bool.eq_false_iff.mpr (fun h_ => absurd (List.isEmpty_iff.mp h_) (beq_eq_false_iff_ne.mp c37b0))
             have c37b8 : ¬ (((rd_T38 l0 x12_1).f0).toList.isEmpty = true) := fun h_ => absurd (List.isEmpty_iff.mp h_) (beq_eq_false_iff_ne.mp c37b0)
             have c37b1 : (((rd_T38 l0 x12_1).f0).toList != ([] : List UInt8)) = true := bne_iff_ne.mpr c37
             replace H := Option.bind_eq_some_iff.mp H
             obtain ⟨t138, A550, H⟩ := H
             replace H : (if t138 = true then (if ((rd_T38 l0 x12_1).f3).toList = ([] : List UInt8) then ((spec_l4Deep.f kj18 l0 x12_1).bind fun t139 => (if t139 > 10 then (some false) else (spec_GoodNodes.l0 kj18 l0 l0 (l0.length : Int) (wrap64 (x12_1 + 1))))) else (some false)) else (some false)) = some r := H
             have A55 := Aside0.mk A550
             clear A550
             by_cases c56 : t138 = true
             ·subst c56
              have H1 : (if ((rd_T38 l0 x12_1).f3).toList = ([] : List UInt8) then ((spec_l4Deep.f kj18 l0 x12_1).bind fun t139 => (if t139 > 10 then (some false) else (spec_GoodNodes.l0 kj18 l0 l0 (l0.length : Int) (wrap64 (x12_1 + 1))))) else (some false)) = some r := by rw [if_pos rfl] at H; exact H
              clear H
              have H := H1
              clear H1
              by_cases c57 : ((rd_T38 l0 x12_1).f3).toList = ([] : List UInt8)
              ·rw [if_pos c57] at H
               have c57b0 : (((rd_T38 l0 x12_1).f3).toList == ([] : List UInt8)) = true := beq_iff_eq.mpr c57
               have c57b7 : ((rd_T38 l0 x12_1).f3).toList.isEmpty = true := by rw [beq_iff_eq.mp c57b0]; rfl
               have c57b8 : ¬ (((rd_T38 l0 x12_1).f3).toList.isEmpty = false) := fun h_ => by have h9_ := beq_iff_eq.mp c57b0; rw [h9_] at h_; cases h_
               have c57b1 : (((rd_T38 l0 x12_1).f3).toList != ([] : List UInt8)) = false := bne_eq_false_iff_eq.mpr c57
               clear c57
               replace H := Option.bind_eq_some_iff.mp H
               obtain ⟨t139, A580, H⟩ := H
               replace H : (if t139 > 10 then (some false) else (spec_GoodNodes.l0 kj18 l0 l0 (l0.length : Int) (wrap64 (x12_1 + 1)))) = some r := H
               have A58 := Aside0.mk A580
               clear A580
               by_cases c59 : t139 > 10
               ·rw [if_pos c59] at H
                have c59b0 : decide (10 < t139) = true := decide_eq_true c59
                clear c59
                obtain rfl := Option.some.inj H
                have hcz60_0 := bc4_0 BK132.out
                have hcz60_1 := bc4_1 BK132.out
                have hcz60_2 := bc4_2 BK132.out
                have hcz60_3 := bc4_3 BK132.out
                have hfz60_0 := blk_frozen BK132.out 0
                have hfz60_1 := blk_frozen BK132.out 1
                have hfz60_2 := blk_frozen BK132.out 2
                have hfz60_3 := blk_frozen BK132.out 3
                go_wp2_with (first | (go_at_call 19; (with_reducible refine (spec_l4Name.calls kj18 ((rd_T38 l0 x12_1).f0) true _ A55.out).mono ?_); rintro e w' ⟨rfl, ⟨nd, rfl⟩⟩; (try exact dd_)) | (go_at_call 20; (with_reducible refine (spec_l4Deep.calls kj18 _ _ l0 x12_1 t139 _ ?side1 ?side2 A58.out).mono ?_); (case side1 => repeat (first | exact (Kd.C_below HR0.out bes_) | (with_reducible refine Kd.C_alloc ?_ _) | (with_reducible refine Kd.C_drewN ?_ _) | (with_reducible refine Kd.C_drew ?_))); (case side2 => exact HC0.out); rintro e w' ⟨rfl, ⟨nd, rfl⟩⟩; (try exact dd_)))
                repeat (go_quiet (first | (go_at_call 19; (with_reducible refine (spec_l4Name.calls kj18 ((rd_T38 l0 x12_1).f0) true _ A55.out).mono ?_); rintro e w' ⟨rfl, ⟨nd, rfl⟩⟩; (try exact dd_)) | (go_at_call 20; (with_reducible refine (spec_l4Deep.calls kj18 _ _ l0 x12_1 t139 _ ?side1 ?side2 A58.out).mono ?_); (case side1 => repeat (first | exact (Kd.C_below HR0.out bes_) | (with_reducible refine Kd.C_alloc ?_ _) | (with_reducible refine Kd.C_drewN ?_ _) | (with_reducible refine Kd.C_drew ?_))); (case side2 => exact HC0.out); rintro e w' ⟨rfl, ⟨nd, rfl⟩⟩; (try exact dd_))); try go_wp2_with (first | (go_at_call 19; (with_reducible refine (spec_l4Name.calls kj18 ((rd_T38 l0 x12_1).f0) true _ A55.out).mono ?_); rintro e w' ⟨rfl, ⟨nd, rfl⟩⟩; (try exact dd_)) | (go_at_call 20; (with_reducible refine (spec_l4Deep.calls kj18 _ _ l0 x12_1 t139 _ ?side1 ?side2 A58.out).mono ?_); (case side1 => repeat (first | exact (Kd.C_below HR0.out bes_) | (with_reducible refine Kd.C_alloc ?_ _) | (with_reducible refine Kd.C_drewN ?_ _) | (with_reducible refine Kd.C_drew ?_))); (case side2 => exact HC0.out); rintro e w' ⟨rfl, ⟨nd, rfl⟩⟩; (try exact dd_))))
                go_ret
                exact ⟨er_, bes_⟩
               ·rw [if_neg c59] at H
                have c59b0 : decide (10 < t139) = false := decide_eq_false c59
                clear c59
                have H' := Aside0.mk H
                clear H
                have hcz61_0 := bc4_0 BK132.out
                have hcz61_1 := bc4_1 BK132.out
                have hcz61_2 := bc4_2 BK132.out
                have hcz61_3 := bc4_3 BK132.out
                have hfz61_0 := blk_frozen BK132.out 0
                have hfz61_1 := blk_frozen BK132.out 1
                have hfz61_2 := blk_frozen BK132.out 2
                have hfz61_3 := blk_frozen BK132.out 3
                go_wp2_with (first | (go_at_call 19; (with_reducible refine (spec_l4Name.calls kj18 ((rd_T38 l0 x12_1).f0) true _ A55.out).mono ?_); rintro e w' ⟨rfl, ⟨nd, rfl⟩⟩; (try exact dd_)) | (go_at_call 20; (with_reducible refine (spec_l4Deep.calls kj18 _ _ l0 x12_1 t139 _ ?side1 ?side2 A58.out).mono ?_); (case side1 => repeat (first | exact (Kd.C_below HR0.out bes_) | (with_reducible refine Kd.C_alloc ?_ _) | (with_reducible refine Kd.C_drewN ?_ _) | (with_reducible refine Kd.C_drew ?_))); (case side2 => exact HC0.out); rintro e w' ⟨rfl, ⟨nd, rfl⟩⟩; (try exact dd_)))
                repeat (go_quiet (first | (go_at_call 19; (with_reducible refine (spec_l4Name.calls kj18 ((rd_T38 l0 x12_1).f0) true _ A55.out).mono ?_); rintro e w' ⟨rfl, ⟨nd, rfl⟩⟩; (try exact dd_)) | (go_at_call 20; (with_reducible refine (spec_l4Deep.calls kj18 _ _ l0 x12_1 t139 _ ?side1 ?side2 A58.out).mono ?_); (case side1 => repeat (first | exact (Kd.C_below HR0.out bes_) | (with_reducible refine Kd.C_alloc ?_ _) | (with_reducible refine Kd.C_drewN ?_ _) | (with_reducible refine Kd.C_drew ?_))); (case side2 => exact HC0.out); rintro e w' ⟨rfl, ⟨nd, rfl⟩⟩; (try exact dd_))); try go_wp2_with (first | (go_at_call 19; (with_reducible refine (spec_l4Name.calls kj18 ((rd_T38 l0 x12_1).f0) true _ A55.out).mono ?_); rintro e w' ⟨rfl, ⟨nd, rfl⟩⟩; (try exact dd_)) | (go_at_call 20; (with_reducible refine (spec_l4Deep.calls kj18 _ _ l0 x12_1 t139 _ ?side1 ?side2 A58.out).mono ?_); (case side1 => repeat (first | exact (Kd.C_below HR0.out bes_) | (with_reducible refine Kd.C_alloc ?_ _) | (with_reducible refine Kd.C_drewN ?_ _) | (with_reducible refine Kd.C_drew ?_))); (case side2 => exact HC0.out); rintro e w' ⟨rfl, ⟨nd, rfl⟩⟩; (try exact dd_))))
                go_roundg kj18
                case measure => have := HK1.out; have := HJ6.out; have := HJ18.out; omega
                case rel => exact ⟨(wrap64 (x12_1 + 1)), sv_, H', ⟨by have := HK1.out; have := HJ6.out; have := HJ18.out; omega⟩, ⟨bes_⟩⟩
              ·rw [if_neg c57] at H
               have c57b0 : (((rd_T38 l0 x12_1).f3).toList == ([] : List UInt8)) = false := beq_eq_false_iff_ne.mpr c57
               have c57b7 : ((rd_T38 l0 x12_1).f3).toList.isEmpty = false := Bool.eq_false_iff.mpr (fun h_ => absurd (List.isEmpty_iff.mp h_) (beq_eq_false_iff_ne.mp c57b0))
               have c57b8 : ¬ (((rd_T38 l0 x12_1).f3).toList.isEmpty = true) := fun h_ => absurd (List.isEmpty_iff.mp h_) (beq_eq_false_iff_ne.mp c57b0)
               have c57b1 : (((rd_T38 l0 x12_1).f3).toList != ([] : List UInt8)) = true := bne_iff_ne.mpr c57
               obtain rfl := Option.some.inj H
               have hcz62_0 := bc4_0 BK132.out
               have hcz62_1 := bc4_1 BK132.out
               have hcz62_2 := bc4_2 BK132.out
               have hcz62_3 := bc4_3 BK132.out
               have hfz62_0 := blk_frozen BK132.out 0
               have hfz62_1 := blk_frozen BK132.out 1
               have hfz62_2 := blk_frozen BK132.out 2
               have hfz62_3 := blk_frozen BK132.out 3
               go_wp2_with (first | (go_at_call 19; (with_reducible refine (spec_l4Name.calls kj18 ((rd_T38 l0 x12_1).f0) true _ A55.out).mono ?_); rintro e w' ⟨rfl, ⟨nd, rfl⟩⟩; (try exact dd_)))
               repeat (go_quiet (first | (go_at_call 19; (with_reducible refine (spec_l4Name.calls kj18 ((rd_T38 l0 x12_1).f0) true _ A55.out).mono ?_); rintro e w' ⟨rfl, ⟨nd, rfl⟩⟩; (try exact dd_))); try go_wp2_with (first | (go_at_call 19; (with_reducible refine (spec_l4Name.calls kj18 ((rd_T38 l0 x12_1).f0) true _ A55.out).mono ?_); rintro e w' ⟨rfl, ⟨nd, rfl⟩⟩; (try exact dd_))))
               go_ret
               exact ⟨er_, bes_⟩
             ·replace c56 := Bool.eq_false_iff.mpr c56
              subst c56
              have H1 : (some false) = some r := by rw [if_neg (show ¬ (false = true) by decide)] at H; exact H
              clear H
              have H := H1
              clear H1
              obtain rfl := Option.some.inj H
              have hcz63_0 := bc4_0 BK132.out
              have hcz63_1 := bc4_1 BK132.out
              have hcz63_2 := bc4_2 BK132.out
              have hcz63_3 := bc4_3 BK132.out
              have hfz63_0 := blk_frozen BK132.out 0
              have hfz63_1 := blk_frozen BK132.out 1
              have hfz63_2 := blk_frozen BK132.out 2
              have hfz63_3 := blk_frozen BK132.out 3
              go_wp2_with (first | (go_at_call 19; (with_reducible refine (spec_l4Name.calls kj18 ((rd_T38 l0 x12_1).f0) false _ A55.out).mono ?_); rintro e w' ⟨rfl, ⟨nd, rfl⟩⟩; (try exact dd_)))
              repeat (go_quiet (first | (go_at_call 19; (with_reducible refine (spec_l4Name.calls kj18 ((rd_T38 l0 x12_1).f0) false _ A55.out).mono ?_); rintro e w' ⟨rfl, ⟨nd, rfl⟩⟩; (try exact dd_))); try go_wp2_with (first | (go_at_call 19; (with_reducible refine (spec_l4Name.calls kj18 ((rd_T38 l0 x12_1).f0) false _ A55.out).mono ?_); rintro e w' ⟨rfl, ⟨nd, rfl⟩⟩; (try exact dd_))))
              go_ret
              exact ⟨er_, bes_⟩
      ·rw [if_neg c6] at H
       exact absurd H (by simp)
     ·rw [if_neg c5] at H
      exact absurd H (by simp)
    ·rw [if_neg c4] at H
     have c4b0 : decide (x12_1 < (l0.length : Int)) = false := decide_eq_false c4
     clear c4
     obtain rfl := Option.some.inj H
     go_wp2
     repeat (go_quiet (fail); try go_wp2)
     go_ret
     exact ⟨er_, bel_⟩
 ·replace c3 := Bool.eq_false_iff.mpr c3
  subst c3
  have H1 : (some false) = some r := by rw [if_neg (show ¬ (false = true) by decide)] at H; exact H
  clear H
  have H := H1
  clear H1
  obtain rfl := Option.some.inj H
  go_enter Tryz.func10, Tryz.ntmps10
  go_wp2_with (first | (go_at_call 17; (with_reducible refine (spec_l1In.calls (l0.length : Int) 1 60 false _ A2.out).mono ?_); rintro e w' ⟨rfl, ⟨nd, rfl⟩⟩; (try exact dd_)))
  repeat (go_quiet (first | (go_at_call 17; (with_reducible refine (spec_l1In.calls (l0.length : Int) 1 60 false _ A2.out).mono ?_); rintro e w' ⟨rfl, ⟨nd, rfl⟩⟩; (try exact dd_))); try go_wp2_with (first | (go_at_call 17; (with_reducible refine (spec_l1In.calls (l0.length : Int) 1 60 false _ A2.out).mono ?_); rintro e w' ⟨rfl, ⟨nd, rfl⟩⟩; (try exact dd_))))
  go_ret
  exact ⟨er_, bel_⟩

end Go.Proofs.YthfbpmjcjiihnaaGreatDoor.PFnExactMarksText
