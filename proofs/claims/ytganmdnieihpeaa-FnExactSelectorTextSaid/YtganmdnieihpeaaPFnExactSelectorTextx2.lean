-- Laid by a program of this session out of the translation (its own run of the print). Lean checks it.
import Derived.Test.YtganmdnieihpeaaPFnExactSelectorTextx0
import Derived.Test.YtganmdnieihpeaaPFnExactSelectorTextx1
namespace Go.Proofs.Ytganmdnieihpeaa.PFnExactSelectorText
open Go.RowKit Go.Proofs.YtganmdnieihpeaaW.PrintWords Go.Proofs.YtganmdnieihpeaaW.PrintLast Go.Proofs.YtganmdnieihpeaaW.PrintMore
attribute [local go_sem] max2_int min2_int max_two min_two max_three min_three max_four min_four   -- for this text's walks alone
set_option linter.unusedVariables false
set_option linter.unusedSimpArgs false

/-! ### spec_l5GoodPart: function 29 -/
mutual
def spec_l5GoodPart.j0 : Nat → Bool → ByteArray → ByteArray → List ByteArray → Option (Bool)
 | 0, _, _, _, _ => none
 | k + 1, x35, x114000, x114001, x114002 => if x35 = true then (some false) else (spec_l5GoodPart.l0 k x114002 (x114002.length : Int) 0 x114000 x114001 x114002)
def spec_l5GoodPart.l0 : Nat → List ByteArray → Int → Int → ByteArray → ByteArray → List ByteArray → Option (Bool)
 | 0, _, _, _, _, _, _ => none
 | k + 1, x37, x38, x39, x114000, x114001, x114002 => if x39 < x38 then (if 0 ≤ x39 then (if x39 < (x37.length : Int) then ((spec_l5Word.f k (rdOf ByteArray.empty x37 x39)).bind fun t119 => (if t119 = true then (spec_l5GoodPart.l0 k x37 x38 (wrap64 (x39 + 1)) x114000 x114001 x114002) else (some false))) else (none)) else (none)) else (if x114000.toList = ([] : List UInt8) then (if x114001.toList = ([] : List UInt8) then (some (decide ((x114002.length : Int) > 0))) else (some true)) else (some true))
end
def spec_l5GoodPart.f (k : Nat) (a0_0 : ByteArray) (a0_1 : ByteArray) (l0_2 : List ByteArray) : Option (Bool) := if a0_0.toList = ([] : List UInt8) then (if a0_1.toList = ([] : List UInt8) then (spec_l5GoodPart.j0 k (decide ((l0_2.length : Int) > 4)) a0_0 a0_1 l0_2) else ((spec_l5Word.f k a0_1).bind fun t114 => (if t114 = true then (spec_l5GoodPart.j0 k (decide ((l0_2.length : Int) > 4)) a0_0 a0_1 l0_2) else (spec_l5GoodPart.j0 k true a0_0 a0_1 l0_2)))) else (if a0_0.toList = ([42] : List UInt8) then (if a0_1.toList = ([] : List UInt8) then (spec_l5GoodPart.j0 k (decide ((l0_2.length : Int) > 4)) a0_0 a0_1 l0_2) else ((spec_l5Word.f k a0_1).bind fun t115 => (if t115 = true then (spec_l5GoodPart.j0 k (decide ((l0_2.length : Int) > 4)) a0_0 a0_1 l0_2) else (spec_l5GoodPart.j0 k true a0_0 a0_1 l0_2)))) else ((spec_l5Word.f k a0_0).bind fun t116 => (if t116 = true then (if a0_1.toList = ([] : List UInt8) then (spec_l5GoodPart.j0 k (decide ((l0_2.length : Int) > 4)) a0_0 a0_1 l0_2) else ((spec_l5Word.f k a0_1).bind fun t117 => (if t117 = true then (spec_l5GoodPart.j0 k (decide ((l0_2.length : Int) > 4)) a0_0 a0_1 l0_2) else (spec_l5GoodPart.j0 k true a0_0 a0_1 l0_2)))) else (spec_l5GoodPart.j0 k true a0_0 a0_1 l0_2))))
theorem spec_l5GoodPart.mono_l : ∀ k, (∀ y0 y1 y2 y3, LeO (spec_l5GoodPart.j0 k y0 y1 y2 y3) (spec_l5GoodPart.j0 (k + 1) y0 y1 y2 y3)) ∧ (∀ y0 y1 y2 y3 y4 y5, LeO (spec_l5GoodPart.l0 k y0 y1 y2 y3 y4 y5) (spec_l5GoodPart.l0 (k + 1) y0 y1 y2 y3 y4 y5))
 | 0 => ⟨fun _ _ _ _ r h => by simp [spec_l5GoodPart.j0] at h, fun _ _ _ _ _ _ r h => by simp [spec_l5GoodPart.l0] at h⟩
 | k + 1 => by
  obtain ⟨ih0, ih1⟩ := spec_l5GoodPart.mono_l k
  refine ⟨?_, ?_⟩
  ·intro y0 y1 y2 y3
   unfold spec_l5GoodPart.j0
   repeat' first
   | (with_reducible exact ih0 _ _ _ _)
   | (with_reducible exact ih1 _ _ _ _ _ _)
   | (with_reducible exact spec_l5Word.mono _ _)
   | (with_reducible exact LeO.refl _)
   | (with_reducible exact LeO.none _)
   | (with_reducible refine LeO.ite ?_ ?_)
   | (with_reducible refine LeO.bind ?_ (fun _ => ?_))
   | exact ih0 _ _ _ _
   | exact ih1 _ _ _ _ _ _
   | exact spec_l5Word.mono _ _
   | exact LeO.none _
   | refine LeO.ite ?_ ?_
   | refine LeO.bind ?_ (fun _ => ?_)
  ·intro y0 y1 y2 y3 y4 y5
   unfold spec_l5GoodPart.l0
   repeat' first
   | (with_reducible exact ih0 _ _ _ _)
   | (with_reducible exact ih1 _ _ _ _ _ _)
   | (with_reducible exact spec_l5Word.mono _ _)
   | (with_reducible exact LeO.refl _)
   | (with_reducible exact LeO.none _)
   | (with_reducible refine LeO.ite ?_ ?_)
   | (with_reducible refine LeO.bind ?_ (fun _ => ?_))
   | exact ih0 _ _ _ _
   | exact ih1 _ _ _ _ _ _
   | exact spec_l5Word.mono _ _
   | exact LeO.none _
   | refine LeO.ite ?_ ?_
   | refine LeO.bind ?_ (fun _ => ?_)
theorem spec_l5GoodPart.mono : ∀ a0 a1 a2 k, LeO (spec_l5GoodPart.f k a0 a1 a2) (spec_l5GoodPart.f (k + 1) a0 a1 a2) := by
 intro a0 a1 a2 k
 obtain ⟨ih0, ih1⟩ := spec_l5GoodPart.mono_l k
 unfold spec_l5GoodPart.f
 repeat' first
   | (with_reducible exact ih0 _ _ _ _)
   | (with_reducible exact ih1 _ _ _ _ _ _)
   | (with_reducible exact spec_l5Word.mono _ _)
   | (with_reducible exact LeO.refl _)
   | (with_reducible exact LeO.none _)
   | (with_reducible refine LeO.ite ?_ ?_)
   | (with_reducible refine LeO.bind ?_ (fun _ => ?_))
   | exact ih0 _ _ _ _
   | exact ih1 _ _ _ _ _ _
   | exact spec_l5Word.mono _ _
   | exact LeO.none _
   | refine LeO.ite ?_ ?_
   | refine LeO.bind ?_ (fun _ => ?_)
set_option maxHeartbeats 8000000 in
set_option maxRecDepth 100000 in
theorem spec_l5GoodPart.calls (k : Nat) (a0_0 : ByteArray) (a0_1 : ByteArray) (A0_2 : Option Addr) (c0_2 : Nat) (l0_2 : List ByteArray) (r : Bool) (w : World) (hr0_2 : Kd.C Kd.string w A0_2 l0_2.length l0_2) (hc0_2 : l0_2.length ≤ c0_2) (h : spec_l5GoodPart.f k a0_0 a0_1 l0_2 = some r) :
  Calls Try.prog 29 #[.agg #[.string a0_0, .string a0_1, .slice A0_2 l0_2.length c0_2]] w fun e w' => e = .returned (.bool r) ∧ Below w.heap.size w w' := by
 have hu40 := Try.underlying40
 have HR0_2 := Aside0.mk hr0_2
 have HC0_2 := Aside0.mk hc0_2
 clear hr0_2 hc0_2
 have HB := Aside0.mk (Below.refl w.heap.size w)
 have H : (if a0_0.toList = ([] : List UInt8) then (if a0_1.toList = ([] : List UInt8) then (spec_l5GoodPart.j0 k (decide ((l0_2.length : Int) > 4)) a0_0 a0_1 l0_2) else ((spec_l5Word.f k a0_1).bind fun t114 => (if t114 = true then (spec_l5GoodPart.j0 k (decide ((l0_2.length : Int) > 4)) a0_0 a0_1 l0_2) else (spec_l5GoodPart.j0 k true a0_0 a0_1 l0_2)))) else (if a0_0.toList = ([42] : List UInt8) then (if a0_1.toList = ([] : List UInt8) then (spec_l5GoodPart.j0 k (decide ((l0_2.length : Int) > 4)) a0_0 a0_1 l0_2) else ((spec_l5Word.f k a0_1).bind fun t115 => (if t115 = true then (spec_l5GoodPart.j0 k (decide ((l0_2.length : Int) > 4)) a0_0 a0_1 l0_2) else (spec_l5GoodPart.j0 k true a0_0 a0_1 l0_2)))) else ((spec_l5Word.f k a0_0).bind fun t116 => (if t116 = true then (if a0_1.toList = ([] : List UInt8) then (spec_l5GoodPart.j0 k (decide ((l0_2.length : Int) > 4)) a0_0 a0_1 l0_2) else ((spec_l5Word.f k a0_1).bind fun t117 => (if t117 = true then (spec_l5GoodPart.j0 k (decide ((l0_2.length : Int) > 4)) a0_0 a0_1 l0_2) else (spec_l5GoodPart.j0 k true a0_0 a0_1 l0_2)))) else (spec_l5GoodPart.j0 k true a0_0 a0_1 l0_2))))) = some r := h
 clear h
 have HC2 := Aside0.mk H
 clear H
 go_enter Try.func29, Try.ntmps29
 go_upto_region 1 with (first | ((with_reducible refine gate_dst (N := 1) rfl ?_); (try (refine gate_guard (by rfl) ?_; dsimp only)); refine box_event ?hg (N := 1) ?hd (cs := #[.string a0_0, .string a0_1, .slice A0_2 l0_2.length c0_2]) (t := 40) ?hr ?_; (case hd => rfl); (case hg => rfl); (case hr => first | (go_simp; done) | (go_simp; rfl)); intro gb113 hg w3 hbox hb; have n0_ := Aside0.mk (below_step (by repeat (first | (with_reducible first | exact HB.out | apply below_alloc | apply pw_below_drewN | apply below_drew1) | exact HB.out)) hb); have n1_ := Aside0.mk (hbox); have n2_ := Aside0.mk ((by rw [hg]; exact (below_size (by repeat (first | (with_reducible first | exact HB.out | apply below_alloc | apply pw_below_drewN | apply below_drew1) | exact HB.out))) : w.heap.size ≤ gb113)); have n3_ := Aside0.mk ((by rw [hg]; exact (below_size (by repeat (first | (with_reducible first | exact HB.out | apply below_alloc | apply pw_below_drewN | apply below_drew1) | exact HB.out))) : w.heap.size ≤ gb113)); clear HB; have HB := n0_; have BK113 := n1_; have GW113 := n2_; have GE113 := n3_; clear n0_ n1_ n2_ n3_; clear hb hbox hg))
 (try simp only [Act.put, List.setIfInBounds_toArray, List.set_cons_zero, List.set_cons_succ])
 go_cut [35] (fun v35 wc => ∃ (kq : Nat) (x35_1 : Bool), v35 = .bool x35_1 ∧ Aside0 (spec_l5GoodPart.j0 kq x35_1 a0_0 a0_1 l0_2 = some r) ∧ Aside0 (kq ≤ k) ∧ Aside0 (wc.heap[gb113]? = some (.cells #[.string a0_0, .string a0_1, (.slice A0_2 l0_2.length c0_2)] 40 (0, 0))) ∧ Aside0 (Below w.heap.size w wc))
 case first =>
  have H := HC2.out
  clear HC2
  by_cases c4 : a0_0.toList = ([] : List UInt8)
  ·rw [if_pos c4] at H
   have c4b0 : (a0_0.toList == ([] : List UInt8)) = true := beq_iff_eq.mpr c4
   have c4b7 : a0_0.toList.isEmpty = true := by rw [beq_iff_eq.mp c4b0]; rfl
   have c4b8 : ¬ (a0_0.toList.isEmpty = false) := fun h_ => by have h9_ := beq_iff_eq.mp c4b0; rw [h9_] at h_; cases h_
   have c4b1 : (a0_0.toList != ([] : List UInt8)) = false := bne_eq_false_iff_eq.mpr c4
   clear c4
   (first | rw [c4b0] | simp only [c4b7, Bool.not_true, Bool.not_false] | (simp only [i64_w, i32_w]; rw [c4b0]) | skip)
   by_cases c5 : a0_1.toList = ([] : List UInt8)
   ·rw [if_pos c5] at H
    have c5b0 : (a0_1.toList == ([] : List UInt8)) = true := beq_iff_eq.mpr c5
    have c5b7 : a0_1.toList.isEmpty = true := by rw [beq_iff_eq.mp c5b0]; rfl
    have c5b8 : ¬ (a0_1.toList.isEmpty = false) := fun h_ => by have h9_ := beq_iff_eq.mp c5b0; rw [h9_] at h_; cases h_
    have c5b1 : (a0_1.toList != ([] : List UInt8)) = false := bne_eq_false_iff_eq.mpr c5
    clear c5
    have H' := Aside0.mk H
    clear H
    have hcz6_0 : w3.cell? ⟨gb113, 0, none⟩ = some (.string a0_0) := (blk_cell BK113.out 0).trans rfl
    have hcz6_1 : w3.cell? ⟨gb113, 1, none⟩ = some (.string a0_1) := (blk_cell BK113.out 1).trans rfl
    have hcz6_2 : w3.cell? ⟨gb113, 2, none⟩ = some (.slice A0_2 l0_2.length c0_2) := (blk_cell BK113.out 2).trans rfl
    have hfz6_0 := blk_frozen BK113.out 0
    have hfz6_1 := blk_frozen BK113.out 1
    have hfz6_2 := blk_frozen BK113.out 2
    go_wp2
    go_meet
    case rel => exact ⟨_, (decide ((l0_2.length : Int) > 4)), (by first | rfl | (simp; done) | (simp [*]; done) | (simp [wrap64]; done)), H', ⟨by first | omega | exact Nat.le_refl _⟩, ⟨by (with_reducible repeat (first | refine blk_drewN ?_ _ | refine blk_drew ?_ | refine blk_alloc ?_ _)); exact BK113.out⟩, ⟨by repeat (first | (with_reducible first | exact HB.out | apply below_alloc | apply pw_below_drewN | apply below_drew1 | refine below_set ?_ GE113.out) | exact HB.out)⟩⟩
   ·rw [if_neg c5] at H
    have c5b0 : (a0_1.toList == ([] : List UInt8)) = false := beq_eq_false_iff_ne.mpr c5
    have c5b7 : a0_1.toList.isEmpty = false := Bool.eq_false_iff.mpr (fun h_ => absurd (List.isEmpty_iff.mp h_) (beq_eq_false_iff_ne.mp c5b0))
    have c5b8 : ¬ (a0_1.toList.isEmpty = true) := fun h_ => absurd (List.isEmpty_iff.mp h_) (beq_eq_false_iff_ne.mp c5b0)
    have c5b1 : (a0_1.toList != ([] : List UInt8)) = true := bne_iff_ne.mpr c5
    replace H := Option.bind_eq_some_iff.mp H
    obtain ⟨t114, A70, H⟩ := H
    replace H : (if t114 = true then (spec_l5GoodPart.j0 k (decide ((l0_2.length : Int) > 4)) a0_0 a0_1 l0_2) else (spec_l5GoodPart.j0 k true a0_0 a0_1 l0_2)) = some r := H
    have A7 := Aside0.mk A70
    clear A70
    by_cases c8 : t114 = true
    ·subst c8
     have H1 : (spec_l5GoodPart.j0 k (decide ((l0_2.length : Int) > 4)) a0_0 a0_1 l0_2) = some r := by rw [if_pos rfl] at H; exact H
     clear H
     have H := H1
     clear H1
     have H' := Aside0.mk H
     clear H
     have hcz9_0 : w3.cell? ⟨gb113, 0, none⟩ = some (.string a0_0) := (blk_cell BK113.out 0).trans rfl
     have hcz9_1 : w3.cell? ⟨gb113, 1, none⟩ = some (.string a0_1) := (blk_cell BK113.out 1).trans rfl
     have hcz9_2 : w3.cell? ⟨gb113, 2, none⟩ = some (.slice A0_2 l0_2.length c0_2) := (blk_cell BK113.out 2).trans rfl
     have hfz9_0 := blk_frozen BK113.out 0
     have hfz9_1 := blk_frozen BK113.out 1
     have hfz9_2 := blk_frozen BK113.out 2
     go_wp2_with (first | (go_at_call 46; (with_reducible refine (spec_l5Word.calls k a0_1 true _ A7.out).mono ?_); rintro e w' ⟨rfl, ⟨nd, rfl⟩⟩))
     go_meet
     case rel => exact ⟨_, (decide ((l0_2.length : Int) > 4)), (by first | rfl | (simp; done) | (simp [*]; done) | (simp [wrap64]; done)), H', ⟨by first | omega | exact Nat.le_refl _⟩, ⟨by (with_reducible repeat (first | refine blk_drewN ?_ _ | refine blk_drew ?_ | refine blk_alloc ?_ _)); exact BK113.out⟩, ⟨by repeat (first | (with_reducible first | exact HB.out | apply below_alloc | apply pw_below_drewN | apply below_drew1 | refine below_set ?_ GE113.out) | exact HB.out)⟩⟩
    ·replace c8 := Bool.eq_false_iff.mpr c8
     subst c8
     have H1 : (spec_l5GoodPart.j0 k true a0_0 a0_1 l0_2) = some r := by rw [if_neg (show ¬ (false = true) by decide)] at H; exact H
     clear H
     have H := H1
     clear H1
     have H' := Aside0.mk H
     clear H
     have hcz10_0 : w3.cell? ⟨gb113, 0, none⟩ = some (.string a0_0) := (blk_cell BK113.out 0).trans rfl
     have hcz10_1 : w3.cell? ⟨gb113, 1, none⟩ = some (.string a0_1) := (blk_cell BK113.out 1).trans rfl
     have hcz10_2 : w3.cell? ⟨gb113, 2, none⟩ = some (.slice A0_2 l0_2.length c0_2) := (blk_cell BK113.out 2).trans rfl
     have hfz10_0 := blk_frozen BK113.out 0
     have hfz10_1 := blk_frozen BK113.out 1
     have hfz10_2 := blk_frozen BK113.out 2
     go_wp2_with (first | (go_at_call 46; (with_reducible refine (spec_l5Word.calls k a0_1 false _ A7.out).mono ?_); rintro e w' ⟨rfl, ⟨nd, rfl⟩⟩))
     go_meet
     case rel => exact ⟨_, (true), (by first | rfl | (simp; done) | (simp [*]; done) | (simp [wrap64]; done)), H', ⟨by first | omega | exact Nat.le_refl _⟩, ⟨by (with_reducible repeat (first | refine blk_drewN ?_ _ | refine blk_drew ?_ | refine blk_alloc ?_ _)); exact BK113.out⟩, ⟨by repeat (first | (with_reducible first | exact HB.out | apply below_alloc | apply pw_below_drewN | apply below_drew1 | refine below_set ?_ GE113.out) | exact HB.out)⟩⟩
  ·rw [if_neg c4] at H
   have c4b0 : (a0_0.toList == ([] : List UInt8)) = false := beq_eq_false_iff_ne.mpr c4
   have c4b7 : a0_0.toList.isEmpty = false := Bool.eq_false_iff.mpr (fun h_ => absurd (List.isEmpty_iff.mp h_) (beq_eq_false_iff_ne.mp c4b0))
   have c4b8 : ¬ (a0_0.toList.isEmpty = true) := fun h_ => absurd (List.isEmpty_iff.mp h_) (beq_eq_false_iff_ne.mp c4b0)
   have c4b1 : (a0_0.toList != ([] : List UInt8)) = true := bne_iff_ne.mpr c4
   (first | rw [c4b0] | simp only [c4b7, Bool.not_true, Bool.not_false] | (simp only [i64_w, i32_w]; rw [c4b0]) | skip)
   by_cases c11 : a0_0.toList = ([42] : List UInt8)
   ·rw [if_pos c11] at H
    have c11b0 : (a0_0.toList == ([42] : List UInt8)) = true := beq_iff_eq.mpr c11
    have c11b1 : (a0_0.toList != ([42] : List UInt8)) = false := bne_eq_false_iff_eq.mpr c11
    clear c11
    by_cases c12 : a0_1.toList = ([] : List UInt8)
    ·rw [if_pos c12] at H
     have c12b0 : (a0_1.toList == ([] : List UInt8)) = true := beq_iff_eq.mpr c12
     have c12b7 : a0_1.toList.isEmpty = true := by rw [beq_iff_eq.mp c12b0]; rfl
     have c12b8 : ¬ (a0_1.toList.isEmpty = false) := fun h_ => by have h9_ := beq_iff_eq.mp c12b0; rw [h9_] at h_; cases h_
     have c12b1 : (a0_1.toList != ([] : List UInt8)) = false := bne_eq_false_iff_eq.mpr c12
     clear c12
     have H' := Aside0.mk H
     clear H
     have hcz13_0 : w3.cell? ⟨gb113, 0, none⟩ = some (.string a0_0) := (blk_cell BK113.out 0).trans rfl
     have hcz13_1 : w3.cell? ⟨gb113, 1, none⟩ = some (.string a0_1) := (blk_cell BK113.out 1).trans rfl
     have hcz13_2 : w3.cell? ⟨gb113, 2, none⟩ = some (.slice A0_2 l0_2.length c0_2) := (blk_cell BK113.out 2).trans rfl
     have hfz13_0 := blk_frozen BK113.out 0
     have hfz13_1 := blk_frozen BK113.out 1
     have hfz13_2 := blk_frozen BK113.out 2
     go_wp2
     go_meet
     case rel => exact ⟨_, (decide ((l0_2.length : Int) > 4)), (by first | rfl | (simp; done) | (simp [*]; done) | (simp [wrap64]; done)), H', ⟨by first | omega | exact Nat.le_refl _⟩, ⟨by (with_reducible repeat (first | refine blk_drewN ?_ _ | refine blk_drew ?_ | refine blk_alloc ?_ _)); exact BK113.out⟩, ⟨by repeat (first | (with_reducible first | exact HB.out | apply below_alloc | apply pw_below_drewN | apply below_drew1 | refine below_set ?_ GE113.out) | exact HB.out)⟩⟩
    ·rw [if_neg c12] at H
     have c12b0 : (a0_1.toList == ([] : List UInt8)) = false := beq_eq_false_iff_ne.mpr c12
     have c12b7 : a0_1.toList.isEmpty = false := Bool.eq_false_iff.mpr (fun h_ => absurd (List.isEmpty_iff.mp h_) (beq_eq_false_iff_ne.mp c12b0))
     have c12b8 : ¬ (a0_1.toList.isEmpty = true) := fun h_ => absurd (List.isEmpty_iff.mp h_) (beq_eq_false_iff_ne.mp c12b0)
     have c12b1 : (a0_1.toList != ([] : List UInt8)) = true := bne_iff_ne.mpr c12
     replace H := Option.bind_eq_some_iff.mp H
     obtain ⟨t115, A140, H⟩ := H
     replace H : (if t115 = true then (spec_l5GoodPart.j0 k (decide ((l0_2.length : Int) > 4)) a0_0 a0_1 l0_2) else (spec_l5GoodPart.j0 k true a0_0 a0_1 l0_2)) = some r := H
     have A14 := Aside0.mk A140
     clear A140
     by_cases c15 : t115 = true
     ·subst c15
      have H1 : (spec_l5GoodPart.j0 k (decide ((l0_2.length : Int) > 4)) a0_0 a0_1 l0_2) = some r := by rw [if_pos rfl] at H; exact H
      clear H
      have H := H1
      clear H1
      have H' := Aside0.mk H
      clear H
      have hcz16_0 : w3.cell? ⟨gb113, 0, none⟩ = some (.string a0_0) := (blk_cell BK113.out 0).trans rfl
      have hcz16_1 : w3.cell? ⟨gb113, 1, none⟩ = some (.string a0_1) := (blk_cell BK113.out 1).trans rfl
      have hcz16_2 : w3.cell? ⟨gb113, 2, none⟩ = some (.slice A0_2 l0_2.length c0_2) := (blk_cell BK113.out 2).trans rfl
      have hfz16_0 := blk_frozen BK113.out 0
      have hfz16_1 := blk_frozen BK113.out 1
      have hfz16_2 := blk_frozen BK113.out 2
      go_wp2_with (first | (go_at_call 46; (with_reducible refine (spec_l5Word.calls k a0_1 true _ A14.out).mono ?_); rintro e w' ⟨rfl, ⟨nd, rfl⟩⟩))
      go_meet
      case rel => exact ⟨_, (decide ((l0_2.length : Int) > 4)), (by first | rfl | (simp; done) | (simp [*]; done) | (simp [wrap64]; done)), H', ⟨by first | omega | exact Nat.le_refl _⟩, ⟨by (with_reducible repeat (first | refine blk_drewN ?_ _ | refine blk_drew ?_ | refine blk_alloc ?_ _)); exact BK113.out⟩, ⟨by repeat (first | (with_reducible first | exact HB.out | apply below_alloc | apply pw_below_drewN | apply below_drew1 | refine below_set ?_ GE113.out) | exact HB.out)⟩⟩
     ·replace c15 := Bool.eq_false_iff.mpr c15
      subst c15
      have H1 : (spec_l5GoodPart.j0 k true a0_0 a0_1 l0_2) = some r := by rw [if_neg (show ¬ (false = true) by decide)] at H; exact H
      clear H
      have H := H1
      clear H1
      have H' := Aside0.mk H
      clear H
      have hcz17_0 : w3.cell? ⟨gb113, 0, none⟩ = some (.string a0_0) := (blk_cell BK113.out 0).trans rfl
      have hcz17_1 : w3.cell? ⟨gb113, 1, none⟩ = some (.string a0_1) := (blk_cell BK113.out 1).trans rfl
      have hcz17_2 : w3.cell? ⟨gb113, 2, none⟩ = some (.slice A0_2 l0_2.length c0_2) := (blk_cell BK113.out 2).trans rfl
      have hfz17_0 := blk_frozen BK113.out 0
      have hfz17_1 := blk_frozen BK113.out 1
      have hfz17_2 := blk_frozen BK113.out 2
      go_wp2_with (first | (go_at_call 46; (with_reducible refine (spec_l5Word.calls k a0_1 false _ A14.out).mono ?_); rintro e w' ⟨rfl, ⟨nd, rfl⟩⟩))
      go_meet
      case rel => exact ⟨_, (true), (by first | rfl | (simp; done) | (simp [*]; done) | (simp [wrap64]; done)), H', ⟨by first | omega | exact Nat.le_refl _⟩, ⟨by (with_reducible repeat (first | refine blk_drewN ?_ _ | refine blk_drew ?_ | refine blk_alloc ?_ _)); exact BK113.out⟩, ⟨by repeat (first | (with_reducible first | exact HB.out | apply below_alloc | apply pw_below_drewN | apply below_drew1 | refine below_set ?_ GE113.out) | exact HB.out)⟩⟩
   ·rw [if_neg c11] at H
    have c11b0 : (a0_0.toList == ([42] : List UInt8)) = false := beq_eq_false_iff_ne.mpr c11
    have c11b1 : (a0_0.toList != ([42] : List UInt8)) = true := bne_iff_ne.mpr c11
    replace H := Option.bind_eq_some_iff.mp H
    obtain ⟨t116, A180, H⟩ := H
    replace H : (if t116 = true then (if a0_1.toList = ([] : List UInt8) then (spec_l5GoodPart.j0 k (decide ((l0_2.length : Int) > 4)) a0_0 a0_1 l0_2) else ((spec_l5Word.f k a0_1).bind fun t117 => (if t117 = true then (spec_l5GoodPart.j0 k (decide ((l0_2.length : Int) > 4)) a0_0 a0_1 l0_2) else (spec_l5GoodPart.j0 k true a0_0 a0_1 l0_2)))) else (spec_l5GoodPart.j0 k true a0_0 a0_1 l0_2)) = some r := H
    have A18 := Aside0.mk A180
    clear A180
    by_cases c19 : t116 = true
    ·subst c19
     have H1 : (if a0_1.toList = ([] : List UInt8) then (spec_l5GoodPart.j0 k (decide ((l0_2.length : Int) > 4)) a0_0 a0_1 l0_2) else ((spec_l5Word.f k a0_1).bind fun t117 => (if t117 = true then (spec_l5GoodPart.j0 k (decide ((l0_2.length : Int) > 4)) a0_0 a0_1 l0_2) else (spec_l5GoodPart.j0 k true a0_0 a0_1 l0_2)))) = some r := by rw [if_pos rfl] at H; exact H
     clear H
     have H := H1
     clear H1
     by_cases c20 : a0_1.toList = ([] : List UInt8)
     ·rw [if_pos c20] at H
      have c20b0 : (a0_1.toList == ([] : List UInt8)) = true := beq_iff_eq.mpr c20
      have c20b7 : a0_1.toList.isEmpty = true := by rw [beq_iff_eq.mp c20b0]; rfl
      have c20b8 : ¬ (a0_1.toList.isEmpty = false) := fun h_ => by have h9_ := beq_iff_eq.mp c20b0; rw [h9_] at h_; cases h_
      have c20b1 : (a0_1.toList != ([] : List UInt8)) = false := bne_eq_false_iff_eq.mpr c20
      clear c20
      have H' := Aside0.mk H
      clear H
      have hcz21_0 : w3.cell? ⟨gb113, 0, none⟩ = some (.string a0_0) := (blk_cell BK113.out 0).trans rfl
      have hcz21_1 : w3.cell? ⟨gb113, 1, none⟩ = some (.string a0_1) := (blk_cell BK113.out 1).trans rfl
      have hcz21_2 : w3.cell? ⟨gb113, 2, none⟩ = some (.slice A0_2 l0_2.length c0_2) := (blk_cell BK113.out 2).trans rfl
      have hfz21_0 := blk_frozen BK113.out 0
      have hfz21_1 := blk_frozen BK113.out 1
      have hfz21_2 := blk_frozen BK113.out 2
      go_wp2_with (first | (go_at_call 46; (with_reducible refine (spec_l5Word.calls k a0_0 true _ A18.out).mono ?_); rintro e w' ⟨rfl, ⟨nd, rfl⟩⟩))
      go_meet
      case rel => exact ⟨_, (decide ((l0_2.length : Int) > 4)), (by first | rfl | (simp; done) | (simp [*]; done) | (simp [wrap64]; done)), H', ⟨by first | omega | exact Nat.le_refl _⟩, ⟨by (with_reducible repeat (first | refine blk_drewN ?_ _ | refine blk_drew ?_ | refine blk_alloc ?_ _)); exact BK113.out⟩, ⟨by repeat (first | (with_reducible first | exact HB.out | apply below_alloc | apply pw_below_drewN | apply below_drew1 | refine below_set ?_ GE113.out) | exact HB.out)⟩⟩
     ·rw [if_neg c20] at H
      have c20b0 : (a0_1.toList == ([] : List UInt8)) = false := beq_eq_false_iff_ne.mpr c20
      have c20b7 : a0_1.toList.isEmpty = false := Bool.eq_false_iff.mpr (fun h_ => absurd (List.isEmpty_iff.mp h_) (beq_eq_false_iff_ne.mp c20b0))
      have c20b8 : ¬ (a0_1.toList.isEmpty = true) := fun h_ => absurd (List.isEmpty_iff.mp h_) (beq_eq_false_iff_ne.mp c20b0)
      have c20b1 : (a0_1.toList != ([] : List UInt8)) = true := bne_iff_ne.mpr c20
      replace H := Option.bind_eq_some_iff.mp H
      obtain ⟨t117, A220, H⟩ := H
      replace H : (if t117 = true then (spec_l5GoodPart.j0 k (decide ((l0_2.length : Int) > 4)) a0_0 a0_1 l0_2) else (spec_l5GoodPart.j0 k true a0_0 a0_1 l0_2)) = some r := H
      have A22 := Aside0.mk A220
      clear A220
      by_cases c23 : t117 = true
      ·subst c23
       have H1 : (spec_l5GoodPart.j0 k (decide ((l0_2.length : Int) > 4)) a0_0 a0_1 l0_2) = some r := by rw [if_pos rfl] at H; exact H
       clear H
       have H := H1
       clear H1
       have H' := Aside0.mk H
       clear H
       have hcz24_0 : w3.cell? ⟨gb113, 0, none⟩ = some (.string a0_0) := (blk_cell BK113.out 0).trans rfl
       have hcz24_1 : w3.cell? ⟨gb113, 1, none⟩ = some (.string a0_1) := (blk_cell BK113.out 1).trans rfl
       have hcz24_2 : w3.cell? ⟨gb113, 2, none⟩ = some (.slice A0_2 l0_2.length c0_2) := (blk_cell BK113.out 2).trans rfl
       have hfz24_0 := blk_frozen BK113.out 0
       have hfz24_1 := blk_frozen BK113.out 1
       have hfz24_2 := blk_frozen BK113.out 2
       go_wp2_with (first | (go_at_call 46; (with_reducible refine (spec_l5Word.calls k a0_0 true _ A18.out).mono ?_); rintro e w' ⟨rfl, ⟨nd, rfl⟩⟩) | (go_at_call 46; (with_reducible refine (spec_l5Word.calls k a0_1 true _ A22.out).mono ?_); rintro e w' ⟨rfl, ⟨nd, rfl⟩⟩))
       go_meet
       case rel => exact ⟨_, (decide ((l0_2.length : Int) > 4)), (by first | rfl | (simp; done) | (simp [*]; done) | (simp [wrap64]; done)), H', ⟨by first | omega | exact Nat.le_refl _⟩, ⟨by (with_reducible repeat (first | refine blk_drewN ?_ _ | refine blk_drew ?_ | refine blk_alloc ?_ _)); exact BK113.out⟩, ⟨by repeat (first | (with_reducible first | exact HB.out | apply below_alloc | apply pw_below_drewN | apply below_drew1 | refine below_set ?_ GE113.out) | exact HB.out)⟩⟩
      ·replace c23 := Bool.eq_false_iff.mpr c23
       subst c23
       have H1 : (spec_l5GoodPart.j0 k true a0_0 a0_1 l0_2) = some r := by rw [if_neg (show ¬ (false = true) by decide)] at H; exact H
       clear H
       have H := H1
       clear H1
       have H' := Aside0.mk H
       clear H
       have hcz25_0 : w3.cell? ⟨gb113, 0, none⟩ = some (.string a0_0) := (blk_cell BK113.out 0).trans rfl
       have hcz25_1 : w3.cell? ⟨gb113, 1, none⟩ = some (.string a0_1) := (blk_cell BK113.out 1).trans rfl
       have hcz25_2 : w3.cell? ⟨gb113, 2, none⟩ = some (.slice A0_2 l0_2.length c0_2) := (blk_cell BK113.out 2).trans rfl
       have hfz25_0 := blk_frozen BK113.out 0
       have hfz25_1 := blk_frozen BK113.out 1
       have hfz25_2 := blk_frozen BK113.out 2
       go_wp2_with (first | (go_at_call 46; (with_reducible refine (spec_l5Word.calls k a0_0 true _ A18.out).mono ?_); rintro e w' ⟨rfl, ⟨nd, rfl⟩⟩) | (go_at_call 46; (with_reducible refine (spec_l5Word.calls k a0_1 false _ A22.out).mono ?_); rintro e w' ⟨rfl, ⟨nd, rfl⟩⟩))
       go_meet
       case rel => exact ⟨_, (true), (by first | rfl | (simp; done) | (simp [*]; done) | (simp [wrap64]; done)), H', ⟨by first | omega | exact Nat.le_refl _⟩, ⟨by (with_reducible repeat (first | refine blk_drewN ?_ _ | refine blk_drew ?_ | refine blk_alloc ?_ _)); exact BK113.out⟩, ⟨by repeat (first | (with_reducible first | exact HB.out | apply below_alloc | apply pw_below_drewN | apply below_drew1 | refine below_set ?_ GE113.out) | exact HB.out)⟩⟩
    ·replace c19 := Bool.eq_false_iff.mpr c19
     subst c19
     have H1 : (spec_l5GoodPart.j0 k true a0_0 a0_1 l0_2) = some r := by rw [if_neg (show ¬ (false = true) by decide)] at H; exact H
     clear H
     have H := H1
     clear H1
     have H' := Aside0.mk H
     clear H
     have hcz26_0 : w3.cell? ⟨gb113, 0, none⟩ = some (.string a0_0) := (blk_cell BK113.out 0).trans rfl
     have hcz26_1 : w3.cell? ⟨gb113, 1, none⟩ = some (.string a0_1) := (blk_cell BK113.out 1).trans rfl
     have hcz26_2 : w3.cell? ⟨gb113, 2, none⟩ = some (.slice A0_2 l0_2.length c0_2) := (blk_cell BK113.out 2).trans rfl
     have hfz26_0 := blk_frozen BK113.out 0
     have hfz26_1 := blk_frozen BK113.out 1
     have hfz26_2 := blk_frozen BK113.out 2
     go_wp2_with (first | (go_at_call 46; (with_reducible refine (spec_l5Word.calls k a0_0 false _ A18.out).mono ?_); rintro e w' ⟨rfl, ⟨nd, rfl⟩⟩))
     go_meet
     case rel => exact ⟨_, (true), (by first | rfl | (simp; done) | (simp [*]; done) | (simp [wrap64]; done)), H', ⟨by first | omega | exact Nat.le_refl _⟩, ⟨by (with_reducible repeat (first | refine blk_drewN ?_ _ | refine blk_drew ?_ | refine blk_alloc ?_ _)); exact BK113.out⟩, ⟨by repeat (first | (with_reducible first | exact HB.out | apply below_alloc | apply pw_below_drewN | apply below_drew1 | refine below_set ?_ GE113.out) | exact HB.out)⟩⟩
 case rest =>
  clear HC2
  (try clear c1);(try clear c2);(try clear p2);(try clear c4);(try clear c4b0);(try clear c4b1);(try clear c5);(try clear c5b0);(try clear c5b1);(try clear c8);(try clear c11);(try clear c11b0);(try clear c11b1);(try clear c12);(try clear c12b0);(try clear c12b1);(try clear c15);(try clear c19);(try clear c20);(try clear c20b0);(try clear c20b1);(try clear c23);(try clear hcz10_0);(try clear hcz10_1);(try clear hcz10_2);(try clear hcz13_0);(try clear hcz13_1);(try clear hcz13_2);(try clear hcz16_0);(try clear hcz16_1);(try clear hcz16_2);(try clear hcz17_0);(try clear hcz17_1);(try clear hcz17_2);(try clear hcz21_0);(try clear hcz21_1);(try clear hcz21_2);(try clear hcz24_0);(try clear hcz24_1);(try clear hcz24_2);(try clear hcz25_0);(try clear hcz25_1);(try clear hcz25_2);(try clear hcz26_0);(try clear hcz26_1);(try clear hcz26_2);(try clear hcz6_0);(try clear hcz6_1);(try clear hcz6_2);(try clear hcz9_0)
  (try clear hcz9_1);(try clear hcz9_2);(try clear hfz10_0);(try clear hfz10_1);(try clear hfz10_2);(try clear hfz13_0);(try clear hfz13_1);(try clear hfz13_2);(try clear hfz16_0);(try clear hfz16_1);(try clear hfz16_2);(try clear hfz17_0);(try clear hfz17_1);(try clear hfz17_2);(try clear hfz21_0);(try clear hfz21_1);(try clear hfz21_2);(try clear hfz24_0);(try clear hfz24_1);(try clear hfz24_2);(try clear hfz25_0);(try clear hfz25_1);(try clear hfz25_2);(try clear hfz26_0);(try clear hfz26_1);(try clear hfz26_2);(try clear hfz6_0);(try clear hfz6_1);(try clear hfz6_2);(try clear hfz9_0);(try clear hfz9_1);(try clear hfz9_2)
  obtain ⟨kq, x35_1, rfl, HA, HJ1, BK113, HB⟩ := hcut
  cases kq with
  | zero => exact absurd HA.out (by simp [spec_l5GoodPart.j0])
  | succ kj1 =>
   have H := HA.out
   clear HA
   simp only [spec_l5GoodPart.j0] at H
   by_cases c27 : x35_1 = true
   ·subst c27
    have H1 : (some false) = some r := by rw [if_pos rfl] at H; exact H
    clear H
    have H := H1
    clear H1
    obtain rfl := Option.some.inj H
    go_wp2
    go_ret
    exact ⟨by first | rfl | (simp [errW_none, errW_some] <;> rfl) | (simp [*, errW_none, errW_some] <;> rfl), by repeat (first | (with_reducible first | exact HB.out | apply below_alloc | apply pw_below_drewN | apply below_drew1 | refine below_set ?_ GE113.out) | exact HB.out)⟩
   ·replace c27 := Bool.eq_false_iff.mpr c27
    subst c27
    have H1 : (spec_l5GoodPart.l0 kj1 l0_2 (l0_2.length : Int) 0 a0_0 a0_1 l0_2) = some r := by rw [if_neg (show ¬ (false = true) by decide)] at H; exact H
    clear H
    have H := H1
    clear H1
    have H' := Aside0.mk H
    clear H
    have hcz28_0 : wc.cell? ⟨gb113, 0, none⟩ = some (.string a0_0) := (blk_cell BK113.out 0).trans rfl
    have hcz28_1 : wc.cell? ⟨gb113, 1, none⟩ = some (.string a0_1) := (blk_cell BK113.out 1).trans rfl
    have hcz28_2 : wc.cell? ⟨gb113, 2, none⟩ = some (.slice A0_2 l0_2.length c0_2) := (blk_cell BK113.out 2).trans rfl
    have hfz28_0 := blk_frozen BK113.out 0
    have hfz28_1 := blk_frozen BK113.out 1
    have hfz28_2 := blk_frozen BK113.out 2
    go_wp2
    go_loopg [39] kj1 (fun kq v39 w' => ∃ (x39_2 : Int), v39 = .int .i64 x39_2 ∧ Aside0 (spec_l5GoodPart.l0 kq l0_2 (l0_2.length : Int) x39_2 a0_0 a0_1 l0_2 = some r) ∧ Aside0 (kq ≤ kj1) ∧ Aside0 (w'.heap[gb113]? = some (.cells #[.string a0_0, .string a0_1, (.slice A0_2 l0_2.length c0_2)] 40 (0, 0))) ∧ Aside0 (Below w.heap.size w w'))
    case atStart => exact ⟨(0), (by first | rfl | (simp; done) | (simp [*]; done) | (simp [wrap64]; done)), H', ⟨Nat.le_refl _⟩, ⟨by (with_reducible repeat (first | refine blk_drewN ?_ _ | refine blk_drew ?_ | refine blk_alloc ?_ _)); exact BK113.out⟩, ⟨by repeat (first | (with_reducible first | exact HB.out | apply below_alloc | apply pw_below_drewN | apply below_drew1 | refine below_set ?_ GE113.out) | exact HB.out)⟩⟩
    case round =>
     clear H'
     (try clear c1);(try clear c2);(try clear p2);(try clear c4);(try clear c4b0);(try clear c4b1);(try clear c5);(try clear c5b0);(try clear c5b1);(try clear c8);(try clear c11);(try clear c11b0);(try clear c11b1);(try clear c12);(try clear c12b0);(try clear c12b1);(try clear c15);(try clear c19);(try clear c20);(try clear c20b0);(try clear c20b1);(try clear c23);(try clear c27);(try clear hcz10_0);(try clear hcz10_1);(try clear hcz10_2);(try clear hcz13_0);(try clear hcz13_1);(try clear hcz13_2);(try clear hcz16_0);(try clear hcz16_1);(try clear hcz16_2);(try clear hcz17_0);(try clear hcz17_1);(try clear hcz17_2);(try clear hcz21_0);(try clear hcz21_1);(try clear hcz21_2);(try clear hcz24_0);(try clear hcz24_1);(try clear hcz24_2);(try clear hcz25_0);(try clear hcz25_1);(try clear hcz25_2);(try clear hcz26_0);(try clear hcz26_1);(try clear hcz26_2);(try clear hcz28_0);(try clear hcz28_1);(try clear hcz28_2)
     (try clear hcz6_0);(try clear hcz6_1);(try clear hcz6_2);(try clear hcz9_0);(try clear hcz9_1);(try clear hcz9_2);(try clear hfz10_0);(try clear hfz10_1);(try clear hfz10_2);(try clear hfz13_0);(try clear hfz13_1);(try clear hfz13_2);(try clear hfz16_0);(try clear hfz16_1);(try clear hfz16_2);(try clear hfz17_0);(try clear hfz17_1);(try clear hfz17_2);(try clear hfz21_0);(try clear hfz21_1);(try clear hfz21_2);(try clear hfz24_0);(try clear hfz24_1);(try clear hfz24_2);(try clear hfz25_0);(try clear hfz25_1);(try clear hfz25_2);(try clear hfz26_0);(try clear hfz26_1);(try clear hfz26_2);(try clear hfz28_0);(try clear hfz28_1);(try clear hfz28_2);(try clear hfz6_0);(try clear hfz6_1);(try clear hfz6_2);(try clear hfz9_0);(try clear hfz9_1);(try clear hfz9_2);(try clear p2)
     obtain ⟨x39_2, rfl, HA, HK2, BK113, HB⟩ := hrel
     cases gk with
     | zero => exact absurd HA.out (by simp [spec_l5GoodPart.l0])
     | succ k2 =>
      have H := HA.out
      clear HA
      simp only [spec_l5GoodPart.l0] at H
      by_cases c29 : x39_2 < (l0_2.length : Int)
      ·rw [if_pos c29] at H
       have c29b0 : decide (x39_2 < (l0_2.length : Int)) = true := decide_eq_true c29
       clear c29
       by_cases c30 : 0 ≤ x39_2
       ·rw [if_pos c30] at H
        have c30b0 : decide (0 ≤ x39_2) = true := decide_eq_true c30
        clear c30
        by_cases c31 : x39_2 < (l0_2.length : Int)
        ·rw [if_pos c31] at H
         have c31b0 : decide (x39_2 < (l0_2.length : Int)) = true := decide_eq_true c31
         clear c31
         replace H := Option.bind_eq_some_iff.mp H
         obtain ⟨t119, A320, H⟩ := H
         replace H : (if t119 = true then (spec_l5GoodPart.l0 k2 l0_2 (l0_2.length : Int) (wrap64 (x39_2 + 1)) a0_0 a0_1 l0_2) else (some false)) = some r := H
         have A32 := Aside0.mk A320
         clear A320
         by_cases c33 : t119 = true
         ·subst c33
          have H1 : (spec_l5GoodPart.l0 k2 l0_2 (l0_2.length : Int) (wrap64 (x39_2 + 1)) a0_0 a0_1 l0_2) = some r := by rw [if_pos rfl] at H; exact H
          clear H
          have H := H1
          clear H1
          have H' := Aside0.mk H
          clear H
          have p118 : 0 ≤ (x39_2 : Int) := of_decide_eq_true (by first | (with_reducible assumption) | assumption)
          have q118 : x39_2 < (l0_2.length : Int) := of_decide_eq_true (by first | (with_reducible assumption) | assumption)
          obtain ⟨ad118, e118, hx118_0⟩ := Kd.at_string HR0_2.out x39_2 p118 q118
          cases e118
          replace hx118_0 := (HB.out.cell (World.block_lt_of_cell? w _ hx118_0)).trans hx118_0
          replace p118 := eq_true p118
          replace q118 := eq_true q118
          go_wp2_with (first | ((with_reducible refine gate_callee (f := 46) rfl ?_); refine goesL_ (some 44) rfl rfl Try.func46 (by kernel_rfl) rfl #[.string (rdOf ByteArray.empty l0_2 x39_2)] rfl (by (try simp only [List.map_toArray, List.map_cons, List.map_nil]); first | done | rfl | (simp only [List.length_drop, List.length_take]; rfl)) ?_; (with_reducible refine (spec_l5Word.calls k2 (rdOf ByteArray.empty l0_2 x39_2) true _ A32.out).mono ?_); rintro e w' ⟨rfl, ⟨nd, rfl⟩⟩; refine ⟨_, rfl, ?_⟩))
          go_roundg k2
          case measure => have := HJ1.out; have := HK2.out; omega
          case rel => exact ⟨(wrap64 (x39_2 + 1)), (by first | rfl | (simp; done) | (simp [*]; done) | (simp [wrap64]; done)), H', ⟨by have := HJ1.out; have := HK2.out; omega⟩, ⟨by (with_reducible repeat (first | refine blk_drewN ?_ _ | refine blk_drew ?_ | refine blk_alloc ?_ _)); exact BK113.out⟩, ⟨by repeat (first | (with_reducible first | exact HB.out | apply below_alloc | apply pw_below_drewN | apply below_drew1 | refine below_set ?_ GE113.out) | exact HB.out)⟩⟩
         ·replace c33 := Bool.eq_false_iff.mpr c33
          subst c33
          have H1 : (some false) = some r := by rw [if_neg (show ¬ (false = true) by decide)] at H; exact H
          clear H
          have H := H1
          clear H1
          obtain rfl := Option.some.inj H
          have p118 : 0 ≤ (x39_2 : Int) := of_decide_eq_true (by first | (with_reducible assumption) | assumption)
          have q118 : x39_2 < (l0_2.length : Int) := of_decide_eq_true (by first | (with_reducible assumption) | assumption)
          obtain ⟨ad118, e118, hx118_0⟩ := Kd.at_string HR0_2.out x39_2 p118 q118
          cases e118
          replace hx118_0 := (HB.out.cell (World.block_lt_of_cell? w _ hx118_0)).trans hx118_0
          replace p118 := eq_true p118
          replace q118 := eq_true q118
          go_wp2_with (first | ((with_reducible refine gate_callee (f := 46) rfl ?_); refine goesL_ (some 44) rfl rfl Try.func46 (by kernel_rfl) rfl #[.string (rdOf ByteArray.empty l0_2 x39_2)] rfl (by (try simp only [List.map_toArray, List.map_cons, List.map_nil]); first | done | rfl | (simp only [List.length_drop, List.length_take]; rfl)) ?_; (with_reducible refine (spec_l5Word.calls k2 (rdOf ByteArray.empty l0_2 x39_2) false _ A32.out).mono ?_); rintro e w' ⟨rfl, ⟨nd, rfl⟩⟩; refine ⟨_, rfl, ?_⟩))
          go_ret
          exact ⟨by first | rfl | (simp [errW_none, errW_some] <;> rfl) | (simp [*, errW_none, errW_some] <;> rfl), by repeat (first | (with_reducible first | exact HB.out | apply below_alloc | apply pw_below_drewN | apply below_drew1 | refine below_set ?_ GE113.out) | exact HB.out)⟩
        ·rw [if_neg c31] at H
         exact absurd H (by simp)
       ·rw [if_neg c30] at H
        exact absurd H (by simp)
      ·rw [if_neg c29] at H
       have c29b0 : decide (x39_2 < (l0_2.length : Int)) = false := decide_eq_false c29
       clear c29
       by_cases c34 : a0_0.toList = ([] : List UInt8)
       ·rw [if_pos c34] at H
        have c34b0 : (a0_0.toList == ([] : List UInt8)) = true := beq_iff_eq.mpr c34
        have c34b7 : a0_0.toList.isEmpty = true := by rw [beq_iff_eq.mp c34b0]; rfl
        have c34b8 : ¬ (a0_0.toList.isEmpty = false) := fun h_ => by have h9_ := beq_iff_eq.mp c34b0; rw [h9_] at h_; cases h_
        have c34b1 : (a0_0.toList != ([] : List UInt8)) = false := bne_eq_false_iff_eq.mpr c34
        clear c34
        by_cases c35 : a0_1.toList = ([] : List UInt8)
        ·rw [if_pos c35] at H
         have c35b0 : (a0_1.toList == ([] : List UInt8)) = true := beq_iff_eq.mpr c35
         have c35b7 : a0_1.toList.isEmpty = true := by rw [beq_iff_eq.mp c35b0]; rfl
         have c35b8 : ¬ (a0_1.toList.isEmpty = false) := fun h_ => by have h9_ := beq_iff_eq.mp c35b0; rw [h9_] at h_; cases h_
         have c35b1 : (a0_1.toList != ([] : List UInt8)) = false := bne_eq_false_iff_eq.mpr c35
         clear c35
         obtain rfl := Option.some.inj H
         have hcz36_0 : wr.cell? ⟨gb113, 0, none⟩ = some (.string a0_0) := (blk_cell BK113.out 0).trans rfl
         have hcz36_1 : wr.cell? ⟨gb113, 1, none⟩ = some (.string a0_1) := (blk_cell BK113.out 1).trans rfl
         have hcz36_2 : wr.cell? ⟨gb113, 2, none⟩ = some (.slice A0_2 l0_2.length c0_2) := (blk_cell BK113.out 2).trans rfl
         have hfz36_0 := blk_frozen BK113.out 0
         have hfz36_1 := blk_frozen BK113.out 1
         have hfz36_2 := blk_frozen BK113.out 2
         go_wp2
         go_ret
         exact ⟨by first | rfl | (simp [errW_none, errW_some] <;> rfl) | (simp [*, errW_none, errW_some] <;> rfl), by repeat (first | (with_reducible first | exact HB.out | apply below_alloc | apply pw_below_drewN | apply below_drew1 | refine below_set ?_ GE113.out) | exact HB.out)⟩
        ·rw [if_neg c35] at H
         have c35b0 : (a0_1.toList == ([] : List UInt8)) = false := beq_eq_false_iff_ne.mpr c35
         have c35b7 : a0_1.toList.isEmpty = false := Bool.eq_false_iff.mpr (fun h_ => absurd (List.isEmpty_iff.mp h_) (beq_eq_false_iff_ne.mp c35b0))
         have c35b8 : ¬ (a0_1.toList.isEmpty = true) := fun h_ => absurd (List.isEmpty_iff.mp h_) (beq_eq_false_iff_ne.mp c35b0)
         have c35b1 : (a0_1.toList != ([] : List UInt8)) = true := bne_iff_ne.mpr c35
         obtain rfl := Option.some.inj H
         have hcz37_0 : wr.cell? ⟨gb113, 0, none⟩ = some (.string a0_0) := (blk_cell BK113.out 0).trans rfl
         have hcz37_1 : wr.cell? ⟨gb113, 1, none⟩ = some (.string a0_1) := (blk_cell BK113.out 1).trans rfl
         have hcz37_2 : wr.cell? ⟨gb113, 2, none⟩ = some (.slice A0_2 l0_2.length c0_2) := (blk_cell BK113.out 2).trans rfl
         have hfz37_0 := blk_frozen BK113.out 0
         have hfz37_1 := blk_frozen BK113.out 1
         have hfz37_2 := blk_frozen BK113.out 2
         go_wp2
         go_ret
         exact ⟨by first | rfl | (simp [errW_none, errW_some] <;> rfl) | (simp [*, errW_none, errW_some] <;> rfl), by repeat (first | (with_reducible first | exact HB.out | apply below_alloc | apply pw_below_drewN | apply below_drew1 | refine below_set ?_ GE113.out) | exact HB.out)⟩
       ·rw [if_neg c34] at H
        have c34b0 : (a0_0.toList == ([] : List UInt8)) = false := beq_eq_false_iff_ne.mpr c34
        have c34b7 : a0_0.toList.isEmpty = false := Bool.eq_false_iff.mpr (fun h_ => absurd (List.isEmpty_iff.mp h_) (beq_eq_false_iff_ne.mp c34b0))
        have c34b8 : ¬ (a0_0.toList.isEmpty = true) := fun h_ => absurd (List.isEmpty_iff.mp h_) (beq_eq_false_iff_ne.mp c34b0)
        have c34b1 : (a0_0.toList != ([] : List UInt8)) = true := bne_iff_ne.mpr c34
        obtain rfl := Option.some.inj H
        have hcz38_0 : wr.cell? ⟨gb113, 0, none⟩ = some (.string a0_0) := (blk_cell BK113.out 0).trans rfl
        have hcz38_1 : wr.cell? ⟨gb113, 1, none⟩ = some (.string a0_1) := (blk_cell BK113.out 1).trans rfl
        have hcz38_2 : wr.cell? ⟨gb113, 2, none⟩ = some (.slice A0_2 l0_2.length c0_2) := (blk_cell BK113.out 2).trans rfl
        have hfz38_0 := blk_frozen BK113.out 0
        have hfz38_1 := blk_frozen BK113.out 1
        have hfz38_2 := blk_frozen BK113.out 2
        go_wp2
        go_ret
        exact ⟨by first | rfl | (simp [errW_none, errW_some] <;> rfl) | (simp [*, errW_none, errW_some] <;> rfl), by repeat (first | (with_reducible first | exact HB.out | apply below_alloc | apply pw_below_drewN | apply below_drew1 | refine below_set ?_ GE113.out) | exact HB.out)⟩

/-! ### spec_l5Good: function 15 -/
def spec_l5Good.l0 : Nat → List (S40) → Int → Int → Option (Bool)
 | 0, _, _, _ => none
 | k + 1, x9, x10, x11 => if x11 < x10 then (if 0 ≤ x11 then (if x11 < (x9.length : Int) then ((spec_l5GoodPart.f k ((rd_T40 x9 x11).f0) ((rd_T40 x9 x11).f1) ((rd_T40 x9 x11).f2)).bind fun t123 => (if t123 = true then (spec_l5Good.l0 k x9 x10 (wrap64 (x11 + 1))) else (some false))) else (none)) else (none)) else (some true)
def spec_l5Good.f (k : Nat) (l0 : List (S40)) : Option (Bool) := (spec_l1In.f (l0.length : Int) 1 5).bind fun t120 => (if t120 = true then (spec_l5Good.l0 k l0 (l0.length : Int) 0) else (some false))
theorem spec_l5Good.mono_l : ∀ k, (∀ y0 y1 y2, LeO (spec_l5Good.l0 k y0 y1 y2) (spec_l5Good.l0 (k + 1) y0 y1 y2))
 | 0 => fun _ _ _ r h => by simp [spec_l5Good.l0] at h
 | k + 1 => by
  have ih0 := spec_l5Good.mono_l k
  ·intro y0 y1 y2
   unfold spec_l5Good.l0
   repeat' first
   | (with_reducible exact ih0 _ _ _)
   | (with_reducible exact spec_l5GoodPart.mono _ _ _ _)
   | (with_reducible exact LeO.refl _)
   | (with_reducible exact LeO.none _)
   | (with_reducible refine LeO.ite ?_ ?_)
   | (with_reducible refine LeO.bind ?_ (fun _ => ?_))
   | exact ih0 _ _ _
   | exact spec_l5GoodPart.mono _ _ _ _
   | exact LeO.none _
   | refine LeO.ite ?_ ?_
   | refine LeO.bind ?_ (fun _ => ?_)
theorem spec_l5Good.mono : ∀ a0 k, LeO (spec_l5Good.f k a0) (spec_l5Good.f (k + 1) a0) := by
 intro a0 k
 have ih0 := spec_l5Good.mono_l k
 unfold spec_l5Good.f
 repeat' first
   | (with_reducible exact ih0 _ _ _)
   | (with_reducible exact spec_l5GoodPart.mono _ _ _ _)
   | (with_reducible exact LeO.refl _)
   | (with_reducible exact LeO.none _)
   | (with_reducible refine LeO.ite ?_ ?_)
   | (with_reducible refine LeO.bind ?_ (fun _ => ?_))
   | exact ih0 _ _ _
   | exact spec_l5GoodPart.mono _ _ _ _
   | exact LeO.none _
   | refine LeO.ite ?_ ?_
   | refine LeO.bind ?_ (fun _ => ?_)
set_option maxHeartbeats 8000000 in
set_option maxRecDepth 100000 in
theorem spec_l5Good.calls (k : Nat) (A0 : Option Addr) (c0 : Nat) (l0 : List (S40)) (r : Bool) (w : World) (hr0 : Kd.C k40 w A0 l0.length l0) (hc0 : l0.length ≤ c0) (h : spec_l5Good.f k l0 = some r) :
  Calls Try.prog 15 #[.slice A0 l0.length c0] w fun e w' => e = .returned (.bool r) ∧ Below w.heap.size w w' := by
 have hu40 := Try.underlying40
 have HR0 := Aside0.mk hr0
 have HC0 := Aside0.mk hc0
 clear hr0 hc0
 have HB := Aside0.mk (Below.refl w.heap.size w)
 have H : ((spec_l1In.f (l0.length : Int) 1 5).bind fun t120 => (if t120 = true then (spec_l5Good.l0 k l0 (l0.length : Int) 0) else (some false))) = some r := h
 clear h
 replace H := Option.bind_eq_some_iff.mp H
 obtain ⟨t120, A20, H⟩ := H
 replace H : (if t120 = true then (spec_l5Good.l0 k l0 (l0.length : Int) 0) else (some false)) = some r := H
 have A2 := Aside0.mk A20
 clear A20
 by_cases c3 : t120 = true
 ·subst c3
  have H1 : (spec_l5Good.l0 k l0 (l0.length : Int) 0) = some r := by rw [if_pos rfl] at H; exact H
  clear H
  have H := H1
  clear H1
  have H' := Aside0.mk H
  clear H
  go_enter Try.func15, Try.ntmps15
  go_wp2_with (first | ((with_reducible refine gate_callee (f := 28) rfl ?_); refine goesL_ (some 7) rfl rfl Try.func28 (by kernel_rfl) rfl #[.int .i64 (l0.length : Int), .int .i64 1, .int .i64 5] rfl (by (try simp only [List.map_toArray, List.map_cons, List.map_nil]); first | done | rfl | (simp only [List.length_drop, List.length_take]; rfl)) ?_; (with_reducible refine (spec_l1In.calls (l0.length : Int) 1 5 true _ A2.out).mono ?_); rintro e w' ⟨rfl, ⟨nd, rfl⟩⟩; refine ⟨_, rfl, ?_⟩))
  go_loopg [11] k (fun kq v11 w' => ∃ (x11_1 : Int), v11 = .int .i64 x11_1 ∧ Aside0 (spec_l5Good.l0 kq l0 (l0.length : Int) x11_1 = some r) ∧ Aside0 (kq ≤ k) ∧ Aside0 (Below w.heap.size w w'))
  case atStart => exact ⟨(0), (by first | rfl | (simp; done) | (simp [*]; done) | (simp [wrap64]; done)), H', ⟨Nat.le_refl _⟩, ⟨by repeat (first | (with_reducible first | exact HB.out | apply below_alloc | apply pw_below_drewN | apply below_drew1) | exact HB.out)⟩⟩
  case round =>
   clear H'
   (try clear c1);(try clear c2);(try clear p2);(try clear c3)
   obtain ⟨x11_1, rfl, HA, HK1, HB⟩ := hrel
   cases gk with
   | zero => exact absurd HA.out (by simp [spec_l5Good.l0])
   | succ k1 =>
    have H := HA.out
    clear HA
    simp only [spec_l5Good.l0] at H
    by_cases c4 : x11_1 < (l0.length : Int)
    ·rw [if_pos c4] at H
     have c4b0 : decide (x11_1 < (l0.length : Int)) = true := decide_eq_true c4
     clear c4
     by_cases c5 : 0 ≤ x11_1
     ·rw [if_pos c5] at H
      have c5b0 : decide (0 ≤ x11_1) = true := decide_eq_true c5
      clear c5
      by_cases c6 : x11_1 < (l0.length : Int)
      ·rw [if_pos c6] at H
       have c6b0 : decide (x11_1 < (l0.length : Int)) = true := decide_eq_true c6
       clear c6
       replace H := Option.bind_eq_some_iff.mp H
       obtain ⟨t123, A70, H⟩ := H
       replace H : (if t123 = true then (spec_l5Good.l0 k1 l0 (l0.length : Int) (wrap64 (x11_1 + 1))) else (some false)) = some r := H
       have A7 := Aside0.mk A70
       clear A70
       by_cases c8 : t123 = true
       ·subst c8
        have H1 : (spec_l5Good.l0 k1 l0 (l0.length : Int) (wrap64 (x11_1 + 1))) = some r := by rw [if_pos rfl] at H; exact H
        clear H
        have H := H1
        clear H1
        have H' := Aside0.mk H
        clear H
        have p121 : 0 ≤ (x11_1 : Int) := of_decide_eq_true (by first | (with_reducible assumption) | assumption)
        have q121 : x11_1 < (l0.length : Int) := of_decide_eq_true (by first | (with_reducible assumption) | assumption)
        obtain ⟨ad121, A121_2, c121_2, e121, hx121_0, hx121_1, hx121_2, hl121_2, hi121_2⟩ := at_T40 HR0.out x11_1 p121 q121
        cases e121
        replace hx121_0 := (HB.out.cell (World.block_lt_of_cell? w _ hx121_0)).trans hx121_0
        replace hx121_1 := (HB.out.cell (World.block_lt_of_cell? w _ hx121_1)).trans hx121_1
        replace hx121_2 := (HB.out.cell (World.block_lt_of_cell? w _ hx121_2)).trans hx121_2
        have HR121_2 := Aside0.mk hi121_2
        have HC121_2 := Aside0.mk hl121_2
        clear hi121_2 hl121_2
        replace p121 := eq_true p121
        replace q121 := eq_true q121
        go_wp2_with (first | ((with_reducible refine gate_dst (N := 4) rfl ?_); refine box_event ?hg (N := 4) ?hd (cs := #[.string (⟨#[]⟩ : ByteArray), .string (⟨#[]⟩ : ByteArray), .slice none 0 0]) (t := 40) ?hr ?_; (case hd => rfl); (case hg => rfl); (case hr => first | (go_simp; done) | (go_simp; rfl)); intro gb122 hg w9 hbox hb; have n0_ := Aside0.mk (below_step (by repeat (first | (with_reducible first | exact HB.out | apply below_alloc | apply pw_below_drewN | apply below_drew1) | exact HB.out)) hb); have n1_ := Aside0.mk (hbox); have n2_ := Aside0.mk ((by rw [hg]; exact (below_size (by repeat (first | (with_reducible first | exact HB.out | apply below_alloc | apply pw_below_drewN | apply below_drew1) | exact HB.out))) : w.heap.size ≤ gb122)); have n3_ := Aside0.mk ((by rw [hg]; exact (below_size (by repeat (first | (with_reducible first | exact HB.out | apply below_alloc | apply pw_below_drewN | apply below_drew1) | exact HB.out))) : w.heap.size ≤ gb122)); clear HB; have HB := n0_; have BK122 := n1_; have GW122 := n2_; have GE122 := n3_; clear n0_ n1_ n2_ n3_; clear hb hbox hg; have hcz10_0 : w9.cell? ⟨gb122, 0, none⟩ = some (.string (⟨#[]⟩ : ByteArray)) := (blk_cell BK122.out 0).trans rfl; have hcz10_1 : w9.cell? ⟨gb122, 1, none⟩ = some (.string (⟨#[]⟩ : ByteArray)) := (blk_cell BK122.out 1).trans rfl; have hcz10_2 : w9.cell? ⟨gb122, 2, none⟩ = some (.slice none 0 0) := (blk_cell BK122.out 2).trans rfl; have hfz10_0 := blk_frozen BK122.out 0; have hfz10_1 := blk_frozen BK122.out 1; have hfz10_2 := blk_frozen BK122.out 2) | ((with_reducible refine gate_callee (f := 29) rfl ?_); refine goesL_ (some 16) rfl rfl Try.func29 (by kernel_rfl) rfl #[.agg #[.string ((rd_T40 l0 x11_1).f0), .string ((rd_T40 l0 x11_1).f1), .slice A121_2 ((rd_T40 l0 x11_1).f2).length c121_2]] rfl (by (try simp only [List.map_toArray, List.map_cons, List.map_nil]); first | done | rfl | (simp only [List.length_drop, List.length_take]; rfl)) ?_; (with_reducible refine (spec_l5GoodPart.calls k1 ((rd_T40 l0 x11_1).f0) ((rd_T40 l0 x11_1).f1) _ _ ((rd_T40 l0 x11_1).f2) true _ ?side1 ?side2 A7.out).mono ?_); (case side1 => exact Kd.C_below HR121_2.out (by repeat (first | (with_reducible first | exact HB.out | apply below_alloc | apply pw_below_drewN | apply below_drew1 | refine below_set ?_ GE122.out) | exact HB.out))); (case side2 => exact HC121_2.out); rintro e w11 ⟨rfl, hb⟩; refine ⟨_, rfl, ?_⟩; have n0_ := Aside0.mk (blk_below (g := gb122) (o := .cells #[.string ((rd_T40 l0 x11_1).f0), .string ((rd_T40 l0 x11_1).f1), .slice A121_2 ((rd_T40 l0 x11_1).f2).length c121_2] 40 (0, 0)) (by (with_reducible repeat (first | refine blk_drewN ?_ _ | refine blk_drew ?_ | refine blk_alloc ?_ _)); refine blk_put (cs := #[.string ((rd_T40 l0 x11_1).f0), .string ((rd_T40 l0 x11_1).f1), .slice none 0 0]) ?_ 2 _ rfl; (with_reducible repeat (first | refine blk_drewN ?_ _ | refine blk_drew ?_ | refine blk_alloc ?_ _)); refine blk_put (cs := #[.string ((rd_T40 l0 x11_1).f0), .string (⟨#[]⟩ : ByteArray), .slice none 0 0]) ?_ 1 _ rfl; (with_reducible repeat (first | refine blk_drewN ?_ _ | refine blk_drew ?_ | refine blk_alloc ?_ _)); refine blk_put (cs := #[.string (⟨#[]⟩ : ByteArray), .string (⟨#[]⟩ : ByteArray), .slice none 0 0]) ?_ 0 _ rfl; (with_reducible repeat (first | refine blk_drewN ?_ _ | refine blk_drew ?_ | refine blk_alloc ?_ _)); exact BK122.out) hb); have n1_ := Aside0.mk (below_step (by repeat (first | (with_reducible first | exact HB.out | apply below_alloc | apply pw_below_drewN | apply below_drew1 | refine below_set ?_ GE122.out) | exact HB.out)) hb); clear BK122; clear HB; have BK122 := n0_; have HB := n1_; clear n0_ n1_; (try clear hb); (try clear hb2); (try clear hk); (try clear hi)))
        go_roundg k1
        case measure => have := HK1.out; omega
        case rel => exact ⟨(wrap64 (x11_1 + 1)), (by first | rfl | (simp; done) | (simp [*]; done) | (simp [wrap64]; done)), H', ⟨by have := HK1.out; omega⟩, ⟨by repeat (first | (with_reducible first | exact HB.out | apply below_alloc | apply pw_below_drewN | apply below_drew1 | refine below_set ?_ GE122.out) | exact HB.out)⟩⟩
       ·replace c8 := Bool.eq_false_iff.mpr c8
        subst c8
        have H1 : (some false) = some r := by rw [if_neg (show ¬ (false = true) by decide)] at H; exact H
        clear H
        have H := H1
        clear H1
        obtain rfl := Option.some.inj H
        have p121 : 0 ≤ (x11_1 : Int) := of_decide_eq_true (by first | (with_reducible assumption) | assumption)
        have q121 : x11_1 < (l0.length : Int) := of_decide_eq_true (by first | (with_reducible assumption) | assumption)
        obtain ⟨ad121, A121_2, c121_2, e121, hx121_0, hx121_1, hx121_2, hl121_2, hi121_2⟩ := at_T40 HR0.out x11_1 p121 q121
        cases e121
        replace hx121_0 := (HB.out.cell (World.block_lt_of_cell? w _ hx121_0)).trans hx121_0
        replace hx121_1 := (HB.out.cell (World.block_lt_of_cell? w _ hx121_1)).trans hx121_1
        replace hx121_2 := (HB.out.cell (World.block_lt_of_cell? w _ hx121_2)).trans hx121_2
        have HR121_2 := Aside0.mk hi121_2
        have HC121_2 := Aside0.mk hl121_2
        clear hi121_2 hl121_2
        replace p121 := eq_true p121
        replace q121 := eq_true q121
        go_wp2_with (first | ((with_reducible refine gate_dst (N := 4) rfl ?_); refine box_event ?hg (N := 4) ?hd (cs := #[.string (⟨#[]⟩ : ByteArray), .string (⟨#[]⟩ : ByteArray), .slice none 0 0]) (t := 40) ?hr ?_; (case hd => rfl); (case hg => rfl); (case hr => first | (go_simp; done) | (go_simp; rfl)); intro gb122 hg w12 hbox hb; have n0_ := Aside0.mk (below_step (by repeat (first | (with_reducible first | exact HB.out | apply below_alloc | apply pw_below_drewN | apply below_drew1) | exact HB.out)) hb); have n1_ := Aside0.mk (hbox); have n2_ := Aside0.mk ((by rw [hg]; exact (below_size (by repeat (first | (with_reducible first | exact HB.out | apply below_alloc | apply pw_below_drewN | apply below_drew1) | exact HB.out))) : w.heap.size ≤ gb122)); have n3_ := Aside0.mk ((by rw [hg]; exact (below_size (by repeat (first | (with_reducible first | exact HB.out | apply below_alloc | apply pw_below_drewN | apply below_drew1) | exact HB.out))) : w.heap.size ≤ gb122)); clear HB; have HB := n0_; have BK122 := n1_; have GW122 := n2_; have GE122 := n3_; clear n0_ n1_ n2_ n3_; clear hb hbox hg; have hcz13_0 : w12.cell? ⟨gb122, 0, none⟩ = some (.string (⟨#[]⟩ : ByteArray)) := (blk_cell BK122.out 0).trans rfl; have hcz13_1 : w12.cell? ⟨gb122, 1, none⟩ = some (.string (⟨#[]⟩ : ByteArray)) := (blk_cell BK122.out 1).trans rfl; have hcz13_2 : w12.cell? ⟨gb122, 2, none⟩ = some (.slice none 0 0) := (blk_cell BK122.out 2).trans rfl; have hfz13_0 := blk_frozen BK122.out 0; have hfz13_1 := blk_frozen BK122.out 1; have hfz13_2 := blk_frozen BK122.out 2) | ((with_reducible refine gate_callee (f := 29) rfl ?_); refine goesL_ (some 16) rfl rfl Try.func29 (by kernel_rfl) rfl #[.agg #[.string ((rd_T40 l0 x11_1).f0), .string ((rd_T40 l0 x11_1).f1), .slice A121_2 ((rd_T40 l0 x11_1).f2).length c121_2]] rfl (by (try simp only [List.map_toArray, List.map_cons, List.map_nil]); first | done | rfl | (simp only [List.length_drop, List.length_take]; rfl)) ?_; (with_reducible refine (spec_l5GoodPart.calls k1 ((rd_T40 l0 x11_1).f0) ((rd_T40 l0 x11_1).f1) _ _ ((rd_T40 l0 x11_1).f2) false _ ?side1 ?side2 A7.out).mono ?_); (case side1 => exact Kd.C_below HR121_2.out (by repeat (first | (with_reducible first | exact HB.out | apply below_alloc | apply pw_below_drewN | apply below_drew1 | refine below_set ?_ GE122.out) | exact HB.out))); (case side2 => exact HC121_2.out); rintro e w14 ⟨rfl, hb⟩; refine ⟨_, rfl, ?_⟩; have n0_ := Aside0.mk (blk_below (g := gb122) (o := .cells #[.string ((rd_T40 l0 x11_1).f0), .string ((rd_T40 l0 x11_1).f1), .slice A121_2 ((rd_T40 l0 x11_1).f2).length c121_2] 40 (0, 0)) (by (with_reducible repeat (first | refine blk_drewN ?_ _ | refine blk_drew ?_ | refine blk_alloc ?_ _)); refine blk_put (cs := #[.string ((rd_T40 l0 x11_1).f0), .string ((rd_T40 l0 x11_1).f1), .slice none 0 0]) ?_ 2 _ rfl; (with_reducible repeat (first | refine blk_drewN ?_ _ | refine blk_drew ?_ | refine blk_alloc ?_ _)); refine blk_put (cs := #[.string ((rd_T40 l0 x11_1).f0), .string (⟨#[]⟩ : ByteArray), .slice none 0 0]) ?_ 1 _ rfl; (with_reducible repeat (first | refine blk_drewN ?_ _ | refine blk_drew ?_ | refine blk_alloc ?_ _)); refine blk_put (cs := #[.string (⟨#[]⟩ : ByteArray), .string (⟨#[]⟩ : ByteArray), .slice none 0 0]) ?_ 0 _ rfl; (with_reducible repeat (first | refine blk_drewN ?_ _ | refine blk_drew ?_ | refine blk_alloc ?_ _)); exact BK122.out) hb); have n1_ := Aside0.mk (below_step (by repeat (first | (with_reducible first | exact HB.out | apply below_alloc | apply pw_below_drewN | apply below_drew1 | refine below_set ?_ GE122.out) | exact HB.out)) hb); clear BK122; clear HB; have BK122 := n0_; have HB := n1_; clear n0_ n1_; (try clear hb); (try clear hb2); (try clear hk); (try clear hi)))
        go_ret
        exact ⟨by first | rfl | (simp [errW_none, errW_some] <;> rfl) | (simp [*, errW_none, errW_some] <;> rfl), by repeat (first | (with_reducible first | exact HB.out | apply below_alloc | apply pw_below_drewN | apply below_drew1 | refine below_set ?_ GE122.out) | exact HB.out)⟩
      ·rw [if_neg c6] at H
       exact absurd H (by simp)
     ·rw [if_neg c5] at H
      exact absurd H (by simp)
    ·rw [if_neg c4] at H
     have c4b0 : decide (x11_1 < (l0.length : Int)) = false := decide_eq_false c4
     clear c4
     obtain rfl := Option.some.inj H
     go_wp2
     go_ret
     exact ⟨by first | rfl | (simp [errW_none, errW_some] <;> rfl) | (simp [*, errW_none, errW_some] <;> rfl), by repeat (first | (with_reducible first | exact HB.out | apply below_alloc | apply pw_below_drewN | apply below_drew1) | exact HB.out)⟩
 ·replace c3 := Bool.eq_false_iff.mpr c3
  subst c3
  have H1 : (some false) = some r := by rw [if_neg (show ¬ (false = true) by decide)] at H; exact H
  clear H
  have H := H1
  clear H1
  obtain rfl := Option.some.inj H
  go_enter Try.func15, Try.ntmps15
  go_wp2_with (first | ((with_reducible refine gate_callee (f := 28) rfl ?_); refine goesL_ (some 7) rfl rfl Try.func28 (by kernel_rfl) rfl #[.int .i64 (l0.length : Int), .int .i64 1, .int .i64 5] rfl (by (try simp only [List.map_toArray, List.map_cons, List.map_nil]); first | done | rfl | (simp only [List.length_drop, List.length_take]; rfl)) ?_; (with_reducible refine (spec_l1In.calls (l0.length : Int) 1 5 false _ A2.out).mono ?_); rintro e w' ⟨rfl, ⟨nd, rfl⟩⟩; refine ⟨_, rfl, ?_⟩))
  go_ret
  exact ⟨by first | rfl | (simp [errW_none, errW_some] <;> rfl) | (simp [*, errW_none, errW_some] <;> rfl), by repeat (first | (with_reducible first | exact HB.out | apply below_alloc | apply pw_below_drewN | apply below_drew1) | exact HB.out)⟩

end Go.Proofs.Ytganmdnieihpeaa.PFnExactSelectorText
