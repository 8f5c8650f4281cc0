-- Laid by a program of this session out of the translation (its own run of the print). Lean checks it.
import Derived.Test.YtganmdnieihpeaaDoorPFnExactSheetTextx0
import Derived.Test.YtganmdnieihpeaaDoorPFnExactSheetTextx1
import Derived.Test.YtganmdnieihpeaaDoorPFnExactSheetTextx2
namespace Go.Proofs.YtganmdnieihpeaaDoor.PFnExactSheetText
open Go.RowKit Go.Proofs.YtganmdnieihpeaaDoorW.PrintWords Go.Proofs.YtganmdnieihpeaaDoorW.PrintLast Go.Proofs.YtganmdnieihpeaaDoorW.PrintMore
attribute [local go_sem] max2_int min2_int max_two min_two max_three min_three max_four min_four   -- for this text's walks alone
set_option linter.unusedVariables false
set_option linter.unusedSimpArgs false

/-! ### spec_l5GoodPart: function 33 -/
mutual
def spec_l5GoodPart.j0 : Nat → Bool → ByteArray → ByteArray → List ByteArray → Option (Bool)
 | 0, _, _, _, _ => none
 | k + 1, x35, x124000, x124001, x124002 => if x35 = true then (some false) else (spec_l5GoodPart.l0 k x124002 (x124002.length : Int) 0 x124000 x124001 x124002)
def spec_l5GoodPart.l0 : Nat → List ByteArray → Int → Int → ByteArray → ByteArray → List ByteArray → Option (Bool)
 | 0, _, _, _, _, _, _ => none
 | k + 1, x37, x38, x39, x124000, x124001, x124002 => if x39 < x38 then (if 0 ≤ x39 then (if x39 < (x37.length : Int) then ((spec_l5Word.f k (rdOf ByteArray.empty x37 x39)).bind fun t129 => (if t129 = true then (spec_l5GoodPart.l0 k x37 x38 (wrap64 (x39 + 1)) x124000 x124001 x124002) else (some false))) else (none)) else (none)) else (if x124000.toList = ([] : List UInt8) then (if x124001.toList = ([] : List UInt8) then (some (decide ((x124002.length : Int) > 0))) else (some true)) else (some true))
end
def spec_l5GoodPart.f (k : Nat) (a0_0 : ByteArray) (a0_1 : ByteArray) (l0_2 : List ByteArray) : Option (Bool) := if a0_0.toList = ([] : List UInt8) then (if a0_1.toList = ([] : List UInt8) then (spec_l5GoodPart.j0 k (decide ((l0_2.length : Int) > 4)) a0_0 a0_1 l0_2) else ((spec_l5Word.f k a0_1).bind fun t124 => (if t124 = true then (spec_l5GoodPart.j0 k (decide ((l0_2.length : Int) > 4)) a0_0 a0_1 l0_2) else (spec_l5GoodPart.j0 k true a0_0 a0_1 l0_2)))) else (if a0_0.toList = ([42] : List UInt8) then (if a0_1.toList = ([] : List UInt8) then (spec_l5GoodPart.j0 k (decide ((l0_2.length : Int) > 4)) a0_0 a0_1 l0_2) else ((spec_l5Word.f k a0_1).bind fun t125 => (if t125 = true then (spec_l5GoodPart.j0 k (decide ((l0_2.length : Int) > 4)) a0_0 a0_1 l0_2) else (spec_l5GoodPart.j0 k true a0_0 a0_1 l0_2)))) else ((spec_l5Word.f k a0_0).bind fun t126 => (if t126 = true then (if a0_1.toList = ([] : List UInt8) then (spec_l5GoodPart.j0 k (decide ((l0_2.length : Int) > 4)) a0_0 a0_1 l0_2) else ((spec_l5Word.f k a0_1).bind fun t127 => (if t127 = true then (spec_l5GoodPart.j0 k (decide ((l0_2.length : Int) > 4)) a0_0 a0_1 l0_2) else (spec_l5GoodPart.j0 k true a0_0 a0_1 l0_2)))) else (spec_l5GoodPart.j0 k true a0_0 a0_1 l0_2))))
set_option maxHeartbeats 8000000 in
set_option maxRecDepth 100000 in
theorem spec_l5GoodPart.calls (k : Nat) (a0_0 : ByteArray) (a0_1 : ByteArray) (A0_2 : Option Addr) (c0_2 : Nat) (l0_2 : List ByteArray) (r : Bool) (w : World) (hr0_2 : Kd.C Kd.string w A0_2 l0_2.length l0_2) (hc0_2 : l0_2.length ≤ c0_2) (h : spec_l5GoodPart.f k a0_0 a0_1 l0_2 = some r) :
  Calls Tryd.prog 33 #[.agg #[.string a0_0, .string a0_1, .slice A0_2 l0_2.length c0_2]] w fun e w' => e = .returned (.bool r) ∧ Below w.heap.size w w' := by
 have hu63 := Tryd.underlying63
 have HR0_2 := Aside0.mk hr0_2
 have HC0_2 := Aside0.mk hc0_2
 clear hr0_2 hc0_2
 have HB := Aside0.mk (Below.refl w.heap.size w)
 have H : (if a0_0.toList = ([] : List UInt8) then (if a0_1.toList = ([] : List UInt8) then (spec_l5GoodPart.j0 k (decide ((l0_2.length : Int) > 4)) a0_0 a0_1 l0_2) else ((spec_l5Word.f k a0_1).bind fun t124 => (if t124 = true then (spec_l5GoodPart.j0 k (decide ((l0_2.length : Int) > 4)) a0_0 a0_1 l0_2) else (spec_l5GoodPart.j0 k true a0_0 a0_1 l0_2)))) else (if a0_0.toList = ([42] : List UInt8) then (if a0_1.toList = ([] : List UInt8) then (spec_l5GoodPart.j0 k (decide ((l0_2.length : Int) > 4)) a0_0 a0_1 l0_2) else ((spec_l5Word.f k a0_1).bind fun t125 => (if t125 = true then (spec_l5GoodPart.j0 k (decide ((l0_2.length : Int) > 4)) a0_0 a0_1 l0_2) else (spec_l5GoodPart.j0 k true a0_0 a0_1 l0_2)))) else ((spec_l5Word.f k a0_0).bind fun t126 => (if t126 = true then (if a0_1.toList = ([] : List UInt8) then (spec_l5GoodPart.j0 k (decide ((l0_2.length : Int) > 4)) a0_0 a0_1 l0_2) else ((spec_l5Word.f k a0_1).bind fun t127 => (if t127 = true then (spec_l5GoodPart.j0 k (decide ((l0_2.length : Int) > 4)) a0_0 a0_1 l0_2) else (spec_l5GoodPart.j0 k true a0_0 a0_1 l0_2)))) else (spec_l5GoodPart.j0 k true a0_0 a0_1 l0_2))))) = some r := h
 clear h
 have HC2 := Aside0.mk H
 clear H
 go_enter Tryd.func33, Tryd.ntmps33
 go_upto_region 1 with (first | ((with_reducible refine gate_dst (N := 1) rfl ?_); (try (refine gate_guard (by rfl) ?_; dsimp only)); refine box_event ?hg (N := 1) ?hd (cs := #[.string a0_0, .string a0_1, .slice A0_2 l0_2.length c0_2]) (t := 63) ?hr ?_; (case hd => rfl); (case hg => rfl); (case hr => first | (go_simp; done) | (go_simp; rfl)); intro gb123 hg w3 hbox hb; have n0_ := Aside0.mk (below_step (by repeat (first | (with_reducible first | exact HB.out | apply below_alloc | apply pw_below_drewN | apply below_drew1) | exact HB.out)) hb); have n1_ := Aside0.mk (hbox); have n2_ := Aside0.mk ((by rw [hg]; exact (below_size (by repeat (first | (with_reducible first | exact HB.out | apply below_alloc | apply pw_below_drewN | apply below_drew1) | exact HB.out))) : w.heap.size ≤ gb123)); have n3_ := Aside0.mk ((by rw [hg]; exact (below_size (by repeat (first | (with_reducible first | exact HB.out | apply below_alloc | apply pw_below_drewN | apply below_drew1) | exact HB.out))) : w.heap.size ≤ gb123)); clear HB; have HB := n0_; have BK123 := n1_; have GW123 := n2_; have GE123 := n3_; clear n0_ n1_ n2_ n3_; clear hb hbox hg))
 (try simp only [Act.put, List.setIfInBounds_toArray, List.set_cons_zero, List.set_cons_succ])
 go_cut [35] (fun v35 wc => ∃ (kq : Nat) (x35_1 : Bool), v35 = .bool x35_1 ∧ Aside0 (spec_l5GoodPart.j0 kq x35_1 a0_0 a0_1 l0_2 = some r) ∧ Aside0 (kq ≤ k) ∧ Aside0 (wc.heap[gb123]? = some (.cells #[.string a0_0, .string a0_1, (.slice A0_2 l0_2.length c0_2)] 63 (0, 0))) ∧ Aside0 (Below w.heap.size w wc))
 case first =>
  have H := HC2.out
  clear HC2
  by_cases c4 : a0_0.toList = ([] : List UInt8)
  ·rw [if_pos c4] at H
   have c4b0 : (a0_0.toList == ([] : List UInt8)) = true := beq_iff_eq.mpr c4
   have c4b7 : a0_0.toList.isEmpty = true := by rw [beq_iff_eq.mp c4b0]; rfl
   have c4b8 : ¬ (a0_0.toList.isEmpty = false) := fun h_ => by have h9_ := beq_iff_eq.mp c4b0; rw [h9_] at h_; cases h_
   have c4b1 : (a0_0.toList != ([] : List UInt8)) = false := bne_eq_false_iff_eq.mpr c4
   clear c4
   (first | rw [c4b0] | simp only [c4b7, Bool.not_true, Bool.not_false] | (simp only [i64_w, i32_w]; rw [c4b0]) | skip)
   by_cases c5 : a0_1.toList = ([] : List UInt8)
   ·rw [if_pos c5] at H
    have c5b0 : (a0_1.toList == ([] : List UInt8)) = true := beq_iff_eq.mpr c5
    have c5b7 : a0_1.toList.isEmpty = true := by rw [beq_iff_eq.mp c5b0]; rfl
    have c5b8 : ¬ (a0_1.toList.isEmpty = false) := fun h_ => by have h9_ := beq_iff_eq.mp c5b0; rw [h9_] at h_; cases h_
    have c5b1 : (a0_1.toList != ([] : List UInt8)) = false := bne_eq_false_iff_eq.mpr c5
    clear c5
    have H' := Aside0.mk H
    clear H
    have hcz6_0 : w3.cell? ⟨gb123, 0, none⟩ = some (.string a0_0) := (blk_cell BK123.out 0).trans rfl
    have hcz6_1 : w3.cell? ⟨gb123, 1, none⟩ = some (.string a0_1) := (blk_cell BK123.out 1).trans rfl
    have hcz6_2 : w3.cell? ⟨gb123, 2, none⟩ = some (.slice A0_2 l0_2.length c0_2) := (blk_cell BK123.out 2).trans rfl
    have hfz6_0 := blk_frozen BK123.out 0
    have hfz6_1 := blk_frozen BK123.out 1
    have hfz6_2 := blk_frozen BK123.out 2
    go_wp2
    go_meet
    case rel => exact ⟨_, (decide ((l0_2.length : Int) > 4)), (by first | rfl | (simp; done) | (simp [*]; done) | (simp [wrap64]; done)), H', ⟨by first | omega | exact Nat.le_refl _⟩, ⟨by (with_reducible repeat (first | refine blk_drewN ?_ _ | refine blk_drew ?_ | refine blk_alloc ?_ _)); exact BK123.out⟩, ⟨by repeat (first | (with_reducible first | exact HB.out | apply below_alloc | apply pw_below_drewN | apply below_drew1 | refine below_set ?_ GE123.out) | exact HB.out)⟩⟩
   ·rw [if_neg c5] at H
    have c5b0 : (a0_1.toList == ([] : List UInt8)) = false := beq_eq_false_iff_ne.mpr c5
    have c5b7 : a0_1.toList.isEmpty = false := Bool.eq_false_iff.mpr (fun h_ => absurd (List.isEmpty_iff.mp h_) (beq_eq_false_iff_ne.mp c5b0))
    have c5b8 : ¬ (a0_1.toList.isEmpty = true) := fun h_ => absurd (List.isEmpty_iff.mp h_) (beq_eq_false_iff_ne.mp c5b0)
    have c5b1 : (a0_1.toList != ([] : List UInt8)) = true := bne_iff_ne.mpr c5
    replace H := Option.bind_eq_some_iff.mp H
    obtain ⟨t124, A70, H⟩ := H
    replace H : (if t124 = true then (spec_l5GoodPart.j0 k (decide ((l0_2.length : Int) > 4)) a0_0 a0_1 l0_2) else (spec_l5GoodPart.j0 k true a0_0 a0_1 l0_2)) = some r := H
    have A7 := Aside0.mk A70
    clear A70
    by_cases c8 : t124 = true
    ·subst c8
     have H1 : (spec_l5GoodPart.j0 k (decide ((l0_2.length : Int) > 4)) a0_0 a0_1 l0_2) = some r := by rw [if_pos rfl] at H; exact H
     clear H
     have H := H1
     clear H1
     have H' := Aside0.mk H
     clear H
     have hcz9_0 : w3.cell? ⟨gb123, 0, none⟩ = some (.string a0_0) := (blk_cell BK123.out 0).trans rfl
     have hcz9_1 : w3.cell? ⟨gb123, 1, none⟩ = some (.string a0_1) := (blk_cell BK123.out 1).trans rfl
     have hcz9_2 : w3.cell? ⟨gb123, 2, none⟩ = some (.slice A0_2 l0_2.length c0_2) := (blk_cell BK123.out 2).trans rfl
     have hfz9_0 := blk_frozen BK123.out 0
     have hfz9_1 := blk_frozen BK123.out 1
     have hfz9_2 := blk_frozen BK123.out 2
     go_wp2_with (first | (go_at_call 35; (with_reducible refine (spec_l5Word.calls k a0_1 true _ A7.out).mono ?_); rintro e w' ⟨rfl, ⟨nd, rfl⟩⟩))
     go_meet
     case rel => exact ⟨_, (decide ((l0_2.length : Int) > 4)), (by first | rfl | (simp; done) | (simp [*]; done) | (simp [wrap64]; done)), H', ⟨by first | omega | exact Nat.le_refl _⟩, ⟨by (with_reducible repeat (first | refine blk_drewN ?_ _ | refine blk_drew ?_ | refine blk_alloc ?_ _)); exact BK123.out⟩, ⟨by repeat (first | (with_reducible first | exact HB.out | apply below_alloc | apply pw_below_drewN | apply below_drew1 | refine below_set ?_ GE123.out) | exact HB.out)⟩⟩
    ·replace c8 := Bool.eq_false_iff.mpr c8
     subst c8
     have H1 : (spec_l5GoodPart.j0 k true a0_0 a0_1 l0_2) = some r := by rw [if_neg (show ¬ (false = true) by decide)] at H; exact H
     clear H
     have H := H1
     clear H1
     have H' := Aside0.mk H
     clear H
     have hcz10_0 : w3.cell? ⟨gb123, 0, none⟩ = some (.string a0_0) := (blk_cell BK123.out 0).trans rfl
     have hcz10_1 : w3.cell? ⟨gb123, 1, none⟩ = some (.string a0_1) := (blk_cell BK123.out 1).trans rfl
     have hcz10_2 : w3.cell? ⟨gb123, 2, none⟩ = some (.slice A0_2 l0_2.length c0_2) := (blk_cell BK123.out 2).trans rfl
     have hfz10_0 := blk_frozen BK123.out 0
     have hfz10_1 := blk_frozen BK123.out 1
     have hfz10_2 := blk_frozen BK123.out 2
     go_wp2_with (first | (go_at_call 35; (with_reducible refine (spec_l5Word.calls k a0_1 false _ A7.out).mono ?_); rintro e w' ⟨rfl, ⟨nd, rfl⟩⟩))
     go_meet
     case rel => exact ⟨_, (true), (by first | rfl | (simp; done) | (simp [*]; done) | (simp [wrap64]; done)), H', ⟨by first | omega | exact Nat.le_refl _⟩, ⟨by (with_reducible repeat (first | refine blk_drewN ?_ _ | refine blk_drew ?_ | refine blk_alloc ?_ _)); exact BK123.out⟩, ⟨by repeat (first | (with_reducible first | exact HB.out | apply below_alloc | apply pw_below_drewN | apply below_drew1 | refine below_set ?_ GE123.out) | exact HB.out)⟩⟩
  ·rw [if_neg c4] at H
   have c4b0 : (a0_0.toList == ([] : List UInt8)) = false := beq_eq_false_iff_ne.mpr c4
   have c4b7 : a0_0.toList.isEmpty = false := Bool.eq_false_iff.mpr (fun h_ => absurd (List.isEmpty_iff.mp h_) (beq_eq_false_iff_ne.mp c4b0))
   have c4b8 : ¬ (a0_0.toList.isEmpty = true) := fun h_ => absurd (List.isEmpty_iff.mp h_) (beq_eq_false_iff_ne.mp c4b0)
   have c4b1 : (a0_0.toList != ([] : List UInt8)) = true := bne_iff_ne.mpr c4
   (first | rw [c4b0] | simp only [c4b7, Bool.not_true, Bool.not_false] | (simp only [i64_w, i32_w]; rw [c4b0]) | skip)
   by_cases c11 : a0_0.toList = ([42] : List UInt8)
   ·rw [if_pos c11] at H
    have c11b0 : (a0_0.toList == ([42] : List UInt8)) = true := beq_iff_eq.mpr c11
    have c11b1 : (a0_0.toList != ([42] : List UInt8)) = false := bne_eq_false_iff_eq.mpr c11
    clear c11
    by_cases c12 : a0_1.toList = ([] : List UInt8)
    ·rw [if_pos c12] at H
     have c12b0 : (a0_1.toList == ([] : List UInt8)) = true := beq_iff_eq.mpr c12
     have c12b7 : a0_1.toList.isEmpty = true := by rw [beq_iff_eq.mp c12b0]; rfl
     have c12b8 : ¬ (a0_1.toList.isEmpty = false) := fun h_ => by have h9_ := beq_iff_eq.mp c12b0; rw [h9_] at h_; cases h_
     have c12b1 : (a0_1.toList != ([] : List UInt8)) = false := bne_eq_false_iff_eq.mpr c12
     clear c12
     have H' := Aside0.mk H
     clear H
     have hcz13_0 : w3.cell? ⟨gb123, 0, none⟩ = some (.string a0_0) := (blk_cell BK123.out 0).trans rfl
     have hcz13_1 : w3.cell? ⟨gb123, 1, none⟩ = some (.string a0_1) := (blk_cell BK123.out 1).trans rfl
     have hcz13_2 : w3.cell? ⟨gb123, 2, none⟩ = some (.slice A0_2 l0_2.length c0_2) := (blk_cell BK123.out 2).trans rfl
     have hfz13_0 := blk_frozen BK123.out 0
     have hfz13_1 := blk_frozen BK123.out 1
     have hfz13_2 := blk_frozen BK123.out 2
     go_wp2
     go_meet
     case rel => exact ⟨_, (decide ((l0_2.length : Int) > 4)), (by first | rfl | (simp; done) | (simp [*]; done) | (simp [wrap64]; done)), H', ⟨by first | omega | exact Nat.le_refl _⟩, ⟨by (with_reducible repeat (first | refine blk_drewN ?_ _ | refine blk_drew ?_ | refine blk_alloc ?_ _)); exact BK123.out⟩, ⟨by repeat (first | (with_reducible first | exact HB.out | apply below_alloc | apply pw_below_drewN | apply below_drew1 | refine below_set ?_ GE123.out) | exact HB.out)⟩⟩
    ·rw [if_neg c12] at H
     have c12b0 : (a0_1.toList == ([] : List UInt8)) = false := beq_eq_false_iff_ne.mpr c12
     have c12b7 : a0_1.toList.isEmpty = false := Bool.eq_false_iff.mpr (fun h_ => absurd (List.isEmpty_iff.mp h_) (beq_eq_false_iff_ne.mp c12b0))
     have c12b8 : ¬ (a0_1.toList.isEmpty = true) := fun h_ => absurd (List.isEmpty_iff.mp h_) (beq_eq_false_iff_ne.mp c12b0)
     have c12b1 : (a0_1.toList != ([] : List UInt8)) = true := bne_iff_ne.mpr c12
     replace H := Option.bind_eq_some_iff.mp H
     obtain ⟨t125, A140, H⟩ := H
     replace H : (if t125 = true then (spec_l5GoodPart.j0 k (decide ((l0_2.length : Int) > 4)) a0_0 a0_1 l0_2) else (spec_l5GoodPart.j0 k true a0_0 a0_1 l0_2)) = some r := H
     have A14 := Aside0.mk A140
     clear A140
     by_cases c15 : t125 = true
     ·subst c15
      have H1 : (spec_l5GoodPart.j0 k (decide ((l0_2.length : Int) > 4)) a0_0 a0_1 l0_2) = some r := by rw [if_pos rfl] at H; exact H
      clear H
      have H := H1
      clear H1
      have H' := Aside0.mk H
      clear H
      have hcz16_0 : w3.cell? ⟨gb123, 0, none⟩ = some (.string a0_0) := (blk_cell BK123.out 0).trans rfl
      have hcz16_1 : w3.cell? ⟨gb123, 1, none⟩ = some (.string a0_1) := (blk_cell BK123.out 1).trans rfl
      have hcz16_2 : w3.cell? ⟨gb123, 2, none⟩ = some (.slice A0_2 l0_2.length c0_2) := (blk_cell BK123.out 2).trans rfl
      have hfz16_0 := blk_frozen BK123.out 0
      have hfz16_1 := blk_frozen BK123.out 1
      have hfz16_2 := blk_frozen BK123.out 2
      go_wp2_with (first | (go_at_call 35; (with_reducible refine (spec_l5Word.calls k a0_1 true _ A14.out).mono ?_); rintro e w' ⟨rfl, ⟨nd, rfl⟩⟩))
      go_meet
      case rel => exact ⟨_, (decide ((l0_2.length : Int) > 4)), (by first | rfl | (simp; done) | (simp [*]; done) | (simp [wrap64]; done)), H', ⟨by first | omega | exact Nat.le_refl _⟩, ⟨by (with_reducible repeat (first | refine blk_drewN ?_ _ | refine blk_drew ?_ | refine blk_alloc ?_ _)); exact BK123.out⟩, ⟨by repeat (first | (with_reducible first | exact HB.out | apply below_alloc | apply pw_below_drewN | apply below_drew1 | refine below_set ?_ GE123.out) | exact HB.out)⟩⟩
     ·replace c15 := Bool.eq_false_iff.mpr c15
      subst c15
      have H1 : (spec_l5GoodPart.j0 k true a0_0 a0_1 l0_2) = some r := by rw [if_neg (show ¬ (false = true) by decide)] at H; exact H
      clear H
      have H := H1
      clear H1
      have H' := Aside0.mk H
      clear H
      have hcz17_0 : w3.cell? ⟨gb123, 0, none⟩ = some (.string a0_0) := (blk_cell BK123.out 0).trans rfl
      have hcz17_1 : w3.cell? ⟨gb123, 1, none⟩ = some (.string a0_1) := (blk_cell BK123.out 1).trans rfl
      have hcz17_2 : w3.cell? ⟨gb123, 2, none⟩ = some (.slice A0_2 l0_2.length c0_2) := (blk_cell BK123.out 2).trans rfl
      have hfz17_0 := blk_frozen BK123.out 0
      have hfz17_1 := blk_frozen BK123.out 1
      have hfz17_2 := blk_frozen BK123.out 2
      go_wp2_with (first | (go_at_call 35; (with_reducible refine (spec_l5Word.calls k a0_1 false _ A14.out).mono ?_); rintro e w' ⟨rfl, ⟨nd, rfl⟩⟩))
      go_meet
      case rel => exact ⟨_, (true), (by first | rfl | (simp; done) | (simp [*]; done) | (simp [wrap64]; done)), H', ⟨by first | omega | exact Nat.le_refl _⟩, ⟨by (with_reducible repeat (first | refine blk_drewN ?_ _ | refine blk_drew ?_ | refine blk_alloc ?_ _)); exact BK123.out⟩, ⟨by repeat (first | (with_reducible first | exact HB.out | apply below_alloc | apply pw_below_drewN | apply below_drew1 | refine below_set ?_ GE123.out) | exact HB.out)⟩⟩
   ·rw [if_neg c11] at H
    have c11b0 : (a0_0.toList == ([42] : List UInt8)) = false := beq_eq_false_iff_ne.mpr c11
    have c11b1 : (a0_0.toList != ([42] : List UInt8)) = true := bne_iff_ne.mpr c11
    replace H := Option.bind_eq_some_iff.mp H
    obtain ⟨t126, A180, H⟩ := H
    replace H : (if t126 = true then (if a0_1.toList = ([] : List UInt8) then (spec_l5GoodPart.j0 k (decide ((l0_2.length : Int) > 4)) a0_0 a0_1 l0_2) else ((spec_l5Word.f k a0_1).bind fun t127 => (if t127 = true then (spec_l5GoodPart.j0 k (decide ((l0_2.length : Int) > 4)) a0_0 a0_1 l0_2) else (spec_l5GoodPart.j0 k true a0_0 a0_1 l0_2)))) else (spec_l5GoodPart.j0 k true a0_0 a0_1 l0_2)) = some r := H
    have A18 := Aside0.mk A180
    clear A180
    by_cases c19 : t126 = true
    ·subst c19
     have H1 : (if a0_1.toList = ([] : List UInt8) then (spec_l5GoodPart.j0 k (decide ((l0_2.length : Int) > 4)) a0_0 a0_1 l0_2) else ((spec_l5Word.f k a0_1).bind fun t127 => (if t127 = true then (spec_l5GoodPart.j0 k (decide ((l0_2.length : Int) > 4)) a0_0 a0_1 l0_2) else (spec_l5GoodPart.j0 k true a0_0 a0_1 l0_2)))) = some r := by rw [if_pos rfl] at H; exact H
     clear H
     have H := H1
     clear H1
     by_cases c20 : a0_1.toList = ([] : List UInt8)
     ·rw [if_pos c20] at H
      have c20b0 : (a0_1.toList == ([] : List UInt8)) = true := beq_iff_eq.mpr c20
      have c20b7 : a0_1.toList.isEmpty = true := by rw [beq_iff_eq.mp c20b0]; rfl
      have c20b8 : ¬ (a0_1.toList.isEmpty = false) := fun h_ => by have h9_ := beq_iff_eq.mp c20b0; rw [h9_] at h_; cases h_
      have c20b1 : (a0_1.toList != ([] : List UInt8)) = false := bne_eq_false_iff_eq.mpr c20
      clear c20
      have H' := Aside0.mk H
      clear H
      have hcz21_0 : w3.cell? ⟨gb123, 0, none⟩ = some (.string a0_0) := (blk_cell BK123.out 0).trans rfl
      have hcz21_1 : w3.cell? ⟨gb123, 1, none⟩ = some (.string a0_1) := (blk_cell BK123.out 1).trans rfl
      have hcz21_2 : w3.cell? ⟨gb123, 2, none⟩ = some (.slice A0_2 l0_2.length c0_2) := (blk_cell BK123.out 2).trans rfl
      have hfz21_0 := blk_frozen BK123.out 0
      have hfz21_1 := blk_frozen BK123.out 1
      have hfz21_2 := blk_frozen BK123.out 2
      go_wp2_with (first | (go_at_call 35; (with_reducible refine (spec_l5Word.calls k a0_0 true _ A18.out).mono ?_); rintro e w' ⟨rfl, ⟨nd, rfl⟩⟩))
      go_meet
      case rel => exact ⟨_, (decide ((l0_2.length : Int) > 4)), (by first | rfl | (simp; done) | (simp [*]; done) | (simp [wrap64]; done)), H', ⟨by first | omega | exact Nat.le_refl _⟩, ⟨by (with_reducible repeat (first | refine blk_drewN ?_ _ | refine blk_drew ?_ | refine blk_alloc ?_ _)); exact BK123.out⟩, ⟨by repeat (first | (with_reducible first | exact HB.out | apply below_alloc | apply pw_below_drewN | apply below_drew1 | refine below_set ?_ GE123.out) | exact HB.out)⟩⟩
     ·rw [if_neg c20] at H
      have c20b0 : (a0_1.toList == ([] : List UInt8)) = false := beq_eq_false_iff_ne.mpr c20
      have c20b7 : a0_1.toList.isEmpty = false := Bool.eq_false_iff.mpr (fun h_ => absurd (List.isEmpty_iff.mp h_) (beq_eq_false_iff_ne.mp c20b0))
      have c20b8 : ¬ (a0_1.toList.isEmpty = true) := fun h_ => absurd (List.isEmpty_iff.mp h_) (beq_eq_false_iff_ne.mp c20b0)
      have c20b1 : (a0_1.toList != ([] : List UInt8)) = true := bne_iff_ne.mpr c20
      replace H := Option.bind_eq_some_iff.mp H
      obtain ⟨t127, A220, H⟩ := H
      replace H : (if t127 = true then (spec_l5GoodPart.j0 k (decide ((l0_2.length : Int) > 4)) a0_0 a0_1 l0_2) else (spec_l5GoodPart.j0 k true a0_0 a0_1 l0_2)) = some r := H
      have A22 := Aside0.mk A220
      clear A220
      by_cases c23 : t127 = true
      ·subst c23
       have H1 : (spec_l5GoodPart.j0 k (decide ((l0_2.length : Int) > 4)) a0_0 a0_1 l0_2) = some r := by rw [if_pos rfl] at H; exact H
       clear H
       have H := H1
       clear H1
       have H' := Aside0.mk H
       clear H
       have hcz24_0 : w3.cell? ⟨gb123, 0, none⟩ = some (.string a0_0) := (blk_cell BK123.out 0).trans rfl
       have hcz24_1 : w3.cell? ⟨gb123, 1, none⟩ = some (.string a0_1) := (blk_cell BK123.out 1).trans rfl
       have hcz24_2 : w3.cell? ⟨gb123, 2, none⟩ = some (.slice A0_2 l0_2.length c0_2) := (blk_cell BK123.out 2).trans rfl
       have hfz24_0 := blk_frozen BK123.out 0
       have hfz24_1 := blk_frozen BK123.out 1
       have hfz24_2 := blk_frozen BK123.out 2
       go_wp2_with (first | (go_at_call 35; (with_reducible refine (spec_l5Word.calls k a0_0 true _ A18.out).mono ?_); rintro e w' ⟨rfl, ⟨nd, rfl⟩⟩) | (go_at_call 35; (with_reducible refine (spec_l5Word.calls k a0_1 true _ A22.out).mono ?_); rintro e w' ⟨rfl, ⟨nd, rfl⟩⟩))
       go_meet
       case rel => exact ⟨_, (decide ((l0_2.length : Int) > 4)), (by first | rfl | (simp; done) | (simp [*]; done) | (simp [wrap64]; done)), H', ⟨by first | omega | exact Nat.le_refl _⟩, ⟨by (with_reducible repeat (first | refine blk_drewN ?_ _ | refine blk_drew ?_ | refine blk_alloc ?_ _)); exact BK123.out⟩, ⟨by repeat (first | (with_reducible first | exact HB.out | apply below_alloc | apply pw_below_drewN | apply below_drew1 | refine below_set ?_ GE123.out) | exact HB.out)⟩⟩
      ·replace c23 := Bool.eq_false_iff.mpr c23
       subst c23
       have H1 : (spec_l5GoodPart.j0 k true a0_0 a0_1 l0_2) = some r := by rw [if_neg (show ¬ (false = true) by decide)] at H; exact H
       clear H
       have H := H1
       clear H1
       have H' := Aside0.mk H
       clear H
       have hcz25_0 : w3.cell? ⟨gb123, 0, none⟩ = some (.string a0_0) := (blk_cell BK123.out 0).trans rfl
       have hcz25_1 : w3.cell? ⟨gb123, 1, none⟩ = some (.string a0_1) := (blk_cell BK123.out 1).trans rfl
       have hcz25_2 : w3.cell? ⟨gb123, 2, none⟩ = some (.slice A0_2 l0_2.length c0_2) := (blk_cell BK123.out 2).trans rfl
       have hfz25_0 := blk_frozen BK123.out 0
       have hfz25_1 := blk_frozen BK123.out 1
       have hfz25_2 := blk_frozen BK123.out 2
       go_wp2_with (first | (go_at_call 35; (with_reducible refine (spec_l5Word.calls k a0_0 true _ A18.out).mono ?_); rintro e w' ⟨rfl, ⟨nd, rfl⟩⟩) | (go_at_call 35; (with_reducible refine (spec_l5Word.calls k a0_1 false _ A22.out).mono ?_); rintro e w' ⟨rfl, ⟨nd, rfl⟩⟩))
       go_meet
       case rel => exact ⟨_, (true), (by first | rfl | (simp; done) | (simp [*]; done) | (simp [wrap64]; done)), H', ⟨by first | omega | exact Nat.le_refl _⟩, ⟨by (with_reducible repeat (first | refine blk_drewN ?_ _ | refine blk_drew ?_ | refine blk_alloc ?_ _)); exact BK123.out⟩, ⟨by repeat (first | (with_reducible first | exact HB.out | apply below_alloc | apply pw_below_drewN | apply below_drew1 | refine below_set ?_ GE123.out) | exact HB.out)⟩⟩
    ·replace c19 := Bool.eq_false_iff.mpr c19
     subst c19
     have H1 : (spec_l5GoodPart.j0 k true a0_0 a0_1 l0_2) = some r := by rw [if_neg (show ¬ (false = true) by decide)] at H; exact H
     clear H
     have H := H1
     clear H1
     have H' := Aside0.mk H
     clear H
     have hcz26_0 : w3.cell? ⟨gb123, 0, none⟩ = some (.string a0_0) := (blk_cell BK123.out 0).trans rfl
     have hcz26_1 : w3.cell? ⟨gb123, 1, none⟩ = some (.string a0_1) := (blk_cell BK123.out 1).trans rfl
     have hcz26_2 : w3.cell? ⟨gb123, 2, none⟩ = some (.slice A0_2 l0_2.length c0_2) := (blk_cell BK123.out 2).trans rfl
     have hfz26_0 := blk_frozen BK123.out 0
     have hfz26_1 := blk_frozen BK123.out 1
     have hfz26_2 := blk_frozen BK123.out 2
     go_wp2_with (first | (go_at_call 35; (with_reducible refine (spec_l5Word.calls k a0_0 false _ A18.out).mono ?_); rintro e w' ⟨rfl, ⟨nd, rfl⟩⟩))
     go_meet
     case rel => exact ⟨_, (true), (by first | rfl | (simp; done) | (simp [*]; done) | (simp [wrap64]; done)), H', ⟨by first | omega | exact Nat.le_refl _⟩, ⟨by (with_reducible repeat (first | refine blk_drewN ?_ _ | refine blk_drew ?_ | refine blk_alloc ?_ _)); exact BK123.out⟩, ⟨by repeat (first | (with_reducible first | exact HB.out | apply below_alloc | apply pw_below_drewN | apply below_drew1 | refine below_set ?_ GE123.out) | exact HB.out)⟩⟩
 case rest =>
  clear HC2
  (try clear c1);(try clear c2);(try clear p2);(try clear c3);(try clear c4);(try clear c4b0);(try clear c4b1);(try clear c5);(try clear c5b0);(try clear c5b1);(try clear c8);(try clear c11);(try clear c11b0);(try clear c11b1);(try clear c12);(try clear c12b0);(try clear c12b1);(try clear c15);(try clear c19);(try clear c20);(try clear c20b0);(try clear c20b1);(try clear c23);(try clear hcz10_0);(try clear hcz10_1);(try clear hcz10_2);(try clear hcz13_0);(try clear hcz13_1);(try clear hcz13_2);(try clear hcz16_0);(try clear hcz16_1);(try clear hcz16_2);(try clear hcz17_0);(try clear hcz17_1);(try clear hcz17_2);(try clear hcz21_0);(try clear hcz21_1);(try clear hcz21_2);(try clear hcz24_0);(try clear hcz24_1);(try clear hcz24_2);(try clear hcz25_0);(try clear hcz25_1);(try clear hcz25_2);(try clear hcz26_0);(try clear hcz26_1);(try clear hcz26_2);(try clear hcz6_0);(try clear hcz6_1);(try clear hcz6_2)
  (try clear hcz9_0);(try clear hcz9_1);(try clear hcz9_2);(try clear hfz10_0);(try clear hfz10_1);(try clear hfz10_2);(try clear hfz13_0);(try clear hfz13_1);(try clear hfz13_2);(try clear hfz16_0);(try clear hfz16_1);(try clear hfz16_2);(try clear hfz17_0);(try clear hfz17_1);(try clear hfz17_2);(try clear hfz21_0);(try clear hfz21_1);(try clear hfz21_2);(try clear hfz24_0);(try clear hfz24_1);(try clear hfz24_2);(try clear hfz25_0);(try clear hfz25_1);(try clear hfz25_2);(try clear hfz26_0);(try clear hfz26_1);(try clear hfz26_2);(try clear hfz6_0);(try clear hfz6_1);(try clear hfz6_2);(try clear hfz9_0);(try clear hfz9_1);(try clear hfz9_2)
  obtain ⟨kq, x35_1, rfl, HA, HJ1, BK123, HB⟩ := hcut
  cases kq with
  | zero => exact absurd HA.out (by simp [spec_l5GoodPart.j0])
  | succ kj1 =>
   have H := HA.out
   clear HA
   simp only [spec_l5GoodPart.j0] at H
   by_cases c27 : x35_1 = true
   ·subst c27
    have H1 : (some false) = some r := by rw [if_pos rfl] at H; exact H
    clear H
    have H := H1
    clear H1
    obtain rfl := Option.some.inj H
    go_wp2
    go_ret
    exact ⟨by first | rfl | (simp [errW_none, errW_some] <;> rfl) | (simp [*, errW_none, errW_some] <;> rfl), by repeat (first | (with_reducible first | exact HB.out | apply below_alloc | apply pw_below_drewN | apply below_drew1 | refine below_set ?_ GE123.out) | exact HB.out)⟩
   ·replace c27 := Bool.eq_false_iff.mpr c27
    subst c27
    have H1 : (spec_l5GoodPart.l0 kj1 l0_2 (l0_2.length : Int) 0 a0_0 a0_1 l0_2) = some r := by rw [if_neg (show ¬ (false = true) by decide)] at H; exact H
    clear H
    have H := H1
    clear H1
    have H' := Aside0.mk H
    clear H
    have hcz28_0 : wc.cell? ⟨gb123, 0, none⟩ = some (.string a0_0) := (blk_cell BK123.out 0).trans rfl
    have hcz28_1 : wc.cell? ⟨gb123, 1, none⟩ = some (.string a0_1) := (blk_cell BK123.out 1).trans rfl
    have hcz28_2 : wc.cell? ⟨gb123, 2, none⟩ = some (.slice A0_2 l0_2.length c0_2) := (blk_cell BK123.out 2).trans rfl
    have hfz28_0 := blk_frozen BK123.out 0
    have hfz28_1 := blk_frozen BK123.out 1
    have hfz28_2 := blk_frozen BK123.out 2
    go_wp2
    go_loopg [39] kj1 (fun kq v39 w' => ∃ (x39_2 : Int), v39 = .int .i64 x39_2 ∧ Aside0 (spec_l5GoodPart.l0 kq l0_2 (l0_2.length : Int) x39_2 a0_0 a0_1 l0_2 = some r) ∧ Aside0 (kq ≤ kj1) ∧ Aside0 (w'.heap[gb123]? = some (.cells #[.string a0_0, .string a0_1, (.slice A0_2 l0_2.length c0_2)] 63 (0, 0))) ∧ Aside0 (Below w.heap.size w w'))
    case atStart => exact ⟨(0), (by first | rfl | (simp; done) | (simp [*]; done) | (simp [wrap64]; done)), H', ⟨Nat.le_refl _⟩, ⟨by (with_reducible repeat (first | refine blk_drewN ?_ _ | refine blk_drew ?_ | refine blk_alloc ?_ _)); exact BK123.out⟩, ⟨by repeat (first | (with_reducible first | exact HB.out | apply below_alloc | apply pw_below_drewN | apply below_drew1 | refine below_set ?_ GE123.out) | exact HB.out)⟩⟩
    case round =>
     clear H'
     (try clear c1);(try clear c2);(try clear p2);(try clear c3);(try clear c4);(try clear c4b0);(try clear c4b1);(try clear c5);(try clear c5b0);(try clear c5b1);(try clear c8);(try clear c11);(try clear c11b0);(try clear c11b1);(try clear c12);(try clear c12b0);(try clear c12b1);(try clear c15);(try clear c19);(try clear c20);(try clear c20b0);(try clear c20b1);(try clear c23);(try clear c27);(try clear hcz10_0);(try clear hcz10_1);(try clear hcz10_2);(try clear hcz13_0);(try clear hcz13_1);(try clear hcz13_2);(try clear hcz16_0);(try clear hcz16_1);(try clear hcz16_2);(try clear hcz17_0);(try clear hcz17_1);(try clear hcz17_2);(try clear hcz21_0);(try clear hcz21_1);(try clear hcz21_2);(try clear hcz24_0);(try clear hcz24_1);(try clear hcz24_2);(try clear hcz25_0);(try clear hcz25_1);(try clear hcz25_2);(try clear hcz26_0);(try clear hcz26_1);(try clear hcz26_2);(try clear hcz28_0);(try clear hcz28_1)
     (try clear hcz28_2);(try clear hcz6_0);(try clear hcz6_1);(try clear hcz6_2);(try clear hcz9_0);(try clear hcz9_1);(try clear hcz9_2);(try clear hfz10_0);(try clear hfz10_1);(try clear hfz10_2);(try clear hfz13_0);(try clear hfz13_1);(try clear hfz13_2);(try clear hfz16_0);(try clear hfz16_1);(try clear hfz16_2);(try clear hfz17_0);(try clear hfz17_1);(try clear hfz17_2);(try clear hfz21_0);(try clear hfz21_1);(try clear hfz21_2);(try clear hfz24_0);(try clear hfz24_1);(try clear hfz24_2);(try clear hfz25_0);(try clear hfz25_1);(try clear hfz25_2);(try clear hfz26_0);(try clear hfz26_1);(try clear hfz26_2);(try clear hfz28_0);(try clear hfz28_1);(try clear hfz28_2);(try clear hfz6_0);(try clear hfz6_1);(try clear hfz6_2);(try clear hfz9_0);(try clear hfz9_1);(try clear hfz9_2);(try clear p2)
     obtain ⟨x39_2, rfl, HA, HK2, BK123, HB⟩ := hrel
     cases gk with
     | zero => exact absurd HA.out (by simp [spec_l5GoodPart.l0])
     | succ k2 =>
      have H := HA.out
      clear HA
      simp only [spec_l5GoodPart.l0] at H
      by_cases c29 : x39_2 < (l0_2.length : Int)
      ·rw [if_pos c29] at H
       have c29b0 : decide (x39_2 < (l0_2.length : Int)) = true := decide_eq_true c29
       clear c29
       by_cases c30 : 0 ≤ x39_2
       ·rw [if_pos c30] at H
        have c30b0 : decide (0 ≤ x39_2) = true := decide_eq_true c30
        clear c30
        by_cases c31 : x39_2 < (l0_2.length : Int)
        ·rw [if_pos c31] at H
         have c31b0 : decide (x39_2 < (l0_2.length : Int)) = true := decide_eq_true c31
         clear c31
         replace H := Option.bind_eq_some_iff.mp H
         obtain ⟨t129, A320, H⟩ := H
         replace H : (if t129 = true then (spec_l5GoodPart.l0 k2 l0_2 (l0_2.length : Int) (wrap64 (x39_2 + 1)) a0_0 a0_1 l0_2) else (some false)) = some r := H
         have A32 := Aside0.mk A320
         clear A320
         by_cases c33 : t129 = true
         ·subst c33
          have H1 : (spec_l5GoodPart.l0 k2 l0_2 (l0_2.length : Int) (wrap64 (x39_2 + 1)) a0_0 a0_1 l0_2) = some r := by rw [if_pos rfl] at H; exact H
          clear H
          have H := H1
          clear H1
          have H' := Aside0.mk H
          clear H
          have p128 : 0 ≤ (x39_2 : Int) := of_decide_eq_true (by first | (with_reducible assumption) | assumption)
          have q128 : x39_2 < (l0_2.length : Int) := of_decide_eq_true (by first | (with_reducible assumption) | assumption)
          obtain ⟨ad128, e128, hx128_0⟩ := Kd.at_string HR0_2.out x39_2 p128 q128
          cases e128
          replace hx128_0 := (HB.out.cell (World.block_lt_of_cell? w _ hx128_0)).trans hx128_0
          replace p128 := eq_true p128
          replace q128 := eq_true q128
          go_wp2_with (first | ((with_reducible refine gate_callee (f := 35) rfl ?_); refine goesL_ (some 44) rfl rfl Tryd.func35 (by kernel_rfl) rfl #[.string (rdOf ByteArray.empty l0_2 x39_2)] rfl (by (try simp only [List.map_toArray, List.map_cons, List.map_nil]); first | done | rfl | (simp only [List.length_drop, List.length_take]; rfl)) ?_; (with_reducible refine (spec_l5Word.calls k2 (rdOf ByteArray.empty l0_2 x39_2) true _ A32.out).mono ?_); rintro e w' ⟨rfl, ⟨nd, rfl⟩⟩; refine ⟨_, rfl, ?_⟩))
          go_roundg k2
          case measure => have := HJ1.out; have := HK2.out; omega
          case rel => exact ⟨(wrap64 (x39_2 + 1)), (by first | rfl | (simp; done) | (simp [*]; done) | (simp [wrap64]; done)), H', ⟨by have := HJ1.out; have := HK2.out; omega⟩, ⟨by (with_reducible repeat (first | refine blk_drewN ?_ _ | refine blk_drew ?_ | refine blk_alloc ?_ _)); exact BK123.out⟩, ⟨by repeat (first | (with_reducible first | exact HB.out | apply below_alloc | apply pw_below_drewN | apply below_drew1 | refine below_set ?_ GE123.out) | exact HB.out)⟩⟩
         ·replace c33 := Bool.eq_false_iff.mpr c33
          subst c33
          have H1 : (some false) = some r := by rw [if_neg (show ¬ (false = true) by decide)] at H; exact H
          clear H
          have H := H1
          clear H1
          obtain rfl := Option.some.inj H
          have p128 : 0 ≤ (x39_2 : Int) := of_decide_eq_true (by first | (with_reducible assumption) | assumption)
          have q128 : x39_2 < (l0_2.length : Int) := of_decide_eq_true (by first | (with_reducible assumption) | assumption)
          obtain ⟨ad128, e128, hx128_0⟩ := Kd.at_string HR0_2.out x39_2 p128 q128
          cases e128
          replace hx128_0 := (HB.out.cell (World.block_lt_of_cell? w _ hx128_0)).trans hx128_0
          replace p128 := eq_true p128
          replace q128 := eq_true q128
          go_wp2_with (first | ((with_reducible refine gate_callee (f := 35) rfl ?_); refine goesL_ (some 44) rfl rfl Tryd.func35 (by kernel_rfl) rfl #[.string (rdOf ByteArray.empty l0_2 x39_2)] rfl (by (try simp only [List.map_toArray, List.map_cons, List.map_nil]); first | done | rfl | (simp only [List.length_drop, List.length_take]; rfl)) ?_; (with_reducible refine (spec_l5Word.calls k2 (rdOf ByteArray.empty l0_2 x39_2) false _ A32.out).mono ?_); rintro e w' ⟨rfl, ⟨nd, rfl⟩⟩; refine ⟨_, rfl, ?_⟩))
          go_ret
          exact ⟨by first | rfl | (simp [errW_none, errW_some] <;> rfl) | (simp [*, errW_none, errW_some] <;> rfl), by repeat (first | (with_reducible first | exact HB.out | apply below_alloc | apply pw_below_drewN | apply below_drew1 | refine below_set ?_ GE123.out) | exact HB.out)⟩
        ·rw [if_neg c31] at H
         exact absurd H (by simp)
       ·rw [if_neg c30] at H
        exact absurd H (by simp)
      ·rw [if_neg c29] at H
       have c29b0 : decide (x39_2 < (l0_2.length : Int)) = false := decide_eq_false c29
       clear c29
       by_cases c34 : a0_0.toList = ([] : List UInt8)
       ·rw [if_pos c34] at H
        have c34b0 : (a0_0.toList == ([] : List UInt8)) = true := beq_iff_eq.mpr c34
        have c34b7 : a0_0.toList.isEmpty = true := by rw [beq_iff_eq.mp c34b0]; rfl
        have c34b8 : ¬ (a0_0.toList.isEmpty = false) := fun h_ => by have h9_ := beq_iff_eq.mp c34b0; rw [h9_] at h_; cases h_
        have c34b1 : (a0_0.toList != ([] : List UInt8)) = false := bne_eq_false_iff_eq.mpr c34
        clear c34
        by_cases c35 : a0_1.toList = ([] : List UInt8)
        ·rw [if_pos c35] at H
         have c35b0 : (a0_1.toList == ([] : List UInt8)) = true := beq_iff_eq.mpr c35
         have c35b7 : a0_1.toList.isEmpty = true := by rw [beq_iff_eq.mp c35b0]; rfl
         have c35b8 : ¬ (a0_1.toList.isEmpty = false) := fun h_ => by have h9_ := beq_iff_eq.mp c35b0; rw [h9_] at h_; cases h_
         have c35b1 : (a0_1.toList != ([] : List UInt8)) = false := bne_eq_false_iff_eq.mpr c35
         clear c35
         obtain rfl := Option.some.inj H
         have hcz36_0 : wr.cell? ⟨gb123, 0, none⟩ = some (.string a0_0) := (blk_cell BK123.out 0).trans rfl
         have hcz36_1 : wr.cell? ⟨gb123, 1, none⟩ = some (.string a0_1) := (blk_cell BK123.out 1).trans rfl
         have hcz36_2 : wr.cell? ⟨gb123, 2, none⟩ = some (.slice A0_2 l0_2.length c0_2) := (blk_cell BK123.out 2).trans rfl
         have hfz36_0 := blk_frozen BK123.out 0
         have hfz36_1 := blk_frozen BK123.out 1
         have hfz36_2 := blk_frozen BK123.out 2
         go_wp2
         go_ret
         exact ⟨by first | rfl | (simp [errW_none, errW_some] <;> rfl) | (simp [*, errW_none, errW_some] <;> rfl), by repeat (first | (with_reducible first | exact HB.out | apply below_alloc | apply pw_below_drewN | apply below_drew1 | refine below_set ?_ GE123.out) | exact HB.out)⟩
        ·rw [if_neg c35] at H
         have c35b0 : (a0_1.toList == ([] : List UInt8)) = false := beq_eq_false_iff_ne.mpr c35
         have c35b7 : a0_1.toList.isEmpty = false := Bool.eq_false_iff.mpr (fun h_ => absurd (List.isEmpty_iff.mp h_) (beq_eq_false_iff_ne.mp c35b0))
         have c35b8 : ¬ (a0_1.toList.isEmpty = true) := fun h_ => absurd (List.isEmpty_iff.mp h_) (beq_eq_false_iff_ne.mp c35b0)
         have c35b1 : (a0_1.toList != ([] : List UInt8)) = true := bne_iff_ne.mpr c35
         obtain rfl := Option.some.inj H
         have hcz37_0 : wr.cell? ⟨gb123, 0, none⟩ = some (.string a0_0) := (blk_cell BK123.out 0).trans rfl
         have hcz37_1 : wr.cell? ⟨gb123, 1, none⟩ = some (.string a0_1) := (blk_cell BK123.out 1).trans rfl
         have hcz37_2 : wr.cell? ⟨gb123, 2, none⟩ = some (.slice A0_2 l0_2.length c0_2) := (blk_cell BK123.out 2).trans rfl
         have hfz37_0 := blk_frozen BK123.out 0
         have hfz37_1 := blk_frozen BK123.out 1
         have hfz37_2 := blk_frozen BK123.out 2
         go_wp2
         go_ret
         exact ⟨by first | rfl | (simp [errW_none, errW_some] <;> rfl) | (simp [*, errW_none, errW_some] <;> rfl), by repeat (first | (with_reducible first | exact HB.out | apply below_alloc | apply pw_below_drewN | apply below_drew1 | refine below_set ?_ GE123.out) | exact HB.out)⟩
       ·rw [if_neg c34] at H
        have c34b0 : (a0_0.toList == ([] : List UInt8)) = false := beq_eq_false_iff_ne.mpr c34
        have c34b7 : a0_0.toList.isEmpty = false := Bool.eq_false_iff.mpr (fun h_ => absurd (List.isEmpty_iff.mp h_) (beq_eq_false_iff_ne.mp c34b0))
        have c34b8 : ¬ (a0_0.toList.isEmpty = true) := fun h_ => absurd (List.isEmpty_iff.mp h_) (beq_eq_false_iff_ne.mp c34b0)
        have c34b1 : (a0_0.toList != ([] : List UInt8)) = true := bne_iff_ne.mpr c34
        obtain rfl := Option.some.inj H
        have hcz38_0 : wr.cell? ⟨gb123, 0, none⟩ = some (.string a0_0) := (blk_cell BK123.out 0).trans rfl
        have hcz38_1 : wr.cell? ⟨gb123, 1, none⟩ = some (.string a0_1) := (blk_cell BK123.out 1).trans rfl
        have hcz38_2 : wr.cell? ⟨gb123, 2, none⟩ = some (.slice A0_2 l0_2.length c0_2) := (blk_cell BK123.out 2).trans rfl
        have hfz38_0 := blk_frozen BK123.out 0
        have hfz38_1 := blk_frozen BK123.out 1
        have hfz38_2 := blk_frozen BK123.out 2
        go_wp2
        go_ret
        exact ⟨by first | rfl | (simp [errW_none, errW_some] <;> rfl) | (simp [*, errW_none, errW_some] <;> rfl), by repeat (first | (with_reducible first | exact HB.out | apply below_alloc | apply pw_below_drewN | apply below_drew1 | refine below_set ?_ GE123.out) | exact HB.out)⟩

/-! ### spec_l5Good: function 16 -/
def spec_l5Good.l0 : Nat → List (S63) → Int → Int → Option (Bool)
 | 0, _, _, _ => none
 | k + 1, x9, x10, x11 => if x11 < x10 then (if 0 ≤ x11 then (if x11 < (x9.length : Int) then ((spec_l5GoodPart.f k ((rd_T63 x9 x11).f0) ((rd_T63 x9 x11).f1) ((rd_T63 x9 x11).f2)).bind fun t133 => (if t133 = true then (spec_l5Good.l0 k x9 x10 (wrap64 (x11 + 1))) else (some false))) else (none)) else (none)) else (some true)
def spec_l5Good.f (k : Nat) (l0 : List (S63)) : Option (Bool) := (spec_l1In.f (l0.length : Int) 1 5).bind fun t130 => (if t130 = true then (spec_l5Good.l0 k l0 (l0.length : Int) 0) else (some false))
set_option maxHeartbeats 8000000 in
set_option maxRecDepth 100000 in
theorem spec_l5Good.calls (k : Nat) (A0 : Option Addr) (c0 : Nat) (l0 : List (S63)) (r : Bool) (w : World) (hr0 : Kd.C k63 w A0 l0.length l0) (hc0 : l0.length ≤ c0) (h : spec_l5Good.f k l0 = some r) :
  Calls Tryd.prog 16 #[.slice A0 l0.length c0] w fun e w' => e = .returned (.bool r) ∧ Below w.heap.size w w' := by
 have hu63 := Tryd.underlying63
 have HR0 := Aside0.mk hr0
 have HC0 := Aside0.mk hc0
 clear hr0 hc0
 have HB := Aside0.mk (Below.refl w.heap.size w)
 have H : ((spec_l1In.f (l0.length : Int) 1 5).bind fun t130 => (if t130 = true then (spec_l5Good.l0 k l0 (l0.length : Int) 0) else (some false))) = some r := h
 clear h
 replace H := Option.bind_eq_some_iff.mp H
 obtain ⟨t130, A20, H⟩ := H
 replace H : (if t130 = true then (spec_l5Good.l0 k l0 (l0.length : Int) 0) else (some false)) = some r := H
 have A2 := Aside0.mk A20
 clear A20
 by_cases c3 : t130 = true
 ·subst c3
  have H1 : (spec_l5Good.l0 k l0 (l0.length : Int) 0) = some r := by rw [if_pos rfl] at H; exact H
  clear H
  have H := H1
  clear H1
  have H' := Aside0.mk H
  clear H
  go_enter Tryd.func16, Tryd.ntmps16
  go_wp2_with (first | ((with_reducible refine gate_callee (f := 32) rfl ?_); refine goesL_ (some 7) rfl rfl Tryd.func32 (by kernel_rfl) rfl #[.int .i64 (l0.length : Int), .int .i64 1, .int .i64 5] rfl (by (try simp only [List.map_toArray, List.map_cons, List.map_nil]); first | done | rfl | (simp only [List.length_drop, List.length_take]; rfl)) ?_; (with_reducible refine (spec_l1In.calls (l0.length : Int) 1 5 true _ A2.out).mono ?_); rintro e w' ⟨rfl, ⟨nd, rfl⟩⟩; refine ⟨_, rfl, ?_⟩))
  go_loopg [11] k (fun kq v11 w' => ∃ (x11_1 : Int), v11 = .int .i64 x11_1 ∧ Aside0 (spec_l5Good.l0 kq l0 (l0.length : Int) x11_1 = some r) ∧ Aside0 (kq ≤ k) ∧ Aside0 (Below w.heap.size w w'))
  case atStart => exact ⟨(0), (by first | rfl | (simp; done) | (simp [*]; done) | (simp [wrap64]; done)), H', ⟨Nat.le_refl _⟩, ⟨by repeat (first | (with_reducible first | exact HB.out | apply below_alloc | apply pw_below_drewN | apply below_drew1) | exact HB.out)⟩⟩
  case round =>
   clear H'
   (try clear c1);(try clear p2);(try clear c3)
   obtain ⟨x11_1, rfl, HA, HK1, HB⟩ := hrel
   cases gk with
   | zero => exact absurd HA.out (by simp [spec_l5Good.l0])
   | succ k1 =>
    have H := HA.out
    clear HA
    simp only [spec_l5Good.l0] at H
    by_cases c4 : x11_1 < (l0.length : Int)
    ·rw [if_pos c4] at H
     have c4b0 : decide (x11_1 < (l0.length : Int)) = true := decide_eq_true c4
     clear c4
     by_cases c5 : 0 ≤ x11_1
     ·rw [if_pos c5] at H
      have c5b0 : decide (0 ≤ x11_1) = true := decide_eq_true c5
      clear c5
      by_cases c6 : x11_1 < (l0.length : Int)
      ·rw [if_pos c6] at H
       have c6b0 : decide (x11_1 < (l0.length : Int)) = true := decide_eq_true c6
       clear c6
       replace H := Option.bind_eq_some_iff.mp H
       obtain ⟨t133, A70, H⟩ := H
       replace H : (if t133 = true then (spec_l5Good.l0 k1 l0 (l0.length : Int) (wrap64 (x11_1 + 1))) else (some false)) = some r := H
       have A7 := Aside0.mk A70
       clear A70
       by_cases c8 : t133 = true
       ·subst c8
        have H1 : (spec_l5Good.l0 k1 l0 (l0.length : Int) (wrap64 (x11_1 + 1))) = some r := by rw [if_pos rfl] at H; exact H
        clear H
        have H := H1
        clear H1
        have H' := Aside0.mk H
        clear H
        have p131 : 0 ≤ (x11_1 : Int) := of_decide_eq_true (by first | (with_reducible assumption) | assumption)
        have q131 : x11_1 < (l0.length : Int) := of_decide_eq_true (by first | (with_reducible assumption) | assumption)
        obtain ⟨ad131, A131_2, c131_2, e131, hx131_0, hx131_1, hx131_2, hl131_2, hi131_2⟩ := at_T63 HR0.out x11_1 p131 q131
        cases e131
        replace hx131_0 := (HB.out.cell (World.block_lt_of_cell? w _ hx131_0)).trans hx131_0
        replace hx131_1 := (HB.out.cell (World.block_lt_of_cell? w _ hx131_1)).trans hx131_1
        replace hx131_2 := (HB.out.cell (World.block_lt_of_cell? w _ hx131_2)).trans hx131_2
        have HR131_2 := Aside0.mk hi131_2
        have HC131_2 := Aside0.mk hl131_2
        clear hi131_2 hl131_2
        replace p131 := eq_true p131
        replace q131 := eq_true q131
        go_wp2_with (first | ((with_reducible refine gate_dst (N := 4) rfl ?_); refine box_event ?hg (N := 4) ?hd (cs := #[.string (⟨#[]⟩ : ByteArray), .string (⟨#[]⟩ : ByteArray), .slice none 0 0]) (t := 63) ?hr ?_; (case hd => rfl); (case hg => rfl); (case hr => first | (go_simp; done) | (go_simp; rfl)); intro gb132 hg w9 hbox hb; have n0_ := Aside0.mk (below_step (by repeat (first | (with_reducible first | exact HB.out | apply below_alloc | apply pw_below_drewN | apply below_drew1) | exact HB.out)) hb); have n1_ := Aside0.mk (hbox); have n2_ := Aside0.mk ((by rw [hg]; exact (below_size (by repeat (first | (with_reducible first | exact HB.out | apply below_alloc | apply pw_below_drewN | apply below_drew1) | exact HB.out))) : w.heap.size ≤ gb132)); have n3_ := Aside0.mk ((by rw [hg]; exact (below_size (by repeat (first | (with_reducible first | exact HB.out | apply below_alloc | apply pw_below_drewN | apply below_drew1) | exact HB.out))) : w.heap.size ≤ gb132)); clear HB; have HB := n0_; have BK132 := n1_; have GW132 := n2_; have GE132 := n3_; clear n0_ n1_ n2_ n3_; clear hb hbox hg; have hcz10_0 : w9.cell? ⟨gb132, 0, none⟩ = some (.string (⟨#[]⟩ : ByteArray)) := (blk_cell BK132.out 0).trans rfl; have hcz10_1 : w9.cell? ⟨gb132, 1, none⟩ = some (.string (⟨#[]⟩ : ByteArray)) := (blk_cell BK132.out 1).trans rfl; have hcz10_2 : w9.cell? ⟨gb132, 2, none⟩ = some (.slice none 0 0) := (blk_cell BK132.out 2).trans rfl; have hfz10_0 := blk_frozen BK132.out 0; have hfz10_1 := blk_frozen BK132.out 1; have hfz10_2 := blk_frozen BK132.out 2) | ((with_reducible refine gate_callee (f := 33) rfl ?_); refine goesL_ (some 16) rfl rfl Tryd.func33 (by kernel_rfl) rfl #[.agg #[.string ((rd_T63 l0 x11_1).f0), .string ((rd_T63 l0 x11_1).f1), .slice A131_2 ((rd_T63 l0 x11_1).f2).length c131_2]] rfl (by (try simp only [List.map_toArray, List.map_cons, List.map_nil]); first | done | rfl | (simp only [List.length_drop, List.length_take]; rfl)) ?_; (with_reducible refine (spec_l5GoodPart.calls k1 ((rd_T63 l0 x11_1).f0) ((rd_T63 l0 x11_1).f1) _ _ ((rd_T63 l0 x11_1).f2) true _ ?side1 ?side2 A7.out).mono ?_); (case side1 => exact Kd.C_below HR131_2.out (by repeat (first | (with_reducible first | exact HB.out | apply below_alloc | apply pw_below_drewN | apply below_drew1 | refine below_set ?_ GE132.out) | exact HB.out))); (case side2 => exact HC131_2.out); rintro e w11 ⟨rfl, hb⟩; refine ⟨_, rfl, ?_⟩; have n0_ := Aside0.mk (blk_below (g := gb132) (o := .cells #[.string ((rd_T63 l0 x11_1).f0), .string ((rd_T63 l0 x11_1).f1), .slice A131_2 ((rd_T63 l0 x11_1).f2).length c131_2] 63 (0, 0)) (by (with_reducible repeat (first | refine blk_drewN ?_ _ | refine blk_drew ?_ | refine blk_alloc ?_ _)); refine blk_put (cs := #[.string ((rd_T63 l0 x11_1).f0), .string ((rd_T63 l0 x11_1).f1), .slice none 0 0]) ?_ 2 _ rfl; (with_reducible repeat (first | refine blk_drewN ?_ _ | refine blk_drew ?_ | refine blk_alloc ?_ _)); refine blk_put (cs := #[.string ((rd_T63 l0 x11_1).f0), .string (⟨#[]⟩ : ByteArray), .slice none 0 0]) ?_ 1 _ rfl; (with_reducible repeat (first | refine blk_drewN ?_ _ | refine blk_drew ?_ | refine blk_alloc ?_ _)); refine blk_put (cs := #[.string (⟨#[]⟩ : ByteArray), .string (⟨#[]⟩ : ByteArray), .slice none 0 0]) ?_ 0 _ rfl; (with_reducible repeat (first | refine blk_drewN ?_ _ | refine blk_drew ?_ | refine blk_alloc ?_ _)); exact BK132.out) hb); have n1_ := Aside0.mk (below_step (by repeat (first | (with_reducible first | exact HB.out | apply below_alloc | apply pw_below_drewN | apply below_drew1 | refine below_set ?_ GE132.out) | exact HB.out)) hb); clear BK132; clear HB; have BK132 := n0_; have HB := n1_; clear n0_ n1_; (try clear hb); (try clear hb2); (try clear hk); (try clear hi)))
        go_roundg k1
        case measure => have := HK1.out; omega
        case rel => exact ⟨(wrap64 (x11_1 + 1)), (by first | rfl | (simp; done) | (simp [*]; done) | (simp [wrap64]; done)), H', ⟨by have := HK1.out; omega⟩, ⟨by repeat (first | (with_reducible first | exact HB.out | apply below_alloc | apply pw_below_drewN | apply below_drew1 | refine below_set ?_ GE132.out) | exact HB.out)⟩⟩
       ·replace c8 := Bool.eq_false_iff.mpr c8
        subst c8
        have H1 : (some false) = some r := by rw [if_neg (show ¬ (false = true) by decide)] at H; exact H
        clear H
        have H := H1
        clear H1
        obtain rfl := Option.some.inj H
        have p131 : 0 ≤ (x11_1 : Int) := of_decide_eq_true (by first | (with_reducible assumption) | assumption)
        have q131 : x11_1 < (l0.length : Int) := of_decide_eq_true (by first | (with_reducible assumption) | assumption)
        obtain ⟨ad131, A131_2, c131_2, e131, hx131_0, hx131_1, hx131_2, hl131_2, hi131_2⟩ := at_T63 HR0.out x11_1 p131 q131
        cases e131
        replace hx131_0 := (HB.out.cell (World.block_lt_of_cell? w _ hx131_0)).trans hx131_0
        replace hx131_1 := (HB.out.cell (World.block_lt_of_cell? w _ hx131_1)).trans hx131_1
        replace hx131_2 := (HB.out.cell (World.block_lt_of_cell? w _ hx131_2)).trans hx131_2
        have HR131_2 := Aside0.mk hi131_2
        have HC131_2 := Aside0.mk hl131_2
        clear hi131_2 hl131_2
        replace p131 := eq_true p131
        replace q131 := eq_true q131
        go_wp2_with (first | ((with_reducible refine gate_dst (N := 4) rfl ?_); refine box_event ?hg (N := 4) ?hd (cs := #[.string (⟨#[]⟩ : ByteArray), .string (⟨#[]⟩ : ByteArray), .slice none 0 0]) (t := 63) ?hr ?_; (case hd => rfl); (case hg => rfl); (case hr => first | (go_simp; done) | (go_simp; rfl)); intro gb132 hg w12 hbox hb; have n0_ := Aside0.mk (below_step (by repeat (first | (with_reducible first | exact HB.out | apply below_alloc | apply pw_below_drewN | apply below_drew1) | exact HB.out)) hb); have n1_ := Aside0.mk (hbox); have n2_ := Aside0.mk ((by rw [hg]; exact (below_size (by repeat (first | (with_reducible first | exact HB.out | apply below_alloc | apply pw_below_drewN | apply below_drew1) | exact HB.out))) : w.heap.size ≤ gb132)); have n3_ := Aside0.mk ((by rw [hg]; exact (below_size (by repeat (first | (with_reducible first | exact HB.out | apply below_alloc | apply pw_below_drewN | apply below_drew1) | exact HB.out))) : w.heap.size ≤ gb132)); clear HB; have HB := n0_; have BK132 := n1_; have GW132 := n2_; have GE132 := n3_; clear n0_ n1_ n2_ n3_; clear hb hbox hg; have hcz13_0 : w12.cell? ⟨gb132, 0, none⟩ = some (.string (⟨#[]⟩ : ByteArray)) := (blk_cell BK132.out 0).trans rfl; have hcz13_1 : w12.cell? ⟨gb132, 1, none⟩ = some (.string (⟨#[]⟩ : ByteArray)) := (blk_cell BK132.out 1).trans rfl; have hcz13_2 : w12.cell? ⟨gb132, 2, none⟩ = some (.slice none 0 0) := (blk_cell BK132.out 2).trans rfl; have hfz13_0 := blk_frozen BK132.out 0; have hfz13_1 := blk_frozen BK132.out 1; have hfz13_2 := blk_frozen BK132.out 2) | ((with_reducible refine gate_callee (f := 33) rfl ?_); refine goesL_ (some 16) rfl rfl Tryd.func33 (by kernel_rfl) rfl #[.agg #[.string ((rd_T63 l0 x11_1).f0), .string ((rd_T63 l0 x11_1).f1), .slice A131_2 ((rd_T63 l0 x11_1).f2).length c131_2]] rfl (by (try simp only [List.map_toArray, List.map_cons, List.map_nil]); first | done | rfl | (simp only [List.length_drop, List.length_take]; rfl)) ?_; (with_reducible refine (spec_l5GoodPart.calls k1 ((rd_T63 l0 x11_1).f0) ((rd_T63 l0 x11_1).f1) _ _ ((rd_T63 l0 x11_1).f2) false _ ?side1 ?side2 A7.out).mono ?_); (case side1 => exact Kd.C_below HR131_2.out (by repeat (first | (with_reducible first | exact HB.out | apply below_alloc | apply pw_below_drewN | apply below_drew1 | refine below_set ?_ GE132.out) | exact HB.out))); (case side2 => exact HC131_2.out); rintro e w14 ⟨rfl, hb⟩; refine ⟨_, rfl, ?_⟩; have n0_ := Aside0.mk (blk_below (g := gb132) (o := .cells #[.string ((rd_T63 l0 x11_1).f0), .string ((rd_T63 l0 x11_1).f1), .slice A131_2 ((rd_T63 l0 x11_1).f2).length c131_2] 63 (0, 0)) (by (with_reducible repeat (first | refine blk_drewN ?_ _ | refine blk_drew ?_ | refine blk_alloc ?_ _)); refine blk_put (cs := #[.string ((rd_T63 l0 x11_1).f0), .string ((rd_T63 l0 x11_1).f1), .slice none 0 0]) ?_ 2 _ rfl; (with_reducible repeat (first | refine blk_drewN ?_ _ | refine blk_drew ?_ | refine blk_alloc ?_ _)); refine blk_put (cs := #[.string ((rd_T63 l0 x11_1).f0), .string (⟨#[]⟩ : ByteArray), .slice none 0 0]) ?_ 1 _ rfl; (with_reducible repeat (first | refine blk_drewN ?_ _ | refine blk_drew ?_ | refine blk_alloc ?_ _)); refine blk_put (cs := #[.string (⟨#[]⟩ : ByteArray), .string (⟨#[]⟩ : ByteArray), .slice none 0 0]) ?_ 0 _ rfl; (with_reducible repeat (first | refine blk_drewN ?_ _ | refine blk_drew ?_ | refine blk_alloc ?_ _)); exact BK132.out) hb); have n1_ := Aside0.mk (below_step (by repeat (first | (with_reducible first | exact HB.out | apply below_alloc | apply pw_below_drewN | apply below_drew1 | refine below_set ?_ GE132.out) | exact HB.out)) hb); clear BK132; clear HB; have BK132 := n0_; have HB := n1_; clear n0_ n1_; (try clear hb); (try clear hb2); (try clear hk); (try clear hi)))
        go_ret
        exact ⟨by first | rfl | (simp [errW_none, errW_some] <;> rfl) | (simp [*, errW_none, errW_some] <;> rfl), by repeat (first | (with_reducible first | exact HB.out | apply below_alloc | apply pw_below_drewN | apply below_drew1 | refine below_set ?_ GE132.out) | exact HB.out)⟩
      ·rw [if_neg c6] at H
       exact absurd H (by simp)
     ·rw [if_neg c5] at H
      exact absurd H (by simp)
    ·rw [if_neg c4] at H
     have c4b0 : decide (x11_1 < (l0.length : Int)) = false := decide_eq_false c4
     clear c4
     obtain rfl := Option.some.inj H
     go_wp2
     go_ret
     exact ⟨by first | rfl | (simp [errW_none, errW_some] <;> rfl) | (simp [*, errW_none, errW_some] <;> rfl), by repeat (first | (with_reducible first | exact HB.out | apply below_alloc | apply pw_below_drewN | apply below_drew1) | exact HB.out)⟩
 ·replace c3 := Bool.eq_false_iff.mpr c3
  subst c3
  have H1 : (some false) = some r := by rw [if_neg (show ¬ (false = true) by decide)] at H; exact H
  clear H
  have H := H1
  clear H1
  obtain rfl := Option.some.inj H
  go_enter Tryd.func16, Tryd.ntmps16
  go_wp2_with (first | ((with_reducible refine gate_callee (f := 32) rfl ?_); refine goesL_ (some 7) rfl rfl Tryd.func32 (by kernel_rfl) rfl #[.int .i64 (l0.length : Int), .int .i64 1, .int .i64 5] rfl (by (try simp only [List.map_toArray, List.map_cons, List.map_nil]); first | done | rfl | (simp only [List.length_drop, List.length_take]; rfl)) ?_; (with_reducible refine (spec_l1In.calls (l0.length : Int) 1 5 false _ A2.out).mono ?_); rintro e w' ⟨rfl, ⟨nd, rfl⟩⟩; refine ⟨_, rfl, ?_⟩))
  go_ret
  exact ⟨by first | rfl | (simp [errW_none, errW_some] <;> rfl) | (simp [*, errW_none, errW_some] <;> rfl), by repeat (first | (with_reducible first | exact HB.out | apply below_alloc | apply pw_below_drewN | apply below_drew1) | exact HB.out)⟩

end Go.Proofs.YtganmdnieihpeaaDoor.PFnExactSheetText
