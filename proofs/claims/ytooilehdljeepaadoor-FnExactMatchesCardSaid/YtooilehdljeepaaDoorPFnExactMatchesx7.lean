-- Laid by a program of this session out of the translation (its own run of the print). Lean checks it.
import Derived.Test.YtooilehdljeepaaDoorPFnExactMatchesx0
import Derived.Test.YtooilehdljeepaaDoorPFnExactMatchesx1
import Derived.Test.YtooilehdljeepaaDoorPFnExactMatchesx6
namespace Go.Proofs.YtooilehdljeepaaDoor.PFnExactMatches
open Go.RowKit Go.Proofs.YtooilehdljeepaaDoorW.PrintWords Go.Proofs.YtooilehdljeepaaDoorW.PrintLast Go.Proofs.YtooilehdljeepaaDoorW.PrintMore
attribute [local go_sem] max2_int min2_int max_two min_two max_three min_three max_four min_four   -- for this text's walks alone
set_option linter.unusedVariables false
set_option linter.unusedSimpArgs false

/-! ### spec_l5GoodPart: function 79 -/
mutual
def spec_l5GoodPart.j0 : Nat → Bool → ByteArray → ByteArray → List ByteArray → Option (Bool)
 | 0, _, _, _, _ => none
 | k + 1, x35, x158000, x158001, x158002 => if x35 = true then (some false) else (spec_l5GoodPart.l0 k x158002 (x158002.length : Int) 0 x158000 x158001 x158002)
def spec_l5GoodPart.l0 : Nat → List ByteArray → Int → Int → ByteArray → ByteArray → List ByteArray → Option (Bool)
 | 0, _, _, _, _, _, _ => none
 | k + 1, x37, x38, x39, x158000, x158001, x158002 => if x39 < x38 then (if 0 ≤ x39 then (if x39 < (x37.length : Int) then ((spec_l5Word.f k (rdOf ByteArray.empty x37 x39)).bind fun t163 => (if t163 = true then (spec_l5GoodPart.l0 k x37 x38 (wrap64 (x39 + 1)) x158000 x158001 x158002) else (some false))) else (none)) else (none)) else (if x158000.toList = ([] : List UInt8) then (if x158001.toList = ([] : List UInt8) then (some (decide ((x158002.length : Int) > 0))) else (some true)) else (some true))
end
def spec_l5GoodPart.f (k : Nat) (a0_0 : ByteArray) (a0_1 : ByteArray) (l0_2 : List ByteArray) : Option (Bool) := if a0_0.toList = ([] : List UInt8) then (if a0_1.toList = ([] : List UInt8) then (spec_l5GoodPart.j0 k (decide ((l0_2.length : Int) > 4)) a0_0 a0_1 l0_2) else ((spec_l5Word.f k a0_1).bind fun t158 => (if t158 = true then (spec_l5GoodPart.j0 k (decide ((l0_2.length : Int) > 4)) a0_0 a0_1 l0_2) else (spec_l5GoodPart.j0 k true a0_0 a0_1 l0_2)))) else (if a0_0.toList = ([42] : List UInt8) then (if a0_1.toList = ([] : List UInt8) then (spec_l5GoodPart.j0 k (decide ((l0_2.length : Int) > 4)) a0_0 a0_1 l0_2) else ((spec_l5Word.f k a0_1).bind fun t159 => (if t159 = true then (spec_l5GoodPart.j0 k (decide ((l0_2.length : Int) > 4)) a0_0 a0_1 l0_2) else (spec_l5GoodPart.j0 k true a0_0 a0_1 l0_2)))) else ((spec_l5Word.f k a0_0).bind fun t160 => (if t160 = true then (if a0_1.toList = ([] : List UInt8) then (spec_l5GoodPart.j0 k (decide ((l0_2.length : Int) > 4)) a0_0 a0_1 l0_2) else ((spec_l5Word.f k a0_1).bind fun t161 => (if t161 = true then (spec_l5GoodPart.j0 k (decide ((l0_2.length : Int) > 4)) a0_0 a0_1 l0_2) else (spec_l5GoodPart.j0 k true a0_0 a0_1 l0_2)))) else (spec_l5GoodPart.j0 k true a0_0 a0_1 l0_2))))
set_option maxHeartbeats 8000000 in
set_option maxRecDepth 100000 in
theorem spec_l5GoodPart.calls (k : Nat) (a0_0 : ByteArray) (a0_1 : ByteArray) (A0_2 : Option Addr) (c0_2 : Nat) (l0_2 : List ByteArray) (r : Bool) (w : World) (hr0_2 : Kd.C Kd.string w A0_2 l0_2.length l0_2) (hc0_2 : l0_2.length ≤ c0_2) (h : spec_l5GoodPart.f k a0_0 a0_1 l0_2 = some r) :
  Calls Tryd.prog 79 #[.agg #[.string a0_0, .string a0_1, .slice A0_2 l0_2.length c0_2]] w fun e w' => e = .returned (.bool r) ∧ Below w.heap.size w w' := by
 have hu71 := Tryd.underlying71
 have HR0_2 := Aside0.mk hr0_2
 have HC0_2 := Aside0.mk hc0_2
 clear hr0_2 hc0_2
 have HB := Aside0.mk (Below.refl w.heap.size w)
 have H : (if a0_0.toList = ([] : List UInt8) then (if a0_1.toList = ([] : List UInt8) then (spec_l5GoodPart.j0 k (decide ((l0_2.length : Int) > 4)) a0_0 a0_1 l0_2) else ((spec_l5Word.f k a0_1).bind fun t158 => (if t158 = true then (spec_l5GoodPart.j0 k (decide ((l0_2.length : Int) > 4)) a0_0 a0_1 l0_2) else (spec_l5GoodPart.j0 k true a0_0 a0_1 l0_2)))) else (if a0_0.toList = ([42] : List UInt8) then (if a0_1.toList = ([] : List UInt8) then (spec_l5GoodPart.j0 k (decide ((l0_2.length : Int) > 4)) a0_0 a0_1 l0_2) else ((spec_l5Word.f k a0_1).bind fun t159 => (if t159 = true then (spec_l5GoodPart.j0 k (decide ((l0_2.length : Int) > 4)) a0_0 a0_1 l0_2) else (spec_l5GoodPart.j0 k true a0_0 a0_1 l0_2)))) else ((spec_l5Word.f k a0_0).bind fun t160 => (if t160 = true then (if a0_1.toList = ([] : List UInt8) then (spec_l5GoodPart.j0 k (decide ((l0_2.length : Int) > 4)) a0_0 a0_1 l0_2) else ((spec_l5Word.f k a0_1).bind fun t161 => (if t161 = true then (spec_l5GoodPart.j0 k (decide ((l0_2.length : Int) > 4)) a0_0 a0_1 l0_2) else (spec_l5GoodPart.j0 k true a0_0 a0_1 l0_2)))) else (spec_l5GoodPart.j0 k true a0_0 a0_1 l0_2))))) = some r := h
 clear h
 have HC2 := Aside0.mk H
 clear H
 go_enter Tryd.func79, Tryd.ntmps79
 go_upto_region 1 with (first | ((with_reducible refine gate_dst (N := 1) rfl ?_); (try (refine gate_guard (by rfl) ?_; dsimp only)); refine box_event ?hg (N := 1) ?hd (cs := #[.string a0_0, .string a0_1, .slice A0_2 l0_2.length c0_2]) (t := 71) ?hr ?_; (case hd => rfl); (case hg => rfl); (case hr => first | (go_simp; done) | (go_simp; rfl)); intro gb157 hg w3 hbox hb; have n0_ := Aside0.mk (below_step bel_ hb); have n1_ := Aside0.mk (hbox); have n2_ := Aside0.mk ((by rw [hg]; exact (below_size bel_) : w.heap.size ≤ gb157)); have n3_ := Aside0.mk ((by rw [hg]; exact (below_size bel_) : w.heap.size ≤ gb157)); clear HB; have HB := n0_; have BK157 := n1_; have GW157 := n2_; have GE157 := n3_; clear n0_ n1_ n2_ n3_; clear hb hbox hg))
 (try simp only [Act.put, List.setIfInBounds_toArray, List.set_cons_zero, List.set_cons_succ])
 go_cut [35] (fun v35 wc => ∃ (kq : Nat) (x35_1 : Bool), v35 = .bool x35_1 ∧ Aside0 (spec_l5GoodPart.j0 kq x35_1 a0_0 a0_1 l0_2 = some r) ∧ Aside0 (kq ≤ k) ∧ Aside0 (wc.heap[gb157]? = some (.cells #[.string a0_0, .string a0_1, (.slice A0_2 l0_2.length c0_2)] 71 (0, 0))) ∧ Aside0 (Below w.heap.size w wc))
 case first =>
  have H := HC2.out
  clear HC2
  by_cases c4 : a0_0.toList = ([] : List UInt8)
  ·rw [if_pos c4] at H
   have c4b0 : (a0_0.toList == ([] : List UInt8)) = true := beq_iff_eq.mpr c4
   have c4b7 : a0_0.toList.isEmpty = true := by rw [beq_iff_eq.mp c4b0]; rfl
   have c4b8 : ¬ (a0_0.toList.isEmpty = false) := fun h_ => by have h9_ := beq_iff_eq.mp c4b0; rw [h9_] at h_; cases h_
   have c4b1 : (a0_0.toList != ([] : List UInt8)) = false := bne_eq_false_iff_eq.mpr c4
   clear c4
   (first | rw [c4b0] | simp only [c4b7, Bool.not_true, Bool.not_false] | (simp only [i64_w, i32_w]; rw [c4b0]) | skip)
   by_cases c5 : a0_1.toList = ([] : List UInt8)
   ·rw [if_pos c5] at H
    have c5b0 : (a0_1.toList == ([] : List UInt8)) = true := beq_iff_eq.mpr c5
    have c5b7 : a0_1.toList.isEmpty = true := by rw [beq_iff_eq.mp c5b0]; rfl
    have c5b8 : ¬ (a0_1.toList.isEmpty = false) := fun h_ => by have h9_ := beq_iff_eq.mp c5b0; rw [h9_] at h_; cases h_
    have c5b1 : (a0_1.toList != ([] : List UInt8)) = false := bne_eq_false_iff_eq.mpr c5
    clear c5
    have H' := Aside0.mk H
    clear H
    have hcz6_0 := bc3_0 BK157.out
    have hcz6_1 := bc3_1 BK157.out
    have hcz6_2 := bc3_2 BK157.out
    have hfz6_0 := blk_frozen BK157.out 0
    have hfz6_1 := blk_frozen BK157.out 1
    have hfz6_2 := blk_frozen BK157.out 2
    go_wp2
    go_meet
    case rel => exact ⟨_, (decide ((l0_2.length : Int) > 4)), sv_, H', ⟨by first | omega | exact Nat.le_refl _⟩, ⟨by (with_reducible repeat (first | refine blk_drewN ?_ _ | refine blk_drew ?_ | refine blk_alloc ?_ _)); exact BK157.out⟩, ⟨bes_⟩⟩
   ·rw [if_neg c5] at H
    have c5b0 : (a0_1.toList == ([] : List UInt8)) = false := beq_eq_false_iff_ne.mpr c5
    have c5b7 : a0_1.toList.isEmpty = false := Bool.eq_false_iff.mpr (fun h_ => absurd (List.isEmpty_iff.mp h_) (beq_eq_false_iff_ne.mp c5b0))
    have c5b8 : ¬ (a0_1.toList.isEmpty = true) := fun h_ => absurd (List.isEmpty_iff.mp h_) (beq_eq_false_iff_ne.mp c5b0)
    have c5b1 : (a0_1.toList != ([] : List UInt8)) = true := bne_iff_ne.mpr c5
    replace H := Option.bind_eq_some_iff.mp H
    obtain ⟨t158, A70, H⟩ := H
    replace H : (if t158 = true then (spec_l5GoodPart.j0 k (decide ((l0_2.length : Int) > 4)) a0_0 a0_1 l0_2) else (spec_l5GoodPart.j0 k true a0_0 a0_1 l0_2)) = some r := H
    have A7 := Aside0.mk A70
    clear A70
    by_cases c8 : t158 = true
    ·subst c8
     have H1 : (spec_l5GoodPart.j0 k (decide ((l0_2.length : Int) > 4)) a0_0 a0_1 l0_2) = some r := by rw [if_pos rfl] at H; exact H
     clear H
     have H := H1
     clear H1
     have H' := Aside0.mk H
     clear H
     have hcz9_0 := bc3_0 BK157.out
     have hcz9_1 := bc3_1 BK157.out
     have hcz9_2 := bc3_2 BK157.out
     have hfz9_0 := blk_frozen BK157.out 0
     have hfz9_1 := blk_frozen BK157.out 1
     have hfz9_2 := blk_frozen BK157.out 2
     go_wp2_with (first | (go_at_call 132; (with_reducible refine (spec_l5Word.calls k a0_1 true _ A7.out).mono ?_); rintro e w' ⟨rfl, ⟨nd, rfl⟩⟩))
     go_meet
     case rel => exact ⟨_, (decide ((l0_2.length : Int) > 4)), sv_, H', ⟨by first | omega | exact Nat.le_refl _⟩, ⟨by (with_reducible repeat (first | refine blk_drewN ?_ _ | refine blk_drew ?_ | refine blk_alloc ?_ _)); exact BK157.out⟩, ⟨bes_⟩⟩
    ·replace c8 := Bool.eq_false_iff.mpr c8
     subst c8
     have H1 : (spec_l5GoodPart.j0 k true a0_0 a0_1 l0_2) = some r := by rw [if_neg (show ¬ (false = true) by decide)] at H; exact H
     clear H
     have H := H1
     clear H1
     have H' := Aside0.mk H
     clear H
     have hcz10_0 := bc3_0 BK157.out
     have hcz10_1 := bc3_1 BK157.out
     have hcz10_2 := bc3_2 BK157.out
     have hfz10_0 := blk_frozen BK157.out 0
     have hfz10_1 := blk_frozen BK157.out 1
     have hfz10_2 := blk_frozen BK157.out 2
     go_wp2_with (first | (go_at_call 132; (with_reducible refine (spec_l5Word.calls k a0_1 false _ A7.out).mono ?_); rintro e w' ⟨rfl, ⟨nd, rfl⟩⟩))
     go_meet
     case rel => exact ⟨_, (true), sv_, H', ⟨by first | omega | exact Nat.le_refl _⟩, ⟨by (with_reducible repeat (first | refine blk_drewN ?_ _ | refine blk_drew ?_ | refine blk_alloc ?_ _)); exact BK157.out⟩, ⟨bes_⟩⟩
  ·rw [if_neg c4] at H
   have c4b0 : (a0_0.toList == ([] : List UInt8)) = false := beq_eq_false_iff_ne.mpr c4
   have c4b7 : a0_0.toList.isEmpty = false := Bool.eq_false_iff.mpr (fun h_ => absurd (List.isEmpty_iff.mp h_) (beq_eq_false_iff_ne.mp c4b0))
   have c4b8 : ¬ (a0_0.toList.isEmpty = true) := fun h_ => absurd (List.isEmpty_iff.mp h_) (beq_eq_false_iff_ne.mp c4b0)
   have c4b1 : (a0_0.toList != ([] : List UInt8)) = true := bne_iff_ne.mpr c4
   (first | rw [c4b0] | simp only [c4b7, Bool.not_true, Bool.not_false] | (simp only [i64_w, i32_w]; rw [c4b0]) | skip)
   by_cases c11 : a0_0.toList = ([42] : List UInt8)
   ·rw [if_pos c11] at H
    have c11b0 : (a0_0.toList == ([42] : List UInt8)) = true := beq_iff_eq.mpr c11
    have c11b1 : (a0_0.toList != ([42] : List UInt8)) = false := bne_eq_false_iff_eq.mpr c11
    clear c11
    by_cases c12 : a0_1.toList = ([] : List UInt8)
    ·rw [if_pos c12] at H
     have c12b0 : (a0_1.toList == ([] : List UInt8)) = true := beq_iff_eq.mpr c12
     have c12b7 : a0_1.toList.isEmpty = true := by rw [beq_iff_eq.mp c12b0]; rfl
     have c12b8 : ¬ (a0_1.toList.isEmpty = false) := fun h_ => by have h9_ := beq_iff_eq.mp c12b0; rw [h9_] at h_; cases h_
     have c12b1 : (a0_1.toList != ([] : List UInt8)) = false := bne_eq_false_iff_eq.mpr c12
     clear c12
     have H' := Aside0.mk H
     clear H
     have hcz13_0 := bc3_0 BK157.out
     have hcz13_1 := bc3_1 BK157.out
     have hcz13_2 := bc3_2 BK157.out
     have hfz13_0 := blk_frozen BK157.out 0
     have hfz13_1 := blk_frozen BK157.out 1
     have hfz13_2 := blk_frozen BK157.out 2
     go_wp2
     go_meet
     case rel => exact ⟨_, (decide ((l0_2.length : Int) > 4)), sv_, H', ⟨by first | omega | exact Nat.le_refl _⟩, ⟨by (with_reducible repeat (first | refine blk_drewN ?_ _ | refine blk_drew ?_ | refine blk_alloc ?_ _)); exact BK157.out⟩, ⟨bes_⟩⟩
    ·rw [if_neg c12] at H
     have c12b0 : (a0_1.toList == ([] : List UInt8)) = false := beq_eq_false_iff_ne.mpr c12
     have c12b7 : a0_1.toList.isEmpty = false := Bool.eq_false_iff.mpr (fun h_ => absurd (List.isEmpty_iff.mp h_) (beq_eq_false_iff_ne.mp c12b0))
     have c12b8 : ¬ (a0_1.toList.isEmpty = true) := fun h_ => absurd (List.isEmpty_iff.mp h_) (beq_eq_false_iff_ne.mp c12b0)
     have c12b1 : (a0_1.toList != ([] : List UInt8)) = true := bne_iff_ne.mpr c12
     replace H := Option.bind_eq_some_iff.mp H
     obtain ⟨t159, A140, H⟩ := H
     replace H : (if t159 = true then (spec_l5GoodPart.j0 k (decide ((l0_2.length : Int) > 4)) a0_0 a0_1 l0_2) else (spec_l5GoodPart.j0 k true a0_0 a0_1 l0_2)) = some r := H
     have A14 := Aside0.mk A140
     clear A140
     by_cases c15 : t159 = true
     ·subst c15
      have H1 : (spec_l5GoodPart.j0 k (decide ((l0_2.length : Int) > 4)) a0_0 a0_1 l0_2) = some r := by rw [if_pos rfl] at H; exact H
      clear H
      have H := H1
      clear H1
      have H' := Aside0.mk H
      clear H
      have hcz16_0 := bc3_0 BK157.out
      have hcz16_1 := bc3_1 BK157.out
      have hcz16_2 := bc3_2 BK157.out
      have hfz16_0 := blk_frozen BK157.out 0
      have hfz16_1 := blk_frozen BK157.out 1
      have hfz16_2 := blk_frozen BK157.out 2
      go_wp2_with (first | (go_at_call 132; (with_reducible refine (spec_l5Word.calls k a0_1 true _ A14.out).mono ?_); rintro e w' ⟨rfl, ⟨nd, rfl⟩⟩))
      go_meet
      case rel => exact ⟨_, (decide ((l0_2.length : Int) > 4)), sv_, H', ⟨by first | omega | exact Nat.le_refl _⟩, ⟨by (with_reducible repeat (first | refine blk_drewN ?_ _ | refine blk_drew ?_ | refine blk_alloc ?_ _)); exact BK157.out⟩, ⟨bes_⟩⟩
     ·replace c15 := Bool.eq_false_iff.mpr c15
      subst c15
      have H1 : (spec_l5GoodPart.j0 k true a0_0 a0_1 l0_2) = some r := by rw [if_neg (show ¬ (false = true) by decide)] at H; exact H
      clear H
      have H := H1
      clear H1
      have H' := Aside0.mk H
      clear H
      have hcz17_0 := bc3_0 BK157.out
      have hcz17_1 := bc3_1 BK157.out
      have hcz17_2 := bc3_2 BK157.out
      have hfz17_0 := blk_frozen BK157.out 0
      have hfz17_1 := blk_frozen BK157.out 1
      have hfz17_2 := blk_frozen BK157.out 2
      go_wp2_with (first | (go_at_call 132; (with_reducible refine (spec_l5Word.calls k a0_1 false _ A14.out).mono ?_); rintro e w' ⟨rfl, ⟨nd, rfl⟩⟩))
      go_meet
      case rel => exact ⟨_, (true), sv_, H', ⟨by first | omega | exact Nat.le_refl _⟩, ⟨by (with_reducible repeat (first | refine blk_drewN ?_ _ | refine blk_drew ?_ | refine blk_alloc ?_ _)); exact BK157.out⟩, ⟨bes_⟩⟩
   ·rw [if_neg c11] at H
    have c11b0 : (a0_0.toList == ([42] : List UInt8)) = false := beq_eq_false_iff_ne.mpr c11
    have c11b1 : (a0_0.toList != ([42] : List UInt8)) = true := bne_iff_ne.mpr c11
    replace H := Option.bind_eq_some_iff.mp H
    obtain ⟨t160, A180, H⟩ := H
    replace H : (if t160 = true then (if a0_1.toList = ([] : List UInt8) then (spec_l5GoodPart.j0 k (decide ((l0_2.length : Int) > 4)) a0_0 a0_1 l0_2) else ((spec_l5Word.f k a0_1).bind fun t161 => (if t161 = true then (spec_l5GoodPart.j0 k (decide ((l0_2.length : Int) > 4)) a0_0 a0_1 l0_2) else (spec_l5GoodPart.j0 k true a0_0 a0_1 l0_2)))) else (spec_l5GoodPart.j0 k true a0_0 a0_1 l0_2)) = some r := H
    have A18 := Aside0.mk A180
    clear A180
    by_cases c19 : t160 = true
    ·subst c19
     have H1 : (if a0_1.toList = ([] : List UInt8) then (spec_l5GoodPart.j0 k (decide ((l0_2.length : Int) > 4)) a0_0 a0_1 l0_2) else ((spec_l5Word.f k a0_1).bind fun t161 => (if t161 = true then (spec_l5GoodPart.j0 k (decide ((l0_2.length : Int) > 4)) a0_0 a0_1 l0_2) else (spec_l5GoodPart.j0 k true a0_0 a0_1 l0_2)))) = some r := by rw [if_pos rfl] at H; exact H
     clear H
     have H := H1
     clear H1
     by_cases c20 : a0_1.toList = ([] : List UInt8)
     ·rw [if_pos c20] at H
      have c20b0 : (a0_1.toList == ([] : List UInt8)) = true := beq_iff_eq.mpr c20
      have c20b7 : a0_1.toList.isEmpty = true := by rw [beq_iff_eq.mp c20b0]; rfl
      have c20b8 : ¬ (a0_1.toList.isEmpty = false) := fun h_ => by have h9_ := beq_iff_eq.mp c20b0; rw [h9_] at h_; cases h_
      have c20b1 : (a0_1.toList != ([] : List UInt8)) = false := bne_eq_false_iff_eq.mpr c20
      clear c20
      have H' := Aside0.mk H
      clear H
      have hcz21_0 := bc3_0 BK157.out
      have hcz21_1 := bc3_1 BK157.out
      have hcz21_2 := bc3_2 BK157.out
      have hfz21_0 := blk_frozen BK157.out 0
      have hfz21_1 := blk_frozen BK157.out 1
      have hfz21_2 := blk_frozen BK157.out 2
      go_wp2_with (first | (go_at_call 132; (with_reducible refine (spec_l5Word.calls k a0_0 true _ A18.out).mono ?_); rintro e w' ⟨rfl, ⟨nd, rfl⟩⟩))
      go_meet
      case rel => exact ⟨_, (decide ((l0_2.length : Int) > 4)), sv_, H', ⟨by first | omega | exact Nat.le_refl _⟩, ⟨by (with_reducible repeat (first | refine blk_drewN ?_ _ | refine blk_drew ?_ | refine blk_alloc ?_ _)); exact BK157.out⟩, ⟨bes_⟩⟩
     ·rw [if_neg c20] at H
      have c20b0 : (a0_1.toList == ([] : List UInt8)) = false := beq_eq_false_iff_ne.mpr c20
      have c20b7 : a0_1.toList.isEmpty = false := Bool.eq_false_iff.mpr (fun h_ => absurd (List.isEmpty_iff.mp h_) (beq_eq_false_iff_ne.mp c20b0))
      have c20b8 : ¬ (a0_1.toList.isEmpty = true) := fun h_ => absurd (List.isEmpty_iff.mp h_) (beq_eq_false_iff_ne.mp c20b0)
      have c20b1 : (a0_1.toList != ([] : List UInt8)) = true := bne_iff_ne.mpr c20
      replace H := Option.bind_eq_some_iff.mp H
      obtain ⟨t161, A220, H⟩ := H
      replace H : (if t161 = true then (spec_l5GoodPart.j0 k (decide ((l0_2.length : Int) > 4)) a0_0 a0_1 l0_2) else (spec_l5GoodPart.j0 k true a0_0 a0_1 l0_2)) = some r := H
      have A22 := Aside0.mk A220
      clear A220
      by_cases c23 : t161 = true
      ·subst c23
       have H1 : (spec_l5GoodPart.j0 k (decide ((l0_2.length : Int) > 4)) a0_0 a0_1 l0_2) = some r := by rw [if_pos rfl] at H; exact H
       clear H
       have H := H1
       clear H1
       have H' := Aside0.mk H
       clear H
       have hcz24_0 := bc3_0 BK157.out
       have hcz24_1 := bc3_1 BK157.out
       have hcz24_2 := bc3_2 BK157.out
       have hfz24_0 := blk_frozen BK157.out 0
       have hfz24_1 := blk_frozen BK157.out 1
       have hfz24_2 := blk_frozen BK157.out 2
       go_wp2_with (first | (go_at_call 132; (with_reducible refine (spec_l5Word.calls k a0_0 true _ A18.out).mono ?_); rintro e w' ⟨rfl, ⟨nd, rfl⟩⟩) | (go_at_call 132; (with_reducible refine (spec_l5Word.calls k a0_1 true _ A22.out).mono ?_); rintro e w' ⟨rfl, ⟨nd, rfl⟩⟩))
       go_meet
       case rel => exact ⟨_, (decide ((l0_2.length : Int) > 4)), sv_, H', ⟨by first | omega | exact Nat.le_refl _⟩, ⟨by (with_reducible repeat (first | refine blk_drewN ?_ _ | refine blk_drew ?_ | refine blk_alloc ?_ _)); exact BK157.out⟩, ⟨bes_⟩⟩
      ·replace c23 := Bool.eq_false_iff.mpr c23
       subst c23
       have H1 : (spec_l5GoodPart.j0 k true a0_0 a0_1 l0_2) = some r := by rw [if_neg (show ¬ (false = true) by decide)] at H; exact H
       clear H
       have H := H1
       clear H1
       have H' := Aside0.mk H
       clear H
       have hcz25_0 := bc3_0 BK157.out
       have hcz25_1 := bc3_1 BK157.out
       have hcz25_2 := bc3_2 BK157.out
       have hfz25_0 := blk_frozen BK157.out 0
       have hfz25_1 := blk_frozen BK157.out 1
       have hfz25_2 := blk_frozen BK157.out 2
       go_wp2_with (first | (go_at_call 132; (with_reducible refine (spec_l5Word.calls k a0_0 true _ A18.out).mono ?_); rintro e w' ⟨rfl, ⟨nd, rfl⟩⟩) | (go_at_call 132; (with_reducible refine (spec_l5Word.calls k a0_1 false _ A22.out).mono ?_); rintro e w' ⟨rfl, ⟨nd, rfl⟩⟩))
       go_meet
       case rel => exact ⟨_, (true), sv_, H', ⟨by first | omega | exact Nat.le_refl _⟩, ⟨by (with_reducible repeat (first | refine blk_drewN ?_ _ | refine blk_drew ?_ | refine blk_alloc ?_ _)); exact BK157.out⟩, ⟨bes_⟩⟩
    ·replace c19 := Bool.eq_false_iff.mpr c19
     subst c19
     have H1 : (spec_l5GoodPart.j0 k true a0_0 a0_1 l0_2) = some r := by rw [if_neg (show ¬ (false = true) by decide)] at H; exact H
     clear H
     have H := H1
     clear H1
     have H' := Aside0.mk H
     clear H
     have hcz26_0 := bc3_0 BK157.out
     have hcz26_1 := bc3_1 BK157.out
     have hcz26_2 := bc3_2 BK157.out
     have hfz26_0 := blk_frozen BK157.out 0
     have hfz26_1 := blk_frozen BK157.out 1
     have hfz26_2 := blk_frozen BK157.out 2
     go_wp2_with (first | (go_at_call 132; (with_reducible refine (spec_l5Word.calls k a0_0 false _ A18.out).mono ?_); rintro e w' ⟨rfl, ⟨nd, rfl⟩⟩))
     go_meet
     case rel => exact ⟨_, (true), sv_, H', ⟨by first | omega | exact Nat.le_refl _⟩, ⟨by (with_reducible repeat (first | refine blk_drewN ?_ _ | refine blk_drew ?_ | refine blk_alloc ?_ _)); exact BK157.out⟩, ⟨bes_⟩⟩
 case rest =>
  clear HC2
  (try clear c1);(try clear c2);(try clear p2);(try clear c4);(try clear c4b0 c4b1);(try clear c5);(try clear c5b0 c5b1);(try clear c7);(try clear c8);(try clear c11);(try clear c11b0 c11b1);(try clear c12);(try clear c12b0 c12b1);(try clear c15);(try clear c19);(try clear c20);(try clear c20b0 c20b1);(try clear c23);(try clear hcz10_0 hcz10_1 hcz10_2);(try clear hcz13_0 hcz13_1 hcz13_2);(try clear hcz16_0 hcz16_1 hcz16_2);(try clear hcz17_0 hcz17_1 hcz17_2);(try clear hcz21_0 hcz21_1 hcz21_2);(try clear hcz24_0 hcz24_1 hcz24_2);(try clear hcz25_0 hcz25_1 hcz25_2);(try clear hcz26_0 hcz26_1 hcz26_2);(try clear hcz6_0 hcz6_1 hcz6_2)
  (try clear hcz9_0 hcz9_1 hcz9_2);(try clear hfz10_0 hfz10_1 hfz10_2);(try clear hfz13_0 hfz13_1 hfz13_2);(try clear hfz16_0 hfz16_1 hfz16_2);(try clear hfz17_0 hfz17_1 hfz17_2);(try clear hfz21_0 hfz21_1 hfz21_2);(try clear hfz24_0 hfz24_1 hfz24_2);(try clear hfz25_0 hfz25_1 hfz25_2);(try clear hfz26_0 hfz26_1 hfz26_2);(try clear hfz6_0 hfz6_1 hfz6_2);(try clear hfz9_0 hfz9_1 hfz9_2)
  obtain ⟨kq, x35_1, rfl, HA, HJ1, BK157, HB⟩ := hcut
  cases kq with
  | zero => exact absurd HA.out (by simp [spec_l5GoodPart.j0])
  | succ kj1 =>
   have H := HA.out
   clear HA
   simp only [spec_l5GoodPart.j0] at H
   by_cases c27 : x35_1 = true
   ·subst c27
    have H1 : (some false) = some r := by rw [if_pos rfl] at H; exact H
    clear H
    have H := H1
    clear H1
    obtain rfl := Option.some.inj H
    go_wp2
    go_ret
    exact ⟨er_, bes_⟩
   ·replace c27 := Bool.eq_false_iff.mpr c27
    subst c27
    have H1 : (spec_l5GoodPart.l0 kj1 l0_2 (l0_2.length : Int) 0 a0_0 a0_1 l0_2) = some r := by rw [if_neg (show ¬ (false = true) by decide)] at H; exact H
    clear H
    have H := H1
    clear H1
    have H' := Aside0.mk H
    clear H
    have hcz28_0 := bc3_0 BK157.out
    have hcz28_1 := bc3_1 BK157.out
    have hcz28_2 := bc3_2 BK157.out
    have hfz28_0 := blk_frozen BK157.out 0
    have hfz28_1 := blk_frozen BK157.out 1
    have hfz28_2 := blk_frozen BK157.out 2
    go_wp2
    go_loopg [39] kj1 (fun kq v39 w' => ∃ (x39_2 : Int), v39 = .int .i64 x39_2 ∧ Aside0 (spec_l5GoodPart.l0 kq l0_2 (l0_2.length : Int) x39_2 a0_0 a0_1 l0_2 = some r) ∧ Aside0 (kq ≤ kj1) ∧ Aside0 (w'.heap[gb157]? = some (.cells #[.string a0_0, .string a0_1, (.slice A0_2 l0_2.length c0_2)] 71 (0, 0))) ∧ Aside0 (Below w.heap.size w w'))
    case atStart => exact ⟨(0), sv_, H', ⟨Nat.le_refl _⟩, ⟨by (with_reducible repeat (first | refine blk_drewN ?_ _ | refine blk_drew ?_ | refine blk_alloc ?_ _)); exact BK157.out⟩, ⟨bes_⟩⟩
    case round =>
     clear H'
     (try clear c1);(try clear c2);(try clear p2);(try clear c4);(try clear c4b0 c4b1);(try clear c5);(try clear c5b0 c5b1);(try clear c7);(try clear c8);(try clear c11);(try clear c11b0 c11b1);(try clear c12);(try clear c12b0 c12b1);(try clear c15);(try clear c19);(try clear c20);(try clear c20b0 c20b1);(try clear c23);(try clear c27);(try clear hcz10_0 hcz10_1 hcz10_2);(try clear hcz13_0 hcz13_1 hcz13_2);(try clear hcz16_0 hcz16_1 hcz16_2);(try clear hcz17_0 hcz17_1 hcz17_2);(try clear hcz21_0 hcz21_1 hcz21_2);(try clear hcz24_0 hcz24_1 hcz24_2);(try clear hcz25_0 hcz25_1 hcz25_2);(try clear hcz26_0 hcz26_1 hcz26_2);(try clear hcz28_0 hcz28_1)
     (try clear hcz28_2);(try clear hcz6_0 hcz6_1 hcz6_2);(try clear hcz9_0 hcz9_1 hcz9_2);(try clear hfz10_0 hfz10_1 hfz10_2);(try clear hfz13_0 hfz13_1 hfz13_2);(try clear hfz16_0 hfz16_1 hfz16_2);(try clear hfz17_0 hfz17_1 hfz17_2);(try clear hfz21_0 hfz21_1 hfz21_2);(try clear hfz24_0 hfz24_1 hfz24_2);(try clear hfz25_0 hfz25_1 hfz25_2);(try clear hfz26_0 hfz26_1 hfz26_2);(try clear hfz28_0 hfz28_1 hfz28_2);(try clear hfz6_0 hfz6_1 hfz6_2);(try clear hfz9_0 hfz9_1 hfz9_2);(try clear p2)
     obtain ⟨x39_2, rfl, HA, HK2, BK157, HB⟩ := hrel
     cases gk with
     | zero => exact absurd HA.out (by simp [spec_l5GoodPart.l0])
     | succ k2 =>
      have H := HA.out
      clear HA
      simp only [spec_l5GoodPart.l0] at H
      by_cases c29 : x39_2 < (l0_2.length : Int)
      ·rw [if_pos c29] at H
       have c29b0 : decide (x39_2 < (l0_2.length : Int)) = true := decide_eq_true c29
       clear c29
       by_cases c30 : 0 ≤ x39_2
       ·rw [if_pos c30] at H
        have c30b0 : decide (0 ≤ x39_2) = true := decide_eq_true c30
        clear c30
        by_cases c31 : x39_2 < (l0_2.length : Int)
        ·rw [if_pos c31] at H
         have c31b0 : decide (x39_2 < (l0_2.length : Int)) = true := decide_eq_true c31
         clear c31
         replace H := Option.bind_eq_some_iff.mp H
         obtain ⟨t163, A320, H⟩ := H
         replace H : (if t163 = true then (spec_l5GoodPart.l0 k2 l0_2 (l0_2.length : Int) (wrap64 (x39_2 + 1)) a0_0 a0_1 l0_2) else (some false)) = some r := H
         have A32 := Aside0.mk A320
         clear A320
         by_cases c33 : t163 = true
         ·subst c33
          have H1 : (spec_l5GoodPart.l0 k2 l0_2 (l0_2.length : Int) (wrap64 (x39_2 + 1)) a0_0 a0_1 l0_2) = some r := by rw [if_pos rfl] at H; exact H
          clear H
          have H := H1
          clear H1
          have H' := Aside0.mk H
          clear H
          have p162 : 0 ≤ (x39_2 : Int) := of_decide_eq_true am_
          have q162 : x39_2 < (l0_2.length : Int) := of_decide_eq_true am_
          obtain ⟨ad162, e162, hx162_0⟩ := Kd.at_string HR0_2.out x39_2 p162 q162
          cases e162
          replace hx162_0 := pw_cell_below HB.out hx162_0
          replace p162 := eq_true p162
          replace q162 := eq_true q162
          go_wp2_with (first | ((with_reducible refine gate_callee (f := 132) rfl ?_); refine goesL_ (some 44) rfl rfl Tryd.func132 (by kernel_rfl) rfl #[.string (rdOf ByteArray.empty l0_2 x39_2)] rfl au_ ?_; (with_reducible refine (spec_l5Word.calls k2 (rdOf ByteArray.empty l0_2 x39_2) true _ A32.out).mono ?_); rintro e w' ⟨rfl, ⟨nd, rfl⟩⟩; refine ⟨_, rfl, ?_⟩))
          go_roundg k2
          case measure => have := HJ1.out; have := HK2.out; omega
          case rel => exact ⟨(wrap64 (x39_2 + 1)), sv_, H', ⟨by have := HJ1.out; have := HK2.out; omega⟩, ⟨by (with_reducible repeat (first | refine blk_drewN ?_ _ | refine blk_drew ?_ | refine blk_alloc ?_ _)); exact BK157.out⟩, ⟨bes_⟩⟩
         ·replace c33 := Bool.eq_false_iff.mpr c33
          subst c33
          have H1 : (some false) = some r := by rw [if_neg (show ¬ (false = true) by decide)] at H; exact H
          clear H
          have H := H1
          clear H1
          obtain rfl := Option.some.inj H
          have p162 : 0 ≤ (x39_2 : Int) := of_decide_eq_true am_
          have q162 : x39_2 < (l0_2.length : Int) := of_decide_eq_true am_
          obtain ⟨ad162, e162, hx162_0⟩ := Kd.at_string HR0_2.out x39_2 p162 q162
          cases e162
          replace hx162_0 := pw_cell_below HB.out hx162_0
          replace p162 := eq_true p162
          replace q162 := eq_true q162
          go_wp2_with (first | ((with_reducible refine gate_callee (f := 132) rfl ?_); refine goesL_ (some 44) rfl rfl Tryd.func132 (by kernel_rfl) rfl #[.string (rdOf ByteArray.empty l0_2 x39_2)] rfl au_ ?_; (with_reducible refine (spec_l5Word.calls k2 (rdOf ByteArray.empty l0_2 x39_2) false _ A32.out).mono ?_); rintro e w' ⟨rfl, ⟨nd, rfl⟩⟩; refine ⟨_, rfl, ?_⟩))
          go_ret
          exact ⟨er_, bes_⟩
        ·rw [if_neg c31] at H
         exact absurd H (by simp)
       ·rw [if_neg c30] at H
        exact absurd H (by simp)
      ·rw [if_neg c29] at H
       have c29b0 : decide (x39_2 < (l0_2.length : Int)) = false := decide_eq_false c29
       clear c29
       by_cases c34 : a0_0.toList = ([] : List UInt8)
       ·rw [if_pos c34] at H
        have c34b0 : (a0_0.toList == ([] : List UInt8)) = true := beq_iff_eq.mpr c34
        have c34b7 : a0_0.toList.isEmpty = true := by rw [beq_iff_eq.mp c34b0]; rfl
        have c34b8 : ¬ (a0_0.toList.isEmpty = false) := fun h_ => by have h9_ := beq_iff_eq.mp c34b0; rw [h9_] at h_; cases h_
        have c34b1 : (a0_0.toList != ([] : List UInt8)) = false := bne_eq_false_iff_eq.mpr c34
        clear c34
        by_cases c35 : a0_1.toList = ([] : List UInt8)
        ·rw [if_pos c35] at H
         have c35b0 : (a0_1.toList == ([] : List UInt8)) = true := beq_iff_eq.mpr c35
         have c35b7 : a0_1.toList.isEmpty = true := by rw [beq_iff_eq.mp c35b0]; rfl
         have c35b8 : ¬ (a0_1.toList.isEmpty = false) := fun h_ => by have h9_ := beq_iff_eq.mp c35b0; rw [h9_] at h_; cases h_
         have c35b1 : (a0_1.toList != ([] : List UInt8)) = false := bne_eq_false_iff_eq.mpr c35
         clear c35
         obtain rfl := Option.some.inj H
         have hcz36_0 := bc3_0 BK157.out
         have hcz36_1 := bc3_1 BK157.out
         have hcz36_2 := bc3_2 BK157.out
         have hfz36_0 := blk_frozen BK157.out 0
         have hfz36_1 := blk_frozen BK157.out 1
         have hfz36_2 := blk_frozen BK157.out 2
         go_wp2
         go_ret
         exact ⟨er_, bes_⟩
        ·rw [if_neg c35] at H
         have c35b0 : (a0_1.toList == ([] : List UInt8)) = false := beq_eq_false_iff_ne.mpr c35
         have c35b7 : a0_1.toList.isEmpty = false := Bool.eq_false_iff.mpr (fun h_ => absurd (List.isEmpty_iff.mp h_) (beq_eq_false_iff_ne.mp c35b0))
         have c35b8 : ¬ (a0_1.toList.isEmpty = true) := fun h_ => absurd (List.isEmpty_iff.mp h_) (beq_eq_false_iff_ne.mp c35b0)
         have c35b1 : (a0_1.toList != ([] : List UInt8)) = true := bne_iff_ne.mpr c35
         obtain rfl := Option.some.inj H
         have hcz37_0 := bc3_0 BK157.out
         have hcz37_1 := bc3_1 BK157.out
         have hcz37_2 := bc3_2 BK157.out
         have hfz37_0 := blk_frozen BK157.out 0
         have hfz37_1 := blk_frozen BK157.out 1
         have hfz37_2 := blk_frozen BK157.out 2
         go_wp2
         go_ret
         exact ⟨er_, bes_⟩
       ·rw [if_neg c34] at H
        have c34b0 : (a0_0.toList == ([] : List UInt8)) = false := beq_eq_false_iff_ne.mpr c34
        have c34b7 : a0_0.toList.isEmpty = false := Bool.eq_false_iff.mpr (fun h_ => absurd (List.isEmpty_iff.mp h_) (beq_eq_false_iff_ne.mp c34b0))
        have c34b8 : ¬ (a0_0.toList.isEmpty = true) := fun h_ => absurd (List.isEmpty_iff.mp h_) (beq_eq_false_iff_ne.mp c34b0)
        have c34b1 : (a0_0.toList != ([] : List UInt8)) = true := bne_iff_ne.mpr c34
        obtain rfl := Option.some.inj H
        have hcz38_0 := bc3_0 BK157.out
        have hcz38_1 := bc3_1 BK157.out
        have hcz38_2 := bc3_2 BK157.out
        have hfz38_0 := blk_frozen BK157.out 0
        have hfz38_1 := blk_frozen BK157.out 1
        have hfz38_2 := blk_frozen BK157.out 2
        go_wp2
        go_ret
        exact ⟨er_, bes_⟩

/-! ### spec_l5Good: function 39 -/
def spec_l5Good.l0 : Nat → List (S71) → Int → Int → Option (Bool)
 | 0, _, _, _ => none
 | k + 1, x9, x10, x11 => if x11 < x10 then (if 0 ≤ x11 then (if x11 < (x9.length : Int) then ((spec_l5GoodPart.f k ((rd_T71 x9 x11).f0) ((rd_T71 x9 x11).f1) ((rd_T71 x9 x11).f2)).bind fun t167 => (if t167 = true then (spec_l5Good.l0 k x9 x10 (wrap64 (x11 + 1))) else (some false))) else (none)) else (none)) else (some true)
def spec_l5Good.f (k : Nat) (l0 : List (S71)) : Option (Bool) := (spec_l1In.f (l0.length : Int) 1 5).bind fun t164 => (if t164 = true then (spec_l5Good.l0 k l0 (l0.length : Int) 0) else (some false))
set_option maxHeartbeats 8000000 in
set_option maxRecDepth 100000 in
theorem spec_l5Good.calls (k : Nat) (A0 : Option Addr) (c0 : Nat) (l0 : List (S71)) (r : Bool) (w : World) (hr0 : Kd.C k71 w A0 l0.length l0) (hc0 : l0.length ≤ c0) (h : spec_l5Good.f k l0 = some r) :
  Calls Tryd.prog 39 #[.slice A0 l0.length c0] w fun e w' => e = .returned (.bool r) ∧ Below w.heap.size w w' := by
 have hu71 := Tryd.underlying71
 have HR0 := Aside0.mk hr0
 have HC0 := Aside0.mk hc0
 clear hr0 hc0
 have HB := Aside0.mk (Below.refl w.heap.size w)
 have H : ((spec_l1In.f (l0.length : Int) 1 5).bind fun t164 => (if t164 = true then (spec_l5Good.l0 k l0 (l0.length : Int) 0) else (some false))) = some r := h
 clear h
 replace H := Option.bind_eq_some_iff.mp H
 obtain ⟨t164, A20, H⟩ := H
 replace H : (if t164 = true then (spec_l5Good.l0 k l0 (l0.length : Int) 0) else (some false)) = some r := H
 have A2 := Aside0.mk A20
 clear A20
 by_cases c3 : t164 = true
 ·subst c3
  have H1 : (spec_l5Good.l0 k l0 (l0.length : Int) 0) = some r := by rw [if_pos rfl] at H; exact H
  clear H
  have H := H1
  clear H1
  have H' := Aside0.mk H
  clear H
  go_enter Tryd.func39, Tryd.ntmps39
  go_wp2_with (first | ((with_reducible refine gate_callee (f := 65) rfl ?_); refine goesL_ (some 7) rfl rfl Tryd.func65 (by kernel_rfl) rfl #[.int .i64 (l0.length : Int), .int .i64 1, .int .i64 5] rfl au_ ?_; (with_reducible refine (spec_l1In.calls (l0.length : Int) 1 5 true _ A2.out).mono ?_); rintro e w' ⟨rfl, ⟨nd, rfl⟩⟩; refine ⟨_, rfl, ?_⟩))
  go_loopg [11] k (fun kq v11 w' => ∃ (x11_1 : Int), v11 = .int .i64 x11_1 ∧ Aside0 (spec_l5Good.l0 kq l0 (l0.length : Int) x11_1 = some r) ∧ Aside0 (kq ≤ k) ∧ Aside0 (Below w.heap.size w w'))
  case atStart => exact ⟨(0), sv_, H', ⟨Nat.le_refl _⟩, ⟨bel_⟩⟩
  case round =>
   clear H'
   (try clear p2);(try clear c3)
   obtain ⟨x11_1, rfl, HA, HK1, HB⟩ := hrel
   cases gk with
   | zero => exact absurd HA.out (by simp [spec_l5Good.l0])
   | succ k1 =>
    have H := HA.out
    clear HA
    simp only [spec_l5Good.l0] at H
    by_cases c4 : x11_1 < (l0.length : Int)
    ·rw [if_pos c4] at H
     have c4b0 : decide (x11_1 < (l0.length : Int)) = true := decide_eq_true c4
     clear c4
     by_cases c5 : 0 ≤ x11_1
     ·rw [if_pos c5] at H
      have c5b0 : decide (0 ≤ x11_1) = true := decide_eq_true c5
      clear c5
      by_cases c6 : x11_1 < (l0.length : Int)
      ·rw [if_pos c6] at H
       have c6b0 : decide (x11_1 < (l0.length : Int)) = true := decide_eq_true c6
       clear c6
       replace H := Option.bind_eq_some_iff.mp H
       obtain ⟨t167, A70, H⟩ := H
       replace H : (if t167 = true then (spec_l5Good.l0 k1 l0 (l0.length : Int) (wrap64 (x11_1 + 1))) else (some false)) = some r := H
       have A7 := Aside0.mk A70
       clear A70
       by_cases c8 : t167 = true
       ·subst c8
        have H1 : (spec_l5Good.l0 k1 l0 (l0.length : Int) (wrap64 (x11_1 + 1))) = some r := by rw [if_pos rfl] at H; exact H
        clear H
        have H := H1
        clear H1
        have H' := Aside0.mk H
        clear H
        have p165 : 0 ≤ (x11_1 : Int) := of_decide_eq_true am_
        have q165 : x11_1 < (l0.length : Int) := of_decide_eq_true am_
        obtain ⟨ad165, A165_2, c165_2, e165, hx165_0, hx165_1, hx165_2, hl165_2, hi165_2⟩ := at_T71 HR0.out x11_1 p165 q165
        cases e165
        replace hx165_0 := pw_cell_below HB.out hx165_0
        replace hx165_1 := pw_cell_below HB.out hx165_1
        replace hx165_2 := pw_cell_below HB.out hx165_2
        have HR165_2 := Aside0.mk hi165_2
        have HC165_2 := Aside0.mk hl165_2
        clear hi165_2 hl165_2
        replace p165 := eq_true p165
        replace q165 := eq_true q165
        go_wp2_with (first | ((with_reducible refine gate_dst (N := 4) rfl ?_); refine box_event ?hg (N := 4) ?hd (cs := #[.string (⟨#[]⟩ : ByteArray), .string (⟨#[]⟩ : ByteArray), .slice none 0 0]) (t := 71) ?hr ?_; (case hd => rfl); (case hg => rfl); (case hr => first | (go_simp; done) | (go_simp; rfl)); intro gb166 hg w9 hbox hb; have n0_ := Aside0.mk (below_step bel_ hb); have n1_ := Aside0.mk (hbox); have n2_ := Aside0.mk ((by rw [hg]; exact (below_size bel_) : w.heap.size ≤ gb166)); have n3_ := Aside0.mk ((by rw [hg]; exact (below_size bel_) : w.heap.size ≤ gb166)); clear HB; have HB := n0_; have BK166 := n1_; have GW166 := n2_; have GE166 := n3_; clear n0_ n1_ n2_ n3_; clear hb hbox hg; have hcz10_0 := bc3_0 BK166.out; have hcz10_1 := bc3_1 BK166.out; have hcz10_2 := bc3_2 BK166.out; have hfz10_0 := blk_frozen BK166.out 0; have hfz10_1 := blk_frozen BK166.out 1; have hfz10_2 := blk_frozen BK166.out 2) | ((with_reducible refine gate_callee (f := 79) rfl ?_); refine goesL_ (some 16) rfl rfl Tryd.func79 (by kernel_rfl) rfl #[.agg #[.string ((rd_T71 l0 x11_1).f0), .string ((rd_T71 l0 x11_1).f1), .slice A165_2 ((rd_T71 l0 x11_1).f2).length c165_2]] rfl au_ ?_; (with_reducible refine (spec_l5GoodPart.calls k1 ((rd_T71 l0 x11_1).f0) ((rd_T71 l0 x11_1).f1) _ _ ((rd_T71 l0 x11_1).f2) true _ ?side1 ?side2 A7.out).mono ?_); (case side1 => exact Kd.C_below HR165_2.out bes_); (case side2 => exact HC165_2.out); rintro e w11 ⟨rfl, hb⟩; refine ⟨_, rfl, ?_⟩; have n0_ := Aside0.mk (blk_below (g := gb166) (o := .cells #[.string ((rd_T71 l0 x11_1).f0), .string ((rd_T71 l0 x11_1).f1), .slice A165_2 ((rd_T71 l0 x11_1).f2).length c165_2] 71 (0, 0)) (by (with_reducible repeat (first | refine blk_drewN ?_ _ | refine blk_drew ?_ | refine blk_alloc ?_ _)); refine blk_put (cs := #[.string ((rd_T71 l0 x11_1).f0), .string ((rd_T71 l0 x11_1).f1), .slice none 0 0]) ?_ 2 _ rfl; (with_reducible repeat (first | refine blk_drewN ?_ _ | refine blk_drew ?_ | refine blk_alloc ?_ _)); refine blk_put (cs := #[.string ((rd_T71 l0 x11_1).f0), .string (⟨#[]⟩ : ByteArray), .slice none 0 0]) ?_ 1 _ rfl; (with_reducible repeat (first | refine blk_drewN ?_ _ | refine blk_drew ?_ | refine blk_alloc ?_ _)); refine blk_put (cs := #[.string (⟨#[]⟩ : ByteArray), .string (⟨#[]⟩ : ByteArray), .slice none 0 0]) ?_ 0 _ rfl; (with_reducible repeat (first | refine blk_drewN ?_ _ | refine blk_drew ?_ | refine blk_alloc ?_ _)); exact BK166.out) hb); have n1_ := Aside0.mk (below_step bes_ hb); clear BK166; clear HB; have BK166 := n0_; have HB := n1_; clear n0_ n1_; (try clear hb);(try clear hb2);(try clear hk);(try clear hi)))
        go_roundg k1
        case measure => have := HK1.out; omega
        case rel => exact ⟨(wrap64 (x11_1 + 1)), sv_, H', ⟨by have := HK1.out; omega⟩, ⟨bes_⟩⟩
       ·replace c8 := Bool.eq_false_iff.mpr c8
        subst c8
        have H1 : (some false) = some r := by rw [if_neg (show ¬ (false = true) by decide)] at H; exact H
        clear H
        have H := H1
        clear H1
        obtain rfl := Option.some.inj H
        have p165 : 0 ≤ (x11_1 : Int) := of_decide_eq_true am_
        have q165 : x11_1 < (l0.length : Int) := of_decide_eq_true am_
        obtain ⟨ad165, A165_2, c165_2, e165, hx165_0, hx165_1, hx165_2, hl165_2, hi165_2⟩ := at_T71 HR0.out x11_1 p165 q165
        cases e165
        replace hx165_0 := pw_cell_below HB.out hx165_0
        replace hx165_1 := pw_cell_below HB.out hx165_1
        replace hx165_2 := pw_cell_below HB.out hx165_2
        have HR165_2 := Aside0.mk hi165_2
        have HC165_2 := Aside0.mk hl165_2
        clear hi165_2 hl165_2
        replace p165 := eq_true p165
        replace q165 := eq_true q165
        go_wp2_with (first | ((with_reducible refine gate_dst (N := 4) rfl ?_); refine box_event ?hg (N := 4) ?hd (cs := #[.string (⟨#[]⟩ : ByteArray), .string (⟨#[]⟩ : ByteArray), .slice none 0 0]) (t := 71) ?hr ?_; (case hd => rfl); (case hg => rfl); (case hr => first | (go_simp; done) | (go_simp; rfl)); intro gb166 hg w12 hbox hb; have n0_ := Aside0.mk (below_step bel_ hb); have n1_ := Aside0.mk (hbox); have n2_ := Aside0.mk ((by rw [hg]; exact (below_size bel_) : w.heap.size ≤ gb166)); have n3_ := Aside0.mk ((by rw [hg]; exact (below_size bel_) : w.heap.size ≤ gb166)); clear HB; have HB := n0_; have BK166 := n1_; have GW166 := n2_; have GE166 := n3_; clear n0_ n1_ n2_ n3_; clear hb hbox hg; have hcz13_0 := bc3_0 BK166.out; have hcz13_1 := bc3_1 BK166.out; have hcz13_2 := bc3_2 BK166.out; have hfz13_0 := blk_frozen BK166.out 0; have hfz13_1 := blk_frozen BK166.out 1; have hfz13_2 := blk_frozen BK166.out 2) | ((with_reducible refine gate_callee (f := 79) rfl ?_); refine goesL_ (some 16) rfl rfl Tryd.func79 (by kernel_rfl) rfl #[.agg #[.string ((rd_T71 l0 x11_1).f0), .string ((rd_T71 l0 x11_1).f1), .slice A165_2 ((rd_T71 l0 x11_1).f2).length c165_2]] rfl au_ ?_; (with_reducible refine (spec_l5GoodPart.calls k1 ((rd_T71 l0 x11_1).f0) ((rd_T71 l0 x11_1).f1) _ _ ((rd_T71 l0 x11_1).f2) false _ ?side1 ?side2 A7.out).mono ?_); (case side1 => exact Kd.C_below HR165_2.out bes_); (case side2 => exact HC165_2.out); rintro e w14 ⟨rfl, hb⟩; refine ⟨_, rfl, ?_⟩; have n0_ := Aside0.mk (blk_below (g := gb166) (o := .cells #[.string ((rd_T71 l0 x11_1).f0), .string ((rd_T71 l0 x11_1).f1), .slice A165_2 ((rd_T71 l0 x11_1).f2).length c165_2] 71 (0, 0)) (by (with_reducible repeat (first | refine blk_drewN ?_ _ | refine blk_drew ?_ | refine blk_alloc ?_ _)); refine blk_put (cs := #[.string ((rd_T71 l0 x11_1).f0), .string ((rd_T71 l0 x11_1).f1), .slice none 0 0]) ?_ 2 _ rfl; (with_reducible repeat (first | refine blk_drewN ?_ _ | refine blk_drew ?_ | refine blk_alloc ?_ _)); refine blk_put (cs := #[.string ((rd_T71 l0 x11_1).f0), .string (⟨#[]⟩ : ByteArray), .slice none 0 0]) ?_ 1 _ rfl; (with_reducible repeat (first | refine blk_drewN ?_ _ | refine blk_drew ?_ | refine blk_alloc ?_ _)); refine blk_put (cs := #[.string (⟨#[]⟩ : ByteArray), .string (⟨#[]⟩ : ByteArray), .slice none 0 0]) ?_ 0 _ rfl; (with_reducible repeat (first | refine blk_drewN ?_ _ | refine blk_drew ?_ | refine blk_alloc ?_ _)); exact BK166.out) hb); have n1_ := Aside0.mk (below_step bes_ hb); clear BK166; clear HB; have BK166 := n0_; have HB := n1_; clear n0_ n1_; (try clear hb);(try clear hb2);(try clear hk);(try clear hi)))
        go_ret
        exact ⟨er_, bes_⟩
      ·rw [if_neg c6] at H
       exact absurd H (by simp)
     ·rw [if_neg c5] at H
      exact absurd H (by simp)
    ·rw [if_neg c4] at H
     have c4b0 : decide (x11_1 < (l0.length : Int)) = false := decide_eq_false c4
     clear c4
     obtain rfl := Option.some.inj H
     go_wp2
     go_ret
     exact ⟨er_, bel_⟩
 ·replace c3 := Bool.eq_false_iff.mpr c3
  subst c3
  have H1 : (some false) = some r := by rw [if_neg (show ¬ (false = true) by decide)] at H; exact H
  clear H
  have H := H1
  clear H1
  obtain rfl := Option.some.inj H
  go_enter Tryd.func39, Tryd.ntmps39
  go_wp2_with (first | ((with_reducible refine gate_callee (f := 65) rfl ?_); refine goesL_ (some 7) rfl rfl Tryd.func65 (by kernel_rfl) rfl #[.int .i64 (l0.length : Int), .int .i64 1, .int .i64 5] rfl au_ ?_; (with_reducible refine (spec_l1In.calls (l0.length : Int) 1 5 false _ A2.out).mono ?_); rintro e w' ⟨rfl, ⟨nd, rfl⟩⟩; refine ⟨_, rfl, ?_⟩))
  go_ret
  exact ⟨er_, bel_⟩

end Go.Proofs.YtooilehdljeepaaDoor.PFnExactMatches
