-- Laid by a program of this session out of the translation (its own run of the print). Lean checks it.
import Derived.Test.YtooilehdljeepaaDoorPFnExactReadSheetx0
import Derived.Test.YtooilehdljeepaaDoorPFnExactReadSheetx6
namespace Go.Proofs.YtooilehdljeepaaDoor.PFnExactReadSheet
open Go.RowKit Go.Proofs.YtooilehdljeepaaDoorW.PrintWords Go.Proofs.YtooilehdljeepaaDoorW.PrintLast Go.Proofs.YtooilehdljeepaaDoorW.PrintMore
attribute [local go_sem] max2_int min2_int max_two min_two max_three min_three max_four min_four   -- for this text's walks alone
set_option linter.unusedVariables false
set_option linter.unusedSimpArgs false

/-! ### impl_isPart: function 87 -/
mutual
def impl_isPart.l0 : Nat → List ByteArray → Int → Int → ByteArray → ByteArray → List ByteArray → Option (Bool)
 | 0, _, _, _, _, _, _ => none
 | k + 1, x6, x7, x8, x195000, x195001, x195002 => if x8 < x7 then (if 0 ≤ x8 then (if x8 < (x6.length : Int) then ((impl_isWord.f k (rdOf ByteArray.empty x6 x8)).bind fun t196 => (if t196 = true then (impl_isPart.l0 k x6 x7 (wrap64 (x8 + 1)) x195000 x195001 x195002) else (some false))) else (none)) else (none)) else (if x195000.toList = ([] : List UInt8) then (if x195001.toList = ([] : List UInt8) then (if (x195002.length : Int) = 0 then (impl_isPart.j1 k true x195000 x195001 x195002) else (impl_isPart.j1 k (decide ((x195002.length : Int) > 4)) x195000 x195001 x195002)) else (impl_isPart.j1 k (decide ((x195002.length : Int) > 4)) x195000 x195001 x195002)) else (impl_isPart.j1 k (decide ((x195002.length : Int) > 4)) x195000 x195001 x195002))
def impl_isPart.j1 : Nat → Bool → ByteArray → ByteArray → List ByteArray → Option (Bool)
 | 0, _, _, _, _ => none
 | k + 1, x35, x195000, x195001, x195002 => if x35 = true then (some false) else (if x195000.toList = ([] : List UInt8) then (if x195001.toList = ([] : List UInt8) then (some true) else ((impl_isWord.f k x195001).bind fun t197 => (some t197))) else (if x195000.toList = ([42] : List UInt8) then (if x195001.toList = ([] : List UInt8) then (some true) else ((impl_isWord.f k x195001).bind fun t198 => (some t198))) else ((impl_isWord.f k x195000).bind fun t199 => (if t199 = true then (if x195001.toList = ([] : List UInt8) then (some true) else ((impl_isWord.f k x195001).bind fun t200 => (some t200))) else (some false)))))
end
def impl_isPart.f (k : Nat) (a0_0 : ByteArray) (a0_1 : ByteArray) (l0_2 : List ByteArray) : Option (Bool) := impl_isPart.l0 k l0_2 (l0_2.length : Int) 0 a0_0 a0_1 l0_2
set_option maxHeartbeats 8000000 in
set_option maxRecDepth 100000 in
theorem impl_isPart.calls (k : Nat) (a0_0 : ByteArray) (a0_1 : ByteArray) (A0_2 : Option Addr) (c0_2 : Nat) (l0_2 : List ByteArray) (r : Bool) (w : World) (hr0_2 : Kd.C Kd.string w A0_2 l0_2.length l0_2) (hc0_2 : l0_2.length ≤ c0_2) (h : impl_isPart.f k a0_0 a0_1 l0_2 = some r) :
  Calls Tryd.prog 87 #[.agg #[.string a0_0, .string a0_1, .slice A0_2 l0_2.length c0_2]] w fun e w' => e = .returned (.bool r) ∧ Below w.heap.size w w' := by
 have hu71 := Tryd.underlying71
 have HR0_2 := Aside0.mk hr0_2
 have HC0_2 := Aside0.mk hc0_2
 clear hr0_2 hc0_2
 have HB := Aside0.mk (Below.refl w.heap.size w)
 have H : (impl_isPart.l0 k l0_2 (l0_2.length : Int) 0 a0_0 a0_1 l0_2) = some r := h
 clear h
 have H' := Aside0.mk H
 clear H
 go_enter Tryd.func87, Tryd.ntmps87
 go_wp2_with (first | ((with_reducible refine gate_dst (N := 1) rfl ?_); (try (refine gate_guard (by rfl) ?_; dsimp only)); refine box_event ?hg (N := 1) ?hd (cs := #[.string a0_0, .string a0_1, .slice A0_2 l0_2.length c0_2]) (t := 71) ?hr ?_; (case hd => rfl); (case hg => rfl); (case hr => first | (go_simp; done) | (go_simp; rfl)); intro gb194 hg w2 hbox hb; have n0_ := Aside0.mk (below_step bel_ hb); have n1_ := Aside0.mk (hbox); have n2_ := Aside0.mk ((by rw [hg]; exact (below_size bel_) : w.heap.size ≤ gb194)); have n3_ := Aside0.mk ((by rw [hg]; exact (below_size bel_) : w.heap.size ≤ gb194)); clear HB; have HB := n0_; have BK194 := n1_; have GW194 := n2_; have GE194 := n3_; clear n0_ n1_ n2_ n3_; clear hb hbox hg; have hcz3_0 := bc3_0 BK194.out; have hcz3_1 := bc3_1 BK194.out; have hcz3_2 := bc3_2 BK194.out; have hfz3_0 := blk_frozen BK194.out 0; have hfz3_1 := blk_frozen BK194.out 1; have hfz3_2 := blk_frozen BK194.out 2))
 go_loopg [8] k (fun kq v8 w' => ∃ (x8_1 : Int), v8 = .int .i64 x8_1 ∧ Aside0 (impl_isPart.l0 kq l0_2 (l0_2.length : Int) x8_1 a0_0 a0_1 l0_2 = some r) ∧ Aside0 (kq ≤ k) ∧ Aside0 (w'.heap[gb194]? = some (.cells #[.string a0_0, .string a0_1, (.slice A0_2 l0_2.length c0_2)] 71 (0, 0))) ∧ Aside0 (Below w.heap.size w w'))
 case atStart => exact ⟨(0), sv_, H', ⟨Nat.le_refl _⟩, ⟨by (with_reducible repeat (first | refine blk_drewN ?_ _ | refine blk_drew ?_ | refine blk_alloc ?_ _)); exact BK194.out⟩, ⟨bes_⟩⟩
 case round =>
  clear H'
  (try clear p2);(try clear hcz3_0 hcz3_1 hcz3_2 hfz3_0 hfz3_1 hfz3_2)
  obtain ⟨x8_1, rfl, HA, HK1, BK194, HB⟩ := hrel
  cases gk with
  | zero => exact absurd HA.out (by simp [impl_isPart.l0])
  | succ k1 =>
   have H := HA.out
   clear HA
   simp only [impl_isPart.l0] at H
   by_cases c4 : x8_1 < (l0_2.length : Int)
   ·rw [if_pos c4] at H
    have c4b0 : decide (x8_1 < (l0_2.length : Int)) = true := decide_eq_true c4
    clear c4
    by_cases c5 : 0 ≤ x8_1
    ·rw [if_pos c5] at H
     have c5b0 : decide (0 ≤ x8_1) = true := decide_eq_true c5
     clear c5
     by_cases c6 : x8_1 < (l0_2.length : Int)
     ·rw [if_pos c6] at H
      have c6b0 : decide (x8_1 < (l0_2.length : Int)) = true := decide_eq_true c6
      clear c6
      replace H := Option.bind_eq_some_iff.mp H
      obtain ⟨t196, A70, H⟩ := H
      replace H : (if t196 = true then (impl_isPart.l0 k1 l0_2 (l0_2.length : Int) (wrap64 (x8_1 + 1)) a0_0 a0_1 l0_2) else (some false)) = some r := H
      have A7 := Aside0.mk A70
      clear A70
      by_cases c8 : t196 = true
      ·subst c8
       have H1 : (impl_isPart.l0 k1 l0_2 (l0_2.length : Int) (wrap64 (x8_1 + 1)) a0_0 a0_1 l0_2) = some r := by rw [if_pos rfl] at H; exact H
       clear H
       have H := H1
       clear H1
       have H' := Aside0.mk H
       clear H
       have p195 : 0 ≤ (x8_1 : Int) := of_decide_eq_true am_
       have q195 : x8_1 < (l0_2.length : Int) := of_decide_eq_true am_
       obtain ⟨ad195, e195, hx195_0⟩ := Kd.at_string HR0_2.out x8_1 p195 q195
       cases e195
       replace hx195_0 := pw_cell_below HB.out hx195_0
       replace p195 := eq_true p195
       replace q195 := eq_true q195
       go_wp2_with (first | ((with_reducible refine gate_callee (f := 140) rfl ?_); refine goesL_ (some 13) rfl rfl Tryd.func140 (by kernel_rfl) rfl #[.string (rdOf ByteArray.empty l0_2 x8_1)] rfl au_ ?_; (with_reducible refine (impl_isWord.calls k1 (rdOf ByteArray.empty l0_2 x8_1) true _ A7.out).mono ?_); rintro e w' ⟨rfl, ⟨nd, rfl⟩⟩; refine ⟨_, rfl, ?_⟩))
       go_roundg k1
       case measure => have := HK1.out; omega
       case rel => exact ⟨(wrap64 (x8_1 + 1)), sv_, H', ⟨by have := HK1.out; omega⟩, ⟨by (with_reducible repeat (first | refine blk_drewN ?_ _ | refine blk_drew ?_ | refine blk_alloc ?_ _)); exact BK194.out⟩, ⟨bes_⟩⟩
      ·replace c8 := Bool.eq_false_iff.mpr c8
       subst c8
       have H1 : (some false) = some r := by rw [if_neg (show ¬ (false = true) by decide)] at H; exact H
       clear H
       have H := H1
       clear H1
       obtain rfl := Option.some.inj H
       have p195 : 0 ≤ (x8_1 : Int) := of_decide_eq_true am_
       have q195 : x8_1 < (l0_2.length : Int) := of_decide_eq_true am_
       obtain ⟨ad195, e195, hx195_0⟩ := Kd.at_string HR0_2.out x8_1 p195 q195
       cases e195
       replace hx195_0 := pw_cell_below HB.out hx195_0
       replace p195 := eq_true p195
       replace q195 := eq_true q195
       go_wp2_with (first | ((with_reducible refine gate_callee (f := 140) rfl ?_); refine goesL_ (some 13) rfl rfl Tryd.func140 (by kernel_rfl) rfl #[.string (rdOf ByteArray.empty l0_2 x8_1)] rfl au_ ?_; (with_reducible refine (impl_isWord.calls k1 (rdOf ByteArray.empty l0_2 x8_1) false _ A7.out).mono ?_); rintro e w' ⟨rfl, ⟨nd, rfl⟩⟩; refine ⟨_, rfl, ?_⟩))
       go_ret
       exact ⟨er_, bes_⟩
     ·rw [if_neg c6] at H
      exact absurd H (by simp)
    ·rw [if_neg c5] at H
     exact absurd H (by simp)
   ·rw [if_neg c4] at H
    have c4b0 : decide (x8_1 < (l0_2.length : Int)) = false := decide_eq_false c4
    clear c4
    have HC9 := Aside0.mk H
    clear H
    go_upto_region 7 with (fail)
    go_cut [35] (fun v35 wc => ∃ (kq : Nat) (x35_8 : Bool), v35 = .bool x35_8 ∧ Aside0 (impl_isPart.j1 kq x35_8 a0_0 a0_1 l0_2 = some r) ∧ Aside0 (kq ≤ k1) ∧ Aside0 (wc.heap[gb194]? = some (.cells #[.string a0_0, .string a0_1, (.slice A0_2 l0_2.length c0_2)] 71 (0, 0))) ∧ Aside0 (Below w.heap.size w wc))
    case first =>
     have H := HC9.out
     clear HC9
     by_cases c10 : a0_0.toList = ([] : List UInt8)
     ·rw [if_pos c10] at H
      have c10b0 : (a0_0.toList == ([] : List UInt8)) = true := beq_iff_eq.mpr c10
      have c10b7 : a0_0.toList.isEmpty = true := by rw [beq_iff_eq.mp c10b0]; rfl
      have c10b8 : ¬ (a0_0.toList.isEmpty = false) := fun h_ => by have h9_ := beq_iff_eq.mp c10b0; rw [h9_] at h_; cases h_
      have c10b1 : (a0_0.toList != ([] : List UInt8)) = false := bne_eq_false_iff_eq.mpr c10
      clear c10
      (first | rw [c10b0] | simp only [c10b7, Bool.not_true, Bool.not_false] | (simp only [i64_w, i32_w]; rw [c10b0]) | skip)
      by_cases c11 : a0_1.toList = ([] : List UInt8)
      ·rw [if_pos c11] at H
       have c11b0 : (a0_1.toList == ([] : List UInt8)) = true := beq_iff_eq.mpr c11
       have c11b7 : a0_1.toList.isEmpty = true := by rw [beq_iff_eq.mp c11b0]; rfl
       have c11b8 : ¬ (a0_1.toList.isEmpty = false) := fun h_ => by have h9_ := beq_iff_eq.mp c11b0; rw [h9_] at h_; cases h_
       have c11b1 : (a0_1.toList != ([] : List UInt8)) = false := bne_eq_false_iff_eq.mpr c11
       clear c11
       by_cases c12 : (l0_2.length : Int) = 0
       ·rw [if_pos c12] at H
        have c12b0 : ((l0_2.length : Int) == 0) = true := beq_iff_eq.mpr c12
        have c12b1 : ((l0_2.length : Int) != 0) = false := bne_eq_false_iff_eq.mpr c12
        clear c12
        have H' := Aside0.mk H
        clear H
        have hcz13_0 := bc3_0 BK194.out
        have hcz13_1 := bc3_1 BK194.out
        have hcz13_2 := bc3_2 BK194.out
        have hfz13_0 := blk_frozen BK194.out 0
        have hfz13_1 := blk_frozen BK194.out 1
        have hfz13_2 := blk_frozen BK194.out 2
        go_wp2
        go_meet
        case rel => exact ⟨_, (true), sv_, H', ⟨by have := HK1.out; first | omega | exact Nat.le_refl _⟩, ⟨by (with_reducible repeat (first | refine blk_drewN ?_ _ | refine blk_drew ?_ | refine blk_alloc ?_ _)); exact BK194.out⟩, ⟨bes_⟩⟩
       ·rw [if_neg c12] at H
        have c12b0 : ((l0_2.length : Int) == 0) = false := beq_eq_false_iff_ne.mpr c12
        have c12b1 : ((l0_2.length : Int) != 0) = true := bne_iff_ne.mpr c12
        have c12b2 : ¬ (l0_2 = []) := fun h_ => c12 (by rw [h_]; rfl)
        have H' := Aside0.mk H
        clear H
        have hcz14_0 := bc3_0 BK194.out
        have hcz14_1 := bc3_1 BK194.out
        have hcz14_2 := bc3_2 BK194.out
        have hfz14_0 := blk_frozen BK194.out 0
        have hfz14_1 := blk_frozen BK194.out 1
        have hfz14_2 := blk_frozen BK194.out 2
        go_wp2
        go_meet
        case rel => exact ⟨_, (decide ((l0_2.length : Int) > 4)), sv_, H', ⟨by have := HK1.out; first | omega | exact Nat.le_refl _⟩, ⟨by (with_reducible repeat (first | refine blk_drewN ?_ _ | refine blk_drew ?_ | refine blk_alloc ?_ _)); exact BK194.out⟩, ⟨bes_⟩⟩
      ·rw [if_neg c11] at H
       have c11b0 : (a0_1.toList == ([] : List UInt8)) = false := beq_eq_false_iff_ne.mpr c11
       have c11b7 : a0_1.toList.isEmpty = false := Bool.eq_false_iff.mpr (fun h_ => absurd (List.isEmpty_iff.mp h_) (beq_eq_false_iff_ne.mp c11b0))
       have c11b8 : ¬ (a0_1.toList.isEmpty = true) := fun h_ => absurd (List.isEmpty_iff.mp h_) (beq_eq_false_iff_ne.mp c11b0)
       have c11b1 : (a0_1.toList != ([] : List UInt8)) = true := bne_iff_ne.mpr c11
       have H' := Aside0.mk H
       clear H
       have hcz15_0 := bc3_0 BK194.out
       have hcz15_1 := bc3_1 BK194.out
       have hcz15_2 := bc3_2 BK194.out
       have hfz15_0 := blk_frozen BK194.out 0
       have hfz15_1 := blk_frozen BK194.out 1
       have hfz15_2 := blk_frozen BK194.out 2
       go_wp2
       go_meet
       case rel => exact ⟨_, (decide ((l0_2.length : Int) > 4)), sv_, H', ⟨by have := HK1.out; first | omega | exact Nat.le_refl _⟩, ⟨by (with_reducible repeat (first | refine blk_drewN ?_ _ | refine blk_drew ?_ | refine blk_alloc ?_ _)); exact BK194.out⟩, ⟨bes_⟩⟩
     ·rw [if_neg c10] at H
      have c10b0 : (a0_0.toList == ([] : List UInt8)) = false := beq_eq_false_iff_ne.mpr c10
      have c10b7 : a0_0.toList.isEmpty = false := Bool.eq_false_iff.mpr (fun h_ => absurd (List.isEmpty_iff.mp h_) (beq_eq_false_iff_ne.mp c10b0))
      have c10b8 : ¬ (a0_0.toList.isEmpty = true) := fun h_ => absurd (List.isEmpty_iff.mp h_) (beq_eq_false_iff_ne.mp c10b0)
      have c10b1 : (a0_0.toList != ([] : List UInt8)) = true := bne_iff_ne.mpr c10
      (first | rw [c10b0] | simp only [c10b7, Bool.not_true, Bool.not_false] | (simp only [i64_w, i32_w]; rw [c10b0]) | skip)
      have H' := Aside0.mk H
      clear H
      have hcz16_0 := bc3_0 BK194.out
      have hcz16_1 := bc3_1 BK194.out
      have hcz16_2 := bc3_2 BK194.out
      have hfz16_0 := blk_frozen BK194.out 0
      have hfz16_1 := blk_frozen BK194.out 1
      have hfz16_2 := blk_frozen BK194.out 2
      go_wp2
      go_meet
      case rel => exact ⟨_, (decide ((l0_2.length : Int) > 4)), sv_, H', ⟨by have := HK1.out; first | omega | exact Nat.le_refl _⟩, ⟨by (with_reducible repeat (first | refine blk_drewN ?_ _ | refine blk_drew ?_ | refine blk_alloc ?_ _)); exact BK194.out⟩, ⟨bes_⟩⟩
    case rest =>
     clear HC9
     (try clear c1);(try clear p1);(try clear q1);(try clear hx1);(try clear p2);(try clear c4);(try clear c4b0);(try clear c5);(try clear c5b0);(try clear c6);(try clear c6b0);(try clear p6);(try clear c8);(try clear c10);(try clear c10b0 c10b1);(try clear c11);(try clear c11b0 c11b1);(try clear c12);(try clear c12b0 c12b1 c12b2);(try clear c14);(try clear hcz13_0 hcz13_1 hcz13_2);(try clear hcz14_0 hcz14_1 hcz14_2);(try clear hcz15_0 hcz15_1 hcz15_2);(try clear hcz16_0 hcz16_1 hcz16_2);(try clear hcz3_0 hcz3_1 hcz3_2);(try clear hfz13_0 hfz13_1 hfz13_2);(try clear hfz14_0 hfz14_1 hfz14_2);(try clear hfz15_0 hfz15_1 hfz15_2);(try clear hfz16_0 hfz16_1)
     (try clear hfz16_2);(try clear hfz3_0 hfz3_1 hfz3_2);(try clear hx195_0);(try clear p195);(try clear p2);(try clear q195)
     obtain ⟨kq, x35_8, rfl, HA, HJ8, BK194, HB⟩ := hcut
     cases kq with
     | zero => exact absurd HA.out (by simp [impl_isPart.j1])
     | succ kj8 =>
      have H := HA.out
      clear HA
      simp only [impl_isPart.j1] at H
      by_cases c17 : x35_8 = true
      ·subst c17
       have H1 : (some false) = some r := by rw [if_pos rfl] at H; exact H
       clear H
       have H := H1
       clear H1
       obtain rfl := Option.some.inj H
       go_wp2
       go_ret
       exact ⟨er_, bes_⟩
      ·replace c17 := Bool.eq_false_iff.mpr c17
       subst c17
       have H1 : (if a0_0.toList = ([] : List UInt8) then (if a0_1.toList = ([] : List UInt8) then (some true) else ((impl_isWord.f kj8 a0_1).bind fun t197 => (some t197))) else (if a0_0.toList = ([42] : List UInt8) then (if a0_1.toList = ([] : List UInt8) then (some true) else ((impl_isWord.f kj8 a0_1).bind fun t198 => (some t198))) else ((impl_isWord.f kj8 a0_0).bind fun t199 => (if t199 = true then (if a0_1.toList = ([] : List UInt8) then (some true) else ((impl_isWord.f kj8 a0_1).bind fun t200 => (some t200))) else (some false))))) = some r := by rw [if_neg (show ¬ (false = true) by decide)] at H; exact H
       clear H
       have H := H1
       clear H1
       by_cases c18 : a0_0.toList = ([] : List UInt8)
       ·rw [if_pos c18] at H
        have c18b0 : (a0_0.toList == ([] : List UInt8)) = true := beq_iff_eq.mpr c18
        have c18b7 : a0_0.toList.isEmpty = true := by rw [beq_iff_eq.mp c18b0]; rfl
        have c18b8 : ¬ (a0_0.toList.isEmpty = false) := fun h_ => by have h9_ := beq_iff_eq.mp c18b0; rw [h9_] at h_; cases h_
        have c18b1 : (a0_0.toList != ([] : List UInt8)) = false := bne_eq_false_iff_eq.mpr c18
        clear c18
        by_cases c19 : a0_1.toList = ([] : List UInt8)
        ·rw [if_pos c19] at H
         have c19b0 : (a0_1.toList == ([] : List UInt8)) = true := beq_iff_eq.mpr c19
         have c19b7 : a0_1.toList.isEmpty = true := by rw [beq_iff_eq.mp c19b0]; rfl
         have c19b8 : ¬ (a0_1.toList.isEmpty = false) := fun h_ => by have h9_ := beq_iff_eq.mp c19b0; rw [h9_] at h_; cases h_
         have c19b1 : (a0_1.toList != ([] : List UInt8)) = false := bne_eq_false_iff_eq.mpr c19
         clear c19
         obtain rfl := Option.some.inj H
         have hcz20_0 := bc3_0 BK194.out
         have hcz20_1 := bc3_1 BK194.out
         have hcz20_2 := bc3_2 BK194.out
         have hfz20_0 := blk_frozen BK194.out 0
         have hfz20_1 := blk_frozen BK194.out 1
         have hfz20_2 := blk_frozen BK194.out 2
         go_wp2
         go_ret
         exact ⟨er_, bes_⟩
        ·rw [if_neg c19] at H
         have c19b0 : (a0_1.toList == ([] : List UInt8)) = false := beq_eq_false_iff_ne.mpr c19
         have c19b7 : a0_1.toList.isEmpty = false := Bool.eq_false_iff.mpr (fun h_ => absurd (List.isEmpty_iff.mp h_) (beq_eq_false_iff_ne.mp c19b0))
         have c19b8 : ¬ (a0_1.toList.isEmpty = true) := fun h_ => absurd (List.isEmpty_iff.mp h_) (beq_eq_false_iff_ne.mp c19b0)
         have c19b1 : (a0_1.toList != ([] : List UInt8)) = true := bne_iff_ne.mpr c19
         replace H := Option.bind_eq_some_iff.mp H
         obtain ⟨t197, A210, H⟩ := H
         replace H : (some t197) = some r := H
         have A21 := Aside0.mk A210
         clear A210
         obtain rfl := Option.some.inj H
         have hcz22_0 := bc3_0 BK194.out
         have hcz22_1 := bc3_1 BK194.out
         have hcz22_2 := bc3_2 BK194.out
         have hfz22_0 := blk_frozen BK194.out 0
         have hfz22_1 := blk_frozen BK194.out 1
         have hfz22_2 := blk_frozen BK194.out 2
         go_wp2_with (first | (go_at_call 140; (with_reducible refine (impl_isWord.calls kj8 a0_1 t197 _ A21.out).mono ?_); rintro e w' ⟨rfl, ⟨nd, rfl⟩⟩))
         go_ret
         exact ⟨er_, bes_⟩
       ·rw [if_neg c18] at H
        have c18b0 : (a0_0.toList == ([] : List UInt8)) = false := beq_eq_false_iff_ne.mpr c18
        have c18b7 : a0_0.toList.isEmpty = false := Bool.eq_false_iff.mpr (fun h_ => absurd (List.isEmpty_iff.mp h_) (beq_eq_false_iff_ne.mp c18b0))
        have c18b8 : ¬ (a0_0.toList.isEmpty = true) := fun h_ => absurd (List.isEmpty_iff.mp h_) (beq_eq_false_iff_ne.mp c18b0)
        have c18b1 : (a0_0.toList != ([] : List UInt8)) = true := bne_iff_ne.mpr c18
        by_cases c23 : a0_0.toList = ([42] : List UInt8)
        ·rw [if_pos c23] at H
         have c23b0 : (a0_0.toList == ([42] : List UInt8)) = true := beq_iff_eq.mpr c23
         have c23b1 : (a0_0.toList != ([42] : List UInt8)) = false := bne_eq_false_iff_eq.mpr c23
         clear c23
         by_cases c24 : a0_1.toList = ([] : List UInt8)
         ·rw [if_pos c24] at H
          have c24b0 : (a0_1.toList == ([] : List UInt8)) = true := beq_iff_eq.mpr c24
          have c24b7 : a0_1.toList.isEmpty = true := by rw [beq_iff_eq.mp c24b0]; rfl
          have c24b8 : ¬ (a0_1.toList.isEmpty = false) := fun h_ => by have h9_ := beq_iff_eq.mp c24b0; rw [h9_] at h_; cases h_
          have c24b1 : (a0_1.toList != ([] : List UInt8)) = false := bne_eq_false_iff_eq.mpr c24
          clear c24
          obtain rfl := Option.some.inj H
          have hcz25_0 := bc3_0 BK194.out
          have hcz25_1 := bc3_1 BK194.out
          have hcz25_2 := bc3_2 BK194.out
          have hfz25_0 := blk_frozen BK194.out 0
          have hfz25_1 := blk_frozen BK194.out 1
          have hfz25_2 := blk_frozen BK194.out 2
          go_wp2
          go_ret
          exact ⟨er_, bes_⟩
         ·rw [if_neg c24] at H
          have c24b0 : (a0_1.toList == ([] : List UInt8)) = false := beq_eq_false_iff_ne.mpr c24
          have c24b7 : a0_1.toList.isEmpty = false := Bool.eq_false_iff.mpr (fun h_ => absurd (List.isEmpty_iff.mp h_) (beq_eq_false_iff_ne.mp c24b0))
          have c24b8 : ¬ (a0_1.toList.isEmpty = true) := fun h_ => absurd (List.isEmpty_iff.mp h_) (beq_eq_false_iff_ne.mp c24b0)
          have c24b1 : (a0_1.toList != ([] : List UInt8)) = true := bne_iff_ne.mpr c24
          replace H := Option.bind_eq_some_iff.mp H
          obtain ⟨t198, A260, H⟩ := H
          replace H : (some t198) = some r := H
          have A26 := Aside0.mk A260
          clear A260
          obtain rfl := Option.some.inj H
          have hcz27_0 := bc3_0 BK194.out
          have hcz27_1 := bc3_1 BK194.out
          have hcz27_2 := bc3_2 BK194.out
          have hfz27_0 := blk_frozen BK194.out 0
          have hfz27_1 := blk_frozen BK194.out 1
          have hfz27_2 := blk_frozen BK194.out 2
          go_wp2_with (first | (go_at_call 140; (with_reducible refine (impl_isWord.calls kj8 a0_1 t198 _ A26.out).mono ?_); rintro e w' ⟨rfl, ⟨nd, rfl⟩⟩))
          go_ret
          exact ⟨er_, bes_⟩
        ·rw [if_neg c23] at H
         have c23b0 : (a0_0.toList == ([42] : List UInt8)) = false := beq_eq_false_iff_ne.mpr c23
         have c23b1 : (a0_0.toList != ([42] : List UInt8)) = true := bne_iff_ne.mpr c23
         replace H := Option.bind_eq_some_iff.mp H
         obtain ⟨t199, A280, H⟩ := H
         replace H : (if t199 = true then (if a0_1.toList = ([] : List UInt8) then (some true) else ((impl_isWord.f kj8 a0_1).bind fun t200 => (some t200))) else (some false)) = some r := H
         have A28 := Aside0.mk A280
         clear A280
         by_cases c29 : t199 = true
         ·subst c29
          have H1 : (if a0_1.toList = ([] : List UInt8) then (some true) else ((impl_isWord.f kj8 a0_1).bind fun t200 => (some t200))) = some r := by rw [if_pos rfl] at H; exact H
          clear H
          have H := H1
          clear H1
          by_cases c30 : a0_1.toList = ([] : List UInt8)
          ·rw [if_pos c30] at H
           have c30b0 : (a0_1.toList == ([] : List UInt8)) = true := beq_iff_eq.mpr c30
           have c30b7 : a0_1.toList.isEmpty = true := by rw [beq_iff_eq.mp c30b0]; rfl
           have c30b8 : ¬ (a0_1.toList.isEmpty = false) := fun h_ => by have h9_ := beq_iff_eq.mp c30b0; rw [h9_] at h_; cases h_
           have c30b1 : (a0_1.toList != ([] : List UInt8)) = false := bne_eq_false_iff_eq.mpr c30
           clear c30
           obtain rfl := Option.some.inj H
           have hcz31_0 := bc3_0 BK194.out
           have hcz31_1 := bc3_1 BK194.out
           have hcz31_2 := bc3_2 BK194.out
           have hfz31_0 := blk_frozen BK194.out 0
           have hfz31_1 := blk_frozen BK194.out 1
           have hfz31_2 := blk_frozen BK194.out 2
           go_wp2_with (first | (go_at_call 140; (with_reducible refine (impl_isWord.calls kj8 a0_0 true _ A28.out).mono ?_); rintro e w' ⟨rfl, ⟨nd, rfl⟩⟩))
           go_ret
           exact ⟨er_, bes_⟩
          ·rw [if_neg c30] at H
           have c30b0 : (a0_1.toList == ([] : List UInt8)) = false := beq_eq_false_iff_ne.mpr c30
           have c30b7 : a0_1.toList.isEmpty = false := Bool.eq_false_iff.mpr (fun h_ => absurd (List.isEmpty_iff.mp h_) (beq_eq_false_iff_ne.mp c30b0))
           have c30b8 : ¬ (a0_1.toList.isEmpty = true) := fun h_ => absurd (List.isEmpty_iff.mp h_) (beq_eq_false_iff_ne.mp c30b0)
           have c30b1 : (a0_1.toList != ([] : List UInt8)) = true := bne_iff_ne.mpr c30
           replace H := Option.bind_eq_some_iff.mp H
           obtain ⟨t200, A320, H⟩ := H
           replace H : (some t200) = some r := H
           have A32 := Aside0.mk A320
           clear A320
           obtain rfl := Option.some.inj H
           have hcz33_0 := bc3_0 BK194.out
           have hcz33_1 := bc3_1 BK194.out
           have hcz33_2 := bc3_2 BK194.out
           have hfz33_0 := blk_frozen BK194.out 0
           have hfz33_1 := blk_frozen BK194.out 1
           have hfz33_2 := blk_frozen BK194.out 2
           go_wp2_with (first | (go_at_call 140; (with_reducible refine (impl_isWord.calls kj8 a0_0 true _ A28.out).mono ?_); rintro e w' ⟨rfl, ⟨nd, rfl⟩⟩) | (go_at_call 140; (with_reducible refine (impl_isWord.calls kj8 a0_1 t200 _ A32.out).mono ?_); rintro e w' ⟨rfl, ⟨nd, rfl⟩⟩))
           go_ret
           exact ⟨er_, bes_⟩
         ·replace c29 := Bool.eq_false_iff.mpr c29
          subst c29
          have H1 : (some false) = some r := by rw [if_neg (show ¬ (false = true) by decide)] at H; exact H
          clear H
          have H := H1
          clear H1
          obtain rfl := Option.some.inj H
          have hcz34_0 := bc3_0 BK194.out
          have hcz34_1 := bc3_1 BK194.out
          have hcz34_2 := bc3_2 BK194.out
          have hfz34_0 := blk_frozen BK194.out 0
          have hfz34_1 := blk_frozen BK194.out 1
          have hfz34_2 := blk_frozen BK194.out 2
          go_wp2_with (first | (go_at_call 140; (with_reducible refine (impl_isWord.calls kj8 a0_0 false _ A28.out).mono ?_); rintro e w' ⟨rfl, ⟨nd, rfl⟩⟩))
          go_ret
          exact ⟨er_, bes_⟩

/-! ### impl_isSelector: function 45 -/
def impl_isSelector.l0 : Nat → List (S71) → List (S71) → Int → Int → Option (Bool)
 | 0, _, _, _, _ => none
 | k + 1, x0, x5, x6, x7 => if x7 < x6 then (if 0 ≤ x7 then (if x7 < (x5.length : Int) then ((impl_isPart.f k ((rd_T71 x5 x7).f0) ((rd_T71 x5 x7).f1) ((rd_T71 x5 x7).f2)).bind fun t203 => (if t203 = true then (impl_isSelector.l0 k x0 x5 x6 (wrap64 (x7 + 1))) else (some false))) else (none)) else (none)) else ((impl_within.f (x0.length : Int) 1 5).bind fun t204 => (some t204))
def impl_isSelector.f (k : Nat) (l0 : List (S71)) : Option (Bool) := impl_isSelector.l0 k l0 l0 (l0.length : Int) 0
set_option maxHeartbeats 8000000 in
set_option maxRecDepth 100000 in
theorem impl_isSelector.calls (k : Nat) (A0 : Option Addr) (c0 : Nat) (l0 : List (S71)) (r : Bool) (w : World) (hr0 : Kd.C k71 w A0 l0.length l0) (hc0 : l0.length ≤ c0) (h : impl_isSelector.f k l0 = some r) :
  Calls Tryd.prog 45 #[.slice A0 l0.length c0] w fun e w' => e = .returned (.bool r) ∧ Below w.heap.size w w' := by
 have hu71 := Tryd.underlying71
 have HR0 := Aside0.mk hr0
 have HC0 := Aside0.mk hc0
 clear hr0 hc0
 have HB := Aside0.mk (Below.refl w.heap.size w)
 have H : (impl_isSelector.l0 k l0 l0 (l0.length : Int) 0) = some r := h
 clear h
 have H' := Aside0.mk H
 clear H
 go_enter Tryd.func45, Tryd.ntmps45
 go_wp2
 go_loopg [7] k (fun kq v7 w' => ∃ (x7_1 : Int), v7 = .int .i64 x7_1 ∧ Aside0 (impl_isSelector.l0 kq l0 l0 (l0.length : Int) x7_1 = some r) ∧ Aside0 (kq ≤ k) ∧ Aside0 (Below w.heap.size w w'))
 case atStart => exact ⟨(0), sv_, H', ⟨Nat.le_refl _⟩, ⟨bel_⟩⟩
 case round =>
  clear H'
  obtain ⟨x7_1, rfl, HA, HK1, HB⟩ := hrel
  cases gk with
  | zero => exact absurd HA.out (by simp [impl_isSelector.l0])
  | succ k1 =>
   have H := HA.out
   clear HA
   simp only [impl_isSelector.l0] at H
   by_cases c2 : x7_1 < (l0.length : Int)
   ·rw [if_pos c2] at H
    have c2b0 : decide (x7_1 < (l0.length : Int)) = true := decide_eq_true c2
    clear c2
    by_cases c3 : 0 ≤ x7_1
    ·rw [if_pos c3] at H
     have c3b0 : decide (0 ≤ x7_1) = true := decide_eq_true c3
     clear c3
     by_cases c4 : x7_1 < (l0.length : Int)
     ·rw [if_pos c4] at H
      have c4b0 : decide (x7_1 < (l0.length : Int)) = true := decide_eq_true c4
      clear c4
      replace H := Option.bind_eq_some_iff.mp H
      obtain ⟨t203, A50, H⟩ := H
      replace H : (if t203 = true then (impl_isSelector.l0 k1 l0 l0 (l0.length : Int) (wrap64 (x7_1 + 1))) else (some false)) = some r := H
      have A5 := Aside0.mk A50
      clear A50
      by_cases c6 : t203 = true
      ·subst c6
       have H1 : (impl_isSelector.l0 k1 l0 l0 (l0.length : Int) (wrap64 (x7_1 + 1))) = some r := by rw [if_pos rfl] at H; exact H
       clear H
       have H := H1
       clear H1
       have H' := Aside0.mk H
       clear H
       have p201 : 0 ≤ (x7_1 : Int) := of_decide_eq_true am_
       have q201 : x7_1 < (l0.length : Int) := of_decide_eq_true am_
       obtain ⟨ad201, A201_2, c201_2, e201, hx201_0, hx201_1, hx201_2, hl201_2, hi201_2⟩ := at_T71 HR0.out x7_1 p201 q201
       cases e201
       replace hx201_0 := pw_cell_below HB.out hx201_0
       replace hx201_1 := pw_cell_below HB.out hx201_1
       replace hx201_2 := pw_cell_below HB.out hx201_2
       have HR201_2 := Aside0.mk hi201_2
       have HC201_2 := Aside0.mk hl201_2
       clear hi201_2 hl201_2
       replace p201 := eq_true p201
       replace q201 := eq_true q201
       go_wp2_with (first | ((with_reducible refine gate_dst (N := 4) rfl ?_); refine box_event ?hg (N := 4) ?hd (cs := #[.string (⟨#[]⟩ : ByteArray), .string (⟨#[]⟩ : ByteArray), .slice none 0 0]) (t := 71) ?hr ?_; (case hd => rfl); (case hg => rfl); (case hr => first | (go_simp; done) | (go_simp; rfl)); intro gb202 hg w7 hbox hb; have n0_ := Aside0.mk (below_step bel_ hb); have n1_ := Aside0.mk (hbox); have n2_ := Aside0.mk ((by rw [hg]; exact (below_size bel_) : w.heap.size ≤ gb202)); have n3_ := Aside0.mk ((by rw [hg]; exact (below_size bel_) : w.heap.size ≤ gb202)); clear HB; have HB := n0_; have BK202 := n1_; have GW202 := n2_; have GE202 := n3_; clear n0_ n1_ n2_ n3_; clear hb hbox hg; have hcz8_0 := bc3_0 BK202.out; have hcz8_1 := bc3_1 BK202.out; have hcz8_2 := bc3_2 BK202.out; have hfz8_0 := blk_frozen BK202.out 0; have hfz8_1 := blk_frozen BK202.out 1; have hfz8_2 := blk_frozen BK202.out 2) | ((with_reducible refine gate_callee (f := 87) rfl ?_); refine goesL_ (some 12) rfl rfl Tryd.func87 (by kernel_rfl) rfl #[.agg #[.string ((rd_T71 l0 x7_1).f0), .string ((rd_T71 l0 x7_1).f1), .slice A201_2 ((rd_T71 l0 x7_1).f2).length c201_2]] rfl au_ ?_; (with_reducible refine (impl_isPart.calls k1 ((rd_T71 l0 x7_1).f0) ((rd_T71 l0 x7_1).f1) _ _ ((rd_T71 l0 x7_1).f2) true _ ?side1 ?side2 A5.out).mono ?_); (case side1 => exact Kd.C_below HR201_2.out bes_); (case side2 => exact HC201_2.out); rintro e w9 ⟨rfl, hb⟩; refine ⟨_, rfl, ?_⟩; have n0_ := Aside0.mk (blk_below (g := gb202) (o := .cells #[.string ((rd_T71 l0 x7_1).f0), .string ((rd_T71 l0 x7_1).f1), .slice A201_2 ((rd_T71 l0 x7_1).f2).length c201_2] 71 (0, 0)) (by (with_reducible repeat (first | refine blk_drewN ?_ _ | refine blk_drew ?_ | refine blk_alloc ?_ _)); refine blk_put (cs := #[.string ((rd_T71 l0 x7_1).f0), .string ((rd_T71 l0 x7_1).f1), .slice none 0 0]) ?_ 2 _ rfl; (with_reducible repeat (first | refine blk_drewN ?_ _ | refine blk_drew ?_ | refine blk_alloc ?_ _)); refine blk_put (cs := #[.string ((rd_T71 l0 x7_1).f0), .string (⟨#[]⟩ : ByteArray), .slice none 0 0]) ?_ 1 _ rfl; (with_reducible repeat (first | refine blk_drewN ?_ _ | refine blk_drew ?_ | refine blk_alloc ?_ _)); refine blk_put (cs := #[.string (⟨#[]⟩ : ByteArray), .string (⟨#[]⟩ : ByteArray), .slice none 0 0]) ?_ 0 _ rfl; (with_reducible repeat (first | refine blk_drewN ?_ _ | refine blk_drew ?_ | refine blk_alloc ?_ _)); exact BK202.out) hb); have n1_ := Aside0.mk (below_step bes_ hb); clear BK202; clear HB; have BK202 := n0_; have HB := n1_; clear n0_ n1_; (try clear hb);(try clear hb2);(try clear hk);(try clear hi)))
       go_roundg k1
       case measure => have := HK1.out; omega
       case rel => exact ⟨(wrap64 (x7_1 + 1)), sv_, H', ⟨by have := HK1.out; omega⟩, ⟨bes_⟩⟩
      ·replace c6 := Bool.eq_false_iff.mpr c6
       subst c6
       have H1 : (some false) = some r := by rw [if_neg (show ¬ (false = true) by decide)] at H; exact H
       clear H
       have H := H1
       clear H1
       obtain rfl := Option.some.inj H
       have p201 : 0 ≤ (x7_1 : Int) := of_decide_eq_true am_
       have q201 : x7_1 < (l0.length : Int) := of_decide_eq_true am_
       obtain ⟨ad201, A201_2, c201_2, e201, hx201_0, hx201_1, hx201_2, hl201_2, hi201_2⟩ := at_T71 HR0.out x7_1 p201 q201
       cases e201
       replace hx201_0 := pw_cell_below HB.out hx201_0
       replace hx201_1 := pw_cell_below HB.out hx201_1
       replace hx201_2 := pw_cell_below HB.out hx201_2
       have HR201_2 := Aside0.mk hi201_2
       have HC201_2 := Aside0.mk hl201_2
       clear hi201_2 hl201_2
       replace p201 := eq_true p201
       replace q201 := eq_true q201
       go_wp2_with (first | ((with_reducible refine gate_dst (N := 4) rfl ?_); refine box_event ?hg (N := 4) ?hd (cs := #[.string (⟨#[]⟩ : ByteArray), .string (⟨#[]⟩ : ByteArray), .slice none 0 0]) (t := 71) ?hr ?_; (case hd => rfl); (case hg => rfl); (case hr => first | (go_simp; done) | (go_simp; rfl)); intro gb202 hg w10 hbox hb; have n0_ := Aside0.mk (below_step bel_ hb); have n1_ := Aside0.mk (hbox); have n2_ := Aside0.mk ((by rw [hg]; exact (below_size bel_) : w.heap.size ≤ gb202)); have n3_ := Aside0.mk ((by rw [hg]; exact (below_size bel_) : w.heap.size ≤ gb202)); clear HB; have HB := n0_; have BK202 := n1_; have GW202 := n2_; have GE202 := n3_; clear n0_ n1_ n2_ n3_; clear hb hbox hg; have hcz11_0 := bc3_0 BK202.out; have hcz11_1 := bc3_1 BK202.out; have hcz11_2 := bc3_2 BK202.out; have hfz11_0 := blk_frozen BK202.out 0; have hfz11_1 := blk_frozen BK202.out 1; have hfz11_2 := blk_frozen BK202.out 2) | ((with_reducible refine gate_callee (f := 87) rfl ?_); refine goesL_ (some 12) rfl rfl Tryd.func87 (by kernel_rfl) rfl #[.agg #[.string ((rd_T71 l0 x7_1).f0), .string ((rd_T71 l0 x7_1).f1), .slice A201_2 ((rd_T71 l0 x7_1).f2).length c201_2]] rfl au_ ?_; (with_reducible refine (impl_isPart.calls k1 ((rd_T71 l0 x7_1).f0) ((rd_T71 l0 x7_1).f1) _ _ ((rd_T71 l0 x7_1).f2) false _ ?side1 ?side2 A5.out).mono ?_); (case side1 => exact Kd.C_below HR201_2.out bes_); (case side2 => exact HC201_2.out); rintro e w12 ⟨rfl, hb⟩; refine ⟨_, rfl, ?_⟩; have n0_ := Aside0.mk (blk_below (g := gb202) (o := .cells #[.string ((rd_T71 l0 x7_1).f0), .string ((rd_T71 l0 x7_1).f1), .slice A201_2 ((rd_T71 l0 x7_1).f2).length c201_2] 71 (0, 0)) (by (with_reducible repeat (first | refine blk_drewN ?_ _ | refine blk_drew ?_ | refine blk_alloc ?_ _)); refine blk_put (cs := #[.string ((rd_T71 l0 x7_1).f0), .string ((rd_T71 l0 x7_1).f1), .slice none 0 0]) ?_ 2 _ rfl; (with_reducible repeat (first | refine blk_drewN ?_ _ | refine blk_drew ?_ | refine blk_alloc ?_ _)); refine blk_put (cs := #[.string ((rd_T71 l0 x7_1).f0), .string (⟨#[]⟩ : ByteArray), .slice none 0 0]) ?_ 1 _ rfl; (with_reducible repeat (first | refine blk_drewN ?_ _ | refine blk_drew ?_ | refine blk_alloc ?_ _)); refine blk_put (cs := #[.string (⟨#[]⟩ : ByteArray), .string (⟨#[]⟩ : ByteArray), .slice none 0 0]) ?_ 0 _ rfl; (with_reducible repeat (first | refine blk_drewN ?_ _ | refine blk_drew ?_ | refine blk_alloc ?_ _)); exact BK202.out) hb); have n1_ := Aside0.mk (below_step bes_ hb); clear BK202; clear HB; have BK202 := n0_; have HB := n1_; clear n0_ n1_; (try clear hb);(try clear hb2);(try clear hk);(try clear hi)))
       go_ret
       exact ⟨er_, bes_⟩
     ·rw [if_neg c4] at H
      exact absurd H (by simp)
    ·rw [if_neg c3] at H
     exact absurd H (by simp)
   ·rw [if_neg c2] at H
    have c2b0 : decide (x7_1 < (l0.length : Int)) = false := decide_eq_false c2
    clear c2
    replace H := Option.bind_eq_some_iff.mp H
    obtain ⟨t204, A130, H⟩ := H
    replace H : (some t204) = some r := H
    have A13 := Aside0.mk A130
    clear A130
    obtain rfl := Option.some.inj H
    go_wp2_with (first | ((with_reducible refine gate_callee (f := 33) rfl ?_); refine goesL_ (some 17) rfl rfl Tryd.func33 (by kernel_rfl) rfl #[.int .i64 (l0.length : Int), .int .i64 1, .int .i64 5] rfl au_ ?_; (with_reducible refine (impl_within.calls (l0.length : Int) 1 5 t204 _ A13.out).mono ?_); rintro e w' ⟨rfl, ⟨nd, rfl⟩⟩; refine ⟨_, rfl, ?_⟩))
    go_ret
    exact ⟨er_, bel_⟩

-- NOT PRINTED: function 141 (strings_FieldsFunc)

/-! ### impl_fields: function 89 -/
def laid229_ren_ : Go.Shelf.Ren := ⟨fun | 229 => 141 | n => n, fun | 31 => 51 | 40 => 152 | 152 => 164 | 154 => 166 | n => n, fun | 1 => 0 | 3 => 1 | 4 => 2 | n => n⟩
theorem laid229_ : Go.Proofs.Lays.n229 Tryd.prog laid229_ren_ := {
 mixed := by kernel_rfl
 f229 := Tryd.func141.trans (congrArg some (by kernel_rfl))
 t0 := Tryd.underlying0
 a0 := Tryd.isAgg0
 z0 := Tryd.sizeOf0
 v0 := Tryd.zeroValue0
 t3 := Tryd.underlying3
 a3 := Tryd.isAgg3
 z3 := Tryd.sizeOf3
 v3 := Tryd.zeroValue3
 t4 := Tryd.underlying4
 a4 := Tryd.isAgg4
 z4 := Tryd.sizeOf4
 v4 := Tryd.zeroValue4
 t9 := Tryd.underlying9
 a9 := Tryd.isAgg9
 z9 := Tryd.sizeOf9
 v9 := Tryd.zeroValue9
 t21 := Tryd.underlying21
 a21 := Tryd.isAgg21
 z21 := Tryd.sizeOf21
 v21 := Tryd.zeroValue21
 t31 := Tryd.underlying51
 a31 := Tryd.isAgg51
 z31 := Tryd.sizeOf51
 v31 := Tryd.zeroValue51
 t40 := Tryd.underlying152
 a40 := Tryd.isAgg152
 z40 := Tryd.sizeOf152
 v40 := Tryd.zeroValue152
 t152 := Tryd.underlying164
 a152 := Tryd.isAgg164
 z152 := Tryd.sizeOf164
 v152 := Tryd.zeroValue164
 t154 := Tryd.underlying166
 a154 := Tryd.isAgg166
 z154 := Tryd.sizeOf166
 v154 := Tryd.zeroValue166 }

/-- a blank, as a rune. -/
def blankR (x : Nat) : Bool := x == 9 || x == 10 || x == 13 || x == 32
set_option maxHeartbeats 1000000 in
set_option maxRecDepth 100000 in
theorem blank_call_ (x : Nat) (W : World) : Calls Tryd.prog 143 #[.int .u8 (x : Int)] W fun e w' => e = .returned (.bool (blankR x)) ∧ Drawn0 W w' := by
 by_cases h1 : x = 9
 ·subst h1
  go_enter Tryd.func143, Tryd.ntmps143
  go_wp2
  go_ret
  exact ⟨rfl, by repeat (first | exact Drawn0.refl _ | apply Drawn0.step)⟩
 by_cases h2 : x = 10
 ·subst h2
  go_enter Tryd.func143, Tryd.ntmps143
  go_wp2
  go_ret
  exact ⟨rfl, by repeat (first | exact Drawn0.refl _ | apply Drawn0.step)⟩
 by_cases h3 : x = 13
 ·subst h3
  go_enter Tryd.func143, Tryd.ntmps143
  go_wp2
  go_ret
  exact ⟨rfl, by repeat (first | exact Drawn0.refl _ | apply Drawn0.step)⟩
 by_cases h4 : x = 32
 ·subst h4
  go_enter Tryd.func143, Tryd.ntmps143
  go_wp2
  go_ret
  exact ⟨rfl, by repeat (first | exact Drawn0.refl _ | apply Drawn0.step)⟩
 have hf : blankR x = false := by
  unfold blankR
  rw [beq_eq_false_iff_ne.mpr h1, beq_eq_false_iff_ne.mpr h2, beq_eq_false_iff_ne.mpr h3, beq_eq_false_iff_ne.mpr h4]
  rfl
 rw [hf]
 have b1 : ((x : Int) == 9) = false := beq_eq_false_iff_ne.mpr (by omega)
 have b2 : ((x : Int) == 10) = false := beq_eq_false_iff_ne.mpr (by omega)
 have b3 : ((x : Int) == 13) = false := beq_eq_false_iff_ne.mpr (by omega)
 have b4 : ((x : Int) == 32) = false := beq_eq_false_iff_ne.mpr (by omega)
 clear hf h1 h2 h3 h4
 go_enter Tryd.func143, Tryd.ntmps143
 go_wp2
 go_ret
 exact ⟨by first | rfl | (simp [*]; done), by repeat (first | exact Drawn0.refl _ | apply Drawn0.step)⟩
set_option maxHeartbeats 1000000 in
set_option maxRecDepth 100000 in
theorem fields_pred_ (w : World) : PredAtRunes Tryd.prog 142 #[] blankR w := by
 intro W x hx hb
 show Calls Tryd.prog 142 #[.int .i32 (x : Int)] W _
 by_cases h128 : x < 128
 ·have c : ∀ W' : World, Calls Tryd.prog 143 #[.int .u8 (x : Int)] W' fun e w' => e = .returned (.bool (blankR x)) ∧ Drawn0 W' w' := fun W' => blank_call_ x W'
  generalize blankR x = b at c ⊢
  have q1 : decide ((x : Int) < 128) = true := decide_eq_true (by omega)
  have q2 : IntKind.u8.wrap (x : Int) = (x : Int) := by show (x : Int) % 256 = x; omega
  have q3 : (x : Int) % 256 = (x : Int) := by omega
  clear hb hx h128
  go_enter Tryd.func142, Tryd.ntmps142
  go_wp2_with (first | (go_at_call 143; (with_reducible refine (c _).mono ?_); rintro e w' ⟨rfl, ⟨nd, rfl⟩⟩))
  go_ret
  exact ⟨rfl, _, rfl⟩
 ·have hf : blankR x = false := by
   unfold blankR
   rw [beq_eq_false_iff_ne.mpr (by omega : x ≠ 9), beq_eq_false_iff_ne.mpr (by omega : x ≠ 10), beq_eq_false_iff_ne.mpr (by omega : x ≠ 13), beq_eq_false_iff_ne.mpr (by omega : x ≠ 32)]
   rfl
  rw [hf]
  have q1 : decide ((x : Int) < 128) = false := decide_eq_false (by omega)
  clear hf hb
  go_enter Tryd.func142, Tryd.ntmps142
  go_wp2
  go_ret
  exact ⟨rfl, 0, rfl⟩
def impl_fields.f (a0 : ByteArray) : Option (List ByteArray) := if a0.size ≤ 4294967296 then some (Lib.goFieldsP blankR a0) else none
set_option maxHeartbeats 1000000 in
set_option maxRecDepth 100000 in
theorem impl_fields.calls (a0 : ByteArray) (r : List ByteArray) (w : World) (h : impl_fields.f a0 = some r) :
  Calls Tryd.prog 89 #[.string a0] w fun e w' => ∃ v0_ : Value, e = .returned (v0_) ∧ Kd.R Kd.string 9 w' w.heap.size (fun _ => True) v0_ r ∧ Below w.heap.size w w' := by
 unfold impl_fields.f at h
 by_cases hs : a0.size ≤ 4294967296
 ·rw [if_pos hs] at h
  obtain rfl := Option.some.inj h
  clear h
  have cF : Calls Tryd.prog 141 #[.string a0, .func (.func 142) #[] #[]] w _ := Any.strings_FieldsFunc_runes laid229_ 142 #[] (enters_of Tryd.func142 (by kernel_rfl) rfl) blankR a0 w hs (fields_pred_ w) (by kernel_rfl) (by kernel_rfl)
  generalize Lib.goFieldsP blankR a0 = FS at cF ⊢
  go_enter Tryd.func89, Tryd.ntmps89
  go_wp2_with (go_at_call 141; refine cF.mono ?_; rintro e w' ⟨A, rfl, hA, hown, hb⟩)
  go_ret
  exact ⟨_, rfl, Kd.R_of_own hown (fun _ _ => trivial), hb⟩
 ·rw [if_neg hs] at h; cases h

/-! ### stringslite_HasPrefix: function 122 -/
def stringslite_HasPrefix.f (a0 : ByteArray) (a1 : ByteArray) : Option (Bool) := if (a0.size : Int) ≥ (a1.size : Int) then (if 0 ≤ (a1.size : Int) then (if (a1.size : Int) ≤ (a0.size : Int) then (some ((a0.extract 0 ((a1.size : Int) : Int).toNat).toList == a1.toList)) else (none)) else (none)) else (some false)
set_option maxHeartbeats 8000000 in
set_option maxRecDepth 100000 in
theorem stringslite_HasPrefix.calls (a0 : ByteArray) (a1 : ByteArray) (r : Bool) (w : World) (h : stringslite_HasPrefix.f a0 a1 = some r) :
  Calls Tryd.prog 122 #[.string a0, .string a1] w fun e w' => e = .returned (.bool r) ∧ Drawn0 w w' := by
 have H : (if (a0.size : Int) ≥ (a1.size : Int) then (if 0 ≤ (a1.size : Int) then (if (a1.size : Int) ≤ (a0.size : Int) then (some ((a0.extract 0 ((a1.size : Int) : Int).toNat).toList == a1.toList)) else (none)) else (none)) else (some false)) = some r := h
 clear h
 by_cases c3 : (a0.size : Int) ≥ (a1.size : Int)
 ·rw [if_pos c3] at H
  have c3b0 : decide ((a1.size : Int) ≤ (a0.size : Int)) = true := decide_eq_true c3
  have c3b1 : decide (a1.size ≤ a0.size) = true := decide_eq_true (Int.ofNat_le.mp c3)
  clear c3
  by_cases c4 : 0 ≤ (a1.size : Int)
  ·rw [if_pos c4] at H
   have c4b0 := eq_true c4
   have c4b1 : decide (0 ≤ (a1.size : Int)) = true := decide_eq_true c4
   clear c4
   by_cases c5 : (a1.size : Int) ≤ (a0.size : Int)
   ·rw [if_pos c5] at H
    have c5b0 := eq_true c5
    have c5b1 : decide ((a1.size : Int) ≤ (a0.size : Int)) = true := decide_eq_true c5
    clear c5
    obtain rfl := Option.some.inj H
    go_enter Tryd.func122, Tryd.ntmps122
    go_wp2
    go_ret
    exact ⟨by first | rfl | (simp; done) | (simp [*]; done), by repeat (first | exact Drawn0.refl _ | apply Drawn0.step)⟩
   ·rw [if_neg c5] at H
    exact absurd H (by simp)
  ·rw [if_neg c4] at H
   exact absurd H (by simp)
 ·rw [if_neg c3] at H
  have c3b0 : decide ((a1.size : Int) ≤ (a0.size : Int)) = false := decide_eq_false c3
  have c3b1 : decide (a1.size ≤ a0.size) = false := decide_eq_false (fun h => c3 (Int.ofNat_le.mpr h))
  clear c3
  obtain rfl := Option.some.inj H
  go_enter Tryd.func122, Tryd.ntmps122
  go_wp2
  go_ret
  exact ⟨by first | rfl | (simp; done) | (simp [*]; done), by repeat (first | exact Drawn0.refl _ | apply Drawn0.step)⟩

/-! ### strings_HasPrefix: function 180 -/
def strings_HasPrefix.f (a0 : ByteArray) (a1 : ByteArray) : Option (Bool) := (stringslite_HasPrefix.f a0 a1).bind fun t205 => (some t205)
set_option maxHeartbeats 8000000 in
set_option maxRecDepth 100000 in
theorem strings_HasPrefix.calls (a0 : ByteArray) (a1 : ByteArray) (r : Bool) (w : World) (h : strings_HasPrefix.f a0 a1 = some r) :
  Calls Tryd.prog 180 #[.string a0, .string a1] w fun e w' => e = .returned (.bool r) ∧ Drawn0 w w' := by
 have H : ((stringslite_HasPrefix.f a0 a1).bind fun t205 => (some t205)) = some r := h
 clear h
 replace H := Option.bind_eq_some_iff.mp H
 obtain ⟨t205, A30, H⟩ := H
 replace H : (some t205) = some r := H
 have A3 := Aside0.mk A30
 clear A30
 obtain rfl := Option.some.inj H
 go_enter Tryd.func180, Tryd.ntmps180
 go_wp2_with (first | ((with_reducible refine gate_callee (f := 122) rfl ?_); refine goesL_ (some 7) rfl rfl Tryd.func122 (by kernel_rfl) rfl #[.string a0, .string a1] rfl au_ ?_; (with_reducible refine (stringslite_HasPrefix.calls a0 a1 t205 _ A3.out).mono ?_); rintro e w' ⟨rfl, ⟨nd, rfl⟩⟩; refine ⟨_, rfl, ?_⟩))
 go_ret
 exact ⟨by first | rfl | (simp; done) | (simp [*]; done), by repeat (first | exact Drawn0.refl _ | apply Drawn0.step)⟩

end Go.Proofs.YtooilehdljeepaaDoor.PFnExactReadSheet
