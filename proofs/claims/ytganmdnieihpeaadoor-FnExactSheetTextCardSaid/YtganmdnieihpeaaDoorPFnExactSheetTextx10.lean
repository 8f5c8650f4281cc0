-- Laid by a program of this session out of the translation (its own run of the print). Lean checks it.
import Derived.Test.YtganmdnieihpeaaDoorPFnExactSheetTextx0
import Derived.Test.YtganmdnieihpeaaDoorPFnExactSheetTextx8
import Derived.Test.YtganmdnieihpeaaDoorPFnExactSheetTextx9
namespace Go.Proofs.YtganmdnieihpeaaDoor.PFnExactSheetText
open Go.RowKit Go.Proofs.YtganmdnieihpeaaDoorW.PrintWords Go.Proofs.YtganmdnieihpeaaDoorW.PrintLast Go.Proofs.YtganmdnieihpeaaDoorW.PrintMore
attribute [local go_sem] max2_int min2_int max_two min_two max_three min_three max_four min_four   -- for this text's walks alone
set_option linter.unusedVariables false
set_option linter.unusedSimpArgs false

/-! ### impl_SelectorText: function 20 -/
mutual
def impl_SelectorText.l0 : Nat → List ByteArray → List (S63) → Int → Int → Option (ByteArray × Bool)
 | 0, _, _, _, _ => none
 | k + 1, x4, x14, x15, x16 => if x16 < x15 then (if 0 ≤ x16 then (if x16 < (x14.length : Int) then (if ((rd_T63 x14 x16).f1).toList = ([] : List UInt8) then (impl_SelectorText.j1 k x4 ((rd_T63 x14 x16).f0) x14 x15 x16 ((rd_T63 x14 x16).f0) ((rd_T63 x14 x16).f1) ((rd_T63 x14 x16).f2)) else (if 1 + ((rd_T63 x14 x16).f1).size ≤ 9223372036854775807 then (if ((rd_T63 x14 x16).f0).size + ((⟨#[35]⟩ : ByteArray) ++ ((rd_T63 x14 x16).f1)).size ≤ 9223372036854775807 then (impl_SelectorText.j1 k x4 (((rd_T63 x14 x16).f0) ++ ((⟨#[35]⟩ : ByteArray) ++ ((rd_T63 x14 x16).f1))) x14 x15 x16 ((rd_T63 x14 x16).f0) ((rd_T63 x14 x16).f1) ((rd_T63 x14 x16).f2)) else (none)) else (none))) else (none)) else (none)) else ((strings_Join.f x4 (⟨#[32]⟩ : ByteArray)).bind fun t236 => (some (t236, true)))
def impl_SelectorText.j1 : Nat → List ByteArray → ByteArray → List (S63) → Int → Int → ByteArray → ByteArray → List ByteArray → Option (ByteArray × Bool)
 | 0, _, _, _, _, _, _, _, _ => none
 | k + 1, x4, x7, x14, x15, x16, x239000, x239001, x239002 => impl_SelectorText.l1 k x4 x7 x14 x15 x16 x239002 (x239002.length : Int) 0
def impl_SelectorText.l1 : Nat → List ByteArray → ByteArray → List (S63) → Int → Int → List ByteArray → Int → Int → Option (ByteArray × Bool)
 | 0, _, _, _, _, _, _, _, _ => none
 | k + 1, x4, x7, x14, x15, x16, x31, x32, x33 => if x33 < x32 then (if 0 ≤ x33 then (if x33 < (x31.length : Int) then (if 1 + (rdOf ByteArray.empty x31 x33).size ≤ 9223372036854775807 then (if x7.size + ((⟨#[46]⟩ : ByteArray) ++ (rdOf ByteArray.empty x31 x33)).size ≤ 9223372036854775807 then (impl_SelectorText.l1 k x4 (x7 ++ ((⟨#[46]⟩ : ByteArray) ++ (rdOf ByteArray.empty x31 x33))) x14 x15 x16 x31 x32 (wrap64 (x33 + 1))) else (none)) else (none)) else (none)) else (none)) else (if x4.length < 8796093022208 then (impl_SelectorText.l0 k (x4 ++ [x7]) x14 x15 (wrap64 (x16 + 1))) else (none))
end
def impl_SelectorText.f (k : Nat) (l0 : List (S63)) : Option (ByteArray × Bool) := (impl_isSelector.f k l0).bind fun t232 => (if t232 = true then (impl_SelectorText.l0 k (([] : List ByteArray)) l0 (l0.length : Int) 0) else (some ((⟨#[]⟩ : ByteArray), false)))
set_option maxHeartbeats 8000000 in
set_option maxRecDepth 100000 in
theorem impl_SelectorText.calls (k : Nat) (A0 : Option Addr) (c0 : Nat) (l0 : List (S63)) (r1 : ByteArray) (r2 : Bool) (w : World) (hr0 : Kd.C k63 w A0 l0.length l0) (hc0 : l0.length ≤ c0) (h : impl_SelectorText.f k l0 = some (r1, r2)) :
  Calls Tryd.prog 20 #[.slice A0 l0.length c0] w fun e w' => e = .returned (.tuple #[.string r1, .bool r2]) ∧ Below w.heap.size w w' := by
 have hu63 := Tryd.underlying63
 have HR0 := Aside0.mk hr0
 have HC0 := Aside0.mk hc0
 clear hr0 hc0
 have HB := Aside0.mk (Below.refl w.heap.size w)
 have H : ((impl_isSelector.f k l0).bind fun t232 => (if t232 = true then (impl_SelectorText.l0 k (([] : List ByteArray)) l0 (l0.length : Int) 0) else (some ((⟨#[]⟩ : ByteArray), false)))) = some (r1, r2) := h
 clear h
 replace H := Option.bind_eq_some_iff.mp H
 obtain ⟨t232, A20, H⟩ := H
 replace H : (if t232 = true then (impl_SelectorText.l0 k (([] : List ByteArray)) l0 (l0.length : Int) 0) else (some ((⟨#[]⟩ : ByteArray), false))) = some (r1, r2) := H
 have A2 := Aside0.mk A20
 clear A20
 by_cases c3 : t232 = true
 ·subst c3
  have H1 : (impl_SelectorText.l0 k (([] : List ByteArray)) l0 (l0.length : Int) 0) = some (r1, r2) := by rw [if_pos rfl] at H; exact H
  clear H
  have H := H1
  clear H1
  obtain ⟨y233, hy233⟩ : ∃ y_ : List ByteArray, y_ = (([] : List ByteArray)) := ⟨_, rfl⟩
  replace H : (impl_SelectorText.l0 k y233 l0 (l0.length : Int) 0) = some (r1, r2) := by first | (rw [hy233]; with_reducible exact H) | (have H2_ := (Option.bind_some _ _).symm.trans H; rw [hy233]; with_reducible exact H2_) | (have H2_ := (Option.bind_some _ _).symm.trans H; with_reducible exact H2_) | with_reducible exact H | (rw [hy233]; exact H) | exact H
  have Ny233 := Aside0.mk hy233
  clear hy233
  have H' := Aside0.mk H
  clear H
  go_enter Tryd.func20, Tryd.ntmps20
  go_wp2_with (first | ((with_reducible refine gate_callee (f := 40) rfl ?_); refine goesL_ (some 11) rfl rfl Tryd.func40 (by kernel_rfl) rfl #[.slice A0 l0.length c0] rfl (by (try simp only [List.map_toArray, List.map_cons, List.map_nil]); first | done | rfl | (simp only [List.length_drop, List.length_take]; rfl)) ?_; (with_reducible refine (impl_isSelector.calls k _ _ l0 true _ ?side1 ?side2 A2.out).mono ?_); (case side1 => repeat (first | exact HR0.out | (with_reducible refine Kd.C_alloc ?_ _) | (with_reducible refine Kd.C_drewN ?_ _) | (with_reducible refine Kd.C_drew ?_))); (case side2 => exact HC0.out); rintro e w4 ⟨rfl, hb⟩; refine ⟨_, rfl, ?_⟩; have n0_ := Aside0.mk (below_step (by repeat (first | (with_reducible first | exact HB.out | apply below_alloc | apply pw_below_drewN | apply below_drew1) | exact HB.out)) hb); clear HB; have HB := n0_; clear n0_; (try clear hb); (try clear hb2); (try clear hk); (try clear hi)) | ((with_reducible refine gate_dst (N := 13) rfl ?_); refine Kd.R_lit Kd.string _ 9 ?hg (N := 13) ?hd (xs := ([] : List ByteArray)) (inner := []) (ok := fun _ => True) (okp := fun _ => True) ?hr ?hp (fun _ hk => hk) trivial (Below.refl _ _) (Nat.le_refl _) (by simp) ?_; (case hd => rfl); (case hg => rfl); (case hr => first | (go_simp; done) | (go_simp; rfl)); (case hp => exact (Reps.none _ _)); intro v234 w5 ho6 hb hg_ hnew_; clear hg_ hnew_; (first | rw [← Ny233.out] at ho6 | (simp only [Int.reduceToNat] at ho6; rw [← Ny233.out] at ho6)); have n0_ := Aside0.mk (Kd.R_lower ho6 (below_size (by repeat (first | (with_reducible first | exact HB.out | apply below_alloc | apply pw_below_drewN | apply below_drew1) | exact HB.out)))); have n1_ := Aside0.mk (below_step (by repeat (first | (with_reducible first | exact HB.out | apply below_alloc | apply pw_below_drewN | apply below_drew1) | exact HB.out)) hb); clear HB; have HO235 := n0_; have HB := n1_; clear n0_ n1_; clear hb ho6))
  go_loopg [4, 16] k (fun kq v4 v16 w' => ∃ (x4_1 : List ByteArray) (x16_1 : Int), v16 = .int .i64 x16_1 ∧ Aside0 (impl_SelectorText.l0 kq x4_1 l0 (l0.length : Int) x16_1 = some (r1, r2)) ∧ Aside0 (kq ≤ k) ∧ Aside0 (Kd.R Kd.string 9 w' w.heap.size (fun _ => True) v4 x4_1) ∧ Aside0 (Below w.heap.size w w'))
  case atStart => exact ⟨(y233), (0), (by first | rfl | (simp; done) | (simp [*]; done) | (simp [wrap64]; done)), H', ⟨Nat.le_refl _⟩, ⟨by (with_reducible repeat (first | apply Kd.R_alloc | apply Kd.R_drewN | apply Kd.R_drew)); exact HO235.out⟩, ⟨by repeat (first | (with_reducible first | exact HB.out | apply below_alloc | apply pw_below_drewN | apply below_drew1) | exact HB.out)⟩⟩
  case round =>
   clear H'
   (try clear c2);(try clear p2);(try clear c3);(try clear c4)
   obtain ⟨x4_1, x16_1, rfl, HA, HK1, HO_4, HB⟩ := hrel
   cases gk with
   | zero => exact absurd HA.out (by simp [impl_SelectorText.l0])
   | succ k1 =>
    have H := HA.out
    clear HA
    simp only [impl_SelectorText.l0] at H
    by_cases c7 : x16_1 < (l0.length : Int)
    ·rw [if_pos c7] at H
     have c7b0 : decide (x16_1 < (l0.length : Int)) = true := decide_eq_true c7
     clear c7
     by_cases c8 : 0 ≤ x16_1
     ·rw [if_pos c8] at H
      have c8b0 : decide (0 ≤ x16_1) = true := decide_eq_true c8
      clear c8
      by_cases c9 : x16_1 < (l0.length : Int)
      ·rw [if_pos c9] at H
       have c9b0 : decide (x16_1 < (l0.length : Int)) = true := decide_eq_true c9
       clear c9
       have HC10 := Aside0.mk H
       clear H
       have p237 : 0 ≤ (x16_1 : Int) := of_decide_eq_true (by first | (with_reducible assumption) | assumption)
       have q237 : x16_1 < (l0.length : Int) := of_decide_eq_true (by first | (with_reducible assumption) | assumption)
       obtain ⟨ad237, A237_2, c237_2, e237, hx237_0, hx237_1, hx237_2, hl237_2, hi237_2⟩ := at_T63 HR0.out x16_1 p237 q237
       cases e237
       replace hx237_0 := (HB.out.cell (World.block_lt_of_cell? w _ hx237_0)).trans hx237_0
       replace hx237_1 := (HB.out.cell (World.block_lt_of_cell? w _ hx237_1)).trans hx237_1
       replace hx237_2 := (HB.out.cell (World.block_lt_of_cell? w _ hx237_2)).trans hx237_2
       have HR237_2 := Aside0.mk hi237_2
       have HC237_2 := Aside0.mk hl237_2
       clear hi237_2 hl237_2
       replace p237 := eq_true p237
       replace q237 := eq_true q237
       go_upto_if 24 with (first | ((with_reducible refine gate_dst (N := 6) rfl ?_); refine box_event ?hg (N := 6) ?hd (cs := #[.string (⟨#[]⟩ : ByteArray), .string (⟨#[]⟩ : ByteArray), .slice none 0 0]) (t := 63) ?hr ?_; (case hd => rfl); (case hg => rfl); (case hr => first | (go_simp; done) | (go_simp; rfl)); intro gb238 hg w11 hbox hb; have n0_ := Aside0.mk (Kd.R_below (by (with_reducible repeat (first | apply Kd.R_alloc | apply Kd.R_drewN | apply Kd.R_drew)); exact HO_4.out) hb); have n1_ := Aside0.mk (below_step (by repeat (first | (with_reducible first | exact HB.out | apply below_alloc | apply pw_below_drewN | apply below_drew1) | exact HB.out)) hb); have n2_ := Aside0.mk (hbox); have n3_ := Aside0.mk ((by rw [hg]; exact (below_size (by repeat (first | (with_reducible first | exact HB.out | apply below_alloc | apply pw_below_drewN | apply below_drew1) | exact HB.out))) : w.heap.size ≤ gb238)); have n4_ := Aside0.mk ((by rw [hg]; exact (below_size (by repeat (first | (with_reducible first | exact HB.out | apply below_alloc | apply pw_below_drewN | apply below_drew1) | exact HB.out))) : w.heap.size ≤ gb238)); clear HO_4; clear HB; have HO_4 := n0_; have HB := n1_; have BK238 := n2_; have GW238 := n3_; have GE238 := n4_; clear n0_ n1_ n2_ n3_ n4_; clear hb hbox hg; have hcz12_0 : w11.cell? ⟨gb238, 0, none⟩ = some (.string (⟨#[]⟩ : ByteArray)) := (blk_cell BK238.out 0).trans rfl; have hcz12_1 : w11.cell? ⟨gb238, 1, none⟩ = some (.string (⟨#[]⟩ : ByteArray)) := (blk_cell BK238.out 1).trans rfl; have hcz12_2 : w11.cell? ⟨gb238, 2, none⟩ = some (.slice none 0 0) := (blk_cell BK238.out 2).trans rfl; have hfz12_0 := blk_frozen BK238.out 0; have hfz12_1 := blk_frozen BK238.out 1; have hfz12_2 := blk_frozen BK238.out 2))
       (try simp only [Act.put, List.setIfInBounds_toArray, List.set_cons_zero, List.set_cons_succ])
       go_cut [7] (fun v7 wc => ∃ (kq : Nat) (x7_9 : ByteArray), v7 = .string x7_9 ∧ Aside0 (impl_SelectorText.j1 kq x4_1 x7_9 l0 (l0.length : Int) x16_1 ((rd_T63 l0 x16_1).f0) ((rd_T63 l0 x16_1).f1) ((rd_T63 l0 x16_1).f2) = some (r1, r2)) ∧ Aside0 (kq ≤ k1) ∧ Aside0 (Kd.R Kd.string 9 wc w.heap.size (fun _ => True) u4 x4_1) ∧ Aside0 (wc.heap[gb238]? = some (.cells #[.string ((rd_T63 l0 x16_1).f0), .string ((rd_T63 l0 x16_1).f1), (.slice A237_2 ((rd_T63 l0 x16_1).f2).length c237_2)] 63 (0, 0))) ∧ Aside0 (Below w.heap.size w wc))
       case first =>
        have H := HC10.out
        clear HC10
        by_cases c13 : ((rd_T63 l0 x16_1).f1).toList = ([] : List UInt8)
        ·rw [if_pos c13] at H
         have c13b0 : (((rd_T63 l0 x16_1).f1).toList == ([] : List UInt8)) = true := beq_iff_eq.mpr c13
         have c13b7 : ((rd_T63 l0 x16_1).f1).toList.isEmpty = true := by rw [beq_iff_eq.mp c13b0]; rfl
         have c13b8 : ¬ (((rd_T63 l0 x16_1).f1).toList.isEmpty = false) := fun h_ => by have h9_ := beq_iff_eq.mp c13b0; rw [h9_] at h_; cases h_
         have c13b1 : (((rd_T63 l0 x16_1).f1).toList != ([] : List UInt8)) = false := bne_eq_false_iff_eq.mpr c13
         clear c13
         (first | rw [c13b0] | simp only [c13b7, Bool.not_true, Bool.not_false] | (simp only [i64_w, i32_w]; rw [c13b0]) | skip)
         have H' := Aside0.mk H
         clear H
         go_wp2
         go_meet
         case rel => exact ⟨_, ((rd_T63 l0 x16_1).f0), (by first | rfl | (simp; done) | (simp [*]; done) | (simp [wrap64]; done)), H', ⟨by have := HK1.out; first | omega | exact Nat.le_refl _⟩, ⟨by (with_reducible repeat (first | apply Kd.R_alloc | apply Kd.R_drewN | apply Kd.R_drew)); exact Kd.R_mono (Kd.R_far (p := ⟨gb238, 2, none⟩) (Kd.R_far (p := ⟨gb238, 1, none⟩) (Kd.R_far (p := ⟨gb238, 0, none⟩) (Kd.R_types HO_4.out BK238.out (by decide)) (fun _ hk => hk.2) (.string ((rd_T63 l0 x16_1).f0))) (fun _ hk => hk.2) (.string ((rd_T63 l0 x16_1).f1))) (fun _ hk => hk.2) (.slice A237_2 ((rd_T63 l0 x16_1).f2).length c237_2)) (fun _ hk => trivial)⟩, ⟨by (with_reducible repeat (first | refine blk_drewN ?_ _ | refine blk_drew ?_ | refine blk_alloc ?_ _)); refine blk_put (cs := #[.string ((rd_T63 l0 x16_1).f0), .string ((rd_T63 l0 x16_1).f1), .slice none 0 0]) ?_ 2 _ rfl; (with_reducible repeat (first | refine blk_drewN ?_ _ | refine blk_drew ?_ | refine blk_alloc ?_ _)); refine blk_put (cs := #[.string ((rd_T63 l0 x16_1).f0), .string (⟨#[]⟩ : ByteArray), .slice none 0 0]) ?_ 1 _ rfl; (with_reducible repeat (first | refine blk_drewN ?_ _ | refine blk_drew ?_ | refine blk_alloc ?_ _)); refine blk_put (cs := #[.string (⟨#[]⟩ : ByteArray), .string (⟨#[]⟩ : ByteArray), .slice none 0 0]) ?_ 0 _ rfl; (with_reducible repeat (first | refine blk_drewN ?_ _ | refine blk_drew ?_ | refine blk_alloc ?_ _)); exact BK238.out⟩, ⟨by repeat (first | (with_reducible first | exact HB.out | apply below_alloc | apply pw_below_drewN | apply below_drew1 | refine below_set ?_ GE238.out) | exact HB.out)⟩⟩
        ·rw [if_neg c13] at H
         have c13b0 : (((rd_T63 l0 x16_1).f1).toList == ([] : List UInt8)) = false := beq_eq_false_iff_ne.mpr c13
         have c13b7 : ((rd_T63 l0 x16_1).f1).toList.isEmpty = false := Bool.eq_false_iff.mpr (fun h_ => absurd (List.isEmpty_iff.mp h_) (beq_eq_false_iff_ne.mp c13b0))
         have c13b8 : ¬ (((rd_T63 l0 x16_1).f1).toList.isEmpty = true) := fun h_ => absurd (List.isEmpty_iff.mp h_) (beq_eq_false_iff_ne.mp c13b0)
         have c13b1 : (((rd_T63 l0 x16_1).f1).toList != ([] : List UInt8)) = true := bne_iff_ne.mpr c13
         (first | rw [c13b0] | simp only [c13b7, Bool.not_true, Bool.not_false] | (simp only [i64_w, i32_w]; rw [c13b0]) | skip)
         by_cases c14 : 1 + ((rd_T63 l0 x16_1).f1).size ≤ 9223372036854775807
         ·rw [if_pos c14] at H
          have c14b0 := eq_true c14
          have c14b1 : decide (1 + ((rd_T63 l0 x16_1).f1).size ≤ 9223372036854775807) = true := decide_eq_true c14
          try have c14b2 : (9223372036854775807 < 1 + ((rd_T63 l0 x16_1).f1).size) = False := eq_false (Nat.not_lt.2 c14)
          by_cases c15 : ((rd_T63 l0 x16_1).f0).size + ((⟨#[35]⟩ : ByteArray) ++ ((rd_T63 l0 x16_1).f1)).size ≤ 9223372036854775807
          ·rw [if_pos c15] at H
           have c15b0 := eq_true c15
           have c15b1 : decide (((rd_T63 l0 x16_1).f0).size + ((⟨#[35]⟩ : ByteArray) ++ ((rd_T63 l0 x16_1).f1)).size ≤ 9223372036854775807) = true := decide_eq_true c15
           try have c15b2 : (9223372036854775807 < ((rd_T63 l0 x16_1).f0).size + ((⟨#[35]⟩ : ByteArray) ++ ((rd_T63 l0 x16_1).f1)).size) = False := eq_false (Nat.not_lt.2 c15)
           try have c15b7 : (9223372036854775807 < ((rd_T63 l0 x16_1).f0).size + (1 + ((rd_T63 l0 x16_1).f1).size)) = False := by have h9_ := c15b2; simp only [ByteArray.size_append] at h9_; exact h9_
           have H' := Aside0.mk H
           clear H
           have hcz16_0 : w11.cell? ⟨gb238, 0, none⟩ = some (.string (⟨#[]⟩ : ByteArray)) := (blk_cell BK238.out 0).trans rfl
           have hcz16_1 : w11.cell? ⟨gb238, 1, none⟩ = some (.string (⟨#[]⟩ : ByteArray)) := (blk_cell BK238.out 1).trans rfl
           have hcz16_2 : w11.cell? ⟨gb238, 2, none⟩ = some (.slice none 0 0) := (blk_cell BK238.out 2).trans rfl
           have hfz16_0 := blk_frozen BK238.out 0
           have hfz16_1 := blk_frozen BK238.out 1
           have hfz16_2 := blk_frozen BK238.out 2
           go_wp2
           go_meet
           case rel => exact ⟨_, (((rd_T63 l0 x16_1).f0) ++ ((⟨#[35]⟩ : ByteArray) ++ ((rd_T63 l0 x16_1).f1))), (by first | rfl | (simp; done) | (simp [*]; done) | (simp [wrap64]; done)), H', ⟨by have := HK1.out; first | omega | exact Nat.le_refl _⟩, ⟨by (with_reducible repeat (first | apply Kd.R_alloc | apply Kd.R_drewN | apply Kd.R_drew)); exact Kd.R_mono (Kd.R_far (p := ⟨gb238, 2, none⟩) (Kd.R_far (p := ⟨gb238, 1, none⟩) (Kd.R_far (p := ⟨gb238, 0, none⟩) (Kd.R_types HO_4.out BK238.out (by decide)) (fun _ hk => hk.2) (.string ((rd_T63 l0 x16_1).f0))) (fun _ hk => hk.2) (.string ((rd_T63 l0 x16_1).f1))) (fun _ hk => hk.2) (.slice A237_2 ((rd_T63 l0 x16_1).f2).length c237_2)) (fun _ hk => trivial)⟩, ⟨by (with_reducible repeat (first | refine blk_drewN ?_ _ | refine blk_drew ?_ | refine blk_alloc ?_ _)); refine blk_put (cs := #[.string ((rd_T63 l0 x16_1).f0), .string ((rd_T63 l0 x16_1).f1), .slice none 0 0]) ?_ 2 _ rfl; (with_reducible repeat (first | refine blk_drewN ?_ _ | refine blk_drew ?_ | refine blk_alloc ?_ _)); refine blk_put (cs := #[.string ((rd_T63 l0 x16_1).f0), .string (⟨#[]⟩ : ByteArray), .slice none 0 0]) ?_ 1 _ rfl; (with_reducible repeat (first | refine blk_drewN ?_ _ | refine blk_drew ?_ | refine blk_alloc ?_ _)); refine blk_put (cs := #[.string (⟨#[]⟩ : ByteArray), .string (⟨#[]⟩ : ByteArray), .slice none 0 0]) ?_ 0 _ rfl; (with_reducible repeat (first | refine blk_drewN ?_ _ | refine blk_drew ?_ | refine blk_alloc ?_ _)); exact BK238.out⟩, ⟨by repeat (first | (with_reducible first | exact HB.out | apply below_alloc | apply pw_below_drewN | apply below_drew1 | refine below_set ?_ GE238.out) | exact HB.out)⟩⟩
          ·rw [if_neg c15] at H
           exact absurd H (by simp)
         ·rw [if_neg c14] at H
          exact absurd H (by simp)
       case rest =>
        clear HC10
        (try clear c1);(try clear c2);(try clear p2);(try clear q2);(try clear hx2);(try clear c3);(try clear c4);(try clear c7);(try clear c7b0);(try clear c8);(try clear c8b0);(try clear c9);(try clear c9b0);(try clear c13);(try clear c13b0);(try clear c13b1);(try clear c14);(try clear c14b0);(try clear c14b1);(try clear c14b2);(try clear c15);(try clear c15b0);(try clear c15b1);(try clear c15b2);(try clear hcz12_0);(try clear hcz12_1);(try clear hcz12_2);(try clear hcz16_0);(try clear hcz16_1);(try clear hcz16_2);(try clear hfz12_0);(try clear hfz12_1);(try clear hfz12_2);(try clear hfz16_0);(try clear hfz16_1);(try clear hfz16_2);(try clear hx237_0);(try clear hx237_1);(try clear hx237_2);(try clear p2);(try clear p237);(try clear q237)
        obtain ⟨kq, x7_9, rfl, HA, HJ9, HO_4, BK238, HB⟩ := hcut
        cases kq with
        | zero => exact absurd HA.out (by simp [impl_SelectorText.j1])
        | succ kj9 =>
         have H := HA.out
         clear HA
         simp only [impl_SelectorText.j1] at H
         have H' := Aside0.mk H
         clear H
         have hcz17_0 : wc.cell? ⟨gb238, 0, none⟩ = some (.string ((rd_T63 l0 x16_1).f0)) := (blk_cell BK238.out 0).trans rfl
         have hcz17_1 : wc.cell? ⟨gb238, 1, none⟩ = some (.string ((rd_T63 l0 x16_1).f1)) := (blk_cell BK238.out 1).trans rfl
         have hcz17_2 : wc.cell? ⟨gb238, 2, none⟩ = some (.slice A237_2 ((rd_T63 l0 x16_1).f2).length c237_2) := (blk_cell BK238.out 2).trans rfl
         have hfz17_0 := blk_frozen BK238.out 0
         have hfz17_1 := blk_frozen BK238.out 1
         have hfz17_2 := blk_frozen BK238.out 2
         go_wp2
         go_loopg [7, 33] kj9 (fun kq v7 v33 w' => ∃ (x7_3 : ByteArray) (x33_3 : Int), v7 = .string x7_3 ∧ v33 = .int .i64 x33_3 ∧ Aside0 (impl_SelectorText.l1 kq x4_1 x7_3 l0 (l0.length : Int) x16_1 ((rd_T63 l0 x16_1).f2) (((rd_T63 l0 x16_1).f2).length : Int) x33_3 = some (r1, r2)) ∧ Aside0 (kq ≤ kj9) ∧ Aside0 (Kd.R Kd.string 9 w' w.heap.size (fun _ => True) u4 x4_1) ∧ Aside0 (w'.heap[gb238]? = some (.cells #[.string ((rd_T63 l0 x16_1).f0), .string ((rd_T63 l0 x16_1).f1), (.slice A237_2 ((rd_T63 l0 x16_1).f2).length c237_2)] 63 (0, 0))) ∧ Aside0 (Below w.heap.size w w'))
         case atStart => exact ⟨(x7_9), (0), (by first | rfl | (simp; done) | (simp [*]; done) | (simp [wrap64]; done)), (by first | rfl | (simp; done) | (simp [*]; done) | (simp [wrap64]; done)), H', ⟨Nat.le_refl _⟩, ⟨by (with_reducible repeat (first | apply Kd.R_alloc | apply Kd.R_drewN | apply Kd.R_drew)); exact HO_4.out⟩, ⟨by (with_reducible repeat (first | refine blk_drewN ?_ _ | refine blk_drew ?_ | refine blk_alloc ?_ _)); exact BK238.out⟩, ⟨by repeat (first | (with_reducible first | exact HB.out | apply below_alloc | apply pw_below_drewN | apply below_drew1 | refine below_set ?_ GE238.out) | exact HB.out)⟩⟩
         case round =>
          clear H'
          (try clear c1);(try clear c2);(try clear p2);(try clear q2);(try clear hx2);(try clear c3);(try clear c4);(try clear c7);(try clear c7b0);(try clear c8);(try clear c8b0);(try clear c9);(try clear c9b0);(try clear c13);(try clear c13b0);(try clear c13b1);(try clear c14);(try clear c14b0);(try clear c14b1);(try clear c14b2);(try clear c15);(try clear c15b0);(try clear c15b1);(try clear c15b2);(try clear hcz12_0);(try clear hcz12_1);(try clear hcz12_2);(try clear hcz16_0);(try clear hcz16_1);(try clear hcz16_2);(try clear hcz17_0);(try clear hcz17_1);(try clear hcz17_2);(try clear hfz12_0);(try clear hfz12_1);(try clear hfz12_2);(try clear hfz16_0);(try clear hfz16_1);(try clear hfz16_2);(try clear hfz17_0);(try clear hfz17_1);(try clear hfz17_2);(try clear hx237_0);(try clear hx237_1);(try clear hx237_2);(try clear p2);(try clear p237);(try clear q2);(try clear q237)
          obtain ⟨x7_3, x33_3, rfl, rfl, HA, HK3, HO_4, BK238, HB⟩ := hrel
          cases gk with
          | zero => exact absurd HA.out (by simp [impl_SelectorText.l1])
          | succ k3 =>
           have H := HA.out
           clear HA
           simp only [impl_SelectorText.l1] at H
           by_cases c18 : x33_3 < (((rd_T63 l0 x16_1).f2).length : Int)
           ·rw [if_pos c18] at H
            have c18b0 : decide (x33_3 < (((rd_T63 l0 x16_1).f2).length : Int)) = true := decide_eq_true c18
            clear c18
            by_cases c19 : 0 ≤ x33_3
            ·rw [if_pos c19] at H
             have c19b0 : decide (0 ≤ x33_3) = true := decide_eq_true c19
             clear c19
             by_cases c20 : x33_3 < (((rd_T63 l0 x16_1).f2).length : Int)
             ·rw [if_pos c20] at H
              have c20b0 : decide (x33_3 < (((rd_T63 l0 x16_1).f2).length : Int)) = true := decide_eq_true c20
              clear c20
              by_cases c21 : 1 + (rdOf ByteArray.empty ((rd_T63 l0 x16_1).f2) x33_3).size ≤ 9223372036854775807
              ·rw [if_pos c21] at H
               have c21b0 := eq_true c21
               have c21b1 : decide (1 + (rdOf ByteArray.empty ((rd_T63 l0 x16_1).f2) x33_3).size ≤ 9223372036854775807) = true := decide_eq_true c21
               try have c21b2 : (9223372036854775807 < 1 + (rdOf ByteArray.empty ((rd_T63 l0 x16_1).f2) x33_3).size) = False := eq_false (Nat.not_lt.2 c21)
               by_cases c22 : x7_3.size + ((⟨#[46]⟩ : ByteArray) ++ (rdOf ByteArray.empty ((rd_T63 l0 x16_1).f2) x33_3)).size ≤ 9223372036854775807
               ·rw [if_pos c22] at H
                have c22b0 := eq_true c22
                have c22b1 : decide (x7_3.size + ((⟨#[46]⟩ : ByteArray) ++ (rdOf ByteArray.empty ((rd_T63 l0 x16_1).f2) x33_3)).size ≤ 9223372036854775807) = true := decide_eq_true c22
                try have c22b2 : (9223372036854775807 < x7_3.size + ((⟨#[46]⟩ : ByteArray) ++ (rdOf ByteArray.empty ((rd_T63 l0 x16_1).f2) x33_3)).size) = False := eq_false (Nat.not_lt.2 c22)
                try have c22b7 : (9223372036854775807 < x7_3.size + (1 + (rdOf ByteArray.empty ((rd_T63 l0 x16_1).f2) x33_3).size)) = False := by have h9_ := c22b2; simp only [ByteArray.size_append] at h9_; exact h9_
                have H' := Aside0.mk H
                clear H
                have p239 : 0 ≤ (x33_3 : Int) := of_decide_eq_true (by first | (with_reducible assumption) | assumption)
                have q239 : x33_3 < (((rd_T63 l0 x16_1).f2).length : Int) := of_decide_eq_true (by first | (with_reducible assumption) | assumption)
                obtain ⟨ad239, e239, hx239_0⟩ := Kd.at_string HR237_2.out x33_3 p239 q239
                cases e239
                replace hx239_0 := (HB.out.cell (World.block_lt_of_cell? w _ hx239_0)).trans hx239_0
                replace p239 := eq_true p239
                replace q239 := eq_true q239
                go_wp2
                go_roundg k3
                case measure => have := HK1.out; have := HJ9.out; have := HK3.out; omega
                case rel => exact ⟨(x7_3 ++ ((⟨#[46]⟩ : ByteArray) ++ (rdOf ByteArray.empty ((rd_T63 l0 x16_1).f2) x33_3))), (wrap64 (x33_3 + 1)), (by first | rfl | (simp; done) | (simp [*]; done) | (simp [wrap64]; done)), (by first | rfl | (simp; done) | (simp [*]; done) | (simp [wrap64]; done)), H', ⟨by have := HK1.out; have := HJ9.out; have := HK3.out; omega⟩, ⟨by (with_reducible repeat (first | apply Kd.R_alloc | apply Kd.R_drewN | apply Kd.R_drew)); exact HO_4.out⟩, ⟨by (with_reducible repeat (first | refine blk_drewN ?_ _ | refine blk_drew ?_ | refine blk_alloc ?_ _)); exact BK238.out⟩, ⟨by repeat (first | (with_reducible first | exact HB.out | apply below_alloc | apply pw_below_drewN | apply below_drew1 | refine below_set ?_ GE238.out) | exact HB.out)⟩⟩
               ·rw [if_neg c22] at H
                exact absurd H (by simp)
              ·rw [if_neg c21] at H
               exact absurd H (by simp)
             ·rw [if_neg c20] at H
              exact absurd H (by simp)
            ·rw [if_neg c19] at H
             exact absurd H (by simp)
           ·rw [if_neg c18] at H
            have c18b0 : decide (x33_3 < (((rd_T63 l0 x16_1).f2).length : Int)) = false := decide_eq_false c18
            clear c18
            by_cases c23 : x4_1.length < 8796093022208
            ·rw [if_pos c23] at H
             have LMc23 := Aside0.mk c23
             clear c23
             obtain ⟨y240, hy240⟩ : ∃ y_ : List ByteArray, y_ = (x4_1 ++ [x7_3]) := ⟨_, rfl⟩
             replace H : (impl_SelectorText.l0 k3 y240 l0 (l0.length : Int) (wrap64 (x16_1 + 1))) = some (r1, r2) := by first | (rw [hy240]; with_reducible exact H) | (have H2_ := (Option.bind_some _ _).symm.trans H; rw [hy240]; with_reducible exact H2_) | (have H2_ := (Option.bind_some _ _).symm.trans H; with_reducible exact H2_) | with_reducible exact H | (rw [hy240]; exact H) | exact H
             have Ny240 := Aside0.mk hy240
             clear hy240
             have H' := Aside0.mk H
             clear H
             go_wp2_with (first | ((with_reducible refine gate_builtin (b := .append) (xs := #[.tmp 42, .tmp 44]) rfl ?_); at_builtin; refine Kd.R_append Kd.string (w0 := w) w.heap.size rfl (.tmp 42) (.tmp 44) 51 9 (.string ⟨#[]⟩) 16 rfl Tryd.underlying51 info9 rfl (by decide) (by omega) u4 x4_1 x7_3 [.string x7_3] (fun _ => True) (fun _ => False) rfl rfl ?aP (fun _ hk => hk.elim) ?aF ?aO ?aB ?aS ?aL ?_; (case aP => exact rfl); (case aB => exact (by repeat (first | (with_reducible first | exact HB.out | apply below_alloc | apply pw_below_drewN | apply below_drew1 | refine below_set ?_ GE238.out) | exact HB.out))); (case aF => exact (fun _ _ => trivial)); (case aO => exact (by (with_reducible repeat (first | apply Kd.R_alloc | apply Kd.R_drewN | apply Kd.R_drew)); exact HO_4.out)); (case aS => exact (below_size (by repeat (first | (with_reducible first | exact HB.out | apply below_alloc | apply pw_below_drewN | apply below_drew1 | refine below_set ?_ GE238.out) | exact HB.out)))); (case aL => have := LMc23.out; omega); intro v241 w24 ho hb hg hat; rw [← Ny240.out] at ho; have n0_ := Aside0.mk (blk_grown (g := gb238) (o := .cells #[.string ((rd_T63 l0 x16_1).f0), .string ((rd_T63 l0 x16_1).f1), .slice A237_2 ((rd_T63 l0 x16_1).f2).length c237_2] 63 (0, 0)) (by (with_reducible repeat (first | refine blk_drewN ?_ _ | refine blk_drew ?_ | refine blk_alloc ?_ _)); exact BK238.out) hg (Kd.R_ne HO_4.out BK238.out (by decide))); have n1_ := Aside0.mk (hb); have n2_ := Aside0.mk (ho); clear BK238; clear HB; clear HO_4; have BK238 := n0_; have HB := n1_; have HO242 := n2_; clear n0_ n1_ n2_; clear ho hb hg hat))
             go_roundg k3
             case measure => have := HK1.out; have := HJ9.out; have := HK3.out; omega
             case rel => exact ⟨(y240), (wrap64 (x16_1 + 1)), (by first | rfl | (simp; done) | (simp [*]; done) | (simp [wrap64]; done)), H', ⟨by have := HK1.out; have := HJ9.out; have := HK3.out; omega⟩, ⟨by (with_reducible repeat (first | apply Kd.R_alloc | apply Kd.R_drewN | apply Kd.R_drew)); exact HO242.out⟩, ⟨by repeat (first | (with_reducible first | exact HB.out | apply below_alloc | apply pw_below_drewN | apply below_drew1 | refine below_set ?_ GE238.out) | exact HB.out)⟩⟩
            ·rw [if_neg c23] at H
             exact absurd H (by simp)
      ·rw [if_neg c9] at H
       exact absurd H (by simp)
     ·rw [if_neg c8] at H
      exact absurd H (by simp)
    ·rw [if_neg c7] at H
     have c7b0 : decide (x16_1 < (l0.length : Int)) = false := decide_eq_false c7
     clear c7
     replace H := Option.bind_eq_some_iff.mp H
     obtain ⟨t236, A250, H⟩ := H
     replace H : (some (t236, true)) = some (r1, r2) := H
     have A25 := Aside0.mk A250
     clear A250
     simp only [Option.some.injEq, Prod.mk.injEq] at H
     obtain ⟨rfl, rfl⟩ := H
     obtain ⟨Ao26, co26, eo26⟩ := Kd.R_slice HO_4.out
     subst eo26
     go_wp2_with (first | ((with_reducible refine gate_callee (f := 21) rfl ?_); refine goesL_ (some 48) rfl rfl Tryd.func21 (by kernel_rfl) rfl #[.slice Ao26 x4_1.length co26, .string (⟨#[32]⟩ : ByteArray)] rfl (by (try simp only [List.map_toArray, List.map_cons, List.map_nil]); first | done | rfl | (simp only [List.length_drop, List.length_take]; rfl)) ?_; (with_reducible refine (strings_Join.calls _ _ x4_1 (⟨#[32]⟩ : ByteArray) t236 _ ?side1 ?side2 A25.out).mono ?_); (case side1 => repeat (first | exact (Kd.R_reads' HO_4.out).2.2 | (with_reducible refine Kd.C_alloc ?_ _) | (with_reducible refine Kd.C_drewN ?_ _) | (with_reducible refine Kd.C_drew ?_))); (case side2 => exact (Kd.R_reads' HO_4.out).2.1); rintro e w27 ⟨rfl, hb⟩; refine ⟨_, rfl, ?_⟩; have n0_ := Aside0.mk (Kd.R_below (by (with_reducible repeat (first | apply Kd.R_alloc | apply Kd.R_drewN | apply Kd.R_drew)); exact HO_4.out) hb); have n1_ := Aside0.mk (below_step (by repeat (first | (with_reducible first | exact HB.out | apply below_alloc | apply pw_below_drewN | apply below_drew1) | exact HB.out)) hb); clear HO_4; clear HB; have HO_4 := n0_; have HB := n1_; clear n0_ n1_; (try clear hb); (try clear hb2); (try clear hk); (try clear hi)))
     go_ret2
     exact ⟨by first | rfl | (simp [errW_none, errW_some] <;> rfl) | (simp [*, errW_none, errW_some] <;> rfl), by repeat (first | (with_reducible first | exact HB.out | apply below_alloc | apply pw_below_drewN | apply below_drew1) | exact HB.out)⟩
 ·replace c3 := Bool.eq_false_iff.mpr c3
  subst c3
  have H1 : (some ((⟨#[]⟩ : ByteArray), false)) = some (r1, r2) := by rw [if_neg (show ¬ (false = true) by decide)] at H; exact H
  clear H
  have H := H1
  clear H1
  simp only [Option.some.injEq, Prod.mk.injEq] at H
  obtain ⟨rfl, rfl⟩ := H
  go_enter Tryd.func20, Tryd.ntmps20
  go_wp2_with (first | ((with_reducible refine gate_callee (f := 40) rfl ?_); refine goesL_ (some 11) rfl rfl Tryd.func40 (by kernel_rfl) rfl #[.slice A0 l0.length c0] rfl (by (try simp only [List.map_toArray, List.map_cons, List.map_nil]); first | done | rfl | (simp only [List.length_drop, List.length_take]; rfl)) ?_; (with_reducible refine (impl_isSelector.calls k _ _ l0 false _ ?side1 ?side2 A2.out).mono ?_); (case side1 => repeat (first | exact HR0.out | (with_reducible refine Kd.C_alloc ?_ _) | (with_reducible refine Kd.C_drewN ?_ _) | (with_reducible refine Kd.C_drew ?_))); (case side2 => exact HC0.out); rintro e w28 ⟨rfl, hb⟩; refine ⟨_, rfl, ?_⟩; have n0_ := Aside0.mk (below_step (by repeat (first | (with_reducible first | exact HB.out | apply below_alloc | apply pw_below_drewN | apply below_drew1) | exact HB.out)) hb); clear HB; have HB := n0_; clear n0_; (try clear hb); (try clear hb2); (try clear hk); (try clear hi)))
  go_ret2
  exact ⟨by first | rfl | (simp [errW_none, errW_some] <;> rfl) | (simp [*, errW_none, errW_some] <;> rfl), by repeat (first | (with_reducible first | exact HB.out | apply below_alloc | apply pw_below_drewN | apply below_drew1) | exact HB.out)⟩

/-! ### impl_lower: function 45 -/
def impl_lower.f (a0 : ByteArray) : Option ByteArray := if a0.size ≤ 9223372036854775807 then some (lowB a0) else none
set_option maxHeartbeats 8000000 in
set_option maxRecDepth 100000 in
theorem impl_lower.calls (a0 : ByteArray) (r : ByteArray) (w : World) (h : impl_lower.f a0 = some r) :
  Calls Tryd.prog 45 #[.string a0] w fun e w' => e = .returned (.string r) ∧ Below w.heap.size w w' := by
 unfold impl_lower.f at h
 by_cases hs : a0.size ≤ 9223372036854775807
 ·rw [if_pos hs] at h
  obtain rfl := Option.some.inj h
  have HB := Aside0.mk (Below.refl w.heap.size w)
  have hbl : (bytesOf a0).length = a0.size := bytesOf_length a0
  go_enter Tryd.func45, Tryd.ntmps45
  go_wp2_with (first | ((with_reducible refine gate_dst (N := 7) rfl ?_); refine low_conv_ 5 rfl (N := 7) rfl 9 69 _ rfl a0 rfl Tryd.underlying9 Tryd.underlying69 Tryd.underlying5 ?_; intro g1 w1 c1 hg1 hr1 hb1; have n0_ := Aside0.mk (below_step (by repeat (first | (with_reducible first | exact HB.out | apply below_alloc | apply pw_below_drewN | apply below_drew1) | exact HB.out)) hb1); have n1_ := Aside0.mk (Nat.le_trans (below_size (by repeat (first | (with_reducible first | exact HB.out | apply below_alloc | apply pw_below_drewN | apply below_drew1) | exact HB.out))) hg1); have n2_ := Aside0.mk hr1; clear HB hg1 hr1 hb1; have HB := n0_; have HG := n1_; have HR := n2_; clear n0_ n1_ n2_))
  go_loopg [10] a0.size (fun kq v10 w' => ∃ i : Nat, v10 = .int .i64 (i : Int) ∧ Aside0 (i + kq = a0.size) ∧ Aside0 (LowRow g1 5 w' (lowMix (bytesOf a0) i)) ∧ Aside0 (Below w.heap.size w w'))
  case atStart => exact ⟨0, rfl, ⟨Nat.zero_add _⟩, ⟨by show LowRow _ _ _ _; have := HR.out; simpa [lowMix] using this⟩, ⟨by repeat (first | (with_reducible first | exact HB.out | apply below_alloc | apply pw_below_drewN | apply below_drew1) | exact HB.out)⟩⟩
  case round =>
   clear HB HR
   obtain ⟨i, rfl, HK, HR, HB⟩ := hrel
   cases gk with
   | zero =>
    have hik : i = a0.size := HK.out
    subst hik
    have ci : decide (((a0.size : Nat) : Int) < (a0.size : Int)) = false := decide_eq_false (by omega)
    have hcv := string_of_reads (P := Tryd.prog) (c := c1) Tryd.underlying69 Tryd.underlying5 Tryd.underlying9 (low_reads HR.out (by rw [lowMix_len _ _ (by omega)]; exact hbl) hs)
    rw [show lowMix (bytesOf a0) a0.size = (bytesOf a0).map lowC from by rw [← hbl]; exact lowMix_all _] at hcv
    go_wp2
    go_ret
    exact ⟨rfl, by repeat (first | (with_reducible first | exact HB.out | apply below_alloc | apply pw_below_drewN | apply below_drew1) | exact HB.out)⟩
   | succ k1 =>
    have hik : i < a0.size := by have := HK.out; omega
    have ci : decide ((i : Int) < (a0.size : Int)) = true := decide_eq_true (by omega)
    have hll : (lowMix (bytesOf a0) i).length = a0.size := by rw [lowMix_len _ _ (by omega)]; exact hbl
    obtain ⟨hx0, hf0⟩ := low_cell HR.out (i : Int) (by omega) (by omega)
    simp only [Int.toNat_natCast] at hx0 hf0
    have hxv := lowMix_at (bytesOf a0) i (by omega)
    rw [show rd (lowMix (bytesOf a0) i) (i : Int) = (bytesOf a0).getD i 0 from hxv] at hx0
    have hst := lowMix_step (bytesOf a0) i (by omega)
    have hsm := lowMix_same (bytesOf a0) i (by omega)
    have hw1 : wrap64 ((i : Int) + 1) = ((i + 1 : Nat) : Int) := low_wrap i a0.size hik hs
    obtain ⟨x, hxe⟩ : ∃ x, (bytesOf a0).getD i 0 = x := ⟨_, rfl⟩
    rw [hxe] at hx0 hst hsm
    clear hxv hxe
    have HS := Aside0.mk hst
    have HM := Aside0.mk hsm
    have HW := Aside0.mk hw1
    have HL := Aside0.mk hll
    clear hst hsm hw1 hll
    have p9 := eq_true (show 0 ≤ (i : Int) by omega)
    have q9 := eq_true (show (i : Int) < (a0.size : Int) by omega)
    have same : lowC x = x → ∀ w', LowRow g1 5 w' (lowMix (bytesOf a0) i) → LowRow g1 5 w' (lowMix (bytesOf a0) (i + 1)) := fun hc w' hr => by rw [HM.out hc]; exact hr
    by_cases h1 : 65 ≤ x
    ·have d1 : decide (65 ≤ x) = true := decide_eq_true h1
     by_cases h2 : x ≤ 90
     ·have d2 : decide (x ≤ 90) = true := decide_eq_true h2
      have hlc : lowC x = (x + 32) % 256 := if_pos ⟨h1, h2⟩
      have hp0 := low_set HR.out (i : Int) (by omega) (by have := HL.out; omega) ((x + 32) % 256)
      simp only [Int.toNat_natCast] at hp0
      have HP := Aside0.mk hp0
      clear hp0
      clear same h1 h2
      go_wp2_with (first | ((with_reducible refine gate_store (t := 5) (p := 25) rfl ?_); refine store_event (t := 5) (p := 25) (v := ?vo_w11) (w1 := (wr.setCell ⟨g1, i, none⟩ (.int .u8 ((x + 32) % 256)))) ?hg ?ho ?hn ?hr ?_; (case ho => rfl); (case hg => rfl); (case hn => rfl); (case hr => first | (go_simp; done) | (go_simp; rfl)); intro w11 hw; have n0_ := Aside0.mk (show LowRow g1 5 w11 (lowMix (bytesOf a0) (i + 1)) from by rw [hw, HS.out, hlc]; exact HP.out); have n1_ := Aside0.mk ((by rw [hw]; exact below_set (HB.out) HG.out : Below w.heap.size w w11)); clear HP HR HB; have HR := n0_; have HB := n1_; clear n0_ n1_ hw))
      go_roundg k1
      case measure => omega
      case rel => exact ⟨i + 1, (by first | rfl | exact congrArg (Value.int .i64) HW.out | exact congrArg (Value.int .i64) (by omega)), ⟨by have := HK.out; omega⟩, ⟨HR.out⟩, ⟨by repeat (first | (with_reducible first | exact HB.out | apply below_alloc | apply pw_below_drewN | apply below_drew1) | exact HB.out)⟩⟩
     ·have d2 : decide (x ≤ 90) = false := decide_eq_false h2
      have hr2 := Aside0.mk (same (if_neg (fun hh => h2 hh.2)) _ HR.out)
      clear same h1 h2
      go_wp2
      go_roundg k1
      case measure => omega
      case rel => exact ⟨i + 1, (by first | rfl | exact congrArg (Value.int .i64) HW.out | exact congrArg (Value.int .i64) (by omega)), ⟨by have := HK.out; omega⟩, ⟨hr2.out⟩, ⟨by repeat (first | (with_reducible first | exact HB.out | apply below_alloc | apply pw_below_drewN | apply below_drew1) | exact HB.out)⟩⟩
    ·have d1 : decide (65 ≤ x) = false := decide_eq_false h1
     have hr2 := Aside0.mk (same (if_neg (fun hh => h1 hh.1)) _ HR.out)
     clear same h1
     go_wp2
     go_roundg k1
     case measure => omega
     case rel => exact ⟨i + 1, (by first | rfl | exact congrArg (Value.int .i64) HW.out | exact congrArg (Value.int .i64) (by omega)), ⟨by have := HK.out; omega⟩, ⟨hr2.out⟩, ⟨by repeat (first | (with_reducible first | exact HB.out | apply below_alloc | apply pw_below_drewN | apply below_drew1) | exact HB.out)⟩⟩
 ·rw [if_neg hs] at h; cases h

-- NOT PRINTED: function 79 (strings_trimLeftByte)

-- NOT PRINTED: function 80 (strings_trimRightByte)

-- NOT PRINTED: function 81 (strings_makeASCIISet)

-- NOT PRINTED: function 88 (strings_asciiSet_contains)

-- NOT PRINTED: function 82 (strings_trimLeftASCII)

-- NOT PRINTED: function 83 (strings_trimRightASCII)

-- NOT PRINTED: function 112 (utf8_decodeRuneInStringSlow)

-- NOT PRINTED: function 98 (utf8_DecodeRuneInString)

-- NOT PRINTED: function 114 (bytealg_IndexByteString)

-- NOT PRINTED: function 109 (stringslite_IndexByte)

-- NOT PRINTED: function 101 (strings_IndexByte)

-- NOT PRINTED: function 102 (utf8_ValidRune)

-- NOT PRINTED: function 103 (bytealg_Cutover)

-- NOT PRINTED: function 104 (bytealg_IndexString)

-- NOT PRINTED: function 86 (strings_IndexRune)

-- NOT PRINTED: function 99 (strings_ContainsRune)

-- NOT PRINTED: function 84 (strings_trimLeftUnicode)

-- NOT PRINTED: function 113 (utf8_RuneStart)

-- NOT PRINTED: function 100 (utf8_DecodeLastRuneInString)

-- NOT PRINTED: function 85 (strings_trimRightUnicode)

-- NOT PRINTED: function 65 (strings_Trim)

/-! ### impl_trimmed: function 47 -/
def laid227_ren_ : Go.Shelf.Ren := ⟨fun | 227 => 81 | n => n, fun | 116 => 109 | n => n, fun | 1 => 0 | 3 => 1 | 4 => 2 | n => n⟩
theorem laid227_ : Go.Proofs.Lays.n227 Tryd.prog laid227_ren_ := {
 mixed := by kernel_rfl
 f227 := Tryd.func81.trans (congrArg some (by kernel_rfl))
 t0 := Tryd.underlying0
 a0 := Tryd.isAgg0
 z0 := Tryd.sizeOf0
 v0 := Tryd.zeroValue0
 t3 := Tryd.underlying3
 a3 := Tryd.isAgg3
 z3 := Tryd.sizeOf3
 v3 := Tryd.zeroValue3
 t4 := Tryd.underlying4
 a4 := Tryd.isAgg4
 z4 := Tryd.sizeOf4
 v4 := Tryd.zeroValue4
 t5 := Tryd.underlying5
 a5 := Tryd.isAgg5
 z5 := Tryd.sizeOf5
 v5 := Tryd.zeroValue5
 t9 := Tryd.underlying9
 a9 := Tryd.isAgg9
 z9 := Tryd.sizeOf9
 v9 := Tryd.zeroValue9
 t116 := Tryd.underlying109
 a116 := Tryd.isAgg109
 z116 := Tryd.sizeOf109 }
def laid233_ren_ : Go.Shelf.Ren := ⟨fun | 228 => 88 | 233 => 82 | n => n, fun | 116 => 109 | 124 => 113 | n => n, fun | 1 => 0 | 3 => 1 | 4 => 2 | n => n⟩
theorem laid233_ : Go.Proofs.Lays.n233 Tryd.prog laid233_ren_ := {
 mixed := by kernel_rfl
 f228 := Tryd.func88.trans (congrArg some (by kernel_rfl))
 f233 := Tryd.func82.trans (congrArg some (by kernel_rfl))
 t0 := Tryd.underlying0
 a0 := Tryd.isAgg0
 z0 := Tryd.sizeOf0
 v0 := Tryd.zeroValue0
 t3 := Tryd.underlying3
 a3 := Tryd.isAgg3
 z3 := Tryd.sizeOf3
 v3 := Tryd.zeroValue3
 t4 := Tryd.underlying4
 a4 := Tryd.isAgg4
 z4 := Tryd.sizeOf4
 v4 := Tryd.zeroValue4
 t5 := Tryd.underlying5
 a5 := Tryd.isAgg5
 z5 := Tryd.sizeOf5
 v5 := Tryd.zeroValue5
 t9 := Tryd.underlying9
 a9 := Tryd.isAgg9
 z9 := Tryd.sizeOf9
 v9 := Tryd.zeroValue9
 t116 := Tryd.underlying109
 a116 := Tryd.isAgg109
 z116 := Tryd.sizeOf109
 t124 := Tryd.underlying113
 a124 := Tryd.isAgg113
 z124 := Tryd.sizeOf113
 v124 := Tryd.zeroValue113 }
def laid234_ren_ : Go.Shelf.Ren := ⟨fun | 228 => 88 | 234 => 83 | n => n, fun | 116 => 109 | 124 => 113 | n => n, fun | 1 => 0 | 3 => 1 | 4 => 2 | n => n⟩
theorem laid234_ : Go.Proofs.Lays.n234 Tryd.prog laid234_ren_ := {
 mixed := by kernel_rfl
 f228 := Tryd.func88.trans (congrArg some (by kernel_rfl))
 f234 := Tryd.func83.trans (congrArg some (by kernel_rfl))
 t0 := Tryd.underlying0
 a0 := Tryd.isAgg0
 z0 := Tryd.sizeOf0
 v0 := Tryd.zeroValue0
 t3 := Tryd.underlying3
 a3 := Tryd.isAgg3
 z3 := Tryd.sizeOf3
 v3 := Tryd.zeroValue3
 t4 := Tryd.underlying4
 a4 := Tryd.isAgg4
 z4 := Tryd.sizeOf4
 v4 := Tryd.zeroValue4
 t5 := Tryd.underlying5
 a5 := Tryd.isAgg5
 z5 := Tryd.sizeOf5
 v5 := Tryd.zeroValue5
 t9 := Tryd.underlying9
 a9 := Tryd.isAgg9
 z9 := Tryd.sizeOf9
 v9 := Tryd.zeroValue9
 t116 := Tryd.underlying109
 a116 := Tryd.isAgg109
 z116 := Tryd.sizeOf109
 t124 := Tryd.underlying113
 a124 := Tryd.isAgg113
 z124 := Tryd.sizeOf113
 v124 := Tryd.zeroValue113 }

def blanksB : ByteArray := ⟨#[9, 10, 13, 32]⟩
def blanksL : List UInt8 := [9, 10, 13, 32]
/-- a text without blanks around it. -/
def trimB (s : ByteArray) : ByteArray := ⟨(Lib.trimS s.data.toList blanksL).toArray⟩
def impl_trimmed.f (a0 : ByteArray) : Option ByteArray := if a0.size ≤ 9223372036854775807 then some (trimB a0) else none
set_option maxRecDepth 1000000 in
theorem zeroSet_ : ∀ w, (zeroValue 109).run Tryd.prog w = .ok (.agg (Array.replicate 256 (.bool false))) w := fun w => by
 kernel_rfl
set_option maxHeartbeats 8000000 in
set_option maxRecDepth 1000000 in
theorem trim_blanks_ (s : ByteArray) (w : World) (h0 : 0 < s.size) (hs : s.size ≤ 9223372036854775807) :
  Calls Tryd.prog 65 #[.string s, .string blanksB] w fun e w' => e = .returned (.string (trimB s)) ∧ Below w.heap.size w w' := by
 have hM := Any.strings_makeASCIISet laid227_ zeroSet_ (by kernel_rfl) blanksB w (by decide) (fun j b hj => by
  match j, hj with
  | 0, hj => cases hj; decide
  | 1, hj => cases hj; decide
  | 2, hj => cases hj; decide
  | 3, hj => cases hj; decide
  | j + 4, hj => cases hj)
 have hemps : s.toList.isEmpty = false := by
  rw [Lib.toList_data]
  cases h : s.data.toList with
  | nil => have := Lib.size_eq s; rw [h, List.length_nil] at this; omega
  | cons _ _ => rfl
 have hemp : blanksB.toList.isEmpty = false := by rw [Lib.toList_data]; rfl
 have hn1 : ((blanksB.size : Int) == 1) = false := by decide
 have hi : (Tryd.prog.info? 109).map (·.size) = some 256 := by kernel_rfl
 have hcl : blanksB.data.toList = blanksL := rfl
 have hsc : (storeCells ⟨w.heap.size + 1, 0, none⟩ (Lib.setCells blanksL).toList 0).run Tryd.prog ((w.alloc (.cells (Lib.setCells blanksL) 109)).alloc (.cells (Array.replicate 256 (.bool false)) 109)) = .ok () ((w.alloc (.cells (Lib.setCells blanksL) 109)).alloc (.cells (Lib.setCells blanksL) 109)) := by
  have := run_storeCells_new (P := Tryd.prog) (w.alloc (.cells (Lib.setCells blanksL) 109)) 109 (Array.replicate 256 (.bool false)) (Lib.setCells blanksL) (by rw [Lib.setCells_size]; exact hi) (by rw [Lib.setCells_size, Array.size_replicate]) (Lib.setCells_one _)
  simpa using this
 have hsz := Lib.setCells_size blanksL
 have hcellAt : ∀ x : UInt8, ((w.alloc (.cells (Lib.setCells blanksL) 109)).alloc (.cells (Lib.setCells blanksL) 109)).cell? ⟨w.heap.size + 1, x.toNat, none⟩ = some (.bool (blanksL.contains x)) := fun x => by
  rw [World.cell?_alloc_at _ _ _ _ (by simp), Lib.setCells_at]
 have HC : Aside (∀ (q : Nat) (x : UInt8), (((w.alloc (.cells (Lib.setCells blanksL) 109)).alloc (.cells (Lib.setCells blanksL) 109)).drewN q).cell? ⟨w.heap.size + 1, x.toNat, none⟩ = some (.bool (blanksL.contains x))) := fun q x => by simpa using hcellAt x
 clear hcellAt
 have hz : Tryd.zeroCells109 = Array.replicate 256 (.bool false) := by kernel_rfl
 go_enter Tryd.func65, Tryd.ntmps65
 go_wp2_with (go_at_call 81; refine hM.mono ?_; rintro e w' ⟨rfl, hw⟩; rw [hw])
 simp only [show laid227_ren_.t 116 = 109 from rfl, hz, hcl, hsc, Result.andThen]
 rw [Oper.upon_skip]
 clear hM hsc
 go_wp2_with (first | (go_at_call 83; refine (Any.strings_trimRightASCII laid234_ s (w.heap.size + 1) blanksL _ hs (HC.out 0)).mono ?_; rintro e w' ⟨rfl, hw⟩; rw [hw]) | (go_at_call 82; refine (Any.strings_trimLeftASCII laid233_ _ (w.heap.size + 1) blanksL _ (HC.out 0)).mono ?_; rintro e w' ⟨rfl, hw⟩; rw [hw]))
 go_ret
 exact ⟨rfl, pw_below_drewN (below_alloc (below_alloc (Below.refl w.heap.size w) _) _) 0⟩
set_option maxHeartbeats 8000000 in
set_option maxRecDepth 1000000 in
theorem impl_trimmed.calls (a0 : ByteArray) (r : ByteArray) (w : World) (h : impl_trimmed.f a0 = some r) :
  Calls Tryd.prog 47 #[.string a0] w fun e w' => e = .returned (.string r) ∧ Below w.heap.size w w' := by
 unfold impl_trimmed.f at h
 by_cases hs : a0.size ≤ 9223372036854775807
 ·rw [if_pos hs] at h
  obtain rfl := Option.some.inj h
  by_cases h0 : 0 < a0.size
  ·have c := fun w => trim_blanks_ a0 w h0 hs
   go_enter Tryd.func47, Tryd.ntmps47
   go_wp2_with (go_at_call 65; refine (c _).mono ?_; rintro e w' ⟨rfl, hb⟩)
   go_ret
   exact ⟨rfl, hb⟩
  ·have he : a0.data.toList = [] := by
    have := Lib.size_eq a0
    exact List.length_eq_zero_iff.mp (by omega)
   have hemps : a0.toList.isEmpty = true := by rw [Lib.toList_data, he]; rfl
   have ht : trimB a0 = a0 := by
    unfold trimB
    rw [he]
    cases a0 with
    | mk d => cases d with
     | mk l => simp at he; subst he; rfl
   rw [ht]
   go_enter Tryd.func47, Tryd.ntmps47
   go_wp2
   go_ret
   exact ⟨rfl, Below.refl _ _⟩
 ·rw [if_neg hs] at h; cases h

-- NOT PRINTED: function 87 (strings_shouldUseASCIISet)

-- NOT PRINTED: function 66 (strings_IndexAny)

end Go.Proofs.YtganmdnieihpeaaDoor.PFnExactSheetText
