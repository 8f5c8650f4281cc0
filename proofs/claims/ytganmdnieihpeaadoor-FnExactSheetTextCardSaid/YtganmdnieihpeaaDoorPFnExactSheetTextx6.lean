-- Laid by a program of this session out of the translation (its own run of the print). Lean checks it.
import Derived.Test.YtganmdnieihpeaaDoorPFnExactSheetTextx0
import Derived.Test.YtganmdnieihpeaaDoorPFnExactSheetTextx3
import Derived.Test.YtganmdnieihpeaaDoorPFnExactSheetTextx4
import Derived.Test.YtganmdnieihpeaaDoorPFnExactSheetTextx5
namespace Go.Proofs.YtganmdnieihpeaaDoor.PFnExactSheetText
open Go.RowKit Go.Proofs.YtganmdnieihpeaaDoorW.PrintWords Go.Proofs.YtganmdnieihpeaaDoorW.PrintLast Go.Proofs.YtganmdnieihpeaaDoorW.PrintMore
attribute [local go_sem] max2_int min2_int max_two min_two max_three min_three max_four min_four   -- for this text's walks alone
set_option linter.unusedVariables false
set_option linter.unusedSimpArgs false

/-! ### spec_SheetText: function 6 -/
mutual
def spec_SheetText.l0 : Nat → ByteArray → List (S43) → Int → Int → Option (ByteArray × Bool)
 | 0, _, _, _, _ => none
 | k + 1, x4, x14, x15, x16 => if x16 < x15 then (if 0 ≤ x16 then (if x16 < (x14.length : Int) then (if (((rd_T43 x14 x16).f0).length : Int) = 0 then (spec_SheetText.j1 k x4 x14 x15 x16 true ((rd_T43 x14 x16).f0) ((rd_T43 x14 x16).f1)) else (spec_SheetText.j1 k x4 x14 x15 x16 (decide ((((rd_T43 x14 x16).f1).length : Int) > 12)) ((rd_T43 x14 x16).f0) ((rd_T43 x14 x16).f1))) else (none)) else (none)) else (if (x4.size : Int) > 1500 then (some ((⟨#[]⟩ : ByteArray), false)) else (some (x4, true)))
def spec_SheetText.j1 : Nat → ByteArray → List (S43) → Int → Int → Bool → List (List (S63)) → List (S48) → Option (ByteArray × Bool)
 | 0, _, _, _, _, _, _, _ => none
 | k + 1, x4, x14, x15, x16, x29, x149000, x149001 => if x29 = true then (some ((⟨#[]⟩ : ByteArray), false)) else (spec_SheetText.l1 k x4 x14 x15 x16 x149000 (x149000.length : Int) 0 x149000 x149001)
def spec_SheetText.l1 : Nat → ByteArray → List (S43) → Int → Int → List (List (S63)) → Int → Int → List (List (S63)) → List (S48) → Option (ByteArray × Bool)
 | 0, _, _, _, _, _, _, _, _, _ => none
 | k + 1, x4, x14, x15, x16, x31, x32, x33, x149000, x149001 => if x33 < x32 then (if 0 ≤ x33 then (if x33 < (x31.length : Int) then ((spec_l5Good.f k (rd_L10 x31 x33)).bind fun t150 => (if t150 = true then (if x33 > 0 then (if x4.size + 1 ≤ 9223372036854775807 then ((spec_l5Text.f k (rd_L10 x31 x33)).bind fun t151 => (if (x4 ++ (⟨#[44]⟩ : ByteArray)).size + t151.size ≤ 9223372036854775807 then (if (((x4 ++ (⟨#[44]⟩ : ByteArray)) ++ t151).size : Int) > 1500 then (some ((⟨#[]⟩ : ByteArray), false)) else (spec_SheetText.l1 k ((x4 ++ (⟨#[44]⟩ : ByteArray)) ++ t151) x14 x15 x16 x31 x32 (wrap64 (x33 + 1)) x149000 x149001)) else (none))) else (none)) else ((spec_l5Text.f k (rd_L10 x31 x33)).bind fun t152 => (if x4.size + t152.size ≤ 9223372036854775807 then (if ((x4 ++ t152).size : Int) > 1500 then (some ((⟨#[]⟩ : ByteArray), false)) else (spec_SheetText.l1 k (x4 ++ t152) x14 x15 x16 x31 x32 (wrap64 (x33 + 1)) x149000 x149001)) else (none)))) else (some ((⟨#[]⟩ : ByteArray), false)))) else (none)) else (none)) else (if x4.size + 1 ≤ 9223372036854775807 then (spec_SheetText.l2 k (x4 ++ (⟨#[123]⟩ : ByteArray)) x14 x15 x16 x149001 (x149001.length : Int) 0) else (none))
def spec_SheetText.l2 : Nat → ByteArray → List (S43) → Int → Int → List (S48) → Int → Int → Option (ByteArray × Bool)
 | 0, _, _, _, _, _, _, _ => none
 | k + 1, x4, x14, x15, x16, x56, x57, x58 => if x58 < x57 then (if 0 ≤ x58 then (if x58 < (x56.length : Int) then ((spec_l5GoodDecl.f k ((rd_T48 x56 x58).f0) ((rd_T48 x56 x58).f1) ((rd_T48 x56 x58).f2)).bind fun t155 => (if t155 = true then (if ((rd_T48 x56 x58).f0).size + 1 ≤ 9223372036854775807 then (if (((rd_T48 x56 x58).f0) ++ (⟨#[58]⟩ : ByteArray)).size + ((rd_T48 x56 x58).f1).size ≤ 9223372036854775807 then (if x4.size + ((((rd_T48 x56 x58).f0) ++ (⟨#[58]⟩ : ByteArray)) ++ ((rd_T48 x56 x58).f1)).size ≤ 9223372036854775807 then (if (rd_T48 x56 x58).f2 = true then (if (x4 ++ ((((rd_T48 x56 x58).f0) ++ (⟨#[58]⟩ : ByteArray)) ++ ((rd_T48 x56 x58).f1))).size + 11 ≤ 9223372036854775807 then (if ((x4 ++ ((((rd_T48 x56 x58).f0) ++ (⟨#[58]⟩ : ByteArray)) ++ ((rd_T48 x56 x58).f1))) ++ (⟨#[32, 33, 105, 109, 112, 111, 114, 116, 97, 110, 116]⟩ : ByteArray)).size + 1 ≤ 9223372036854775807 then (spec_SheetText.l2 k (((x4 ++ ((((rd_T48 x56 x58).f0) ++ (⟨#[58]⟩ : ByteArray)) ++ ((rd_T48 x56 x58).f1))) ++ (⟨#[32, 33, 105, 109, 112, 111, 114, 116, 97, 110, 116]⟩ : ByteArray)) ++ (⟨#[59]⟩ : ByteArray)) x14 x15 x16 x56 x57 (wrap64 (x58 + 1))) else (none)) else (none)) else (if (x4 ++ ((((rd_T48 x56 x58).f0) ++ (⟨#[58]⟩ : ByteArray)) ++ ((rd_T48 x56 x58).f1))).size + 1 ≤ 9223372036854775807 then (spec_SheetText.l2 k ((x4 ++ ((((rd_T48 x56 x58).f0) ++ (⟨#[58]⟩ : ByteArray)) ++ ((rd_T48 x56 x58).f1))) ++ (⟨#[59]⟩ : ByteArray)) x14 x15 x16 x56 x57 (wrap64 (x58 + 1))) else (none))) else (none)) else (none)) else (none)) else (some ((⟨#[]⟩ : ByteArray), false)))) else (none)) else (none)) else (if x4.size + 1 ≤ 9223372036854775807 then (spec_SheetText.l0 k (x4 ++ (⟨#[125]⟩ : ByteArray)) x14 x15 (wrap64 (x16 + 1))) else (none))
end
def spec_SheetText.f (k : Nat) (l0 : List (S43)) : Option (ByteArray × Bool) := if (l0.length : Int) > 30 then (some ((⟨#[]⟩ : ByteArray), false)) else (spec_SheetText.l0 k (⟨#[]⟩ : ByteArray) l0 (l0.length : Int) 0)
set_option maxHeartbeats 8000000 in
set_option maxRecDepth 100000 in
theorem spec_SheetText.calls (k : Nat) (A0 : Option Addr) (c0 : Nat) (l0 : List (S43)) (r1 : ByteArray) (r2 : Bool) (w : World) (hr0 : Kd.C k43 w A0 l0.length l0) (hc0 : l0.length ≤ c0) (h : spec_SheetText.f k l0 = some (r1, r2)) :
  Calls Tryd.prog 6 #[.slice A0 l0.length c0] w fun e w' => e = .returned (.tuple #[.string r1, .bool r2]) ∧ Below w.heap.size w w' := by
 have hu43 := Tryd.underlying43
 have hu48 := Tryd.underlying48
 have HR0 := Aside0.mk hr0
 have HC0 := Aside0.mk hc0
 clear hr0 hc0
 have HB := Aside0.mk (Below.refl w.heap.size w)
 have H : (if (l0.length : Int) > 30 then (some ((⟨#[]⟩ : ByteArray), false)) else (spec_SheetText.l0 k (⟨#[]⟩ : ByteArray) l0 (l0.length : Int) 0)) = some (r1, r2) := h
 clear h
 by_cases c2 : (l0.length : Int) > 30
 ·rw [if_pos c2] at H
  have c2b0 : decide (30 < (l0.length : Int)) = true := decide_eq_true c2
  have c2b1 : decide (30 < l0.length) = true := decide_eq_true (by omega)
  clear c2
  simp only [Option.some.injEq, Prod.mk.injEq] at H
  obtain ⟨rfl, rfl⟩ := H
  go_enter Tryd.func6, Tryd.ntmps6
  go_wp2
  go_ret2
  exact ⟨by first | rfl | (simp [errW_none, errW_some] <;> rfl) | (simp [*, errW_none, errW_some] <;> rfl), by repeat (first | (with_reducible first | exact HB.out | apply below_alloc | apply pw_below_drewN | apply below_drew1) | exact HB.out)⟩
 ·rw [if_neg c2] at H
  have c2b0 : decide (30 < (l0.length : Int)) = false := decide_eq_false c2
  have c2b1 : decide (30 < l0.length) = false := decide_eq_false (by omega)
  clear c2
  have H' := Aside0.mk H
  clear H
  go_enter Tryd.func6, Tryd.ntmps6
  go_wp2
  go_loopg [4, 16] k (fun kq v4 v16 w' => ∃ (x4_1 : ByteArray) (x16_1 : Int), v4 = .string x4_1 ∧ v16 = .int .i64 x16_1 ∧ Aside0 (spec_SheetText.l0 kq x4_1 l0 (l0.length : Int) x16_1 = some (r1, r2)) ∧ Aside0 (kq ≤ k) ∧ Aside0 (Below w.heap.size w w'))
  case atStart => exact ⟨((⟨#[]⟩ : ByteArray)), (0), (by first | rfl | (simp; done) | (simp [*]; done) | (simp [wrap64]; done)), (by first | rfl | (simp; done) | (simp [*]; done) | (simp [wrap64]; done)), H', ⟨Nat.le_refl _⟩, ⟨by repeat (first | (with_reducible first | exact HB.out | apply below_alloc | apply pw_below_drewN | apply below_drew1) | exact HB.out)⟩⟩
  case round =>
   clear H'
   (try clear c2);(try clear c2b0);(try clear c2b1);(try clear p2)
   obtain ⟨x4_1, x16_1, rfl, rfl, HA, HK1, HB⟩ := hrel
   cases gk with
   | zero => exact absurd HA.out (by simp [spec_SheetText.l0])
   | succ k1 =>
    have H := HA.out
    clear HA
    simp only [spec_SheetText.l0] at H
    by_cases c3 : x16_1 < (l0.length : Int)
    ·rw [if_pos c3] at H
     have c3b0 : decide (x16_1 < (l0.length : Int)) = true := decide_eq_true c3
     clear c3
     by_cases c4 : 0 ≤ x16_1
     ·rw [if_pos c4] at H
      have c4b0 : decide (0 ≤ x16_1) = true := decide_eq_true c4
      clear c4
      by_cases c5 : x16_1 < (l0.length : Int)
      ·rw [if_pos c5] at H
       have c5b0 : decide (x16_1 < (l0.length : Int)) = true := decide_eq_true c5
       clear c5
       have HC6 := Aside0.mk H
       clear H
       have p147 : 0 ≤ (x16_1 : Int) := of_decide_eq_true (by first | (with_reducible assumption) | assumption)
       have q147 : x16_1 < (l0.length : Int) := of_decide_eq_true (by first | (with_reducible assumption) | assumption)
       obtain ⟨ad147, A147_0, c147_0, A147_1, c147_1, e147, hx147_0, hx147_1, hl147_0, hi147_0, hl147_1, hi147_1⟩ := at_T43 HR0.out x16_1 p147 q147
       cases e147
       replace hx147_0 := (HB.out.cell (World.block_lt_of_cell? w _ hx147_0)).trans hx147_0
       replace hx147_1 := (HB.out.cell (World.block_lt_of_cell? w _ hx147_1)).trans hx147_1
       have HR147_0 := Aside0.mk hi147_0
       have HC147_0 := Aside0.mk hl147_0
       clear hi147_0 hl147_0
       have HR147_1 := Aside0.mk hi147_1
       have HC147_1 := Aside0.mk hl147_1
       clear hi147_1 hl147_1
       replace p147 := eq_true p147
       replace q147 := eq_true q147
       go_upto_region 7 with (first | ((with_reducible refine gate_dst (N := 6) rfl ?_); (try (refine gate_guard (by rfl) ?_; dsimp only)); refine box_event ?hg (N := 6) ?hd (cs := #[.slice none 0 0, .slice none 0 0]) (t := 43) ?hr ?_; (case hd => rfl); (case hg => rfl); (case hr => first | (go_simp; done) | (go_simp; rfl)); intro gb148 hg w7 hbox hb; have n0_ := Aside0.mk (below_step (by repeat (first | (with_reducible first | exact HB.out | apply below_alloc | apply pw_below_drewN | apply below_drew1) | exact HB.out)) hb); have n1_ := Aside0.mk (hbox); have n2_ := Aside0.mk ((by rw [hg]; exact (below_size (by repeat (first | (with_reducible first | exact HB.out | apply below_alloc | apply pw_below_drewN | apply below_drew1) | exact HB.out))) : w.heap.size ≤ gb148)); have n3_ := Aside0.mk ((by rw [hg]; exact (below_size (by repeat (first | (with_reducible first | exact HB.out | apply below_alloc | apply pw_below_drewN | apply below_drew1) | exact HB.out))) : w.heap.size ≤ gb148)); clear HB; have HB := n0_; have BK148 := n1_; have GW148 := n2_; have GE148 := n3_; clear n0_ n1_ n2_ n3_; clear hb hbox hg; have hcz8_0 : w7.cell? ⟨gb148, 0, none⟩ = some (.slice none 0 0) := (blk_cell BK148.out 0).trans rfl; have hcz8_1 : w7.cell? ⟨gb148, 1, none⟩ = some (.slice none 0 0) := (blk_cell BK148.out 1).trans rfl; have hfz8_0 := blk_frozen BK148.out 0; have hfz8_1 := blk_frozen BK148.out 1))
       (try simp only [Act.put, List.setIfInBounds_toArray, List.set_cons_zero, List.set_cons_succ])
       go_cut [29] (fun v29 wc => ∃ (kq : Nat) (x29_5 : Bool), v29 = .bool x29_5 ∧ Aside0 (spec_SheetText.j1 kq x4_1 l0 (l0.length : Int) x16_1 x29_5 ((rd_T43 l0 x16_1).f0) ((rd_T43 l0 x16_1).f1) = some (r1, r2)) ∧ Aside0 (kq ≤ k1) ∧ Aside0 (wc.heap[gb148]? = some (.cells #[(.slice A147_0 ((rd_T43 l0 x16_1).f0).length c147_0), (.slice A147_1 ((rd_T43 l0 x16_1).f1).length c147_1)] 43 (0, 0))) ∧ Aside0 (Below w.heap.size w wc))
       case first =>
        have H := HC6.out
        clear HC6
        by_cases c9 : (((rd_T43 l0 x16_1).f0).length : Int) = 0
        ·rw [if_pos c9] at H
         have c9b0 : ((((rd_T43 l0 x16_1).f0).length : Int) == 0) = true := beq_iff_eq.mpr c9
         have c9b1 : ((((rd_T43 l0 x16_1).f0).length : Int) != 0) = false := bne_eq_false_iff_eq.mpr c9
         clear c9
         (first | rw [c9b0] | (simp only [i64_w, i32_w]; rw [c9b0]) | skip)
         have H' := Aside0.mk H
         clear H
         have hcz10_0 : w7.cell? ⟨gb148, 0, none⟩ = some (.slice none 0 0) := (blk_cell BK148.out 0).trans rfl
         have hcz10_1 : w7.cell? ⟨gb148, 1, none⟩ = some (.slice none 0 0) := (blk_cell BK148.out 1).trans rfl
         have hfz10_0 := blk_frozen BK148.out 0
         have hfz10_1 := blk_frozen BK148.out 1
         go_wp2
         go_meet
         case rel => exact ⟨_, (true), (by first | rfl | (simp; done) | (simp [*]; done) | (simp [wrap64]; done)), H', ⟨by have := HK1.out; first | omega | exact Nat.le_refl _⟩, ⟨by (with_reducible repeat (first | refine blk_drewN ?_ _ | refine blk_drew ?_ | refine blk_alloc ?_ _)); refine blk_put (cs := #[.slice A147_0 ((rd_T43 l0 x16_1).f0).length c147_0, .slice none 0 0]) ?_ 1 _ rfl; (with_reducible repeat (first | refine blk_drewN ?_ _ | refine blk_drew ?_ | refine blk_alloc ?_ _)); refine blk_put (cs := #[.slice none 0 0, .slice none 0 0]) ?_ 0 _ rfl; (with_reducible repeat (first | refine blk_drewN ?_ _ | refine blk_drew ?_ | refine blk_alloc ?_ _)); exact BK148.out⟩, ⟨by repeat (first | (with_reducible first | exact HB.out | apply below_alloc | apply pw_below_drewN | apply below_drew1 | refine below_set ?_ GE148.out) | exact HB.out)⟩⟩
        ·rw [if_neg c9] at H
         have c9b0 : ((((rd_T43 l0 x16_1).f0).length : Int) == 0) = false := beq_eq_false_iff_ne.mpr c9
         have c9b1 : ((((rd_T43 l0 x16_1).f0).length : Int) != 0) = true := bne_iff_ne.mpr c9
         have c9b2 : ¬ (((rd_T43 l0 x16_1).f0) = []) := fun h_ => c9 (by rw [h_]; rfl)
         (first | rw [c9b0] | (simp only [i64_w, i32_w]; rw [c9b0]) | skip)
         have H' := Aside0.mk H
         clear H
         have hcz11_0 : w7.cell? ⟨gb148, 0, none⟩ = some (.slice none 0 0) := (blk_cell BK148.out 0).trans rfl
         have hcz11_1 : w7.cell? ⟨gb148, 1, none⟩ = some (.slice none 0 0) := (blk_cell BK148.out 1).trans rfl
         have hfz11_0 := blk_frozen BK148.out 0
         have hfz11_1 := blk_frozen BK148.out 1
         go_wp2
         go_meet
         case rel => exact ⟨_, (decide ((((rd_T43 l0 x16_1).f1).length : Int) > 12)), (by first | rfl | (simp; done) | (simp [*]; done) | (simp [wrap64]; done)), H', ⟨by have := HK1.out; first | omega | exact Nat.le_refl _⟩, ⟨by (with_reducible repeat (first | refine blk_drewN ?_ _ | refine blk_drew ?_ | refine blk_alloc ?_ _)); refine blk_put (cs := #[.slice A147_0 ((rd_T43 l0 x16_1).f0).length c147_0, .slice none 0 0]) ?_ 1 _ rfl; (with_reducible repeat (first | refine blk_drewN ?_ _ | refine blk_drew ?_ | refine blk_alloc ?_ _)); refine blk_put (cs := #[.slice none 0 0, .slice none 0 0]) ?_ 0 _ rfl; (with_reducible repeat (first | refine blk_drewN ?_ _ | refine blk_drew ?_ | refine blk_alloc ?_ _)); exact BK148.out⟩, ⟨by repeat (first | (with_reducible first | exact HB.out | apply below_alloc | apply pw_below_drewN | apply below_drew1 | refine below_set ?_ GE148.out) | exact HB.out)⟩⟩
       case rest =>
        clear HC6
        (try clear c1);(try clear p1);(try clear q1);(try clear hx1);(try clear c2);(try clear c2b0);(try clear c2b1);(try clear p2);(try clear c3);(try clear c3b0);(try clear c4);(try clear c4b0);(try clear c5);(try clear c5b0);(try clear c6);(try clear c9);(try clear c9b0);(try clear c9b1);(try clear c9b2);(try clear hcz10_0);(try clear hcz10_1);(try clear hcz11_0);(try clear hcz11_1);(try clear hcz8_0);(try clear hcz8_1);(try clear hfz10_0);(try clear hfz10_1);(try clear hfz11_0);(try clear hfz11_1);(try clear hfz8_0);(try clear hfz8_1);(try clear hx147_0);(try clear hx147_1);(try clear p147);(try clear p2);(try clear q147)
        obtain ⟨kq, x29_5, rfl, HA, HJ5, BK148, HB⟩ := hcut
        cases kq with
        | zero => exact absurd HA.out (by simp [spec_SheetText.j1])
        | succ kj5 =>
         have H := HA.out
         clear HA
         simp only [spec_SheetText.j1] at H
         by_cases c12 : x29_5 = true
         ·subst c12
          have H1 : (some ((⟨#[]⟩ : ByteArray), false)) = some (r1, r2) := by rw [if_pos rfl] at H; exact H
          clear H
          have H := H1
          clear H1
          simp only [Option.some.injEq, Prod.mk.injEq] at H
          obtain ⟨rfl, rfl⟩ := H
          go_wp2
          go_ret2
          exact ⟨by first | rfl | (simp [errW_none, errW_some] <;> rfl) | (simp [*, errW_none, errW_some] <;> rfl), by repeat (first | (with_reducible first | exact HB.out | apply below_alloc | apply pw_below_drewN | apply below_drew1 | refine below_set ?_ GE148.out) | exact HB.out)⟩
         ·replace c12 := Bool.eq_false_iff.mpr c12
          subst c12
          have H1 : (spec_SheetText.l1 kj5 x4_1 l0 (l0.length : Int) x16_1 ((rd_T43 l0 x16_1).f0) (((rd_T43 l0 x16_1).f0).length : Int) 0 ((rd_T43 l0 x16_1).f0) ((rd_T43 l0 x16_1).f1)) = some (r1, r2) := by rw [if_neg (show ¬ (false = true) by decide)] at H; exact H
          clear H
          have H := H1
          clear H1
          have H' := Aside0.mk H
          clear H
          have hcz13_0 : wc.cell? ⟨gb148, 0, none⟩ = some (.slice A147_0 ((rd_T43 l0 x16_1).f0).length c147_0) := (blk_cell BK148.out 0).trans rfl
          have hcz13_1 : wc.cell? ⟨gb148, 1, none⟩ = some (.slice A147_1 ((rd_T43 l0 x16_1).f1).length c147_1) := (blk_cell BK148.out 1).trans rfl
          have hfz13_0 := blk_frozen BK148.out 0
          have hfz13_1 := blk_frozen BK148.out 1
          go_wp2
          go_loopg [4, 33] kj5 (fun kq v4 v33 w' => ∃ (x4_3 : ByteArray) (x33_3 : Int), v4 = .string x4_3 ∧ v33 = .int .i64 x33_3 ∧ Aside0 (spec_SheetText.l1 kq x4_3 l0 (l0.length : Int) x16_1 ((rd_T43 l0 x16_1).f0) (((rd_T43 l0 x16_1).f0).length : Int) x33_3 ((rd_T43 l0 x16_1).f0) ((rd_T43 l0 x16_1).f1) = some (r1, r2)) ∧ Aside0 (kq ≤ kj5) ∧ Aside0 (w'.heap[gb148]? = some (.cells #[(.slice A147_0 ((rd_T43 l0 x16_1).f0).length c147_0), (.slice A147_1 ((rd_T43 l0 x16_1).f1).length c147_1)] 43 (0, 0))) ∧ Aside0 (Below w.heap.size w w'))
          case atStart => exact ⟨(x4_1), (0), (by first | rfl | (simp; done) | (simp [*]; done) | (simp [wrap64]; done)), (by first | rfl | (simp; done) | (simp [*]; done) | (simp [wrap64]; done)), H', ⟨Nat.le_refl _⟩, ⟨by (with_reducible repeat (first | refine blk_drewN ?_ _ | refine blk_drew ?_ | refine blk_alloc ?_ _)); exact BK148.out⟩, ⟨by repeat (first | (with_reducible first | exact HB.out | apply below_alloc | apply pw_below_drewN | apply below_drew1 | refine below_set ?_ GE148.out) | exact HB.out)⟩⟩
          case round =>
           clear H'
           (try clear c1);(try clear p1);(try clear q1);(try clear hx1);(try clear c2);(try clear c2b0);(try clear c2b1);(try clear p2);(try clear c3);(try clear c3b0);(try clear c4);(try clear c4b0);(try clear c5);(try clear c5b0);(try clear c6);(try clear c9);(try clear c9b0);(try clear c9b1);(try clear c9b2);(try clear c12);(try clear hcz10_0);(try clear hcz10_1);(try clear hcz11_0);(try clear hcz11_1);(try clear hcz13_0);(try clear hcz13_1);(try clear hcz8_0);(try clear hcz8_1);(try clear hfz10_0);(try clear hfz10_1);(try clear hfz11_0);(try clear hfz11_1);(try clear hfz13_0);(try clear hfz13_1);(try clear hfz8_0);(try clear hfz8_1);(try clear hx147_0);(try clear hx147_1);(try clear p1);(try clear p147);(try clear p2);(try clear q1);(try clear q147)
           obtain ⟨x4_3, x33_3, rfl, rfl, HA, HK3, BK148, HB⟩ := hrel
           cases gk with
           | zero => exact absurd HA.out (by simp [spec_SheetText.l1])
           | succ k3 =>
            have H := HA.out
            clear HA
            simp only [spec_SheetText.l1] at H
            by_cases c14 : x33_3 < (((rd_T43 l0 x16_1).f0).length : Int)
            ·rw [if_pos c14] at H
             have c14b0 : decide (x33_3 < (((rd_T43 l0 x16_1).f0).length : Int)) = true := decide_eq_true c14
             clear c14
             by_cases c15 : 0 ≤ x33_3
             ·rw [if_pos c15] at H
              have c15b0 : decide (0 ≤ x33_3) = true := decide_eq_true c15
              clear c15
              by_cases c16 : x33_3 < (((rd_T43 l0 x16_1).f0).length : Int)
              ·rw [if_pos c16] at H
               have c16b0 : decide (x33_3 < (((rd_T43 l0 x16_1).f0).length : Int)) = true := decide_eq_true c16
               clear c16
               replace H := Option.bind_eq_some_iff.mp H
               obtain ⟨t150, A170, H⟩ := H
               replace H : (if t150 = true then (if x33_3 > 0 then (if x4_3.size + 1 ≤ 9223372036854775807 then ((spec_l5Text.f k3 (rd_L10 ((rd_T43 l0 x16_1).f0) x33_3)).bind fun t151 => (if (x4_3 ++ (⟨#[44]⟩ : ByteArray)).size + t151.size ≤ 9223372036854775807 then (if (((x4_3 ++ (⟨#[44]⟩ : ByteArray)) ++ t151).size : Int) > 1500 then (some ((⟨#[]⟩ : ByteArray), false)) else (spec_SheetText.l1 k3 ((x4_3 ++ (⟨#[44]⟩ : ByteArray)) ++ t151) l0 (l0.length : Int) x16_1 ((rd_T43 l0 x16_1).f0) (((rd_T43 l0 x16_1).f0).length : Int) (wrap64 (x33_3 + 1)) ((rd_T43 l0 x16_1).f0) ((rd_T43 l0 x16_1).f1))) else (none))) else (none)) else ((spec_l5Text.f k3 (rd_L10 ((rd_T43 l0 x16_1).f0) x33_3)).bind fun t152 => (if x4_3.size + t152.size ≤ 9223372036854775807 then (if ((x4_3 ++ t152).size : Int) > 1500 then (some ((⟨#[]⟩ : ByteArray), false)) else (spec_SheetText.l1 k3 (x4_3 ++ t152) l0 (l0.length : Int) x16_1 ((rd_T43 l0 x16_1).f0) (((rd_T43 l0 x16_1).f0).length : Int) (wrap64 (x33_3 + 1)) ((rd_T43 l0 x16_1).f0) ((rd_T43 l0 x16_1).f1))) else (none)))) else (some ((⟨#[]⟩ : ByteArray), false))) = some (r1, r2) := H
               have A17 := Aside0.mk A170
               clear A170
               by_cases c18 : t150 = true
               ·subst c18
                have H1 : (if x33_3 > 0 then (if x4_3.size + 1 ≤ 9223372036854775807 then ((spec_l5Text.f k3 (rd_L10 ((rd_T43 l0 x16_1).f0) x33_3)).bind fun t151 => (if (x4_3 ++ (⟨#[44]⟩ : ByteArray)).size + t151.size ≤ 9223372036854775807 then (if (((x4_3 ++ (⟨#[44]⟩ : ByteArray)) ++ t151).size : Int) > 1500 then (some ((⟨#[]⟩ : ByteArray), false)) else (spec_SheetText.l1 k3 ((x4_3 ++ (⟨#[44]⟩ : ByteArray)) ++ t151) l0 (l0.length : Int) x16_1 ((rd_T43 l0 x16_1).f0) (((rd_T43 l0 x16_1).f0).length : Int) (wrap64 (x33_3 + 1)) ((rd_T43 l0 x16_1).f0) ((rd_T43 l0 x16_1).f1))) else (none))) else (none)) else ((spec_l5Text.f k3 (rd_L10 ((rd_T43 l0 x16_1).f0) x33_3)).bind fun t152 => (if x4_3.size + t152.size ≤ 9223372036854775807 then (if ((x4_3 ++ t152).size : Int) > 1500 then (some ((⟨#[]⟩ : ByteArray), false)) else (spec_SheetText.l1 k3 (x4_3 ++ t152) l0 (l0.length : Int) x16_1 ((rd_T43 l0 x16_1).f0) (((rd_T43 l0 x16_1).f0).length : Int) (wrap64 (x33_3 + 1)) ((rd_T43 l0 x16_1).f0) ((rd_T43 l0 x16_1).f1))) else (none)))) = some (r1, r2) := by rw [if_pos rfl] at H; exact H
                clear H
                have H := H1
                clear H1
                by_cases c19 : x33_3 > 0
                ·rw [if_pos c19] at H
                 have c19b0 : decide (0 < x33_3) = true := decide_eq_true c19
                 clear c19
                 by_cases c20 : x4_3.size + 1 ≤ 9223372036854775807
                 ·rw [if_pos c20] at H
                  have c20b0 := eq_true c20
                  have c20b1 : decide (x4_3.size + 1 ≤ 9223372036854775807) = true := decide_eq_true c20
                  try have c20b2 : (9223372036854775807 < x4_3.size + 1) = False := eq_false (Nat.not_lt.2 c20)
                  replace H := Option.bind_eq_some_iff.mp H
                  obtain ⟨t151, A210, H⟩ := H
                  replace H : (if (x4_3 ++ (⟨#[44]⟩ : ByteArray)).size + t151.size ≤ 9223372036854775807 then (if (((x4_3 ++ (⟨#[44]⟩ : ByteArray)) ++ t151).size : Int) > 1500 then (some ((⟨#[]⟩ : ByteArray), false)) else (spec_SheetText.l1 k3 ((x4_3 ++ (⟨#[44]⟩ : ByteArray)) ++ t151) l0 (l0.length : Int) x16_1 ((rd_T43 l0 x16_1).f0) (((rd_T43 l0 x16_1).f0).length : Int) (wrap64 (x33_3 + 1)) ((rd_T43 l0 x16_1).f0) ((rd_T43 l0 x16_1).f1))) else (none)) = some (r1, r2) := H
                  have A21 := Aside0.mk A210
                  clear A210
                  by_cases c22 : (x4_3 ++ (⟨#[44]⟩ : ByteArray)).size + t151.size ≤ 9223372036854775807
                  ·rw [if_pos c22] at H
                   have c22b0 := eq_true c22
                   have c22b1 : decide ((x4_3 ++ (⟨#[44]⟩ : ByteArray)).size + t151.size ≤ 9223372036854775807) = true := decide_eq_true c22
                   try have c22b2 : (9223372036854775807 < (x4_3 ++ (⟨#[44]⟩ : ByteArray)).size + t151.size) = False := eq_false (Nat.not_lt.2 c22)
                   try have c22b3 : (9223372036854775807 < (x4_3.size + 1) + t151.size) = False := by have h9_ := c22b2; simp only [ByteArray.size_append] at h9_; exact h9_
                   try have c22b7 : (9223372036854775807 < (x4_3.size + 1) + t151.size) = False := by have h9_ := c22b2; simp only [ByteArray.size_append] at h9_; exact h9_
                   by_cases c23 : (((x4_3 ++ (⟨#[44]⟩ : ByteArray)) ++ t151).size : Int) > 1500
                   ·rw [if_pos c23] at H
                    have c23b0 : decide (1500 < (((x4_3 ++ (⟨#[44]⟩ : ByteArray)) ++ t151).size : Int)) = true := decide_eq_true c23
                    try have c23b7 : decide (1500 < ((x4_3.size : Int) + 1) + (t151.size : Int)) = true := by have h9_ := c23b0; simp only [ByteArray.size_append, Int.natCast_add] at h9_; exact h9_
                    try have c23b8 : (1500 < ((x4_3.size : Int) + 1) + (t151.size : Int)) = True := by have h9_ := c23b7; simp only [decide_eq_true_eq, decide_eq_false_iff_not] at h9_; simp only [h9_]
                    have c23b1 : decide (1500 < ((x4_3 ++ (⟨#[44]⟩ : ByteArray)) ++ t151).size) = true := decide_eq_true (by omega)
                    clear c23
                    simp only [Option.some.injEq, Prod.mk.injEq] at H
                    obtain ⟨rfl, rfl⟩ := H
                    have p149 : 0 ≤ (x33_3 : Int) := of_decide_eq_true (by first | (with_reducible assumption) | assumption)
                    have q149 : x33_3 < (((rd_T43 l0 x16_1).f0).length : Int) := of_decide_eq_true (by first | (with_reducible assumption) | assumption)
                    obtain ⟨ad149, A149_0, c149_0, e149, hx149_0, hl149_0, hi149_0⟩ := at_L10 HR147_0.out x33_3 p149 q149
                    cases e149
                    replace hx149_0 := (HB.out.cell (World.block_lt_of_cell? w _ hx149_0)).trans hx149_0
                    have HR149_0 := Aside0.mk hi149_0
                    have HC149_0 := Aside0.mk hl149_0
                    clear hi149_0 hl149_0
                    replace p149 := eq_true p149
                    replace q149 := eq_true q149
                    go_wp2_with (first | ((with_reducible refine gate_callee (f := 16) rfl ?_); refine goesL_ (some 39) rfl rfl Tryd.func16 (by kernel_rfl) rfl #[.slice A149_0 (rd_L10 ((rd_T43 l0 x16_1).f0) x33_3).length c149_0] rfl (by (try simp only [List.map_toArray, List.map_cons, List.map_nil]); first | done | rfl | (simp only [List.length_drop, List.length_take]; rfl)) ?_; (with_reducible refine (spec_l5Good.calls k3 _ _ (rd_L10 ((rd_T43 l0 x16_1).f0) x33_3) true _ ?side1 ?side2 A17.out).mono ?_); (case side1 => repeat (first | exact (Kd.C_below HR149_0.out HB.out) | (with_reducible refine Kd.C_alloc ?_ _) | (with_reducible refine Kd.C_drewN ?_ _) | (with_reducible refine Kd.C_drew ?_))); (case side2 => exact HC149_0.out); rintro e w24 ⟨rfl, hb⟩; refine ⟨_, rfl, ?_⟩; have n0_ := Aside0.mk (blk_below (g := gb148) (o := .cells #[.slice (some ad149) ((rd_T43 l0 x16_1).f0).length c147_0, .slice A147_1 ((rd_T43 l0 x16_1).f1).length c147_1] 43 (0, 0)) (by (with_reducible repeat (first | refine blk_drewN ?_ _ | refine blk_drew ?_ | refine blk_alloc ?_ _)); exact BK148.out) hb); have n1_ := Aside0.mk (below_step (by repeat (first | (with_reducible first | exact HB.out | apply below_alloc | apply pw_below_drewN | apply below_drew1 | refine below_set ?_ GE148.out) | exact HB.out)) hb); clear BK148; clear HB; have BK148 := n0_; have HB := n1_; clear n0_ n1_; (try clear hb); (try clear hb2); (try clear hk); (try clear hi)) | ((with_reducible refine gate_callee (f := 17) rfl ?_); refine goesL_ (some 47) rfl rfl Tryd.func17 (by kernel_rfl) rfl #[.slice A149_0 (rd_L10 ((rd_T43 l0 x16_1).f0) x33_3).length c149_0] rfl (by (try simp only [List.map_toArray, List.map_cons, List.map_nil]); first | done | rfl | (simp only [List.length_drop, List.length_take]; rfl)) ?_; (with_reducible refine (spec_l5Text.calls k3 _ _ (rd_L10 ((rd_T43 l0 x16_1).f0) x33_3) t151 _ ?side1 ?side2 A21.out).mono ?_); (case side1 => repeat (first | exact (Kd.C_below HR149_0.out HB.out) | (with_reducible refine Kd.C_alloc ?_ _) | (with_reducible refine Kd.C_drewN ?_ _) | (with_reducible refine Kd.C_drew ?_))); (case side2 => exact HC149_0.out); rintro e w25 ⟨rfl, hb⟩; refine ⟨_, rfl, ?_⟩; have n0_ := Aside0.mk (blk_below (g := gb148) (o := .cells #[.slice (some ad149) ((rd_T43 l0 x16_1).f0).length c147_0, .slice A147_1 ((rd_T43 l0 x16_1).f1).length c147_1] 43 (0, 0)) (by (with_reducible repeat (first | refine blk_drewN ?_ _ | refine blk_drew ?_ | refine blk_alloc ?_ _)); exact BK148.out) hb); have n1_ := Aside0.mk (below_step (by repeat (first | (with_reducible first | exact HB.out | apply below_alloc | apply pw_below_drewN | apply below_drew1 | refine below_set ?_ GE148.out) | exact HB.out)) hb); clear BK148; clear HB; have BK148 := n0_; have HB := n1_; clear n0_ n1_; (try clear hb); (try clear hb2); (try clear hk); (try clear hi)))
                    go_ret2
                    exact ⟨by first | rfl | (simp [errW_none, errW_some] <;> rfl) | (simp [*, errW_none, errW_some] <;> rfl), by repeat (first | (with_reducible first | exact HB.out | apply below_alloc | apply pw_below_drewN | apply below_drew1 | refine below_set ?_ GE148.out) | exact HB.out)⟩
                   ·rw [if_neg c23] at H
                    have c23b0 : decide (1500 < (((x4_3 ++ (⟨#[44]⟩ : ByteArray)) ++ t151).size : Int)) = false := decide_eq_false c23
                    try have c23b7 : decide (1500 < ((x4_3.size : Int) + 1) + (t151.size : Int)) = false := by have h9_ := c23b0; simp only [ByteArray.size_append, Int.natCast_add] at h9_; exact h9_
                    try have c23b8 : (1500 < ((x4_3.size : Int) + 1) + (t151.size : Int)) = False := by have h9_ := c23b7; simp only [decide_eq_true_eq, decide_eq_false_iff_not] at h9_; simp only [h9_]
                    have c23b1 : decide (1500 < ((x4_3 ++ (⟨#[44]⟩ : ByteArray)) ++ t151).size) = false := decide_eq_false (by omega)
                    clear c23
                    have H' := Aside0.mk H
                    clear H
                    have p149 : 0 ≤ (x33_3 : Int) := of_decide_eq_true (by first | (with_reducible assumption) | assumption)
                    have q149 : x33_3 < (((rd_T43 l0 x16_1).f0).length : Int) := of_decide_eq_true (by first | (with_reducible assumption) | assumption)
                    obtain ⟨ad149, A149_0, c149_0, e149, hx149_0, hl149_0, hi149_0⟩ := at_L10 HR147_0.out x33_3 p149 q149
                    cases e149
                    replace hx149_0 := (HB.out.cell (World.block_lt_of_cell? w _ hx149_0)).trans hx149_0
                    have HR149_0 := Aside0.mk hi149_0
                    have HC149_0 := Aside0.mk hl149_0
                    clear hi149_0 hl149_0
                    replace p149 := eq_true p149
                    replace q149 := eq_true q149
                    go_wp2_with (first | ((with_reducible refine gate_callee (f := 16) rfl ?_); refine goesL_ (some 39) rfl rfl Tryd.func16 (by kernel_rfl) rfl #[.slice A149_0 (rd_L10 ((rd_T43 l0 x16_1).f0) x33_3).length c149_0] rfl (by (try simp only [List.map_toArray, List.map_cons, List.map_nil]); first | done | rfl | (simp only [List.length_drop, List.length_take]; rfl)) ?_; (with_reducible refine (spec_l5Good.calls k3 _ _ (rd_L10 ((rd_T43 l0 x16_1).f0) x33_3) true _ ?side1 ?side2 A17.out).mono ?_); (case side1 => repeat (first | exact (Kd.C_below HR149_0.out HB.out) | (with_reducible refine Kd.C_alloc ?_ _) | (with_reducible refine Kd.C_drewN ?_ _) | (with_reducible refine Kd.C_drew ?_))); (case side2 => exact HC149_0.out); rintro e w26 ⟨rfl, hb⟩; refine ⟨_, rfl, ?_⟩; have n0_ := Aside0.mk (blk_below (g := gb148) (o := .cells #[.slice (some ad149) ((rd_T43 l0 x16_1).f0).length c147_0, .slice A147_1 ((rd_T43 l0 x16_1).f1).length c147_1] 43 (0, 0)) (by (with_reducible repeat (first | refine blk_drewN ?_ _ | refine blk_drew ?_ | refine blk_alloc ?_ _)); exact BK148.out) hb); have n1_ := Aside0.mk (below_step (by repeat (first | (with_reducible first | exact HB.out | apply below_alloc | apply pw_below_drewN | apply below_drew1 | refine below_set ?_ GE148.out) | exact HB.out)) hb); clear BK148; clear HB; have BK148 := n0_; have HB := n1_; clear n0_ n1_; (try clear hb); (try clear hb2); (try clear hk); (try clear hi)) | ((with_reducible refine gate_callee (f := 17) rfl ?_); refine goesL_ (some 47) rfl rfl Tryd.func17 (by kernel_rfl) rfl #[.slice A149_0 (rd_L10 ((rd_T43 l0 x16_1).f0) x33_3).length c149_0] rfl (by (try simp only [List.map_toArray, List.map_cons, List.map_nil]); first | done | rfl | (simp only [List.length_drop, List.length_take]; rfl)) ?_; (with_reducible refine (spec_l5Text.calls k3 _ _ (rd_L10 ((rd_T43 l0 x16_1).f0) x33_3) t151 _ ?side1 ?side2 A21.out).mono ?_); (case side1 => repeat (first | exact (Kd.C_below HR149_0.out HB.out) | (with_reducible refine Kd.C_alloc ?_ _) | (with_reducible refine Kd.C_drewN ?_ _) | (with_reducible refine Kd.C_drew ?_))); (case side2 => exact HC149_0.out); rintro e w27 ⟨rfl, hb⟩; refine ⟨_, rfl, ?_⟩; have n0_ := Aside0.mk (blk_below (g := gb148) (o := .cells #[.slice (some ad149) ((rd_T43 l0 x16_1).f0).length c147_0, .slice A147_1 ((rd_T43 l0 x16_1).f1).length c147_1] 43 (0, 0)) (by (with_reducible repeat (first | refine blk_drewN ?_ _ | refine blk_drew ?_ | refine blk_alloc ?_ _)); exact BK148.out) hb); have n1_ := Aside0.mk (below_step (by repeat (first | (with_reducible first | exact HB.out | apply below_alloc | apply pw_below_drewN | apply below_drew1 | refine below_set ?_ GE148.out) | exact HB.out)) hb); clear BK148; clear HB; have BK148 := n0_; have HB := n1_; clear n0_ n1_; (try clear hb); (try clear hb2); (try clear hk); (try clear hi)))
                    go_roundg k3
                    case measure => have := HK1.out; have := HJ5.out; have := HK3.out; omega
                    case rel => exact ⟨((x4_3 ++ (⟨#[44]⟩ : ByteArray)) ++ t151), (wrap64 (x33_3 + 1)), (by first | rfl | (simp; done) | (simp [*]; done) | (simp [wrap64]; done)), (by first | rfl | (simp; done) | (simp [*]; done) | (simp [wrap64]; done)), H', ⟨by have := HK1.out; have := HJ5.out; have := HK3.out; omega⟩, ⟨by (with_reducible repeat (first | refine blk_drewN ?_ _ | refine blk_drew ?_ | refine blk_alloc ?_ _)); exact BK148.out⟩, ⟨by repeat (first | (with_reducible first | exact HB.out | apply below_alloc | apply pw_below_drewN | apply below_drew1 | refine below_set ?_ GE148.out) | exact HB.out)⟩⟩
                  ·rw [if_neg c22] at H
                   exact absurd H (by simp)
                 ·rw [if_neg c20] at H
                  exact absurd H (by simp)
                ·rw [if_neg c19] at H
                 have c19b0 : decide (0 < x33_3) = false := decide_eq_false c19
                 clear c19
                 replace H := Option.bind_eq_some_iff.mp H
                 obtain ⟨t152, A280, H⟩ := H
                 replace H : (if x4_3.size + t152.size ≤ 9223372036854775807 then (if ((x4_3 ++ t152).size : Int) > 1500 then (some ((⟨#[]⟩ : ByteArray), false)) else (spec_SheetText.l1 k3 (x4_3 ++ t152) l0 (l0.length : Int) x16_1 ((rd_T43 l0 x16_1).f0) (((rd_T43 l0 x16_1).f0).length : Int) (wrap64 (x33_3 + 1)) ((rd_T43 l0 x16_1).f0) ((rd_T43 l0 x16_1).f1))) else (none)) = some (r1, r2) := H
                 have A28 := Aside0.mk A280
                 clear A280
                 by_cases c29 : x4_3.size + t152.size ≤ 9223372036854775807
                 ·rw [if_pos c29] at H
                  have c29b0 := eq_true c29
                  have c29b1 : decide (x4_3.size + t152.size ≤ 9223372036854775807) = true := decide_eq_true c29
                  try have c29b2 : (9223372036854775807 < x4_3.size + t152.size) = False := eq_false (Nat.not_lt.2 c29)
                  by_cases c30 : ((x4_3 ++ t152).size : Int) > 1500
                  ·rw [if_pos c30] at H
                   have c30b0 : decide (1500 < ((x4_3 ++ t152).size : Int)) = true := decide_eq_true c30
                   try have c30b7 : decide (1500 < (x4_3.size : Int) + (t152.size : Int)) = true := by have h9_ := c30b0; simp only [ByteArray.size_append, Int.natCast_add] at h9_; exact h9_
                   try have c30b8 : (1500 < (x4_3.size : Int) + (t152.size : Int)) = True := by have h9_ := c30b7; simp only [decide_eq_true_eq, decide_eq_false_iff_not] at h9_; simp only [h9_]
                   have c30b1 : decide (1500 < (x4_3 ++ t152).size) = true := decide_eq_true (by omega)
                   clear c30
                   simp only [Option.some.injEq, Prod.mk.injEq] at H
                   obtain ⟨rfl, rfl⟩ := H
                   have p149 : 0 ≤ (x33_3 : Int) := of_decide_eq_true (by first | (with_reducible assumption) | assumption)
                   have q149 : x33_3 < (((rd_T43 l0 x16_1).f0).length : Int) := of_decide_eq_true (by first | (with_reducible assumption) | assumption)
                   obtain ⟨ad149, A149_0, c149_0, e149, hx149_0, hl149_0, hi149_0⟩ := at_L10 HR147_0.out x33_3 p149 q149
                   cases e149
                   replace hx149_0 := (HB.out.cell (World.block_lt_of_cell? w _ hx149_0)).trans hx149_0
                   have HR149_0 := Aside0.mk hi149_0
                   have HC149_0 := Aside0.mk hl149_0
                   clear hi149_0 hl149_0
                   replace p149 := eq_true p149
                   replace q149 := eq_true q149
                   go_wp2_with (first | ((with_reducible refine gate_callee (f := 16) rfl ?_); refine goesL_ (some 39) rfl rfl Tryd.func16 (by kernel_rfl) rfl #[.slice A149_0 (rd_L10 ((rd_T43 l0 x16_1).f0) x33_3).length c149_0] rfl (by (try simp only [List.map_toArray, List.map_cons, List.map_nil]); first | done | rfl | (simp only [List.length_drop, List.length_take]; rfl)) ?_; (with_reducible refine (spec_l5Good.calls k3 _ _ (rd_L10 ((rd_T43 l0 x16_1).f0) x33_3) true _ ?side1 ?side2 A17.out).mono ?_); (case side1 => repeat (first | exact (Kd.C_below HR149_0.out HB.out) | (with_reducible refine Kd.C_alloc ?_ _) | (with_reducible refine Kd.C_drewN ?_ _) | (with_reducible refine Kd.C_drew ?_))); (case side2 => exact HC149_0.out); rintro e w31 ⟨rfl, hb⟩; refine ⟨_, rfl, ?_⟩; have n0_ := Aside0.mk (blk_below (g := gb148) (o := .cells #[.slice (some ad149) ((rd_T43 l0 x16_1).f0).length c147_0, .slice A147_1 ((rd_T43 l0 x16_1).f1).length c147_1] 43 (0, 0)) (by (with_reducible repeat (first | refine blk_drewN ?_ _ | refine blk_drew ?_ | refine blk_alloc ?_ _)); exact BK148.out) hb); have n1_ := Aside0.mk (below_step (by repeat (first | (with_reducible first | exact HB.out | apply below_alloc | apply pw_below_drewN | apply below_drew1 | refine below_set ?_ GE148.out) | exact HB.out)) hb); clear BK148; clear HB; have BK148 := n0_; have HB := n1_; clear n0_ n1_; (try clear hb); (try clear hb2); (try clear hk); (try clear hi)) | ((with_reducible refine gate_callee (f := 17) rfl ?_); refine goesL_ (some 47) rfl rfl Tryd.func17 (by kernel_rfl) rfl #[.slice A149_0 (rd_L10 ((rd_T43 l0 x16_1).f0) x33_3).length c149_0] rfl (by (try simp only [List.map_toArray, List.map_cons, List.map_nil]); first | done | rfl | (simp only [List.length_drop, List.length_take]; rfl)) ?_; (with_reducible refine (spec_l5Text.calls k3 _ _ (rd_L10 ((rd_T43 l0 x16_1).f0) x33_3) t152 _ ?side1 ?side2 A28.out).mono ?_); (case side1 => repeat (first | exact (Kd.C_below HR149_0.out HB.out) | (with_reducible refine Kd.C_alloc ?_ _) | (with_reducible refine Kd.C_drewN ?_ _) | (with_reducible refine Kd.C_drew ?_))); (case side2 => exact HC149_0.out); rintro e w32 ⟨rfl, hb⟩; refine ⟨_, rfl, ?_⟩; have n0_ := Aside0.mk (blk_below (g := gb148) (o := .cells #[.slice (some ad149) ((rd_T43 l0 x16_1).f0).length c147_0, .slice A147_1 ((rd_T43 l0 x16_1).f1).length c147_1] 43 (0, 0)) (by (with_reducible repeat (first | refine blk_drewN ?_ _ | refine blk_drew ?_ | refine blk_alloc ?_ _)); exact BK148.out) hb); have n1_ := Aside0.mk (below_step (by repeat (first | (with_reducible first | exact HB.out | apply below_alloc | apply pw_below_drewN | apply below_drew1 | refine below_set ?_ GE148.out) | exact HB.out)) hb); clear BK148; clear HB; have BK148 := n0_; have HB := n1_; clear n0_ n1_; (try clear hb); (try clear hb2); (try clear hk); (try clear hi)))
                   go_ret2
                   exact ⟨by first | rfl | (simp [errW_none, errW_some] <;> rfl) | (simp [*, errW_none, errW_some] <;> rfl), by repeat (first | (with_reducible first | exact HB.out | apply below_alloc | apply pw_below_drewN | apply below_drew1 | refine below_set ?_ GE148.out) | exact HB.out)⟩
                  ·rw [if_neg c30] at H
                   have c30b0 : decide (1500 < ((x4_3 ++ t152).size : Int)) = false := decide_eq_false c30
                   try have c30b7 : decide (1500 < (x4_3.size : Int) + (t152.size : Int)) = false := by have h9_ := c30b0; simp only [ByteArray.size_append, Int.natCast_add] at h9_; exact h9_
                   try have c30b8 : (1500 < (x4_3.size : Int) + (t152.size : Int)) = False := by have h9_ := c30b7; simp only [decide_eq_true_eq, decide_eq_false_iff_not] at h9_; simp only [h9_]
                   have c30b1 : decide (1500 < (x4_3 ++ t152).size) = false := decide_eq_false (by omega)
                   clear c30
                   have H' := Aside0.mk H
                   clear H
                   have p149 : 0 ≤ (x33_3 : Int) := of_decide_eq_true (by first | (with_reducible assumption) | assumption)
                   have q149 : x33_3 < (((rd_T43 l0 x16_1).f0).length : Int) := of_decide_eq_true (by first | (with_reducible assumption) | assumption)
                   obtain ⟨ad149, A149_0, c149_0, e149, hx149_0, hl149_0, hi149_0⟩ := at_L10 HR147_0.out x33_3 p149 q149
                   cases e149
                   replace hx149_0 := (HB.out.cell (World.block_lt_of_cell? w _ hx149_0)).trans hx149_0
                   have HR149_0 := Aside0.mk hi149_0
                   have HC149_0 := Aside0.mk hl149_0
                   clear hi149_0 hl149_0
                   replace p149 := eq_true p149
                   replace q149 := eq_true q149
                   go_wp2_with (first | ((with_reducible refine gate_callee (f := 16) rfl ?_); refine goesL_ (some 39) rfl rfl Tryd.func16 (by kernel_rfl) rfl #[.slice A149_0 (rd_L10 ((rd_T43 l0 x16_1).f0) x33_3).length c149_0] rfl (by (try simp only [List.map_toArray, List.map_cons, List.map_nil]); first | done | rfl | (simp only [List.length_drop, List.length_take]; rfl)) ?_; (with_reducible refine (spec_l5Good.calls k3 _ _ (rd_L10 ((rd_T43 l0 x16_1).f0) x33_3) true _ ?side1 ?side2 A17.out).mono ?_); (case side1 => repeat (first | exact (Kd.C_below HR149_0.out HB.out) | (with_reducible refine Kd.C_alloc ?_ _) | (with_reducible refine Kd.C_drewN ?_ _) | (with_reducible refine Kd.C_drew ?_))); (case side2 => exact HC149_0.out); rintro e w33 ⟨rfl, hb⟩; refine ⟨_, rfl, ?_⟩; have n0_ := Aside0.mk (blk_below (g := gb148) (o := .cells #[.slice (some ad149) ((rd_T43 l0 x16_1).f0).length c147_0, .slice A147_1 ((rd_T43 l0 x16_1).f1).length c147_1] 43 (0, 0)) (by (with_reducible repeat (first | refine blk_drewN ?_ _ | refine blk_drew ?_ | refine blk_alloc ?_ _)); exact BK148.out) hb); have n1_ := Aside0.mk (below_step (by repeat (first | (with_reducible first | exact HB.out | apply below_alloc | apply pw_below_drewN | apply below_drew1 | refine below_set ?_ GE148.out) | exact HB.out)) hb); clear BK148; clear HB; have BK148 := n0_; have HB := n1_; clear n0_ n1_; (try clear hb); (try clear hb2); (try clear hk); (try clear hi)) | ((with_reducible refine gate_callee (f := 17) rfl ?_); refine goesL_ (some 47) rfl rfl Tryd.func17 (by kernel_rfl) rfl #[.slice A149_0 (rd_L10 ((rd_T43 l0 x16_1).f0) x33_3).length c149_0] rfl (by (try simp only [List.map_toArray, List.map_cons, List.map_nil]); first | done | rfl | (simp only [List.length_drop, List.length_take]; rfl)) ?_; (with_reducible refine (spec_l5Text.calls k3 _ _ (rd_L10 ((rd_T43 l0 x16_1).f0) x33_3) t152 _ ?side1 ?side2 A28.out).mono ?_); (case side1 => repeat (first | exact (Kd.C_below HR149_0.out HB.out) | (with_reducible refine Kd.C_alloc ?_ _) | (with_reducible refine Kd.C_drewN ?_ _) | (with_reducible refine Kd.C_drew ?_))); (case side2 => exact HC149_0.out); rintro e w34 ⟨rfl, hb⟩; refine ⟨_, rfl, ?_⟩; have n0_ := Aside0.mk (blk_below (g := gb148) (o := .cells #[.slice (some ad149) ((rd_T43 l0 x16_1).f0).length c147_0, .slice A147_1 ((rd_T43 l0 x16_1).f1).length c147_1] 43 (0, 0)) (by (with_reducible repeat (first | refine blk_drewN ?_ _ | refine blk_drew ?_ | refine blk_alloc ?_ _)); exact BK148.out) hb); have n1_ := Aside0.mk (below_step (by repeat (first | (with_reducible first | exact HB.out | apply below_alloc | apply pw_below_drewN | apply below_drew1 | refine below_set ?_ GE148.out) | exact HB.out)) hb); clear BK148; clear HB; have BK148 := n0_; have HB := n1_; clear n0_ n1_; (try clear hb); (try clear hb2); (try clear hk); (try clear hi)))
                   go_roundg k3
                   case measure => have := HK1.out; have := HJ5.out; have := HK3.out; omega
                   case rel => exact ⟨(x4_3 ++ t152), (wrap64 (x33_3 + 1)), (by first | rfl | (simp; done) | (simp [*]; done) | (simp [wrap64]; done)), (by first | rfl | (simp; done) | (simp [*]; done) | (simp [wrap64]; done)), H', ⟨by have := HK1.out; have := HJ5.out; have := HK3.out; omega⟩, ⟨by (with_reducible repeat (first | refine blk_drewN ?_ _ | refine blk_drew ?_ | refine blk_alloc ?_ _)); exact BK148.out⟩, ⟨by repeat (first | (with_reducible first | exact HB.out | apply below_alloc | apply pw_below_drewN | apply below_drew1 | refine below_set ?_ GE148.out) | exact HB.out)⟩⟩
                 ·rw [if_neg c29] at H
                  exact absurd H (by simp)
               ·replace c18 := Bool.eq_false_iff.mpr c18
                subst c18
                have H1 : (some ((⟨#[]⟩ : ByteArray), false)) = some (r1, r2) := by rw [if_neg (show ¬ (false = true) by decide)] at H; exact H
                clear H
                have H := H1
                clear H1
                simp only [Option.some.injEq, Prod.mk.injEq] at H
                obtain ⟨rfl, rfl⟩ := H
                have p149 : 0 ≤ (x33_3 : Int) := of_decide_eq_true (by first | (with_reducible assumption) | assumption)
                have q149 : x33_3 < (((rd_T43 l0 x16_1).f0).length : Int) := of_decide_eq_true (by first | (with_reducible assumption) | assumption)
                obtain ⟨ad149, A149_0, c149_0, e149, hx149_0, hl149_0, hi149_0⟩ := at_L10 HR147_0.out x33_3 p149 q149
                cases e149
                replace hx149_0 := (HB.out.cell (World.block_lt_of_cell? w _ hx149_0)).trans hx149_0
                have HR149_0 := Aside0.mk hi149_0
                have HC149_0 := Aside0.mk hl149_0
                clear hi149_0 hl149_0
                replace p149 := eq_true p149
                replace q149 := eq_true q149
                go_wp2_with (first | ((with_reducible refine gate_callee (f := 16) rfl ?_); refine goesL_ (some 39) rfl rfl Tryd.func16 (by kernel_rfl) rfl #[.slice A149_0 (rd_L10 ((rd_T43 l0 x16_1).f0) x33_3).length c149_0] rfl (by (try simp only [List.map_toArray, List.map_cons, List.map_nil]); first | done | rfl | (simp only [List.length_drop, List.length_take]; rfl)) ?_; (with_reducible refine (spec_l5Good.calls k3 _ _ (rd_L10 ((rd_T43 l0 x16_1).f0) x33_3) false _ ?side1 ?side2 A17.out).mono ?_); (case side1 => repeat (first | exact (Kd.C_below HR149_0.out HB.out) | (with_reducible refine Kd.C_alloc ?_ _) | (with_reducible refine Kd.C_drewN ?_ _) | (with_reducible refine Kd.C_drew ?_))); (case side2 => exact HC149_0.out); rintro e w35 ⟨rfl, hb⟩; refine ⟨_, rfl, ?_⟩; have n0_ := Aside0.mk (blk_below (g := gb148) (o := .cells #[.slice (some ad149) ((rd_T43 l0 x16_1).f0).length c147_0, .slice A147_1 ((rd_T43 l0 x16_1).f1).length c147_1] 43 (0, 0)) (by (with_reducible repeat (first | refine blk_drewN ?_ _ | refine blk_drew ?_ | refine blk_alloc ?_ _)); exact BK148.out) hb); have n1_ := Aside0.mk (below_step (by repeat (first | (with_reducible first | exact HB.out | apply below_alloc | apply pw_below_drewN | apply below_drew1 | refine below_set ?_ GE148.out) | exact HB.out)) hb); clear BK148; clear HB; have BK148 := n0_; have HB := n1_; clear n0_ n1_; (try clear hb); (try clear hb2); (try clear hk); (try clear hi)))
                go_ret2
                exact ⟨by first | rfl | (simp [errW_none, errW_some] <;> rfl) | (simp [*, errW_none, errW_some] <;> rfl), by repeat (first | (with_reducible first | exact HB.out | apply below_alloc | apply pw_below_drewN | apply below_drew1 | refine below_set ?_ GE148.out) | exact HB.out)⟩
              ·rw [if_neg c16] at H
               exact absurd H (by simp)
             ·rw [if_neg c15] at H
              exact absurd H (by simp)
            ·rw [if_neg c14] at H
             have c14b0 : decide (x33_3 < (((rd_T43 l0 x16_1).f0).length : Int)) = false := decide_eq_false c14
             clear c14
             by_cases c36 : x4_3.size + 1 ≤ 9223372036854775807
             ·rw [if_pos c36] at H
              have c36b0 := eq_true c36
              have c36b1 : decide (x4_3.size + 1 ≤ 9223372036854775807) = true := decide_eq_true c36
              try have c36b2 : (9223372036854775807 < x4_3.size + 1) = False := eq_false (Nat.not_lt.2 c36)
              have H' := Aside0.mk H
              clear H
              have hcz37_0 : wr.cell? ⟨gb148, 0, none⟩ = some (.slice A147_0 ((rd_T43 l0 x16_1).f0).length c147_0) := (blk_cell BK148.out 0).trans rfl
              have hcz37_1 : wr.cell? ⟨gb148, 1, none⟩ = some (.slice A147_1 ((rd_T43 l0 x16_1).f1).length c147_1) := (blk_cell BK148.out 1).trans rfl
              have hfz37_0 := blk_frozen BK148.out 0
              have hfz37_1 := blk_frozen BK148.out 1
              go_wp2
              go_loopg [4, 58] k3 (fun kq v4 v58 w' => ∃ (x4_4 : ByteArray) (x58_4 : Int), v4 = .string x4_4 ∧ v58 = .int .i64 x58_4 ∧ Aside0 (spec_SheetText.l2 kq x4_4 l0 (l0.length : Int) x16_1 ((rd_T43 l0 x16_1).f1) (((rd_T43 l0 x16_1).f1).length : Int) x58_4 = some (r1, r2)) ∧ Aside0 (kq ≤ k3) ∧ Aside0 (w'.heap[gb148]? = some (.cells #[(.slice A147_0 ((rd_T43 l0 x16_1).f0).length c147_0), (.slice A147_1 ((rd_T43 l0 x16_1).f1).length c147_1)] 43 (0, 0))) ∧ Aside0 (Below w.heap.size w w'))
              case atStart => exact ⟨(x4_3 ++ (⟨#[123]⟩ : ByteArray)), (0), (by first | rfl | (simp; done) | (simp [*]; done) | (simp [wrap64]; done)), (by first | rfl | (simp; done) | (simp [*]; done) | (simp [wrap64]; done)), H', ⟨Nat.le_refl _⟩, ⟨by (with_reducible repeat (first | refine blk_drewN ?_ _ | refine blk_drew ?_ | refine blk_alloc ?_ _)); exact BK148.out⟩, ⟨by repeat (first | (with_reducible first | exact HB.out | apply below_alloc | apply pw_below_drewN | apply below_drew1 | refine below_set ?_ GE148.out) | exact HB.out)⟩⟩
              case round =>
               clear H'
               (try clear c1);(try clear p1);(try clear q1);(try clear hx1);(try clear c2);(try clear c2b0);(try clear c2b1);(try clear p2);(try clear c3);(try clear c3b0);(try clear c4);(try clear c4b0);(try clear c5);(try clear c5b0);(try clear c6);(try clear p6);(try clear c9);(try clear c9b0);(try clear c9b1);(try clear c9b2);(try clear c12);(try clear c14);(try clear c14b0);(try clear p14);(try clear q14);(try clear hx14);(try clear c15);(try clear c15b0);(try clear c16);(try clear c16b0);(try clear c17);(try clear c18);(try clear c19);(try clear c19b0);(try clear c20);(try clear c20b0);(try clear c20b1);(try clear c20b2);(try clear c22);(try clear c22b0);(try clear c22b1);(try clear c22b2);(try clear c23);(try clear c23b0);(try clear c23b1);(try clear c29);(try clear c29b0);(try clear c29b1);(try clear c29b2);(try clear c30);(try clear c30b0);(try clear c30b1);(try clear c36);(try clear c36b0);(try clear c36b1)
               (try clear c36b2);(try clear hcz10_0);(try clear hcz10_1);(try clear hcz11_0);(try clear hcz11_1);(try clear hcz13_0);(try clear hcz13_1);(try clear hcz37_0);(try clear hcz37_1);(try clear hcz8_0);(try clear hcz8_1);(try clear hfz10_0);(try clear hfz10_1);(try clear hfz11_0);(try clear hfz11_1);(try clear hfz13_0);(try clear hfz13_1);(try clear hfz37_0);(try clear hfz37_1);(try clear hfz8_0);(try clear hfz8_1);(try clear hx147_0);(try clear hx147_1);(try clear hx149_0);(try clear p1);(try clear p147);(try clear p149);(try clear p2);(try clear q1);(try clear q147);(try clear q149)
               obtain ⟨x4_4, x58_4, rfl, rfl, HA, HK4, BK148, HB⟩ := hrel
               cases gk with
               | zero => exact absurd HA.out (by simp [spec_SheetText.l2])
               | succ k4 =>
                have H := HA.out
                clear HA
                simp only [spec_SheetText.l2] at H
                by_cases c38 : x58_4 < (((rd_T43 l0 x16_1).f1).length : Int)
                ·rw [if_pos c38] at H
                 have c38b0 : decide (x58_4 < (((rd_T43 l0 x16_1).f1).length : Int)) = true := decide_eq_true c38
                 clear c38
                 by_cases c39 : 0 ≤ x58_4
                 ·rw [if_pos c39] at H
                  have c39b0 : decide (0 ≤ x58_4) = true := decide_eq_true c39
                  clear c39
                  by_cases c40 : x58_4 < (((rd_T43 l0 x16_1).f1).length : Int)
                  ·rw [if_pos c40] at H
                   have c40b0 : decide (x58_4 < (((rd_T43 l0 x16_1).f1).length : Int)) = true := decide_eq_true c40
                   clear c40
                   replace H := Option.bind_eq_some_iff.mp H
                   obtain ⟨t155, A410, H⟩ := H
                   replace H : (if t155 = true then (if ((rd_T48 ((rd_T43 l0 x16_1).f1) x58_4).f0).size + 1 ≤ 9223372036854775807 then (if (((rd_T48 ((rd_T43 l0 x16_1).f1) x58_4).f0) ++ (⟨#[58]⟩ : ByteArray)).size + ((rd_T48 ((rd_T43 l0 x16_1).f1) x58_4).f1).size ≤ 9223372036854775807 then (if x4_4.size + ((((rd_T48 ((rd_T43 l0 x16_1).f1) x58_4).f0) ++ (⟨#[58]⟩ : ByteArray)) ++ ((rd_T48 ((rd_T43 l0 x16_1).f1) x58_4).f1)).size ≤ 9223372036854775807 then (if (rd_T48 ((rd_T43 l0 x16_1).f1) x58_4).f2 = true then (if (x4_4 ++ ((((rd_T48 ((rd_T43 l0 x16_1).f1) x58_4).f0) ++ (⟨#[58]⟩ : ByteArray)) ++ ((rd_T48 ((rd_T43 l0 x16_1).f1) x58_4).f1))).size + 11 ≤ 9223372036854775807 then (if ((x4_4 ++ ((((rd_T48 ((rd_T43 l0 x16_1).f1) x58_4).f0) ++ (⟨#[58]⟩ : ByteArray)) ++ ((rd_T48 ((rd_T43 l0 x16_1).f1) x58_4).f1))) ++ (⟨#[32, 33, 105, 109, 112, 111, 114, 116, 97, 110, 116]⟩ : ByteArray)).size + 1 ≤ 9223372036854775807 then (spec_SheetText.l2 k4 (((x4_4 ++ ((((rd_T48 ((rd_T43 l0 x16_1).f1) x58_4).f0) ++ (⟨#[58]⟩ : ByteArray)) ++ ((rd_T48 ((rd_T43 l0 x16_1).f1) x58_4).f1))) ++ (⟨#[32, 33, 105, 109, 112, 111, 114, 116, 97, 110, 116]⟩ : ByteArray)) ++ (⟨#[59]⟩ : ByteArray)) l0 (l0.length : Int) x16_1 ((rd_T43 l0 x16_1).f1) (((rd_T43 l0 x16_1).f1).length : Int) (wrap64 (x58_4 + 1))) else (none)) else (none)) else (if (x4_4 ++ ((((rd_T48 ((rd_T43 l0 x16_1).f1) x58_4).f0) ++ (⟨#[58]⟩ : ByteArray)) ++ ((rd_T48 ((rd_T43 l0 x16_1).f1) x58_4).f1))).size + 1 ≤ 9223372036854775807 then (spec_SheetText.l2 k4 ((x4_4 ++ ((((rd_T48 ((rd_T43 l0 x16_1).f1) x58_4).f0) ++ (⟨#[58]⟩ : ByteArray)) ++ ((rd_T48 ((rd_T43 l0 x16_1).f1) x58_4).f1))) ++ (⟨#[59]⟩ : ByteArray)) l0 (l0.length : Int) x16_1 ((rd_T43 l0 x16_1).f1) (((rd_T43 l0 x16_1).f1).length : Int) (wrap64 (x58_4 + 1))) else (none))) else (none)) else (none)) else (none)) else (some ((⟨#[]⟩ : ByteArray), false))) = some (r1, r2) := H
                   have A41 := Aside0.mk A410
                   clear A410
                   by_cases c42 : t155 = true
                   ·subst c42
                    have H1 : (if ((rd_T48 ((rd_T43 l0 x16_1).f1) x58_4).f0).size + 1 ≤ 9223372036854775807 then (if (((rd_T48 ((rd_T43 l0 x16_1).f1) x58_4).f0) ++ (⟨#[58]⟩ : ByteArray)).size + ((rd_T48 ((rd_T43 l0 x16_1).f1) x58_4).f1).size ≤ 9223372036854775807 then (if x4_4.size + ((((rd_T48 ((rd_T43 l0 x16_1).f1) x58_4).f0) ++ (⟨#[58]⟩ : ByteArray)) ++ ((rd_T48 ((rd_T43 l0 x16_1).f1) x58_4).f1)).size ≤ 9223372036854775807 then (if (rd_T48 ((rd_T43 l0 x16_1).f1) x58_4).f2 = true then (if (x4_4 ++ ((((rd_T48 ((rd_T43 l0 x16_1).f1) x58_4).f0) ++ (⟨#[58]⟩ : ByteArray)) ++ ((rd_T48 ((rd_T43 l0 x16_1).f1) x58_4).f1))).size + 11 ≤ 9223372036854775807 then (if ((x4_4 ++ ((((rd_T48 ((rd_T43 l0 x16_1).f1) x58_4).f0) ++ (⟨#[58]⟩ : ByteArray)) ++ ((rd_T48 ((rd_T43 l0 x16_1).f1) x58_4).f1))) ++ (⟨#[32, 33, 105, 109, 112, 111, 114, 116, 97, 110, 116]⟩ : ByteArray)).size + 1 ≤ 9223372036854775807 then (spec_SheetText.l2 k4 (((x4_4 ++ ((((rd_T48 ((rd_T43 l0 x16_1).f1) x58_4).f0) ++ (⟨#[58]⟩ : ByteArray)) ++ ((rd_T48 ((rd_T43 l0 x16_1).f1) x58_4).f1))) ++ (⟨#[32, 33, 105, 109, 112, 111, 114, 116, 97, 110, 116]⟩ : ByteArray)) ++ (⟨#[59]⟩ : ByteArray)) l0 (l0.length : Int) x16_1 ((rd_T43 l0 x16_1).f1) (((rd_T43 l0 x16_1).f1).length : Int) (wrap64 (x58_4 + 1))) else (none)) else (none)) else (if (x4_4 ++ ((((rd_T48 ((rd_T43 l0 x16_1).f1) x58_4).f0) ++ (⟨#[58]⟩ : ByteArray)) ++ ((rd_T48 ((rd_T43 l0 x16_1).f1) x58_4).f1))).size + 1 ≤ 9223372036854775807 then (spec_SheetText.l2 k4 ((x4_4 ++ ((((rd_T48 ((rd_T43 l0 x16_1).f1) x58_4).f0) ++ (⟨#[58]⟩ : ByteArray)) ++ ((rd_T48 ((rd_T43 l0 x16_1).f1) x58_4).f1))) ++ (⟨#[59]⟩ : ByteArray)) l0 (l0.length : Int) x16_1 ((rd_T43 l0 x16_1).f1) (((rd_T43 l0 x16_1).f1).length : Int) (wrap64 (x58_4 + 1))) else (none))) else (none)) else (none)) else (none)) = some (r1, r2) := by rw [if_pos rfl] at H; exact H
                    clear H
                    have H := H1
                    clear H1
                    by_cases c43 : ((rd_T48 ((rd_T43 l0 x16_1).f1) x58_4).f0).size + 1 ≤ 9223372036854775807
                    ·rw [if_pos c43] at H
                     have c43b0 := eq_true c43
                     have c43b1 : decide (((rd_T48 ((rd_T43 l0 x16_1).f1) x58_4).f0).size + 1 ≤ 9223372036854775807) = true := decide_eq_true c43
                     try have c43b2 : (9223372036854775807 < ((rd_T48 ((rd_T43 l0 x16_1).f1) x58_4).f0).size + 1) = False := eq_false (Nat.not_lt.2 c43)
                     by_cases c44 : (((rd_T48 ((rd_T43 l0 x16_1).f1) x58_4).f0) ++ (⟨#[58]⟩ : ByteArray)).size + ((rd_T48 ((rd_T43 l0 x16_1).f1) x58_4).f1).size ≤ 9223372036854775807
                     ·rw [if_pos c44] at H
                      have c44b0 := eq_true c44
                      have c44b1 : decide ((((rd_T48 ((rd_T43 l0 x16_1).f1) x58_4).f0) ++ (⟨#[58]⟩ : ByteArray)).size + ((rd_T48 ((rd_T43 l0 x16_1).f1) x58_4).f1).size ≤ 9223372036854775807) = true := decide_eq_true c44
                      try have c44b2 : (9223372036854775807 < (((rd_T48 ((rd_T43 l0 x16_1).f1) x58_4).f0) ++ (⟨#[58]⟩ : ByteArray)).size + ((rd_T48 ((rd_T43 l0 x16_1).f1) x58_4).f1).size) = False := eq_false (Nat.not_lt.2 c44)
                      try have c44b7 : (9223372036854775807 < (((rd_T48 ((rd_T43 l0 x16_1).f1) x58_4).f0).size + 1) + ((rd_T48 ((rd_T43 l0 x16_1).f1) x58_4).f1).size) = False := by have h9_ := c44b2; simp only [ByteArray.size_append] at h9_; exact h9_
                      by_cases c45 : x4_4.size + ((((rd_T48 ((rd_T43 l0 x16_1).f1) x58_4).f0) ++ (⟨#[58]⟩ : ByteArray)) ++ ((rd_T48 ((rd_T43 l0 x16_1).f1) x58_4).f1)).size ≤ 9223372036854775807
                      ·rw [if_pos c45] at H
                       have c45b0 := eq_true c45
                       have c45b1 : decide (x4_4.size + ((((rd_T48 ((rd_T43 l0 x16_1).f1) x58_4).f0) ++ (⟨#[58]⟩ : ByteArray)) ++ ((rd_T48 ((rd_T43 l0 x16_1).f1) x58_4).f1)).size ≤ 9223372036854775807) = true := decide_eq_true c45
                       try have c45b2 : (9223372036854775807 < x4_4.size + ((((rd_T48 ((rd_T43 l0 x16_1).f1) x58_4).f0) ++ (⟨#[58]⟩ : ByteArray)) ++ ((rd_T48 ((rd_T43 l0 x16_1).f1) x58_4).f1)).size) = False := eq_false (Nat.not_lt.2 c45)
                       try have c45b7 : (9223372036854775807 < x4_4.size + ((((rd_T48 ((rd_T43 l0 x16_1).f1) x58_4).f0).size + 1) + ((rd_T48 ((rd_T43 l0 x16_1).f1) x58_4).f1).size)) = False := by have h9_ := c45b2; simp only [ByteArray.size_append] at h9_; exact h9_
                       obtain ⟨bq46, hbq46⟩ : ∃ b_ : Bool, b_ = ((rd_T48 ((rd_T43 l0 x16_1).f1) x58_4).f2) := ⟨_, rfl⟩
                       replace H : (if bq46 = true then (if (x4_4 ++ ((((rd_T48 ((rd_T43 l0 x16_1).f1) x58_4).f0) ++ (⟨#[58]⟩ : ByteArray)) ++ ((rd_T48 ((rd_T43 l0 x16_1).f1) x58_4).f1))).size + 11 ≤ 9223372036854775807 then (if ((x4_4 ++ ((((rd_T48 ((rd_T43 l0 x16_1).f1) x58_4).f0) ++ (⟨#[58]⟩ : ByteArray)) ++ ((rd_T48 ((rd_T43 l0 x16_1).f1) x58_4).f1))) ++ (⟨#[32, 33, 105, 109, 112, 111, 114, 116, 97, 110, 116]⟩ : ByteArray)).size + 1 ≤ 9223372036854775807 then (spec_SheetText.l2 k4 (((x4_4 ++ ((((rd_T48 ((rd_T43 l0 x16_1).f1) x58_4).f0) ++ (⟨#[58]⟩ : ByteArray)) ++ ((rd_T48 ((rd_T43 l0 x16_1).f1) x58_4).f1))) ++ (⟨#[32, 33, 105, 109, 112, 111, 114, 116, 97, 110, 116]⟩ : ByteArray)) ++ (⟨#[59]⟩ : ByteArray)) l0 (l0.length : Int) x16_1 ((rd_T43 l0 x16_1).f1) (((rd_T43 l0 x16_1).f1).length : Int) (wrap64 (x58_4 + 1))) else (none)) else (none)) else (if (x4_4 ++ ((((rd_T48 ((rd_T43 l0 x16_1).f1) x58_4).f0) ++ (⟨#[58]⟩ : ByteArray)) ++ ((rd_T48 ((rd_T43 l0 x16_1).f1) x58_4).f1))).size + 1 ≤ 9223372036854775807 then (spec_SheetText.l2 k4 ((x4_4 ++ ((((rd_T48 ((rd_T43 l0 x16_1).f1) x58_4).f0) ++ (⟨#[58]⟩ : ByteArray)) ++ ((rd_T48 ((rd_T43 l0 x16_1).f1) x58_4).f1))) ++ (⟨#[59]⟩ : ByteArray)) l0 (l0.length : Int) x16_1 ((rd_T43 l0 x16_1).f1) (((rd_T43 l0 x16_1).f1).length : Int) (wrap64 (x58_4 + 1))) else (none))) = some (r1, r2) := by rw [← hbq46] at H; exact H
                       have Nbq46 := Aside0.mk hbq46
                       clear hbq46
                       by_cases c47 : bq46 = true
                       ·subst c47
                        have H1 : (if (x4_4 ++ ((((rd_T48 ((rd_T43 l0 x16_1).f1) x58_4).f0) ++ (⟨#[58]⟩ : ByteArray)) ++ ((rd_T48 ((rd_T43 l0 x16_1).f1) x58_4).f1))).size + 11 ≤ 9223372036854775807 then (if ((x4_4 ++ ((((rd_T48 ((rd_T43 l0 x16_1).f1) x58_4).f0) ++ (⟨#[58]⟩ : ByteArray)) ++ ((rd_T48 ((rd_T43 l0 x16_1).f1) x58_4).f1))) ++ (⟨#[32, 33, 105, 109, 112, 111, 114, 116, 97, 110, 116]⟩ : ByteArray)).size + 1 ≤ 9223372036854775807 then (spec_SheetText.l2 k4 (((x4_4 ++ ((((rd_T48 ((rd_T43 l0 x16_1).f1) x58_4).f0) ++ (⟨#[58]⟩ : ByteArray)) ++ ((rd_T48 ((rd_T43 l0 x16_1).f1) x58_4).f1))) ++ (⟨#[32, 33, 105, 109, 112, 111, 114, 116, 97, 110, 116]⟩ : ByteArray)) ++ (⟨#[59]⟩ : ByteArray)) l0 (l0.length : Int) x16_1 ((rd_T43 l0 x16_1).f1) (((rd_T43 l0 x16_1).f1).length : Int) (wrap64 (x58_4 + 1))) else (none)) else (none)) = some (r1, r2) := by rw [if_pos rfl] at H; exact H
                        clear H
                        have H := H1
                        clear H1
                        by_cases c48 : (x4_4 ++ ((((rd_T48 ((rd_T43 l0 x16_1).f1) x58_4).f0) ++ (⟨#[58]⟩ : ByteArray)) ++ ((rd_T48 ((rd_T43 l0 x16_1).f1) x58_4).f1))).size + 11 ≤ 9223372036854775807
                        ·rw [if_pos c48] at H
                         have c48b0 := eq_true c48
                         have c48b1 : decide ((x4_4 ++ ((((rd_T48 ((rd_T43 l0 x16_1).f1) x58_4).f0) ++ (⟨#[58]⟩ : ByteArray)) ++ ((rd_T48 ((rd_T43 l0 x16_1).f1) x58_4).f1))).size + 11 ≤ 9223372036854775807) = true := decide_eq_true c48
                         try have c48b2 : (9223372036854775807 < (x4_4 ++ ((((rd_T48 ((rd_T43 l0 x16_1).f1) x58_4).f0) ++ (⟨#[58]⟩ : ByteArray)) ++ ((rd_T48 ((rd_T43 l0 x16_1).f1) x58_4).f1))).size + 11) = False := eq_false (Nat.not_lt.2 c48)
                         try have c48b7 : (9223372036854775807 < (x4_4.size + ((((rd_T48 ((rd_T43 l0 x16_1).f1) x58_4).f0).size + 1) + ((rd_T48 ((rd_T43 l0 x16_1).f1) x58_4).f1).size)) + 11) = False := by have h9_ := c48b2; simp only [ByteArray.size_append] at h9_; exact h9_
                         by_cases c49 : ((x4_4 ++ ((((rd_T48 ((rd_T43 l0 x16_1).f1) x58_4).f0) ++ (⟨#[58]⟩ : ByteArray)) ++ ((rd_T48 ((rd_T43 l0 x16_1).f1) x58_4).f1))) ++ (⟨#[32, 33, 105, 109, 112, 111, 114, 116, 97, 110, 116]⟩ : ByteArray)).size + 1 ≤ 9223372036854775807
                         ·rw [if_pos c49] at H
                          have c49b0 := eq_true c49
                          have c49b1 : decide (((x4_4 ++ ((((rd_T48 ((rd_T43 l0 x16_1).f1) x58_4).f0) ++ (⟨#[58]⟩ : ByteArray)) ++ ((rd_T48 ((rd_T43 l0 x16_1).f1) x58_4).f1))) ++ (⟨#[32, 33, 105, 109, 112, 111, 114, 116, 97, 110, 116]⟩ : ByteArray)).size + 1 ≤ 9223372036854775807) = true := decide_eq_true c49
                          try have c49b2 : (9223372036854775807 < ((x4_4 ++ ((((rd_T48 ((rd_T43 l0 x16_1).f1) x58_4).f0) ++ (⟨#[58]⟩ : ByteArray)) ++ ((rd_T48 ((rd_T43 l0 x16_1).f1) x58_4).f1))) ++ (⟨#[32, 33, 105, 109, 112, 111, 114, 116, 97, 110, 116]⟩ : ByteArray)).size + 1) = False := eq_false (Nat.not_lt.2 c49)
                          try have c49b7 : (9223372036854775807 < ((x4_4.size + ((((rd_T48 ((rd_T43 l0 x16_1).f1) x58_4).f0).size + 1) + ((rd_T48 ((rd_T43 l0 x16_1).f1) x58_4).f1).size)) + 11) + 1) = False := by have h9_ := c49b2; simp only [ByteArray.size_append] at h9_; exact h9_
                          have H' := Aside0.mk H
                          clear H
                          have p153 : 0 ≤ (x58_4 : Int) := of_decide_eq_true (by first | (with_reducible assumption) | assumption)
                          have q153 : x58_4 < (((rd_T43 l0 x16_1).f1).length : Int) := of_decide_eq_true (by first | (with_reducible assumption) | assumption)
                          obtain ⟨ad153, e153, hx153_0, hx153_1, hx153_2⟩ := at_T48 HR147_1.out x58_4 p153 q153
                          (try rw [← Nbq46.out] at hx153_2)
                          (try rw [← Nbq46.out] at A41)
                          cases e153
                          replace hx153_0 := (HB.out.cell (World.block_lt_of_cell? w _ hx153_0)).trans hx153_0
                          replace hx153_1 := (HB.out.cell (World.block_lt_of_cell? w _ hx153_1)).trans hx153_1
                          replace hx153_2 := (HB.out.cell (World.block_lt_of_cell? w _ hx153_2)).trans hx153_2
                          replace p153 := eq_true p153
                          replace q153 := eq_true q153
                          go_wp2_with (first | ((with_reducible refine gate_dst (N := 10) rfl ?_); (try (refine gate_guard (by rfl) ?_; dsimp only)); refine box_event ?hg (N := 10) ?hd (cs := #[.string (⟨#[]⟩ : ByteArray), .string (⟨#[]⟩ : ByteArray), .bool false]) (t := 48) ?hr ?_; (case hd => rfl); (case hg => rfl); (case hr => first | (go_simp; done) | (go_simp; rfl)); intro gb154 hg w50 hbox hb; have n0_ := Aside0.mk (blk_below (g := gb148) (o := .cells #[.slice A147_0 ((rd_T43 l0 x16_1).f0).length c147_0, .slice (some ad153) ((rd_T43 l0 x16_1).f1).length c147_1] 43 (0, 0)) (by (with_reducible repeat (first | refine blk_drewN ?_ _ | refine blk_drew ?_ | refine blk_alloc ?_ _)); exact BK148.out) hb); have n1_ := Aside0.mk (below_step (by repeat (first | (with_reducible first | exact HB.out | apply below_alloc | apply pw_below_drewN | apply below_drew1 | refine below_set ?_ GE148.out) | exact HB.out)) hb); have n2_ := Aside0.mk (hbox); have n3_ := Aside0.mk ((by rw [hg]; exact (below_size (by repeat (first | (with_reducible first | exact HB.out | apply below_alloc | apply pw_below_drewN | apply below_drew1 | refine below_set ?_ GE148.out) | exact HB.out))) : w.heap.size ≤ gb154)); have n4_ := Aside0.mk ((by rw [hg]; exact (below_size (by repeat (first | (with_reducible first | exact HB.out | apply below_alloc | apply pw_below_drewN | apply below_drew1 | refine below_set ?_ GE148.out) | exact HB.out))) : w.heap.size ≤ gb154)); have n5_ := Aside0.mk ((by rw [hg]; exact Nat.ne_of_lt (blk_lt (g := gb148) (o := .cells #[.slice A147_0 ((rd_T43 l0 x16_1).f0).length c147_0, .slice (some ad153) ((rd_T43 l0 x16_1).f1).length c147_1] 43 (0, 0)) (by (with_reducible repeat (first | refine blk_drewN ?_ _ | refine blk_drew ?_ | refine blk_alloc ?_ _)); exact BK148.out)) : gb148 ≠ gb154)); have n6_ := Aside0.mk ((by rw [hg]; exact Nat.ne_of_gt (blk_lt (g := gb148) (o := .cells #[.slice A147_0 ((rd_T43 l0 x16_1).f0).length c147_0, .slice (some ad153) ((rd_T43 l0 x16_1).f1).length c147_1] 43 (0, 0)) (by (with_reducible repeat (first | refine blk_drewN ?_ _ | refine blk_drew ?_ | refine blk_alloc ?_ _)); exact BK148.out)) : gb154 ≠ gb148)); clear BK148; clear HB; have BK148 := n0_; have HB := n1_; have BK154 := n2_; have GW154 := n3_; have GE154 := n4_; have NB148_154 := n5_; have NB154_148 := n6_; clear n0_ n1_ n2_ n3_ n4_ n5_ n6_; clear hb hbox hg; have hnb51 := NB154_148.out; have hnc51 := NB148_154.out; have hcz52_0 : w50.cell? ⟨gb154, 0, none⟩ = some (.string (⟨#[]⟩ : ByteArray)) := (blk_cell BK154.out 0).trans rfl; have hcz52_1 : w50.cell? ⟨gb154, 1, none⟩ = some (.string (⟨#[]⟩ : ByteArray)) := (blk_cell BK154.out 1).trans rfl; have hcz52_2 : w50.cell? ⟨gb154, 2, none⟩ = some (.bool false) := (blk_cell BK154.out 2).trans rfl; have hfz52_0 := blk_frozen BK154.out 0; have hfz52_1 := blk_frozen BK154.out 1; have hfz52_2 := blk_frozen BK154.out 2) | ((with_reducible refine gate_callee (f := 18) rfl ?_); refine goesL_ (some 63) rfl rfl Tryd.func18 (by kernel_rfl) rfl #[.agg #[.string ((rd_T48 ((rd_T43 l0 x16_1).f1) x58_4).f0), .string ((rd_T48 ((rd_T43 l0 x16_1).f1) x58_4).f1), .bool true]] rfl (by (try simp only [List.map_toArray, List.map_cons, List.map_nil]); first | done | rfl | (simp only [List.length_drop, List.length_take]; rfl)) ?_; (with_reducible refine (spec_l5GoodDecl.calls k4 ((rd_T48 ((rd_T43 l0 x16_1).f1) x58_4).f0) ((rd_T48 ((rd_T43 l0 x16_1).f1) x58_4).f1) true true _ A41.out).mono ?_); rintro e w53 ⟨rfl, hb⟩; refine ⟨_, rfl, ?_⟩; have n0_ := Aside0.mk (blk_below (g := gb148) (o := .cells #[.slice A147_0 ((rd_T43 l0 x16_1).f0).length c147_0, .slice (some ad153) ((rd_T43 l0 x16_1).f1).length c147_1] 43 (0, 0)) (by (with_reducible repeat (first | refine blk_drewN ?_ _ | refine blk_drew ?_ | refine blk_alloc ?_ _)); refine blk_far ?_ NB148_154.out _; (with_reducible repeat (first | refine blk_drewN ?_ _ | refine blk_drew ?_ | refine blk_alloc ?_ _)); refine blk_far ?_ NB148_154.out _; (with_reducible repeat (first | refine blk_drewN ?_ _ | refine blk_drew ?_ | refine blk_alloc ?_ _)); refine blk_far ?_ NB148_154.out _; (with_reducible repeat (first | refine blk_drewN ?_ _ | refine blk_drew ?_ | refine blk_alloc ?_ _)); exact BK148.out) hb); have n1_ := Aside0.mk (blk_below (g := gb154) (o := .cells #[.string ((rd_T48 ((rd_T43 l0 x16_1).f1) x58_4).f0), .string ((rd_T48 ((rd_T43 l0 x16_1).f1) x58_4).f1), .bool true] 48 (0, 0)) (by (with_reducible repeat (first | refine blk_drewN ?_ _ | refine blk_drew ?_ | refine blk_alloc ?_ _)); refine blk_put (cs := #[.string ((rd_T48 ((rd_T43 l0 x16_1).f1) x58_4).f0), .string ((rd_T48 ((rd_T43 l0 x16_1).f1) x58_4).f1), .bool false]) ?_ 2 _ rfl; (with_reducible repeat (first | refine blk_drewN ?_ _ | refine blk_drew ?_ | refine blk_alloc ?_ _)); refine blk_put (cs := #[.string ((rd_T48 ((rd_T43 l0 x16_1).f1) x58_4).f0), .string (⟨#[]⟩ : ByteArray), .bool false]) ?_ 1 _ rfl; (with_reducible repeat (first | refine blk_drewN ?_ _ | refine blk_drew ?_ | refine blk_alloc ?_ _)); refine blk_put (cs := #[.string (⟨#[]⟩ : ByteArray), .string (⟨#[]⟩ : ByteArray), .bool false]) ?_ 0 _ rfl; (with_reducible repeat (first | refine blk_drewN ?_ _ | refine blk_drew ?_ | refine blk_alloc ?_ _)); exact BK154.out) hb); have n2_ := Aside0.mk (below_step (by repeat (first | (with_reducible first | exact HB.out | apply below_alloc | apply pw_below_drewN | apply below_drew1 | refine below_set ?_ GE148.out | refine below_set ?_ GE154.out) | exact HB.out)) hb); clear BK148; clear BK154; clear HB; have BK148 := n0_; have BK154 := n1_; have HB := n2_; clear n0_ n1_ n2_; (try clear hb); (try clear hb2); (try clear hk); (try clear hi); have hcz54_0 : w53.cell? ⟨gb154, 0, none⟩ = some (.string ((rd_T48 ((rd_T43 l0 x16_1).f1) x58_4).f0)) := (blk_cell BK154.out 0).trans rfl; have hcz54_1 : w53.cell? ⟨gb154, 1, none⟩ = some (.string ((rd_T48 ((rd_T43 l0 x16_1).f1) x58_4).f1)) := (blk_cell BK154.out 1).trans rfl; have hcz54_2 : w53.cell? ⟨gb154, 2, none⟩ = some (.bool true) := (blk_cell BK154.out 2).trans rfl; have hfz54_0 := blk_frozen BK154.out 0; have hfz54_1 := blk_frozen BK154.out 1; have hfz54_2 := blk_frozen BK154.out 2))
                          go_roundg k4
                          case measure => have := HK1.out; have := HJ5.out; have := HK3.out; have := HK4.out; omega
                          case rel => exact ⟨(((x4_4 ++ ((((rd_T48 ((rd_T43 l0 x16_1).f1) x58_4).f0) ++ (⟨#[58]⟩ : ByteArray)) ++ ((rd_T48 ((rd_T43 l0 x16_1).f1) x58_4).f1))) ++ (⟨#[32, 33, 105, 109, 112, 111, 114, 116, 97, 110, 116]⟩ : ByteArray)) ++ (⟨#[59]⟩ : ByteArray)), (wrap64 (x58_4 + 1)), (by first | rfl | (simp; done) | (simp [*]; done) | (simp [wrap64]; done)), (by first | rfl | (simp; done) | (simp [*]; done) | (simp [wrap64]; done)), H', ⟨by have := HK1.out; have := HJ5.out; have := HK3.out; have := HK4.out; omega⟩, ⟨by (with_reducible repeat (first | refine blk_drewN ?_ _ | refine blk_drew ?_ | refine blk_alloc ?_ _)); exact BK148.out⟩, ⟨by repeat (first | (with_reducible first | exact HB.out | apply below_alloc | apply pw_below_drewN | apply below_drew1 | refine below_set ?_ GE148.out | refine below_set ?_ GE154.out) | exact HB.out)⟩⟩
                         ·rw [if_neg c49] at H
                          exact absurd H (by simp)
                        ·rw [if_neg c48] at H
                         exact absurd H (by simp)
                       ·replace c47 := Bool.eq_false_iff.mpr c47
                        subst c47
                        have H1 : (if (x4_4 ++ ((((rd_T48 ((rd_T43 l0 x16_1).f1) x58_4).f0) ++ (⟨#[58]⟩ : ByteArray)) ++ ((rd_T48 ((rd_T43 l0 x16_1).f1) x58_4).f1))).size + 1 ≤ 9223372036854775807 then (spec_SheetText.l2 k4 ((x4_4 ++ ((((rd_T48 ((rd_T43 l0 x16_1).f1) x58_4).f0) ++ (⟨#[58]⟩ : ByteArray)) ++ ((rd_T48 ((rd_T43 l0 x16_1).f1) x58_4).f1))) ++ (⟨#[59]⟩ : ByteArray)) l0 (l0.length : Int) x16_1 ((rd_T43 l0 x16_1).f1) (((rd_T43 l0 x16_1).f1).length : Int) (wrap64 (x58_4 + 1))) else (none)) = some (r1, r2) := by rw [if_neg (show ¬ (false = true) by decide)] at H; exact H
                        clear H
                        have H := H1
                        clear H1
                        by_cases c55 : (x4_4 ++ ((((rd_T48 ((rd_T43 l0 x16_1).f1) x58_4).f0) ++ (⟨#[58]⟩ : ByteArray)) ++ ((rd_T48 ((rd_T43 l0 x16_1).f1) x58_4).f1))).size + 1 ≤ 9223372036854775807
                        ·rw [if_pos c55] at H
                         have c55b0 := eq_true c55
                         have c55b1 : decide ((x4_4 ++ ((((rd_T48 ((rd_T43 l0 x16_1).f1) x58_4).f0) ++ (⟨#[58]⟩ : ByteArray)) ++ ((rd_T48 ((rd_T43 l0 x16_1).f1) x58_4).f1))).size + 1 ≤ 9223372036854775807) = true := decide_eq_true c55
                         try have c55b2 : (9223372036854775807 < (x4_4 ++ ((((rd_T48 ((rd_T43 l0 x16_1).f1) x58_4).f0) ++ (⟨#[58]⟩ : ByteArray)) ++ ((rd_T48 ((rd_T43 l0 x16_1).f1) x58_4).f1))).size + 1) = False := eq_false (Nat.not_lt.2 c55)
                         try have c55b7 : (9223372036854775807 < (x4_4.size + ((((rd_T48 ((rd_T43 l0 x16_1).f1) x58_4).f0).size + 1) + ((rd_T48 ((rd_T43 l0 x16_1).f1) x58_4).f1).size)) + 1) = False := by have h9_ := c55b2; simp only [ByteArray.size_append] at h9_; exact h9_
                         have H' := Aside0.mk H
                         clear H
                         have p153 : 0 ≤ (x58_4 : Int) := of_decide_eq_true (by first | (with_reducible assumption) | assumption)
                         have q153 : x58_4 < (((rd_T43 l0 x16_1).f1).length : Int) := of_decide_eq_true (by first | (with_reducible assumption) | assumption)
                         obtain ⟨ad153, e153, hx153_0, hx153_1, hx153_2⟩ := at_T48 HR147_1.out x58_4 p153 q153
                         (try rw [← Nbq46.out] at hx153_2)
                         (try rw [← Nbq46.out] at A41)
                         cases e153
                         replace hx153_0 := (HB.out.cell (World.block_lt_of_cell? w _ hx153_0)).trans hx153_0
                         replace hx153_1 := (HB.out.cell (World.block_lt_of_cell? w _ hx153_1)).trans hx153_1
                         replace hx153_2 := (HB.out.cell (World.block_lt_of_cell? w _ hx153_2)).trans hx153_2
                         replace p153 := eq_true p153
                         replace q153 := eq_true q153
                         go_wp2_with (first | ((with_reducible refine gate_dst (N := 10) rfl ?_); (try (refine gate_guard (by rfl) ?_; dsimp only)); refine box_event ?hg (N := 10) ?hd (cs := #[.string (⟨#[]⟩ : ByteArray), .string (⟨#[]⟩ : ByteArray), .bool false]) (t := 48) ?hr ?_; (case hd => rfl); (case hg => rfl); (case hr => first | (go_simp; done) | (go_simp; rfl)); intro gb154 hg w56 hbox hb; have n0_ := Aside0.mk (blk_below (g := gb148) (o := .cells #[.slice A147_0 ((rd_T43 l0 x16_1).f0).length c147_0, .slice (some ad153) ((rd_T43 l0 x16_1).f1).length c147_1] 43 (0, 0)) (by (with_reducible repeat (first | refine blk_drewN ?_ _ | refine blk_drew ?_ | refine blk_alloc ?_ _)); exact BK148.out) hb); have n1_ := Aside0.mk (below_step (by repeat (first | (with_reducible first | exact HB.out | apply below_alloc | apply pw_below_drewN | apply below_drew1 | refine below_set ?_ GE148.out) | exact HB.out)) hb); have n2_ := Aside0.mk (hbox); have n3_ := Aside0.mk ((by rw [hg]; exact (below_size (by repeat (first | (with_reducible first | exact HB.out | apply below_alloc | apply pw_below_drewN | apply below_drew1 | refine below_set ?_ GE148.out) | exact HB.out))) : w.heap.size ≤ gb154)); have n4_ := Aside0.mk ((by rw [hg]; exact (below_size (by repeat (first | (with_reducible first | exact HB.out | apply below_alloc | apply pw_below_drewN | apply below_drew1 | refine below_set ?_ GE148.out) | exact HB.out))) : w.heap.size ≤ gb154)); have n5_ := Aside0.mk ((by rw [hg]; exact Nat.ne_of_lt (blk_lt (g := gb148) (o := .cells #[.slice A147_0 ((rd_T43 l0 x16_1).f0).length c147_0, .slice (some ad153) ((rd_T43 l0 x16_1).f1).length c147_1] 43 (0, 0)) (by (with_reducible repeat (first | refine blk_drewN ?_ _ | refine blk_drew ?_ | refine blk_alloc ?_ _)); exact BK148.out)) : gb148 ≠ gb154)); have n6_ := Aside0.mk ((by rw [hg]; exact Nat.ne_of_gt (blk_lt (g := gb148) (o := .cells #[.slice A147_0 ((rd_T43 l0 x16_1).f0).length c147_0, .slice (some ad153) ((rd_T43 l0 x16_1).f1).length c147_1] 43 (0, 0)) (by (with_reducible repeat (first | refine blk_drewN ?_ _ | refine blk_drew ?_ | refine blk_alloc ?_ _)); exact BK148.out)) : gb154 ≠ gb148)); clear BK148; clear HB; have BK148 := n0_; have HB := n1_; have BK154 := n2_; have GW154 := n3_; have GE154 := n4_; have NB148_154 := n5_; have NB154_148 := n6_; clear n0_ n1_ n2_ n3_ n4_ n5_ n6_; clear hb hbox hg; have hnb57 := NB154_148.out; have hnc57 := NB148_154.out; have hcz58_0 : w56.cell? ⟨gb154, 0, none⟩ = some (.string (⟨#[]⟩ : ByteArray)) := (blk_cell BK154.out 0).trans rfl; have hcz58_1 : w56.cell? ⟨gb154, 1, none⟩ = some (.string (⟨#[]⟩ : ByteArray)) := (blk_cell BK154.out 1).trans rfl; have hcz58_2 : w56.cell? ⟨gb154, 2, none⟩ = some (.bool false) := (blk_cell BK154.out 2).trans rfl; have hfz58_0 := blk_frozen BK154.out 0; have hfz58_1 := blk_frozen BK154.out 1; have hfz58_2 := blk_frozen BK154.out 2) | ((with_reducible refine gate_callee (f := 18) rfl ?_); refine goesL_ (some 63) rfl rfl Tryd.func18 (by kernel_rfl) rfl #[.agg #[.string ((rd_T48 ((rd_T43 l0 x16_1).f1) x58_4).f0), .string ((rd_T48 ((rd_T43 l0 x16_1).f1) x58_4).f1), .bool false]] rfl (by (try simp only [List.map_toArray, List.map_cons, List.map_nil]); first | done | rfl | (simp only [List.length_drop, List.length_take]; rfl)) ?_; (with_reducible refine (spec_l5GoodDecl.calls k4 ((rd_T48 ((rd_T43 l0 x16_1).f1) x58_4).f0) ((rd_T48 ((rd_T43 l0 x16_1).f1) x58_4).f1) false true _ A41.out).mono ?_); rintro e w59 ⟨rfl, hb⟩; refine ⟨_, rfl, ?_⟩; have n0_ := Aside0.mk (blk_below (g := gb148) (o := .cells #[.slice A147_0 ((rd_T43 l0 x16_1).f0).length c147_0, .slice (some ad153) ((rd_T43 l0 x16_1).f1).length c147_1] 43 (0, 0)) (by (with_reducible repeat (first | refine blk_drewN ?_ _ | refine blk_drew ?_ | refine blk_alloc ?_ _)); refine blk_far ?_ NB148_154.out _; (with_reducible repeat (first | refine blk_drewN ?_ _ | refine blk_drew ?_ | refine blk_alloc ?_ _)); refine blk_far ?_ NB148_154.out _; (with_reducible repeat (first | refine blk_drewN ?_ _ | refine blk_drew ?_ | refine blk_alloc ?_ _)); refine blk_far ?_ NB148_154.out _; (with_reducible repeat (first | refine blk_drewN ?_ _ | refine blk_drew ?_ | refine blk_alloc ?_ _)); exact BK148.out) hb); have n1_ := Aside0.mk (blk_below (g := gb154) (o := .cells #[.string ((rd_T48 ((rd_T43 l0 x16_1).f1) x58_4).f0), .string ((rd_T48 ((rd_T43 l0 x16_1).f1) x58_4).f1), .bool false] 48 (0, 0)) (by (with_reducible repeat (first | refine blk_drewN ?_ _ | refine blk_drew ?_ | refine blk_alloc ?_ _)); refine blk_put (cs := #[.string ((rd_T48 ((rd_T43 l0 x16_1).f1) x58_4).f0), .string ((rd_T48 ((rd_T43 l0 x16_1).f1) x58_4).f1), .bool false]) ?_ 2 _ rfl; (with_reducible repeat (first | refine blk_drewN ?_ _ | refine blk_drew ?_ | refine blk_alloc ?_ _)); refine blk_put (cs := #[.string ((rd_T48 ((rd_T43 l0 x16_1).f1) x58_4).f0), .string (⟨#[]⟩ : ByteArray), .bool false]) ?_ 1 _ rfl; (with_reducible repeat (first | refine blk_drewN ?_ _ | refine blk_drew ?_ | refine blk_alloc ?_ _)); refine blk_put (cs := #[.string (⟨#[]⟩ : ByteArray), .string (⟨#[]⟩ : ByteArray), .bool false]) ?_ 0 _ rfl; (with_reducible repeat (first | refine blk_drewN ?_ _ | refine blk_drew ?_ | refine blk_alloc ?_ _)); exact BK154.out) hb); have n2_ := Aside0.mk (below_step (by repeat (first | (with_reducible first | exact HB.out | apply below_alloc | apply pw_below_drewN | apply below_drew1 | refine below_set ?_ GE148.out | refine below_set ?_ GE154.out) | exact HB.out)) hb); clear BK148; clear BK154; clear HB; have BK148 := n0_; have BK154 := n1_; have HB := n2_; clear n0_ n1_ n2_; (try clear hb); (try clear hb2); (try clear hk); (try clear hi); have hcz60_0 : w59.cell? ⟨gb154, 0, none⟩ = some (.string ((rd_T48 ((rd_T43 l0 x16_1).f1) x58_4).f0)) := (blk_cell BK154.out 0).trans rfl; have hcz60_1 : w59.cell? ⟨gb154, 1, none⟩ = some (.string ((rd_T48 ((rd_T43 l0 x16_1).f1) x58_4).f1)) := (blk_cell BK154.out 1).trans rfl; have hcz60_2 : w59.cell? ⟨gb154, 2, none⟩ = some (.bool false) := (blk_cell BK154.out 2).trans rfl; have hfz60_0 := blk_frozen BK154.out 0; have hfz60_1 := blk_frozen BK154.out 1; have hfz60_2 := blk_frozen BK154.out 2))
                         go_roundg k4
                         case measure => have := HK1.out; have := HJ5.out; have := HK3.out; have := HK4.out; omega
                         case rel => exact ⟨((x4_4 ++ ((((rd_T48 ((rd_T43 l0 x16_1).f1) x58_4).f0) ++ (⟨#[58]⟩ : ByteArray)) ++ ((rd_T48 ((rd_T43 l0 x16_1).f1) x58_4).f1))) ++ (⟨#[59]⟩ : ByteArray)), (wrap64 (x58_4 + 1)), (by first | rfl | (simp; done) | (simp [*]; done) | (simp [wrap64]; done)), (by first | rfl | (simp; done) | (simp [*]; done) | (simp [wrap64]; done)), H', ⟨by have := HK1.out; have := HJ5.out; have := HK3.out; have := HK4.out; omega⟩, ⟨by (with_reducible repeat (first | refine blk_drewN ?_ _ | refine blk_drew ?_ | refine blk_alloc ?_ _)); exact BK148.out⟩, ⟨by repeat (first | (with_reducible first | exact HB.out | apply below_alloc | apply pw_below_drewN | apply below_drew1 | refine below_set ?_ GE148.out | refine below_set ?_ GE154.out) | exact HB.out)⟩⟩
                        ·rw [if_neg c55] at H
                         exact absurd H (by simp)
                      ·rw [if_neg c45] at H
                       exact absurd H (by simp)
                     ·rw [if_neg c44] at H
                      exact absurd H (by simp)
                    ·rw [if_neg c43] at H
                     exact absurd H (by simp)
                   ·replace c42 := Bool.eq_false_iff.mpr c42
                    subst c42
                    have H1 : (some ((⟨#[]⟩ : ByteArray), false)) = some (r1, r2) := by rw [if_neg (show ¬ (false = true) by decide)] at H; exact H
                    clear H
                    have H := H1
                    clear H1
                    simp only [Option.some.injEq, Prod.mk.injEq] at H
                    obtain ⟨rfl, rfl⟩ := H
                    have p153 : 0 ≤ (x58_4 : Int) := of_decide_eq_true (by first | (with_reducible assumption) | assumption)
                    have q153 : x58_4 < (((rd_T43 l0 x16_1).f1).length : Int) := of_decide_eq_true (by first | (with_reducible assumption) | assumption)
                    obtain ⟨ad153, e153, hx153_0, hx153_1, hx153_2⟩ := at_T48 HR147_1.out x58_4 p153 q153
                    cases e153
                    replace hx153_0 := (HB.out.cell (World.block_lt_of_cell? w _ hx153_0)).trans hx153_0
                    replace hx153_1 := (HB.out.cell (World.block_lt_of_cell? w _ hx153_1)).trans hx153_1
                    replace hx153_2 := (HB.out.cell (World.block_lt_of_cell? w _ hx153_2)).trans hx153_2
                    replace p153 := eq_true p153
                    replace q153 := eq_true q153
                    go_wp2_with (first | ((with_reducible refine gate_dst (N := 10) rfl ?_); (try (refine gate_guard (by rfl) ?_; dsimp only)); refine box_event ?hg (N := 10) ?hd (cs := #[.string (⟨#[]⟩ : ByteArray), .string (⟨#[]⟩ : ByteArray), .bool false]) (t := 48) ?hr ?_; (case hd => rfl); (case hg => rfl); (case hr => first | (go_simp; done) | (go_simp; rfl)); intro gb154 hg w61 hbox hb; have n0_ := Aside0.mk (blk_below (g := gb148) (o := .cells #[.slice A147_0 ((rd_T43 l0 x16_1).f0).length c147_0, .slice (some ad153) ((rd_T43 l0 x16_1).f1).length c147_1] 43 (0, 0)) (by (with_reducible repeat (first | refine blk_drewN ?_ _ | refine blk_drew ?_ | refine blk_alloc ?_ _)); exact BK148.out) hb); have n1_ := Aside0.mk (below_step (by repeat (first | (with_reducible first | exact HB.out | apply below_alloc | apply pw_below_drewN | apply below_drew1 | refine below_set ?_ GE148.out) | exact HB.out)) hb); have n2_ := Aside0.mk (hbox); have n3_ := Aside0.mk ((by rw [hg]; exact (below_size (by repeat (first | (with_reducible first | exact HB.out | apply below_alloc | apply pw_below_drewN | apply below_drew1 | refine below_set ?_ GE148.out) | exact HB.out))) : w.heap.size ≤ gb154)); have n4_ := Aside0.mk ((by rw [hg]; exact (below_size (by repeat (first | (with_reducible first | exact HB.out | apply below_alloc | apply pw_below_drewN | apply below_drew1 | refine below_set ?_ GE148.out) | exact HB.out))) : w.heap.size ≤ gb154)); have n5_ := Aside0.mk ((by rw [hg]; exact Nat.ne_of_lt (blk_lt (g := gb148) (o := .cells #[.slice A147_0 ((rd_T43 l0 x16_1).f0).length c147_0, .slice (some ad153) ((rd_T43 l0 x16_1).f1).length c147_1] 43 (0, 0)) (by (with_reducible repeat (first | refine blk_drewN ?_ _ | refine blk_drew ?_ | refine blk_alloc ?_ _)); exact BK148.out)) : gb148 ≠ gb154)); have n6_ := Aside0.mk ((by rw [hg]; exact Nat.ne_of_gt (blk_lt (g := gb148) (o := .cells #[.slice A147_0 ((rd_T43 l0 x16_1).f0).length c147_0, .slice (some ad153) ((rd_T43 l0 x16_1).f1).length c147_1] 43 (0, 0)) (by (with_reducible repeat (first | refine blk_drewN ?_ _ | refine blk_drew ?_ | refine blk_alloc ?_ _)); exact BK148.out)) : gb154 ≠ gb148)); clear BK148; clear HB; have BK148 := n0_; have HB := n1_; have BK154 := n2_; have GW154 := n3_; have GE154 := n4_; have NB148_154 := n5_; have NB154_148 := n6_; clear n0_ n1_ n2_ n3_ n4_ n5_ n6_; clear hb hbox hg; have hnb62 := NB154_148.out; have hnc62 := NB148_154.out; have hcz63_0 : w61.cell? ⟨gb154, 0, none⟩ = some (.string (⟨#[]⟩ : ByteArray)) := (blk_cell BK154.out 0).trans rfl; have hcz63_1 : w61.cell? ⟨gb154, 1, none⟩ = some (.string (⟨#[]⟩ : ByteArray)) := (blk_cell BK154.out 1).trans rfl; have hcz63_2 : w61.cell? ⟨gb154, 2, none⟩ = some (.bool false) := (blk_cell BK154.out 2).trans rfl; have hfz63_0 := blk_frozen BK154.out 0; have hfz63_1 := blk_frozen BK154.out 1; have hfz63_2 := blk_frozen BK154.out 2) | ((with_reducible refine gate_callee (f := 18) rfl ?_); refine goesL_ (some 63) rfl rfl Tryd.func18 (by kernel_rfl) rfl #[.agg #[.string ((rd_T48 ((rd_T43 l0 x16_1).f1) x58_4).f0), .string ((rd_T48 ((rd_T43 l0 x16_1).f1) x58_4).f1), .bool ((rd_T48 ((rd_T43 l0 x16_1).f1) x58_4).f2)]] rfl (by (try simp only [List.map_toArray, List.map_cons, List.map_nil]); first | done | rfl | (simp only [List.length_drop, List.length_take]; rfl)) ?_; (with_reducible refine (spec_l5GoodDecl.calls k4 ((rd_T48 ((rd_T43 l0 x16_1).f1) x58_4).f0) ((rd_T48 ((rd_T43 l0 x16_1).f1) x58_4).f1) ((rd_T48 ((rd_T43 l0 x16_1).f1) x58_4).f2) false _ A41.out).mono ?_); rintro e w64 ⟨rfl, hb⟩; refine ⟨_, rfl, ?_⟩; have n0_ := Aside0.mk (blk_below (g := gb148) (o := .cells #[.slice A147_0 ((rd_T43 l0 x16_1).f0).length c147_0, .slice (some ad153) ((rd_T43 l0 x16_1).f1).length c147_1] 43 (0, 0)) (by (with_reducible repeat (first | refine blk_drewN ?_ _ | refine blk_drew ?_ | refine blk_alloc ?_ _)); refine blk_far ?_ NB148_154.out _; (with_reducible repeat (first | refine blk_drewN ?_ _ | refine blk_drew ?_ | refine blk_alloc ?_ _)); refine blk_far ?_ NB148_154.out _; (with_reducible repeat (first | refine blk_drewN ?_ _ | refine blk_drew ?_ | refine blk_alloc ?_ _)); refine blk_far ?_ NB148_154.out _; (with_reducible repeat (first | refine blk_drewN ?_ _ | refine blk_drew ?_ | refine blk_alloc ?_ _)); exact BK148.out) hb); have n1_ := Aside0.mk (blk_below (g := gb154) (o := .cells #[.string ((rd_T48 ((rd_T43 l0 x16_1).f1) x58_4).f0), .string ((rd_T48 ((rd_T43 l0 x16_1).f1) x58_4).f1), .bool ((rd_T48 ((rd_T43 l0 x16_1).f1) x58_4).f2)] 48 (0, 0)) (by (with_reducible repeat (first | refine blk_drewN ?_ _ | refine blk_drew ?_ | refine blk_alloc ?_ _)); refine blk_put (cs := #[.string ((rd_T48 ((rd_T43 l0 x16_1).f1) x58_4).f0), .string ((rd_T48 ((rd_T43 l0 x16_1).f1) x58_4).f1), .bool false]) ?_ 2 _ rfl; (with_reducible repeat (first | refine blk_drewN ?_ _ | refine blk_drew ?_ | refine blk_alloc ?_ _)); refine blk_put (cs := #[.string ((rd_T48 ((rd_T43 l0 x16_1).f1) x58_4).f0), .string (⟨#[]⟩ : ByteArray), .bool false]) ?_ 1 _ rfl; (with_reducible repeat (first | refine blk_drewN ?_ _ | refine blk_drew ?_ | refine blk_alloc ?_ _)); refine blk_put (cs := #[.string (⟨#[]⟩ : ByteArray), .string (⟨#[]⟩ : ByteArray), .bool false]) ?_ 0 _ rfl; (with_reducible repeat (first | refine blk_drewN ?_ _ | refine blk_drew ?_ | refine blk_alloc ?_ _)); exact BK154.out) hb); have n2_ := Aside0.mk (below_step (by repeat (first | (with_reducible first | exact HB.out | apply below_alloc | apply pw_below_drewN | apply below_drew1 | refine below_set ?_ GE148.out | refine below_set ?_ GE154.out) | exact HB.out)) hb); clear BK148; clear BK154; clear HB; have BK148 := n0_; have BK154 := n1_; have HB := n2_; clear n0_ n1_ n2_; (try clear hb); (try clear hb2); (try clear hk); (try clear hi)))
                    go_ret2
                    exact ⟨by first | rfl | (simp [errW_none, errW_some] <;> rfl) | (simp [*, errW_none, errW_some] <;> rfl), by repeat (first | (with_reducible first | exact HB.out | apply below_alloc | apply pw_below_drewN | apply below_drew1 | refine below_set ?_ GE148.out | refine below_set ?_ GE154.out) | exact HB.out)⟩
                  ·rw [if_neg c40] at H
                   exact absurd H (by simp)
                 ·rw [if_neg c39] at H
                  exact absurd H (by simp)
                ·rw [if_neg c38] at H
                 have c38b0 : decide (x58_4 < (((rd_T43 l0 x16_1).f1).length : Int)) = false := decide_eq_false c38
                 clear c38
                 by_cases c65 : x4_4.size + 1 ≤ 9223372036854775807
                 ·rw [if_pos c65] at H
                  have c65b0 := eq_true c65
                  have c65b1 : decide (x4_4.size + 1 ≤ 9223372036854775807) = true := decide_eq_true c65
                  try have c65b2 : (9223372036854775807 < x4_4.size + 1) = False := eq_false (Nat.not_lt.2 c65)
                  have H' := Aside0.mk H
                  clear H
                  go_wp2
                  go_roundg k4
                  case measure => have := HK1.out; have := HJ5.out; have := HK3.out; have := HK4.out; omega
                  case rel => exact ⟨(x4_4 ++ (⟨#[125]⟩ : ByteArray)), (wrap64 (x16_1 + 1)), (by first | rfl | (simp; done) | (simp [*]; done) | (simp [wrap64]; done)), (by first | rfl | (simp; done) | (simp [*]; done) | (simp [wrap64]; done)), H', ⟨by have := HK1.out; have := HJ5.out; have := HK3.out; have := HK4.out; omega⟩, ⟨by repeat (first | (with_reducible first | exact HB.out | apply below_alloc | apply pw_below_drewN | apply below_drew1 | refine below_set ?_ GE148.out) | exact HB.out)⟩⟩
                 ·rw [if_neg c65] at H
                  exact absurd H (by simp)
             ·rw [if_neg c36] at H
              exact absurd H (by simp)
      ·rw [if_neg c5] at H
       exact absurd H (by simp)
     ·rw [if_neg c4] at H
      exact absurd H (by simp)
    ·rw [if_neg c3] at H
     have c3b0 : decide (x16_1 < (l0.length : Int)) = false := decide_eq_false c3
     clear c3
     by_cases c66 : (x4_1.size : Int) > 1500
     ·rw [if_pos c66] at H
      have c66b0 : decide (1500 < (x4_1.size : Int)) = true := decide_eq_true c66
      have c66b1 : decide (1500 < x4_1.size) = true := decide_eq_true (by omega)
      clear c66
      simp only [Option.some.injEq, Prod.mk.injEq] at H
      obtain ⟨rfl, rfl⟩ := H
      go_wp2
      go_ret2
      exact ⟨by first | rfl | (simp [errW_none, errW_some] <;> rfl) | (simp [*, errW_none, errW_some] <;> rfl), by repeat (first | (with_reducible first | exact HB.out | apply below_alloc | apply pw_below_drewN | apply below_drew1) | exact HB.out)⟩
     ·rw [if_neg c66] at H
      have c66b0 : decide (1500 < (x4_1.size : Int)) = false := decide_eq_false c66
      have c66b1 : decide (1500 < x4_1.size) = false := decide_eq_false (by omega)
      clear c66
      simp only [Option.some.injEq, Prod.mk.injEq] at H
      obtain ⟨rfl, rfl⟩ := H
      go_wp2
      go_ret2
      exact ⟨by first | rfl | (simp [errW_none, errW_some] <;> rfl) | (simp [*, errW_none, errW_some] <;> rfl), by repeat (first | (with_reducible first | exact HB.out | apply below_alloc | apply pw_below_drewN | apply below_drew1) | exact HB.out)⟩

end Go.Proofs.YtganmdnieihpeaaDoor.PFnExactSheetText
