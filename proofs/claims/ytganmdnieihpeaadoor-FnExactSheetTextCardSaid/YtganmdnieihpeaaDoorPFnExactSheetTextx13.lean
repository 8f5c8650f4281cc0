-- Laid by a program of this session out of the translation (its own run of the print). Lean checks it.
import Derived.Test.YtganmdnieihpeaaDoorPFnExactSheetTextx0
import Derived.Test.YtganmdnieihpeaaDoorPFnExactSheetTextx8
import Derived.Test.YtganmdnieihpeaaDoorPFnExactSheetTextx10
import Derived.Test.YtganmdnieihpeaaDoorPFnExactSheetTextx12
namespace Go.Proofs.YtganmdnieihpeaaDoor.PFnExactSheetText
open Go.RowKit Go.Proofs.YtganmdnieihpeaaDoorW.PrintWords Go.Proofs.YtganmdnieihpeaaDoorW.PrintLast Go.Proofs.YtganmdnieihpeaaDoorW.PrintMore
attribute [local go_sem] max2_int min2_int max_two min_two max_three min_three max_four min_four   -- for this text's walks alone
set_option linter.unusedVariables false
set_option linter.unusedSimpArgs false

/-! ### impl_SheetText: function 8 -/
mutual
def impl_SheetText.l0 : Nat → ByteArray → List (S43) → Int → Int → Option (ByteArray × Bool)
 | 0, _, _, _, _ => none
 | k + 1, x4, x17, x18, x19 => if x19 < x18 then (if 0 ≤ x19 then (if x19 < (x17.length : Int) then (impl_SheetText.l1 k x4 (([] : List ByteArray)) x17 x18 x19 ((rd_T43 x17 x19).f0) (((rd_T43 x17 x19).f0).length : Int) 0 ((rd_T43 x17 x19).f0) ((rd_T43 x17 x19).f1)) else (none)) else (none)) else (if (x4.size : Int) > 1500 then (some ((⟨#[]⟩ : ByteArray), false)) else (some (x4, true)))
def impl_SheetText.l1 : Nat → ByteArray → List ByteArray → List (S43) → Int → Int → List (List (S63)) → Int → Int → List (List (S63)) → List (S48) → Option (ByteArray × Bool)
 | 0, _, _, _, _, _, _, _, _, _, _ => none
 | k + 1, x4, x7, x17, x18, x19, x25, x26, x27, x251000, x251001 => if x27 < x26 then (if 0 ≤ x27 then (if x27 < (x25.length : Int) then ((impl_SelectorText.f k (rd_L10 x25 x27)).bind fun bt255 => (if bt255.2 = true then (if x7.length < 8796093022208 then (impl_SheetText.l1 k x4 (x7 ++ [bt255.1]) x17 x18 x19 x25 x26 (wrap64 (x27 + 1)) x251000 x251001) else (none)) else (some ((⟨#[]⟩ : ByteArray), false)))) else (none)) else (none)) else (if (x7.length : Int) = 0 then (impl_SheetText.j2 k x4 x7 x17 x18 x19 true x251000 x251001) else (impl_SheetText.j2 k x4 x7 x17 x18 x19 (decide ((x251001.length : Int) > 12)) x251000 x251001))
def impl_SheetText.j2 : Nat → ByteArray → List ByteArray → List (S43) → Int → Int → Bool → List (List (S63)) → List (S48) → Option (ByteArray × Bool)
 | 0, _, _, _, _, _, _, _, _ => none
 | k + 1, x4, x7, x17, x18, x19, x51, x251000, x251001 => if x51 = true then (some ((⟨#[]⟩ : ByteArray), false)) else ((strings_Join.f x7 (⟨#[44]⟩ : ByteArray)).bind fun t260 => (if t260.size + 1 ≤ 9223372036854775807 then (if x4.size + (t260 ++ (⟨#[123]⟩ : ByteArray)).size ≤ 9223372036854775807 then (impl_SheetText.l2 k (x4 ++ (t260 ++ (⟨#[123]⟩ : ByteArray))) x17 x18 x19 x251001 (x251001.length : Int) 0) else (none)) else (none)))
def impl_SheetText.l2 : Nat → ByteArray → List (S43) → Int → Int → List (S48) → Int → Int → Option (ByteArray × Bool)
 | 0, _, _, _, _, _, _, _ => none
 | k + 1, x4, x17, x18, x19, x58, x59, x60 => if x60 < x59 then (if 0 ≤ x60 then (if x60 < (x58.length : Int) then ((impl_isDecl.f k ((rd_T48 x58 x60).f0) ((rd_T48 x58 x60).f1) ((rd_T48 x58 x60).f2)).bind fun t263 => (if t263 = true then (if ((rd_T48 x58 x60).f0).size + 1 ≤ 9223372036854775807 then (if (((rd_T48 x58 x60).f0) ++ (⟨#[58]⟩ : ByteArray)).size + ((rd_T48 x58 x60).f1).size ≤ 9223372036854775807 then (if x4.size + ((((rd_T48 x58 x60).f0) ++ (⟨#[58]⟩ : ByteArray)) ++ ((rd_T48 x58 x60).f1)).size ≤ 9223372036854775807 then (if (rd_T48 x58 x60).f2 = true then (if (x4 ++ ((((rd_T48 x58 x60).f0) ++ (⟨#[58]⟩ : ByteArray)) ++ ((rd_T48 x58 x60).f1))).size + 11 ≤ 9223372036854775807 then (if ((x4 ++ ((((rd_T48 x58 x60).f0) ++ (⟨#[58]⟩ : ByteArray)) ++ ((rd_T48 x58 x60).f1))) ++ (⟨#[32, 33, 105, 109, 112, 111, 114, 116, 97, 110, 116]⟩ : ByteArray)).size + 1 ≤ 9223372036854775807 then (impl_SheetText.l2 k (((x4 ++ ((((rd_T48 x58 x60).f0) ++ (⟨#[58]⟩ : ByteArray)) ++ ((rd_T48 x58 x60).f1))) ++ (⟨#[32, 33, 105, 109, 112, 111, 114, 116, 97, 110, 116]⟩ : ByteArray)) ++ (⟨#[59]⟩ : ByteArray)) x17 x18 x19 x58 x59 (wrap64 (x60 + 1))) else (none)) else (none)) else (if (x4 ++ ((((rd_T48 x58 x60).f0) ++ (⟨#[58]⟩ : ByteArray)) ++ ((rd_T48 x58 x60).f1))).size + 1 ≤ 9223372036854775807 then (impl_SheetText.l2 k ((x4 ++ ((((rd_T48 x58 x60).f0) ++ (⟨#[58]⟩ : ByteArray)) ++ ((rd_T48 x58 x60).f1))) ++ (⟨#[59]⟩ : ByteArray)) x17 x18 x19 x58 x59 (wrap64 (x60 + 1))) else (none))) else (none)) else (none)) else (none)) else (some ((⟨#[]⟩ : ByteArray), false)))) else (none)) else (none)) else (if x4.size + 1 ≤ 9223372036854775807 then (impl_SheetText.l0 k (x4 ++ (⟨#[125]⟩ : ByteArray)) x17 x18 (wrap64 (x19 + 1))) else (none))
end
def impl_SheetText.f (k : Nat) (l0 : List (S43)) : Option (ByteArray × Bool) := if (l0.length : Int) > 30 then (some ((⟨#[]⟩ : ByteArray), false)) else (impl_SheetText.l0 k (⟨#[]⟩ : ByteArray) l0 (l0.length : Int) 0)
set_option maxHeartbeats 8000000 in
set_option maxRecDepth 100000 in
theorem impl_SheetText.calls (k : Nat) (A0 : Option Addr) (c0 : Nat) (l0 : List (S43)) (r1 : ByteArray) (r2 : Bool) (w : World) (hr0 : Kd.C k43 w A0 l0.length l0) (hc0 : l0.length ≤ c0) (h : impl_SheetText.f k l0 = some (r1, r2)) :
  Calls Tryd.prog 8 #[.slice A0 l0.length c0] w fun e w' => e = .returned (.tuple #[.string r1, .bool r2]) ∧ Below w.heap.size w w' := by
 have hu43 := Tryd.underlying43
 have hu48 := Tryd.underlying48
 have HR0 := Aside0.mk hr0
 have HC0 := Aside0.mk hc0
 clear hr0 hc0
 have HB := Aside0.mk (Below.refl w.heap.size w)
 have H : (if (l0.length : Int) > 30 then (some ((⟨#[]⟩ : ByteArray), false)) else (impl_SheetText.l0 k (⟨#[]⟩ : ByteArray) l0 (l0.length : Int) 0)) = some (r1, r2) := h
 clear h
 by_cases c2 : (l0.length : Int) > 30
 ·rw [if_pos c2] at H
  have c2b0 : decide (30 < (l0.length : Int)) = true := decide_eq_true c2
  have c2b1 : decide (30 < l0.length) = true := decide_eq_true (by omega)
  clear c2
  simp only [Option.some.injEq, Prod.mk.injEq] at H
  obtain ⟨rfl, rfl⟩ := H
  go_enter Tryd.func8, Tryd.ntmps8
  go_wp2
  go_ret2
  exact ⟨by first | rfl | (simp [errW_none, errW_some] <;> rfl) | (simp [*, errW_none, errW_some] <;> rfl), by repeat (first | (with_reducible first | exact HB.out | apply below_alloc | apply pw_below_drewN | apply below_drew1) | exact HB.out)⟩
 ·rw [if_neg c2] at H
  have c2b0 : decide (30 < (l0.length : Int)) = false := decide_eq_false c2
  have c2b1 : decide (30 < l0.length) = false := decide_eq_false (by omega)
  clear c2
  have H' := Aside0.mk H
  clear H
  go_enter Tryd.func8, Tryd.ntmps8
  go_wp2
  go_loopg [4, 19] k (fun kq v4 v19 w' => ∃ (x4_1 : ByteArray) (x19_1 : Int), v4 = .string x4_1 ∧ v19 = .int .i64 x19_1 ∧ Aside0 (impl_SheetText.l0 kq x4_1 l0 (l0.length : Int) x19_1 = some (r1, r2)) ∧ Aside0 (kq ≤ k) ∧ Aside0 (Below w.heap.size w w'))
  case atStart => exact ⟨((⟨#[]⟩ : ByteArray)), (0), (by first | rfl | (simp; done) | (simp [*]; done) | (simp [wrap64]; done)), (by first | rfl | (simp; done) | (simp [*]; done) | (simp [wrap64]; done)), H', ⟨Nat.le_refl _⟩, ⟨by repeat (first | (with_reducible first | exact HB.out | apply below_alloc | apply pw_below_drewN | apply below_drew1) | exact HB.out)⟩⟩
  case round =>
   clear H'
   (try clear c2);(try clear c2b0);(try clear c2b1);(try clear p2)
   obtain ⟨x4_1, x19_1, rfl, rfl, HA, HK1, HB⟩ := hrel
   cases gk with
   | zero => exact absurd HA.out (by simp [impl_SheetText.l0])
   | succ k1 =>
    have H := HA.out
    clear HA
    simp only [impl_SheetText.l0] at H
    by_cases c3 : x19_1 < (l0.length : Int)
    ·rw [if_pos c3] at H
     have c3b0 : decide (x19_1 < (l0.length : Int)) = true := decide_eq_true c3
     clear c3
     by_cases c4 : 0 ≤ x19_1
     ·rw [if_pos c4] at H
      have c4b0 : decide (0 ≤ x19_1) = true := decide_eq_true c4
      clear c4
      by_cases c5 : x19_1 < (l0.length : Int)
      ·rw [if_pos c5] at H
       have c5b0 : decide (x19_1 < (l0.length : Int)) = true := decide_eq_true c5
       clear c5
       obtain ⟨y251, hy251⟩ : ∃ y_ : List ByteArray, y_ = (([] : List ByteArray)) := ⟨_, rfl⟩
       replace H : (impl_SheetText.l1 k1 x4_1 y251 l0 (l0.length : Int) x19_1 ((rd_T43 l0 x19_1).f0) (((rd_T43 l0 x19_1).f0).length : Int) 0 ((rd_T43 l0 x19_1).f0) ((rd_T43 l0 x19_1).f1)) = some (r1, r2) := by first | (rw [hy251]; with_reducible exact H) | (have H2_ := (Option.bind_some _ _).symm.trans H; rw [hy251]; with_reducible exact H2_) | (have H2_ := (Option.bind_some _ _).symm.trans H; with_reducible exact H2_) | with_reducible exact H | (rw [hy251]; exact H) | exact H
       have Ny251 := Aside0.mk hy251
       clear hy251
       have H' := Aside0.mk H
       clear H
       have p249 : 0 ≤ (x19_1 : Int) := of_decide_eq_true (by first | (with_reducible assumption) | assumption)
       have q249 : x19_1 < (l0.length : Int) := of_decide_eq_true (by first | (with_reducible assumption) | assumption)
       obtain ⟨ad249, A249_0, c249_0, A249_1, c249_1, e249, hx249_0, hx249_1, hl249_0, hi249_0, hl249_1, hi249_1⟩ := at_T43 HR0.out x19_1 p249 q249
       cases e249
       replace hx249_0 := (HB.out.cell (World.block_lt_of_cell? w _ hx249_0)).trans hx249_0
       replace hx249_1 := (HB.out.cell (World.block_lt_of_cell? w _ hx249_1)).trans hx249_1
       have HR249_0 := Aside0.mk hi249_0
       have HC249_0 := Aside0.mk hl249_0
       clear hi249_0 hl249_0
       have HR249_1 := Aside0.mk hi249_1
       have HC249_1 := Aside0.mk hl249_1
       clear hi249_1 hl249_1
       replace p249 := eq_true p249
       replace q249 := eq_true q249
       go_wp2_with (first | ((with_reducible refine gate_dst (N := 6) rfl ?_); (try (refine gate_guard (by rfl) ?_; dsimp only)); refine box_event ?hg (N := 6) ?hd (cs := #[.slice none 0 0, .slice none 0 0]) (t := 43) ?hr ?_; (case hd => rfl); (case hg => rfl); (case hr => first | (go_simp; done) | (go_simp; rfl)); intro gb250 hg w6 hbox hb; have n0_ := Aside0.mk (below_step (by repeat (first | (with_reducible first | exact HB.out | apply below_alloc | apply pw_below_drewN | apply below_drew1) | exact HB.out)) hb); have n1_ := Aside0.mk (hbox); have n2_ := Aside0.mk ((by rw [hg]; exact (below_size (by repeat (first | (with_reducible first | exact HB.out | apply below_alloc | apply pw_below_drewN | apply below_drew1) | exact HB.out))) : w.heap.size ≤ gb250)); have n3_ := Aside0.mk ((by rw [hg]; exact (below_size (by repeat (first | (with_reducible first | exact HB.out | apply below_alloc | apply pw_below_drewN | apply below_drew1) | exact HB.out))) : w.heap.size ≤ gb250)); clear HB; have HB := n0_; have BK250 := n1_; have GW250 := n2_; have GE250 := n3_; clear n0_ n1_ n2_ n3_; clear hb hbox hg; have hcz7_0 : w6.cell? ⟨gb250, 0, none⟩ = some (.slice none 0 0) := (blk_cell BK250.out 0).trans rfl; have hcz7_1 : w6.cell? ⟨gb250, 1, none⟩ = some (.slice none 0 0) := (blk_cell BK250.out 1).trans rfl; have hfz7_0 := blk_frozen BK250.out 0; have hfz7_1 := blk_frozen BK250.out 1) | ((with_reducible refine gate_dst (N := 23) rfl ?_); (try (refine gate_guard (by rfl) ?_; dsimp only)); refine Kd.R_lit Kd.string _ 9 ?hg (N := 23) ?hd (xs := ([] : List ByteArray)) (inner := []) (ok := fun _ => True) (okp := fun _ => True) ?hr ?hp (fun _ hk => hk) trivial (Below.refl _ _) (Nat.le_refl _) (by simp) ?_; (case hd => rfl); (case hg => rfl); (case hr => first | (go_simp; done) | (go_simp; rfl)); (case hp => exact (Reps.none _ _)); intro v252 w8 ho9 hb hg_ hnew_; clear hg_ hnew_; (first | rw [← Ny251.out] at ho9 | (simp only [Int.reduceToNat] at ho9; rw [← Ny251.out] at ho9)); have n0_ := Aside0.mk (Kd.R_lower ho9 (below_size (by repeat (first | (with_reducible first | exact HB.out | apply below_alloc | apply pw_below_drewN | apply below_drew1 | refine below_set ?_ GE250.out) | exact HB.out)))); have n1_ := Aside0.mk (blk_below (g := gb250) (o := .cells #[.slice A249_0 ((rd_T43 l0 x19_1).f0).length c249_0, .slice A249_1 ((rd_T43 l0 x19_1).f1).length c249_1] 43 (0, 0)) (by (with_reducible repeat (first | refine blk_drewN ?_ _ | refine blk_drew ?_ | refine blk_alloc ?_ _)); refine blk_put (cs := #[.slice A249_0 ((rd_T43 l0 x19_1).f0).length c249_0, .slice none 0 0]) ?_ 1 _ rfl; (with_reducible repeat (first | refine blk_drewN ?_ _ | refine blk_drew ?_ | refine blk_alloc ?_ _)); refine blk_put (cs := #[.slice none 0 0, .slice none 0 0]) ?_ 0 _ rfl; (with_reducible repeat (first | refine blk_drewN ?_ _ | refine blk_drew ?_ | refine blk_alloc ?_ _)); exact BK250.out) hb); have n2_ := Aside0.mk (below_step (by repeat (first | (with_reducible first | exact HB.out | apply below_alloc | apply pw_below_drewN | apply below_drew1 | refine below_set ?_ GE250.out) | exact HB.out)) hb); clear BK250; clear HB; have HO253 := n0_; have BK250 := n1_; have HB := n2_; clear n0_ n1_ n2_; clear hb ho9; have hcz10_0 : w8.cell? ⟨gb250, 0, none⟩ = some (.slice A249_0 ((rd_T43 l0 x19_1).f0).length c249_0) := (blk_cell BK250.out 0).trans rfl; have hcz10_1 : w8.cell? ⟨gb250, 1, none⟩ = some (.slice A249_1 ((rd_T43 l0 x19_1).f1).length c249_1) := (blk_cell BK250.out 1).trans rfl; have hfz10_0 := blk_frozen BK250.out 0; have hfz10_1 := blk_frozen BK250.out 1))
       go_loopg [7, 27] k1 (fun kq v7 v27 w' => ∃ (x7_2 : List ByteArray) (x27_2 : Int), v27 = .int .i64 x27_2 ∧ Aside0 (impl_SheetText.l1 kq x4_1 x7_2 l0 (l0.length : Int) x19_1 ((rd_T43 l0 x19_1).f0) (((rd_T43 l0 x19_1).f0).length : Int) x27_2 ((rd_T43 l0 x19_1).f0) ((rd_T43 l0 x19_1).f1) = some (r1, r2)) ∧ Aside0 (kq ≤ k1) ∧ Aside0 (Kd.R Kd.string 9 w' w.heap.size (fun _ => True) v7 x7_2) ∧ Aside0 (w'.heap[gb250]? = some (.cells #[(.slice A249_0 ((rd_T43 l0 x19_1).f0).length c249_0), (.slice A249_1 ((rd_T43 l0 x19_1).f1).length c249_1)] 43 (0, 0))) ∧ Aside0 (Below w.heap.size w w'))
       case atStart => exact ⟨(y251), (0), (by first | rfl | (simp; done) | (simp [*]; done) | (simp [wrap64]; done)), H', ⟨Nat.le_refl _⟩, ⟨by (with_reducible repeat (first | apply Kd.R_alloc | apply Kd.R_drewN | apply Kd.R_drew)); exact HO253.out⟩, ⟨by (with_reducible repeat (first | refine blk_drewN ?_ _ | refine blk_drew ?_ | refine blk_alloc ?_ _)); exact BK250.out⟩, ⟨by repeat (first | (with_reducible first | exact HB.out | apply below_alloc | apply pw_below_drewN | apply below_drew1 | refine below_set ?_ GE250.out) | exact HB.out)⟩⟩
       case round =>
        clear H'
        (try clear c2);(try clear c2b0);(try clear c2b1);(try clear p2);(try clear q2);(try clear hx2);(try clear c3);(try clear c3b0);(try clear c4);(try clear c4b0);(try clear c5);(try clear c5b0);(try clear c8);(try clear hcz10_0);(try clear hcz10_1);(try clear hcz7_0);(try clear hcz7_1);(try clear hfz10_0);(try clear hfz10_1);(try clear hfz7_0);(try clear hfz7_1);(try clear hx249_0);(try clear hx249_1);(try clear p2);(try clear p249);(try clear q249)
        obtain ⟨x7_2, x27_2, rfl, HA, HK2, HO_7, BK250, HB⟩ := hrel
        cases gk with
        | zero => exact absurd HA.out (by simp [impl_SheetText.l1])
        | succ k2 =>
         have H := HA.out
         clear HA
         simp only [impl_SheetText.l1] at H
         by_cases c11 : x27_2 < (((rd_T43 l0 x19_1).f0).length : Int)
         ·rw [if_pos c11] at H
          have c11b0 : decide (x27_2 < (((rd_T43 l0 x19_1).f0).length : Int)) = true := decide_eq_true c11
          clear c11
          by_cases c12 : 0 ≤ x27_2
          ·rw [if_pos c12] at H
           have c12b0 : decide (0 ≤ x27_2) = true := decide_eq_true c12
           clear c12
           by_cases c13 : x27_2 < (((rd_T43 l0 x19_1).f0).length : Int)
           ·rw [if_pos c13] at H
            have c13b0 : decide (x27_2 < (((rd_T43 l0 x19_1).f0).length : Int)) = true := decide_eq_true c13
            clear c13
            replace H := Option.bind_eq_some_iff.mp H
            obtain ⟨⟨t255, t256⟩, A140, H⟩ := H
            replace H : (if t256 = true then (if x7_2.length < 8796093022208 then (impl_SheetText.l1 k2 x4_1 (x7_2 ++ [t255]) l0 (l0.length : Int) x19_1 ((rd_T43 l0 x19_1).f0) (((rd_T43 l0 x19_1).f0).length : Int) (wrap64 (x27_2 + 1)) ((rd_T43 l0 x19_1).f0) ((rd_T43 l0 x19_1).f1)) else (none)) else (some ((⟨#[]⟩ : ByteArray), false))) = some (r1, r2) := H
            have A14 := Aside0.mk A140
            clear A140
            by_cases c15 : t256 = true
            ·subst c15
             have H1 : (if x7_2.length < 8796093022208 then (impl_SheetText.l1 k2 x4_1 (x7_2 ++ [t255]) l0 (l0.length : Int) x19_1 ((rd_T43 l0 x19_1).f0) (((rd_T43 l0 x19_1).f0).length : Int) (wrap64 (x27_2 + 1)) ((rd_T43 l0 x19_1).f0) ((rd_T43 l0 x19_1).f1)) else (none)) = some (r1, r2) := by rw [if_pos rfl] at H; exact H
             clear H
             have H := H1
             clear H1
             by_cases c16 : x7_2.length < 8796093022208
             ·rw [if_pos c16] at H
              have LMc16 := Aside0.mk c16
              clear c16
              obtain ⟨y257, hy257⟩ : ∃ y_ : List ByteArray, y_ = (x7_2 ++ [t255]) := ⟨_, rfl⟩
              replace H : (impl_SheetText.l1 k2 x4_1 y257 l0 (l0.length : Int) x19_1 ((rd_T43 l0 x19_1).f0) (((rd_T43 l0 x19_1).f0).length : Int) (wrap64 (x27_2 + 1)) ((rd_T43 l0 x19_1).f0) ((rd_T43 l0 x19_1).f1)) = some (r1, r2) := by first | (rw [hy257]; with_reducible exact H) | (have H2_ := (Option.bind_some _ _).symm.trans H; rw [hy257]; with_reducible exact H2_) | (have H2_ := (Option.bind_some _ _).symm.trans H; with_reducible exact H2_) | with_reducible exact H | (rw [hy257]; exact H) | exact H
              have Ny257 := Aside0.mk hy257
              clear hy257
              have H' := Aside0.mk H
              clear H
              have p254 : 0 ≤ (x27_2 : Int) := of_decide_eq_true (by first | (with_reducible assumption) | assumption)
              have q254 : x27_2 < (((rd_T43 l0 x19_1).f0).length : Int) := of_decide_eq_true (by first | (with_reducible assumption) | assumption)
              obtain ⟨ad254, A254_0, c254_0, e254, hx254_0, hl254_0, hi254_0⟩ := at_L10 HR249_0.out x27_2 p254 q254
              cases e254
              replace hx254_0 := (HB.out.cell (World.block_lt_of_cell? w _ hx254_0)).trans hx254_0
              have HR254_0 := Aside0.mk hi254_0
              have HC254_0 := Aside0.mk hl254_0
              clear hi254_0 hl254_0
              replace p254 := eq_true p254
              replace q254 := eq_true q254
              go_wp2_with (first | ((with_reducible refine gate_callee (f := 20) rfl ?_); refine goesL_ (some 33) rfl rfl Tryd.func20 (by kernel_rfl) rfl #[.slice A254_0 (rd_L10 ((rd_T43 l0 x19_1).f0) x27_2).length c254_0] rfl (by (try simp only [List.map_toArray, List.map_cons, List.map_nil]); first | done | rfl | (simp only [List.length_drop, List.length_take]; rfl)) ?_; (with_reducible refine (impl_SelectorText.calls k2 _ _ (rd_L10 ((rd_T43 l0 x19_1).f0) x27_2) t255 true _ ?side1 ?side2 A14.out).mono ?_); (case side1 => repeat (first | exact (Kd.C_below HR254_0.out HB.out) | (with_reducible refine Kd.C_alloc ?_ _) | (with_reducible refine Kd.C_drewN ?_ _) | (with_reducible refine Kd.C_drew ?_))); (case side2 => exact HC254_0.out); rintro e w17 ⟨rfl, hb⟩; refine ⟨_, rfl, ?_⟩; have n0_ := Aside0.mk (Kd.R_below (by (with_reducible repeat (first | apply Kd.R_alloc | apply Kd.R_drewN | apply Kd.R_drew)); exact HO_7.out) hb); have n1_ := Aside0.mk (blk_below (g := gb250) (o := .cells #[.slice (some ad254) ((rd_T43 l0 x19_1).f0).length c249_0, .slice A249_1 ((rd_T43 l0 x19_1).f1).length c249_1] 43 (0, 0)) (by (with_reducible repeat (first | refine blk_drewN ?_ _ | refine blk_drew ?_ | refine blk_alloc ?_ _)); exact BK250.out) hb); have n2_ := Aside0.mk (below_step (by repeat (first | (with_reducible first | exact HB.out | apply below_alloc | apply pw_below_drewN | apply below_drew1 | refine below_set ?_ GE250.out) | exact HB.out)) hb); clear HO_7; clear BK250; clear HB; have HO_7 := n0_; have BK250 := n1_; have HB := n2_; clear n0_ n1_ n2_; (try clear hb); (try clear hb2); (try clear hk); (try clear hi)) | ((with_reducible refine gate_builtin (b := .append) (xs := #[.tmp 38, .tmp 40]) rfl ?_); (try (refine gate_guard (by rfl) ?_; dsimp only)); at_builtin; refine Kd.R_append Kd.string (w0 := w) w.heap.size rfl (.tmp 38) (.tmp 40) 51 9 (.string ⟨#[]⟩) 16 rfl Tryd.underlying51 info9 rfl (by decide) (by omega) u7 x7_2 t255 [.string t255] (fun _ => True) (fun _ => False) rfl rfl ?aP (fun _ hk => hk.elim) ?aF ?aO ?aB ?aS ?aL ?_; (case aP => exact rfl); (case aB => exact (by repeat (first | (with_reducible first | exact HB.out | apply below_alloc | apply pw_below_drewN | apply below_drew1 | refine below_set ?_ GE250.out) | exact HB.out))); (case aF => exact (fun _ _ => trivial)); (case aO => exact (by (with_reducible repeat (first | apply Kd.R_alloc | apply Kd.R_drewN | apply Kd.R_drew)); exact HO_7.out)); (case aS => exact (below_size (by repeat (first | (with_reducible first | exact HB.out | apply below_alloc | apply pw_below_drewN | apply below_drew1 | refine below_set ?_ GE250.out) | exact HB.out)))); (case aL => have := LMc16.out; omega); intro v258 w18 ho hb hg hat; rw [← Ny257.out] at ho; have n0_ := Aside0.mk (blk_grown (g := gb250) (o := .cells #[.slice (some ad254) ((rd_T43 l0 x19_1).f0).length c249_0, .slice A249_1 ((rd_T43 l0 x19_1).f1).length c249_1] 43 (0, 0)) (by (with_reducible repeat (first | refine blk_drewN ?_ _ | refine blk_drew ?_ | refine blk_alloc ?_ _)); exact BK250.out) hg (Kd.R_ne HO_7.out BK250.out (by decide))); have n1_ := Aside0.mk (hb); have n2_ := Aside0.mk (ho); clear BK250; clear HB; clear HO_7; have BK250 := n0_; have HB := n1_; have HO259 := n2_; clear n0_ n1_ n2_; clear ho hb hg hat))
              go_roundg k2
              case measure => have := HK1.out; have := HK2.out; omega
              case rel => exact ⟨(y257), (wrap64 (x27_2 + 1)), (by first | rfl | (simp; done) | (simp [*]; done) | (simp [wrap64]; done)), H', ⟨by have := HK1.out; have := HK2.out; omega⟩, ⟨by (with_reducible repeat (first | apply Kd.R_alloc | apply Kd.R_drewN | apply Kd.R_drew)); exact HO259.out⟩, ⟨by (with_reducible repeat (first | refine blk_drewN ?_ _ | refine blk_drew ?_ | refine blk_alloc ?_ _)); exact BK250.out⟩, ⟨by repeat (first | (with_reducible first | exact HB.out | apply below_alloc | apply pw_below_drewN | apply below_drew1 | refine below_set ?_ GE250.out) | exact HB.out)⟩⟩
             ·rw [if_neg c16] at H
              exact absurd H (by simp)
            ·replace c15 := Bool.eq_false_iff.mpr c15
             subst c15
             have H1 : (some ((⟨#[]⟩ : ByteArray), false)) = some (r1, r2) := by rw [if_neg (show ¬ (false = true) by decide)] at H; exact H
             clear H
             have H := H1
             clear H1
             simp only [Option.some.injEq, Prod.mk.injEq] at H
             obtain ⟨rfl, rfl⟩ := H
             have p254 : 0 ≤ (x27_2 : Int) := of_decide_eq_true (by first | (with_reducible assumption) | assumption)
             have q254 : x27_2 < (((rd_T43 l0 x19_1).f0).length : Int) := of_decide_eq_true (by first | (with_reducible assumption) | assumption)
             obtain ⟨ad254, A254_0, c254_0, e254, hx254_0, hl254_0, hi254_0⟩ := at_L10 HR249_0.out x27_2 p254 q254
             cases e254
             replace hx254_0 := (HB.out.cell (World.block_lt_of_cell? w _ hx254_0)).trans hx254_0
             have HR254_0 := Aside0.mk hi254_0
             have HC254_0 := Aside0.mk hl254_0
             clear hi254_0 hl254_0
             replace p254 := eq_true p254
             replace q254 := eq_true q254
             go_wp2_with (first | ((with_reducible refine gate_callee (f := 20) rfl ?_); refine goesL_ (some 33) rfl rfl Tryd.func20 (by kernel_rfl) rfl #[.slice A254_0 (rd_L10 ((rd_T43 l0 x19_1).f0) x27_2).length c254_0] rfl (by (try simp only [List.map_toArray, List.map_cons, List.map_nil]); first | done | rfl | (simp only [List.length_drop, List.length_take]; rfl)) ?_; (with_reducible refine (impl_SelectorText.calls k2 _ _ (rd_L10 ((rd_T43 l0 x19_1).f0) x27_2) t255 false _ ?side1 ?side2 A14.out).mono ?_); (case side1 => repeat (first | exact (Kd.C_below HR254_0.out HB.out) | (with_reducible refine Kd.C_alloc ?_ _) | (with_reducible refine Kd.C_drewN ?_ _) | (with_reducible refine Kd.C_drew ?_))); (case side2 => exact HC254_0.out); rintro e w19 ⟨rfl, hb⟩; refine ⟨_, rfl, ?_⟩; have n0_ := Aside0.mk (Kd.R_below (by (with_reducible repeat (first | apply Kd.R_alloc | apply Kd.R_drewN | apply Kd.R_drew)); exact HO_7.out) hb); have n1_ := Aside0.mk (blk_below (g := gb250) (o := .cells #[.slice (some ad254) ((rd_T43 l0 x19_1).f0).length c249_0, .slice A249_1 ((rd_T43 l0 x19_1).f1).length c249_1] 43 (0, 0)) (by (with_reducible repeat (first | refine blk_drewN ?_ _ | refine blk_drew ?_ | refine blk_alloc ?_ _)); exact BK250.out) hb); have n2_ := Aside0.mk (below_step (by repeat (first | (with_reducible first | exact HB.out | apply below_alloc | apply pw_below_drewN | apply below_drew1 | refine below_set ?_ GE250.out) | exact HB.out)) hb); clear HO_7; clear BK250; clear HB; have HO_7 := n0_; have BK250 := n1_; have HB := n2_; clear n0_ n1_ n2_; (try clear hb); (try clear hb2); (try clear hk); (try clear hi)))
             go_ret2
             exact ⟨by first | rfl | (simp [errW_none, errW_some] <;> rfl) | (simp [*, errW_none, errW_some] <;> rfl), by repeat (first | (with_reducible first | exact HB.out | apply below_alloc | apply pw_below_drewN | apply below_drew1 | refine below_set ?_ GE250.out) | exact HB.out)⟩
           ·rw [if_neg c13] at H
            exact absurd H (by simp)
          ·rw [if_neg c12] at H
           exact absurd H (by simp)
         ·rw [if_neg c11] at H
          have c11b0 : decide (x27_2 < (((rd_T43 l0 x19_1).f0).length : Int)) = false := decide_eq_false c11
          clear c11
          have HC20 := Aside0.mk H
          clear H
          go_upto_region 16 with (fail)
          go_cut [51] (fun v51 wc => ∃ (kq : Nat) (x51_19 : Bool), v51 = .bool x51_19 ∧ Aside0 (impl_SheetText.j2 kq x4_1 x7_2 l0 (l0.length : Int) x19_1 x51_19 ((rd_T43 l0 x19_1).f0) ((rd_T43 l0 x19_1).f1) = some (r1, r2)) ∧ Aside0 (kq ≤ k2) ∧ Aside0 (Kd.R Kd.string 9 wc w.heap.size (fun _ => True) u7 x7_2) ∧ Aside0 (wc.heap[gb250]? = some (.cells #[(.slice A249_0 ((rd_T43 l0 x19_1).f0).length c249_0), (.slice A249_1 ((rd_T43 l0 x19_1).f1).length c249_1)] 43 (0, 0))) ∧ Aside0 (Below w.heap.size w wc))
          case first =>
           have H := HC20.out
           clear HC20
           by_cases c21 : (x7_2.length : Int) = 0
           ·rw [if_pos c21] at H
            have c21b0 : ((x7_2.length : Int) == 0) = true := beq_iff_eq.mpr c21
            have c21b1 : ((x7_2.length : Int) != 0) = false := bne_eq_false_iff_eq.mpr c21
            clear c21
            (first | rw [c21b0] | (simp only [i64_w, i32_w]; rw [c21b0]) | skip)
            have H' := Aside0.mk H
            clear H
            obtain ⟨Ao22, co22, eo22⟩ := Kd.R_slice HO_7.out
            subst eo22
            go_wp2
            go_meet
            case rel => exact ⟨_, (true), (by first | rfl | (simp; done) | (simp [*]; done) | (simp [wrap64]; done)), H', ⟨by have := HK1.out; have := HK2.out; first | omega | exact Nat.le_refl _⟩, ⟨by (with_reducible repeat (first | apply Kd.R_alloc | apply Kd.R_drewN | apply Kd.R_drew)); exact HO_7.out⟩, ⟨by (with_reducible repeat (first | refine blk_drewN ?_ _ | refine blk_drew ?_ | refine blk_alloc ?_ _)); exact BK250.out⟩, ⟨by repeat (first | (with_reducible first | exact HB.out | apply below_alloc | apply pw_below_drewN | apply below_drew1 | refine below_set ?_ GE250.out) | exact HB.out)⟩⟩
           ·rw [if_neg c21] at H
            have c21b0 : ((x7_2.length : Int) == 0) = false := beq_eq_false_iff_ne.mpr c21
            have c21b1 : ((x7_2.length : Int) != 0) = true := bne_iff_ne.mpr c21
            have c21b2 : ¬ (x7_2 = []) := fun h_ => c21 (by rw [h_]; rfl)
            (first | rw [c21b0] | (simp only [i64_w, i32_w]; rw [c21b0]) | skip)
            have H' := Aside0.mk H
            clear H
            obtain ⟨Ao23, co23, eo23⟩ := Kd.R_slice HO_7.out
            subst eo23
            have hcz24_0 : wr.cell? ⟨gb250, 0, none⟩ = some (.slice A249_0 ((rd_T43 l0 x19_1).f0).length c249_0) := (blk_cell BK250.out 0).trans rfl
            have hcz24_1 : wr.cell? ⟨gb250, 1, none⟩ = some (.slice A249_1 ((rd_T43 l0 x19_1).f1).length c249_1) := (blk_cell BK250.out 1).trans rfl
            have hfz24_0 := blk_frozen BK250.out 0
            have hfz24_1 := blk_frozen BK250.out 1
            go_wp2
            go_meet
            case rel => exact ⟨_, (decide ((((rd_T43 l0 x19_1).f1).length : Int) > 12)), (by first | rfl | (simp; done) | (simp [*]; done) | (simp [wrap64]; done)), H', ⟨by have := HK1.out; have := HK2.out; first | omega | exact Nat.le_refl _⟩, ⟨by (with_reducible repeat (first | apply Kd.R_alloc | apply Kd.R_drewN | apply Kd.R_drew)); exact HO_7.out⟩, ⟨by (with_reducible repeat (first | refine blk_drewN ?_ _ | refine blk_drew ?_ | refine blk_alloc ?_ _)); exact BK250.out⟩, ⟨by repeat (first | (with_reducible first | exact HB.out | apply below_alloc | apply pw_below_drewN | apply below_drew1 | refine below_set ?_ GE250.out) | exact HB.out)⟩⟩
          case rest =>
           clear HC20
           (try clear c1);(try clear c2);(try clear c2b0);(try clear c2b1);(try clear p2);(try clear q2);(try clear hx2);(try clear c3);(try clear c3b0);(try clear c4);(try clear c4b0);(try clear c5);(try clear c5b0);(try clear p6);(try clear c8);(try clear c11);(try clear c11b0);(try clear c12);(try clear c12b0);(try clear c13);(try clear c13b0);(try clear c15);(try clear c16);(try clear c20);(try clear c21);(try clear c21b0);(try clear c21b1);(try clear c21b2);(try clear c24);(try clear p24);(try clear q24);(try clear hx24);(try clear hcz10_0);(try clear hcz10_1);(try clear hcz24_0);(try clear hcz24_1);(try clear hcz7_0);(try clear hcz7_1);(try clear hfz10_0);(try clear hfz10_1);(try clear hfz24_0);(try clear hfz24_1);(try clear hfz7_0);(try clear hfz7_1);(try clear hx249_0);(try clear hx249_1);(try clear hx254_0);(try clear p2);(try clear p249);(try clear p254);(try clear q2);(try clear q249);(try clear q254)
           obtain ⟨kq, x51_19, rfl, HA, HJ19, HO_7, BK250, HB⟩ := hcut
           cases kq with
           | zero => exact absurd HA.out (by simp [impl_SheetText.j2])
           | succ kj19 =>
            have H := HA.out
            clear HA
            simp only [impl_SheetText.j2] at H
            by_cases c25 : x51_19 = true
            ·subst c25
             have H1 : (some ((⟨#[]⟩ : ByteArray), false)) = some (r1, r2) := by rw [if_pos rfl] at H; exact H
             clear H
             have H := H1
             clear H1
             simp only [Option.some.injEq, Prod.mk.injEq] at H
             obtain ⟨rfl, rfl⟩ := H
             go_wp2
             go_ret2
             exact ⟨by first | rfl | (simp [errW_none, errW_some] <;> rfl) | (simp [*, errW_none, errW_some] <;> rfl), by repeat (first | (with_reducible first | exact HB.out | apply below_alloc | apply pw_below_drewN | apply below_drew1 | refine below_set ?_ GE250.out) | exact HB.out)⟩
            ·replace c25 := Bool.eq_false_iff.mpr c25
             subst c25
             have H1 : ((strings_Join.f x7_2 (⟨#[44]⟩ : ByteArray)).bind fun t260 => (if t260.size + 1 ≤ 9223372036854775807 then (if x4_1.size + (t260 ++ (⟨#[123]⟩ : ByteArray)).size ≤ 9223372036854775807 then (impl_SheetText.l2 kj19 (x4_1 ++ (t260 ++ (⟨#[123]⟩ : ByteArray))) l0 (l0.length : Int) x19_1 ((rd_T43 l0 x19_1).f1) (((rd_T43 l0 x19_1).f1).length : Int) 0) else (none)) else (none))) = some (r1, r2) := by rw [if_neg (show ¬ (false = true) by decide)] at H; exact H
             clear H
             have H := H1
             clear H1
             replace H := Option.bind_eq_some_iff.mp H
             obtain ⟨t260, A260, H⟩ := H
             replace H : (if t260.size + 1 ≤ 9223372036854775807 then (if x4_1.size + (t260 ++ (⟨#[123]⟩ : ByteArray)).size ≤ 9223372036854775807 then (impl_SheetText.l2 kj19 (x4_1 ++ (t260 ++ (⟨#[123]⟩ : ByteArray))) l0 (l0.length : Int) x19_1 ((rd_T43 l0 x19_1).f1) (((rd_T43 l0 x19_1).f1).length : Int) 0) else (none)) else (none)) = some (r1, r2) := H
             have A26 := Aside0.mk A260
             clear A260
             by_cases c27 : t260.size + 1 ≤ 9223372036854775807
             ·rw [if_pos c27] at H
              have c27b0 := eq_true c27
              have c27b1 : decide (t260.size + 1 ≤ 9223372036854775807) = true := decide_eq_true c27
              try have c27b2 : (9223372036854775807 < t260.size + 1) = False := eq_false (Nat.not_lt.2 c27)
              by_cases c28 : x4_1.size + (t260 ++ (⟨#[123]⟩ : ByteArray)).size ≤ 9223372036854775807
              ·rw [if_pos c28] at H
               have c28b0 := eq_true c28
               have c28b1 : decide (x4_1.size + (t260 ++ (⟨#[123]⟩ : ByteArray)).size ≤ 9223372036854775807) = true := decide_eq_true c28
               try have c28b2 : (9223372036854775807 < x4_1.size + (t260 ++ (⟨#[123]⟩ : ByteArray)).size) = False := eq_false (Nat.not_lt.2 c28)
               try have c28b3 : (9223372036854775807 < x4_1.size + (t260.size + 1)) = False := by have h9_ := c28b2; simp only [ByteArray.size_append] at h9_; exact h9_
               try have c28b7 : (9223372036854775807 < x4_1.size + (t260.size + 1)) = False := by have h9_ := c28b2; simp only [ByteArray.size_append] at h9_; exact h9_
               have H' := Aside0.mk H
               clear H
               obtain ⟨Ao29, co29, eo29⟩ := Kd.R_slice HO_7.out
               subst eo29
               go_wp2_with (first | ((with_reducible refine gate_callee (f := 21) rfl ?_); refine goesL_ (some 54) rfl rfl Tryd.func21 (by kernel_rfl) rfl #[.slice Ao29 x7_2.length co29, .string (⟨#[44]⟩ : ByteArray)] rfl (by (try simp only [List.map_toArray, List.map_cons, List.map_nil]); first | done | rfl | (simp only [List.length_drop, List.length_take]; rfl)) ?_; (with_reducible refine (strings_Join.calls _ _ x7_2 (⟨#[44]⟩ : ByteArray) t260 _ ?side1 ?side2 A26.out).mono ?_); (case side1 => repeat (first | exact (Kd.R_reads' HO_7.out).2.2 | (with_reducible refine Kd.C_alloc ?_ _) | (with_reducible refine Kd.C_drewN ?_ _) | (with_reducible refine Kd.C_drew ?_))); (case side2 => exact (Kd.R_reads' HO_7.out).2.1); rintro e w30 ⟨rfl, hb⟩; refine ⟨_, rfl, ?_⟩; have n0_ := Aside0.mk (Kd.R_below (by (with_reducible repeat (first | apply Kd.R_alloc | apply Kd.R_drewN | apply Kd.R_drew)); exact HO_7.out) hb); have n1_ := Aside0.mk (blk_below (g := gb250) (o := .cells #[.slice A249_0 ((rd_T43 l0 x19_1).f0).length c249_0, .slice A249_1 ((rd_T43 l0 x19_1).f1).length c249_1] 43 (0, 0)) (by (with_reducible repeat (first | refine blk_drewN ?_ _ | refine blk_drew ?_ | refine blk_alloc ?_ _)); exact BK250.out) hb); have n2_ := Aside0.mk (below_step (by repeat (first | (with_reducible first | exact HB.out | apply below_alloc | apply pw_below_drewN | apply below_drew1 | refine below_set ?_ GE250.out) | exact HB.out)) hb); clear HO_7; clear BK250; clear HB; have HO_7 := n0_; have BK250 := n1_; have HB := n2_; clear n0_ n1_ n2_; (try clear hb); (try clear hb2); (try clear hk); (try clear hi); have hcz31_0 : w30.cell? ⟨gb250, 0, none⟩ = some (.slice A249_0 ((rd_T43 l0 x19_1).f0).length c249_0) := (blk_cell BK250.out 0).trans rfl; have hcz31_1 : w30.cell? ⟨gb250, 1, none⟩ = some (.slice A249_1 ((rd_T43 l0 x19_1).f1).length c249_1) := (blk_cell BK250.out 1).trans rfl; have hfz31_0 := blk_frozen BK250.out 0; have hfz31_1 := blk_frozen BK250.out 1))
               go_loopg [4, 60] kj19 (fun kq v4 v60 w' => ∃ (x4_4 : ByteArray) (x60_4 : Int), v4 = .string x4_4 ∧ v60 = .int .i64 x60_4 ∧ Aside0 (impl_SheetText.l2 kq x4_4 l0 (l0.length : Int) x19_1 ((rd_T43 l0 x19_1).f1) (((rd_T43 l0 x19_1).f1).length : Int) x60_4 = some (r1, r2)) ∧ Aside0 (kq ≤ kj19) ∧ Aside0 (w'.heap[gb250]? = some (.cells #[(.slice A249_0 ((rd_T43 l0 x19_1).f0).length c249_0), (.slice A249_1 ((rd_T43 l0 x19_1).f1).length c249_1)] 43 (0, 0))) ∧ Aside0 (Below w.heap.size w w'))
               case atStart => exact ⟨(x4_1 ++ (t260 ++ (⟨#[123]⟩ : ByteArray))), (0), (by first | rfl | (simp; done) | (simp [*]; done) | (simp [wrap64]; done)), (by first | rfl | (simp; done) | (simp [*]; done) | (simp [wrap64]; done)), H', ⟨Nat.le_refl _⟩, ⟨by (with_reducible repeat (first | refine blk_drewN ?_ _ | refine blk_drew ?_ | refine blk_alloc ?_ _)); exact BK250.out⟩, ⟨by repeat (first | (with_reducible first | exact HB.out | apply below_alloc | apply pw_below_drewN | apply below_drew1 | refine below_set ?_ GE250.out) | exact HB.out)⟩⟩
               case round =>
                clear H'
                (try clear c1);(try clear c2);(try clear c2b0);(try clear c2b1);(try clear p2);(try clear q2);(try clear hx2);(try clear c3);(try clear c3b0);(try clear c4);(try clear c4b0);(try clear c5);(try clear c5b0);(try clear p6);(try clear c8);(try clear c11);(try clear c11b0);(try clear c12);(try clear c12b0);(try clear c13);(try clear c13b0);(try clear c15);(try clear c16);(try clear c20);(try clear c21);(try clear c21b0);(try clear c21b1);(try clear c21b2);(try clear c24);(try clear p24);(try clear q24);(try clear hx24);(try clear c25);(try clear p25);(try clear q25);(try clear hx25);(try clear c27);(try clear c27b0);(try clear c27b1);(try clear c27b2);(try clear c28);(try clear c28b0);(try clear c28b1);(try clear c28b2);(try clear hcz10_0);(try clear hcz10_1);(try clear hcz24_0);(try clear hcz24_1);(try clear hcz31_0);(try clear hcz31_1);(try clear hcz7_0);(try clear hcz7_1);(try clear hfz10_0)
                (try clear hfz10_1);(try clear hfz24_0);(try clear hfz24_1);(try clear hfz31_0);(try clear hfz31_1);(try clear hfz7_0);(try clear hfz7_1);(try clear hx249_0);(try clear hx249_1);(try clear hx254_0);(try clear p2);(try clear p24);(try clear p249);(try clear p254);(try clear p6);(try clear q2);(try clear q24);(try clear q249);(try clear q254)
                obtain ⟨x4_4, x60_4, rfl, rfl, HA, HK4, BK250, HB⟩ := hrel
                cases gk with
                | zero => exact absurd HA.out (by simp [impl_SheetText.l2])
                | succ k4 =>
                 have H := HA.out
                 clear HA
                 simp only [impl_SheetText.l2] at H
                 by_cases c32 : x60_4 < (((rd_T43 l0 x19_1).f1).length : Int)
                 ·rw [if_pos c32] at H
                  have c32b0 : decide (x60_4 < (((rd_T43 l0 x19_1).f1).length : Int)) = true := decide_eq_true c32
                  clear c32
                  by_cases c33 : 0 ≤ x60_4
                  ·rw [if_pos c33] at H
                   have c33b0 : decide (0 ≤ x60_4) = true := decide_eq_true c33
                   clear c33
                   by_cases c34 : x60_4 < (((rd_T43 l0 x19_1).f1).length : Int)
                   ·rw [if_pos c34] at H
                    have c34b0 : decide (x60_4 < (((rd_T43 l0 x19_1).f1).length : Int)) = true := decide_eq_true c34
                    clear c34
                    replace H := Option.bind_eq_some_iff.mp H
                    obtain ⟨t263, A350, H⟩ := H
                    replace H : (if t263 = true then (if ((rd_T48 ((rd_T43 l0 x19_1).f1) x60_4).f0).size + 1 ≤ 9223372036854775807 then (if (((rd_T48 ((rd_T43 l0 x19_1).f1) x60_4).f0) ++ (⟨#[58]⟩ : ByteArray)).size + ((rd_T48 ((rd_T43 l0 x19_1).f1) x60_4).f1).size ≤ 9223372036854775807 then (if x4_4.size + ((((rd_T48 ((rd_T43 l0 x19_1).f1) x60_4).f0) ++ (⟨#[58]⟩ : ByteArray)) ++ ((rd_T48 ((rd_T43 l0 x19_1).f1) x60_4).f1)).size ≤ 9223372036854775807 then (if (rd_T48 ((rd_T43 l0 x19_1).f1) x60_4).f2 = true then (if (x4_4 ++ ((((rd_T48 ((rd_T43 l0 x19_1).f1) x60_4).f0) ++ (⟨#[58]⟩ : ByteArray)) ++ ((rd_T48 ((rd_T43 l0 x19_1).f1) x60_4).f1))).size + 11 ≤ 9223372036854775807 then (if ((x4_4 ++ ((((rd_T48 ((rd_T43 l0 x19_1).f1) x60_4).f0) ++ (⟨#[58]⟩ : ByteArray)) ++ ((rd_T48 ((rd_T43 l0 x19_1).f1) x60_4).f1))) ++ (⟨#[32, 33, 105, 109, 112, 111, 114, 116, 97, 110, 116]⟩ : ByteArray)).size + 1 ≤ 9223372036854775807 then (impl_SheetText.l2 k4 (((x4_4 ++ ((((rd_T48 ((rd_T43 l0 x19_1).f1) x60_4).f0) ++ (⟨#[58]⟩ : ByteArray)) ++ ((rd_T48 ((rd_T43 l0 x19_1).f1) x60_4).f1))) ++ (⟨#[32, 33, 105, 109, 112, 111, 114, 116, 97, 110, 116]⟩ : ByteArray)) ++ (⟨#[59]⟩ : ByteArray)) l0 (l0.length : Int) x19_1 ((rd_T43 l0 x19_1).f1) (((rd_T43 l0 x19_1).f1).length : Int) (wrap64 (x60_4 + 1))) else (none)) else (none)) else (if (x4_4 ++ ((((rd_T48 ((rd_T43 l0 x19_1).f1) x60_4).f0) ++ (⟨#[58]⟩ : ByteArray)) ++ ((rd_T48 ((rd_T43 l0 x19_1).f1) x60_4).f1))).size + 1 ≤ 9223372036854775807 then (impl_SheetText.l2 k4 ((x4_4 ++ ((((rd_T48 ((rd_T43 l0 x19_1).f1) x60_4).f0) ++ (⟨#[58]⟩ : ByteArray)) ++ ((rd_T48 ((rd_T43 l0 x19_1).f1) x60_4).f1))) ++ (⟨#[59]⟩ : ByteArray)) l0 (l0.length : Int) x19_1 ((rd_T43 l0 x19_1).f1) (((rd_T43 l0 x19_1).f1).length : Int) (wrap64 (x60_4 + 1))) else (none))) else (none)) else (none)) else (none)) else (some ((⟨#[]⟩ : ByteArray), false))) = some (r1, r2) := H
                    have A35 := Aside0.mk A350
                    clear A350
                    by_cases c36 : t263 = true
                    ·subst c36
                     have H1 : (if ((rd_T48 ((rd_T43 l0 x19_1).f1) x60_4).f0).size + 1 ≤ 9223372036854775807 then (if (((rd_T48 ((rd_T43 l0 x19_1).f1) x60_4).f0) ++ (⟨#[58]⟩ : ByteArray)).size + ((rd_T48 ((rd_T43 l0 x19_1).f1) x60_4).f1).size ≤ 9223372036854775807 then (if x4_4.size + ((((rd_T48 ((rd_T43 l0 x19_1).f1) x60_4).f0) ++ (⟨#[58]⟩ : ByteArray)) ++ ((rd_T48 ((rd_T43 l0 x19_1).f1) x60_4).f1)).size ≤ 9223372036854775807 then (if (rd_T48 ((rd_T43 l0 x19_1).f1) x60_4).f2 = true then (if (x4_4 ++ ((((rd_T48 ((rd_T43 l0 x19_1).f1) x60_4).f0) ++ (⟨#[58]⟩ : ByteArray)) ++ ((rd_T48 ((rd_T43 l0 x19_1).f1) x60_4).f1))).size + 11 ≤ 9223372036854775807 then (if ((x4_4 ++ ((((rd_T48 ((rd_T43 l0 x19_1).f1) x60_4).f0) ++ (⟨#[58]⟩ : ByteArray)) ++ ((rd_T48 ((rd_T43 l0 x19_1).f1) x60_4).f1))) ++ (⟨#[32, 33, 105, 109, 112, 111, 114, 116, 97, 110, 116]⟩ : ByteArray)).size + 1 ≤ 9223372036854775807 then (impl_SheetText.l2 k4 (((x4_4 ++ ((((rd_T48 ((rd_T43 l0 x19_1).f1) x60_4).f0) ++ (⟨#[58]⟩ : ByteArray)) ++ ((rd_T48 ((rd_T43 l0 x19_1).f1) x60_4).f1))) ++ (⟨#[32, 33, 105, 109, 112, 111, 114, 116, 97, 110, 116]⟩ : ByteArray)) ++ (⟨#[59]⟩ : ByteArray)) l0 (l0.length : Int) x19_1 ((rd_T43 l0 x19_1).f1) (((rd_T43 l0 x19_1).f1).length : Int) (wrap64 (x60_4 + 1))) else (none)) else (none)) else (if (x4_4 ++ ((((rd_T48 ((rd_T43 l0 x19_1).f1) x60_4).f0) ++ (⟨#[58]⟩ : ByteArray)) ++ ((rd_T48 ((rd_T43 l0 x19_1).f1) x60_4).f1))).size + 1 ≤ 9223372036854775807 then (impl_SheetText.l2 k4 ((x4_4 ++ ((((rd_T48 ((rd_T43 l0 x19_1).f1) x60_4).f0) ++ (⟨#[58]⟩ : ByteArray)) ++ ((rd_T48 ((rd_T43 l0 x19_1).f1) x60_4).f1))) ++ (⟨#[59]⟩ : ByteArray)) l0 (l0.length : Int) x19_1 ((rd_T43 l0 x19_1).f1) (((rd_T43 l0 x19_1).f1).length : Int) (wrap64 (x60_4 + 1))) else (none))) else (none)) else (none)) else (none)) = some (r1, r2) := by rw [if_pos rfl] at H; exact H
                     clear H
                     have H := H1
                     clear H1
                     by_cases c37 : ((rd_T48 ((rd_T43 l0 x19_1).f1) x60_4).f0).size + 1 ≤ 9223372036854775807
                     ·rw [if_pos c37] at H
                      have c37b0 := eq_true c37
                      have c37b1 : decide (((rd_T48 ((rd_T43 l0 x19_1).f1) x60_4).f0).size + 1 ≤ 9223372036854775807) = true := decide_eq_true c37
                      try have c37b2 : (9223372036854775807 < ((rd_T48 ((rd_T43 l0 x19_1).f1) x60_4).f0).size + 1) = False := eq_false (Nat.not_lt.2 c37)
                      by_cases c38 : (((rd_T48 ((rd_T43 l0 x19_1).f1) x60_4).f0) ++ (⟨#[58]⟩ : ByteArray)).size + ((rd_T48 ((rd_T43 l0 x19_1).f1) x60_4).f1).size ≤ 9223372036854775807
                      ·rw [if_pos c38] at H
                       have c38b0 := eq_true c38
                       have c38b1 : decide ((((rd_T48 ((rd_T43 l0 x19_1).f1) x60_4).f0) ++ (⟨#[58]⟩ : ByteArray)).size + ((rd_T48 ((rd_T43 l0 x19_1).f1) x60_4).f1).size ≤ 9223372036854775807) = true := decide_eq_true c38
                       try have c38b2 : (9223372036854775807 < (((rd_T48 ((rd_T43 l0 x19_1).f1) x60_4).f0) ++ (⟨#[58]⟩ : ByteArray)).size + ((rd_T48 ((rd_T43 l0 x19_1).f1) x60_4).f1).size) = False := eq_false (Nat.not_lt.2 c38)
                       try have c38b7 : (9223372036854775807 < (((rd_T48 ((rd_T43 l0 x19_1).f1) x60_4).f0).size + 1) + ((rd_T48 ((rd_T43 l0 x19_1).f1) x60_4).f1).size) = False := by have h9_ := c38b2; simp only [ByteArray.size_append] at h9_; exact h9_
                       by_cases c39 : x4_4.size + ((((rd_T48 ((rd_T43 l0 x19_1).f1) x60_4).f0) ++ (⟨#[58]⟩ : ByteArray)) ++ ((rd_T48 ((rd_T43 l0 x19_1).f1) x60_4).f1)).size ≤ 9223372036854775807
                       ·rw [if_pos c39] at H
                        have c39b0 := eq_true c39
                        have c39b1 : decide (x4_4.size + ((((rd_T48 ((rd_T43 l0 x19_1).f1) x60_4).f0) ++ (⟨#[58]⟩ : ByteArray)) ++ ((rd_T48 ((rd_T43 l0 x19_1).f1) x60_4).f1)).size ≤ 9223372036854775807) = true := decide_eq_true c39
                        try have c39b2 : (9223372036854775807 < x4_4.size + ((((rd_T48 ((rd_T43 l0 x19_1).f1) x60_4).f0) ++ (⟨#[58]⟩ : ByteArray)) ++ ((rd_T48 ((rd_T43 l0 x19_1).f1) x60_4).f1)).size) = False := eq_false (Nat.not_lt.2 c39)
                        try have c39b7 : (9223372036854775807 < x4_4.size + ((((rd_T48 ((rd_T43 l0 x19_1).f1) x60_4).f0).size + 1) + ((rd_T48 ((rd_T43 l0 x19_1).f1) x60_4).f1).size)) = False := by have h9_ := c39b2; simp only [ByteArray.size_append] at h9_; exact h9_
                        obtain ⟨bq40, hbq40⟩ : ∃ b_ : Bool, b_ = ((rd_T48 ((rd_T43 l0 x19_1).f1) x60_4).f2) := ⟨_, rfl⟩
                        replace H : (if bq40 = true then (if (x4_4 ++ ((((rd_T48 ((rd_T43 l0 x19_1).f1) x60_4).f0) ++ (⟨#[58]⟩ : ByteArray)) ++ ((rd_T48 ((rd_T43 l0 x19_1).f1) x60_4).f1))).size + 11 ≤ 9223372036854775807 then (if ((x4_4 ++ ((((rd_T48 ((rd_T43 l0 x19_1).f1) x60_4).f0) ++ (⟨#[58]⟩ : ByteArray)) ++ ((rd_T48 ((rd_T43 l0 x19_1).f1) x60_4).f1))) ++ (⟨#[32, 33, 105, 109, 112, 111, 114, 116, 97, 110, 116]⟩ : ByteArray)).size + 1 ≤ 9223372036854775807 then (impl_SheetText.l2 k4 (((x4_4 ++ ((((rd_T48 ((rd_T43 l0 x19_1).f1) x60_4).f0) ++ (⟨#[58]⟩ : ByteArray)) ++ ((rd_T48 ((rd_T43 l0 x19_1).f1) x60_4).f1))) ++ (⟨#[32, 33, 105, 109, 112, 111, 114, 116, 97, 110, 116]⟩ : ByteArray)) ++ (⟨#[59]⟩ : ByteArray)) l0 (l0.length : Int) x19_1 ((rd_T43 l0 x19_1).f1) (((rd_T43 l0 x19_1).f1).length : Int) (wrap64 (x60_4 + 1))) else (none)) else (none)) else (if (x4_4 ++ ((((rd_T48 ((rd_T43 l0 x19_1).f1) x60_4).f0) ++ (⟨#[58]⟩ : ByteArray)) ++ ((rd_T48 ((rd_T43 l0 x19_1).f1) x60_4).f1))).size + 1 ≤ 9223372036854775807 then (impl_SheetText.l2 k4 ((x4_4 ++ ((((rd_T48 ((rd_T43 l0 x19_1).f1) x60_4).f0) ++ (⟨#[58]⟩ : ByteArray)) ++ ((rd_T48 ((rd_T43 l0 x19_1).f1) x60_4).f1))) ++ (⟨#[59]⟩ : ByteArray)) l0 (l0.length : Int) x19_1 ((rd_T43 l0 x19_1).f1) (((rd_T43 l0 x19_1).f1).length : Int) (wrap64 (x60_4 + 1))) else (none))) = some (r1, r2) := by rw [← hbq40] at H; exact H
                        have Nbq40 := Aside0.mk hbq40
                        clear hbq40
                        by_cases c41 : bq40 = true
                        ·subst c41
                         have H1 : (if (x4_4 ++ ((((rd_T48 ((rd_T43 l0 x19_1).f1) x60_4).f0) ++ (⟨#[58]⟩ : ByteArray)) ++ ((rd_T48 ((rd_T43 l0 x19_1).f1) x60_4).f1))).size + 11 ≤ 9223372036854775807 then (if ((x4_4 ++ ((((rd_T48 ((rd_T43 l0 x19_1).f1) x60_4).f0) ++ (⟨#[58]⟩ : ByteArray)) ++ ((rd_T48 ((rd_T43 l0 x19_1).f1) x60_4).f1))) ++ (⟨#[32, 33, 105, 109, 112, 111, 114, 116, 97, 110, 116]⟩ : ByteArray)).size + 1 ≤ 9223372036854775807 then (impl_SheetText.l2 k4 (((x4_4 ++ ((((rd_T48 ((rd_T43 l0 x19_1).f1) x60_4).f0) ++ (⟨#[58]⟩ : ByteArray)) ++ ((rd_T48 ((rd_T43 l0 x19_1).f1) x60_4).f1))) ++ (⟨#[32, 33, 105, 109, 112, 111, 114, 116, 97, 110, 116]⟩ : ByteArray)) ++ (⟨#[59]⟩ : ByteArray)) l0 (l0.length : Int) x19_1 ((rd_T43 l0 x19_1).f1) (((rd_T43 l0 x19_1).f1).length : Int) (wrap64 (x60_4 + 1))) else (none)) else (none)) = some (r1, r2) := by rw [if_pos rfl] at H; exact H
                         clear H
                         have H := H1
                         clear H1
                         by_cases c42 : (x4_4 ++ ((((rd_T48 ((rd_T43 l0 x19_1).f1) x60_4).f0) ++ (⟨#[58]⟩ : ByteArray)) ++ ((rd_T48 ((rd_T43 l0 x19_1).f1) x60_4).f1))).size + 11 ≤ 9223372036854775807
                         ·rw [if_pos c42] at H
                          have c42b0 := eq_true c42
                          have c42b1 : decide ((x4_4 ++ ((((rd_T48 ((rd_T43 l0 x19_1).f1) x60_4).f0) ++ (⟨#[58]⟩ : ByteArray)) ++ ((rd_T48 ((rd_T43 l0 x19_1).f1) x60_4).f1))).size + 11 ≤ 9223372036854775807) = true := decide_eq_true c42
                          try have c42b2 : (9223372036854775807 < (x4_4 ++ ((((rd_T48 ((rd_T43 l0 x19_1).f1) x60_4).f0) ++ (⟨#[58]⟩ : ByteArray)) ++ ((rd_T48 ((rd_T43 l0 x19_1).f1) x60_4).f1))).size + 11) = False := eq_false (Nat.not_lt.2 c42)
                          try have c42b7 : (9223372036854775807 < (x4_4.size + ((((rd_T48 ((rd_T43 l0 x19_1).f1) x60_4).f0).size + 1) + ((rd_T48 ((rd_T43 l0 x19_1).f1) x60_4).f1).size)) + 11) = False := by have h9_ := c42b2; simp only [ByteArray.size_append] at h9_; exact h9_
                          by_cases c43 : ((x4_4 ++ ((((rd_T48 ((rd_T43 l0 x19_1).f1) x60_4).f0) ++ (⟨#[58]⟩ : ByteArray)) ++ ((rd_T48 ((rd_T43 l0 x19_1).f1) x60_4).f1))) ++ (⟨#[32, 33, 105, 109, 112, 111, 114, 116, 97, 110, 116]⟩ : ByteArray)).size + 1 ≤ 9223372036854775807
                          ·rw [if_pos c43] at H
                           have c43b0 := eq_true c43
                           have c43b1 : decide (((x4_4 ++ ((((rd_T48 ((rd_T43 l0 x19_1).f1) x60_4).f0) ++ (⟨#[58]⟩ : ByteArray)) ++ ((rd_T48 ((rd_T43 l0 x19_1).f1) x60_4).f1))) ++ (⟨#[32, 33, 105, 109, 112, 111, 114, 116, 97, 110, 116]⟩ : ByteArray)).size + 1 ≤ 9223372036854775807) = true := decide_eq_true c43
                           try have c43b2 : (9223372036854775807 < ((x4_4 ++ ((((rd_T48 ((rd_T43 l0 x19_1).f1) x60_4).f0) ++ (⟨#[58]⟩ : ByteArray)) ++ ((rd_T48 ((rd_T43 l0 x19_1).f1) x60_4).f1))) ++ (⟨#[32, 33, 105, 109, 112, 111, 114, 116, 97, 110, 116]⟩ : ByteArray)).size + 1) = False := eq_false (Nat.not_lt.2 c43)
                           try have c43b7 : (9223372036854775807 < ((x4_4.size + ((((rd_T48 ((rd_T43 l0 x19_1).f1) x60_4).f0).size + 1) + ((rd_T48 ((rd_T43 l0 x19_1).f1) x60_4).f1).size)) + 11) + 1) = False := by have h9_ := c43b2; simp only [ByteArray.size_append] at h9_; exact h9_
                           have H' := Aside0.mk H
                           clear H
                           have p261 : 0 ≤ (x60_4 : Int) := of_decide_eq_true (by first | (with_reducible assumption) | assumption)
                           have q261 : x60_4 < (((rd_T43 l0 x19_1).f1).length : Int) := of_decide_eq_true (by first | (with_reducible assumption) | assumption)
                           obtain ⟨ad261, e261, hx261_0, hx261_1, hx261_2⟩ := at_T48 HR249_1.out x60_4 p261 q261
                           (try rw [← Nbq40.out] at hx261_2)
                           (try rw [← Nbq40.out] at A35)
                           cases e261
                           replace hx261_0 := (HB.out.cell (World.block_lt_of_cell? w _ hx261_0)).trans hx261_0
                           replace hx261_1 := (HB.out.cell (World.block_lt_of_cell? w _ hx261_1)).trans hx261_1
                           replace hx261_2 := (HB.out.cell (World.block_lt_of_cell? w _ hx261_2)).trans hx261_2
                           replace p261 := eq_true p261
                           replace q261 := eq_true q261
                           go_wp2_with (first | ((with_reducible refine gate_dst (N := 13) rfl ?_); (try (refine gate_guard (by rfl) ?_; dsimp only)); refine box_event ?hg (N := 13) ?hd (cs := #[.string (⟨#[]⟩ : ByteArray), .string (⟨#[]⟩ : ByteArray), .bool false]) (t := 48) ?hr ?_; (case hd => rfl); (case hg => rfl); (case hr => first | (go_simp; done) | (go_simp; rfl)); intro gb262 hg w44 hbox hb; have n0_ := Aside0.mk (blk_below (g := gb250) (o := .cells #[.slice A249_0 ((rd_T43 l0 x19_1).f0).length c249_0, .slice (some ad261) ((rd_T43 l0 x19_1).f1).length c249_1] 43 (0, 0)) (by (with_reducible repeat (first | refine blk_drewN ?_ _ | refine blk_drew ?_ | refine blk_alloc ?_ _)); exact BK250.out) hb); have n1_ := Aside0.mk (below_step (by repeat (first | (with_reducible first | exact HB.out | apply below_alloc | apply pw_below_drewN | apply below_drew1 | refine below_set ?_ GE250.out) | exact HB.out)) hb); have n2_ := Aside0.mk (hbox); have n3_ := Aside0.mk ((by rw [hg]; exact (below_size (by repeat (first | (with_reducible first | exact HB.out | apply below_alloc | apply pw_below_drewN | apply below_drew1 | refine below_set ?_ GE250.out) | exact HB.out))) : w.heap.size ≤ gb262)); have n4_ := Aside0.mk ((by rw [hg]; exact (below_size (by repeat (first | (with_reducible first | exact HB.out | apply below_alloc | apply pw_below_drewN | apply below_drew1 | refine below_set ?_ GE250.out) | exact HB.out))) : w.heap.size ≤ gb262)); have n5_ := Aside0.mk ((by rw [hg]; exact Nat.ne_of_lt (blk_lt (g := gb250) (o := .cells #[.slice A249_0 ((rd_T43 l0 x19_1).f0).length c249_0, .slice (some ad261) ((rd_T43 l0 x19_1).f1).length c249_1] 43 (0, 0)) (by (with_reducible repeat (first | refine blk_drewN ?_ _ | refine blk_drew ?_ | refine blk_alloc ?_ _)); exact BK250.out)) : gb250 ≠ gb262)); have n6_ := Aside0.mk ((by rw [hg]; exact Nat.ne_of_gt (blk_lt (g := gb250) (o := .cells #[.slice A249_0 ((rd_T43 l0 x19_1).f0).length c249_0, .slice (some ad261) ((rd_T43 l0 x19_1).f1).length c249_1] 43 (0, 0)) (by (with_reducible repeat (first | refine blk_drewN ?_ _ | refine blk_drew ?_ | refine blk_alloc ?_ _)); exact BK250.out)) : gb262 ≠ gb250)); clear BK250; clear HB; have BK250 := n0_; have HB := n1_; have BK262 := n2_; have GW262 := n3_; have GE262 := n4_; have NB250_262 := n5_; have NB262_250 := n6_; clear n0_ n1_ n2_ n3_ n4_ n5_ n6_; clear hb hbox hg; have hnb45 := NB262_250.out; have hnc45 := NB250_262.out; have hcz46_0 : w44.cell? ⟨gb262, 0, none⟩ = some (.string (⟨#[]⟩ : ByteArray)) := (blk_cell BK262.out 0).trans rfl; have hcz46_1 : w44.cell? ⟨gb262, 1, none⟩ = some (.string (⟨#[]⟩ : ByteArray)) := (blk_cell BK262.out 1).trans rfl; have hcz46_2 : w44.cell? ⟨gb262, 2, none⟩ = some (.bool false) := (blk_cell BK262.out 2).trans rfl; have hfz46_0 := blk_frozen BK262.out 0; have hfz46_1 := blk_frozen BK262.out 1; have hfz46_2 := blk_frozen BK262.out 2) | ((with_reducible refine gate_callee (f := 22) rfl ?_); refine goesL_ (some 65) rfl rfl Tryd.func22 (by kernel_rfl) rfl #[.agg #[.string ((rd_T48 ((rd_T43 l0 x19_1).f1) x60_4).f0), .string ((rd_T48 ((rd_T43 l0 x19_1).f1) x60_4).f1), .bool true]] rfl (by (try simp only [List.map_toArray, List.map_cons, List.map_nil]); first | done | rfl | (simp only [List.length_drop, List.length_take]; rfl)) ?_; (with_reducible refine (impl_isDecl.calls k4 ((rd_T48 ((rd_T43 l0 x19_1).f1) x60_4).f0) ((rd_T48 ((rd_T43 l0 x19_1).f1) x60_4).f1) true true _ A35.out).mono ?_); rintro e w47 ⟨rfl, hb⟩; refine ⟨_, rfl, ?_⟩; have n0_ := Aside0.mk (blk_below (g := gb250) (o := .cells #[.slice A249_0 ((rd_T43 l0 x19_1).f0).length c249_0, .slice (some ad261) ((rd_T43 l0 x19_1).f1).length c249_1] 43 (0, 0)) (by (with_reducible repeat (first | refine blk_drewN ?_ _ | refine blk_drew ?_ | refine blk_alloc ?_ _)); refine blk_far ?_ NB250_262.out _; (with_reducible repeat (first | refine blk_drewN ?_ _ | refine blk_drew ?_ | refine blk_alloc ?_ _)); refine blk_far ?_ NB250_262.out _; (with_reducible repeat (first | refine blk_drewN ?_ _ | refine blk_drew ?_ | refine blk_alloc ?_ _)); refine blk_far ?_ NB250_262.out _; (with_reducible repeat (first | refine blk_drewN ?_ _ | refine blk_drew ?_ | refine blk_alloc ?_ _)); exact BK250.out) hb); have n1_ := Aside0.mk (blk_below (g := gb262) (o := .cells #[.string ((rd_T48 ((rd_T43 l0 x19_1).f1) x60_4).f0), .string ((rd_T48 ((rd_T43 l0 x19_1).f1) x60_4).f1), .bool true] 48 (0, 0)) (by (with_reducible repeat (first | refine blk_drewN ?_ _ | refine blk_drew ?_ | refine blk_alloc ?_ _)); refine blk_put (cs := #[.string ((rd_T48 ((rd_T43 l0 x19_1).f1) x60_4).f0), .string ((rd_T48 ((rd_T43 l0 x19_1).f1) x60_4).f1), .bool false]) ?_ 2 _ rfl; (with_reducible repeat (first | refine blk_drewN ?_ _ | refine blk_drew ?_ | refine blk_alloc ?_ _)); refine blk_put (cs := #[.string ((rd_T48 ((rd_T43 l0 x19_1).f1) x60_4).f0), .string (⟨#[]⟩ : ByteArray), .bool false]) ?_ 1 _ rfl; (with_reducible repeat (first | refine blk_drewN ?_ _ | refine blk_drew ?_ | refine blk_alloc ?_ _)); refine blk_put (cs := #[.string (⟨#[]⟩ : ByteArray), .string (⟨#[]⟩ : ByteArray), .bool false]) ?_ 0 _ rfl; (with_reducible repeat (first | refine blk_drewN ?_ _ | refine blk_drew ?_ | refine blk_alloc ?_ _)); exact BK262.out) hb); have n2_ := Aside0.mk (below_step (by repeat (first | (with_reducible first | exact HB.out | apply below_alloc | apply pw_below_drewN | apply below_drew1 | refine below_set ?_ GE250.out | refine below_set ?_ GE262.out) | exact HB.out)) hb); clear BK250; clear BK262; clear HB; have BK250 := n0_; have BK262 := n1_; have HB := n2_; clear n0_ n1_ n2_; (try clear hb); (try clear hb2); (try clear hk); (try clear hi); have hcz48_0 : w47.cell? ⟨gb262, 0, none⟩ = some (.string ((rd_T48 ((rd_T43 l0 x19_1).f1) x60_4).f0)) := (blk_cell BK262.out 0).trans rfl; have hcz48_1 : w47.cell? ⟨gb262, 1, none⟩ = some (.string ((rd_T48 ((rd_T43 l0 x19_1).f1) x60_4).f1)) := (blk_cell BK262.out 1).trans rfl; have hcz48_2 : w47.cell? ⟨gb262, 2, none⟩ = some (.bool true) := (blk_cell BK262.out 2).trans rfl; have hfz48_0 := blk_frozen BK262.out 0; have hfz48_1 := blk_frozen BK262.out 1; have hfz48_2 := blk_frozen BK262.out 2))
                           go_roundg k4
                           case measure => have := HK1.out; have := HK2.out; have := HJ19.out; have := HK4.out; omega
                           case rel => exact ⟨(((x4_4 ++ ((((rd_T48 ((rd_T43 l0 x19_1).f1) x60_4).f0) ++ (⟨#[58]⟩ : ByteArray)) ++ ((rd_T48 ((rd_T43 l0 x19_1).f1) x60_4).f1))) ++ (⟨#[32, 33, 105, 109, 112, 111, 114, 116, 97, 110, 116]⟩ : ByteArray)) ++ (⟨#[59]⟩ : ByteArray)), (wrap64 (x60_4 + 1)), (by first | rfl | (simp; done) | (simp [*]; done) | (simp [wrap64]; done)), (by first | rfl | (simp; done) | (simp [*]; done) | (simp [wrap64]; done)), H', ⟨by have := HK1.out; have := HK2.out; have := HJ19.out; have := HK4.out; omega⟩, ⟨by (with_reducible repeat (first | refine blk_drewN ?_ _ | refine blk_drew ?_ | refine blk_alloc ?_ _)); exact BK250.out⟩, ⟨by repeat (first | (with_reducible first | exact HB.out | apply below_alloc | apply pw_below_drewN | apply below_drew1 | refine below_set ?_ GE250.out | refine below_set ?_ GE262.out) | exact HB.out)⟩⟩
                          ·rw [if_neg c43] at H
                           exact absurd H (by simp)
                         ·rw [if_neg c42] at H
                          exact absurd H (by simp)
                        ·replace c41 := Bool.eq_false_iff.mpr c41
                         subst c41
                         have H1 : (if (x4_4 ++ ((((rd_T48 ((rd_T43 l0 x19_1).f1) x60_4).f0) ++ (⟨#[58]⟩ : ByteArray)) ++ ((rd_T48 ((rd_T43 l0 x19_1).f1) x60_4).f1))).size + 1 ≤ 9223372036854775807 then (impl_SheetText.l2 k4 ((x4_4 ++ ((((rd_T48 ((rd_T43 l0 x19_1).f1) x60_4).f0) ++ (⟨#[58]⟩ : ByteArray)) ++ ((rd_T48 ((rd_T43 l0 x19_1).f1) x60_4).f1))) ++ (⟨#[59]⟩ : ByteArray)) l0 (l0.length : Int) x19_1 ((rd_T43 l0 x19_1).f1) (((rd_T43 l0 x19_1).f1).length : Int) (wrap64 (x60_4 + 1))) else (none)) = some (r1, r2) := by rw [if_neg (show ¬ (false = true) by decide)] at H; exact H
                         clear H
                         have H := H1
                         clear H1
                         by_cases c49 : (x4_4 ++ ((((rd_T48 ((rd_T43 l0 x19_1).f1) x60_4).f0) ++ (⟨#[58]⟩ : ByteArray)) ++ ((rd_T48 ((rd_T43 l0 x19_1).f1) x60_4).f1))).size + 1 ≤ 9223372036854775807
                         ·rw [if_pos c49] at H
                          have c49b0 := eq_true c49
                          have c49b1 : decide ((x4_4 ++ ((((rd_T48 ((rd_T43 l0 x19_1).f1) x60_4).f0) ++ (⟨#[58]⟩ : ByteArray)) ++ ((rd_T48 ((rd_T43 l0 x19_1).f1) x60_4).f1))).size + 1 ≤ 9223372036854775807) = true := decide_eq_true c49
                          try have c49b2 : (9223372036854775807 < (x4_4 ++ ((((rd_T48 ((rd_T43 l0 x19_1).f1) x60_4).f0) ++ (⟨#[58]⟩ : ByteArray)) ++ ((rd_T48 ((rd_T43 l0 x19_1).f1) x60_4).f1))).size + 1) = False := eq_false (Nat.not_lt.2 c49)
                          try have c49b7 : (9223372036854775807 < (x4_4.size + ((((rd_T48 ((rd_T43 l0 x19_1).f1) x60_4).f0).size + 1) + ((rd_T48 ((rd_T43 l0 x19_1).f1) x60_4).f1).size)) + 1) = False := by have h9_ := c49b2; simp only [ByteArray.size_append] at h9_; exact h9_
                          have H' := Aside0.mk H
                          clear H
                          have p261 : 0 ≤ (x60_4 : Int) := of_decide_eq_true (by first | (with_reducible assumption) | assumption)
                          have q261 : x60_4 < (((rd_T43 l0 x19_1).f1).length : Int) := of_decide_eq_true (by first | (with_reducible assumption) | assumption)
                          obtain ⟨ad261, e261, hx261_0, hx261_1, hx261_2⟩ := at_T48 HR249_1.out x60_4 p261 q261
                          (try rw [← Nbq40.out] at hx261_2)
                          (try rw [← Nbq40.out] at A35)
                          cases e261
                          replace hx261_0 := (HB.out.cell (World.block_lt_of_cell? w _ hx261_0)).trans hx261_0
                          replace hx261_1 := (HB.out.cell (World.block_lt_of_cell? w _ hx261_1)).trans hx261_1
                          replace hx261_2 := (HB.out.cell (World.block_lt_of_cell? w _ hx261_2)).trans hx261_2
                          replace p261 := eq_true p261
                          replace q261 := eq_true q261
                          go_wp2_with (first | ((with_reducible refine gate_dst (N := 13) rfl ?_); (try (refine gate_guard (by rfl) ?_; dsimp only)); refine box_event ?hg (N := 13) ?hd (cs := #[.string (⟨#[]⟩ : ByteArray), .string (⟨#[]⟩ : ByteArray), .bool false]) (t := 48) ?hr ?_; (case hd => rfl); (case hg => rfl); (case hr => first | (go_simp; done) | (go_simp; rfl)); intro gb262 hg w50 hbox hb; have n0_ := Aside0.mk (blk_below (g := gb250) (o := .cells #[.slice A249_0 ((rd_T43 l0 x19_1).f0).length c249_0, .slice (some ad261) ((rd_T43 l0 x19_1).f1).length c249_1] 43 (0, 0)) (by (with_reducible repeat (first | refine blk_drewN ?_ _ | refine blk_drew ?_ | refine blk_alloc ?_ _)); exact BK250.out) hb); have n1_ := Aside0.mk (below_step (by repeat (first | (with_reducible first | exact HB.out | apply below_alloc | apply pw_below_drewN | apply below_drew1 | refine below_set ?_ GE250.out) | exact HB.out)) hb); have n2_ := Aside0.mk (hbox); have n3_ := Aside0.mk ((by rw [hg]; exact (below_size (by repeat (first | (with_reducible first | exact HB.out | apply below_alloc | apply pw_below_drewN | apply below_drew1 | refine below_set ?_ GE250.out) | exact HB.out))) : w.heap.size ≤ gb262)); have n4_ := Aside0.mk ((by rw [hg]; exact (below_size (by repeat (first | (with_reducible first | exact HB.out | apply below_alloc | apply pw_below_drewN | apply below_drew1 | refine below_set ?_ GE250.out) | exact HB.out))) : w.heap.size ≤ gb262)); have n5_ := Aside0.mk ((by rw [hg]; exact Nat.ne_of_lt (blk_lt (g := gb250) (o := .cells #[.slice A249_0 ((rd_T43 l0 x19_1).f0).length c249_0, .slice (some ad261) ((rd_T43 l0 x19_1).f1).length c249_1] 43 (0, 0)) (by (with_reducible repeat (first | refine blk_drewN ?_ _ | refine blk_drew ?_ | refine blk_alloc ?_ _)); exact BK250.out)) : gb250 ≠ gb262)); have n6_ := Aside0.mk ((by rw [hg]; exact Nat.ne_of_gt (blk_lt (g := gb250) (o := .cells #[.slice A249_0 ((rd_T43 l0 x19_1).f0).length c249_0, .slice (some ad261) ((rd_T43 l0 x19_1).f1).length c249_1] 43 (0, 0)) (by (with_reducible repeat (first | refine blk_drewN ?_ _ | refine blk_drew ?_ | refine blk_alloc ?_ _)); exact BK250.out)) : gb262 ≠ gb250)); clear BK250; clear HB; have BK250 := n0_; have HB := n1_; have BK262 := n2_; have GW262 := n3_; have GE262 := n4_; have NB250_262 := n5_; have NB262_250 := n6_; clear n0_ n1_ n2_ n3_ n4_ n5_ n6_; clear hb hbox hg; have hnb51 := NB262_250.out; have hnc51 := NB250_262.out; have hcz52_0 : w50.cell? ⟨gb262, 0, none⟩ = some (.string (⟨#[]⟩ : ByteArray)) := (blk_cell BK262.out 0).trans rfl; have hcz52_1 : w50.cell? ⟨gb262, 1, none⟩ = some (.string (⟨#[]⟩ : ByteArray)) := (blk_cell BK262.out 1).trans rfl; have hcz52_2 : w50.cell? ⟨gb262, 2, none⟩ = some (.bool false) := (blk_cell BK262.out 2).trans rfl; have hfz52_0 := blk_frozen BK262.out 0; have hfz52_1 := blk_frozen BK262.out 1; have hfz52_2 := blk_frozen BK262.out 2) | ((with_reducible refine gate_callee (f := 22) rfl ?_); refine goesL_ (some 65) rfl rfl Tryd.func22 (by kernel_rfl) rfl #[.agg #[.string ((rd_T48 ((rd_T43 l0 x19_1).f1) x60_4).f0), .string ((rd_T48 ((rd_T43 l0 x19_1).f1) x60_4).f1), .bool false]] rfl (by (try simp only [List.map_toArray, List.map_cons, List.map_nil]); first | done | rfl | (simp only [List.length_drop, List.length_take]; rfl)) ?_; (with_reducible refine (impl_isDecl.calls k4 ((rd_T48 ((rd_T43 l0 x19_1).f1) x60_4).f0) ((rd_T48 ((rd_T43 l0 x19_1).f1) x60_4).f1) false true _ A35.out).mono ?_); rintro e w53 ⟨rfl, hb⟩; refine ⟨_, rfl, ?_⟩; have n0_ := Aside0.mk (blk_below (g := gb250) (o := .cells #[.slice A249_0 ((rd_T43 l0 x19_1).f0).length c249_0, .slice (some ad261) ((rd_T43 l0 x19_1).f1).length c249_1] 43 (0, 0)) (by (with_reducible repeat (first | refine blk_drewN ?_ _ | refine blk_drew ?_ | refine blk_alloc ?_ _)); refine blk_far ?_ NB250_262.out _; (with_reducible repeat (first | refine blk_drewN ?_ _ | refine blk_drew ?_ | refine blk_alloc ?_ _)); refine blk_far ?_ NB250_262.out _; (with_reducible repeat (first | refine blk_drewN ?_ _ | refine blk_drew ?_ | refine blk_alloc ?_ _)); refine blk_far ?_ NB250_262.out _; (with_reducible repeat (first | refine blk_drewN ?_ _ | refine blk_drew ?_ | refine blk_alloc ?_ _)); exact BK250.out) hb); have n1_ := Aside0.mk (blk_below (g := gb262) (o := .cells #[.string ((rd_T48 ((rd_T43 l0 x19_1).f1) x60_4).f0), .string ((rd_T48 ((rd_T43 l0 x19_1).f1) x60_4).f1), .bool false] 48 (0, 0)) (by (with_reducible repeat (first | refine blk_drewN ?_ _ | refine blk_drew ?_ | refine blk_alloc ?_ _)); refine blk_put (cs := #[.string ((rd_T48 ((rd_T43 l0 x19_1).f1) x60_4).f0), .string ((rd_T48 ((rd_T43 l0 x19_1).f1) x60_4).f1), .bool false]) ?_ 2 _ rfl; (with_reducible repeat (first | refine blk_drewN ?_ _ | refine blk_drew ?_ | refine blk_alloc ?_ _)); refine blk_put (cs := #[.string ((rd_T48 ((rd_T43 l0 x19_1).f1) x60_4).f0), .string (⟨#[]⟩ : ByteArray), .bool false]) ?_ 1 _ rfl; (with_reducible repeat (first | refine blk_drewN ?_ _ | refine blk_drew ?_ | refine blk_alloc ?_ _)); refine blk_put (cs := #[.string (⟨#[]⟩ : ByteArray), .string (⟨#[]⟩ : ByteArray), .bool false]) ?_ 0 _ rfl; (with_reducible repeat (first | refine blk_drewN ?_ _ | refine blk_drew ?_ | refine blk_alloc ?_ _)); exact BK262.out) hb); have n2_ := Aside0.mk (below_step (by repeat (first | (with_reducible first | exact HB.out | apply below_alloc | apply pw_below_drewN | apply below_drew1 | refine below_set ?_ GE250.out | refine below_set ?_ GE262.out) | exact HB.out)) hb); clear BK250; clear BK262; clear HB; have BK250 := n0_; have BK262 := n1_; have HB := n2_; clear n0_ n1_ n2_; (try clear hb); (try clear hb2); (try clear hk); (try clear hi); have hcz54_0 : w53.cell? ⟨gb262, 0, none⟩ = some (.string ((rd_T48 ((rd_T43 l0 x19_1).f1) x60_4).f0)) := (blk_cell BK262.out 0).trans rfl; have hcz54_1 : w53.cell? ⟨gb262, 1, none⟩ = some (.string ((rd_T48 ((rd_T43 l0 x19_1).f1) x60_4).f1)) := (blk_cell BK262.out 1).trans rfl; have hcz54_2 : w53.cell? ⟨gb262, 2, none⟩ = some (.bool false) := (blk_cell BK262.out 2).trans rfl; have hfz54_0 := blk_frozen BK262.out 0; have hfz54_1 := blk_frozen BK262.out 1; have hfz54_2 := blk_frozen BK262.out 2))
                          go_roundg k4
                          case measure => have := HK1.out; have := HK2.out; have := HJ19.out; have := HK4.out; omega
                          case rel => exact ⟨((x4_4 ++ ((((rd_T48 ((rd_T43 l0 x19_1).f1) x60_4).f0) ++ (⟨#[58]⟩ : ByteArray)) ++ ((rd_T48 ((rd_T43 l0 x19_1).f1) x60_4).f1))) ++ (⟨#[59]⟩ : ByteArray)), (wrap64 (x60_4 + 1)), (by first | rfl | (simp; done) | (simp [*]; done) | (simp [wrap64]; done)), (by first | rfl | (simp; done) | (simp [*]; done) | (simp [wrap64]; done)), H', ⟨by have := HK1.out; have := HK2.out; have := HJ19.out; have := HK4.out; omega⟩, ⟨by (with_reducible repeat (first | refine blk_drewN ?_ _ | refine blk_drew ?_ | refine blk_alloc ?_ _)); exact BK250.out⟩, ⟨by repeat (first | (with_reducible first | exact HB.out | apply below_alloc | apply pw_below_drewN | apply below_drew1 | refine below_set ?_ GE250.out | refine below_set ?_ GE262.out) | exact HB.out)⟩⟩
                         ·rw [if_neg c49] at H
                          exact absurd H (by simp)
                       ·rw [if_neg c39] at H
                        exact absurd H (by simp)
                      ·rw [if_neg c38] at H
                       exact absurd H (by simp)
                     ·rw [if_neg c37] at H
                      exact absurd H (by simp)
                    ·replace c36 := Bool.eq_false_iff.mpr c36
                     subst c36
                     have H1 : (some ((⟨#[]⟩ : ByteArray), false)) = some (r1, r2) := by rw [if_neg (show ¬ (false = true) by decide)] at H; exact H
                     clear H
                     have H := H1
                     clear H1
                     simp only [Option.some.injEq, Prod.mk.injEq] at H
                     obtain ⟨rfl, rfl⟩ := H
                     have p261 : 0 ≤ (x60_4 : Int) := of_decide_eq_true (by first | (with_reducible assumption) | assumption)
                     have q261 : x60_4 < (((rd_T43 l0 x19_1).f1).length : Int) := of_decide_eq_true (by first | (with_reducible assumption) | assumption)
                     obtain ⟨ad261, e261, hx261_0, hx261_1, hx261_2⟩ := at_T48 HR249_1.out x60_4 p261 q261
                     cases e261
                     replace hx261_0 := (HB.out.cell (World.block_lt_of_cell? w _ hx261_0)).trans hx261_0
                     replace hx261_1 := (HB.out.cell (World.block_lt_of_cell? w _ hx261_1)).trans hx261_1
                     replace hx261_2 := (HB.out.cell (World.block_lt_of_cell? w _ hx261_2)).trans hx261_2
                     replace p261 := eq_true p261
                     replace q261 := eq_true q261
                     go_wp2_with (first | ((with_reducible refine gate_dst (N := 13) rfl ?_); (try (refine gate_guard (by rfl) ?_; dsimp only)); refine box_event ?hg (N := 13) ?hd (cs := #[.string (⟨#[]⟩ : ByteArray), .string (⟨#[]⟩ : ByteArray), .bool false]) (t := 48) ?hr ?_; (case hd => rfl); (case hg => rfl); (case hr => first | (go_simp; done) | (go_simp; rfl)); intro gb262 hg w55 hbox hb; have n0_ := Aside0.mk (blk_below (g := gb250) (o := .cells #[.slice A249_0 ((rd_T43 l0 x19_1).f0).length c249_0, .slice (some ad261) ((rd_T43 l0 x19_1).f1).length c249_1] 43 (0, 0)) (by (with_reducible repeat (first | refine blk_drewN ?_ _ | refine blk_drew ?_ | refine blk_alloc ?_ _)); exact BK250.out) hb); have n1_ := Aside0.mk (below_step (by repeat (first | (with_reducible first | exact HB.out | apply below_alloc | apply pw_below_drewN | apply below_drew1 | refine below_set ?_ GE250.out) | exact HB.out)) hb); have n2_ := Aside0.mk (hbox); have n3_ := Aside0.mk ((by rw [hg]; exact (below_size (by repeat (first | (with_reducible first | exact HB.out | apply below_alloc | apply pw_below_drewN | apply below_drew1 | refine below_set ?_ GE250.out) | exact HB.out))) : w.heap.size ≤ gb262)); have n4_ := Aside0.mk ((by rw [hg]; exact (below_size (by repeat (first | (with_reducible first | exact HB.out | apply below_alloc | apply pw_below_drewN | apply below_drew1 | refine below_set ?_ GE250.out) | exact HB.out))) : w.heap.size ≤ gb262)); have n5_ := Aside0.mk ((by rw [hg]; exact Nat.ne_of_lt (blk_lt (g := gb250) (o := .cells #[.slice A249_0 ((rd_T43 l0 x19_1).f0).length c249_0, .slice (some ad261) ((rd_T43 l0 x19_1).f1).length c249_1] 43 (0, 0)) (by (with_reducible repeat (first | refine blk_drewN ?_ _ | refine blk_drew ?_ | refine blk_alloc ?_ _)); exact BK250.out)) : gb250 ≠ gb262)); have n6_ := Aside0.mk ((by rw [hg]; exact Nat.ne_of_gt (blk_lt (g := gb250) (o := .cells #[.slice A249_0 ((rd_T43 l0 x19_1).f0).length c249_0, .slice (some ad261) ((rd_T43 l0 x19_1).f1).length c249_1] 43 (0, 0)) (by (with_reducible repeat (first | refine blk_drewN ?_ _ | refine blk_drew ?_ | refine blk_alloc ?_ _)); exact BK250.out)) : gb262 ≠ gb250)); clear BK250; clear HB; have BK250 := n0_; have HB := n1_; have BK262 := n2_; have GW262 := n3_; have GE262 := n4_; have NB250_262 := n5_; have NB262_250 := n6_; clear n0_ n1_ n2_ n3_ n4_ n5_ n6_; clear hb hbox hg; have hnb56 := NB262_250.out; have hnc56 := NB250_262.out; have hcz57_0 : w55.cell? ⟨gb262, 0, none⟩ = some (.string (⟨#[]⟩ : ByteArray)) := (blk_cell BK262.out 0).trans rfl; have hcz57_1 : w55.cell? ⟨gb262, 1, none⟩ = some (.string (⟨#[]⟩ : ByteArray)) := (blk_cell BK262.out 1).trans rfl; have hcz57_2 : w55.cell? ⟨gb262, 2, none⟩ = some (.bool false) := (blk_cell BK262.out 2).trans rfl; have hfz57_0 := blk_frozen BK262.out 0; have hfz57_1 := blk_frozen BK262.out 1; have hfz57_2 := blk_frozen BK262.out 2) | ((with_reducible refine gate_callee (f := 22) rfl ?_); refine goesL_ (some 65) rfl rfl Tryd.func22 (by kernel_rfl) rfl #[.agg #[.string ((rd_T48 ((rd_T43 l0 x19_1).f1) x60_4).f0), .string ((rd_T48 ((rd_T43 l0 x19_1).f1) x60_4).f1), .bool ((rd_T48 ((rd_T43 l0 x19_1).f1) x60_4).f2)]] rfl (by (try simp only [List.map_toArray, List.map_cons, List.map_nil]); first | done | rfl | (simp only [List.length_drop, List.length_take]; rfl)) ?_; (with_reducible refine (impl_isDecl.calls k4 ((rd_T48 ((rd_T43 l0 x19_1).f1) x60_4).f0) ((rd_T48 ((rd_T43 l0 x19_1).f1) x60_4).f1) ((rd_T48 ((rd_T43 l0 x19_1).f1) x60_4).f2) false _ A35.out).mono ?_); rintro e w58 ⟨rfl, hb⟩; refine ⟨_, rfl, ?_⟩; have n0_ := Aside0.mk (blk_below (g := gb250) (o := .cells #[.slice A249_0 ((rd_T43 l0 x19_1).f0).length c249_0, .slice (some ad261) ((rd_T43 l0 x19_1).f1).length c249_1] 43 (0, 0)) (by (with_reducible repeat (first | refine blk_drewN ?_ _ | refine blk_drew ?_ | refine blk_alloc ?_ _)); refine blk_far ?_ NB250_262.out _; (with_reducible repeat (first | refine blk_drewN ?_ _ | refine blk_drew ?_ | refine blk_alloc ?_ _)); refine blk_far ?_ NB250_262.out _; (with_reducible repeat (first | refine blk_drewN ?_ _ | refine blk_drew ?_ | refine blk_alloc ?_ _)); refine blk_far ?_ NB250_262.out _; (with_reducible repeat (first | refine blk_drewN ?_ _ | refine blk_drew ?_ | refine blk_alloc ?_ _)); exact BK250.out) hb); have n1_ := Aside0.mk (blk_below (g := gb262) (o := .cells #[.string ((rd_T48 ((rd_T43 l0 x19_1).f1) x60_4).f0), .string ((rd_T48 ((rd_T43 l0 x19_1).f1) x60_4).f1), .bool ((rd_T48 ((rd_T43 l0 x19_1).f1) x60_4).f2)] 48 (0, 0)) (by (with_reducible repeat (first | refine blk_drewN ?_ _ | refine blk_drew ?_ | refine blk_alloc ?_ _)); refine blk_put (cs := #[.string ((rd_T48 ((rd_T43 l0 x19_1).f1) x60_4).f0), .string ((rd_T48 ((rd_T43 l0 x19_1).f1) x60_4).f1), .bool false]) ?_ 2 _ rfl; (with_reducible repeat (first | refine blk_drewN ?_ _ | refine blk_drew ?_ | refine blk_alloc ?_ _)); refine blk_put (cs := #[.string ((rd_T48 ((rd_T43 l0 x19_1).f1) x60_4).f0), .string (⟨#[]⟩ : ByteArray), .bool false]) ?_ 1 _ rfl; (with_reducible repeat (first | refine blk_drewN ?_ _ | refine blk_drew ?_ | refine blk_alloc ?_ _)); refine blk_put (cs := #[.string (⟨#[]⟩ : ByteArray), .string (⟨#[]⟩ : ByteArray), .bool false]) ?_ 0 _ rfl; (with_reducible repeat (first | refine blk_drewN ?_ _ | refine blk_drew ?_ | refine blk_alloc ?_ _)); exact BK262.out) hb); have n2_ := Aside0.mk (below_step (by repeat (first | (with_reducible first | exact HB.out | apply below_alloc | apply pw_below_drewN | apply below_drew1 | refine below_set ?_ GE250.out | refine below_set ?_ GE262.out) | exact HB.out)) hb); clear BK250; clear BK262; clear HB; have BK250 := n0_; have BK262 := n1_; have HB := n2_; clear n0_ n1_ n2_; (try clear hb); (try clear hb2); (try clear hk); (try clear hi)))
                     go_ret2
                     exact ⟨by first | rfl | (simp [errW_none, errW_some] <;> rfl) | (simp [*, errW_none, errW_some] <;> rfl), by repeat (first | (with_reducible first | exact HB.out | apply below_alloc | apply pw_below_drewN | apply below_drew1 | refine below_set ?_ GE250.out | refine below_set ?_ GE262.out) | exact HB.out)⟩
                   ·rw [if_neg c34] at H
                    exact absurd H (by simp)
                  ·rw [if_neg c33] at H
                   exact absurd H (by simp)
                 ·rw [if_neg c32] at H
                  have c32b0 : decide (x60_4 < (((rd_T43 l0 x19_1).f1).length : Int)) = false := decide_eq_false c32
                  clear c32
                  by_cases c59 : x4_4.size + 1 ≤ 9223372036854775807
                  ·rw [if_pos c59] at H
                   have c59b0 := eq_true c59
                   have c59b1 : decide (x4_4.size + 1 ≤ 9223372036854775807) = true := decide_eq_true c59
                   try have c59b2 : (9223372036854775807 < x4_4.size + 1) = False := eq_false (Nat.not_lt.2 c59)
                   have H' := Aside0.mk H
                   clear H
                   go_wp2
                   go_roundg k4
                   case measure => have := HK1.out; have := HK2.out; have := HJ19.out; have := HK4.out; omega
                   case rel => exact ⟨(x4_4 ++ (⟨#[125]⟩ : ByteArray)), (wrap64 (x19_1 + 1)), (by first | rfl | (simp; done) | (simp [*]; done) | (simp [wrap64]; done)), (by first | rfl | (simp; done) | (simp [*]; done) | (simp [wrap64]; done)), H', ⟨by have := HK1.out; have := HK2.out; have := HJ19.out; have := HK4.out; omega⟩, ⟨by repeat (first | (with_reducible first | exact HB.out | apply below_alloc | apply pw_below_drewN | apply below_drew1 | refine below_set ?_ GE250.out) | exact HB.out)⟩⟩
                  ·rw [if_neg c59] at H
                   exact absurd H (by simp)
              ·rw [if_neg c28] at H
               exact absurd H (by simp)
             ·rw [if_neg c27] at H
              exact absurd H (by simp)
      ·rw [if_neg c5] at H
       exact absurd H (by simp)
     ·rw [if_neg c4] at H
      exact absurd H (by simp)
    ·rw [if_neg c3] at H
     have c3b0 : decide (x19_1 < (l0.length : Int)) = false := decide_eq_false c3
     clear c3
     by_cases c60 : (x4_1.size : Int) > 1500
     ·rw [if_pos c60] at H
      have c60b0 : decide (1500 < (x4_1.size : Int)) = true := decide_eq_true c60
      have c60b1 : decide (1500 < x4_1.size) = true := decide_eq_true (by omega)
      clear c60
      simp only [Option.some.injEq, Prod.mk.injEq] at H
      obtain ⟨rfl, rfl⟩ := H
      go_wp2
      go_ret2
      exact ⟨by first | rfl | (simp [errW_none, errW_some] <;> rfl) | (simp [*, errW_none, errW_some] <;> rfl), by repeat (first | (with_reducible first | exact HB.out | apply below_alloc | apply pw_below_drewN | apply below_drew1) | exact HB.out)⟩
     ·rw [if_neg c60] at H
      have c60b0 : decide (1500 < (x4_1.size : Int)) = false := decide_eq_false c60
      have c60b1 : decide (1500 < x4_1.size) = false := decide_eq_false (by omega)
      clear c60
      simp only [Option.some.injEq, Prod.mk.injEq] at H
      obtain ⟨rfl, rfl⟩ := H
      go_wp2
      go_ret2
      exact ⟨by first | rfl | (simp [errW_none, errW_some] <;> rfl) | (simp [*, errW_none, errW_some] <;> rfl), by repeat (first | (with_reducible first | exact HB.out | apply below_alloc | apply pw_below_drewN | apply below_drew1) | exact HB.out)⟩

/-! ### laws_eqDecl: function 28 -/
def laws_eqDecl.f (a0_0 : ByteArray) (a0_1 : ByteArray) (a0_2 : Bool) (a1_0 : ByteArray) (a1_1 : ByteArray) (a1_2 : Bool) : Option (Bool) := if a0_0.toList = a1_0.toList then (if a0_1.toList = a1_1.toList then (if (a0_2 != a1_2) = true then (some false) else (some true)) else (some false)) else (some false)
set_option maxHeartbeats 8000000 in
set_option maxRecDepth 100000 in
theorem laws_eqDecl.calls (a0_0 : ByteArray) (a0_1 : ByteArray) (a0_2 : Bool) (a1_0 : ByteArray) (a1_1 : ByteArray) (a1_2 : Bool) (r : Bool) (w : World) (h : laws_eqDecl.f a0_0 a0_1 a0_2 a1_0 a1_1 a1_2 = some r) :
  Calls Tryd.prog 28 #[.agg #[.string a0_0, .string a0_1, .bool a0_2], .agg #[.string a1_0, .string a1_1, .bool a1_2]] w fun e w' => e = .returned (.bool r) ∧ Below w.heap.size w w' := by
 have hu48 := Tryd.underlying48
 have HB := Aside0.mk (Below.refl w.heap.size w)
 have H : (if a0_0.toList = a1_0.toList then (if a0_1.toList = a1_1.toList then (if (a0_2 != a1_2) = true then (some false) else (some true)) else (some false)) else (some false)) = some r := h
 clear h
 by_cases c3 : a0_0.toList = a1_0.toList
 ·rw [if_pos c3] at H
  have c3b0 : (a0_0.toList == a1_0.toList) = true := beq_iff_eq.mpr c3
  have c3b1 : (a0_0.toList != a1_0.toList) = false := bne_eq_false_iff_eq.mpr c3
  clear c3
  by_cases c4 : a0_1.toList = a1_1.toList
  ·rw [if_pos c4] at H
   have c4b0 : (a0_1.toList == a1_1.toList) = true := beq_iff_eq.mpr c4
   have c4b1 : (a0_1.toList != a1_1.toList) = false := bne_eq_false_iff_eq.mpr c4
   clear c4
   by_cases c5 : (a0_2 != a1_2) = true
   ·rw [if_pos c5] at H
    have c5b0 : (a0_2 != a1_2) = true := c5
    (try (have c5b1 : decide (a0_2 = a1_2) = false := by simpa using c5))
    (try (have c5b2 : (a0_2 == a1_2) = false := by simpa using c5))
    (try (have c5b3 : ¬ (a0_2 = a1_2) := by simpa using c5))
    clear c5
    obtain rfl := Option.some.inj H
    go_enter Tryd.func28, Tryd.ntmps28
    go_wp2_with (first | ((with_reducible refine gate_dst (N := 2) rfl ?_); refine box_event ?hg (N := 2) ?hd (cs := #[.string a0_0, .string a0_1, .bool a0_2]) (t := 48) ?hr ?_; (case hd => rfl); (case hg => rfl); (case hr => first | (go_simp; done) | (go_simp; rfl)); intro gb264 hg w6 hbox hb; have n0_ := Aside0.mk (below_step (by repeat (first | (with_reducible first | exact HB.out | apply below_alloc | apply pw_below_drewN | apply below_drew1) | exact HB.out)) hb); have n1_ := Aside0.mk (hbox); have n2_ := Aside0.mk ((by rw [hg]; exact (below_size (by repeat (first | (with_reducible first | exact HB.out | apply below_alloc | apply pw_below_drewN | apply below_drew1) | exact HB.out))) : w.heap.size ≤ gb264)); have n3_ := Aside0.mk ((by rw [hg]; exact (below_size (by repeat (first | (with_reducible first | exact HB.out | apply below_alloc | apply pw_below_drewN | apply below_drew1) | exact HB.out))) : w.heap.size ≤ gb264)); clear HB; have HB := n0_; have BK264 := n1_; have GW264 := n2_; have GE264 := n3_; clear n0_ n1_ n2_ n3_; clear hb hbox hg) | ((with_reducible refine gate_dst (N := 3) rfl ?_); refine box_event ?hg (N := 3) ?hd (cs := #[.string a1_0, .string a1_1, .bool a1_2]) (t := 48) ?hr ?_; (case hd => rfl); (case hg => rfl); (case hr => first | (go_simp; done) | (go_simp; rfl)); intro gb265 hg w7 hbox hb; have n0_ := Aside0.mk (blk_below (g := gb264) (o := .cells #[.string a0_0, .string a0_1, .bool a0_2] 48 (0, 0)) (by (with_reducible repeat (first | refine blk_drewN ?_ _ | refine blk_drew ?_ | refine blk_alloc ?_ _)); exact BK264.out) hb); have n1_ := Aside0.mk (below_step (by repeat (first | (with_reducible first | exact HB.out | apply below_alloc | apply pw_below_drewN | apply below_drew1 | refine below_set ?_ GE264.out) | exact HB.out)) hb); have n2_ := Aside0.mk (hbox); have n3_ := Aside0.mk ((by rw [hg]; exact (below_size (by repeat (first | (with_reducible first | exact HB.out | apply below_alloc | apply pw_below_drewN | apply below_drew1 | refine below_set ?_ GE264.out) | exact HB.out))) : w.heap.size ≤ gb265)); have n4_ := Aside0.mk ((by rw [hg]; exact (below_size (by repeat (first | (with_reducible first | exact HB.out | apply below_alloc | apply pw_below_drewN | apply below_drew1 | refine below_set ?_ GE264.out) | exact HB.out))) : w.heap.size ≤ gb265)); have n5_ := Aside0.mk ((by rw [hg]; exact Nat.ne_of_lt (blk_lt (g := gb264) (o := .cells #[.string a0_0, .string a0_1, .bool a0_2] 48 (0, 0)) (by (with_reducible repeat (first | refine blk_drewN ?_ _ | refine blk_drew ?_ | refine blk_alloc ?_ _)); exact BK264.out)) : gb264 ≠ gb265)); have n6_ := Aside0.mk ((by rw [hg]; exact Nat.ne_of_gt (blk_lt (g := gb264) (o := .cells #[.string a0_0, .string a0_1, .bool a0_2] 48 (0, 0)) (by (with_reducible repeat (first | refine blk_drewN ?_ _ | refine blk_drew ?_ | refine blk_alloc ?_ _)); exact BK264.out)) : gb265 ≠ gb264)); clear BK264; clear HB; have BK264 := n0_; have HB := n1_; have BK265 := n2_; have GW265 := n3_; have GE265 := n4_; have NB264_265 := n5_; have NB265_264 := n6_; clear n0_ n1_ n2_ n3_ n4_ n5_ n6_; clear hb hbox hg; have hnb8 := NB264_265.out; have hnc8 := NB265_264.out; have hcz9_0 : w7.cell? ⟨gb264, 0, none⟩ = some (.string a0_0) := (blk_cell BK264.out 0).trans rfl; have hcz9_1 : w7.cell? ⟨gb264, 1, none⟩ = some (.string a0_1) := (blk_cell BK264.out 1).trans rfl; have hcz9_2 : w7.cell? ⟨gb264, 2, none⟩ = some (.bool a0_2) := (blk_cell BK264.out 2).trans rfl; have hfz9_0 := blk_frozen BK264.out 0; have hfz9_1 := blk_frozen BK264.out 1; have hfz9_2 := blk_frozen BK264.out 2; have hcz10_0 : w7.cell? ⟨gb265, 0, none⟩ = some (.string a1_0) := (blk_cell BK265.out 0).trans rfl; have hcz10_1 : w7.cell? ⟨gb265, 1, none⟩ = some (.string a1_1) := (blk_cell BK265.out 1).trans rfl; have hcz10_2 : w7.cell? ⟨gb265, 2, none⟩ = some (.bool a1_2) := (blk_cell BK265.out 2).trans rfl; have hfz10_0 := blk_frozen BK265.out 0; have hfz10_1 := blk_frozen BK265.out 1; have hfz10_2 := blk_frozen BK265.out 2))
    go_ret
    exact ⟨by first | rfl | (simp [errW_none, errW_some] <;> rfl) | (simp [*, errW_none, errW_some] <;> rfl), by repeat (first | (with_reducible first | exact HB.out | apply below_alloc | apply pw_below_drewN | apply below_drew1 | refine below_set ?_ GE264.out | refine below_set ?_ GE265.out) | exact HB.out)⟩
   ·rw [if_neg c5] at H
    have c5b0 : (a0_2 != a1_2) = false := by simpa using c5
    (try (have c5b1 : decide (a0_2 = a1_2) = true := by simpa using c5))
    (try (have c5b2 : (a0_2 == a1_2) = true := by simpa using c5))
    clear c5
    obtain rfl := Option.some.inj H
    go_enter Tryd.func28, Tryd.ntmps28
    go_wp2_with (first | ((with_reducible refine gate_dst (N := 2) rfl ?_); refine box_event ?hg (N := 2) ?hd (cs := #[.string a0_0, .string a0_1, .bool a0_2]) (t := 48) ?hr ?_; (case hd => rfl); (case hg => rfl); (case hr => first | (go_simp; done) | (go_simp; rfl)); intro gb264 hg w11 hbox hb; have n0_ := Aside0.mk (below_step (by repeat (first | (with_reducible first | exact HB.out | apply below_alloc | apply pw_below_drewN | apply below_drew1) | exact HB.out)) hb); have n1_ := Aside0.mk (hbox); have n2_ := Aside0.mk ((by rw [hg]; exact (below_size (by repeat (first | (with_reducible first | exact HB.out | apply below_alloc | apply pw_below_drewN | apply below_drew1) | exact HB.out))) : w.heap.size ≤ gb264)); have n3_ := Aside0.mk ((by rw [hg]; exact (below_size (by repeat (first | (with_reducible first | exact HB.out | apply below_alloc | apply pw_below_drewN | apply below_drew1) | exact HB.out))) : w.heap.size ≤ gb264)); clear HB; have HB := n0_; have BK264 := n1_; have GW264 := n2_; have GE264 := n3_; clear n0_ n1_ n2_ n3_; clear hb hbox hg) | ((with_reducible refine gate_dst (N := 3) rfl ?_); refine box_event ?hg (N := 3) ?hd (cs := #[.string a1_0, .string a1_1, .bool a1_2]) (t := 48) ?hr ?_; (case hd => rfl); (case hg => rfl); (case hr => first | (go_simp; done) | (go_simp; rfl)); intro gb265 hg w12 hbox hb; have n0_ := Aside0.mk (blk_below (g := gb264) (o := .cells #[.string a0_0, .string a0_1, .bool a0_2] 48 (0, 0)) (by (with_reducible repeat (first | refine blk_drewN ?_ _ | refine blk_drew ?_ | refine blk_alloc ?_ _)); exact BK264.out) hb); have n1_ := Aside0.mk (below_step (by repeat (first | (with_reducible first | exact HB.out | apply below_alloc | apply pw_below_drewN | apply below_drew1 | refine below_set ?_ GE264.out) | exact HB.out)) hb); have n2_ := Aside0.mk (hbox); have n3_ := Aside0.mk ((by rw [hg]; exact (below_size (by repeat (first | (with_reducible first | exact HB.out | apply below_alloc | apply pw_below_drewN | apply below_drew1 | refine below_set ?_ GE264.out) | exact HB.out))) : w.heap.size ≤ gb265)); have n4_ := Aside0.mk ((by rw [hg]; exact (below_size (by repeat (first | (with_reducible first | exact HB.out | apply below_alloc | apply pw_below_drewN | apply below_drew1 | refine below_set ?_ GE264.out) | exact HB.out))) : w.heap.size ≤ gb265)); have n5_ := Aside0.mk ((by rw [hg]; exact Nat.ne_of_lt (blk_lt (g := gb264) (o := .cells #[.string a0_0, .string a0_1, .bool a0_2] 48 (0, 0)) (by (with_reducible repeat (first | refine blk_drewN ?_ _ | refine blk_drew ?_ | refine blk_alloc ?_ _)); exact BK264.out)) : gb264 ≠ gb265)); have n6_ := Aside0.mk ((by rw [hg]; exact Nat.ne_of_gt (blk_lt (g := gb264) (o := .cells #[.string a0_0, .string a0_1, .bool a0_2] 48 (0, 0)) (by (with_reducible repeat (first | refine blk_drewN ?_ _ | refine blk_drew ?_ | refine blk_alloc ?_ _)); exact BK264.out)) : gb265 ≠ gb264)); clear BK264; clear HB; have BK264 := n0_; have HB := n1_; have BK265 := n2_; have GW265 := n3_; have GE265 := n4_; have NB264_265 := n5_; have NB265_264 := n6_; clear n0_ n1_ n2_ n3_ n4_ n5_ n6_; clear hb hbox hg; have hnb13 := NB264_265.out; have hnc13 := NB265_264.out; have hcz14_0 : w12.cell? ⟨gb264, 0, none⟩ = some (.string a0_0) := (blk_cell BK264.out 0).trans rfl; have hcz14_1 : w12.cell? ⟨gb264, 1, none⟩ = some (.string a0_1) := (blk_cell BK264.out 1).trans rfl; have hcz14_2 : w12.cell? ⟨gb264, 2, none⟩ = some (.bool a0_2) := (blk_cell BK264.out 2).trans rfl; have hfz14_0 := blk_frozen BK264.out 0; have hfz14_1 := blk_frozen BK264.out 1; have hfz14_2 := blk_frozen BK264.out 2; have hcz15_0 : w12.cell? ⟨gb265, 0, none⟩ = some (.string a1_0) := (blk_cell BK265.out 0).trans rfl; have hcz15_1 : w12.cell? ⟨gb265, 1, none⟩ = some (.string a1_1) := (blk_cell BK265.out 1).trans rfl; have hcz15_2 : w12.cell? ⟨gb265, 2, none⟩ = some (.bool a1_2) := (blk_cell BK265.out 2).trans rfl; have hfz15_0 := blk_frozen BK265.out 0; have hfz15_1 := blk_frozen BK265.out 1; have hfz15_2 := blk_frozen BK265.out 2))
    go_ret
    exact ⟨by first | rfl | (simp [errW_none, errW_some] <;> rfl) | (simp [*, errW_none, errW_some] <;> rfl), by repeat (first | (with_reducible first | exact HB.out | apply below_alloc | apply pw_below_drewN | apply below_drew1 | refine below_set ?_ GE264.out | refine below_set ?_ GE265.out) | exact HB.out)⟩
  ·rw [if_neg c4] at H
   have c4b0 : (a0_1.toList == a1_1.toList) = false := beq_eq_false_iff_ne.mpr c4
   have c4b1 : (a0_1.toList != a1_1.toList) = true := bne_iff_ne.mpr c4
   obtain rfl := Option.some.inj H
   go_enter Tryd.func28, Tryd.ntmps28
   go_wp2_with (first | ((with_reducible refine gate_dst (N := 2) rfl ?_); refine box_event ?hg (N := 2) ?hd (cs := #[.string a0_0, .string a0_1, .bool a0_2]) (t := 48) ?hr ?_; (case hd => rfl); (case hg => rfl); (case hr => first | (go_simp; done) | (go_simp; rfl)); intro gb264 hg w16 hbox hb; have n0_ := Aside0.mk (below_step (by repeat (first | (with_reducible first | exact HB.out | apply below_alloc | apply pw_below_drewN | apply below_drew1) | exact HB.out)) hb); have n1_ := Aside0.mk (hbox); have n2_ := Aside0.mk ((by rw [hg]; exact (below_size (by repeat (first | (with_reducible first | exact HB.out | apply below_alloc | apply pw_below_drewN | apply below_drew1) | exact HB.out))) : w.heap.size ≤ gb264)); have n3_ := Aside0.mk ((by rw [hg]; exact (below_size (by repeat (first | (with_reducible first | exact HB.out | apply below_alloc | apply pw_below_drewN | apply below_drew1) | exact HB.out))) : w.heap.size ≤ gb264)); clear HB; have HB := n0_; have BK264 := n1_; have GW264 := n2_; have GE264 := n3_; clear n0_ n1_ n2_ n3_; clear hb hbox hg) | ((with_reducible refine gate_dst (N := 3) rfl ?_); refine box_event ?hg (N := 3) ?hd (cs := #[.string a1_0, .string a1_1, .bool a1_2]) (t := 48) ?hr ?_; (case hd => rfl); (case hg => rfl); (case hr => first | (go_simp; done) | (go_simp; rfl)); intro gb265 hg w17 hbox hb; have n0_ := Aside0.mk (blk_below (g := gb264) (o := .cells #[.string a0_0, .string a0_1, .bool a0_2] 48 (0, 0)) (by (with_reducible repeat (first | refine blk_drewN ?_ _ | refine blk_drew ?_ | refine blk_alloc ?_ _)); exact BK264.out) hb); have n1_ := Aside0.mk (below_step (by repeat (first | (with_reducible first | exact HB.out | apply below_alloc | apply pw_below_drewN | apply below_drew1 | refine below_set ?_ GE264.out) | exact HB.out)) hb); have n2_ := Aside0.mk (hbox); have n3_ := Aside0.mk ((by rw [hg]; exact (below_size (by repeat (first | (with_reducible first | exact HB.out | apply below_alloc | apply pw_below_drewN | apply below_drew1 | refine below_set ?_ GE264.out) | exact HB.out))) : w.heap.size ≤ gb265)); have n4_ := Aside0.mk ((by rw [hg]; exact (below_size (by repeat (first | (with_reducible first | exact HB.out | apply below_alloc | apply pw_below_drewN | apply below_drew1 | refine below_set ?_ GE264.out) | exact HB.out))) : w.heap.size ≤ gb265)); have n5_ := Aside0.mk ((by rw [hg]; exact Nat.ne_of_lt (blk_lt (g := gb264) (o := .cells #[.string a0_0, .string a0_1, .bool a0_2] 48 (0, 0)) (by (with_reducible repeat (first | refine blk_drewN ?_ _ | refine blk_drew ?_ | refine blk_alloc ?_ _)); exact BK264.out)) : gb264 ≠ gb265)); have n6_ := Aside0.mk ((by rw [hg]; exact Nat.ne_of_gt (blk_lt (g := gb264) (o := .cells #[.string a0_0, .string a0_1, .bool a0_2] 48 (0, 0)) (by (with_reducible repeat (first | refine blk_drewN ?_ _ | refine blk_drew ?_ | refine blk_alloc ?_ _)); exact BK264.out)) : gb265 ≠ gb264)); clear BK264; clear HB; have BK264 := n0_; have HB := n1_; have BK265 := n2_; have GW265 := n3_; have GE265 := n4_; have NB264_265 := n5_; have NB265_264 := n6_; clear n0_ n1_ n2_ n3_ n4_ n5_ n6_; clear hb hbox hg; have hnb18 := NB264_265.out; have hnc18 := NB265_264.out; have hcz19_0 : w17.cell? ⟨gb264, 0, none⟩ = some (.string a0_0) := (blk_cell BK264.out 0).trans rfl; have hcz19_1 : w17.cell? ⟨gb264, 1, none⟩ = some (.string a0_1) := (blk_cell BK264.out 1).trans rfl; have hcz19_2 : w17.cell? ⟨gb264, 2, none⟩ = some (.bool a0_2) := (blk_cell BK264.out 2).trans rfl; have hfz19_0 := blk_frozen BK264.out 0; have hfz19_1 := blk_frozen BK264.out 1; have hfz19_2 := blk_frozen BK264.out 2; have hcz20_0 : w17.cell? ⟨gb265, 0, none⟩ = some (.string a1_0) := (blk_cell BK265.out 0).trans rfl; have hcz20_1 : w17.cell? ⟨gb265, 1, none⟩ = some (.string a1_1) := (blk_cell BK265.out 1).trans rfl; have hcz20_2 : w17.cell? ⟨gb265, 2, none⟩ = some (.bool a1_2) := (blk_cell BK265.out 2).trans rfl; have hfz20_0 := blk_frozen BK265.out 0; have hfz20_1 := blk_frozen BK265.out 1; have hfz20_2 := blk_frozen BK265.out 2))
   go_ret
   exact ⟨by first | rfl | (simp [errW_none, errW_some] <;> rfl) | (simp [*, errW_none, errW_some] <;> rfl), by repeat (first | (with_reducible first | exact HB.out | apply below_alloc | apply pw_below_drewN | apply below_drew1 | refine below_set ?_ GE264.out | refine below_set ?_ GE265.out) | exact HB.out)⟩
 ·rw [if_neg c3] at H
  have c3b0 : (a0_0.toList == a1_0.toList) = false := beq_eq_false_iff_ne.mpr c3
  have c3b1 : (a0_0.toList != a1_0.toList) = true := bne_iff_ne.mpr c3
  obtain rfl := Option.some.inj H
  go_enter Tryd.func28, Tryd.ntmps28
  go_wp2_with (first | ((with_reducible refine gate_dst (N := 2) rfl ?_); refine box_event ?hg (N := 2) ?hd (cs := #[.string a0_0, .string a0_1, .bool a0_2]) (t := 48) ?hr ?_; (case hd => rfl); (case hg => rfl); (case hr => first | (go_simp; done) | (go_simp; rfl)); intro gb264 hg w21 hbox hb; have n0_ := Aside0.mk (below_step (by repeat (first | (with_reducible first | exact HB.out | apply below_alloc | apply pw_below_drewN | apply below_drew1) | exact HB.out)) hb); have n1_ := Aside0.mk (hbox); have n2_ := Aside0.mk ((by rw [hg]; exact (below_size (by repeat (first | (with_reducible first | exact HB.out | apply below_alloc | apply pw_below_drewN | apply below_drew1) | exact HB.out))) : w.heap.size ≤ gb264)); have n3_ := Aside0.mk ((by rw [hg]; exact (below_size (by repeat (first | (with_reducible first | exact HB.out | apply below_alloc | apply pw_below_drewN | apply below_drew1) | exact HB.out))) : w.heap.size ≤ gb264)); clear HB; have HB := n0_; have BK264 := n1_; have GW264 := n2_; have GE264 := n3_; clear n0_ n1_ n2_ n3_; clear hb hbox hg) | ((with_reducible refine gate_dst (N := 3) rfl ?_); refine box_event ?hg (N := 3) ?hd (cs := #[.string a1_0, .string a1_1, .bool a1_2]) (t := 48) ?hr ?_; (case hd => rfl); (case hg => rfl); (case hr => first | (go_simp; done) | (go_simp; rfl)); intro gb265 hg w22 hbox hb; have n0_ := Aside0.mk (blk_below (g := gb264) (o := .cells #[.string a0_0, .string a0_1, .bool a0_2] 48 (0, 0)) (by (with_reducible repeat (first | refine blk_drewN ?_ _ | refine blk_drew ?_ | refine blk_alloc ?_ _)); exact BK264.out) hb); have n1_ := Aside0.mk (below_step (by repeat (first | (with_reducible first | exact HB.out | apply below_alloc | apply pw_below_drewN | apply below_drew1 | refine below_set ?_ GE264.out) | exact HB.out)) hb); have n2_ := Aside0.mk (hbox); have n3_ := Aside0.mk ((by rw [hg]; exact (below_size (by repeat (first | (with_reducible first | exact HB.out | apply below_alloc | apply pw_below_drewN | apply below_drew1 | refine below_set ?_ GE264.out) | exact HB.out))) : w.heap.size ≤ gb265)); have n4_ := Aside0.mk ((by rw [hg]; exact (below_size (by repeat (first | (with_reducible first | exact HB.out | apply below_alloc | apply pw_below_drewN | apply below_drew1 | refine below_set ?_ GE264.out) | exact HB.out))) : w.heap.size ≤ gb265)); have n5_ := Aside0.mk ((by rw [hg]; exact Nat.ne_of_lt (blk_lt (g := gb264) (o := .cells #[.string a0_0, .string a0_1, .bool a0_2] 48 (0, 0)) (by (with_reducible repeat (first | refine blk_drewN ?_ _ | refine blk_drew ?_ | refine blk_alloc ?_ _)); exact BK264.out)) : gb264 ≠ gb265)); have n6_ := Aside0.mk ((by rw [hg]; exact Nat.ne_of_gt (blk_lt (g := gb264) (o := .cells #[.string a0_0, .string a0_1, .bool a0_2] 48 (0, 0)) (by (with_reducible repeat (first | refine blk_drewN ?_ _ | refine blk_drew ?_ | refine blk_alloc ?_ _)); exact BK264.out)) : gb265 ≠ gb264)); clear BK264; clear HB; have BK264 := n0_; have HB := n1_; have BK265 := n2_; have GW265 := n3_; have GE265 := n4_; have NB264_265 := n5_; have NB265_264 := n6_; clear n0_ n1_ n2_ n3_ n4_ n5_ n6_; clear hb hbox hg; have hnb23 := NB264_265.out; have hnc23 := NB265_264.out; have hcz24_0 : w22.cell? ⟨gb264, 0, none⟩ = some (.string a0_0) := (blk_cell BK264.out 0).trans rfl; have hcz24_1 : w22.cell? ⟨gb264, 1, none⟩ = some (.string a0_1) := (blk_cell BK264.out 1).trans rfl; have hcz24_2 : w22.cell? ⟨gb264, 2, none⟩ = some (.bool a0_2) := (blk_cell BK264.out 2).trans rfl; have hfz24_0 := blk_frozen BK264.out 0; have hfz24_1 := blk_frozen BK264.out 1; have hfz24_2 := blk_frozen BK264.out 2; have hcz25_0 : w22.cell? ⟨gb265, 0, none⟩ = some (.string a1_0) := (blk_cell BK265.out 0).trans rfl; have hcz25_1 : w22.cell? ⟨gb265, 1, none⟩ = some (.string a1_1) := (blk_cell BK265.out 1).trans rfl; have hcz25_2 : w22.cell? ⟨gb265, 2, none⟩ = some (.bool a1_2) := (blk_cell BK265.out 2).trans rfl; have hfz25_0 := blk_frozen BK265.out 0; have hfz25_1 := blk_frozen BK265.out 1; have hfz25_2 := blk_frozen BK265.out 2))
  go_ret
  exact ⟨by first | rfl | (simp [errW_none, errW_some] <;> rfl) | (simp [*, errW_none, errW_some] <;> rfl), by repeat (first | (with_reducible first | exact HB.out | apply below_alloc | apply pw_below_drewN | apply below_drew1 | refine below_set ?_ GE264.out | refine below_set ?_ GE265.out) | exact HB.out)⟩

end Go.Proofs.YtganmdnieihpeaaDoor.PFnExactSheetText
