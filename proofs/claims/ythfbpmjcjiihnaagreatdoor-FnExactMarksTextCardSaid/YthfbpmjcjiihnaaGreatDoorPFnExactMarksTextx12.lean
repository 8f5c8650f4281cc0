-- Laid by a program of this session out of the translation (its own run of the print). Lean checks it.
import Derived.Test.YthfbpmjcjiihnaaGreatDoorPFnExactMarksTextx0
import Derived.Test.YthfbpmjcjiihnaaGreatDoorPFnExactMarksTextx7
import Derived.Test.YthfbpmjcjiihnaaGreatDoorPFnExactMarksTextx9
import Derived.Test.YthfbpmjcjiihnaaGreatDoorPFnExactMarksTextx11
namespace Go.Proofs.YthfbpmjcjiihnaaGreatDoor.PFnExactMarksText
open Go.RowKit Go.Proofs.YthfbpmjcjiihnaaGreatDoorW.PrintWords Go.Proofs.YthfbpmjcjiihnaaGreatDoorW.PrintLast Go.Proofs.YthfbpmjcjiihnaaGreatDoorW.PrintMore
attribute [local go_sem] max2_int min2_int max_two min_two max_three min_three max_four min_four   -- for this text's walks alone
set_option linter.unusedVariables false
set_option linter.unusedSimpArgs false

/-! ### impl_childrenOf: function 30 -/
def impl_childrenOf.l0 : Nat → Int → List Int → List (S38) → Int → Int → Option (List Int)
 | 0, _, _, _, _, _ => none
 | k + 1, x1, x5, x9, x10, x11 => if x11 < x10 then (if 0 ≤ x11 then (if x11 < (x9.length : Int) then (if ((rd_T38 x9 x11).f1) = x1 then (if x5.length < 17592186044416 then (impl_childrenOf.l0 k x1 (x5 ++ [x11]) x9 x10 (wrap64 (x11 + 1))) else (none)) else (impl_childrenOf.l0 k x1 x5 x9 x10 (wrap64 (x11 + 1)))) else (none)) else (none)) else (some x5)
def impl_childrenOf.f (k : Nat) (l0 : List (S38)) (a1 : Int) : Option (List Int) := impl_childrenOf.l0 k a1 (([] : List Int)) l0 (l0.length : Int) 0
set_option maxHeartbeats 8000000 in
set_option maxRecDepth 100000 in
theorem impl_childrenOf.calls (k : Nat) (A0 : Option Addr) (c0 : Nat) (l0 : List (S38)) (a1 : Int) (r : List Int) (w : World) (hr0 : Kd.C k38 w A0 l0.length l0) (hc0 : l0.length ≤ c0) (h : impl_childrenOf.f k l0 a1 = some r) :
  Calls Tryz.prog 30 #[.slice A0 l0.length c0, .int .i64 a1] w fun e w' => ∃ v0_ : Value, e = .returned (v0_) ∧ Kd.R (Kd.int .i64) 3 w' w.heap.size (fun _ => True) v0_ r ∧ Below w.heap.size w w' := by
 have hu38 := Tryz.underlying38
 have HR0 := Aside0.mk hr0
 have HC0 := Aside0.mk hc0
 clear hr0 hc0
 have HB := Aside0.mk (Below.refl w.heap.size w)
 have H : (impl_childrenOf.l0 k a1 (([] : List Int)) l0 (l0.length : Int) 0) = some r := h
 clear h
 obtain ⟨y232, hy232⟩ : ∃ y_ : List Int, y_ = (([] : List Int)) := ⟨_, rfl⟩
 replace H : (impl_childrenOf.l0 k a1 y232 l0 (l0.length : Int) 0) = some r := by first | (rw [hy232]; with_reducible exact H) | (have H2_ := (Option.bind_some _ _).symm.trans H; rw [hy232]; with_reducible exact H2_) | (have H2_ := (Option.bind_some _ _).symm.trans H; with_reducible exact H2_) | with_reducible exact H | (rw [hy232]; exact H) | exact H
 have Ny232 := Aside0.mk hy232
 clear hy232
 have H' := Aside0.mk H
 clear H
 go_enter Tryz.func30, Tryz.ntmps30
 go_wp2_with (first | ((with_reducible refine gate_dst (N := 8) rfl ?_); refine Kd.R_lit (Kd.int .i64) _ 3 ?hg (N := 8) ?hd (xs := ([] : List Int)) (inner := []) (ok := fun _ => True) (okp := fun _ => True) ?hr ?hp (fun _ hk => hk) trivial (Below.refl _ _) (Nat.le_refl _) (by simp) ?_; (case hd => rfl); (case hg => rfl); (case hr => first | (go_simp; done) | (go_simp; rfl)); (case hp => exact (Reps.none _ _)); intro v233 w3 ho4 hb hg_ hnew_; clear hg_ hnew_; (first | rw [← Ny232.out] at ho4 | (simp only [Int.reduceToNat] at ho4; rw [← Ny232.out] at ho4)); have n0_ := Aside0.mk (Kd.R_lower ho4 (below_size bel_)); have n1_ := Aside0.mk (below_step bel_ hb); clear HB; have HO234 := n0_; have HB := n1_; clear n0_ n1_; clear hb ho4))
 go_loopg [5, 11] k (fun kq v5 v11 w' => ∃ (x5_1 : List Int) (x11_1 : Int), v11 = .int .i64 x11_1 ∧ Aside0 (impl_childrenOf.l0 kq a1 x5_1 l0 (l0.length : Int) x11_1 = some r) ∧ Aside0 (kq ≤ k) ∧ Aside0 (Kd.R (Kd.int .i64) 3 w' w.heap.size (fun _ => True) v5 x5_1) ∧ Aside0 (Below w.heap.size w w'))
 case atStart => exact ⟨(y232), (0), sv_, H', ⟨Nat.le_refl _⟩, ⟨by (with_reducible repeat (first | apply Kd.R_alloc | apply Kd.R_drewN | apply Kd.R_drew)); exact HO234.out⟩, ⟨bel_⟩⟩
 case round =>
  clear H'
  (try clear p2);(try clear c3)
  obtain ⟨x5_1, x11_1, rfl, HA, HK1, HO_5, HB⟩ := hrel
  cases gk with
  | zero => exact absurd HA.out (by simp [impl_childrenOf.l0])
  | succ k1 =>
   have H := HA.out
   clear HA
   simp only [impl_childrenOf.l0] at H
   by_cases c5 : x11_1 < (l0.length : Int)
   ·rw [if_pos c5] at H
    have c5b0 : decide (x11_1 < (l0.length : Int)) = true := decide_eq_true c5
    clear c5
    by_cases c6 : 0 ≤ x11_1
    ·rw [if_pos c6] at H
     have c6b0 : decide (0 ≤ x11_1) = true := decide_eq_true c6
     clear c6
     by_cases c7 : x11_1 < (l0.length : Int)
     ·rw [if_pos c7] at H
      have c7b0 : decide (x11_1 < (l0.length : Int)) = true := decide_eq_true c7
      clear c7
      by_cases c8 : ((rd_T38 l0 x11_1).f1) = a1
      ·rw [if_pos c8] at H
       have c8b0 : (((rd_T38 l0 x11_1).f1) == a1) = true := beq_iff_eq.mpr c8
       have c8b1 : (((rd_T38 l0 x11_1).f1) != a1) = false := bne_eq_false_iff_eq.mpr c8
       clear c8
       by_cases c9 : x5_1.length < 17592186044416
       ·rw [if_pos c9] at H
        have LMc9 := Aside0.mk c9
        clear c9
        obtain ⟨y237, hy237⟩ : ∃ y_ : List Int, y_ = (x5_1 ++ [x11_1]) := ⟨_, rfl⟩
        replace H : (impl_childrenOf.l0 k1 a1 y237 l0 (l0.length : Int) (wrap64 (x11_1 + 1))) = some r := by first | (rw [hy237]; with_reducible exact H) | (have H2_ := (Option.bind_some _ _).symm.trans H; rw [hy237]; with_reducible exact H2_) | (have H2_ := (Option.bind_some _ _).symm.trans H; with_reducible exact H2_) | with_reducible exact H | (rw [hy237]; exact H) | exact H
        have Ny237 := Aside0.mk hy237
        clear hy237
        have H' := Aside0.mk H
        clear H
        have p235 : 0 ≤ (x11_1 : Int) := of_decide_eq_true am_
        have q235 : x11_1 < (l0.length : Int) := of_decide_eq_true am_
        obtain ⟨ad235, A235_2, c235_2, e235, hx235_0, hx235_1, hx235_2, hx235_3, hl235_2, hi235_2⟩ := at_T38 HR0.out x11_1 p235 q235
        cases e235
        replace hx235_0 := pw_cell_below HB.out hx235_0
        replace hx235_1 := pw_cell_below HB.out hx235_1
        replace hx235_2 := pw_cell_below HB.out hx235_2
        replace hx235_3 := pw_cell_below HB.out hx235_3
        have HR235_2 := Aside0.mk hi235_2
        have HC235_2 := Aside0.mk hl235_2
        clear hi235_2 hl235_2
        replace p235 := eq_true p235
        replace q235 := eq_true q235
        go_wp2_with (first | ((with_reducible refine gate_dst (N := 7) rfl ?_); refine box_event ?hg (N := 7) ?hd (cs := #[.string (⟨#[]⟩ : ByteArray), .int .i64 0, .slice none 0 0, .string (⟨#[]⟩ : ByteArray)]) (t := 38) ?hr ?_; (case hd => rfl); (case hg => rfl); (case hr => first | (go_simp; done) | (go_simp; rfl)); intro gb236 hg w10 hbox hb; have n0_ := Aside0.mk (Kd.R_below (kdR_ HO_5.out) hb); have n1_ := Aside0.mk (below_step bel_ hb); have n2_ := Aside0.mk (hbox); have n3_ := Aside0.mk ((by rw [hg]; exact (below_size bel_) : w.heap.size ≤ gb236)); have n4_ := Aside0.mk ((by rw [hg]; exact (below_size bel_) : w.heap.size ≤ gb236)); clear HO_5; clear HB; have HO_5 := n0_; have HB := n1_; have BK236 := n2_; have GW236 := n3_; have GE236 := n4_; clear n0_ n1_ n2_ n3_ n4_; clear hb hbox hg; have hcz11_0 := bc4_0 BK236.out; have hcz11_1 := bc4_1 BK236.out; have hcz11_2 := bc4_2 BK236.out; have hcz11_3 := bc4_3 BK236.out; have hfz11_0 := blk_frozen BK236.out 0; have hfz11_1 := blk_frozen BK236.out 1; have hfz11_2 := blk_frozen BK236.out 2; have hfz11_3 := blk_frozen BK236.out 3) | ((with_reducible refine gate_builtin (b := .append) (xs := #[.tmp 20, .tmp 22]) rfl ?_); at_builtin; refine Kd.R_append (Kd.int .i64) (w0 := w) w.heap.size rfl (.tmp 20) (.tmp 22) 51 3 (.int .i64 0) 8 rfl Tryz.underlying51 info3 rfl (by decide) (by omega) u5 x5_1 x11_1 [.int .i64 x11_1] (fun _ => True) (fun _ => False) rfl (by first | (go_simp; done) | (go_simp; rfl)) ?aP (fun _ hk => hk.elim) ?aF ?aO ?aB ?aS ?aL ?_; (case aP => exact rfl); (case aB => exact bes_); (case aF => exact (fun _ _ => trivial)); (case aO => exact (by (with_reducible repeat (first | apply Kd.R_alloc | apply Kd.R_drewN | apply Kd.R_drew)); exact Kd.R_mono (Kd.R_far (p := ⟨gb236, 3, none⟩) (Kd.R_far (p := ⟨gb236, 2, none⟩) (Kd.R_far (p := ⟨gb236, 1, none⟩) (Kd.R_far (p := ⟨gb236, 0, none⟩) (Kd.R_types HO_5.out BK236.out (by decide)) (fun _ hk => hk.2) (.string ((rd_T38 l0 x11_1).f0))) (fun _ hk => hk.2) (.int .i64 ((rd_T38 l0 x11_1).f1))) (fun _ hk => hk.2) (.slice A235_2 ((rd_T38 l0 x11_1).f2).length c235_2)) (fun _ hk => hk.2) (.string ((rd_T38 l0 x11_1).f3))) (fun _ hk => trivial))); (case aS => exact (below_size bes_)); (case aL => have := LMc9.out; omega); intro v238 w12 ho hb hg hat; rw [← Ny237.out] at ho; have n0_ := Aside0.mk (blk_grown (g := gb236) (o := .cells #[.string ((rd_T38 l0 x11_1).f0), .int .i64 ((rd_T38 l0 x11_1).f1), .slice A235_2 ((rd_T38 l0 x11_1).f2).length c235_2, .string ((rd_T38 l0 x11_1).f3)] 38 (0, 0)) (by (with_reducible repeat (first | refine blk_drewN ?_ _ | refine blk_drew ?_ | refine blk_alloc ?_ _)); refine blk_put (cs := #[.string ((rd_T38 l0 x11_1).f0), .int .i64 ((rd_T38 l0 x11_1).f1), .slice A235_2 ((rd_T38 l0 x11_1).f2).length c235_2, .string (⟨#[]⟩ : ByteArray)]) ?_ 3 _ rfl; (with_reducible repeat (first | refine blk_drewN ?_ _ | refine blk_drew ?_ | refine blk_alloc ?_ _)); refine blk_put (cs := #[.string ((rd_T38 l0 x11_1).f0), .int .i64 ((rd_T38 l0 x11_1).f1), .slice none 0 0, .string (⟨#[]⟩ : ByteArray)]) ?_ 2 _ rfl; (with_reducible repeat (first | refine blk_drewN ?_ _ | refine blk_drew ?_ | refine blk_alloc ?_ _)); refine blk_put (cs := #[.string ((rd_T38 l0 x11_1).f0), .int .i64 0, .slice none 0 0, .string (⟨#[]⟩ : ByteArray)]) ?_ 1 _ rfl; (with_reducible repeat (first | refine blk_drewN ?_ _ | refine blk_drew ?_ | refine blk_alloc ?_ _)); refine blk_put (cs := #[.string (⟨#[]⟩ : ByteArray), .int .i64 0, .slice none 0 0, .string (⟨#[]⟩ : ByteArray)]) ?_ 0 _ rfl; (with_reducible repeat (first | refine blk_drewN ?_ _ | refine blk_drew ?_ | refine blk_alloc ?_ _)); exact BK236.out) hg (Kd.R_ne HO_5.out BK236.out (by decide))); have n1_ := Aside0.mk (hb); have n2_ := Aside0.mk (ho); clear BK236; clear HB; clear HO_5; have BK236 := n0_; have HB := n1_; have HO239 := n2_; clear n0_ n1_ n2_; clear ho hb hg hat))
        go_roundg k1
        case measure => have := HK1.out; omega
        case rel => exact ⟨(y237), (wrap64 (x11_1 + 1)), sv_, H', ⟨by have := HK1.out; omega⟩, ⟨by (with_reducible repeat (first | apply Kd.R_alloc | apply Kd.R_drewN | apply Kd.R_drew)); exact HO239.out⟩, ⟨bes_⟩⟩
       ·rw [if_neg c9] at H
        exact absurd H (by simp)
      ·rw [if_neg c8] at H
       have c8b0 : (((rd_T38 l0 x11_1).f1) == a1) = false := beq_eq_false_iff_ne.mpr c8
       have c8b1 : (((rd_T38 l0 x11_1).f1) != a1) = true := bne_iff_ne.mpr c8
       have H' := Aside0.mk H
       clear H
       have p235 : 0 ≤ (x11_1 : Int) := of_decide_eq_true am_
       have q235 : x11_1 < (l0.length : Int) := of_decide_eq_true am_
       obtain ⟨ad235, A235_2, c235_2, e235, hx235_0, hx235_1, hx235_2, hx235_3, hl235_2, hi235_2⟩ := at_T38 HR0.out x11_1 p235 q235
       cases e235
       replace hx235_0 := pw_cell_below HB.out hx235_0
       replace hx235_1 := pw_cell_below HB.out hx235_1
       replace hx235_2 := pw_cell_below HB.out hx235_2
       replace hx235_3 := pw_cell_below HB.out hx235_3
       have HR235_2 := Aside0.mk hi235_2
       have HC235_2 := Aside0.mk hl235_2
       clear hi235_2 hl235_2
       replace p235 := eq_true p235
       replace q235 := eq_true q235
       go_wp2_with (first | ((with_reducible refine gate_dst (N := 7) rfl ?_); refine box_event ?hg (N := 7) ?hd (cs := #[.string (⟨#[]⟩ : ByteArray), .int .i64 0, .slice none 0 0, .string (⟨#[]⟩ : ByteArray)]) (t := 38) ?hr ?_; (case hd => rfl); (case hg => rfl); (case hr => first | (go_simp; done) | (go_simp; rfl)); intro gb236 hg w13 hbox hb; have n0_ := Aside0.mk (Kd.R_below (kdR_ HO_5.out) hb); have n1_ := Aside0.mk (below_step bel_ hb); have n2_ := Aside0.mk (hbox); have n3_ := Aside0.mk ((by rw [hg]; exact (below_size bel_) : w.heap.size ≤ gb236)); have n4_ := Aside0.mk ((by rw [hg]; exact (below_size bel_) : w.heap.size ≤ gb236)); clear HO_5; clear HB; have HO_5 := n0_; have HB := n1_; have BK236 := n2_; have GW236 := n3_; have GE236 := n4_; clear n0_ n1_ n2_ n3_ n4_; clear hb hbox hg; have hcz14_0 := bc4_0 BK236.out; have hcz14_1 := bc4_1 BK236.out; have hcz14_2 := bc4_2 BK236.out; have hcz14_3 := bc4_3 BK236.out; have hfz14_0 := blk_frozen BK236.out 0; have hfz14_1 := blk_frozen BK236.out 1; have hfz14_2 := blk_frozen BK236.out 2; have hfz14_3 := blk_frozen BK236.out 3))
       go_roundg k1
       case measure => have := HK1.out; omega
       case rel => exact ⟨(x5_1), (wrap64 (x11_1 + 1)), sv_, H', ⟨by have := HK1.out; omega⟩, ⟨by (with_reducible repeat (first | apply Kd.R_alloc | apply Kd.R_drewN | apply Kd.R_drew)); exact Kd.R_mono (Kd.R_far (p := ⟨gb236, 3, none⟩) (Kd.R_far (p := ⟨gb236, 2, none⟩) (Kd.R_far (p := ⟨gb236, 1, none⟩) (Kd.R_far (p := ⟨gb236, 0, none⟩) (Kd.R_types HO_5.out BK236.out (by decide)) (fun _ hk => hk.2) (.string ((rd_T38 l0 x11_1).f0))) (fun _ hk => hk.2) (.int .i64 ((rd_T38 l0 x11_1).f1))) (fun _ hk => hk.2) (.slice A235_2 ((rd_T38 l0 x11_1).f2).length c235_2)) (fun _ hk => hk.2) (.string ((rd_T38 l0 x11_1).f3))) (fun _ hk => trivial)⟩, ⟨bes_⟩⟩
     ·rw [if_neg c7] at H
      exact absurd H (by simp)
    ·rw [if_neg c6] at H
     exact absurd H (by simp)
   ·rw [if_neg c5] at H
    have c5b0 : decide (x11_1 < (l0.length : Int)) = false := decide_eq_false c5
    clear c5
    obtain rfl := Option.some.inj H
    go_wp2
    go_ret
    exact ⟨_, er_, by (with_reducible repeat (first | apply Kd.R_alloc | apply Kd.R_drewN | apply Kd.R_drew)); exact HO_5.out, bel_⟩

/-! ### impl_textOf: function 14 -/
mutual
def impl_textOf.l0 : Nat → List (S38) → Int → ByteArray → List (S49) → Int → Int → ByteArray → Int → List (S49) → ByteArray → Option (ByteArray)
 | 0, _, _, _, _, _, _, _, _, _, _ => none
 | k + 1, x0, x1, x6, x26, x27, x28, x242000, x242001, x242002, x242003 => if x28 < x27 then (if 0 ≤ x28 then (if x28 < (x26.length : Int) then (if 1 + ((rd_T49 x26 x28).f0).size ≤ 9223372036854775807 then (if ((⟨#[32]⟩ : ByteArray) ++ ((rd_T49 x26 x28).f0)).size + 2 ≤ 9223372036854775807 then ((impl_escaped.f ((rd_T49 x26 x28).f1)).bind fun t245 => (if (((⟨#[32]⟩ : ByteArray) ++ ((rd_T49 x26 x28).f0)) ++ (⟨#[61, 34]⟩ : ByteArray)).size + t245.size ≤ 9223372036854775807 then (if ((((⟨#[32]⟩ : ByteArray) ++ ((rd_T49 x26 x28).f0)) ++ (⟨#[61, 34]⟩ : ByteArray)) ++ t245).size + 1 ≤ 9223372036854775807 then (if x6.size + (((((⟨#[32]⟩ : ByteArray) ++ ((rd_T49 x26 x28).f0)) ++ (⟨#[61, 34]⟩ : ByteArray)) ++ t245) ++ (⟨#[34]⟩ : ByteArray)).size ≤ 9223372036854775807 then (impl_textOf.l0 k x0 x1 (x6 ++ (((((⟨#[32]⟩ : ByteArray) ++ ((rd_T49 x26 x28).f0)) ++ (⟨#[61, 34]⟩ : ByteArray)) ++ t245) ++ (⟨#[34]⟩ : ByteArray))) x26 x27 (wrap64 (x28 + 1)) x242000 x242001 x242002 x242003) else (none)) else (none)) else (none))) else (none)) else (none)) else (none)) else (none)) else ((impl_childrenOf.f k x0 x1).bind fun t246 => (if (t246.length : Int) = 0 then (if x6.size + 2 ≤ 9223372036854775807 then (some (x6 ++ (⟨#[47, 62]⟩ : ByteArray))) else (none)) else (if x6.size + 1 ≤ 9223372036854775807 then (impl_textOf.l1 k x0 (x6 ++ (⟨#[62]⟩ : ByteArray)) t246 (t246.length : Int) 0 x242000 x242001 x242002 x242003) else (none))))
def impl_textOf.l1 : Nat → List (S38) → ByteArray → List Int → Int → Int → ByteArray → Int → List (S49) → ByteArray → Option (ByteArray)
 | 0, _, _, _, _, _, _, _, _, _ => none
 | k + 1, x0, x6, x54, x55, x56, x242000, x242001, x242002, x242003 => if x56 < x55 then (if 0 ≤ x56 then (if x56 < (x54.length : Int) then ((impl_textOf.f k x0 (rd x54 x56)).bind fun t250 => (if x6.size + t250.size ≤ 9223372036854775807 then (impl_textOf.l1 k x0 (x6 ++ t250) x54 x55 (wrap64 (x56 + 1)) x242000 x242001 x242002 x242003) else (none))) else (none)) else (none)) else (if x6.size + 2 ≤ 9223372036854775807 then (if (x6 ++ (⟨#[60, 47]⟩ : ByteArray)).size + x242000.size ≤ 9223372036854775807 then (if ((x6 ++ (⟨#[60, 47]⟩ : ByteArray)) ++ x242000).size + 1 ≤ 9223372036854775807 then (some (((x6 ++ (⟨#[60, 47]⟩ : ByteArray)) ++ x242000) ++ (⟨#[62]⟩ : ByteArray))) else (none)) else (none)) else (none))
def impl_textOf.f : Nat → List (S38) → Int → Option (ByteArray)
 | 0, _, _ => none
 | k + 1, l0, a1 => if 0 ≤ a1 then (if a1 < (l0.length : Int) then (if ((rd_T38 l0 a1).f0).toList = ([] : List UInt8) then ((impl_escaped.f ((rd_T38 l0 a1).f3)).bind fun t242 => (some t242)) else (if 1 + ((rd_T38 l0 a1).f0).size ≤ 9223372036854775807 then (impl_textOf.l0 k l0 a1 ((⟨#[60]⟩ : ByteArray) ++ ((rd_T38 l0 a1).f0)) ((rd_T38 l0 a1).f2) (((rd_T38 l0 a1).f2).length : Int) 0 ((rd_T38 l0 a1).f0) ((rd_T38 l0 a1).f1) ((rd_T38 l0 a1).f2) ((rd_T38 l0 a1).f3)) else (none))) else (none)) else (none)
end
def impl_textOf.T8 : Bool × List (List Nat × List Nat) := (true, [([], []), ([], []), ([1], [1]), ([2], [2]), ([3], [3]), ([], []), ([5], [5]), ([6], [6]), ([4, 7], [4, 7]), ([8], [8]), ([0, 9], [0, 9]), ([10, 7, 0, 1, 2, 3, 4, 5, 6, 7, 8, 9, 10], [0, 10])])
def impl_textOf.B8 : List Nat := [0, 0, 2, 6, 14, 0, 32, 96, 254, 510, 1023, 2047]
theorem impl_textOf.tab8 : rtab .any (opsOf Tryz.f14 8) = impl_textOf.T8 := by kernel_rfl
theorem impl_textOf.bits8 : waitsOk impl_textOf.T8.2 impl_textOf.B8 = true := by kernel_rfl
set_option maxHeartbeats 8000000 in
set_option maxRecDepth 100000 in
theorem impl_textOf.calls (k : Nat) : ∀ (A0 : Option Addr) (c0 : Nat) (l0 : List (S38)) (a1 : Int) (r : ByteArray) (w : World) (hr0 : Kd.C k38 w A0 l0.length l0) (hc0 : l0.length ≤ c0) (h : impl_textOf.f k l0 a1 = some r),
  Calls Tryz.prog 14 #[.slice A0 l0.length c0, .int .i64 a1] w fun e w' => e = .returned (.string r) ∧ Below w.heap.size w w' := by
 induction k using Nat.strongRecOn with
 | _ k ih =>
 intro A0 c0 l0 a1 r w hr0 hc0 h
 cases k with
 | zero => exact absurd h (by simp [impl_textOf.f])
 | succ k =>
 simp only [impl_textOf.f] at h
 have hu38 := Tryz.underlying38
 have hu49 := Tryz.underlying49
 have HR0 := Aside0.mk hr0
 have HC0 := Aside0.mk hc0
 clear hr0 hc0
 have HB := Aside0.mk (Below.refl w.heap.size w)
 have H : (if 0 ≤ a1 then (if a1 < (l0.length : Int) then (if ((rd_T38 l0 a1).f0).toList = ([] : List UInt8) then ((impl_escaped.f ((rd_T38 l0 a1).f3)).bind fun t242 => (some t242)) else (if 1 + ((rd_T38 l0 a1).f0).size ≤ 9223372036854775807 then (impl_textOf.l0 k l0 a1 ((⟨#[60]⟩ : ByteArray) ++ ((rd_T38 l0 a1).f0)) ((rd_T38 l0 a1).f2) (((rd_T38 l0 a1).f2).length : Int) 0 ((rd_T38 l0 a1).f0) ((rd_T38 l0 a1).f1) ((rd_T38 l0 a1).f2) ((rd_T38 l0 a1).f3)) else (none))) else (none)) else (none)) = some r := h
 clear h
 by_cases c3 : 0 ≤ a1
 ·rw [if_pos c3] at H
  have c3b0 : decide (0 ≤ a1) = true := decide_eq_true c3
  clear c3
  by_cases c4 : a1 < (l0.length : Int)
  ·rw [if_pos c4] at H
   have c4b0 : decide (a1 < (l0.length : Int)) = true := decide_eq_true c4
   clear c4
   by_cases c5 : ((rd_T38 l0 a1).f0).toList = ([] : List UInt8)
   ·rw [if_pos c5] at H
    have c5b0 : (((rd_T38 l0 a1).f0).toList == ([] : List UInt8)) = true := beq_iff_eq.mpr c5
    have c5b7 : ((rd_T38 l0 a1).f0).toList.isEmpty = true := by rw [beq_iff_eq.mp c5b0]; rfl
    have c5b8 : ¬ (((rd_T38 l0 a1).f0).toList.isEmpty = false) := fun h_ => by have h9_ := beq_iff_eq.mp c5b0; rw [h9_] at h_; cases h_
    have c5b1 : (((rd_T38 l0 a1).f0).toList != ([] : List UInt8)) = false := bne_eq_false_iff_eq.mpr c5
    clear c5
    replace H := Option.bind_eq_some_iff.mp H
    obtain ⟨t242, A60, H⟩ := H
    replace H : (some t242) = some r := H
    have A6 := Aside0.mk A60
    clear A60
    obtain rfl := Option.some.inj H
    have p240 : 0 ≤ (a1 : Int) := of_decide_eq_true am_
    have q240 : a1 < (l0.length : Int) := of_decide_eq_true am_
    obtain ⟨ad240, A240_2, c240_2, e240, hx240_0, hx240_1, hx240_2, hx240_3, hl240_2, hi240_2⟩ := at_T38 HR0.out a1 p240 q240
    cases e240
    have HR240_2 := Aside0.mk hi240_2
    have HC240_2 := Aside0.mk hl240_2
    clear hi240_2 hl240_2
    replace p240 := eq_true p240
    replace q240 := eq_true q240
    go_enter Tryz.func14, Tryz.ntmps14
    go_wp2_with (first | ((with_reducible refine gate_dst (N := 5) rfl ?_); refine box_event ?hg (N := 5) ?hd (cs := #[.string (⟨#[]⟩ : ByteArray), .int .i64 0, .slice none 0 0, .string (⟨#[]⟩ : ByteArray)]) (t := 38) ?hr ?_; (case hd => rfl); (case hg => rfl); (case hr => first | (go_simp; done) | (go_simp; rfl)); intro gb241 hg w7 hbox hb; have n0_ := Aside0.mk (below_step bel_ hb); have n1_ := Aside0.mk (hbox); have n2_ := Aside0.mk ((by rw [hg]; exact (below_size bel_) : w.heap.size ≤ gb241)); have n3_ := Aside0.mk ((by rw [hg]; exact (below_size bel_) : w.heap.size ≤ gb241)); clear HB; have HB := n0_; have BK241 := n1_; have GW241 := n2_; have GE241 := n3_; clear n0_ n1_ n2_ n3_; clear hb hbox hg; have hcz8_0 := bc4_0 BK241.out; have hcz8_1 := bc4_1 BK241.out; have hcz8_2 := bc4_2 BK241.out; have hcz8_3 := bc4_3 BK241.out; have hfz8_0 := blk_frozen BK241.out 0; have hfz8_1 := blk_frozen BK241.out 1; have hfz8_2 := blk_frozen BK241.out 2; have hfz8_3 := blk_frozen BK241.out 3) | ((with_reducible refine gate_callee (f := 29) rfl ?_); refine goesL_ (some 21) rfl rfl Tryz.func29 (by kernel_rfl) rfl #[.string ((rd_T38 l0 a1).f3)] rfl au_ ?_; (with_reducible refine (impl_escaped.calls ((rd_T38 l0 a1).f3) t242 _ A6.out).mono ?_); rintro e w9 ⟨rfl, hb⟩; refine ⟨_, rfl, ?_⟩; have n0_ := Aside0.mk (blk_below (g := gb241) (o := .cells #[.string ((rd_T38 l0 a1).f0), .int .i64 ((rd_T38 l0 a1).f1), .slice A240_2 ((rd_T38 l0 a1).f2).length c240_2, .string ((rd_T38 l0 a1).f3)] 38 (0, 0)) (by (with_reducible repeat (first | refine blk_drewN ?_ _ | refine blk_drew ?_ | refine blk_alloc ?_ _)); refine blk_put (cs := #[.string ((rd_T38 l0 a1).f0), .int .i64 ((rd_T38 l0 a1).f1), .slice A240_2 ((rd_T38 l0 a1).f2).length c240_2, .string (⟨#[]⟩ : ByteArray)]) ?_ 3 _ rfl; (with_reducible repeat (first | refine blk_drewN ?_ _ | refine blk_drew ?_ | refine blk_alloc ?_ _)); refine blk_put (cs := #[.string ((rd_T38 l0 a1).f0), .int .i64 ((rd_T38 l0 a1).f1), .slice none 0 0, .string (⟨#[]⟩ : ByteArray)]) ?_ 2 _ rfl; (with_reducible repeat (first | refine blk_drewN ?_ _ | refine blk_drew ?_ | refine blk_alloc ?_ _)); refine blk_put (cs := #[.string ((rd_T38 l0 a1).f0), .int .i64 0, .slice none 0 0, .string (⟨#[]⟩ : ByteArray)]) ?_ 1 _ rfl; (with_reducible repeat (first | refine blk_drewN ?_ _ | refine blk_drew ?_ | refine blk_alloc ?_ _)); refine blk_put (cs := #[.string (⟨#[]⟩ : ByteArray), .int .i64 0, .slice none 0 0, .string (⟨#[]⟩ : ByteArray)]) ?_ 0 _ rfl; (with_reducible repeat (first | refine blk_drewN ?_ _ | refine blk_drew ?_ | refine blk_alloc ?_ _)); exact BK241.out) hb); have n1_ := Aside0.mk (below_step bes_ hb); clear BK241; clear HB; have BK241 := n0_; have HB := n1_; clear n0_ n1_; (try clear hb);(try clear hb2);(try clear hk);(try clear hi)))
    go_ret
    exact ⟨er_, bes_⟩
   ·rw [if_neg c5] at H
    have c5b0 : (((rd_T38 l0 a1).f0).toList == ([] : List UInt8)) = false := beq_eq_false_iff_ne.mpr c5
    have c5b7 : ((rd_T38 l0 a1).f0).toList.isEmpty = false := Bool.eq_false_iff.mpr (fun h_ => absurd (List.isEmpty_iff.mp h_) (beq_eq_false_iff_ne.mp c5b0))
    have c5b8 : ¬ (((rd_T38 l0 a1).f0).toList.isEmpty = true) := fun h_ => absurd (List.isEmpty_iff.mp h_) (beq_eq_false_iff_ne.mp c5b0)
    have c5b1 : (((rd_T38 l0 a1).f0).toList != ([] : List UInt8)) = true := bne_iff_ne.mpr c5
    by_cases c10 : 1 + ((rd_T38 l0 a1).f0).size ≤ 9223372036854775807
    ·rw [if_pos c10] at H
     have c10b0 := eq_true c10
     have c10b1 : decide (1 + ((rd_T38 l0 a1).f0).size ≤ 9223372036854775807) = true := decide_eq_true c10
     try have c10b2 : (9223372036854775807 < 1 + ((rd_T38 l0 a1).f0).size) = False := eq_false (Nat.not_lt.2 c10)
     have H' := Aside0.mk H
     clear H
     have p240 : 0 ≤ (a1 : Int) := of_decide_eq_true am_
     have q240 : a1 < (l0.length : Int) := of_decide_eq_true am_
     obtain ⟨ad240, A240_2, c240_2, e240, hx240_0, hx240_1, hx240_2, hx240_3, hl240_2, hi240_2⟩ := at_T38 HR0.out a1 p240 q240
     cases e240
     have HR240_2 := Aside0.mk hi240_2
     have HC240_2 := Aside0.mk hl240_2
     clear hi240_2 hl240_2
     replace p240 := eq_true p240
     replace q240 := eq_true q240
     go_enter Tryz.func14, Tryz.ntmps14
     go_wp2_with (first | ((with_reducible refine gate_dst (N := 5) rfl ?_); refine box_event ?hg (N := 5) ?hd (cs := #[.string (⟨#[]⟩ : ByteArray), .int .i64 0, .slice none 0 0, .string (⟨#[]⟩ : ByteArray)]) (t := 38) ?hr ?_; (case hd => rfl); (case hg => rfl); (case hr => first | (go_simp; done) | (go_simp; rfl)); intro gb241 hg w11 hbox hb; have n0_ := Aside0.mk (below_step bel_ hb); have n1_ := Aside0.mk (hbox); have n2_ := Aside0.mk ((by rw [hg]; exact (below_size bel_) : w.heap.size ≤ gb241)); have n3_ := Aside0.mk ((by rw [hg]; exact (below_size bel_) : w.heap.size ≤ gb241)); clear HB; have HB := n0_; have BK241 := n1_; have GW241 := n2_; have GE241 := n3_; clear n0_ n1_ n2_ n3_; clear hb hbox hg; have hcz12_0 := bc4_0 BK241.out; have hcz12_1 := bc4_1 BK241.out; have hcz12_2 := bc4_2 BK241.out; have hcz12_3 := bc4_3 BK241.out; have hfz12_0 := blk_frozen BK241.out 0; have hfz12_1 := blk_frozen BK241.out 1; have hfz12_2 := blk_frozen BK241.out 2; have hfz12_3 := blk_frozen BK241.out 3))
     go_loopg [6, 28] k (fun kq v6 v28 w' => ∃ (x6_1 : ByteArray) (x28_1 : Int), v6 = .string x6_1 ∧ v28 = .int .i64 x28_1 ∧ Aside0 (impl_textOf.l0 kq l0 a1 x6_1 ((rd_T38 l0 a1).f2) (((rd_T38 l0 a1).f2).length : Int) x28_1 ((rd_T38 l0 a1).f0) ((rd_T38 l0 a1).f1) ((rd_T38 l0 a1).f2) ((rd_T38 l0 a1).f3) = some r) ∧ Aside0 (kq ≤ k) ∧ Aside0 (w'.heap[gb241]? = some (.cells #[.string ((rd_T38 l0 a1).f0), .int .i64 ((rd_T38 l0 a1).f1), (.slice A240_2 ((rd_T38 l0 a1).f2).length c240_2), .string ((rd_T38 l0 a1).f3)] 38 (0, 0))) ∧ Aside0 (Below w.heap.size w w'))
     case atStart => exact ⟨((⟨#[60]⟩ : ByteArray) ++ ((rd_T38 l0 a1).f0)), (0), sv_, sv_, H', ⟨Nat.le_refl _⟩, ⟨by (with_reducible repeat (first | refine blk_drewN ?_ _ | refine blk_drew ?_ | refine blk_alloc ?_ _)); refine blk_put (cs := #[.string ((rd_T38 l0 a1).f0), .int .i64 ((rd_T38 l0 a1).f1), .slice A240_2 ((rd_T38 l0 a1).f2).length c240_2, .string (⟨#[]⟩ : ByteArray)]) ?_ 3 _ rfl; (with_reducible repeat (first | refine blk_drewN ?_ _ | refine blk_drew ?_ | refine blk_alloc ?_ _)); refine blk_put (cs := #[.string ((rd_T38 l0 a1).f0), .int .i64 ((rd_T38 l0 a1).f1), .slice none 0 0, .string (⟨#[]⟩ : ByteArray)]) ?_ 2 _ rfl; (with_reducible repeat (first | refine blk_drewN ?_ _ | refine blk_drew ?_ | refine blk_alloc ?_ _)); refine blk_put (cs := #[.string ((rd_T38 l0 a1).f0), .int .i64 0, .slice none 0 0, .string (⟨#[]⟩ : ByteArray)]) ?_ 1 _ rfl; (with_reducible repeat (first | refine blk_drewN ?_ _ | refine blk_drew ?_ | refine blk_alloc ?_ _)); refine blk_put (cs := #[.string (⟨#[]⟩ : ByteArray), .int .i64 0, .slice none 0 0, .string (⟨#[]⟩ : ByteArray)]) ?_ 0 _ rfl; (with_reducible repeat (first | refine blk_drewN ?_ _ | refine blk_drew ?_ | refine blk_alloc ?_ _)); exact BK241.out⟩, ⟨bes_⟩⟩
     case round =>
      clear H'
      (try clear c1);(try clear c2);(try clear p2);(try clear q2);(try clear hx2);(try clear c3);(try clear c3b0);(try clear c4);(try clear c4b0);(try clear c5);(try clear c5b0 c5b1);(try clear c10);(try clear c10b0 c10b1 c10b2);(try clear hcz12_0 hcz12_1 hcz12_2 hcz12_3);(try clear hcz8_0 hcz8_1 hcz8_2 hcz8_3);(try clear hfz12_0 hfz12_1 hfz12_2 hfz12_3);(try clear hfz8_0 hfz8_1 hfz8_2 hfz8_3);(try clear hx240_0);(try clear hx240_1);(try clear hx240_2);(try clear hx240_3);(try clear p240);(try clear q240)
      obtain ⟨x6_1, x28_1, rfl, rfl, HA, HK1, BK241, HB⟩ := hrel
      cases gk with
      | zero => exact absurd HA.out (by simp [impl_textOf.l0])
      | succ k1 =>
       have H := HA.out
       clear HA
       simp only [impl_textOf.l0] at H
       by_cases c13 : x28_1 < (((rd_T38 l0 a1).f2).length : Int)
       ·rw [if_pos c13] at H
        have c13b0 : decide (x28_1 < (((rd_T38 l0 a1).f2).length : Int)) = true := decide_eq_true c13
        clear c13
        by_cases c14 : 0 ≤ x28_1
        ·rw [if_pos c14] at H
         have c14b0 : decide (0 ≤ x28_1) = true := decide_eq_true c14
         clear c14
         by_cases c15 : x28_1 < (((rd_T38 l0 a1).f2).length : Int)
         ·rw [if_pos c15] at H
          have c15b0 : decide (x28_1 < (((rd_T38 l0 a1).f2).length : Int)) = true := decide_eq_true c15
          clear c15
          by_cases c16 : 1 + ((rd_T49 ((rd_T38 l0 a1).f2) x28_1).f0).size ≤ 9223372036854775807
          ·rw [if_pos c16] at H
           have c16b0 := eq_true c16
           have c16b1 : decide (1 + ((rd_T49 ((rd_T38 l0 a1).f2) x28_1).f0).size ≤ 9223372036854775807) = true := decide_eq_true c16
           try have c16b2 : (9223372036854775807 < 1 + ((rd_T49 ((rd_T38 l0 a1).f2) x28_1).f0).size) = False := eq_false (Nat.not_lt.2 c16)
           by_cases c17 : ((⟨#[32]⟩ : ByteArray) ++ ((rd_T49 ((rd_T38 l0 a1).f2) x28_1).f0)).size + 2 ≤ 9223372036854775807
           ·rw [if_pos c17] at H
            have c17b0 := eq_true c17
            have c17b1 : decide (((⟨#[32]⟩ : ByteArray) ++ ((rd_T49 ((rd_T38 l0 a1).f2) x28_1).f0)).size + 2 ≤ 9223372036854775807) = true := decide_eq_true c17
            try have c17b2 : (9223372036854775807 < ((⟨#[32]⟩ : ByteArray) ++ ((rd_T49 ((rd_T38 l0 a1).f2) x28_1).f0)).size + 2) = False := eq_false (Nat.not_lt.2 c17)
            try have c17b7 : (9223372036854775807 < (1 + ((rd_T49 ((rd_T38 l0 a1).f2) x28_1).f0).size) + 2) = False := by have h9_ := c17b2; simp only [ByteArray.size_append] at h9_; exact h9_
            replace H := Option.bind_eq_some_iff.mp H
            obtain ⟨t245, A180, H⟩ := H
            replace H : (if (((⟨#[32]⟩ : ByteArray) ++ ((rd_T49 ((rd_T38 l0 a1).f2) x28_1).f0)) ++ (⟨#[61, 34]⟩ : ByteArray)).size + t245.size ≤ 9223372036854775807 then (if ((((⟨#[32]⟩ : ByteArray) ++ ((rd_T49 ((rd_T38 l0 a1).f2) x28_1).f0)) ++ (⟨#[61, 34]⟩ : ByteArray)) ++ t245).size + 1 ≤ 9223372036854775807 then (if x6_1.size + (((((⟨#[32]⟩ : ByteArray) ++ ((rd_T49 ((rd_T38 l0 a1).f2) x28_1).f0)) ++ (⟨#[61, 34]⟩ : ByteArray)) ++ t245) ++ (⟨#[34]⟩ : ByteArray)).size ≤ 9223372036854775807 then (impl_textOf.l0 k1 l0 a1 (x6_1 ++ (((((⟨#[32]⟩ : ByteArray) ++ ((rd_T49 ((rd_T38 l0 a1).f2) x28_1).f0)) ++ (⟨#[61, 34]⟩ : ByteArray)) ++ t245) ++ (⟨#[34]⟩ : ByteArray))) ((rd_T38 l0 a1).f2) (((rd_T38 l0 a1).f2).length : Int) (wrap64 (x28_1 + 1)) ((rd_T38 l0 a1).f0) ((rd_T38 l0 a1).f1) ((rd_T38 l0 a1).f2) ((rd_T38 l0 a1).f3)) else (none)) else (none)) else (none)) = some r := H
            have A18 := Aside0.mk A180
            clear A180
            by_cases c19 : (((⟨#[32]⟩ : ByteArray) ++ ((rd_T49 ((rd_T38 l0 a1).f2) x28_1).f0)) ++ (⟨#[61, 34]⟩ : ByteArray)).size + t245.size ≤ 9223372036854775807
            ·rw [if_pos c19] at H
             have c19b0 := eq_true c19
             have c19b1 : decide ((((⟨#[32]⟩ : ByteArray) ++ ((rd_T49 ((rd_T38 l0 a1).f2) x28_1).f0)) ++ (⟨#[61, 34]⟩ : ByteArray)).size + t245.size ≤ 9223372036854775807) = true := decide_eq_true c19
             try have c19b2 : (9223372036854775807 < (((⟨#[32]⟩ : ByteArray) ++ ((rd_T49 ((rd_T38 l0 a1).f2) x28_1).f0)) ++ (⟨#[61, 34]⟩ : ByteArray)).size + t245.size) = False := eq_false (Nat.not_lt.2 c19)
             try have c19b7 : (9223372036854775807 < ((1 + ((rd_T49 ((rd_T38 l0 a1).f2) x28_1).f0).size) + 2) + t245.size) = False := by have h9_ := c19b2; simp only [ByteArray.size_append] at h9_; exact h9_
             by_cases c20 : ((((⟨#[32]⟩ : ByteArray) ++ ((rd_T49 ((rd_T38 l0 a1).f2) x28_1).f0)) ++ (⟨#[61, 34]⟩ : ByteArray)) ++ t245).size + 1 ≤ 9223372036854775807
             ·rw [if_pos c20] at H
              have c20b0 := eq_true c20
              have c20b1 : decide (((((⟨#[32]⟩ : ByteArray) ++ ((rd_T49 ((rd_T38 l0 a1).f2) x28_1).f0)) ++ (⟨#[61, 34]⟩ : ByteArray)) ++ t245).size + 1 ≤ 9223372036854775807) = true := decide_eq_true c20
              try have c20b2 : (9223372036854775807 < ((((⟨#[32]⟩ : ByteArray) ++ ((rd_T49 ((rd_T38 l0 a1).f2) x28_1).f0)) ++ (⟨#[61, 34]⟩ : ByteArray)) ++ t245).size + 1) = False := eq_false (Nat.not_lt.2 c20)
              try have c20b7 : (9223372036854775807 < (((1 + ((rd_T49 ((rd_T38 l0 a1).f2) x28_1).f0).size) + 2) + t245.size) + 1) = False := by have h9_ := c20b2; simp only [ByteArray.size_append] at h9_; exact h9_
              by_cases c21 : x6_1.size + (((((⟨#[32]⟩ : ByteArray) ++ ((rd_T49 ((rd_T38 l0 a1).f2) x28_1).f0)) ++ (⟨#[61, 34]⟩ : ByteArray)) ++ t245) ++ (⟨#[34]⟩ : ByteArray)).size ≤ 9223372036854775807
              ·rw [if_pos c21] at H
               have c21b0 := eq_true c21
               have c21b1 : decide (x6_1.size + (((((⟨#[32]⟩ : ByteArray) ++ ((rd_T49 ((rd_T38 l0 a1).f2) x28_1).f0)) ++ (⟨#[61, 34]⟩ : ByteArray)) ++ t245) ++ (⟨#[34]⟩ : ByteArray)).size ≤ 9223372036854775807) = true := decide_eq_true c21
               try have c21b2 : (9223372036854775807 < x6_1.size + (((((⟨#[32]⟩ : ByteArray) ++ ((rd_T49 ((rd_T38 l0 a1).f2) x28_1).f0)) ++ (⟨#[61, 34]⟩ : ByteArray)) ++ t245) ++ (⟨#[34]⟩ : ByteArray)).size) = False := eq_false (Nat.not_lt.2 c21)
               try have c21b7 : (9223372036854775807 < x6_1.size + ((((1 + ((rd_T49 ((rd_T38 l0 a1).f2) x28_1).f0).size) + 2) + t245.size) + 1)) = False := by have h9_ := c21b2; simp only [ByteArray.size_append] at h9_; exact h9_
               have H' := Aside0.mk H
               clear H
               have p243 : 0 ≤ (x28_1 : Int) := of_decide_eq_true am_
               have q243 : x28_1 < (((rd_T38 l0 a1).f2).length : Int) := of_decide_eq_true am_
               obtain ⟨ad243, e243, hx243_0, hx243_1⟩ := at_T49 HR240_2.out x28_1 p243 q243
               cases e243
               replace hx243_0 := pw_cell_below HB.out hx243_0
               replace hx243_1 := pw_cell_below HB.out hx243_1
               replace p243 := eq_true p243
               replace q243 := eq_true q243
               try go_wp2_with (first | ((with_reducible refine gate_dst (N := 8) rfl ?_); refine box_event ?hg (N := 8) ?hd (cs := #[.string (⟨#[]⟩ : ByteArray), .string (⟨#[]⟩ : ByteArray)]) (t := 49) ?hr ?_; (case hd => rfl); (case hg => rfl); (case hr => first | (go_simp; done) | (go_simp; rfl)); intro gb244 hg w22 hbox hb; have n0_ := Aside0.mk (blk_below (g := gb241) (o := .cells #[.string ((rd_T38 l0 a1).f0), .int .i64 ((rd_T38 l0 a1).f1), .slice (some ad243) ((rd_T38 l0 a1).f2).length c240_2, .string ((rd_T38 l0 a1).f3)] 38 (0, 0)) (bk_ BK241.out) hb); have n1_ := Aside0.mk (below_step bes_ hb); have n2_ := Aside0.mk (hbox); have n3_ := Aside0.mk ((by rw [hg]; exact (below_size bes_) : w.heap.size ≤ gb244)); have n4_ := Aside0.mk ((by rw [hg]; exact (below_size bes_) : w.heap.size ≤ gb244)); have n5_ := Aside0.mk ((by rw [hg]; exact Nat.ne_of_lt (blk_lt (g := gb241) (o := .cells #[.string ((rd_T38 l0 a1).f0), .int .i64 ((rd_T38 l0 a1).f1), .slice (some ad243) ((rd_T38 l0 a1).f2).length c240_2, .string ((rd_T38 l0 a1).f3)] 38 (0, 0)) (bk_ BK241.out)) : gb241 ≠ gb244)); have n6_ := Aside0.mk ((by rw [hg]; exact Nat.ne_of_gt (blk_lt (g := gb241) (o := .cells #[.string ((rd_T38 l0 a1).f0), .int .i64 ((rd_T38 l0 a1).f1), .slice (some ad243) ((rd_T38 l0 a1).f2).length c240_2, .string ((rd_T38 l0 a1).f3)] 38 (0, 0)) (bk_ BK241.out)) : gb244 ≠ gb241)); clear BK241; clear HB; have BK241 := n0_; have HB := n1_; have BK244 := n2_; have GW244 := n3_; have GE244 := n4_; have NB241_244 := n5_; have NB244_241 := n6_; clear n0_ n1_ n2_ n3_ n4_ n5_ n6_; clear hb hbox hg; have hnb23 := NB244_241.out; have hnc23 := NB241_244.out; have hcz24_0 := bc2_0 BK244.out; have hcz24_1 := bc2_1 BK244.out; have hfz24_0 := blk_frozen BK244.out 0; have hfz24_1 := blk_frozen BK244.out 1))
               have n0_ : Aside0 (((w22.setCell ⟨gb244, 0, none⟩ (.string ((rd_T49 ((rd_T38 l0 a1).f2) x28_1).f0))).setCell ⟨gb244, 1, none⟩ (.string ((rd_T49 ((rd_T38 l0 a1).f2) x28_1).f1))).heap[gb241]? = some (.cells #[.string ((rd_T38 l0 a1).f0), .int .i64 ((rd_T38 l0 a1).f1), .slice (some ad243) ((rd_T38 l0 a1).f2).length c240_2, .string ((rd_T38 l0 a1).f3)] 38 (0, 0))) := ⟨by (with_reducible repeat (first | refine blk_drewN ?_ _ | refine blk_drew ?_ | refine blk_alloc ?_ _)); refine blk_far ?_ NB241_244.out _; (with_reducible repeat (first | refine blk_drewN ?_ _ | refine blk_drew ?_ | refine blk_alloc ?_ _)); refine blk_far ?_ NB241_244.out _; (with_reducible repeat (first | refine blk_drewN ?_ _ | refine blk_drew ?_ | refine blk_alloc ?_ _)); exact BK241.out⟩
               have n1_ : Aside0 (((w22.setCell ⟨gb244, 0, none⟩ (.string ((rd_T49 ((rd_T38 l0 a1).f2) x28_1).f0))).setCell ⟨gb244, 1, none⟩ (.string ((rd_T49 ((rd_T38 l0 a1).f2) x28_1).f1))).heap[gb244]? = some (.cells #[.string ((rd_T49 ((rd_T38 l0 a1).f2) x28_1).f0), .string ((rd_T49 ((rd_T38 l0 a1).f2) x28_1).f1)] 49 (0, 0))) := ⟨by (with_reducible repeat (first | refine blk_drewN ?_ _ | refine blk_drew ?_ | refine blk_alloc ?_ _)); refine blk_put (cs := #[.string ((rd_T49 ((rd_T38 l0 a1).f2) x28_1).f0), .string (⟨#[]⟩ : ByteArray)]) ?_ 1 _ rfl; (with_reducible repeat (first | refine blk_drewN ?_ _ | refine blk_drew ?_ | refine blk_alloc ?_ _)); refine blk_put (cs := #[.string (⟨#[]⟩ : ByteArray), .string (⟨#[]⟩ : ByteArray)]) ?_ 0 _ rfl; (with_reducible repeat (first | refine blk_drewN ?_ _ | refine blk_drew ?_ | refine blk_alloc ?_ _)); exact BK244.out⟩
               have n2_ : Aside0 (Below w.heap.size w ((w22.setCell ⟨gb244, 0, none⟩ (.string ((rd_T49 ((rd_T38 l0 a1).f2) x28_1).f0))).setCell ⟨gb244, 1, none⟩ (.string ((rd_T49 ((rd_T38 l0 a1).f2) x28_1).f1)))) := ⟨bes_⟩
               (try clear BK241)
               (try clear BK244)
               (try clear HB)
               (try rw [show ∀ (w_ : World) (n_ : Nat) (a_ : Addr) (v_ : Value), (w_.drewN n_).setCell a_ v_ = (w_.setCell a_ v_).drewN n_ from fun _ _ _ _ => rfl])
               generalize ((w22.setCell ⟨gb244, 0, none⟩ (.string ((rd_T49 ((rd_T38 l0 a1).f2) x28_1).f0))).setCell ⟨gb244, 1, none⟩ (.string ((rd_T49 ((rd_T38 l0 a1).f2) x28_1).f1))) = w25 at n0_ n1_ n2_ ⊢
               have BK241 := n0_
               have BK244 := n1_
               have HB := n2_
               clear n0_ n1_ n2_
               have n0_ := Aside0.mk (blk_drew BK241.out)
               have n1_ := Aside0.mk (blk_drew BK244.out)
               have n2_ := Aside0.mk (below_drew1 HB.out)
               clear BK241
               clear BK244
               clear HB
               have BK241 := n0_
               have BK244 := n1_
               have HB := n2_
               clear n0_ n1_ n2_
               refine start_ (n := 12) (S := fun w' => w'.cell? ⟨gb244, 0, none⟩ = some (.string ((rd_T49 ((rd_T38 l0 a1).f2) x28_1).f0)) ∧ w'.cell? ⟨gb244, 1, none⟩ = some (.string ((rd_T49 ((rd_T38 l0 a1).f2) x28_1).f1))) (ds := []) #[false, false, false, false, false, false, false, false, false, false, false, false] (by kernel_rfl) rfl rfl ⟨(blk_cell BK244.out 0).trans rfl, (blk_cell BK244.out 1).trans rfl⟩ (fun hHeld => ?_); refine with_tabW impl_textOf.tab8 impl_textOf.bits8 (fun HT_ HW_ => ?_)
               generalize w25.drew = w26 at BK241 BK244 HB hHeld ⊢
               refine pure_ (i := 0) (N := some 32) (v := ?_) (a' := ?_) #[true, false, false, false, false, false, false, false, false, false, false, false] rfl rfl (any_of HT_.out (by kernel_rfl)) (fun _ _ _ h => h) (Or.inl ⟨by rfl, ?_⟩) ?_ ?_
               rotate_left
               ·intro w'
                go_simp
                with_reducible rfl
               rotate_left
               ·simp only [Act.put, List.setIfInBounds_toArray, List.set_cons_zero, List.set_cons_succ, i64_w, i32_w]
                rfl
               refine pure_ (i := 1) (N := some 33) (v := ?_) (a' := ?_) #[true, true, false, false, false, false, false, false, false, false, false, false] rfl rfl (any_of HT_.out (by kernel_rfl)) (fun _ _ _ h => h) (Or.inl ⟨by rfl, ?_⟩) ?_ ?_
               rotate_left
               ·intro w'
                go_simp
                with_reducible rfl
               rotate_left
               ·simp only [Act.put, List.setIfInBounds_toArray, List.set_cons_zero, List.set_cons_succ, i64_w, i32_w]
                rfl
               refine pure_ (i := 5) (N := some 37) (v := ?_) (a' := ?_) #[true, true, false, false, false, true, false, false, false, false, false, false] rfl rfl (any_of HT_.out (by kernel_rfl)) (fun _ _ _ h => h) (Or.inl ⟨by rfl, ?_⟩) ?_ ?_
               rotate_left
               ·intro w'
                go_simp
                with_reducible rfl
               rotate_left
               ·simp only [Act.put, List.setIfInBounds_toArray, List.set_cons_zero, List.set_cons_succ, i64_w, i32_w]
                rfl
               refine take_ (i := 2) (N := some 34) (v := ?_) (a' := ?_) #[true, true, true, false, false, true, false, false, false, false, false, false] rfl rfl (take_ofW HT_.out HW_.out (by kernel_rfl)) (fun _ _ _ h => h) (Or.inl ⟨by rfl, ?_⟩) hHeld ?_ ?_
               rotate_left
               ·rintro w' ⟨s0, s1⟩
                go_simp
                with_reducible rfl
               rotate_left
               ·simp only [Act.put, List.setIfInBounds_toArray, List.set_cons_zero, List.set_cons_succ, i64_w, i32_w]
                rfl
               refine pure_ (i := 3) (N := some 35) (v := ?_) (a' := ?_) #[true, true, true, true, false, true, false, false, false, false, false, false] rfl rfl (any_of HT_.out (by kernel_rfl)) (fun _ _ _ h => h) (Or.inl ⟨by rfl, ?_⟩) ?_ ?_
               rotate_left
               ·intro w'
                go_simp
                with_reducible rfl
               rotate_left
               ·simp only [Act.put, List.setIfInBounds_toArray, List.set_cons_zero, List.set_cons_succ, i64_w, i32_w]
                rfl
               refine pure_ (i := 4) (N := some 36) (v := ?_) (a' := ?_) #[true, true, true, true, true, true, false, false, false, false, false, false] rfl rfl (any_of HT_.out (by kernel_rfl)) (fun _ _ _ h => h) (Or.inl ⟨by rfl, ?_⟩) ?_ ?_
               rotate_left
               ·intro w'
                go_simp
                with_reducible rfl
               rotate_left
               ·simp only [Act.put, List.setIfInBounds_toArray, List.set_cons_zero, List.set_cons_succ, i64_w, i32_w]
                rfl
               refine take_ (i := 6) (N := some 38) (v := ?_) (a' := ?_) #[true, true, true, true, true, true, true, false, false, false, false, false] rfl rfl (take_ofW HT_.out HW_.out (by kernel_rfl)) (fun _ _ _ h => h) (Or.inl ⟨by rfl, ?_⟩) hHeld ?_ ?_
               rotate_left
               ·rintro w' ⟨s0, s1⟩
                go_simp
                with_reducible rfl
               rotate_left
               ·simp only [Act.put, List.setIfInBounds_toArray, List.set_cons_zero, List.set_cons_succ, i64_w, i32_w]
                rfl
               refine one_ (i := 7) (N := some 39) #[true, true, true, true, true, true, true, true, false, false, false, false] rfl rfl (one_of HT_.out (by kernel_rfl)) (by decide) (fun K hK => ?_)
               refine goes_ Tryz.func29 (by kernel_rfl) rfl #[.string ((rd_T49 ((rd_T38 l0 a1).f2) x28_1).f1)] (by rfl) rfl rfl au_ ?_
               with_reducible refine (impl_escaped.calls ((rd_T49 ((rd_T38 l0 a1).f2) x28_1).f1) t245 _ A18.out).mono ?_
               rintro e w27 ⟨rfl, hb⟩
               refine ⟨_, rfl, ?_⟩
               have n0_ := Aside0.mk (blk_below (g := gb241) (o := .cells #[.string ((rd_T38 l0 a1).f0), .int .i64 ((rd_T38 l0 a1).f1), .slice (some ad243) ((rd_T38 l0 a1).f2).length c240_2, .string ((rd_T38 l0 a1).f3)] 38 (0, 0)) (bk_ BK241.out) hb)
               have n1_ := Aside0.mk (blk_below (g := gb244) (o := .cells #[.string ((rd_T49 ((rd_T38 l0 a1).f2) x28_1).f0), .string ((rd_T49 ((rd_T38 l0 a1).f2) x28_1).f1)] 49 (0, 0)) (bk_ BK244.out) hb)
               have n2_ := Aside0.mk (below_step bes_ hb)
               clear BK241
               clear BK244
               clear HB
               have BK241 := n0_
               have BK244 := n1_
               have HB := n2_
               clear n0_ n1_ n2_
               (try clear hb)
               (try clear hb2)
               (try clear hk)
               (try clear hi)
               refine hK.out _ _ ⟨(blk_cell BK244.out 0).trans rfl, (blk_cell BK244.out 1).trans rfl⟩ (fun hHeld => ?_)
               clear hK K
               refine norm_ (a' := ?_) ?_ ?_
               rotate_left
               ·show Act.put _ (some 39) _ = _
                simp only [Act.put, List.setIfInBounds_toArray, List.set_cons_zero, List.set_cons_succ, i64_w, i32_w]
                rfl
               refine pure_ (i := 8) (N := some 40) (v := ?_) (a' := ?_) #[true, true, true, true, true, true, true, true, true, false, false, false] rfl rfl (any_of HT_.out (by kernel_rfl)) (fun _ _ _ h => h) (Or.inl ⟨by rfl, ?_⟩) ?_ ?_
               rotate_left
               ·intro w'
                go_simp
                with_reducible rfl
               rotate_left
               ·simp only [Act.put, List.setIfInBounds_toArray, List.set_cons_zero, List.set_cons_succ, i64_w, i32_w]
                rfl
               refine pure_ (i := 9) (N := some 41) (v := ?_) (a' := ?_) #[true, true, true, true, true, true, true, true, true, true, false, false] rfl rfl (any_of HT_.out (by kernel_rfl)) (fun _ _ _ h => h) (Or.inl ⟨by rfl, ?_⟩) ?_ ?_
               rotate_left
               ·intro w'
                go_simp
                with_reducible rfl
               rotate_left
               ·simp only [Act.put, List.setIfInBounds_toArray, List.set_cons_zero, List.set_cons_succ, i64_w, i32_w]
                rfl
               refine pure_ (i := 10) (N := some 42) (v := ?_) (a' := ?_) #[true, true, true, true, true, true, true, true, true, true, true, false] rfl rfl (any_of HT_.out (by kernel_rfl)) (fun _ _ _ h => h) (Or.inl ⟨by rfl, ?_⟩) ?_ ?_
               rotate_left
               ·intro w'
                go_simp
                with_reducible rfl
               rotate_left
               ·simp only [Act.put, List.setIfInBounds_toArray, List.set_cons_zero, List.set_cons_succ, i64_w, i32_w]
                rfl
               refine pure_ (i := 11) (N := some 6) (v := ?_) (a' := ?_) #[true, true, true, true, true, true, true, true, true, true, true, true] rfl rfl (any_of HT_.out (by kernel_rfl)) (fun _ _ _ h => h) (Or.inl ⟨by rfl, ?_⟩) ?_ ?_
               rotate_left
               ·intro w'
                go_simp
                with_reducible rfl
               rotate_left
               ·simp only [Act.put, List.setIfInBounds_toArray, List.set_cons_zero, List.set_cons_succ, i64_w, i32_w]
                rfl
               refine done_ (done_of HT_.out (by kernel_rfl)) ?_
               try go_wp2
               go_roundg k1
               case measure => have := HK1.out; omega
               case rel => exact ⟨(x6_1 ++ (((((⟨#[32]⟩ : ByteArray) ++ ((rd_T49 ((rd_T38 l0 a1).f2) x28_1).f0)) ++ (⟨#[61, 34]⟩ : ByteArray)) ++ t245) ++ (⟨#[34]⟩ : ByteArray))), (wrap64 (x28_1 + 1)), sv_, sv_, H', ⟨by have := HK1.out; omega⟩, ⟨by (with_reducible repeat (first | refine blk_drewN ?_ _ | refine blk_drew ?_ | refine blk_alloc ?_ _)); exact BK241.out⟩, ⟨bes_⟩⟩
              ·rw [if_neg c21] at H
               exact absurd H (by simp)
             ·rw [if_neg c20] at H
              exact absurd H (by simp)
            ·rw [if_neg c19] at H
             exact absurd H (by simp)
           ·rw [if_neg c17] at H
            exact absurd H (by simp)
          ·rw [if_neg c16] at H
           exact absurd H (by simp)
         ·rw [if_neg c15] at H
          exact absurd H (by simp)
        ·rw [if_neg c14] at H
         exact absurd H (by simp)
       ·rw [if_neg c13] at H
        have c13b0 : decide (x28_1 < (((rd_T38 l0 a1).f2).length : Int)) = false := decide_eq_false c13
        clear c13
        replace H := Option.bind_eq_some_iff.mp H
        obtain ⟨t246, A280, H⟩ := H
        replace H : (if (t246.length : Int) = 0 then (if x6_1.size + 2 ≤ 9223372036854775807 then (some (x6_1 ++ (⟨#[47, 62]⟩ : ByteArray))) else (none)) else (if x6_1.size + 1 ≤ 9223372036854775807 then (impl_textOf.l1 k1 l0 (x6_1 ++ (⟨#[62]⟩ : ByteArray)) t246 (t246.length : Int) 0 ((rd_T38 l0 a1).f0) ((rd_T38 l0 a1).f1) ((rd_T38 l0 a1).f2) ((rd_T38 l0 a1).f3)) else (none))) = some r := H
        have A28 := Aside0.mk A280
        clear A280
        by_cases c29 : (t246.length : Int) = 0
        ·rw [if_pos c29] at H
         have c29b0 : ((t246.length : Int) == 0) = true := beq_iff_eq.mpr c29
         have c29b1 : ((t246.length : Int) != 0) = false := bne_eq_false_iff_eq.mpr c29
         clear c29
         by_cases c30 : x6_1.size + 2 ≤ 9223372036854775807
         ·rw [if_pos c30] at H
          have c30b0 := eq_true c30
          have c30b1 : decide (x6_1.size + 2 ≤ 9223372036854775807) = true := decide_eq_true c30
          try have c30b2 : (9223372036854775807 < x6_1.size + 2) = False := eq_false (Nat.not_lt.2 c30)
          obtain rfl := Option.some.inj H
          go_wp2_with (first | ((with_reducible refine gate_callee (f := 30) rfl ?_); refine goesL_ (some 46) rfl rfl Tryz.func30 (by kernel_rfl) rfl #[.slice (some ad240) l0.length c0, .int .i64 a1] rfl au_ ?_; (with_reducible refine (impl_childrenOf.calls k1 _ _ l0 a1 t246 _ ?side1 ?side2 A28.out).mono ?_); (case side1 => exact cs_ (Kd.C_below HR0.out HB.out)); (case side2 => exact HC0.out); rintro e w31 ⟨v247, rfl, ho0, hb⟩; refine ⟨_, rfl, ?_⟩; have n0_ := Aside0.mk (Kd.R_lower ho0 (below_size bes_)); have n1_ := Aside0.mk (blk_below (g := gb241) (o := .cells #[.string ((rd_T38 l0 a1).f0), .int .i64 ((rd_T38 l0 a1).f1), .slice A240_2 ((rd_T38 l0 a1).f2).length c240_2, .string ((rd_T38 l0 a1).f3)] 38 (0, 0)) (bk_ BK241.out) hb); have n2_ := Aside0.mk (below_step bes_ hb); clear BK241; clear HB; have HO248 := n0_; have BK241 := n1_; have HB := n2_; clear n0_ n1_ n2_; (try clear hb);(try clear hb2);(try clear hk);(try clear hi);(try clear ho0); obtain ⟨Ao32, co32, eo32⟩ := Kd.R_slice HO248.out; subst eo32))
          go_ret
          exact ⟨er_, bes_⟩
         ·rw [if_neg c30] at H
          exact absurd H (by simp)
        ·rw [if_neg c29] at H
         have c29b0 : ((t246.length : Int) == 0) = false := beq_eq_false_iff_ne.mpr c29
         have c29b1 : ((t246.length : Int) != 0) = true := bne_iff_ne.mpr c29
         have c29b2 : ¬ (t246 = []) := fun h_ => c29 (by rw [h_]; rfl)
         by_cases c33 : x6_1.size + 1 ≤ 9223372036854775807
         ·rw [if_pos c33] at H
          have c33b0 := eq_true c33
          have c33b1 : decide (x6_1.size + 1 ≤ 9223372036854775807) = true := decide_eq_true c33
          try have c33b2 : (9223372036854775807 < x6_1.size + 1) = False := eq_false (Nat.not_lt.2 c33)
          have H' := Aside0.mk H
          clear H
          go_wp2_with (first | ((with_reducible refine gate_callee (f := 30) rfl ?_); refine goesL_ (some 46) rfl rfl Tryz.func30 (by kernel_rfl) rfl #[.slice (some ad240) l0.length c0, .int .i64 a1] rfl au_ ?_; (with_reducible refine (impl_childrenOf.calls k1 _ _ l0 a1 t246 _ ?side1 ?side2 A28.out).mono ?_); (case side1 => exact cs_ (Kd.C_below HR0.out HB.out)); (case side2 => exact HC0.out); rintro e w34 ⟨v247, rfl, ho0, hb⟩; refine ⟨_, rfl, ?_⟩; have n0_ := Aside0.mk (Kd.R_lower ho0 (below_size bes_)); have n1_ := Aside0.mk (blk_below (g := gb241) (o := .cells #[.string ((rd_T38 l0 a1).f0), .int .i64 ((rd_T38 l0 a1).f1), .slice A240_2 ((rd_T38 l0 a1).f2).length c240_2, .string ((rd_T38 l0 a1).f3)] 38 (0, 0)) (bk_ BK241.out) hb); have n2_ := Aside0.mk (below_step bes_ hb); clear BK241; clear HB; have HO248 := n0_; have BK241 := n1_; have HB := n2_; clear n0_ n1_ n2_; (try clear hb);(try clear hb2);(try clear hk);(try clear hi);(try clear ho0); obtain ⟨Ao35, co35, eo35⟩ := Kd.R_slice HO248.out; subst eo35))
          go_loopg [6, 56] k1 (fun kq v6 v56 w' => ∃ (x6_2 : ByteArray) (x56_2 : Int), v6 = .string x6_2 ∧ v56 = .int .i64 x56_2 ∧ Aside0 (impl_textOf.l1 kq l0 x6_2 t246 (t246.length : Int) x56_2 ((rd_T38 l0 a1).f0) ((rd_T38 l0 a1).f1) ((rd_T38 l0 a1).f2) ((rd_T38 l0 a1).f3) = some r) ∧ Aside0 (kq ≤ k1) ∧ Aside0 (Kd.R (Kd.int .i64) 3 w' w.heap.size (fun _ => True) (.slice Ao35 t246.length co35) t246) ∧ Aside0 (w'.heap[gb241]? = some (.cells #[.string ((rd_T38 l0 a1).f0), .int .i64 ((rd_T38 l0 a1).f1), (.slice A240_2 ((rd_T38 l0 a1).f2).length c240_2), .string ((rd_T38 l0 a1).f3)] 38 (0, 0))) ∧ Aside0 (Below w.heap.size w w'))
          case atStart => exact ⟨(x6_1 ++ (⟨#[62]⟩ : ByteArray)), (0), sv_, sv_, H', ⟨Nat.le_refl _⟩, ⟨by (with_reducible repeat (first | apply Kd.R_alloc | apply Kd.R_drewN | apply Kd.R_drew)); exact HO248.out⟩, ⟨by (with_reducible repeat (first | refine blk_drewN ?_ _ | refine blk_drew ?_ | refine blk_alloc ?_ _)); exact BK241.out⟩, ⟨bes_⟩⟩
          case round =>
           clear H'
           (try clear c1);(try clear c2);(try clear p2);(try clear q2);(try clear hx2);(try clear c3);(try clear c3b0);(try clear c4);(try clear c4b0);(try clear c5);(try clear c5b0 c5b1);(try clear p6);(try clear c10);(try clear c10b0 c10b1 c10b2);(try clear c13);(try clear c13b0);(try clear c14);(try clear c14b0);(try clear c15);(try clear c15b0);(try clear c16);(try clear c16b0 c16b1 c16b2);(try clear c17);(try clear c17b0 c17b1 c17b2);(try clear c19);(try clear c19b0 c19b1 c19b2);(try clear c20);(try clear c20b0 c20b1 c20b2);(try clear c21);(try clear c21b0 c21b1 c21b2);(try clear c23);(try clear c24);(try clear p24);(try clear q24);(try clear hx24);(try clear c29);(try clear c29b0 c29b1 c29b2);(try clear c30);(try clear c30b0)
           (try clear c30b1 c30b2);(try clear c33);(try clear c33b0 c33b1 c33b2);(try clear hcz12_0 hcz12_1 hcz12_2 hcz12_3);(try clear hcz24_0 hcz24_1);(try clear hcz8_0 hcz8_1 hcz8_2 hcz8_3);(try clear hfz12_0 hfz12_1 hfz12_2 hfz12_3);(try clear hfz24_0 hfz24_1);(try clear hfz8_0 hfz8_1 hfz8_2 hfz8_3);(try clear hx240_0);(try clear hx240_1);(try clear hx240_2);(try clear hx240_3);(try clear hx243_0);(try clear hx243_1);(try clear p2);(try clear p240);(try clear p243);(try clear q2);(try clear q240);(try clear q243)
           obtain ⟨x6_2, x56_2, rfl, rfl, HA, HK2, HO_54, BK241, HB⟩ := hrel
           cases gk with
           | zero => exact absurd HA.out (by simp [impl_textOf.l1])
           | succ k2 =>
            have H := HA.out
            clear HA
            simp only [impl_textOf.l1] at H
            by_cases c36 : x56_2 < (t246.length : Int)
            ·rw [if_pos c36] at H
             have c36b0 : decide (x56_2 < (t246.length : Int)) = true := decide_eq_true c36
             clear c36
             by_cases c37 : 0 ≤ x56_2
             ·rw [if_pos c37] at H
              have c37b0 : decide (0 ≤ x56_2) = true := decide_eq_true c37
              clear c37
              by_cases c38 : x56_2 < (t246.length : Int)
              ·rw [if_pos c38] at H
               have c38b0 : decide (x56_2 < (t246.length : Int)) = true := decide_eq_true c38
               clear c38
               replace H := Option.bind_eq_some_iff.mp H
               obtain ⟨t250, A390, H⟩ := H
               replace H : (if x6_2.size + t250.size ≤ 9223372036854775807 then (impl_textOf.l1 k2 l0 (x6_2 ++ t250) t246 (t246.length : Int) (wrap64 (x56_2 + 1)) ((rd_T38 l0 a1).f0) ((rd_T38 l0 a1).f1) ((rd_T38 l0 a1).f2) ((rd_T38 l0 a1).f3)) else (none)) = some r := H
               have A39 := Aside0.mk A390
               clear A390
               by_cases c40 : x6_2.size + t250.size ≤ 9223372036854775807
               ·rw [if_pos c40] at H
                have c40b0 := eq_true c40
                have c40b1 : decide (x6_2.size + t250.size ≤ 9223372036854775807) = true := decide_eq_true c40
                try have c40b2 : (9223372036854775807 < x6_2.size + t250.size) = False := eq_false (Nat.not_lt.2 c40)
                have H' := Aside0.mk H
                clear H
                have p249 : 0 ≤ (x56_2 : Int) := of_decide_eq_true am_
                have q249 : x56_2 < (t246.length : Int) := of_decide_eq_true am_
                obtain ⟨ad249, e249, hx249_0⟩ := Kd.at_int (Kd.R_reads' HO_54.out).2.2 x56_2 p249 q249
                cases e249
                replace p249 := eq_true p249
                replace q249 := eq_true q249
                go_wp2_with (first | ((with_reducible refine gate_callee (f := 14) rfl ?_); refine goesL_ (some 63) rfl rfl Tryz.func14 (by kernel_rfl) rfl #[.slice (some ad240) l0.length c0, .int .i64 (rd t246 x56_2)] rfl au_ ?_; (with_reducible refine (ih k2 (by have := HK1.out; have := HK2.out; omega) _ _ l0 (rd t246 x56_2) t250 _ ?side1 ?side2 A39.out).mono ?_); (case side1 => exact cs_ (Kd.C_below HR0.out HB.out)); (case side2 => exact HC0.out); rintro e w41 ⟨rfl, hb⟩; refine ⟨_, rfl, ?_⟩; have n0_ := Aside0.mk (Kd.R_below (kdR_ HO_54.out) hb); have n1_ := Aside0.mk (blk_below (g := gb241) (o := .cells #[.string ((rd_T38 l0 a1).f0), .int .i64 ((rd_T38 l0 a1).f1), .slice A240_2 ((rd_T38 l0 a1).f2).length c240_2, .string ((rd_T38 l0 a1).f3)] 38 (0, 0)) (bk_ BK241.out) hb); have n2_ := Aside0.mk (below_step bes_ hb); clear HO_54; clear BK241; clear HB; have HO_54 := n0_; have BK241 := n1_; have HB := n2_; clear n0_ n1_ n2_; (try clear hb);(try clear hb2);(try clear hk);(try clear hi)))
                go_roundg k2
                case measure => have := HK1.out; have := HK2.out; omega
                case rel => exact ⟨(x6_2 ++ t250), (wrap64 (x56_2 + 1)), sv_, sv_, H', ⟨by have := HK1.out; have := HK2.out; omega⟩, ⟨by (with_reducible repeat (first | apply Kd.R_alloc | apply Kd.R_drewN | apply Kd.R_drew)); exact HO_54.out⟩, ⟨by (with_reducible repeat (first | refine blk_drewN ?_ _ | refine blk_drew ?_ | refine blk_alloc ?_ _)); exact BK241.out⟩, ⟨bes_⟩⟩
               ·rw [if_neg c40] at H
                exact absurd H (by simp)
              ·rw [if_neg c38] at H
               exact absurd H (by simp)
             ·rw [if_neg c37] at H
              exact absurd H (by simp)
            ·rw [if_neg c36] at H
             have c36b0 : decide (x56_2 < (t246.length : Int)) = false := decide_eq_false c36
             clear c36
             by_cases c42 : x6_2.size + 2 ≤ 9223372036854775807
             ·rw [if_pos c42] at H
              have c42b0 := eq_true c42
              have c42b1 : decide (x6_2.size + 2 ≤ 9223372036854775807) = true := decide_eq_true c42
              try have c42b2 : (9223372036854775807 < x6_2.size + 2) = False := eq_false (Nat.not_lt.2 c42)
              by_cases c43 : (x6_2 ++ (⟨#[60, 47]⟩ : ByteArray)).size + ((rd_T38 l0 a1).f0).size ≤ 9223372036854775807
              ·rw [if_pos c43] at H
               have c43b0 := eq_true c43
               have c43b1 : decide ((x6_2 ++ (⟨#[60, 47]⟩ : ByteArray)).size + ((rd_T38 l0 a1).f0).size ≤ 9223372036854775807) = true := decide_eq_true c43
               try have c43b2 : (9223372036854775807 < (x6_2 ++ (⟨#[60, 47]⟩ : ByteArray)).size + ((rd_T38 l0 a1).f0).size) = False := eq_false (Nat.not_lt.2 c43)
               try have c43b3 : (9223372036854775807 < (x6_2.size + 2) + ((rd_T38 l0 a1).f0).size) = False := by have h9_ := c43b2; simp only [ByteArray.size_append] at h9_; exact h9_
               try have c43b7 : (9223372036854775807 < (x6_2.size + 2) + ((rd_T38 l0 a1).f0).size) = False := by have h9_ := c43b2; simp only [ByteArray.size_append] at h9_; exact h9_
               by_cases c44 : ((x6_2 ++ (⟨#[60, 47]⟩ : ByteArray)) ++ ((rd_T38 l0 a1).f0)).size + 1 ≤ 9223372036854775807
               ·rw [if_pos c44] at H
                have c44b0 := eq_true c44
                have c44b1 : decide (((x6_2 ++ (⟨#[60, 47]⟩ : ByteArray)) ++ ((rd_T38 l0 a1).f0)).size + 1 ≤ 9223372036854775807) = true := decide_eq_true c44
                try have c44b2 : (9223372036854775807 < ((x6_2 ++ (⟨#[60, 47]⟩ : ByteArray)) ++ ((rd_T38 l0 a1).f0)).size + 1) = False := eq_false (Nat.not_lt.2 c44)
                try have c44b7 : (9223372036854775807 < ((x6_2.size + 2) + ((rd_T38 l0 a1).f0).size) + 1) = False := by have h9_ := c44b2; simp only [ByteArray.size_append] at h9_; exact h9_
                obtain rfl := Option.some.inj H
                have hcz45_0 := bc4_0 BK241.out
                have hcz45_1 := bc4_1 BK241.out
                have hcz45_2 := bc4_2 BK241.out
                have hcz45_3 := bc4_3 BK241.out
                have hfz45_0 := blk_frozen BK241.out 0
                have hfz45_1 := blk_frozen BK241.out 1
                have hfz45_2 := blk_frozen BK241.out 2
                have hfz45_3 := blk_frozen BK241.out 3
                go_wp2
                go_ret
                exact ⟨er_, bes_⟩
               ·rw [if_neg c44] at H
                exact absurd H (by simp)
              ·rw [if_neg c43] at H
               exact absurd H (by simp)
             ·rw [if_neg c42] at H
              exact absurd H (by simp)
         ·rw [if_neg c33] at H
          exact absurd H (by simp)
    ·rw [if_neg c10] at H
     exact absurd H (by simp)
  ·rw [if_neg c4] at H
   exact absurd H (by simp)
 ·rw [if_neg c3] at H
  exact absurd H (by simp)

/-! ### impl_MarksText: function 7 -/
def impl_MarksText.f (k : Nat) (l0 : List (S38)) : Option (ByteArray × Bool) := (impl_GoodNodes.f k l0).bind fun t251 => (if t251 = true then ((impl_textOf.f k l0 0).bind fun t252 => (if (t252.size : Int) > 3000 then (some ((⟨#[]⟩ : ByteArray), false)) else (some (t252, true)))) else (some ((⟨#[]⟩ : ByteArray), false)))
set_option maxHeartbeats 8000000 in
set_option maxRecDepth 100000 in
theorem impl_MarksText.calls (k : Nat) (A0 : Option Addr) (c0 : Nat) (l0 : List (S38)) (r1 : ByteArray) (r2 : Bool) (w : World) (hr0 : Kd.C k38 w A0 l0.length l0) (hc0 : l0.length ≤ c0) (h : impl_MarksText.f k l0 = some (r1, r2)) (hT_ : U8Tabs_ w) :
  Calls Tryz.prog 7 #[.slice A0 l0.length c0] w fun e w' => e = .returned (.tuple #[.string r1, .bool r2]) ∧ Below w.heap.size w w' := by
 have HR0 := Aside0.mk hr0
 have HC0 := Aside0.mk hc0
 clear hr0 hc0
 have HB := Aside0.mk (Below.refl w.heap.size w)
 have H : ((impl_GoodNodes.f k l0).bind fun t251 => (if t251 = true then ((impl_textOf.f k l0 0).bind fun t252 => (if (t252.size : Int) > 3000 then (some ((⟨#[]⟩ : ByteArray), false)) else (some (t252, true)))) else (some ((⟨#[]⟩ : ByteArray), false)))) = some (r1, r2) := h
 clear h
 replace H := Option.bind_eq_some_iff.mp H
 obtain ⟨t251, A20, H⟩ := H
 replace H : (if t251 = true then ((impl_textOf.f k l0 0).bind fun t252 => (if (t252.size : Int) > 3000 then (some ((⟨#[]⟩ : ByteArray), false)) else (some (t252, true)))) else (some ((⟨#[]⟩ : ByteArray), false))) = some (r1, r2) := H
 have A2 := Aside0.mk A20
 clear A20
 by_cases c3 : t251 = true
 ·subst c3
  have H1 : ((impl_textOf.f k l0 0).bind fun t252 => (if (t252.size : Int) > 3000 then (some ((⟨#[]⟩ : ByteArray), false)) else (some (t252, true)))) = some (r1, r2) := by rw [if_pos rfl] at H; exact H
  clear H
  have H := H1
  clear H1
  replace H := Option.bind_eq_some_iff.mp H
  obtain ⟨t252, A40, H⟩ := H
  replace H : (if (t252.size : Int) > 3000 then (some ((⟨#[]⟩ : ByteArray), false)) else (some (t252, true))) = some (r1, r2) := H
  have A4 := Aside0.mk A40
  clear A40
  by_cases c5 : (t252.size : Int) > 3000
  ·rw [if_pos c5] at H
   have c5b0 : decide (3000 < (t252.size : Int)) = true := decide_eq_true c5
   have c5b1 : decide (3000 < t252.size) = true := decide_eq_true (by omega)
   clear c5
   simp only [Option.some.injEq, Prod.mk.injEq] at H
   obtain ⟨rfl, rfl⟩ := H
   go_enter Tryz.func7, Tryz.ntmps7
   go_wp2_with (first | ((with_reducible refine gate_callee (f := 13) rfl ?_); refine goesL_ (some 6) rfl rfl Tryz.func13 (by kernel_rfl) rfl #[.slice A0 l0.length c0] rfl au_ ?_; (with_reducible refine (impl_GoodNodes.calls k _ _ l0 true _ ?side1 ?side2 A2.out ?hT_).mono ?_); (case hT_ => exact utf8_keep_ hT_ bel_); (case side1 => exact cs_ HR0.out); (case side2 => exact HC0.out); rintro e w6 ⟨rfl, hb⟩; refine ⟨_, rfl, ?_⟩; have n0_ := Aside0.mk (below_step bel_ hb); clear HB; have HB := n0_; clear n0_; (try clear hb);(try clear hb2);(try clear hk);(try clear hi)) | ((with_reducible refine gate_callee (f := 14) rfl ?_); refine goesL_ (some 9) rfl rfl Tryz.func14 (by kernel_rfl) rfl #[.slice A0 l0.length c0, .int .i64 0] rfl au_ ?_; (with_reducible refine (impl_textOf.calls k _ _ l0 0 t252 _ ?side1 ?side2 A4.out).mono ?_); (case side1 => exact cs_ (Kd.C_below HR0.out HB.out)); (case side2 => exact HC0.out); rintro e w7 ⟨rfl, hb⟩; refine ⟨_, rfl, ?_⟩; have n0_ := Aside0.mk (below_step bel_ hb); clear HB; have HB := n0_; clear n0_; (try clear hb);(try clear hb2);(try clear hk);(try clear hi)))
   go_ret2
   exact ⟨er_, bel_⟩
  ·rw [if_neg c5] at H
   have c5b0 : decide (3000 < (t252.size : Int)) = false := decide_eq_false c5
   have c5b1 : decide (3000 < t252.size) = false := decide_eq_false (by omega)
   clear c5
   simp only [Option.some.injEq, Prod.mk.injEq] at H
   obtain ⟨rfl, rfl⟩ := H
   go_enter Tryz.func7, Tryz.ntmps7
   go_wp2_with (first | ((with_reducible refine gate_callee (f := 13) rfl ?_); refine goesL_ (some 6) rfl rfl Tryz.func13 (by kernel_rfl) rfl #[.slice A0 l0.length c0] rfl au_ ?_; (with_reducible refine (impl_GoodNodes.calls k _ _ l0 true _ ?side1 ?side2 A2.out ?hT_).mono ?_); (case hT_ => exact utf8_keep_ hT_ bel_); (case side1 => exact cs_ HR0.out); (case side2 => exact HC0.out); rintro e w8 ⟨rfl, hb⟩; refine ⟨_, rfl, ?_⟩; have n0_ := Aside0.mk (below_step bel_ hb); clear HB; have HB := n0_; clear n0_; (try clear hb);(try clear hb2);(try clear hk);(try clear hi)) | ((with_reducible refine gate_callee (f := 14) rfl ?_); refine goesL_ (some 9) rfl rfl Tryz.func14 (by kernel_rfl) rfl #[.slice A0 l0.length c0, .int .i64 0] rfl au_ ?_; (with_reducible refine (impl_textOf.calls k _ _ l0 0 t252 _ ?side1 ?side2 A4.out).mono ?_); (case side1 => exact cs_ (Kd.C_below HR0.out HB.out)); (case side2 => exact HC0.out); rintro e w9 ⟨rfl, hb⟩; refine ⟨_, rfl, ?_⟩; have n0_ := Aside0.mk (below_step bel_ hb); clear HB; have HB := n0_; clear n0_; (try clear hb);(try clear hb2);(try clear hk);(try clear hi)))
   go_ret2
   exact ⟨er_, bel_⟩
 ·replace c3 := Bool.eq_false_iff.mpr c3
  subst c3
  have H1 : (some ((⟨#[]⟩ : ByteArray), false)) = some (r1, r2) := by rw [if_neg (show ¬ (false = true) by decide)] at H; exact H
  clear H
  have H := H1
  clear H1
  simp only [Option.some.injEq, Prod.mk.injEq] at H
  obtain ⟨rfl, rfl⟩ := H
  go_enter Tryz.func7, Tryz.ntmps7
  go_wp2_with (first | ((with_reducible refine gate_callee (f := 13) rfl ?_); refine goesL_ (some 6) rfl rfl Tryz.func13 (by kernel_rfl) rfl #[.slice A0 l0.length c0] rfl au_ ?_; (with_reducible refine (impl_GoodNodes.calls k _ _ l0 false _ ?side1 ?side2 A2.out ?hT_).mono ?_); (case hT_ => exact utf8_keep_ hT_ bel_); (case side1 => exact cs_ HR0.out); (case side2 => exact HC0.out); rintro e w10 ⟨rfl, hb⟩; refine ⟨_, rfl, ?_⟩; have n0_ := Aside0.mk (below_step bel_ hb); clear HB; have HB := n0_; clear n0_; (try clear hb);(try clear hb2);(try clear hk);(try clear hi)))
  go_ret2
  exact ⟨er_, bel_⟩

/-! ### laws_eqAttr: function 44 -/
def laws_eqAttr.f (a0_0 : ByteArray) (a0_1 : ByteArray) (a1_0 : ByteArray) (a1_1 : ByteArray) : Option (Bool) := if a0_0.toList = a1_0.toList then (if a0_1.toList = a1_1.toList then (some true) else (some false)) else (some false)
set_option maxHeartbeats 8000000 in
set_option maxRecDepth 100000 in
theorem laws_eqAttr.calls (a0_0 : ByteArray) (a0_1 : ByteArray) (a1_0 : ByteArray) (a1_1 : ByteArray) (r : Bool) (w : World) (h : laws_eqAttr.f a0_0 a0_1 a1_0 a1_1 = some r) :
  Calls Tryz.prog 44 #[.agg #[.string a0_0, .string a0_1], .agg #[.string a1_0, .string a1_1]] w fun e w' => e = .returned (.bool r) ∧ Below w.heap.size w w' := by
 have hu49 := Tryz.underlying49
 have HB := Aside0.mk (Below.refl w.heap.size w)
 have H : (if a0_0.toList = a1_0.toList then (if a0_1.toList = a1_1.toList then (some true) else (some false)) else (some false)) = some r := h
 clear h
 by_cases c3 : a0_0.toList = a1_0.toList
 ·rw [if_pos c3] at H
  have c3b0 : (a0_0.toList == a1_0.toList) = true := beq_iff_eq.mpr c3
  have c3b1 : (a0_0.toList != a1_0.toList) = false := bne_eq_false_iff_eq.mpr c3
  clear c3
  by_cases c4 : a0_1.toList = a1_1.toList
  ·rw [if_pos c4] at H
   have c4b0 : (a0_1.toList == a1_1.toList) = true := beq_iff_eq.mpr c4
   have c4b1 : (a0_1.toList != a1_1.toList) = false := bne_eq_false_iff_eq.mpr c4
   clear c4
   obtain rfl := Option.some.inj H
   go_enter Tryz.func44, Tryz.ntmps44
   go_wp2_with (first | ((with_reducible refine gate_dst (N := 2) rfl ?_); refine box_event ?hg (N := 2) ?hd (cs := #[.string a0_0, .string a0_1]) (t := 49) ?hr ?_; (case hd => rfl); (case hg => rfl); (case hr => first | (go_simp; done) | (go_simp; rfl)); intro gb253 hg w5 hbox hb; have n0_ := Aside0.mk (below_step bel_ hb); have n1_ := Aside0.mk (hbox); have n2_ := Aside0.mk ((by rw [hg]; exact (below_size bel_) : w.heap.size ≤ gb253)); have n3_ := Aside0.mk ((by rw [hg]; exact (below_size bel_) : w.heap.size ≤ gb253)); clear HB; have HB := n0_; have BK253 := n1_; have GW253 := n2_; have GE253 := n3_; clear n0_ n1_ n2_ n3_; clear hb hbox hg) | ((with_reducible refine gate_dst (N := 3) rfl ?_); refine box_event ?hg (N := 3) ?hd (cs := #[.string a1_0, .string a1_1]) (t := 49) ?hr ?_; (case hd => rfl); (case hg => rfl); (case hr => first | (go_simp; done) | (go_simp; rfl)); intro gb254 hg w6 hbox hb; have n0_ := Aside0.mk (blk_below (g := gb253) (o := .cells #[.string a0_0, .string a0_1] 49 (0, 0)) (bk_ BK253.out) hb); have n1_ := Aside0.mk (below_step bes_ hb); have n2_ := Aside0.mk (hbox); have n3_ := Aside0.mk ((by rw [hg]; exact (below_size bes_) : w.heap.size ≤ gb254)); have n4_ := Aside0.mk ((by rw [hg]; exact (below_size bes_) : w.heap.size ≤ gb254)); have n5_ := Aside0.mk ((by rw [hg]; exact Nat.ne_of_lt (blk_lt (g := gb253) (o := .cells #[.string a0_0, .string a0_1] 49 (0, 0)) (bk_ BK253.out)) : gb253 ≠ gb254)); have n6_ := Aside0.mk ((by rw [hg]; exact Nat.ne_of_gt (blk_lt (g := gb253) (o := .cells #[.string a0_0, .string a0_1] 49 (0, 0)) (bk_ BK253.out)) : gb254 ≠ gb253)); clear BK253; clear HB; have BK253 := n0_; have HB := n1_; have BK254 := n2_; have GW254 := n3_; have GE254 := n4_; have NB253_254 := n5_; have NB254_253 := n6_; clear n0_ n1_ n2_ n3_ n4_ n5_ n6_; clear hb hbox hg; have hnb7 := NB253_254.out; have hnc7 := NB254_253.out; have hcz8_0 := bc2_0 BK253.out; have hcz8_1 := bc2_1 BK253.out; have hfz8_0 := blk_frozen BK253.out 0; have hfz8_1 := blk_frozen BK253.out 1; have hcz9_0 := bc2_0 BK254.out; have hcz9_1 := bc2_1 BK254.out; have hfz9_0 := blk_frozen BK254.out 0; have hfz9_1 := blk_frozen BK254.out 1))
   go_ret
   exact ⟨er_, bes_⟩
  ·rw [if_neg c4] at H
   have c4b0 : (a0_1.toList == a1_1.toList) = false := beq_eq_false_iff_ne.mpr c4
   have c4b1 : (a0_1.toList != a1_1.toList) = true := bne_iff_ne.mpr c4
   obtain rfl := Option.some.inj H
   go_enter Tryz.func44, Tryz.ntmps44
   go_wp2_with (first | ((with_reducible refine gate_dst (N := 2) rfl ?_); refine box_event ?hg (N := 2) ?hd (cs := #[.string a0_0, .string a0_1]) (t := 49) ?hr ?_; (case hd => rfl); (case hg => rfl); (case hr => first | (go_simp; done) | (go_simp; rfl)); intro gb253 hg w10 hbox hb; have n0_ := Aside0.mk (below_step bel_ hb); have n1_ := Aside0.mk (hbox); have n2_ := Aside0.mk ((by rw [hg]; exact (below_size bel_) : w.heap.size ≤ gb253)); have n3_ := Aside0.mk ((by rw [hg]; exact (below_size bel_) : w.heap.size ≤ gb253)); clear HB; have HB := n0_; have BK253 := n1_; have GW253 := n2_; have GE253 := n3_; clear n0_ n1_ n2_ n3_; clear hb hbox hg) | ((with_reducible refine gate_dst (N := 3) rfl ?_); refine box_event ?hg (N := 3) ?hd (cs := #[.string a1_0, .string a1_1]) (t := 49) ?hr ?_; (case hd => rfl); (case hg => rfl); (case hr => first | (go_simp; done) | (go_simp; rfl)); intro gb254 hg w11 hbox hb; have n0_ := Aside0.mk (blk_below (g := gb253) (o := .cells #[.string a0_0, .string a0_1] 49 (0, 0)) (bk_ BK253.out) hb); have n1_ := Aside0.mk (below_step bes_ hb); have n2_ := Aside0.mk (hbox); have n3_ := Aside0.mk ((by rw [hg]; exact (below_size bes_) : w.heap.size ≤ gb254)); have n4_ := Aside0.mk ((by rw [hg]; exact (below_size bes_) : w.heap.size ≤ gb254)); have n5_ := Aside0.mk ((by rw [hg]; exact Nat.ne_of_lt (blk_lt (g := gb253) (o := .cells #[.string a0_0, .string a0_1] 49 (0, 0)) (bk_ BK253.out)) : gb253 ≠ gb254)); have n6_ := Aside0.mk ((by rw [hg]; exact Nat.ne_of_gt (blk_lt (g := gb253) (o := .cells #[.string a0_0, .string a0_1] 49 (0, 0)) (bk_ BK253.out)) : gb254 ≠ gb253)); clear BK253; clear HB; have BK253 := n0_; have HB := n1_; have BK254 := n2_; have GW254 := n3_; have GE254 := n4_; have NB253_254 := n5_; have NB254_253 := n6_; clear n0_ n1_ n2_ n3_ n4_ n5_ n6_; clear hb hbox hg; have hnb12 := NB253_254.out; have hnc12 := NB254_253.out; have hcz13_0 := bc2_0 BK253.out; have hcz13_1 := bc2_1 BK253.out; have hfz13_0 := blk_frozen BK253.out 0; have hfz13_1 := blk_frozen BK253.out 1; have hcz14_0 := bc2_0 BK254.out; have hcz14_1 := bc2_1 BK254.out; have hfz14_0 := blk_frozen BK254.out 0; have hfz14_1 := blk_frozen BK254.out 1))
   go_ret
   exact ⟨er_, bes_⟩
 ·rw [if_neg c3] at H
  have c3b0 : (a0_0.toList == a1_0.toList) = false := beq_eq_false_iff_ne.mpr c3
  have c3b1 : (a0_0.toList != a1_0.toList) = true := bne_iff_ne.mpr c3
  obtain rfl := Option.some.inj H
  go_enter Tryz.func44, Tryz.ntmps44
  go_wp2_with (first | ((with_reducible refine gate_dst (N := 2) rfl ?_); refine box_event ?hg (N := 2) ?hd (cs := #[.string a0_0, .string a0_1]) (t := 49) ?hr ?_; (case hd => rfl); (case hg => rfl); (case hr => first | (go_simp; done) | (go_simp; rfl)); intro gb253 hg w15 hbox hb; have n0_ := Aside0.mk (below_step bel_ hb); have n1_ := Aside0.mk (hbox); have n2_ := Aside0.mk ((by rw [hg]; exact (below_size bel_) : w.heap.size ≤ gb253)); have n3_ := Aside0.mk ((by rw [hg]; exact (below_size bel_) : w.heap.size ≤ gb253)); clear HB; have HB := n0_; have BK253 := n1_; have GW253 := n2_; have GE253 := n3_; clear n0_ n1_ n2_ n3_; clear hb hbox hg) | ((with_reducible refine gate_dst (N := 3) rfl ?_); refine box_event ?hg (N := 3) ?hd (cs := #[.string a1_0, .string a1_1]) (t := 49) ?hr ?_; (case hd => rfl); (case hg => rfl); (case hr => first | (go_simp; done) | (go_simp; rfl)); intro gb254 hg w16 hbox hb; have n0_ := Aside0.mk (blk_below (g := gb253) (o := .cells #[.string a0_0, .string a0_1] 49 (0, 0)) (bk_ BK253.out) hb); have n1_ := Aside0.mk (below_step bes_ hb); have n2_ := Aside0.mk (hbox); have n3_ := Aside0.mk ((by rw [hg]; exact (below_size bes_) : w.heap.size ≤ gb254)); have n4_ := Aside0.mk ((by rw [hg]; exact (below_size bes_) : w.heap.size ≤ gb254)); have n5_ := Aside0.mk ((by rw [hg]; exact Nat.ne_of_lt (blk_lt (g := gb253) (o := .cells #[.string a0_0, .string a0_1] 49 (0, 0)) (bk_ BK253.out)) : gb253 ≠ gb254)); have n6_ := Aside0.mk ((by rw [hg]; exact Nat.ne_of_gt (blk_lt (g := gb253) (o := .cells #[.string a0_0, .string a0_1] 49 (0, 0)) (bk_ BK253.out)) : gb254 ≠ gb253)); clear BK253; clear HB; have BK253 := n0_; have HB := n1_; have BK254 := n2_; have GW254 := n3_; have GE254 := n4_; have NB253_254 := n5_; have NB254_253 := n6_; clear n0_ n1_ n2_ n3_ n4_ n5_ n6_; clear hb hbox hg; have hnb17 := NB253_254.out; have hnc17 := NB254_253.out; have hcz18_0 := bc2_0 BK253.out; have hcz18_1 := bc2_1 BK253.out; have hfz18_0 := blk_frozen BK253.out 0; have hfz18_1 := blk_frozen BK253.out 1; have hcz19_0 := bc2_0 BK254.out; have hcz19_1 := bc2_1 BK254.out; have hfz19_0 := blk_frozen BK254.out 0; have hfz19_1 := blk_frozen BK254.out 1))
  go_ret
  exact ⟨er_, bes_⟩

end Go.Proofs.YthfbpmjcjiihnaaGreatDoor.PFnExactMarksText
