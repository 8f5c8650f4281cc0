-- Laid by a program of this session out of the translation (its own run of the print). Lean checks it.
import Derived.Test.YthfbpmjcjiihnaaGreatDoorPFnExactMarksTextx0
import Derived.Test.YthfbpmjcjiihnaaGreatDoorPFnExactMarksTextx7
import Derived.Test.YthfbpmjcjiihnaaGreatDoorPFnExactMarksTextx8
namespace Go.Proofs.YthfbpmjcjiihnaaGreatDoor.PFnExactMarksText
open Go.RowKit Go.Proofs.YthfbpmjcjiihnaaGreatDoorW.PrintWords Go.Proofs.YthfbpmjcjiihnaaGreatDoorW.PrintLast Go.Proofs.YthfbpmjcjiihnaaGreatDoorW.PrintMore
attribute [local go_sem] max2_int min2_int max_two min_two max_three min_three max_four min_four   -- for this text's walks alone
set_option linter.unusedVariables false
set_option linter.unusedSimpArgs false

/-! ### impl_GoodNodes: function 13 -/
mutual
def impl_GoodNodes.l0 : Nat → List (S38) → List Int → List (S38) → Int → Int → Option (Bool)
 | 0, _, _, _, _, _ => none
 | k + 1, x0, x3, x13, x14, x15 => if x15 < x14 then (if 0 ≤ x15 then (if x15 < (x13.length : Int) then (if ((rd_T38 x13 x15).f0).toList = ([] : List UInt8) then (if ((rd_T38 x13 x15).f3).toList = ([] : List UInt8) then (impl_GoodNodes.j1 k x0 x3 x15 x13 x14 x15 true ((rd_T38 x13 x15).f0) ((rd_T38 x13 x15).f1) ((rd_T38 x13 x15).f2) ((rd_T38 x13 x15).f3)) else (if (((rd_T38 x13 x15).f2).length : Int) > 0 then (impl_GoodNodes.j1 k x0 x3 x15 x13 x14 x15 true ((rd_T38 x13 x15).f0) ((rd_T38 x13 x15).f1) ((rd_T38 x13 x15).f2) ((rd_T38 x13 x15).f3)) else ((impl_badByte.f k ((rd_T38 x13 x15).f3)).bind fun t220 => (impl_GoodNodes.j1 k x0 x3 x15 x13 x14 x15 (decide (t220 ≥ 0)) ((rd_T38 x13 x15).f0) ((rd_T38 x13 x15).f1) ((rd_T38 x13 x15).f2) ((rd_T38 x13 x15).f3))))) else (impl_GoodNodes.j1 k x0 x3 x15 x13 x14 x15 false ((rd_T38 x13 x15).f0) ((rd_T38 x13 x15).f1) ((rd_T38 x13 x15).f2) ((rd_T38 x13 x15).f3))) else (none)) else (none)) else (some true)
def impl_GoodNodes.j2 : Nat → List (S38) → List Int → Int → List (S38) → Int → Int → ByteArray → Int → List (S49) → ByteArray → Option (Bool)
 | 0, _, _, _, _, _, _, _, _, _, _ => none
 | k + 1, x0, x3, x4, x13, x14, x15, x220000, x220001, x220002, x220003 => if x4 = 0 then (if x220000.toList = ([] : List UInt8) then (some false) else (if x220001 = (-1) then (if 0 < (x3.length : Int) then (impl_GoodNodes.l0 k x0 (x3.set (0 : Int).toNat 1) x13 x14 (wrap64 (x15 + 1))) else (none)) else (some false))) else ((impl_within.f x220001 0 (wrap64 (x4 - 1))).bind fun t224 => (if t224 = true then (if 0 ≤ x220001 then (if x220001 < (x0.length : Int) then (if ((rd_T38 x0 x220001).f0).toList = ([] : List UInt8) then (impl_GoodNodes.j3 k x0 x3 x4 x13 x14 x15 true x220000 x220001 x220002 x220003) else ((impl_isAround.f k x0 x220001 (wrap64 (x4 - 1))).bind fun t226 => (impl_GoodNodes.j3 k x0 x3 x4 x13 x14 x15 (!t226) x220000 x220001 x220002 x220003))) else (none)) else (none)) else (impl_GoodNodes.j3 k x0 x3 x4 x13 x14 x15 true x220000 x220001 x220002 x220003)))
def impl_GoodNodes.j3 : Nat → List (S38) → List Int → Int → List (S38) → Int → Int → Bool → ByteArray → Int → List (S49) → ByteArray → Option (Bool)
 | 0, _, _, _, _, _, _, _, _, _, _, _ => none
 | k + 1, x0, x3, x4, x13, x14, x15, x97, x220000, x220001, x220002, x220003 => if x97 = true then (some false) else (if x220000.toList = ([] : List UInt8) then (if 0 ≤ (wrap64 (x4 - 1)) then (if (wrap64 (x4 - 1)) < (x0.length : Int) then (if ((rd_T38 x0 (wrap64 (x4 - 1))).f0).toList = ([] : List UInt8) then (impl_GoodNodes.j4 k x0 x3 x4 x13 x14 x15 (((rd_T38 x0 (wrap64 (x4 - 1))).f1) == x220001) x220000 x220001 x220002 x220003) else (impl_GoodNodes.j4 k x0 x3 x4 x13 x14 x15 false x220000 x220001 x220002 x220003)) else (none)) else (none)) else (impl_GoodNodes.j4 k x0 x3 x4 x13 x14 x15 false x220000 x220001 x220002 x220003))
def impl_GoodNodes.j4 : Nat → List (S38) → List Int → Int → List (S38) → Int → Int → Bool → ByteArray → Int → List (S49) → ByteArray → Option (Bool)
 | 0, _, _, _, _, _, _, _, _, _, _, _ => none
 | k + 1, x0, x3, x4, x13, x14, x15, x120, x220000, x220001, x220002, x220003 => if x120 = true then (some false) else (if 0 ≤ x220001 then (if x220001 < (x3.length : Int) then (if 0 ≤ x4 then (if x4 < (x3.length : Int) then ((some (x3.set (x4 : Int).toNat (wrap64 ((rd x3 x220001) + 1)) : List Int)).bind fun y230 => (if x220000.toList = ([] : List UInt8) then (impl_GoodNodes.l0 k x0 y230 x13 x14 (wrap64 (x15 + 1))) else (if (rd y230 x4) > 10 then (some false) else (impl_GoodNodes.l0 k x0 y230 x13 x14 (wrap64 (x15 + 1)))))) else (none)) else (none)) else (none)) else (none))
def impl_GoodNodes.j1 : Nat → List (S38) → List Int → Int → List (S38) → Int → Int → Bool → ByteArray → Int → List (S49) → ByteArray → Option (Bool)
 | 0, _, _, _, _, _, _, _, _, _, _, _ => none
 | k + 1, x0, x3, x4, x13, x14, x15, x20, x220000, x220001, x220002, x220003 => if x20 = true then (some false) else (if x220000.toList = ([] : List UInt8) then (impl_GoodNodes.j2 k x0 x3 x4 x13 x14 x15 x220000 x220001 x220002 x220003) else ((impl_isName.f k x220000).bind fun t221 => (if t221 = true then (if x220003.toList = ([] : List UInt8) then ((impl_areAttrs.f k x220002).bind fun t222 => (if t222 = true then (impl_GoodNodes.j2 k x0 x3 x4 x13 x14 x15 x220000 x220001 x220002 x220003) else (some false))) else (some false)) else (some false))))
end
def impl_GoodNodes.f (k : Nat) (l0 : List (S38)) : Option (Bool) := (impl_within.f (l0.length : Int) 1 60).bind fun t214 => (if t214 = true then (if 0 ≤ (l0.length : Int) then (if ((l0.length : Int) : Int).toNat ≤ 35184372088832 then (impl_GoodNodes.l0 k l0 (List.replicate ((l0.length : Int) : Int).toNat 0) l0 (l0.length : Int) 0) else (none)) else (none)) else (some false))
set_option maxHeartbeats 8000000 in
set_option maxRecDepth 100000 in
theorem impl_GoodNodes.calls (k : Nat) (A0 : Option Addr) (c0 : Nat) (l0 : List (S38)) (r : Bool) (w : World) (hr0 : Kd.C k38 w A0 l0.length l0) (hc0 : l0.length ≤ c0) (h : impl_GoodNodes.f k l0 = some r) (hT_ : U8Tabs_ w) :
  Calls Tryz.prog 13 #[.slice A0 l0.length c0] w fun e w' => e = .returned (.bool r) ∧ Below w.heap.size w w' := by
 have hu38 := Tryz.underlying38
 have HR0 := Aside0.mk hr0
 have HC0 := Aside0.mk hc0
 clear hr0 hc0
 have HB := Aside0.mk (Below.refl w.heap.size w)
 have H : ((impl_within.f (l0.length : Int) 1 60).bind fun t214 => (if t214 = true then (if 0 ≤ (l0.length : Int) then (if ((l0.length : Int) : Int).toNat ≤ 35184372088832 then (impl_GoodNodes.l0 k l0 (List.replicate ((l0.length : Int) : Int).toNat 0) l0 (l0.length : Int) 0) else (none)) else (none)) else (some false))) = some r := h
 clear h
 replace H := Option.bind_eq_some_iff.mp H
 obtain ⟨t214, A20, H⟩ := H
 replace H : (if t214 = true then (if 0 ≤ (l0.length : Int) then (if ((l0.length : Int) : Int).toNat ≤ 35184372088832 then (impl_GoodNodes.l0 k l0 (List.replicate ((l0.length : Int) : Int).toNat 0) l0 (l0.length : Int) 0) else (none)) else (none)) else (some false)) = some r := H
 have A2 := Aside0.mk A20
 clear A20
 by_cases c3 : t214 = true
 ·subst c3
  have H1 : (if 0 ≤ (l0.length : Int) then (if ((l0.length : Int) : Int).toNat ≤ 35184372088832 then (impl_GoodNodes.l0 k l0 (List.replicate ((l0.length : Int) : Int).toNat 0) l0 (l0.length : Int) 0) else (none)) else (none)) = some r := by rw [if_pos rfl] at H; exact H
  clear H
  have H := H1
  clear H1
  by_cases c4 : 0 ≤ (l0.length : Int)
  ·rw [if_pos c4] at H
   have c4b0 := eq_true c4
   have c4b1 : decide (0 ≤ (l0.length : Int)) = true := decide_eq_true c4
   clear c4
   by_cases c5 : ((l0.length : Int) : Int).toNat ≤ 35184372088832
   ·rw [if_pos c5] at H
    have c5b0 := eq_true c5
    have c5b1 : decide (((l0.length : Int) : Int).toNat ≤ 35184372088832) = true := decide_eq_true c5
    clear c5
    obtain ⟨y215, hy215⟩ : ∃ y_ : List Int, y_ = (List.replicate ((l0.length : Int) : Int).toNat 0) := ⟨_, rfl⟩
    replace H : (impl_GoodNodes.l0 k l0 y215 l0 (l0.length : Int) 0) = some r := by first | (rw [hy215]; with_reducible exact H) | (have H2_ := (Option.bind_some _ _).symm.trans H; rw [hy215]; with_reducible exact H2_) | (have H2_ := (Option.bind_some _ _).symm.trans H; with_reducible exact H2_) | with_reducible exact H | (rw [hy215]; exact H) | exact H
    have Ny215 := Aside0.mk hy215
    clear hy215
    have H' := Aside0.mk H
    clear H
    go_enter Tryz.func13, Tryz.ntmps13
    go_wp2_with (first | (go_at_call 24; (with_reducible refine (impl_within.calls (l0.length : Int) 1 60 true _ A2.out).mono ?_); rintro e w' ⟨rfl, ⟨nd, rfl⟩⟩; (try exact dd_)) | ((with_reducible refine gate_dst (N := 12) rfl ?_); (try (refine gate_guard (by rfl) ?_; dsimp only)); refine Kd.R_make (Kd.int .i64) _ 3 rfl (N := 12) rfl 51 _ _ rfl (l0.length : Int) rfl rfl Tryz.underlying51 (.int .i64 0) 8 info3 rfl (by decide) (by omega) 0 (ok := fun _ => True) (okp := fun _ => True) rfl (fun _ hk => hk) trivial (of_decide_eq_true am_) (Nat.le_trans (Nat.mul_le_mul_right _ (of_decide_eq_true am_ : (l0.length : Int).toNat ≤ 35184372088832)) (by omega)) (Below.refl _ _) (Nat.le_refl _) ?_; intro v216 w6 ho7 hb hg_ hnew_; clear hg_ hnew_; (first | rw [← Ny215.out] at ho7 | (simp only [Int.reduceToNat] at ho7; rw [← Ny215.out] at ho7)); have n0_ := Aside0.mk (Kd.R_lower ho7 (below_size bel_)); have n1_ := Aside0.mk (below_step bel_ hb); clear HB; have HO217 := n0_; have HB := n1_; clear n0_ n1_; clear hb ho7))
    repeat (go_quiet (first | (go_at_call 24; (with_reducible refine (impl_within.calls (l0.length : Int) 1 60 true _ A2.out).mono ?_); rintro e w' ⟨rfl, ⟨nd, rfl⟩⟩; (try exact dd_)) | ((with_reducible refine gate_dst (N := 12) rfl ?_); (try (refine gate_guard (by rfl) ?_; dsimp only)); refine Kd.R_make (Kd.int .i64) _ 3 rfl (N := 12) rfl 51 _ _ rfl (l0.length : Int) rfl rfl Tryz.underlying51 (.int .i64 0) 8 info3 rfl (by decide) (by omega) 0 (ok := fun _ => True) (okp := fun _ => True) rfl (fun _ hk => hk) trivial (of_decide_eq_true am_) (Nat.le_trans (Nat.mul_le_mul_right _ (of_decide_eq_true am_ : (l0.length : Int).toNat ≤ 35184372088832)) (by omega)) (Below.refl _ _) (Nat.le_refl _) ?_; intro v216 w6 ho7 hb hg_ hnew_; clear hg_ hnew_; (first | rw [← Ny215.out] at ho7 | (simp only [Int.reduceToNat] at ho7; rw [← Ny215.out] at ho7)); have n0_ := Aside0.mk (Kd.R_lower ho7 (below_size bel_)); have n1_ := Aside0.mk (below_step bel_ hb); clear HB; have HO217 := n0_; have HB := n1_; clear n0_ n1_; clear hb ho7)); try go_wp2_with (first | (go_at_call 24; (with_reducible refine (impl_within.calls (l0.length : Int) 1 60 true _ A2.out).mono ?_); rintro e w' ⟨rfl, ⟨nd, rfl⟩⟩; (try exact dd_)) | ((with_reducible refine gate_dst (N := 12) rfl ?_); (try (refine gate_guard (by rfl) ?_; dsimp only)); refine Kd.R_make (Kd.int .i64) _ 3 rfl (N := 12) rfl 51 _ _ rfl (l0.length : Int) rfl rfl Tryz.underlying51 (.int .i64 0) 8 info3 rfl (by decide) (by omega) 0 (ok := fun _ => True) (okp := fun _ => True) rfl (fun _ hk => hk) trivial (of_decide_eq_true am_) (Nat.le_trans (Nat.mul_le_mul_right _ (of_decide_eq_true am_ : (l0.length : Int).toNat ≤ 35184372088832)) (by omega)) (Below.refl _ _) (Nat.le_refl _) ?_; intro v216 w6 ho7 hb hg_ hnew_; clear hg_ hnew_; (first | rw [← Ny215.out] at ho7 | (simp only [Int.reduceToNat] at ho7; rw [← Ny215.out] at ho7)); have n0_ := Aside0.mk (Kd.R_lower ho7 (below_size bel_)); have n1_ := Aside0.mk (below_step bel_ hb); clear HB; have HO217 := n0_; have HB := n1_; clear n0_ n1_; clear hb ho7)))
    go_loopg [15] k (fun kq v15 w' => ∃ (x3_1 : List Int) (x15_1 : Int), v15 = .int .i64 x15_1 ∧ Aside0 (impl_GoodNodes.l0 kq l0 x3_1 l0 (l0.length : Int) x15_1 = some r) ∧ Aside0 (kq ≤ k) ∧ Aside0 (Kd.R (Kd.int .i64) 3 w' w.heap.size (fun _ => True) v216 x3_1) ∧ Aside0 (Below w.heap.size w w'))
    case atStart => exact ⟨(y215), (0), sv_, H', ⟨Nat.le_refl _⟩, ⟨by (with_reducible repeat (first | apply Kd.R_alloc | apply Kd.R_drewN | apply Kd.R_drew)); exact HO217.out⟩, ⟨bel_⟩⟩
    case round =>
     clear H'
     (try clear c1);(try clear p2);(try clear c3);(try clear c4);(try clear c4b0 c4b1);(try clear c5);(try clear c5b0 c5b1)
     obtain ⟨x3_1, x15_1, rfl, HA, HK1, HO_3, HB⟩ := hrel
     cases gk with
     | zero => exact absurd HA.out (by simp [impl_GoodNodes.l0])
     | succ k1 =>
      have H := HA.out
      clear HA
      simp only [impl_GoodNodes.l0] at H
      by_cases c8 : x15_1 < (l0.length : Int)
      ·rw [if_pos c8] at H
       have c8b0 : decide (x15_1 < (l0.length : Int)) = true := decide_eq_true c8
       clear c8
       by_cases c9 : 0 ≤ x15_1
       ·rw [if_pos c9] at H
        have c9b0 : decide (0 ≤ x15_1) = true := decide_eq_true c9
        clear c9
        by_cases c10 : x15_1 < (l0.length : Int)
        ·rw [if_pos c10] at H
         have c10b0 : decide (x15_1 < (l0.length : Int)) = true := decide_eq_true c10
         clear c10
         have HC11 := Aside0.mk H
         clear H
         have p218 : 0 ≤ (x15_1 : Int) := of_decide_eq_true am_
         have q218 : x15_1 < (l0.length : Int) := of_decide_eq_true am_
         obtain ⟨ad218, A218_2, c218_2, e218, hx218_0, hx218_1, hx218_2, hx218_3, hl218_2, hi218_2⟩ := at_T38 HR0.out x15_1 p218 q218
         cases e218
         replace hx218_0 := pw_cell_below HB.out hx218_0
         replace hx218_1 := pw_cell_below HB.out hx218_1
         replace hx218_2 := pw_cell_below HB.out hx218_2
         replace hx218_3 := pw_cell_below HB.out hx218_3
         have HR218_2 := Aside0.mk hi218_2
         have HC218_2 := Aside0.mk hl218_2
         clear hi218_2 hl218_2
         replace p218 := eq_true p218
         replace q218 := eq_true q218
         go_upto_block 2 with (first | ((with_reducible refine gate_dst (N := 5) rfl ?_); (try (refine gate_guard (by rfl) ?_; dsimp only)); refine box_event ?hg (N := 5) ?hd (cs := #[.string (⟨#[]⟩ : ByteArray), .int .i64 0, .slice none 0 0, .string (⟨#[]⟩ : ByteArray)]) (t := 38) ?hr ?_; (case hd => rfl); (case hg => rfl); (case hr => first | (go_simp; done) | (go_simp; rfl)); intro gb219 hg w12 hbox hb; have n0_ := Aside0.mk (Kd.R_below (kdR_ HO_3.out) hb); have n1_ := Aside0.mk (below_step bel_ hb); have n2_ := Aside0.mk (hbox); have n3_ := Aside0.mk ((by rw [hg]; exact (below_size bel_) : w.heap.size ≤ gb219)); have n4_ := Aside0.mk ((by rw [hg]; exact (below_size bel_) : w.heap.size ≤ gb219)); clear HO_3; clear HB; have HO_3 := n0_; have HB := n1_; have BK219 := n2_; have GW219 := n3_; have GE219 := n4_; clear n0_ n1_ n2_ n3_ n4_; clear hb hbox hg; have hcz13_0 := bc4_0 BK219.out; have hcz13_1 := bc4_1 BK219.out; have hcz13_2 := bc4_2 BK219.out; have hcz13_3 := bc4_3 BK219.out; have hfz13_0 := blk_frozen BK219.out 0; have hfz13_1 := blk_frozen BK219.out 1; have hfz13_2 := blk_frozen BK219.out 2; have hfz13_3 := blk_frozen BK219.out 3))
         repeat (go_quiet (first | ((with_reducible refine gate_dst (N := 5) rfl ?_); (try (refine gate_guard (by rfl) ?_; dsimp only)); refine box_event ?hg (N := 5) ?hd (cs := #[.string (⟨#[]⟩ : ByteArray), .int .i64 0, .slice none 0 0, .string (⟨#[]⟩ : ByteArray)]) (t := 38) ?hr ?_; (case hd => rfl); (case hg => rfl); (case hr => first | (go_simp; done) | (go_simp; rfl)); intro gb219 hg w12 hbox hb; have n0_ := Aside0.mk (Kd.R_below (kdR_ HO_3.out) hb); have n1_ := Aside0.mk (below_step bel_ hb); have n2_ := Aside0.mk (hbox); have n3_ := Aside0.mk ((by rw [hg]; exact (below_size bel_) : w.heap.size ≤ gb219)); have n4_ := Aside0.mk ((by rw [hg]; exact (below_size bel_) : w.heap.size ≤ gb219)); clear HO_3; clear HB; have HO_3 := n0_; have HB := n1_; have BK219 := n2_; have GW219 := n3_; have GE219 := n4_; clear n0_ n1_ n2_ n3_ n4_; clear hb hbox hg; have hcz13_0 := bc4_0 BK219.out; have hcz13_1 := bc4_1 BK219.out; have hcz13_2 := bc4_2 BK219.out; have hcz13_3 := bc4_3 BK219.out; have hfz13_0 := blk_frozen BK219.out 0; have hfz13_1 := blk_frozen BK219.out 1; have hfz13_2 := blk_frozen BK219.out 2; have hfz13_3 := blk_frozen BK219.out 3)); go_upto_block 2 with (first | ((with_reducible refine gate_dst (N := 5) rfl ?_); (try (refine gate_guard (by rfl) ?_; dsimp only)); refine box_event ?hg (N := 5) ?hd (cs := #[.string (⟨#[]⟩ : ByteArray), .int .i64 0, .slice none 0 0, .string (⟨#[]⟩ : ByteArray)]) (t := 38) ?hr ?_; (case hd => rfl); (case hg => rfl); (case hr => first | (go_simp; done) | (go_simp; rfl)); intro gb219 hg w12 hbox hb; have n0_ := Aside0.mk (Kd.R_below (kdR_ HO_3.out) hb); have n1_ := Aside0.mk (below_step bel_ hb); have n2_ := Aside0.mk (hbox); have n3_ := Aside0.mk ((by rw [hg]; exact (below_size bel_) : w.heap.size ≤ gb219)); have n4_ := Aside0.mk ((by rw [hg]; exact (below_size bel_) : w.heap.size ≤ gb219)); clear HO_3; clear HB; have HO_3 := n0_; have HB := n1_; have BK219 := n2_; have GW219 := n3_; have GE219 := n4_; clear n0_ n1_ n2_ n3_ n4_; clear hb hbox hg; have hcz13_0 := bc4_0 BK219.out; have hcz13_1 := bc4_1 BK219.out; have hcz13_2 := bc4_2 BK219.out; have hcz13_3 := bc4_3 BK219.out; have hfz13_0 := blk_frozen BK219.out 0; have hfz13_1 := blk_frozen BK219.out 1; have hfz13_2 := blk_frozen BK219.out 2; have hfz13_3 := blk_frozen BK219.out 3)))
         (try simp only [Act.put, List.setIfInBounds_toArray, List.set_cons_zero, List.set_cons_succ])
         go_cut [] (fun wc => ∃ (kq : Nat), Aside0 (impl_GoodNodes.j2 kq l0 x3_1 x15_1 l0 (l0.length : Int) x15_1 ((rd_T38 l0 x15_1).f0) ((rd_T38 l0 x15_1).f1) ((rd_T38 l0 x15_1).f2) ((rd_T38 l0 x15_1).f3) = some r) ∧ Aside0 (kq ≤ k1) ∧ Aside0 (Kd.R (Kd.int .i64) 3 wc w.heap.size (fun _ => True) v216 x3_1) ∧ Aside0 (wc.heap[gb219]? = some (.cells #[.string ((rd_T38 l0 x15_1).f0), .int .i64 ((rd_T38 l0 x15_1).f1), (.slice A218_2 ((rd_T38 l0 x15_1).f2).length c218_2), .string ((rd_T38 l0 x15_1).f3)] 38 (0, 0))) ∧ Aside0 (Below w.heap.size w wc))
         case first =>
          have H := HC11.out
          clear HC11
          have HC14 := Aside0.mk H
          clear H
          go_upto_region 7 with (fail)
          repeat (go_quiet (fail); go_upto_region 7 with (fail))
          go_cut [20] (fun v20 wc => ∃ (kq : Nat) (x20_13 : Bool), v20 = .bool x20_13 ∧ Aside0 (impl_GoodNodes.j1 kq l0 x3_1 x15_1 l0 (l0.length : Int) x15_1 x20_13 ((rd_T38 l0 x15_1).f0) ((rd_T38 l0 x15_1).f1) ((rd_T38 l0 x15_1).f2) ((rd_T38 l0 x15_1).f3) = some r) ∧ Aside0 (kq ≤ k1) ∧ Aside0 (Kd.R (Kd.int .i64) 3 wc w.heap.size (fun _ => True) v216 x3_1) ∧ Aside0 (wc.heap[gb219]? = some (.cells #[.string ((rd_T38 l0 x15_1).f0), .int .i64 ((rd_T38 l0 x15_1).f1), (.slice A218_2 ((rd_T38 l0 x15_1).f2).length c218_2), .string ((rd_T38 l0 x15_1).f3)] 38 (0, 0))) ∧ Aside0 (Below w.heap.size w wc))
          case first =>
           have H := HC14.out
           clear HC14
           by_cases c15 : ((rd_T38 l0 x15_1).f0).toList = ([] : List UInt8)
           ·rw [if_pos c15] at H
            have c15b0 : (((rd_T38 l0 x15_1).f0).toList == ([] : List UInt8)) = true := beq_iff_eq.mpr c15
            have c15b7 : ((rd_T38 l0 x15_1).f0).toList.isEmpty = true := by rw [beq_iff_eq.mp c15b0]; rfl
            have c15b8 : ¬ (((rd_T38 l0 x15_1).f0).toList.isEmpty = false) := fun h_ => by have h9_ := beq_iff_eq.mp c15b0; rw [h9_] at h_; cases h_
            have c15b1 : (((rd_T38 l0 x15_1).f0).toList != ([] : List UInt8)) = false := bne_eq_false_iff_eq.mpr c15
            clear c15
            (first | rw [c15b0] | simp only [c15b7, Bool.not_true, Bool.not_false] | (simp only [i64_w, i32_w]; rw [c15b0]) | skip)
            by_cases c16 : ((rd_T38 l0 x15_1).f3).toList = ([] : List UInt8)
            ·rw [if_pos c16] at H
             have c16b0 : (((rd_T38 l0 x15_1).f3).toList == ([] : List UInt8)) = true := beq_iff_eq.mpr c16
             have c16b7 : ((rd_T38 l0 x15_1).f3).toList.isEmpty = true := by rw [beq_iff_eq.mp c16b0]; rfl
             have c16b8 : ¬ (((rd_T38 l0 x15_1).f3).toList.isEmpty = false) := fun h_ => by have h9_ := beq_iff_eq.mp c16b0; rw [h9_] at h_; cases h_
             have c16b1 : (((rd_T38 l0 x15_1).f3).toList != ([] : List UInt8)) = false := bne_eq_false_iff_eq.mpr c16
             clear c16
             have H' := Aside0.mk H
             clear H
             have hcz17_0 := bc4_0 BK219.out
             have hcz17_1 := bc4_1 BK219.out
             have hcz17_2 := bc4_2 BK219.out
             have hcz17_3 := bc4_3 BK219.out
             have hfz17_0 := blk_frozen BK219.out 0
             have hfz17_1 := blk_frozen BK219.out 1
             have hfz17_2 := blk_frozen BK219.out 2
             have hfz17_3 := blk_frozen BK219.out 3
             go_wp2
             repeat (go_quiet (fail); try go_wp2)
             go_meet
             case rel => exact ⟨_, (true), sv_, H', ⟨by have := HK1.out; first | omega | exact Nat.le_refl _⟩, ⟨by (with_reducible repeat (first | apply Kd.R_alloc | apply Kd.R_drewN | apply Kd.R_drew)); exact Kd.R_mono (Kd.R_far (p := ⟨gb219, 3, none⟩) (Kd.R_far (p := ⟨gb219, 2, none⟩) (Kd.R_far (p := ⟨gb219, 1, none⟩) (Kd.R_far (p := ⟨gb219, 0, none⟩) (Kd.R_types HO_3.out BK219.out (by decide)) (fun _ hk => hk.2) (.string ((rd_T38 l0 x15_1).f0))) (fun _ hk => hk.2) (.int .i64 ((rd_T38 l0 x15_1).f1))) (fun _ hk => hk.2) (.slice A218_2 ((rd_T38 l0 x15_1).f2).length c218_2)) (fun _ hk => hk.2) (.string ((rd_T38 l0 x15_1).f3))) (fun _ hk => trivial)⟩, ⟨by (with_reducible repeat (first | refine blk_drewN ?_ _ | refine blk_drew ?_ | refine blk_alloc ?_ _)); refine blk_put (cs := #[.string ((rd_T38 l0 x15_1).f0), .int .i64 ((rd_T38 l0 x15_1).f1), .slice A218_2 ((rd_T38 l0 x15_1).f2).length c218_2, .string (⟨#[]⟩ : ByteArray)]) ?_ 3 _ rfl; (with_reducible repeat (first | refine blk_drewN ?_ _ | refine blk_drew ?_ | refine blk_alloc ?_ _)); refine blk_put (cs := #[.string ((rd_T38 l0 x15_1).f0), .int .i64 ((rd_T38 l0 x15_1).f1), .slice none 0 0, .string (⟨#[]⟩ : ByteArray)]) ?_ 2 _ rfl; (with_reducible repeat (first | refine blk_drewN ?_ _ | refine blk_drew ?_ | refine blk_alloc ?_ _)); refine blk_put (cs := #[.string ((rd_T38 l0 x15_1).f0), .int .i64 0, .slice none 0 0, .string (⟨#[]⟩ : ByteArray)]) ?_ 1 _ rfl; (with_reducible repeat (first | refine blk_drewN ?_ _ | refine blk_drew ?_ | refine blk_alloc ?_ _)); refine blk_put (cs := #[.string (⟨#[]⟩ : ByteArray), .int .i64 0, .slice none 0 0, .string (⟨#[]⟩ : ByteArray)]) ?_ 0 _ rfl; (with_reducible repeat (first | refine blk_drewN ?_ _ | refine blk_drew ?_ | refine blk_alloc ?_ _)); exact BK219.out⟩, ⟨bes_⟩⟩
            ·rw [if_neg c16] at H
             have c16b0 : (((rd_T38 l0 x15_1).f3).toList == ([] : List UInt8)) = false := beq_eq_false_iff_ne.mpr c16
             have c16b7 : ((rd_T38 l0 x15_1).f3).toList.isEmpty = false := Bool.eq_false_iff.mpr (fun h_ => absurd (List.isEmpty_iff.mp h_) (beq_eq_false_iff_ne.mp c16b0))
             have c16b8 : ¬ (((rd_T38 l0 x15_1).f3).toList.isEmpty = true) := fun h_ => absurd (List.isEmpty_iff.mp h_) (beq_eq_false_iff_ne.mp c16b0)
             have c16b1 : (((rd_T38 l0 x15_1).f3).toList != ([] : List UInt8)) = true := bne_iff_ne.mpr c16
             by_cases c18 : (((rd_T38 l0 x15_1).f2).length : Int) > 0
             ·rw [if_pos c18] at H
              have c18b0 : decide (0 < (((rd_T38 l0 x15_1).f2).length : Int)) = true := decide_eq_true c18
              have c18b1 : decide (0 < ((rd_T38 l0 x15_1).f2).length) = true := decide_eq_true (by omega)
              clear c18
              have H' := Aside0.mk H
              clear H
              have hcz19_0 := bc4_0 BK219.out
              have hcz19_1 := bc4_1 BK219.out
              have hcz19_2 := bc4_2 BK219.out
              have hcz19_3 := bc4_3 BK219.out
              have hfz19_0 := blk_frozen BK219.out 0
              have hfz19_1 := blk_frozen BK219.out 1
              have hfz19_2 := blk_frozen BK219.out 2
              have hfz19_3 := blk_frozen BK219.out 3
              go_wp2
              repeat (go_quiet (fail); try go_wp2)
              go_meet
              case rel => exact ⟨_, (true), sv_, H', ⟨by have := HK1.out; first | omega | exact Nat.le_refl _⟩, ⟨by (with_reducible repeat (first | apply Kd.R_alloc | apply Kd.R_drewN | apply Kd.R_drew)); exact Kd.R_mono (Kd.R_far (p := ⟨gb219, 3, none⟩) (Kd.R_far (p := ⟨gb219, 2, none⟩) (Kd.R_far (p := ⟨gb219, 1, none⟩) (Kd.R_far (p := ⟨gb219, 0, none⟩) (Kd.R_types HO_3.out BK219.out (by decide)) (fun _ hk => hk.2) (.string ((rd_T38 l0 x15_1).f0))) (fun _ hk => hk.2) (.int .i64 ((rd_T38 l0 x15_1).f1))) (fun _ hk => hk.2) (.slice A218_2 ((rd_T38 l0 x15_1).f2).length c218_2)) (fun _ hk => hk.2) (.string ((rd_T38 l0 x15_1).f3))) (fun _ hk => trivial)⟩, ⟨by (with_reducible repeat (first | refine blk_drewN ?_ _ | refine blk_drew ?_ | refine blk_alloc ?_ _)); refine blk_put (cs := #[.string ((rd_T38 l0 x15_1).f0), .int .i64 ((rd_T38 l0 x15_1).f1), .slice A218_2 ((rd_T38 l0 x15_1).f2).length c218_2, .string (⟨#[]⟩ : ByteArray)]) ?_ 3 _ rfl; (with_reducible repeat (first | refine blk_drewN ?_ _ | refine blk_drew ?_ | refine blk_alloc ?_ _)); refine blk_put (cs := #[.string ((rd_T38 l0 x15_1).f0), .int .i64 ((rd_T38 l0 x15_1).f1), .slice none 0 0, .string (⟨#[]⟩ : ByteArray)]) ?_ 2 _ rfl; (with_reducible repeat (first | refine blk_drewN ?_ _ | refine blk_drew ?_ | refine blk_alloc ?_ _)); refine blk_put (cs := #[.string ((rd_T38 l0 x15_1).f0), .int .i64 0, .slice none 0 0, .string (⟨#[]⟩ : ByteArray)]) ?_ 1 _ rfl; (with_reducible repeat (first | refine blk_drewN ?_ _ | refine blk_drew ?_ | refine blk_alloc ?_ _)); refine blk_put (cs := #[.string (⟨#[]⟩ : ByteArray), .int .i64 0, .slice none 0 0, .string (⟨#[]⟩ : ByteArray)]) ?_ 0 _ rfl; (with_reducible repeat (first | refine blk_drewN ?_ _ | refine blk_drew ?_ | refine blk_alloc ?_ _)); exact BK219.out⟩, ⟨bes_⟩⟩
             ·rw [if_neg c18] at H
              have c18b0 : decide (0 < (((rd_T38 l0 x15_1).f2).length : Int)) = false := decide_eq_false c18
              have c18b1 : decide (0 < ((rd_T38 l0 x15_1).f2).length) = false := decide_eq_false (by omega)
              clear c18
              replace H := Option.bind_eq_some_iff.mp H
              obtain ⟨t220, A200, H⟩ := H
              replace H : (impl_GoodNodes.j1 k1 l0 x3_1 x15_1 l0 (l0.length : Int) x15_1 (decide (t220 ≥ 0)) ((rd_T38 l0 x15_1).f0) ((rd_T38 l0 x15_1).f1) ((rd_T38 l0 x15_1).f2) ((rd_T38 l0 x15_1).f3)) = some r := H
              have A20 := Aside0.mk A200
              clear A200
              have H' := Aside0.mk H
              clear H
              have hcz21_0 := bc4_0 BK219.out
              have hcz21_1 := bc4_1 BK219.out
              have hcz21_2 := bc4_2 BK219.out
              have hcz21_3 := bc4_3 BK219.out
              have hfz21_0 := blk_frozen BK219.out 0
              have hfz21_1 := blk_frozen BK219.out 1
              have hfz21_2 := blk_frozen BK219.out 2
              have hfz21_3 := blk_frozen BK219.out 3
              go_wp2_with (first | (go_at_call 25; (with_reducible refine (impl_badByte.calls k1 ((rd_T38 l0 x15_1).f3) t220 _ A20.out ?hT_).mono ?_); (case hT_ => exact utf8_keep_ hT_ bes_); rintro e w22 ⟨rfl, hb⟩; have n0_ := Aside0.mk (Kd.R_below (by (with_reducible repeat (first | apply Kd.R_alloc | apply Kd.R_drewN | apply Kd.R_drew)); exact (Kd.R_mono (Kd.R_far (p := ⟨gb219, 3, none⟩) (Kd.R_far (p := ⟨gb219, 2, none⟩) (Kd.R_far (p := ⟨gb219, 1, none⟩) (Kd.R_far (p := ⟨gb219, 0, none⟩) (Kd.R_types HO_3.out BK219.out (by decide)) (fun _ hk => hk.2) (.string ((rd_T38 l0 x15_1).f0))) (fun _ hk => hk.2) (.int .i64 ((rd_T38 l0 x15_1).f1))) (fun _ hk => hk.2) (.slice A218_2 ((rd_T38 l0 x15_1).f2).length c218_2)) (fun _ hk => hk.2) (.string ((rd_T38 l0 x15_1).f3))) (fun _ h_ => h_.1))) hb); have n1_ := Aside0.mk (blk_below (g := gb219) (o := .cells #[.string ((rd_T38 l0 x15_1).f0), .int .i64 ((rd_T38 l0 x15_1).f1), .slice A218_2 ((rd_T38 l0 x15_1).f2).length c218_2, .string ((rd_T38 l0 x15_1).f3)] 38 (0, 0)) (by (with_reducible repeat (first | refine blk_drewN ?_ _ | refine blk_drew ?_ | refine blk_alloc ?_ _)); refine blk_put (cs := #[.string ((rd_T38 l0 x15_1).f0), .int .i64 ((rd_T38 l0 x15_1).f1), .slice A218_2 ((rd_T38 l0 x15_1).f2).length c218_2, .string (⟨#[]⟩ : ByteArray)]) ?_ 3 _ rfl; (with_reducible repeat (first | refine blk_drewN ?_ _ | refine blk_drew ?_ | refine blk_alloc ?_ _)); refine blk_put (cs := #[.string ((rd_T38 l0 x15_1).f0), .int .i64 ((rd_T38 l0 x15_1).f1), .slice none 0 0, .string (⟨#[]⟩ : ByteArray)]) ?_ 2 _ rfl; (with_reducible repeat (first | refine blk_drewN ?_ _ | refine blk_drew ?_ | refine blk_alloc ?_ _)); refine blk_put (cs := #[.string ((rd_T38 l0 x15_1).f0), .int .i64 0, .slice none 0 0, .string (⟨#[]⟩ : ByteArray)]) ?_ 1 _ rfl; (with_reducible repeat (first | refine blk_drewN ?_ _ | refine blk_drew ?_ | refine blk_alloc ?_ _)); refine blk_put (cs := #[.string (⟨#[]⟩ : ByteArray), .int .i64 0, .slice none 0 0, .string (⟨#[]⟩ : ByteArray)]) ?_ 0 _ rfl; (with_reducible repeat (first | refine blk_drewN ?_ _ | refine blk_drew ?_ | refine blk_alloc ?_ _)); exact BK219.out) hb); have n2_ := Aside0.mk (below_step bes_ hb); clear HO_3; clear BK219; clear HB; have HO_3 := n0_; have BK219 := n1_; have HB := n2_; clear n0_ n1_ n2_; (try clear hb);(try clear hb2);(try clear hk);(try clear hi)))
              repeat (go_quiet (first | (go_at_call 25; (with_reducible refine (impl_badByte.calls k1 ((rd_T38 l0 x15_1).f3) t220 _ A20.out ?hT_).mono ?_); (case hT_ => exact utf8_keep_ hT_ bes_); rintro e w22 ⟨rfl, hb⟩; have n0_ := Aside0.mk (Kd.R_below (by (with_reducible repeat (first | apply Kd.R_alloc | apply Kd.R_drewN | apply Kd.R_drew)); exact (Kd.R_mono (Kd.R_far (p := ⟨gb219, 3, none⟩) (Kd.R_far (p := ⟨gb219, 2, none⟩) (Kd.R_far (p := ⟨gb219, 1, none⟩) (Kd.R_far (p := ⟨gb219, 0, none⟩) (Kd.R_types HO_3.out BK219.out (by decide)) (fun _ hk => hk.2) (.string ((rd_T38 l0 x15_1).f0))) (fun _ hk => hk.2) (.int .i64 ((rd_T38 l0 x15_1).f1))) (fun _ hk => hk.2) (.slice A218_2 ((rd_T38 l0 x15_1).f2).length c218_2)) (fun _ hk => hk.2) (.string ((rd_T38 l0 x15_1).f3))) (fun _ h_ => h_.1))) hb); have n1_ := Aside0.mk (blk_below (g := gb219) (o := .cells #[.string ((rd_T38 l0 x15_1).f0), .int .i64 ((rd_T38 l0 x15_1).f1), .slice A218_2 ((rd_T38 l0 x15_1).f2).length c218_2, .string ((rd_T38 l0 x15_1).f3)] 38 (0, 0)) (by (with_reducible repeat (first | refine blk_drewN ?_ _ | refine blk_drew ?_ | refine blk_alloc ?_ _)); refine blk_put (cs := #[.string ((rd_T38 l0 x15_1).f0), .int .i64 ((rd_T38 l0 x15_1).f1), .slice A218_2 ((rd_T38 l0 x15_1).f2).length c218_2, .string (⟨#[]⟩ : ByteArray)]) ?_ 3 _ rfl; (with_reducible repeat (first | refine blk_drewN ?_ _ | refine blk_drew ?_ | refine blk_alloc ?_ _)); refine blk_put (cs := #[.string ((rd_T38 l0 x15_1).f0), .int .i64 ((rd_T38 l0 x15_1).f1), .slice none 0 0, .string (⟨#[]⟩ : ByteArray)]) ?_ 2 _ rfl; (with_reducible repeat (first | refine blk_drewN ?_ _ | refine blk_drew ?_ | refine blk_alloc ?_ _)); refine blk_put (cs := #[.string ((rd_T38 l0 x15_1).f0), .int .i64 0, .slice none 0 0, .string (⟨#[]⟩ : ByteArray)]) ?_ 1 _ rfl; (with_reducible repeat (first | refine blk_drewN ?_ _ | refine blk_drew ?_ | refine blk_alloc ?_ _)); refine blk_put (cs := #[.string (⟨#[]⟩ : ByteArray), .int .i64 0, .slice none 0 0, .string (⟨#[]⟩ : ByteArray)]) ?_ 0 _ rfl; (with_reducible repeat (first | refine blk_drewN ?_ _ | refine blk_drew ?_ | refine blk_alloc ?_ _)); exact BK219.out) hb); have n2_ := Aside0.mk (below_step bes_ hb); clear HO_3; clear BK219; clear HB; have HO_3 := n0_; have BK219 := n1_; have HB := n2_; clear n0_ n1_ n2_; (try clear hb);(try clear hb2);(try clear hk);(try clear hi))); try go_wp2_with (first | (go_at_call 25; (with_reducible refine (impl_badByte.calls k1 ((rd_T38 l0 x15_1).f3) t220 _ A20.out ?hT_).mono ?_); (case hT_ => exact utf8_keep_ hT_ bes_); rintro e w22 ⟨rfl, hb⟩; have n0_ := Aside0.mk (Kd.R_below (by (with_reducible repeat (first | apply Kd.R_alloc | apply Kd.R_drewN | apply Kd.R_drew)); exact (Kd.R_mono (Kd.R_far (p := ⟨gb219, 3, none⟩) (Kd.R_far (p := ⟨gb219, 2, none⟩) (Kd.R_far (p := ⟨gb219, 1, none⟩) (Kd.R_far (p := ⟨gb219, 0, none⟩) (Kd.R_types HO_3.out BK219.out (by decide)) (fun _ hk => hk.2) (.string ((rd_T38 l0 x15_1).f0))) (fun _ hk => hk.2) (.int .i64 ((rd_T38 l0 x15_1).f1))) (fun _ hk => hk.2) (.slice A218_2 ((rd_T38 l0 x15_1).f2).length c218_2)) (fun _ hk => hk.2) (.string ((rd_T38 l0 x15_1).f3))) (fun _ h_ => h_.1))) hb); have n1_ := Aside0.mk (blk_below (g := gb219) (o := .cells #[.string ((rd_T38 l0 x15_1).f0), .int .i64 ((rd_T38 l0 x15_1).f1), .slice A218_2 ((rd_T38 l0 x15_1).f2).length c218_2, .string ((rd_T38 l0 x15_1).f3)] 38 (0, 0)) (by (with_reducible repeat (first | refine blk_drewN ?_ _ | refine blk_drew ?_ | refine blk_alloc ?_ _)); refine blk_put (cs := #[.string ((rd_T38 l0 x15_1).f0), .int .i64 ((rd_T38 l0 x15_1).f1), .slice A218_2 ((rd_T38 l0 x15_1).f2).length c218_2, .string (⟨#[]⟩ : ByteArray)]) ?_ 3 _ rfl; (with_reducible repeat (first | refine blk_drewN ?_ _ | refine blk_drew ?_ | refine blk_alloc ?_ _)); refine blk_put (cs := #[.string ((rd_T38 l0 x15_1).f0), .int .i64 ((rd_T38 l0 x15_1).f1), .slice none 0 0, .string (⟨#[]⟩ : ByteArray)]) ?_ 2 _ rfl; (with_reducible repeat (first | refine blk_drewN ?_ _ | refine blk_drew ?_ | refine blk_alloc ?_ _)); refine blk_put (cs := #[.string ((rd_T38 l0 x15_1).f0), .int .i64 0, .slice none 0 0, .string (⟨#[]⟩ : ByteArray)]) ?_ 1 _ rfl; (with_reducible repeat (first | refine blk_drewN ?_ _ | refine blk_drew ?_ | refine blk_alloc ?_ _)); refine blk_put (cs := #[.string (⟨#[]⟩ : ByteArray), .int .i64 0, .slice none 0 0, .string (⟨#[]⟩ : ByteArray)]) ?_ 0 _ rfl; (with_reducible repeat (first | refine blk_drewN ?_ _ | refine blk_drew ?_ | refine blk_alloc ?_ _)); exact BK219.out) hb); have n2_ := Aside0.mk (below_step bes_ hb); clear HO_3; clear BK219; clear HB; have HO_3 := n0_; have BK219 := n1_; have HB := n2_; clear n0_ n1_ n2_; (try clear hb);(try clear hb2);(try clear hk);(try clear hi))))
              go_meet
              case rel => exact ⟨_, (decide (t220 ≥ 0)), sv_, H', ⟨by have := HK1.out; first | omega | exact Nat.le_refl _⟩, ⟨by (with_reducible repeat (first | apply Kd.R_alloc | apply Kd.R_drewN | apply Kd.R_drew)); exact HO_3.out⟩, ⟨by (with_reducible repeat (first | refine blk_drewN ?_ _ | refine blk_drew ?_ | refine blk_alloc ?_ _)); exact BK219.out⟩, ⟨bes_⟩⟩
           ·rw [if_neg c15] at H
            have c15b0 : (((rd_T38 l0 x15_1).f0).toList == ([] : List UInt8)) = false := beq_eq_false_iff_ne.mpr c15
            have c15b7 : ((rd_T38 l0 x15_1).f0).toList.isEmpty = false := Bool.eq_false_iff.mpr (fun h_ => absurd (List.isEmpty_iff.mp h_) (beq_eq_false_iff_ne.mp c15b0))
            have c15b8 : ¬ (((rd_T38 l0 x15_1).f0).toList.isEmpty = true) := fun h_ => absurd (List.isEmpty_iff.mp h_) (beq_eq_false_iff_ne.mp c15b0)
            have c15b1 : (((rd_T38 l0 x15_1).f0).toList != ([] : List UInt8)) = true := bne_iff_ne.mpr c15
            (first | rw [c15b0] | simp only [c15b7, Bool.not_true, Bool.not_false] | (simp only [i64_w, i32_w]; rw [c15b0]) | skip)
            have H' := Aside0.mk H
            clear H
            have hcz23_0 := bc4_0 BK219.out
            have hcz23_1 := bc4_1 BK219.out
            have hcz23_2 := bc4_2 BK219.out
            have hcz23_3 := bc4_3 BK219.out
            have hfz23_0 := blk_frozen BK219.out 0
            have hfz23_1 := blk_frozen BK219.out 1
            have hfz23_2 := blk_frozen BK219.out 2
            have hfz23_3 := blk_frozen BK219.out 3
            go_wp2
            repeat (go_quiet (fail); try go_wp2)
            go_meet
            case rel => exact ⟨_, (false), sv_, H', ⟨by have := HK1.out; first | omega | exact Nat.le_refl _⟩, ⟨by (with_reducible repeat (first | apply Kd.R_alloc | apply Kd.R_drewN | apply Kd.R_drew)); exact Kd.R_mono (Kd.R_far (p := ⟨gb219, 3, none⟩) (Kd.R_far (p := ⟨gb219, 2, none⟩) (Kd.R_far (p := ⟨gb219, 1, none⟩) (Kd.R_far (p := ⟨gb219, 0, none⟩) (Kd.R_types HO_3.out BK219.out (by decide)) (fun _ hk => hk.2) (.string ((rd_T38 l0 x15_1).f0))) (fun _ hk => hk.2) (.int .i64 ((rd_T38 l0 x15_1).f1))) (fun _ hk => hk.2) (.slice A218_2 ((rd_T38 l0 x15_1).f2).length c218_2)) (fun _ hk => hk.2) (.string ((rd_T38 l0 x15_1).f3))) (fun _ hk => trivial)⟩, ⟨by (with_reducible repeat (first | refine blk_drewN ?_ _ | refine blk_drew ?_ | refine blk_alloc ?_ _)); refine blk_put (cs := #[.string ((rd_T38 l0 x15_1).f0), .int .i64 ((rd_T38 l0 x15_1).f1), .slice A218_2 ((rd_T38 l0 x15_1).f2).length c218_2, .string (⟨#[]⟩ : ByteArray)]) ?_ 3 _ rfl; (with_reducible repeat (first | refine blk_drewN ?_ _ | refine blk_drew ?_ | refine blk_alloc ?_ _)); refine blk_put (cs := #[.string ((rd_T38 l0 x15_1).f0), .int .i64 ((rd_T38 l0 x15_1).f1), .slice none 0 0, .string (⟨#[]⟩ : ByteArray)]) ?_ 2 _ rfl; (with_reducible repeat (first | refine blk_drewN ?_ _ | refine blk_drew ?_ | refine blk_alloc ?_ _)); refine blk_put (cs := #[.string ((rd_T38 l0 x15_1).f0), .int .i64 0, .slice none 0 0, .string (⟨#[]⟩ : ByteArray)]) ?_ 1 _ rfl; (with_reducible repeat (first | refine blk_drewN ?_ _ | refine blk_drew ?_ | refine blk_alloc ?_ _)); refine blk_put (cs := #[.string (⟨#[]⟩ : ByteArray), .int .i64 0, .slice none 0 0, .string (⟨#[]⟩ : ByteArray)]) ?_ 0 _ rfl; (with_reducible repeat (first | refine blk_drewN ?_ _ | refine blk_drew ?_ | refine blk_alloc ?_ _)); exact BK219.out⟩, ⟨bes_⟩⟩
          case rest =>
           clear HC14
           (try clear c1);(try clear c2);(try clear p2);(try clear q2);(try clear hx2);(try clear c3);(try clear c4);(try clear c4b0 c4b1);(try clear c5);(try clear c5b0 c5b1);(try clear c8);(try clear c8b0);(try clear c9);(try clear c9b0);(try clear c10);(try clear c10b0);(try clear c13);(try clear c15);(try clear c15b0 c15b1);(try clear c16);(try clear c16b0 c16b1);(try clear c18);(try clear c18b0 c18b1);(try clear c21);(try clear p21);(try clear q21);(try clear hx21);(try clear hcz13_0 hcz13_1 hcz13_2 hcz13_3);(try clear hcz17_0 hcz17_1 hcz17_2 hcz17_3);(try clear hcz19_0 hcz19_1 hcz19_2 hcz19_3);(try clear hcz21_0 hcz21_1 hcz21_2 hcz21_3);(try clear hcz23_0 hcz23_1 hcz23_2)
           (try clear hcz23_3);(try clear hfz13_0 hfz13_1 hfz13_2 hfz13_3);(try clear hfz17_0 hfz17_1 hfz17_2 hfz17_3);(try clear hfz19_0 hfz19_1 hfz19_2 hfz19_3);(try clear hfz21_0 hfz21_1 hfz21_2 hfz21_3);(try clear hfz23_0 hfz23_1 hfz23_2 hfz23_3);(try clear hx218_0);(try clear hx218_1);(try clear hx218_2);(try clear hx218_3);(try clear p2);(try clear p218);(try clear q218)
           obtain ⟨kq, x20_13, rfl, HA, HJ13, HO_3, BK219, HB⟩ := hcut
           cases kq with
           | zero => exact absurd HA.out (by simp [impl_GoodNodes.j1])
           | succ kj13 =>
            have H := HA.out
            clear HA
            simp only [impl_GoodNodes.j1] at H
            by_cases c24 : x20_13 = true
            ·subst c24
             have H1 : (some false) = some r := by rw [if_pos rfl] at H; exact H
             clear H
             have H := H1
             clear H1
             obtain rfl := Option.some.inj H
             go_wp2
             repeat (go_quiet (fail); try go_wp2)
             go_ret
             exact ⟨er_, bes_⟩
            ·replace c24 := Bool.eq_false_iff.mpr c24
             subst c24
             have H1 : (if ((rd_T38 l0 x15_1).f0).toList = ([] : List UInt8) then (impl_GoodNodes.j2 kj13 l0 x3_1 x15_1 l0 (l0.length : Int) x15_1 ((rd_T38 l0 x15_1).f0) ((rd_T38 l0 x15_1).f1) ((rd_T38 l0 x15_1).f2) ((rd_T38 l0 x15_1).f3)) else ((impl_isName.f kj13 ((rd_T38 l0 x15_1).f0)).bind fun t221 => (if t221 = true then (if ((rd_T38 l0 x15_1).f3).toList = ([] : List UInt8) then ((impl_areAttrs.f kj13 ((rd_T38 l0 x15_1).f2)).bind fun t222 => (if t222 = true then (impl_GoodNodes.j2 kj13 l0 x3_1 x15_1 l0 (l0.length : Int) x15_1 ((rd_T38 l0 x15_1).f0) ((rd_T38 l0 x15_1).f1) ((rd_T38 l0 x15_1).f2) ((rd_T38 l0 x15_1).f3)) else (some false))) else (some false)) else (some false)))) = some r := by rw [if_neg (show ¬ (false = true) by decide)] at H; exact H
             clear H
             have H := H1
             clear H1
             by_cases c25 : ((rd_T38 l0 x15_1).f0).toList = ([] : List UInt8)
             ·rw [if_pos c25] at H
              have c25b0 : (((rd_T38 l0 x15_1).f0).toList == ([] : List UInt8)) = true := beq_iff_eq.mpr c25
              have c25b7 : ((rd_T38 l0 x15_1).f0).toList.isEmpty = true := by rw [beq_iff_eq.mp c25b0]; rfl
              have c25b8 : ¬ (((rd_T38 l0 x15_1).f0).toList.isEmpty = false) := fun h_ => by have h9_ := beq_iff_eq.mp c25b0; rw [h9_] at h_; cases h_
              have c25b1 : (((rd_T38 l0 x15_1).f0).toList != ([] : List UInt8)) = false := bne_eq_false_iff_eq.mpr c25
              clear c25
              have H' := Aside0.mk H
              clear H
              have hcz26_0 := bc4_0 BK219.out
              have hcz26_1 := bc4_1 BK219.out
              have hcz26_2 := bc4_2 BK219.out
              have hcz26_3 := bc4_3 BK219.out
              have hfz26_0 := blk_frozen BK219.out 0
              have hfz26_1 := blk_frozen BK219.out 1
              have hfz26_2 := blk_frozen BK219.out 2
              have hfz26_3 := blk_frozen BK219.out 3
              go_wp2
              repeat (go_quiet (fail); try go_wp2)
              go_meet
              case rel => exact ⟨_, H', ⟨by have := HK1.out; have := HJ13.out; first | omega | exact Nat.le_refl _⟩, ⟨by (with_reducible repeat (first | apply Kd.R_alloc | apply Kd.R_drewN | apply Kd.R_drew)); exact HO_3.out⟩, ⟨by (with_reducible repeat (first | refine blk_drewN ?_ _ | refine blk_drew ?_ | refine blk_alloc ?_ _)); exact BK219.out⟩, ⟨bes_⟩⟩
             ·rw [if_neg c25] at H
              have c25b0 : (((rd_T38 l0 x15_1).f0).toList == ([] : List UInt8)) = false := beq_eq_false_iff_ne.mpr c25
              have c25b7 : ((rd_T38 l0 x15_1).f0).toList.isEmpty = false := Bool.eq_false_iff.mpr (fun h_ => absurd (List.isEmpty_iff.mp h_) (beq_eq_false_iff_ne.mp c25b0))
              have c25b8 : ¬ (((rd_T38 l0 x15_1).f0).toList.isEmpty = true) := fun h_ => absurd (List.isEmpty_iff.mp h_) (beq_eq_false_iff_ne.mp c25b0)
              have c25b1 : (((rd_T38 l0 x15_1).f0).toList != ([] : List UInt8)) = true := bne_iff_ne.mpr c25
              replace H := Option.bind_eq_some_iff.mp H
              obtain ⟨t221, A270, H⟩ := H
              replace H : (if t221 = true then (if ((rd_T38 l0 x15_1).f3).toList = ([] : List UInt8) then ((impl_areAttrs.f kj13 ((rd_T38 l0 x15_1).f2)).bind fun t222 => (if t222 = true then (impl_GoodNodes.j2 kj13 l0 x3_1 x15_1 l0 (l0.length : Int) x15_1 ((rd_T38 l0 x15_1).f0) ((rd_T38 l0 x15_1).f1) ((rd_T38 l0 x15_1).f2) ((rd_T38 l0 x15_1).f3)) else (some false))) else (some false)) else (some false)) = some r := H
              have A27 := Aside0.mk A270
              clear A270
              by_cases c28 : t221 = true
              ·subst c28
               have H1 : (if ((rd_T38 l0 x15_1).f3).toList = ([] : List UInt8) then ((impl_areAttrs.f kj13 ((rd_T38 l0 x15_1).f2)).bind fun t222 => (if t222 = true then (impl_GoodNodes.j2 kj13 l0 x3_1 x15_1 l0 (l0.length : Int) x15_1 ((rd_T38 l0 x15_1).f0) ((rd_T38 l0 x15_1).f1) ((rd_T38 l0 x15_1).f2) ((rd_T38 l0 x15_1).f3)) else (some false))) else (some false)) = some r := by rw [if_pos rfl] at H; exact H
               clear H
               have H := H1
               clear H1
               by_cases c29 : ((rd_T38 l0 x15_1).f3).toList = ([] : List UInt8)
               ·rw [if_pos c29] at H
                have c29b0 : (((rd_T38 l0 x15_1).f3).toList == ([] : List UInt8)) = true := beq_iff_eq.mpr c29
                have c29b7 : ((rd_T38 l0 x15_1).f3).toList.isEmpty = true := by rw [beq_iff_eq.mp c29b0]; rfl
                have c29b8 : ¬ (((rd_T38 l0 x15_1).f3).toList.isEmpty = false) := fun h_ => by have h9_ := beq_iff_eq.mp c29b0; rw [h9_] at h_; cases h_
                have c29b1 : (((rd_T38 l0 x15_1).f3).toList != ([] : List UInt8)) = false := bne_eq_false_iff_eq.mpr c29
                clear c29
                replace H := Option.bind_eq_some_iff.mp H
                obtain ⟨t222, A300, H⟩ := H
                replace H : (if t222 = true then (impl_GoodNodes.j2 kj13 l0 x3_1 x15_1 l0 (l0.length : Int) x15_1 ((rd_T38 l0 x15_1).f0) ((rd_T38 l0 x15_1).f1) ((rd_T38 l0 x15_1).f2) ((rd_T38 l0 x15_1).f3)) else (some false)) = some r := H
                have A30 := Aside0.mk A300
                clear A300
                by_cases c31 : t222 = true
                ·subst c31
                 have H1 : (impl_GoodNodes.j2 kj13 l0 x3_1 x15_1 l0 (l0.length : Int) x15_1 ((rd_T38 l0 x15_1).f0) ((rd_T38 l0 x15_1).f1) ((rd_T38 l0 x15_1).f2) ((rd_T38 l0 x15_1).f3)) = some r := by rw [if_pos rfl] at H; exact H
                 clear H
                 have H := H1
                 clear H1
                 have H' := Aside0.mk H
                 clear H
                 have hcz32_0 := bc4_0 BK219.out
                 have hcz32_1 := bc4_1 BK219.out
                 have hcz32_2 := bc4_2 BK219.out
                 have hcz32_3 := bc4_3 BK219.out
                 have hfz32_0 := blk_frozen BK219.out 0
                 have hfz32_1 := blk_frozen BK219.out 1
                 have hfz32_2 := blk_frozen BK219.out 2
                 have hfz32_3 := blk_frozen BK219.out 3
                 go_wp2_with (first | (go_at_call 26; (with_reducible refine (impl_isName.calls kj13 ((rd_T38 l0 x15_1).f0) true _ A27.out).mono ?_); rintro e w' ⟨rfl, ⟨nd, rfl⟩⟩; (try exact dd_)) | (go_at_call 27; (with_reducible refine (impl_areAttrs.calls kj13 _ _ ((rd_T38 l0 x15_1).f2) true _ ?side1 ?side2 A30.out ?hT_).mono ?_); (case hT_ => exact utf8_keep_ hT_ bes_); (case side1 => repeat (first | exact (Kd.C_below HR218_2.out bes_) | (with_reducible refine Kd.C_alloc ?_ _) | (with_reducible refine Kd.C_drewN ?_ _) | (with_reducible refine Kd.C_drew ?_))); (case side2 => exact HC218_2.out); rintro e w33 ⟨rfl, hb⟩; have n0_ := Aside0.mk (Kd.R_below (kdR_ HO_3.out) hb); have n1_ := Aside0.mk (blk_below (g := gb219) (o := .cells #[.string ((rd_T38 l0 x15_1).f0), .int .i64 ((rd_T38 l0 x15_1).f1), .slice A218_2 ((rd_T38 l0 x15_1).f2).length c218_2, .string ((rd_T38 l0 x15_1).f3)] 38 (0, 0)) (bk_ BK219.out) hb); have n2_ := Aside0.mk (below_step bes_ hb); clear HO_3; clear BK219; clear HB; have HO_3 := n0_; have BK219 := n1_; have HB := n2_; clear n0_ n1_ n2_; (try clear hb);(try clear hb2);(try clear hk);(try clear hi)))
                 repeat (go_quiet (first | (go_at_call 26; (with_reducible refine (impl_isName.calls kj13 ((rd_T38 l0 x15_1).f0) true _ A27.out).mono ?_); rintro e w' ⟨rfl, ⟨nd, rfl⟩⟩; (try exact dd_)) | (go_at_call 27; (with_reducible refine (impl_areAttrs.calls kj13 _ _ ((rd_T38 l0 x15_1).f2) true _ ?side1 ?side2 A30.out ?hT_).mono ?_); (case hT_ => exact utf8_keep_ hT_ bes_); (case side1 => repeat (first | exact (Kd.C_below HR218_2.out bes_) | (with_reducible refine Kd.C_alloc ?_ _) | (with_reducible refine Kd.C_drewN ?_ _) | (with_reducible refine Kd.C_drew ?_))); (case side2 => exact HC218_2.out); rintro e w33 ⟨rfl, hb⟩; have n0_ := Aside0.mk (Kd.R_below (kdR_ HO_3.out) hb); have n1_ := Aside0.mk (blk_below (g := gb219) (o := .cells #[.string ((rd_T38 l0 x15_1).f0), .int .i64 ((rd_T38 l0 x15_1).f1), .slice A218_2 ((rd_T38 l0 x15_1).f2).length c218_2, .string ((rd_T38 l0 x15_1).f3)] 38 (0, 0)) (bk_ BK219.out) hb); have n2_ := Aside0.mk (below_step bes_ hb); clear HO_3; clear BK219; clear HB; have HO_3 := n0_; have BK219 := n1_; have HB := n2_; clear n0_ n1_ n2_; (try clear hb);(try clear hb2);(try clear hk);(try clear hi))); try go_wp2_with (first | (go_at_call 26; (with_reducible refine (impl_isName.calls kj13 ((rd_T38 l0 x15_1).f0) true _ A27.out).mono ?_); rintro e w' ⟨rfl, ⟨nd, rfl⟩⟩; (try exact dd_)) | (go_at_call 27; (with_reducible refine (impl_areAttrs.calls kj13 _ _ ((rd_T38 l0 x15_1).f2) true _ ?side1 ?side2 A30.out ?hT_).mono ?_); (case hT_ => exact utf8_keep_ hT_ bes_); (case side1 => repeat (first | exact (Kd.C_below HR218_2.out bes_) | (with_reducible refine Kd.C_alloc ?_ _) | (with_reducible refine Kd.C_drewN ?_ _) | (with_reducible refine Kd.C_drew ?_))); (case side2 => exact HC218_2.out); rintro e w33 ⟨rfl, hb⟩; have n0_ := Aside0.mk (Kd.R_below (kdR_ HO_3.out) hb); have n1_ := Aside0.mk (blk_below (g := gb219) (o := .cells #[.string ((rd_T38 l0 x15_1).f0), .int .i64 ((rd_T38 l0 x15_1).f1), .slice A218_2 ((rd_T38 l0 x15_1).f2).length c218_2, .string ((rd_T38 l0 x15_1).f3)] 38 (0, 0)) (bk_ BK219.out) hb); have n2_ := Aside0.mk (below_step bes_ hb); clear HO_3; clear BK219; clear HB; have HO_3 := n0_; have BK219 := n1_; have HB := n2_; clear n0_ n1_ n2_; (try clear hb);(try clear hb2);(try clear hk);(try clear hi))))
                 go_meet
                 case rel => exact ⟨_, H', ⟨by have := HK1.out; have := HJ13.out; first | omega | exact Nat.le_refl _⟩, ⟨by (with_reducible repeat (first | apply Kd.R_alloc | apply Kd.R_drewN | apply Kd.R_drew)); exact HO_3.out⟩, ⟨by (with_reducible repeat (first | refine blk_drewN ?_ _ | refine blk_drew ?_ | refine blk_alloc ?_ _)); exact BK219.out⟩, ⟨bes_⟩⟩
                ·replace c31 := Bool.eq_false_iff.mpr c31
                 subst c31
                 have H1 : (some false) = some r := by rw [if_neg (show ¬ (false = true) by decide)] at H; exact H
                 clear H
                 have H := H1
                 clear H1
                 obtain rfl := Option.some.inj H
                 have hcz34_0 := bc4_0 BK219.out
                 have hcz34_1 := bc4_1 BK219.out
                 have hcz34_2 := bc4_2 BK219.out
                 have hcz34_3 := bc4_3 BK219.out
                 have hfz34_0 := blk_frozen BK219.out 0
                 have hfz34_1 := blk_frozen BK219.out 1
                 have hfz34_2 := blk_frozen BK219.out 2
                 have hfz34_3 := blk_frozen BK219.out 3
                 go_wp2_with (first | (go_at_call 26; (with_reducible refine (impl_isName.calls kj13 ((rd_T38 l0 x15_1).f0) true _ A27.out).mono ?_); rintro e w' ⟨rfl, ⟨nd, rfl⟩⟩; (try exact dd_)) | (go_at_call 27; (with_reducible refine (impl_areAttrs.calls kj13 _ _ ((rd_T38 l0 x15_1).f2) false _ ?side1 ?side2 A30.out ?hT_).mono ?_); (case hT_ => exact utf8_keep_ hT_ bes_); (case side1 => repeat (first | exact (Kd.C_below HR218_2.out bes_) | (with_reducible refine Kd.C_alloc ?_ _) | (with_reducible refine Kd.C_drewN ?_ _) | (with_reducible refine Kd.C_drew ?_))); (case side2 => exact HC218_2.out); rintro e w35 ⟨rfl, hb⟩; have n0_ := Aside0.mk (Kd.R_below (kdR_ HO_3.out) hb); have n1_ := Aside0.mk (blk_below (g := gb219) (o := .cells #[.string ((rd_T38 l0 x15_1).f0), .int .i64 ((rd_T38 l0 x15_1).f1), .slice A218_2 ((rd_T38 l0 x15_1).f2).length c218_2, .string ((rd_T38 l0 x15_1).f3)] 38 (0, 0)) (bk_ BK219.out) hb); have n2_ := Aside0.mk (below_step bes_ hb); clear HO_3; clear BK219; clear HB; have HO_3 := n0_; have BK219 := n1_; have HB := n2_; clear n0_ n1_ n2_; (try clear hb);(try clear hb2);(try clear hk);(try clear hi)))
                 repeat (go_quiet (first | (go_at_call 26; (with_reducible refine (impl_isName.calls kj13 ((rd_T38 l0 x15_1).f0) true _ A27.out).mono ?_); rintro e w' ⟨rfl, ⟨nd, rfl⟩⟩; (try exact dd_)) | (go_at_call 27; (with_reducible refine (impl_areAttrs.calls kj13 _ _ ((rd_T38 l0 x15_1).f2) false _ ?side1 ?side2 A30.out ?hT_).mono ?_); (case hT_ => exact utf8_keep_ hT_ bes_); (case side1 => repeat (first | exact (Kd.C_below HR218_2.out bes_) | (with_reducible refine Kd.C_alloc ?_ _) | (with_reducible refine Kd.C_drewN ?_ _) | (with_reducible refine Kd.C_drew ?_))); (case side2 => exact HC218_2.out); rintro e w35 ⟨rfl, hb⟩; have n0_ := Aside0.mk (Kd.R_below (kdR_ HO_3.out) hb); have n1_ := Aside0.mk (blk_below (g := gb219) (o := .cells #[.string ((rd_T38 l0 x15_1).f0), .int .i64 ((rd_T38 l0 x15_1).f1), .slice A218_2 ((rd_T38 l0 x15_1).f2).length c218_2, .string ((rd_T38 l0 x15_1).f3)] 38 (0, 0)) (bk_ BK219.out) hb); have n2_ := Aside0.mk (below_step bes_ hb); clear HO_3; clear BK219; clear HB; have HO_3 := n0_; have BK219 := n1_; have HB := n2_; clear n0_ n1_ n2_; (try clear hb);(try clear hb2);(try clear hk);(try clear hi))); try go_wp2_with (first | (go_at_call 26; (with_reducible refine (impl_isName.calls kj13 ((rd_T38 l0 x15_1).f0) true _ A27.out).mono ?_); rintro e w' ⟨rfl, ⟨nd, rfl⟩⟩; (try exact dd_)) | (go_at_call 27; (with_reducible refine (impl_areAttrs.calls kj13 _ _ ((rd_T38 l0 x15_1).f2) false _ ?side1 ?side2 A30.out ?hT_).mono ?_); (case hT_ => exact utf8_keep_ hT_ bes_); (case side1 => repeat (first | exact (Kd.C_below HR218_2.out bes_) | (with_reducible refine Kd.C_alloc ?_ _) | (with_reducible refine Kd.C_drewN ?_ _) | (with_reducible refine Kd.C_drew ?_))); (case side2 => exact HC218_2.out); rintro e w35 ⟨rfl, hb⟩; have n0_ := Aside0.mk (Kd.R_below (kdR_ HO_3.out) hb); have n1_ := Aside0.mk (blk_below (g := gb219) (o := .cells #[.string ((rd_T38 l0 x15_1).f0), .int .i64 ((rd_T38 l0 x15_1).f1), .slice A218_2 ((rd_T38 l0 x15_1).f2).length c218_2, .string ((rd_T38 l0 x15_1).f3)] 38 (0, 0)) (bk_ BK219.out) hb); have n2_ := Aside0.mk (below_step bes_ hb); clear HO_3; clear BK219; clear HB; have HO_3 := n0_; have BK219 := n1_; have HB := n2_; clear n0_ n1_ n2_; (try clear hb);(try clear hb2);(try clear hk);(try clear hi))))
                 go_ret
                 exact ⟨er_, bes_⟩
               ·rw [if_neg c29] at H
                have c29b0 : (((rd_T38 l0 x15_1).f3).toList == ([] : List UInt8)) = false := beq_eq_false_iff_ne.mpr c29
                have c29b7 : ((rd_T38 l0 x15_1).f3).toList.isEmpty = false := Bool.eq_false_iff.mpr (fun h_ => absurd (List.isEmpty_iff.mp h_) (beq_eq_false_iff_ne.mp c29b0))
                have c29b8 : ¬ (((rd_T38 l0 x15_1).f3).toList.isEmpty = true) := fun h_ => absurd (List.isEmpty_iff.mp h_) (beq_eq_false_iff_ne.mp c29b0)
                have c29b1 : (((rd_T38 l0 x15_1).f3).toList != ([] : List UInt8)) = true := bne_iff_ne.mpr c29
                obtain rfl := Option.some.inj H
                have hcz36_0 := bc4_0 BK219.out
                have hcz36_1 := bc4_1 BK219.out
                have hcz36_2 := bc4_2 BK219.out
                have hcz36_3 := bc4_3 BK219.out
                have hfz36_0 := blk_frozen BK219.out 0
                have hfz36_1 := blk_frozen BK219.out 1
                have hfz36_2 := blk_frozen BK219.out 2
                have hfz36_3 := blk_frozen BK219.out 3
                go_wp2_with (first | (go_at_call 26; (with_reducible refine (impl_isName.calls kj13 ((rd_T38 l0 x15_1).f0) true _ A27.out).mono ?_); rintro e w' ⟨rfl, ⟨nd, rfl⟩⟩; (try exact dd_)))
                repeat (go_quiet (first | (go_at_call 26; (with_reducible refine (impl_isName.calls kj13 ((rd_T38 l0 x15_1).f0) true _ A27.out).mono ?_); rintro e w' ⟨rfl, ⟨nd, rfl⟩⟩; (try exact dd_))); try go_wp2_with (first | (go_at_call 26; (with_reducible refine (impl_isName.calls kj13 ((rd_T38 l0 x15_1).f0) true _ A27.out).mono ?_); rintro e w' ⟨rfl, ⟨nd, rfl⟩⟩; (try exact dd_))))
                go_ret
                exact ⟨er_, bes_⟩
              ·replace c28 := Bool.eq_false_iff.mpr c28
               subst c28
               have H1 : (some false) = some r := by rw [if_neg (show ¬ (false = true) by decide)] at H; exact H
               clear H
               have H := H1
               clear H1
               obtain rfl := Option.some.inj H
               have hcz37_0 := bc4_0 BK219.out
               have hcz37_1 := bc4_1 BK219.out
               have hcz37_2 := bc4_2 BK219.out
               have hcz37_3 := bc4_3 BK219.out
               have hfz37_0 := blk_frozen BK219.out 0
               have hfz37_1 := blk_frozen BK219.out 1
               have hfz37_2 := blk_frozen BK219.out 2
               have hfz37_3 := blk_frozen BK219.out 3
               go_wp2_with (first | (go_at_call 26; (with_reducible refine (impl_isName.calls kj13 ((rd_T38 l0 x15_1).f0) false _ A27.out).mono ?_); rintro e w' ⟨rfl, ⟨nd, rfl⟩⟩; (try exact dd_)))
               repeat (go_quiet (first | (go_at_call 26; (with_reducible refine (impl_isName.calls kj13 ((rd_T38 l0 x15_1).f0) false _ A27.out).mono ?_); rintro e w' ⟨rfl, ⟨nd, rfl⟩⟩; (try exact dd_))); try go_wp2_with (first | (go_at_call 26; (with_reducible refine (impl_isName.calls kj13 ((rd_T38 l0 x15_1).f0) false _ A27.out).mono ?_); rintro e w' ⟨rfl, ⟨nd, rfl⟩⟩; (try exact dd_))))
               go_ret
               exact ⟨er_, bes_⟩
         case rest =>
          clear HC11
          (try clear c1);(try clear c2);(try clear p2);(try clear q2);(try clear hx2);(try clear c3);(try clear c4);(try clear c4b0 c4b1);(try clear c5);(try clear c5b0 c5b1);(try clear c8);(try clear c8b0);(try clear c9);(try clear c9b0);(try clear c10);(try clear c10b0);(try clear c13);(try clear c15);(try clear c15b0 c15b1);(try clear c16);(try clear c16b0 c16b1);(try clear c18);(try clear c18b0 c18b1);(try clear c21);(try clear p21);(try clear q21);(try clear hx21);(try clear c24);(try clear c25);(try clear c25b0 c25b1);(try clear c28);(try clear c29);(try clear c29b0 c29b1);(try clear c31);(try clear hcz13_0 hcz13_1 hcz13_2 hcz13_3);(try clear hcz17_0 hcz17_1 hcz17_2 hcz17_3);(try clear hcz19_0 hcz19_1 hcz19_2 hcz19_3)
          (try clear hcz21_0 hcz21_1 hcz21_2 hcz21_3);(try clear hcz23_0 hcz23_1 hcz23_2 hcz23_3);(try clear hcz26_0 hcz26_1 hcz26_2 hcz26_3);(try clear hcz32_0 hcz32_1 hcz32_2 hcz32_3);(try clear hcz34_0 hcz34_1 hcz34_2 hcz34_3);(try clear hcz36_0 hcz36_1 hcz36_2 hcz36_3);(try clear hcz37_0 hcz37_1 hcz37_2 hcz37_3);(try clear hfz13_0 hfz13_1 hfz13_2 hfz13_3);(try clear hfz17_0 hfz17_1 hfz17_2 hfz17_3);(try clear hfz19_0 hfz19_1 hfz19_2 hfz19_3);(try clear hfz21_0 hfz21_1 hfz21_2 hfz21_3);(try clear hfz23_0 hfz23_1)
          (try clear hfz23_2 hfz23_3);(try clear hfz26_0 hfz26_1 hfz26_2 hfz26_3);(try clear hfz32_0 hfz32_1 hfz32_2 hfz32_3);(try clear hfz34_0 hfz34_1 hfz34_2 hfz34_3);(try clear hfz36_0 hfz36_1 hfz36_2 hfz36_3);(try clear hfz37_0 hfz37_1 hfz37_2 hfz37_3);(try clear hx218_0);(try clear hx218_1);(try clear hx218_2);(try clear hx218_3);(try clear p2);(try clear p21);(try clear p218);(try clear q2);(try clear q21);(try clear q218)
          obtain ⟨kq, HA, HJ10, HO_3, BK219, HB⟩ := hcut
          cases kq with
          | zero => exact absurd HA.out (by simp [impl_GoodNodes.j2])
          | succ kj10 =>
           have H := HA.out
           clear HA
           simp only [impl_GoodNodes.j2] at H
           by_cases c38 : x15_1 = 0
           ·rw [if_pos c38] at H
            have c38b0 : (x15_1 == 0) = true := beq_iff_eq.mpr c38
            have c38b1 : (x15_1 != 0) = false := bne_eq_false_iff_eq.mpr c38
            clear c38
            by_cases c39 : ((rd_T38 l0 x15_1).f0).toList = ([] : List UInt8)
            ·rw [if_pos c39] at H
             have c39b0 : (((rd_T38 l0 x15_1).f0).toList == ([] : List UInt8)) = true := beq_iff_eq.mpr c39
             have c39b7 : ((rd_T38 l0 x15_1).f0).toList.isEmpty = true := by rw [beq_iff_eq.mp c39b0]; rfl
             have c39b8 : ¬ (((rd_T38 l0 x15_1).f0).toList.isEmpty = false) := fun h_ => by have h9_ := beq_iff_eq.mp c39b0; rw [h9_] at h_; cases h_
             have c39b1 : (((rd_T38 l0 x15_1).f0).toList != ([] : List UInt8)) = false := bne_eq_false_iff_eq.mpr c39
             clear c39
             obtain rfl := Option.some.inj H
             have hcz40_0 := bc4_0 BK219.out
             have hcz40_1 := bc4_1 BK219.out
             have hcz40_2 := bc4_2 BK219.out
             have hcz40_3 := bc4_3 BK219.out
             have hfz40_0 := blk_frozen BK219.out 0
             have hfz40_1 := blk_frozen BK219.out 1
             have hfz40_2 := blk_frozen BK219.out 2
             have hfz40_3 := blk_frozen BK219.out 3
             go_wp2
             repeat (go_quiet (fail); try go_wp2)
             go_ret
             exact ⟨er_, bes_⟩
            ·rw [if_neg c39] at H
             have c39b0 : (((rd_T38 l0 x15_1).f0).toList == ([] : List UInt8)) = false := beq_eq_false_iff_ne.mpr c39
             have c39b7 : ((rd_T38 l0 x15_1).f0).toList.isEmpty = false := Bool.eq_false_iff.mpr (fun h_ => absurd (List.isEmpty_iff.mp h_) (beq_eq_false_iff_ne.mp c39b0))
             have c39b8 : ¬ (((rd_T38 l0 x15_1).f0).toList.isEmpty = true) := fun h_ => absurd (List.isEmpty_iff.mp h_) (beq_eq_false_iff_ne.mp c39b0)
             have c39b1 : (((rd_T38 l0 x15_1).f0).toList != ([] : List UInt8)) = true := bne_iff_ne.mpr c39
             by_cases c41 : ((rd_T38 l0 x15_1).f1) = (-1)
             ·rw [if_pos c41] at H
              have c41b0 : (((rd_T38 l0 x15_1).f1) == (-1)) = true := beq_iff_eq.mpr c41
              have c41b1 : (((rd_T38 l0 x15_1).f1) != (-1)) = false := bne_eq_false_iff_eq.mpr c41
              clear c41
              by_cases c42 : 0 < (x3_1.length : Int)
              ·rw [if_pos c42] at H
               have c42b0 : decide (0 < (x3_1.length : Int)) = true := decide_eq_true c42
               have c42b1 : decide (0 < x3_1.length) = true := decide_eq_true (by omega)
               clear c42
               obtain ⟨y223, hy223⟩ : ∃ y_ : List Int, y_ = (x3_1.set (0 : Int).toNat 1) := ⟨_, rfl⟩
               replace H : (impl_GoodNodes.l0 kj10 l0 y223 l0 (l0.length : Int) (wrap64 (x15_1 + 1))) = some r := by first | (rw [hy223]; with_reducible exact H) | (have H2_ := (Option.bind_some _ _).symm.trans H; rw [hy223]; with_reducible exact H2_) | (have H2_ := (Option.bind_some _ _).symm.trans H; with_reducible exact H2_) | with_reducible exact H | (rw [hy223]; exact H) | exact H
               have Ny223 := Aside0.mk hy223
               clear hy223
               have H' := Aside0.mk H
               clear H
               have hcz44_0 := bc4_0 BK219.out
               have hcz44_1 := bc4_1 BK219.out
               have hcz44_2 := bc4_2 BK219.out
               have hcz44_3 := bc4_3 BK219.out
               have hfz44_0 := blk_frozen BK219.out 0
               have hfz44_1 := blk_frozen BK219.out 1
               have hfz44_2 := blk_frozen BK219.out 2
               have hfz44_3 := blk_frozen BK219.out 3
               have p43 : 0 ≤ (0 : Int) := (by omega)
               have q43 : (0 : Int) < ((x3_1.length : Int) : Int) := of_decide_eq_true am_
               have qi43 : (0 < x3_1.length) = True := eq_true (by omega)
               obtain ⟨go43, co43, eo43, gb43, gl43, cl43, HG43⟩ := Kd.R_form HO_3.out (by omega)
               (first | cases eo43 | (injection eo43 with ea_ en_ ec_; (first | subst ea_ | (injection ea_ with ea_; subst ea_)); subst ec_; clear en_))
               have GB43 := Aside0.mk gb43
               have GG43 := Aside0.mk HG43
               clear gb43 gl43 HG43
               obtain ⟨hx43_0, hf43_0⟩ := Kd.R_celln 0 HO_3.out (0 : Int) p43 q43
               (try rw [show ((0 : Int)).toNat = 0 from rfl] at hx43_0)
               (try simp only [Nat.reduceMul, Nat.zero_mul, Nat.zero_add, Nat.reduceAdd] at hx43_0)
               (try rw [show ((0 : Int)).toNat = 0 from rfl] at hf43_0)
               (try simp only [Nat.reduceMul, Nat.zero_mul, Nat.zero_add, Nat.reduceAdd] at hf43_0)
               replace p43 := eq_true p43
               replace q43 := eq_true q43
               have HP45 := Kd.R_putg HO_3.out (0 : Int) 1
               go_wp2_with (first | ((with_reducible refine gate_store (t := 3) (p := 73) rfl ?_); (try (rw [drewN_self wc]; generalize hq_ : World.drewN wc _ = wc; have n0_ := Aside0.mk (Kd.R_at hq_ HO_3.out); have n1_ := Aside0.mk (blk_at hq_ BK219.out); have n2_ := Aside0.mk (below_at hq_ HB.out); clear hq_ HO_3 BK219 HB; have HO_3 := n0_; have BK219 := n1_; have HB := n2_; clear n0_ n1_ n2_; (try (have HP45 := Kd.R_putg HO_3.out (0 : Int) 1)))); refine store_event (t := 3) (p := 73) (v := ?vo_w46) (w1 := (wc.setCell ⟨go43, (0 : Int).toNat, none⟩ (.int .i64 1))) ?hg ?ho ?hn ?hr ?_; (case ho => rfl); (case hg => rfl); (case hn => rfl); (case hr => first | (go_simp; done) | (go_simp; rfl)); intro w46 hw; have hg : wc.grownBy w46 (some go43) := (by rw [hw]; exact HP45.2); have hp_ : Kd.R (Kd.int .i64) 3 w46 w.heap.size (fun _ => True) (.slice (some ⟨go43, 0, none⟩) x3_1.length co43) y223 := (by rw [hw, Ny223.out]; exact HP45.1); clear HP45; have n0_ := Aside0.mk (hp_); have n1_ := Aside0.mk (blk_grown (g := gb219) (o := .cells #[.string ((rd_T38 l0 x15_1).f0), .int .i64 ((rd_T38 l0 x15_1).f1), .slice A218_2 ((rd_T38 l0 x15_1).f2).length c218_2, .string ((rd_T38 l0 x15_1).f3)] 38 (0, 0)) (bk_ BK219.out) hg (Kd.R_ne HO_3.out BK219.out (by decide))); have n2_ := Aside0.mk ((by rw [hw]; exact below_set (HB.out) GB43.out : Below w.heap.size w w46)); clear HO_3; clear BK219; clear HB; have HO_3 := n0_; have BK219 := n1_; have HB := n2_; clear n0_ n1_ n2_; clear hg hw hp_))
               repeat (go_quiet (first | ((with_reducible refine gate_store (t := 3) (p := 73) rfl ?_); (try (rw [drewN_self wc]; generalize hq_ : World.drewN wc _ = wc; have n0_ := Aside0.mk (Kd.R_at hq_ HO_3.out); have n1_ := Aside0.mk (blk_at hq_ BK219.out); have n2_ := Aside0.mk (below_at hq_ HB.out); clear hq_ HO_3 BK219 HB; have HO_3 := n0_; have BK219 := n1_; have HB := n2_; clear n0_ n1_ n2_; (try (have HP45 := Kd.R_putg HO_3.out (0 : Int) 1)))); refine store_event (t := 3) (p := 73) (v := ?vo_w46) (w1 := (wc.setCell ⟨go43, (0 : Int).toNat, none⟩ (.int .i64 1))) ?hg ?ho ?hn ?hr ?_; (case ho => rfl); (case hg => rfl); (case hn => rfl); (case hr => first | (go_simp; done) | (go_simp; rfl)); intro w46 hw; have hg : wc.grownBy w46 (some go43) := (by rw [hw]; exact HP45.2); have hp_ : Kd.R (Kd.int .i64) 3 w46 w.heap.size (fun _ => True) (.slice (some ⟨go43, 0, none⟩) x3_1.length co43) y223 := (by rw [hw, Ny223.out]; exact HP45.1); clear HP45; have n0_ := Aside0.mk (hp_); have n1_ := Aside0.mk (blk_grown (g := gb219) (o := .cells #[.string ((rd_T38 l0 x15_1).f0), .int .i64 ((rd_T38 l0 x15_1).f1), .slice A218_2 ((rd_T38 l0 x15_1).f2).length c218_2, .string ((rd_T38 l0 x15_1).f3)] 38 (0, 0)) (bk_ BK219.out) hg (Kd.R_ne HO_3.out BK219.out (by decide))); have n2_ := Aside0.mk ((by rw [hw]; exact below_set (HB.out) GB43.out : Below w.heap.size w w46)); clear HO_3; clear BK219; clear HB; have HO_3 := n0_; have BK219 := n1_; have HB := n2_; clear n0_ n1_ n2_; clear hg hw hp_)); try go_wp2_with (first | ((with_reducible refine gate_store (t := 3) (p := 73) rfl ?_); (try (rw [drewN_self wc]; generalize hq_ : World.drewN wc _ = wc; have n0_ := Aside0.mk (Kd.R_at hq_ HO_3.out); have n1_ := Aside0.mk (blk_at hq_ BK219.out); have n2_ := Aside0.mk (below_at hq_ HB.out); clear hq_ HO_3 BK219 HB; have HO_3 := n0_; have BK219 := n1_; have HB := n2_; clear n0_ n1_ n2_; (try (have HP45 := Kd.R_putg HO_3.out (0 : Int) 1)))); refine store_event (t := 3) (p := 73) (v := ?vo_w46) (w1 := (wc.setCell ⟨go43, (0 : Int).toNat, none⟩ (.int .i64 1))) ?hg ?ho ?hn ?hr ?_; (case ho => rfl); (case hg => rfl); (case hn => rfl); (case hr => first | (go_simp; done) | (go_simp; rfl)); intro w46 hw; have hg : wc.grownBy w46 (some go43) := (by rw [hw]; exact HP45.2); have hp_ : Kd.R (Kd.int .i64) 3 w46 w.heap.size (fun _ => True) (.slice (some ⟨go43, 0, none⟩) x3_1.length co43) y223 := (by rw [hw, Ny223.out]; exact HP45.1); clear HP45; have n0_ := Aside0.mk (hp_); have n1_ := Aside0.mk (blk_grown (g := gb219) (o := .cells #[.string ((rd_T38 l0 x15_1).f0), .int .i64 ((rd_T38 l0 x15_1).f1), .slice A218_2 ((rd_T38 l0 x15_1).f2).length c218_2, .string ((rd_T38 l0 x15_1).f3)] 38 (0, 0)) (bk_ BK219.out) hg (Kd.R_ne HO_3.out BK219.out (by decide))); have n2_ := Aside0.mk ((by rw [hw]; exact below_set (HB.out) GB43.out : Below w.heap.size w w46)); clear HO_3; clear BK219; clear HB; have HO_3 := n0_; have BK219 := n1_; have HB := n2_; clear n0_ n1_ n2_; clear hg hw hp_)))
               go_roundg kj10
               case measure => have := HK1.out; have := HJ10.out; omega
               case rel => exact ⟨(y223), (wrap64 (x15_1 + 1)), sv_, H', ⟨by have := HK1.out; have := HJ10.out; omega⟩, ⟨by (with_reducible repeat (first | apply Kd.R_alloc | apply Kd.R_drewN | apply Kd.R_drew)); exact HO_3.out⟩, ⟨bes_⟩⟩
              ·rw [if_neg c42] at H
               exact absurd H (by simp)
             ·rw [if_neg c41] at H
              have c41b0 : (((rd_T38 l0 x15_1).f1) == (-1)) = false := beq_eq_false_iff_ne.mpr c41
              have c41b1 : (((rd_T38 l0 x15_1).f1) != (-1)) = true := bne_iff_ne.mpr c41
              obtain rfl := Option.some.inj H
              have hcz47_0 := bc4_0 BK219.out
              have hcz47_1 := bc4_1 BK219.out
              have hcz47_2 := bc4_2 BK219.out
              have hcz47_3 := bc4_3 BK219.out
              have hfz47_0 := blk_frozen BK219.out 0
              have hfz47_1 := blk_frozen BK219.out 1
              have hfz47_2 := blk_frozen BK219.out 2
              have hfz47_3 := blk_frozen BK219.out 3
              go_wp2
              repeat (go_quiet (fail); try go_wp2)
              go_ret
              exact ⟨er_, bes_⟩
           ·rw [if_neg c38] at H
            have c38b0 : (x15_1 == 0) = false := beq_eq_false_iff_ne.mpr c38
            have c38b1 : (x15_1 != 0) = true := bne_iff_ne.mpr c38
            have HC48 := Aside0.mk H
            clear H
            go_upto_region 15 with (fail)
            repeat (go_quiet (fail); go_upto_region 15 with (fail))
            go_cut [97] (fun v97 wc => ∃ (kq : Nat) (x97_47 : Bool), v97 = .bool x97_47 ∧ Aside0 (impl_GoodNodes.j3 kq l0 x3_1 x15_1 l0 (l0.length : Int) x15_1 x97_47 ((rd_T38 l0 x15_1).f0) ((rd_T38 l0 x15_1).f1) ((rd_T38 l0 x15_1).f2) ((rd_T38 l0 x15_1).f3) = some r) ∧ Aside0 (kq ≤ kj10) ∧ Aside0 (Kd.R (Kd.int .i64) 3 wc w.heap.size (fun _ => True) v216 x3_1) ∧ Aside0 (wc.heap[gb219]? = some (.cells #[.string ((rd_T38 l0 x15_1).f0), .int .i64 ((rd_T38 l0 x15_1).f1), (.slice A218_2 ((rd_T38 l0 x15_1).f2).length c218_2), .string ((rd_T38 l0 x15_1).f3)] 38 (0, 0))) ∧ Aside0 (Below w.heap.size w wc))
            case first =>
             have H := HC48.out
             clear HC48
             replace H := Option.bind_eq_some_iff.mp H
             obtain ⟨t224, A490, H⟩ := H
             replace H : (if t224 = true then (if 0 ≤ ((rd_T38 l0 x15_1).f1) then (if ((rd_T38 l0 x15_1).f1) < (l0.length : Int) then (if ((rd_T38 l0 ((rd_T38 l0 x15_1).f1)).f0).toList = ([] : List UInt8) then (impl_GoodNodes.j3 kj10 l0 x3_1 x15_1 l0 (l0.length : Int) x15_1 true ((rd_T38 l0 x15_1).f0) ((rd_T38 l0 x15_1).f1) ((rd_T38 l0 x15_1).f2) ((rd_T38 l0 x15_1).f3)) else ((impl_isAround.f kj10 l0 ((rd_T38 l0 x15_1).f1) (wrap64 (x15_1 - 1))).bind fun t226 => (impl_GoodNodes.j3 kj10 l0 x3_1 x15_1 l0 (l0.length : Int) x15_1 (!t226) ((rd_T38 l0 x15_1).f0) ((rd_T38 l0 x15_1).f1) ((rd_T38 l0 x15_1).f2) ((rd_T38 l0 x15_1).f3)))) else (none)) else (none)) else (impl_GoodNodes.j3 kj10 l0 x3_1 x15_1 l0 (l0.length : Int) x15_1 true ((rd_T38 l0 x15_1).f0) ((rd_T38 l0 x15_1).f1) ((rd_T38 l0 x15_1).f2) ((rd_T38 l0 x15_1).f3))) = some r := H
             have A49 := Aside0.mk A490
             clear A490
             by_cases c50 : t224 = true
             ·subst c50
              have H1 : (if 0 ≤ ((rd_T38 l0 x15_1).f1) then (if ((rd_T38 l0 x15_1).f1) < (l0.length : Int) then (if ((rd_T38 l0 ((rd_T38 l0 x15_1).f1)).f0).toList = ([] : List UInt8) then (impl_GoodNodes.j3 kj10 l0 x3_1 x15_1 l0 (l0.length : Int) x15_1 true ((rd_T38 l0 x15_1).f0) ((rd_T38 l0 x15_1).f1) ((rd_T38 l0 x15_1).f2) ((rd_T38 l0 x15_1).f3)) else ((impl_isAround.f kj10 l0 ((rd_T38 l0 x15_1).f1) (wrap64 (x15_1 - 1))).bind fun t226 => (impl_GoodNodes.j3 kj10 l0 x3_1 x15_1 l0 (l0.length : Int) x15_1 (!t226) ((rd_T38 l0 x15_1).f0) ((rd_T38 l0 x15_1).f1) ((rd_T38 l0 x15_1).f2) ((rd_T38 l0 x15_1).f3)))) else (none)) else (none)) = some r := by rw [if_pos rfl] at H; exact H
              clear H
              have H := H1
              clear H1
              by_cases c51 : 0 ≤ ((rd_T38 l0 x15_1).f1)
              ·rw [if_pos c51] at H
               have c51b0 : decide (0 ≤ ((rd_T38 l0 x15_1).f1)) = true := decide_eq_true c51
               clear c51
               (first | rw [c51b0] | (simp only [i64_w, i32_w]; rw [c51b0]) | skip)
               by_cases c52 : ((rd_T38 l0 x15_1).f1) < (l0.length : Int)
               ·rw [if_pos c52] at H
                have c52b0 : decide (((rd_T38 l0 x15_1).f1) < (l0.length : Int)) = true := decide_eq_true c52
                clear c52
                by_cases c53 : ((rd_T38 l0 ((rd_T38 l0 x15_1).f1)).f0).toList = ([] : List UInt8)
                ·rw [if_pos c53] at H
                 have c53b0 : (((rd_T38 l0 ((rd_T38 l0 x15_1).f1)).f0).toList == ([] : List UInt8)) = true := beq_iff_eq.mpr c53
                 have c53b7 : ((rd_T38 l0 ((rd_T38 l0 x15_1).f1)).f0).toList.isEmpty = true := by rw [beq_iff_eq.mp c53b0]; rfl
                 have c53b8 : ¬ (((rd_T38 l0 ((rd_T38 l0 x15_1).f1)).f0).toList.isEmpty = false) := fun h_ => by have h9_ := beq_iff_eq.mp c53b0; rw [h9_] at h_; cases h_
                 have c53b1 : (((rd_T38 l0 ((rd_T38 l0 x15_1).f1)).f0).toList != ([] : List UInt8)) = false := bne_eq_false_iff_eq.mpr c53
                 clear c53
                 have H' := Aside0.mk H
                 clear H
                 have hcz54_0 := bc4_0 BK219.out
                 have hcz54_1 := bc4_1 BK219.out
                 have hcz54_2 := bc4_2 BK219.out
                 have hcz54_3 := bc4_3 BK219.out
                 have hfz54_0 := blk_frozen BK219.out 0
                 have hfz54_1 := blk_frozen BK219.out 1
                 have hfz54_2 := blk_frozen BK219.out 2
                 have hfz54_3 := blk_frozen BK219.out 3
                 go_wp2_with (first | (go_at_call 24; (with_reducible refine (impl_within.calls ((rd_T38 l0 x15_1).f1) 0 (wrap64 (x15_1 - 1)) true _ A49.out).mono ?_); rintro e w' ⟨rfl, ⟨nd, rfl⟩⟩; (try exact dd_); have p225 : 0 ≤ (((rd_T38 l0 x15_1).f1) : Int) := of_decide_eq_true am_; have q225 : ((rd_T38 l0 x15_1).f1) < (l0.length : Int) := of_decide_eq_true am_; obtain ⟨ad225, A225_2, c225_2, e225, hx225_0, hx225_1, hx225_2, hx225_3, hl225_2, hi225_2⟩ := at_T38 HR0.out ((rd_T38 l0 x15_1).f1) p225 q225; obtain rfl : ad218 = ad225 := (by injection e225); replace hx225_0 := pw_cell_below HB.out hx225_0; replace hx225_1 := pw_cell_below HB.out hx225_1; replace hx225_2 := pw_cell_below HB.out hx225_2; replace hx225_3 := pw_cell_below HB.out hx225_3; have HR225_2 := Aside0.mk hi225_2; have HC225_2 := Aside0.mk hl225_2; clear hi225_2 hl225_2; replace p225 := eq_true p225; replace q225 := eq_true q225))
                 repeat (go_quiet (first | (go_at_call 24; (with_reducible refine (impl_within.calls ((rd_T38 l0 x15_1).f1) 0 (wrap64 (x15_1 - 1)) true _ A49.out).mono ?_); rintro e w' ⟨rfl, ⟨nd, rfl⟩⟩; (try exact dd_); have p225 : 0 ≤ (((rd_T38 l0 x15_1).f1) : Int) := of_decide_eq_true am_; have q225 : ((rd_T38 l0 x15_1).f1) < (l0.length : Int) := of_decide_eq_true am_; obtain ⟨ad225, A225_2, c225_2, e225, hx225_0, hx225_1, hx225_2, hx225_3, hl225_2, hi225_2⟩ := at_T38 HR0.out ((rd_T38 l0 x15_1).f1) p225 q225; obtain rfl : ad218 = ad225 := (by injection e225); replace hx225_0 := pw_cell_below HB.out hx225_0; replace hx225_1 := pw_cell_below HB.out hx225_1; replace hx225_2 := pw_cell_below HB.out hx225_2; replace hx225_3 := pw_cell_below HB.out hx225_3; have HR225_2 := Aside0.mk hi225_2; have HC225_2 := Aside0.mk hl225_2; clear hi225_2 hl225_2; replace p225 := eq_true p225; replace q225 := eq_true q225)); try go_wp2_with (first | (go_at_call 24; (with_reducible refine (impl_within.calls ((rd_T38 l0 x15_1).f1) 0 (wrap64 (x15_1 - 1)) true _ A49.out).mono ?_); rintro e w' ⟨rfl, ⟨nd, rfl⟩⟩; (try exact dd_); have p225 : 0 ≤ (((rd_T38 l0 x15_1).f1) : Int) := of_decide_eq_true am_; have q225 : ((rd_T38 l0 x15_1).f1) < (l0.length : Int) := of_decide_eq_true am_; obtain ⟨ad225, A225_2, c225_2, e225, hx225_0, hx225_1, hx225_2, hx225_3, hl225_2, hi225_2⟩ := at_T38 HR0.out ((rd_T38 l0 x15_1).f1) p225 q225; obtain rfl : ad218 = ad225 := (by injection e225); replace hx225_0 := pw_cell_below HB.out hx225_0; replace hx225_1 := pw_cell_below HB.out hx225_1; replace hx225_2 := pw_cell_below HB.out hx225_2; replace hx225_3 := pw_cell_below HB.out hx225_3; have HR225_2 := Aside0.mk hi225_2; have HC225_2 := Aside0.mk hl225_2; clear hi225_2 hl225_2; replace p225 := eq_true p225; replace q225 := eq_true q225)))
                 go_meet
                 case rel => exact ⟨_, (true), sv_, H', ⟨by have := HK1.out; have := HJ10.out; first | omega | exact Nat.le_refl _⟩, ⟨by (with_reducible repeat (first | apply Kd.R_alloc | apply Kd.R_drewN | apply Kd.R_drew)); exact HO_3.out⟩, ⟨by (with_reducible repeat (first | refine blk_drewN ?_ _ | refine blk_drew ?_ | refine blk_alloc ?_ _)); exact BK219.out⟩, ⟨bes_⟩⟩
                ·rw [if_neg c53] at H
                 have c53b0 : (((rd_T38 l0 ((rd_T38 l0 x15_1).f1)).f0).toList == ([] : List UInt8)) = false := beq_eq_false_iff_ne.mpr c53
                 have c53b7 : ((rd_T38 l0 ((rd_T38 l0 x15_1).f1)).f0).toList.isEmpty = false := Bool.eq_false_iff.mpr (fun h_ => absurd (List.isEmpty_iff.mp h_) (beq_eq_false_iff_ne.mp c53b0))
                 have c53b8 : ¬ (((rd_T38 l0 ((rd_T38 l0 x15_1).f1)).f0).toList.isEmpty = true) := fun h_ => absurd (List.isEmpty_iff.mp h_) (beq_eq_false_iff_ne.mp c53b0)
                 have c53b1 : (((rd_T38 l0 ((rd_T38 l0 x15_1).f1)).f0).toList != ([] : List UInt8)) = true := bne_iff_ne.mpr c53
                 replace H := Option.bind_eq_some_iff.mp H
                 obtain ⟨t226, A550, H⟩ := H
                 replace H : (impl_GoodNodes.j3 kj10 l0 x3_1 x15_1 l0 (l0.length : Int) x15_1 (!t226) ((rd_T38 l0 x15_1).f0) ((rd_T38 l0 x15_1).f1) ((rd_T38 l0 x15_1).f2) ((rd_T38 l0 x15_1).f3)) = some r := H
                 have A55 := Aside0.mk A550
                 clear A550
                 have H' := Aside0.mk H
                 clear H
                 have hcz56_0 := bc4_0 BK219.out
                 have hcz56_1 := bc4_1 BK219.out
                 have hcz56_2 := bc4_2 BK219.out
                 have hcz56_3 := bc4_3 BK219.out
                 have hfz56_0 := blk_frozen BK219.out 0
                 have hfz56_1 := blk_frozen BK219.out 1
                 have hfz56_2 := blk_frozen BK219.out 2
                 have hfz56_3 := blk_frozen BK219.out 3
                 go_wp2_with (first | (go_at_call 24; (with_reducible refine (impl_within.calls ((rd_T38 l0 x15_1).f1) 0 (wrap64 (x15_1 - 1)) true _ A49.out).mono ?_); rintro e w' ⟨rfl, ⟨nd, rfl⟩⟩; (try exact dd_); have p225 : 0 ≤ (((rd_T38 l0 x15_1).f1) : Int) := of_decide_eq_true am_; have q225 : ((rd_T38 l0 x15_1).f1) < (l0.length : Int) := of_decide_eq_true am_; obtain ⟨ad225, A225_2, c225_2, e225, hx225_0, hx225_1, hx225_2, hx225_3, hl225_2, hi225_2⟩ := at_T38 HR0.out ((rd_T38 l0 x15_1).f1) p225 q225; obtain rfl : ad218 = ad225 := (by injection e225); replace hx225_0 := pw_cell_below HB.out hx225_0; replace hx225_1 := pw_cell_below HB.out hx225_1; replace hx225_2 := pw_cell_below HB.out hx225_2; replace hx225_3 := pw_cell_below HB.out hx225_3; have HR225_2 := Aside0.mk hi225_2; have HC225_2 := Aside0.mk hl225_2; clear hi225_2 hl225_2; replace p225 := eq_true p225; replace q225 := eq_true q225) | (go_at_call 28; (with_reducible refine (impl_isAround.calls kj10 _ _ l0 ((rd_T38 l0 x15_1).f1) (wrap64 (x15_1 - 1)) t226 _ ?side1 ?side2 A55.out).mono ?_); (case side1 => repeat (first | exact (Kd.C_below HR0.out bes_) | (with_reducible refine Kd.C_alloc ?_ _) | (with_reducible refine Kd.C_drewN ?_ _) | (with_reducible refine Kd.C_drew ?_))); (case side2 => exact HC0.out); rintro e w' ⟨rfl, ⟨nd, rfl⟩⟩; (try exact dd_)))
                 repeat (go_quiet (first | (go_at_call 24; (with_reducible refine (impl_within.calls ((rd_T38 l0 x15_1).f1) 0 (wrap64 (x15_1 - 1)) true _ A49.out).mono ?_); rintro e w' ⟨rfl, ⟨nd, rfl⟩⟩; (try exact dd_); have p225 : 0 ≤ (((rd_T38 l0 x15_1).f1) : Int) := of_decide_eq_true am_; have q225 : ((rd_T38 l0 x15_1).f1) < (l0.length : Int) := of_decide_eq_true am_; obtain ⟨ad225, A225_2, c225_2, e225, hx225_0, hx225_1, hx225_2, hx225_3, hl225_2, hi225_2⟩ := at_T38 HR0.out ((rd_T38 l0 x15_1).f1) p225 q225; obtain rfl : ad218 = ad225 := (by injection e225); replace hx225_0 := pw_cell_below HB.out hx225_0; replace hx225_1 := pw_cell_below HB.out hx225_1; replace hx225_2 := pw_cell_below HB.out hx225_2; replace hx225_3 := pw_cell_below HB.out hx225_3; have HR225_2 := Aside0.mk hi225_2; have HC225_2 := Aside0.mk hl225_2; clear hi225_2 hl225_2; replace p225 := eq_true p225; replace q225 := eq_true q225) | (go_at_call 28; (with_reducible refine (impl_isAround.calls kj10 _ _ l0 ((rd_T38 l0 x15_1).f1) (wrap64 (x15_1 - 1)) t226 _ ?side1 ?side2 A55.out).mono ?_); (case side1 => repeat (first | exact (Kd.C_below HR0.out bes_) | (with_reducible refine Kd.C_alloc ?_ _) | (with_reducible refine Kd.C_drewN ?_ _) | (with_reducible refine Kd.C_drew ?_))); (case side2 => exact HC0.out); rintro e w' ⟨rfl, ⟨nd, rfl⟩⟩; (try exact dd_))); try go_wp2_with (first | (go_at_call 24; (with_reducible refine (impl_within.calls ((rd_T38 l0 x15_1).f1) 0 (wrap64 (x15_1 - 1)) true _ A49.out).mono ?_); rintro e w' ⟨rfl, ⟨nd, rfl⟩⟩; (try exact dd_); have p225 : 0 ≤ (((rd_T38 l0 x15_1).f1) : Int) := of_decide_eq_true am_; have q225 : ((rd_T38 l0 x15_1).f1) < (l0.length : Int) := of_decide_eq_true am_; obtain ⟨ad225, A225_2, c225_2, e225, hx225_0, hx225_1, hx225_2, hx225_3, hl225_2, hi225_2⟩ := at_T38 HR0.out ((rd_T38 l0 x15_1).f1) p225 q225; obtain rfl : ad218 = ad225 := (by injection e225); replace hx225_0 := pw_cell_below HB.out hx225_0; replace hx225_1 := pw_cell_below HB.out hx225_1; replace hx225_2 := pw_cell_below HB.out hx225_2; replace hx225_3 := pw_cell_below HB.out hx225_3; have HR225_2 := Aside0.mk hi225_2; have HC225_2 := Aside0.mk hl225_2; clear hi225_2 hl225_2; replace p225 := eq_true p225; replace q225 := eq_true q225) | (go_at_call 28; (with_reducible refine (impl_isAround.calls kj10 _ _ l0 ((rd_T38 l0 x15_1).f1) (wrap64 (x15_1 - 1)) t226 _ ?side1 ?side2 A55.out).mono ?_); (case side1 => repeat (first | exact (Kd.C_below HR0.out bes_) | (with_reducible refine Kd.C_alloc ?_ _) | (with_reducible refine Kd.C_drewN ?_ _) | (with_reducible refine Kd.C_drew ?_))); (case side2 => exact HC0.out); rintro e w' ⟨rfl, ⟨nd, rfl⟩⟩; (try exact dd_))))
                 go_meet
                 case rel => exact ⟨_, (!t226), sv_, H', ⟨by have := HK1.out; have := HJ10.out; first | omega | exact Nat.le_refl _⟩, ⟨by (with_reducible repeat (first | apply Kd.R_alloc | apply Kd.R_drewN | apply Kd.R_drew)); exact HO_3.out⟩, ⟨by (with_reducible repeat (first | refine blk_drewN ?_ _ | refine blk_drew ?_ | refine blk_alloc ?_ _)); exact BK219.out⟩, ⟨bes_⟩⟩
               ·rw [if_neg c52] at H
                exact absurd H (by simp)
              ·rw [if_neg c51] at H
               exact absurd H (by simp)
             ·replace c50 := Bool.eq_false_iff.mpr c50
              subst c50
              have H1 : (impl_GoodNodes.j3 kj10 l0 x3_1 x15_1 l0 (l0.length : Int) x15_1 true ((rd_T38 l0 x15_1).f0) ((rd_T38 l0 x15_1).f1) ((rd_T38 l0 x15_1).f2) ((rd_T38 l0 x15_1).f3)) = some r := by rw [if_neg (show ¬ (false = true) by decide)] at H; exact H
              clear H
              have H := H1
              clear H1
              have H' := Aside0.mk H
              clear H
              have hcz57_0 := bc4_0 BK219.out
              have hcz57_1 := bc4_1 BK219.out
              have hcz57_2 := bc4_2 BK219.out
              have hcz57_3 := bc4_3 BK219.out
              have hfz57_0 := blk_frozen BK219.out 0
              have hfz57_1 := blk_frozen BK219.out 1
              have hfz57_2 := blk_frozen BK219.out 2
              have hfz57_3 := blk_frozen BK219.out 3
              go_wp2_with (first | (go_at_call 24; (with_reducible refine (impl_within.calls ((rd_T38 l0 x15_1).f1) 0 (wrap64 (x15_1 - 1)) false _ A49.out).mono ?_); rintro e w' ⟨rfl, ⟨nd, rfl⟩⟩; (try exact dd_)))
              repeat (go_quiet (first | (go_at_call 24; (with_reducible refine (impl_within.calls ((rd_T38 l0 x15_1).f1) 0 (wrap64 (x15_1 - 1)) false _ A49.out).mono ?_); rintro e w' ⟨rfl, ⟨nd, rfl⟩⟩; (try exact dd_))); try go_wp2_with (first | (go_at_call 24; (with_reducible refine (impl_within.calls ((rd_T38 l0 x15_1).f1) 0 (wrap64 (x15_1 - 1)) false _ A49.out).mono ?_); rintro e w' ⟨rfl, ⟨nd, rfl⟩⟩; (try exact dd_))))
              go_meet
              case rel => exact ⟨_, (true), sv_, H', ⟨by have := HK1.out; have := HJ10.out; first | omega | exact Nat.le_refl _⟩, ⟨by (with_reducible repeat (first | apply Kd.R_alloc | apply Kd.R_drewN | apply Kd.R_drew)); exact HO_3.out⟩, ⟨by (with_reducible repeat (first | refine blk_drewN ?_ _ | refine blk_drew ?_ | refine blk_alloc ?_ _)); exact BK219.out⟩, ⟨bes_⟩⟩
            case rest =>
             clear HC48
             (try clear c1);(try clear c2);(try clear p2);(try clear q2);(try clear hx2);(try clear c3);(try clear c4);(try clear c4b0 c4b1);(try clear p4);(try clear q4);(try clear hx4);(try clear qi4);(try clear hf4);(try clear c5);(try clear c5b0 c5b1);(try clear p6);(try clear c8);(try clear c8b0);(try clear c9);(try clear c9b0);(try clear c10);(try clear c10b0);(try clear c13);(try clear c15);(try clear c15b0 c15b1);(try clear c16);(try clear c16b0 c16b1);(try clear c18);(try clear c18b0 c18b1);(try clear c21);(try clear p21);(try clear q21);(try clear hx21);(try clear c22);(try clear p22);(try clear q22);(try clear hx22);(try clear c24);(try clear c25);(try clear c25b0 c25b1);(try clear c28);(try clear c29);(try clear c29b0 c29b1);(try clear c31);(try clear c38);(try clear c38b0 c38b1);(try clear c39)
             (try clear c39b0 c39b1);(try clear c41);(try clear c41b0 c41b1);(try clear c42);(try clear c42b0 c42b1);(try clear p43);(try clear q43);(try clear hx43);(try clear qi43);(try clear hf43);(try clear c50);(try clear c51);(try clear c51b0);(try clear c52);(try clear c52b0);(try clear c53);(try clear c53b0 c53b1);(try clear hcz13_0 hcz13_1 hcz13_2 hcz13_3);(try clear hcz17_0 hcz17_1 hcz17_2 hcz17_3);(try clear hcz19_0 hcz19_1 hcz19_2 hcz19_3);(try clear hcz21_0 hcz21_1 hcz21_2 hcz21_3);(try clear hcz23_0 hcz23_1 hcz23_2 hcz23_3);(try clear hcz26_0 hcz26_1 hcz26_2 hcz26_3);(try clear hcz32_0 hcz32_1 hcz32_2 hcz32_3)
             (try clear hcz34_0 hcz34_1 hcz34_2 hcz34_3);(try clear hcz36_0 hcz36_1 hcz36_2 hcz36_3);(try clear hcz37_0 hcz37_1 hcz37_2 hcz37_3);(try clear hcz40_0 hcz40_1 hcz40_2 hcz40_3);(try clear hcz44_0 hcz44_1 hcz44_2 hcz44_3);(try clear hcz47_0 hcz47_1 hcz47_2 hcz47_3);(try clear hcz54_0 hcz54_1 hcz54_2 hcz54_3);(try clear hcz56_0 hcz56_1 hcz56_2 hcz56_3);(try clear hcz57_0 hcz57_1 hcz57_2 hcz57_3);(try clear hfz13_0 hfz13_1 hfz13_2 hfz13_3);(try clear hfz17_0 hfz17_1 hfz17_2 hfz17_3);(try clear hfz19_0 hfz19_1)
             (try clear hfz19_2 hfz19_3);(try clear hfz21_0 hfz21_1 hfz21_2 hfz21_3);(try clear hfz23_0 hfz23_1 hfz23_2 hfz23_3);(try clear hfz26_0 hfz26_1 hfz26_2 hfz26_3);(try clear hfz32_0 hfz32_1 hfz32_2 hfz32_3);(try clear hfz34_0 hfz34_1 hfz34_2 hfz34_3);(try clear hfz36_0 hfz36_1 hfz36_2 hfz36_3);(try clear hfz37_0 hfz37_1 hfz37_2 hfz37_3);(try clear hfz40_0 hfz40_1 hfz40_2 hfz40_3);(try clear hfz44_0 hfz44_1 hfz44_2 hfz44_3);(try clear hfz47_0 hfz47_1 hfz47_2 hfz47_3);(try clear hfz54_0 hfz54_1 hfz54_2 hfz54_3)
             (try clear hfz56_0 hfz56_1 hfz56_2 hfz56_3);(try clear hfz57_0 hfz57_1 hfz57_2 hfz57_3);(try clear hx218_0);(try clear hx218_1);(try clear hx218_2);(try clear hx218_3);(try clear hx225_0);(try clear hx225_1);(try clear hx225_2);(try clear hx225_3);(try clear hx43_0);(try clear p2);(try clear p21);(try clear p218);(try clear p225);(try clear p43);(try clear q2);(try clear q21);(try clear q218);(try clear q225);(try clear q43)
             obtain ⟨kq, x97_47, rfl, HA, HJ47, HO_3, BK219, HB⟩ := hcut
             cases kq with
             | zero => exact absurd HA.out (by simp [impl_GoodNodes.j3])
             | succ kj47 =>
              have H := HA.out
              clear HA
              simp only [impl_GoodNodes.j3] at H
              by_cases c58 : x97_47 = true
              ·subst c58
               have H1 : (some false) = some r := by rw [if_pos rfl] at H; exact H
               clear H
               have H := H1
               clear H1
               obtain rfl := Option.some.inj H
               go_wp2
               repeat (go_quiet (fail); try go_wp2)
               go_ret
               exact ⟨er_, bes_⟩
              ·replace c58 := Bool.eq_false_iff.mpr c58
               subst c58
               have H1 : (if ((rd_T38 l0 x15_1).f0).toList = ([] : List UInt8) then (if 0 ≤ (wrap64 (x15_1 - 1)) then (if (wrap64 (x15_1 - 1)) < (l0.length : Int) then (if ((rd_T38 l0 (wrap64 (x15_1 - 1))).f0).toList = ([] : List UInt8) then (impl_GoodNodes.j4 kj47 l0 x3_1 x15_1 l0 (l0.length : Int) x15_1 (((rd_T38 l0 (wrap64 (x15_1 - 1))).f1) == ((rd_T38 l0 x15_1).f1)) ((rd_T38 l0 x15_1).f0) ((rd_T38 l0 x15_1).f1) ((rd_T38 l0 x15_1).f2) ((rd_T38 l0 x15_1).f3)) else (impl_GoodNodes.j4 kj47 l0 x3_1 x15_1 l0 (l0.length : Int) x15_1 false ((rd_T38 l0 x15_1).f0) ((rd_T38 l0 x15_1).f1) ((rd_T38 l0 x15_1).f2) ((rd_T38 l0 x15_1).f3))) else (none)) else (none)) else (impl_GoodNodes.j4 kj47 l0 x3_1 x15_1 l0 (l0.length : Int) x15_1 false ((rd_T38 l0 x15_1).f0) ((rd_T38 l0 x15_1).f1) ((rd_T38 l0 x15_1).f2) ((rd_T38 l0 x15_1).f3))) = some r := by rw [if_neg (show ¬ (false = true) by decide)] at H; exact H
               clear H
               have H := H1
               clear H1
               have HC59 := Aside0.mk H
               clear H
               go_upto_region 17 with (fail)
               repeat (go_quiet (fail); go_upto_region 17 with (fail))
               go_cut [120] (fun v120 wc => ∃ (kq : Nat) (x120_58 : Bool), v120 = .bool x120_58 ∧ Aside0 (impl_GoodNodes.j4 kq l0 x3_1 x15_1 l0 (l0.length : Int) x15_1 x120_58 ((rd_T38 l0 x15_1).f0) ((rd_T38 l0 x15_1).f1) ((rd_T38 l0 x15_1).f2) ((rd_T38 l0 x15_1).f3) = some r) ∧ Aside0 (kq ≤ kj47) ∧ Aside0 (Kd.R (Kd.int .i64) 3 wc w.heap.size (fun _ => True) v216 x3_1) ∧ Aside0 (wc.heap[gb219]? = some (.cells #[.string ((rd_T38 l0 x15_1).f0), .int .i64 ((rd_T38 l0 x15_1).f1), (.slice A218_2 ((rd_T38 l0 x15_1).f2).length c218_2), .string ((rd_T38 l0 x15_1).f3)] 38 (0, 0))) ∧ Aside0 (Below w.heap.size w wc))
               case first =>
                have H := HC59.out
                clear HC59
                by_cases c60 : ((rd_T38 l0 x15_1).f0).toList = ([] : List UInt8)
                ·rw [if_pos c60] at H
                 have c60b0 : (((rd_T38 l0 x15_1).f0).toList == ([] : List UInt8)) = true := beq_iff_eq.mpr c60
                 have c60b7 : ((rd_T38 l0 x15_1).f0).toList.isEmpty = true := by rw [beq_iff_eq.mp c60b0]; rfl
                 have c60b8 : ¬ (((rd_T38 l0 x15_1).f0).toList.isEmpty = false) := fun h_ => by have h9_ := beq_iff_eq.mp c60b0; rw [h9_] at h_; cases h_
                 have c60b1 : (((rd_T38 l0 x15_1).f0).toList != ([] : List UInt8)) = false := bne_eq_false_iff_eq.mpr c60
                 clear c60
                 (first | rw [c60b0] | simp only [c60b7, Bool.not_true, Bool.not_false] | (simp only [i64_w, i32_w]; rw [c60b0]) | skip)
                 obtain ⟨ji61, hji61⟩ : ∃ j_ : Int, (wrap64 (x15_1 - 1)) = j_ := ⟨_, rfl⟩
                 replace H : (if 0 ≤ (ji61) then (if (ji61) < (l0.length : Int) then (if ((rd_T38 l0 (ji61)).f0).toList = ([] : List UInt8) then (impl_GoodNodes.j4 kj47 l0 x3_1 x15_1 l0 (l0.length : Int) x15_1 (((rd_T38 l0 (ji61)).f1) == ((rd_T38 l0 x15_1).f1)) ((rd_T38 l0 x15_1).f0) ((rd_T38 l0 x15_1).f1) ((rd_T38 l0 x15_1).f2) ((rd_T38 l0 x15_1).f3)) else (impl_GoodNodes.j4 kj47 l0 x3_1 x15_1 l0 (l0.length : Int) x15_1 false ((rd_T38 l0 x15_1).f0) ((rd_T38 l0 x15_1).f1) ((rd_T38 l0 x15_1).f2) ((rd_T38 l0 x15_1).f3))) else (none)) else (none)) = some r := by first | (rw [hji61] at H; exact H) | (simp only [hji61] at H ⊢; exact H)
                 have hji61w : (IntKind.i64.wrap (x15_1 - 1)) = ji61 := (i64_w _).trans hji61
                 by_cases c62 : 0 ≤ (ji61)
                 ·rw [if_pos c62] at H
                  have c62b0 : decide (0 ≤ (ji61)) = true := decide_eq_true c62
                  clear c62
                  by_cases c63 : (ji61) < (l0.length : Int)
                  ·rw [if_pos c63] at H
                   have c63b0 : decide ((ji61) < (l0.length : Int)) = true := decide_eq_true c63
                   clear c63
                   by_cases c64 : ((rd_T38 l0 (ji61)).f0).toList = ([] : List UInt8)
                   ·rw [if_pos c64] at H
                    have c64b0 : (((rd_T38 l0 (ji61)).f0).toList == ([] : List UInt8)) = true := beq_iff_eq.mpr c64
                    have c64b7 : ((rd_T38 l0 (ji61)).f0).toList.isEmpty = true := by rw [beq_iff_eq.mp c64b0]; rfl
                    have c64b8 : ¬ (((rd_T38 l0 (ji61)).f0).toList.isEmpty = false) := fun h_ => by have h9_ := beq_iff_eq.mp c64b0; rw [h9_] at h_; cases h_
                    have c64b1 : (((rd_T38 l0 (ji61)).f0).toList != ([] : List UInt8)) = false := bne_eq_false_iff_eq.mpr c64
                    clear c64
                    have H' := Aside0.mk H
                    clear H
                    have hcz65_0 := bc4_0 BK219.out
                    have hcz65_1 := bc4_1 BK219.out
                    have hcz65_2 := bc4_2 BK219.out
                    have hcz65_3 := bc4_3 BK219.out
                    have hfz65_0 := blk_frozen BK219.out 0
                    have hfz65_1 := blk_frozen BK219.out 1
                    have hfz65_2 := blk_frozen BK219.out 2
                    have hfz65_3 := blk_frozen BK219.out 3
                    have p227 : 0 ≤ ((ji61) : Int) := of_decide_eq_true am_
                    have q227 : (ji61) < (l0.length : Int) := of_decide_eq_true am_
                    obtain ⟨ad227, A227_2, c227_2, e227, hx227_0, hx227_1, hx227_2, hx227_3, hl227_2, hi227_2⟩ := at_T38 HR0.out (ji61) p227 q227
                    obtain rfl : ad218 = ad227 := (by injection e227)
                    replace hx227_0 := pw_cell_below HB.out hx227_0
                    replace hx227_1 := pw_cell_below HB.out hx227_1
                    replace hx227_2 := pw_cell_below HB.out hx227_2
                    replace hx227_3 := pw_cell_below HB.out hx227_3
                    have HR227_2 := Aside0.mk hi227_2
                    have HC227_2 := Aside0.mk hl227_2
                    clear hi227_2 hl227_2
                    replace p227 := eq_true p227
                    replace q227 := eq_true q227
                    have p228 : 0 ≤ ((ji61) : Int) := of_decide_eq_true am_
                    have q228 : (ji61) < (l0.length : Int) := of_decide_eq_true am_
                    obtain ⟨ad228, A228_2, c228_2, e228, hx228_0, hx228_1, hx228_2, hx228_3, hl228_2, hi228_2⟩ := at_T38 HR0.out (ji61) p228 q228
                    obtain rfl : ad218 = ad228 := (by injection e228)
                    (try (have e9_ := hx228_2.symm.trans hw227_2; simp only [Option.some.injEq, Value.slice.injEq, true_and, and_true] at e9_; obtain ⟨rfl, rfl⟩ := e9_))
                    replace hx228_0 := pw_cell_below HB.out hx228_0
                    replace hx228_1 := pw_cell_below HB.out hx228_1
                    replace hx228_2 := pw_cell_below HB.out hx228_2
                    replace hx228_3 := pw_cell_below HB.out hx228_3
                    have HR228_2 := Aside0.mk hi228_2
                    have HC228_2 := Aside0.mk hl228_2
                    clear hi228_2 hl228_2
                    replace p228 := eq_true p228
                    replace q228 := eq_true q228
                    have ea_ := Option.some.inj (hx227_2.symm.trans hx228_2)
                    injection ea_ with ea_ en_ ec_
                    subst ea_
                    subst ec_
                    clear en_
                    go_wp2
                    repeat (go_quiet (fail); try go_wp2)
                    go_meet
                    case rel => exact ⟨_, ((((rd_T38 l0 (ji61)).f1) == ((rd_T38 l0 x15_1).f1))), (by first | rfl | (simp; done) | (simp only [← hji61] <;> (first | rfl | simp)) | (simp [*]; done)), H', ⟨by have := HK1.out; have := HJ10.out; have := HJ47.out; first | omega | exact Nat.le_refl _⟩, ⟨by (with_reducible repeat (first | apply Kd.R_alloc | apply Kd.R_drewN | apply Kd.R_drew)); exact HO_3.out⟩, ⟨by (with_reducible repeat (first | refine blk_drewN ?_ _ | refine blk_drew ?_ | refine blk_alloc ?_ _)); exact BK219.out⟩, ⟨bes_⟩⟩
                   ·rw [if_neg c64] at H
                    have c64b0 : (((rd_T38 l0 (ji61)).f0).toList == ([] : List UInt8)) = false := beq_eq_false_iff_ne.mpr c64
                    have c64b7 : ((rd_T38 l0 (ji61)).f0).toList.isEmpty = false := Bool.eq_false_iff.mpr (fun h_ => absurd (List.isEmpty_iff.mp h_) (beq_eq_false_iff_ne.mp c64b0))
                    have c64b8 : ¬ (((rd_T38 l0 (ji61)).f0).toList.isEmpty = true) := fun h_ => absurd (List.isEmpty_iff.mp h_) (beq_eq_false_iff_ne.mp c64b0)
                    have c64b1 : (((rd_T38 l0 (ji61)).f0).toList != ([] : List UInt8)) = true := bne_iff_ne.mpr c64
                    have H' := Aside0.mk H
                    clear H
                    have hcz66_0 := bc4_0 BK219.out
                    have hcz66_1 := bc4_1 BK219.out
                    have hcz66_2 := bc4_2 BK219.out
                    have hcz66_3 := bc4_3 BK219.out
                    have hfz66_0 := blk_frozen BK219.out 0
                    have hfz66_1 := blk_frozen BK219.out 1
                    have hfz66_2 := blk_frozen BK219.out 2
                    have hfz66_3 := blk_frozen BK219.out 3
                    have p227 : 0 ≤ ((ji61) : Int) := of_decide_eq_true am_
                    have q227 : (ji61) < (l0.length : Int) := of_decide_eq_true am_
                    obtain ⟨ad227, A227_2, c227_2, e227, hx227_0, hx227_1, hx227_2, hx227_3, hl227_2, hi227_2⟩ := at_T38 HR0.out (ji61) p227 q227
                    obtain rfl : ad218 = ad227 := (by injection e227)
                    replace hx227_0 := pw_cell_below HB.out hx227_0
                    replace hx227_1 := pw_cell_below HB.out hx227_1
                    replace hx227_2 := pw_cell_below HB.out hx227_2
                    replace hx227_3 := pw_cell_below HB.out hx227_3
                    have HR227_2 := Aside0.mk hi227_2
                    have HC227_2 := Aside0.mk hl227_2
                    clear hi227_2 hl227_2
                    replace p227 := eq_true p227
                    replace q227 := eq_true q227
                    go_wp2
                    repeat (go_quiet (fail); try go_wp2)
                    go_meet
                    case rel => exact ⟨_, (false), sv_, H', ⟨by have := HK1.out; have := HJ10.out; have := HJ47.out; first | omega | exact Nat.le_refl _⟩, ⟨by (with_reducible repeat (first | apply Kd.R_alloc | apply Kd.R_drewN | apply Kd.R_drew)); exact HO_3.out⟩, ⟨by (with_reducible repeat (first | refine blk_drewN ?_ _ | refine blk_drew ?_ | refine blk_alloc ?_ _)); exact BK219.out⟩, ⟨bes_⟩⟩
                  ·rw [if_neg c63] at H
                   exact absurd H (by simp)
                 ·rw [if_neg c62] at H
                  exact absurd H (by simp)
                ·rw [if_neg c60] at H
                 have c60b0 : (((rd_T38 l0 x15_1).f0).toList == ([] : List UInt8)) = false := beq_eq_false_iff_ne.mpr c60
                 have c60b7 : ((rd_T38 l0 x15_1).f0).toList.isEmpty = false := Bool.eq_false_iff.mpr (fun h_ => absurd (List.isEmpty_iff.mp h_) (beq_eq_false_iff_ne.mp c60b0))
                 have c60b8 : ¬ (((rd_T38 l0 x15_1).f0).toList.isEmpty = true) := fun h_ => absurd (List.isEmpty_iff.mp h_) (beq_eq_false_iff_ne.mp c60b0)
                 have c60b1 : (((rd_T38 l0 x15_1).f0).toList != ([] : List UInt8)) = true := bne_iff_ne.mpr c60
                 (first | rw [c60b0] | simp only [c60b7, Bool.not_true, Bool.not_false] | (simp only [i64_w, i32_w]; rw [c60b0]) | skip)
                 have H' := Aside0.mk H
                 clear H
                 have hcz67_0 := bc4_0 BK219.out
                 have hcz67_1 := bc4_1 BK219.out
                 have hcz67_2 := bc4_2 BK219.out
                 have hcz67_3 := bc4_3 BK219.out
                 have hfz67_0 := blk_frozen BK219.out 0
                 have hfz67_1 := blk_frozen BK219.out 1
                 have hfz67_2 := blk_frozen BK219.out 2
                 have hfz67_3 := blk_frozen BK219.out 3
                 go_wp2
                 repeat (go_quiet (fail); try go_wp2)
                 go_meet
                 case rel => exact ⟨_, (false), sv_, H', ⟨by have := HK1.out; have := HJ10.out; have := HJ47.out; first | omega | exact Nat.le_refl _⟩, ⟨by (with_reducible repeat (first | apply Kd.R_alloc | apply Kd.R_drewN | apply Kd.R_drew)); exact HO_3.out⟩, ⟨by (with_reducible repeat (first | refine blk_drewN ?_ _ | refine blk_drew ?_ | refine blk_alloc ?_ _)); exact BK219.out⟩, ⟨bes_⟩⟩
               case rest =>
                clear HC59
                (try clear c1);(try clear c2);(try clear p2);(try clear q2);(try clear hx2);(try clear c3);(try clear c4);(try clear c4b0 c4b1);(try clear p4);(try clear q4);(try clear hx4);(try clear qi4);(try clear hf4);(try clear c5);(try clear c5b0 c5b1);(try clear c6);(try clear p6);(try clear c8);(try clear c8b0);(try clear c9);(try clear c9b0);(try clear c10);(try clear c10b0);(try clear c13);(try clear c15);(try clear c15b0 c15b1);(try clear c16);(try clear c16b0 c16b1);(try clear c18);(try clear c18b0 c18b1);(try clear c21);(try clear p21);(try clear q21);(try clear hx21);(try clear c22);(try clear p22);(try clear q22);(try clear hx22);(try clear c24);(try clear c25);(try clear c25b0 c25b1);(try clear c28);(try clear c29);(try clear c29b0 c29b1);(try clear c31);(try clear c38);(try clear c38b0 c38b1)
                (try clear c39);(try clear c39b0 c39b1);(try clear c41);(try clear c41b0 c41b1);(try clear c42);(try clear c42b0 c42b1);(try clear p43);(try clear q43);(try clear hx43);(try clear qi43);(try clear hf43);(try clear c50);(try clear c51);(try clear c51b0);(try clear c52);(try clear c52b0);(try clear c53);(try clear c53b0 c53b1);(try clear c58);(try clear c60);(try clear c60b0 c60b1);(try clear c62);(try clear c62b0);(try clear c63);(try clear c63b0);(try clear c64);(try clear c64b0 c64b1);(try clear p64);(try clear hcz13_0 hcz13_1 hcz13_2 hcz13_3);(try clear hcz17_0 hcz17_1 hcz17_2 hcz17_3);(try clear hcz19_0 hcz19_1 hcz19_2 hcz19_3);(try clear hcz21_0 hcz21_1 hcz21_2 hcz21_3);(try clear hcz23_0)
                (try clear hcz23_1 hcz23_2 hcz23_3);(try clear hcz26_0 hcz26_1 hcz26_2 hcz26_3);(try clear hcz32_0 hcz32_1 hcz32_2 hcz32_3);(try clear hcz34_0 hcz34_1 hcz34_2 hcz34_3);(try clear hcz36_0 hcz36_1 hcz36_2 hcz36_3);(try clear hcz37_0 hcz37_1 hcz37_2 hcz37_3);(try clear hcz40_0 hcz40_1 hcz40_2 hcz40_3);(try clear hcz44_0 hcz44_1 hcz44_2 hcz44_3);(try clear hcz47_0 hcz47_1 hcz47_2 hcz47_3);(try clear hcz54_0 hcz54_1 hcz54_2 hcz54_3);(try clear hcz56_0 hcz56_1 hcz56_2 hcz56_3);(try clear hcz57_0 hcz57_1 hcz57_2)
                (try clear hcz57_3);(try clear hcz65_0 hcz65_1 hcz65_2 hcz65_3);(try clear hcz66_0 hcz66_1 hcz66_2 hcz66_3);(try clear hcz67_0 hcz67_1 hcz67_2 hcz67_3);(try clear hfz13_0 hfz13_1 hfz13_2 hfz13_3);(try clear hfz17_0 hfz17_1 hfz17_2 hfz17_3);(try clear hfz19_0 hfz19_1 hfz19_2 hfz19_3);(try clear hfz21_0 hfz21_1 hfz21_2 hfz21_3);(try clear hfz23_0 hfz23_1 hfz23_2 hfz23_3);(try clear hfz26_0 hfz26_1 hfz26_2 hfz26_3);(try clear hfz32_0 hfz32_1 hfz32_2 hfz32_3);(try clear hfz34_0 hfz34_1 hfz34_2 hfz34_3);(try clear hfz36_0)
                (try clear hfz36_1 hfz36_2 hfz36_3);(try clear hfz37_0 hfz37_1 hfz37_2 hfz37_3);(try clear hfz40_0 hfz40_1 hfz40_2 hfz40_3);(try clear hfz44_0 hfz44_1 hfz44_2 hfz44_3);(try clear hfz47_0 hfz47_1 hfz47_2 hfz47_3);(try clear hfz54_0 hfz54_1 hfz54_2 hfz54_3);(try clear hfz56_0 hfz56_1 hfz56_2 hfz56_3);(try clear hfz57_0 hfz57_1 hfz57_2 hfz57_3);(try clear hfz65_0 hfz65_1 hfz65_2 hfz65_3);(try clear hfz66_0 hfz66_1 hfz66_2 hfz66_3);(try clear hfz67_0 hfz67_1 hfz67_2 hfz67_3);(try clear hx218_0);(try clear hx218_1);(try clear hx218_2)
                (try clear hx218_3);(try clear hx225_0);(try clear hx225_1);(try clear hx225_2);(try clear hx225_3);(try clear hx227_0);(try clear hx227_1);(try clear hx227_2);(try clear hx227_3);(try clear hx228_0);(try clear hx228_1);(try clear hx228_2);(try clear hx228_3);(try clear hx43_0);(try clear p2);(try clear p21);(try clear p218);(try clear p22);(try clear p225);(try clear p227);(try clear p228);(try clear p4);(try clear p43);(try clear p6);(try clear q2);(try clear q21);(try clear q218);(try clear q22);(try clear q225);(try clear q227);(try clear q228);(try clear q4);(try clear q43)
                obtain ⟨kq, x120_58, rfl, HA, HJ58, HO_3, BK219, HB⟩ := hcut
                cases kq with
                | zero => exact absurd HA.out (by simp [impl_GoodNodes.j4])
                | succ kj58 =>
                 have H := HA.out
                 clear HA
                 simp only [impl_GoodNodes.j4] at H
                 by_cases c68 : x120_58 = true
                 ·subst c68
                  have H1 : (some false) = some r := by rw [if_pos rfl] at H; exact H
                  clear H
                  have H := H1
                  clear H1
                  obtain rfl := Option.some.inj H
                  go_wp2
                  repeat (go_quiet (fail); try go_wp2)
                  go_ret
                  exact ⟨er_, bes_⟩
                 ·replace c68 := Bool.eq_false_iff.mpr c68
                  subst c68
                  have H1 : (if 0 ≤ ((rd_T38 l0 x15_1).f1) then (if ((rd_T38 l0 x15_1).f1) < (x3_1.length : Int) then (if 0 ≤ x15_1 then (if x15_1 < (x3_1.length : Int) then ((some (x3_1.set (x15_1 : Int).toNat (wrap64 ((rd x3_1 ((rd_T38 l0 x15_1).f1)) + 1)) : List Int)).bind fun y230 => (if ((rd_T38 l0 x15_1).f0).toList = ([] : List UInt8) then (impl_GoodNodes.l0 kj58 l0 y230 l0 (l0.length : Int) (wrap64 (x15_1 + 1))) else (if (rd y230 x15_1) > 10 then (some false) else (impl_GoodNodes.l0 kj58 l0 y230 l0 (l0.length : Int) (wrap64 (x15_1 + 1)))))) else (none)) else (none)) else (none)) else (none)) = some r := by rw [if_neg (show ¬ (false = true) by decide)] at H; exact H
                  clear H
                  have H := H1
                  clear H1
                  by_cases c69 : 0 ≤ ((rd_T38 l0 x15_1).f1)
                  ·rw [if_pos c69] at H
                   have c69b0 : decide (0 ≤ ((rd_T38 l0 x15_1).f1)) = true := decide_eq_true c69
                   clear c69
                   by_cases c70 : ((rd_T38 l0 x15_1).f1) < (x3_1.length : Int)
                   ·rw [if_pos c70] at H
                    have c70b0 : decide (((rd_T38 l0 x15_1).f1) < (x3_1.length : Int)) = true := decide_eq_true c70
                    clear c70
                    by_cases c71 : 0 ≤ x15_1
                    ·rw [if_pos c71] at H
                     have c71b0 : decide (0 ≤ x15_1) = true := decide_eq_true c71
                     clear c71
                     by_cases c72 : x15_1 < (x3_1.length : Int)
                     ·rw [if_pos c72] at H
                      have c72b0 : decide (x15_1 < (x3_1.length : Int)) = true := decide_eq_true c72
                      clear c72
                      obtain ⟨y230, hy230⟩ : ∃ y_ : List Int, y_ = (x3_1.set (x15_1 : Int).toNat (wrap64 ((rd x3_1 ((rd_T38 l0 x15_1).f1)) + 1))) := ⟨_, rfl⟩
                      replace H : (if ((rd_T38 l0 x15_1).f0).toList = ([] : List UInt8) then (impl_GoodNodes.l0 kj58 l0 y230 l0 (l0.length : Int) (wrap64 (x15_1 + 1))) else (if (rd y230 x15_1) > 10 then (some false) else (impl_GoodNodes.l0 kj58 l0 y230 l0 (l0.length : Int) (wrap64 (x15_1 + 1))))) = some r := by first | (rw [hy230]; with_reducible exact H) | (have H2_ := (Option.bind_some _ _).symm.trans H; rw [hy230]; with_reducible exact H2_) | (have H2_ := (Option.bind_some _ _).symm.trans H; with_reducible exact H2_) | with_reducible exact H | (rw [hy230]; exact H) | exact H
                      have Ny230 := Aside0.mk hy230
                      clear hy230
                      by_cases c74 : ((rd_T38 l0 x15_1).f0).toList = ([] : List UInt8)
                      ·rw [if_pos c74] at H
                       have c74b0 : (((rd_T38 l0 x15_1).f0).toList == ([] : List UInt8)) = true := beq_iff_eq.mpr c74
                       have c74b7 : ((rd_T38 l0 x15_1).f0).toList.isEmpty = true := by rw [beq_iff_eq.mp c74b0]; rfl
                       have c74b8 : ¬ (((rd_T38 l0 x15_1).f0).toList.isEmpty = false) := fun h_ => by have h9_ := beq_iff_eq.mp c74b0; rw [h9_] at h_; cases h_
                       have c74b1 : (((rd_T38 l0 x15_1).f0).toList != ([] : List UInt8)) = false := bne_eq_false_iff_eq.mpr c74
                       clear c74
                       have H' := Aside0.mk H
                       clear H
                       have hcz75_0 := bc4_0 BK219.out
                       have hcz75_1 := bc4_1 BK219.out
                       have hcz75_2 := bc4_2 BK219.out
                       have hcz75_3 := bc4_3 BK219.out
                       have hfz75_0 := blk_frozen BK219.out 0
                       have hfz75_1 := blk_frozen BK219.out 1
                       have hfz75_2 := blk_frozen BK219.out 2
                       have hfz75_3 := blk_frozen BK219.out 3
                       obtain ⟨Ao76, co76, eo76⟩ := Kd.R_slice HO_3.out
                       subst eo76
                       have p229 : 0 ≤ (((rd_T38 l0 x15_1).f1) : Int) := of_decide_eq_true am_
                       have q229 : ((rd_T38 l0 x15_1).f1) < (x3_1.length : Int) := of_decide_eq_true am_
                       obtain ⟨ad229, e229, hx229_0⟩ := Kd.at_int (Kd.R_reads' HO_3.out).2.2 ((rd_T38 l0 x15_1).f1) p229 q229
                       cases e229
                       replace p229 := eq_true p229
                       replace q229 := eq_true q229
                       have p73 : 0 ≤ (x15_1 : Int) := of_decide_eq_true am_
                       have q73 : (x15_1 : Int) < ((x3_1.length : Int) : Int) := of_decide_eq_true am_
                       obtain ⟨go73, co73, eo73, gb73, gl73, cl73, HG73⟩ := Kd.R_form HO_3.out (by omega)
                       (first | cases eo73 | (injection eo73 with ea_ en_ ec_; (first | subst ea_ | (injection ea_ with ea_; subst ea_)); subst ec_; clear en_))
                       have GB73 := Aside0.mk gb73
                       have GG73 := Aside0.mk HG73
                       clear gb73 gl73 HG73
                       (first | simp only [add_plain] at hx229_0 | skip)
                       obtain ⟨hx73_0, hf73_0⟩ := Kd.R_celln 0 HO_3.out (x15_1 : Int) p73 q73
                       replace p73 := eq_true p73
                       replace q73 := eq_true q73
                       have HP77 := Kd.R_putg HO_3.out (x15_1 : Int) (wrap64 ((rd x3_1 ((rd_T38 l0 x15_1).f1)) + 1))
                       go_wp2_with (first | ((with_reducible refine gate_store (t := 3) (p := 129) rfl ?_); (try (rw [drewN_self wc]; generalize hq_ : World.drewN wc _ = wc; have n0_ := Aside0.mk (Kd.R_at hq_ HO_3.out); have n1_ := Aside0.mk (blk_at hq_ BK219.out); have n2_ := Aside0.mk (below_at hq_ HB.out); clear hq_ HO_3 BK219 HB; have HO_3 := n0_; have BK219 := n1_; have HB := n2_; clear n0_ n1_ n2_; (try (have HP77 := Kd.R_putg HO_3.out (x15_1 : Int) (wrap64 ((rd x3_1 ((rd_T38 l0 x15_1).f1)) + 1)))))); refine store_event (t := 3) (p := 129) (v := ?vo_w78) (w1 := (wc.setCell ⟨go73, (x15_1 : Int).toNat, none⟩ (.int .i64 (wrap64 ((rd x3_1 ((rd_T38 l0 x15_1).f1)) + 1))))) ?hg ?ho ?hn ?hr ?_; (case ho => rfl); (case hg => rfl); (case hn => rfl); (case hr => first | (go_simp; done) | (go_simp; rfl)); intro w78 hw; have hg : wc.grownBy w78 (some go73) := (by rw [hw]; exact HP77.2); have hp_ : Kd.R (Kd.int .i64) 3 w78 w.heap.size (fun _ => True) (.slice (some ⟨go73, 0, none⟩) x3_1.length co76) y230 := (by rw [hw, Ny230.out]; exact HP77.1); clear HP77; have n0_ := Aside0.mk (hp_); have n1_ := Aside0.mk (blk_grown (g := gb219) (o := .cells #[.string ((rd_T38 l0 x15_1).f0), .int .i64 ((rd_T38 l0 x15_1).f1), .slice A218_2 ((rd_T38 l0 x15_1).f2).length c218_2, .string ((rd_T38 l0 x15_1).f3)] 38 (0, 0)) (bk_ BK219.out) hg (Kd.R_ne HO_3.out BK219.out (by decide))); have n2_ := Aside0.mk ((by rw [hw]; exact below_set (HB.out) GB73.out : Below w.heap.size w w78)); clear HO_3; clear BK219; clear HB; have HO_3 := n0_; have BK219 := n1_; have HB := n2_; clear n0_ n1_ n2_; clear hg hw hp_; have hcz79_0 := bc4_0 BK219.out; have hcz79_1 := bc4_1 BK219.out; have hcz79_2 := bc4_2 BK219.out; have hcz79_3 := bc4_3 BK219.out; have hfz79_0 := blk_frozen BK219.out 0; have hfz79_1 := blk_frozen BK219.out 1; have hfz79_2 := blk_frozen BK219.out 2; have hfz79_3 := blk_frozen BK219.out 3))
                       repeat (go_quiet (first | ((with_reducible refine gate_store (t := 3) (p := 129) rfl ?_); (try (rw [drewN_self wc]; generalize hq_ : World.drewN wc _ = wc; have n0_ := Aside0.mk (Kd.R_at hq_ HO_3.out); have n1_ := Aside0.mk (blk_at hq_ BK219.out); have n2_ := Aside0.mk (below_at hq_ HB.out); clear hq_ HO_3 BK219 HB; have HO_3 := n0_; have BK219 := n1_; have HB := n2_; clear n0_ n1_ n2_; (try (have HP77 := Kd.R_putg HO_3.out (x15_1 : Int) (wrap64 ((rd x3_1 ((rd_T38 l0 x15_1).f1)) + 1)))))); refine store_event (t := 3) (p := 129) (v := ?vo_w78) (w1 := (wc.setCell ⟨go73, (x15_1 : Int).toNat, none⟩ (.int .i64 (wrap64 ((rd x3_1 ((rd_T38 l0 x15_1).f1)) + 1))))) ?hg ?ho ?hn ?hr ?_; (case ho => rfl); (case hg => rfl); (case hn => rfl); (case hr => first | (go_simp; done) | (go_simp; rfl)); intro w78 hw; have hg : wc.grownBy w78 (some go73) := (by rw [hw]; exact HP77.2); have hp_ : Kd.R (Kd.int .i64) 3 w78 w.heap.size (fun _ => True) (.slice (some ⟨go73, 0, none⟩) x3_1.length co76) y230 := (by rw [hw, Ny230.out]; exact HP77.1); clear HP77; have n0_ := Aside0.mk (hp_); have n1_ := Aside0.mk (blk_grown (g := gb219) (o := .cells #[.string ((rd_T38 l0 x15_1).f0), .int .i64 ((rd_T38 l0 x15_1).f1), .slice A218_2 ((rd_T38 l0 x15_1).f2).length c218_2, .string ((rd_T38 l0 x15_1).f3)] 38 (0, 0)) (bk_ BK219.out) hg (Kd.R_ne HO_3.out BK219.out (by decide))); have n2_ := Aside0.mk ((by rw [hw]; exact below_set (HB.out) GB73.out : Below w.heap.size w w78)); clear HO_3; clear BK219; clear HB; have HO_3 := n0_; have BK219 := n1_; have HB := n2_; clear n0_ n1_ n2_; clear hg hw hp_; have hcz79_0 := bc4_0 BK219.out; have hcz79_1 := bc4_1 BK219.out; have hcz79_2 := bc4_2 BK219.out; have hcz79_3 := bc4_3 BK219.out; have hfz79_0 := blk_frozen BK219.out 0; have hfz79_1 := blk_frozen BK219.out 1; have hfz79_2 := blk_frozen BK219.out 2; have hfz79_3 := blk_frozen BK219.out 3)); try go_wp2_with (first | ((with_reducible refine gate_store (t := 3) (p := 129) rfl ?_); (try (rw [drewN_self wc]; generalize hq_ : World.drewN wc _ = wc; have n0_ := Aside0.mk (Kd.R_at hq_ HO_3.out); have n1_ := Aside0.mk (blk_at hq_ BK219.out); have n2_ := Aside0.mk (below_at hq_ HB.out); clear hq_ HO_3 BK219 HB; have HO_3 := n0_; have BK219 := n1_; have HB := n2_; clear n0_ n1_ n2_; (try (have HP77 := Kd.R_putg HO_3.out (x15_1 : Int) (wrap64 ((rd x3_1 ((rd_T38 l0 x15_1).f1)) + 1)))))); refine store_event (t := 3) (p := 129) (v := ?vo_w78) (w1 := (wc.setCell ⟨go73, (x15_1 : Int).toNat, none⟩ (.int .i64 (wrap64 ((rd x3_1 ((rd_T38 l0 x15_1).f1)) + 1))))) ?hg ?ho ?hn ?hr ?_; (case ho => rfl); (case hg => rfl); (case hn => rfl); (case hr => first | (go_simp; done) | (go_simp; rfl)); intro w78 hw; have hg : wc.grownBy w78 (some go73) := (by rw [hw]; exact HP77.2); have hp_ : Kd.R (Kd.int .i64) 3 w78 w.heap.size (fun _ => True) (.slice (some ⟨go73, 0, none⟩) x3_1.length co76) y230 := (by rw [hw, Ny230.out]; exact HP77.1); clear HP77; have n0_ := Aside0.mk (hp_); have n1_ := Aside0.mk (blk_grown (g := gb219) (o := .cells #[.string ((rd_T38 l0 x15_1).f0), .int .i64 ((rd_T38 l0 x15_1).f1), .slice A218_2 ((rd_T38 l0 x15_1).f2).length c218_2, .string ((rd_T38 l0 x15_1).f3)] 38 (0, 0)) (bk_ BK219.out) hg (Kd.R_ne HO_3.out BK219.out (by decide))); have n2_ := Aside0.mk ((by rw [hw]; exact below_set (HB.out) GB73.out : Below w.heap.size w w78)); clear HO_3; clear BK219; clear HB; have HO_3 := n0_; have BK219 := n1_; have HB := n2_; clear n0_ n1_ n2_; clear hg hw hp_; have hcz79_0 := bc4_0 BK219.out; have hcz79_1 := bc4_1 BK219.out; have hcz79_2 := bc4_2 BK219.out; have hcz79_3 := bc4_3 BK219.out; have hfz79_0 := blk_frozen BK219.out 0; have hfz79_1 := blk_frozen BK219.out 1; have hfz79_2 := blk_frozen BK219.out 2; have hfz79_3 := blk_frozen BK219.out 3)))
                       go_roundg kj58
                       case measure => have := HK1.out; have := HJ10.out; have := HJ47.out; have := HJ58.out; omega
                       case rel => exact ⟨(y230), (wrap64 (x15_1 + 1)), sv_, H', ⟨by have := HK1.out; have := HJ10.out; have := HJ47.out; have := HJ58.out; omega⟩, ⟨by (with_reducible repeat (first | apply Kd.R_alloc | apply Kd.R_drewN | apply Kd.R_drew)); exact HO_3.out⟩, ⟨bes_⟩⟩
                      ·rw [if_neg c74] at H
                       have c74b0 : (((rd_T38 l0 x15_1).f0).toList == ([] : List UInt8)) = false := beq_eq_false_iff_ne.mpr c74
                       have c74b7 : ((rd_T38 l0 x15_1).f0).toList.isEmpty = false := Bool.eq_false_iff.mpr (fun h_ => absurd (List.isEmpty_iff.mp h_) (beq_eq_false_iff_ne.mp c74b0))
                       have c74b8 : ¬ (((rd_T38 l0 x15_1).f0).toList.isEmpty = true) := fun h_ => absurd (List.isEmpty_iff.mp h_) (beq_eq_false_iff_ne.mp c74b0)
                       have c74b1 : (((rd_T38 l0 x15_1).f0).toList != ([] : List UInt8)) = true := bne_iff_ne.mpr c74
                       by_cases c80 : (rd y230 x15_1) > 10
                       ·rw [if_pos c80] at H
                        have c80b0 : decide (10 < (rd y230 x15_1)) = true := decide_eq_true c80
                        clear c80
                        obtain rfl := Option.some.inj H
                        have hcz81_0 := bc4_0 BK219.out
                        have hcz81_1 := bc4_1 BK219.out
                        have hcz81_2 := bc4_2 BK219.out
                        have hcz81_3 := bc4_3 BK219.out
                        have hfz81_0 := blk_frozen BK219.out 0
                        have hfz81_1 := blk_frozen BK219.out 1
                        have hfz81_2 := blk_frozen BK219.out 2
                        have hfz81_3 := blk_frozen BK219.out 3
                        obtain ⟨Ao82, co82, eo82⟩ := Kd.R_slice HO_3.out
                        subst eo82
                        have p229 : 0 ≤ (((rd_T38 l0 x15_1).f1) : Int) := of_decide_eq_true am_
                        have q229 : ((rd_T38 l0 x15_1).f1) < (x3_1.length : Int) := of_decide_eq_true am_
                        obtain ⟨ad229, e229, hx229_0⟩ := Kd.at_int (Kd.R_reads' HO_3.out).2.2 ((rd_T38 l0 x15_1).f1) p229 q229
                        cases e229
                        replace p229 := eq_true p229
                        replace q229 := eq_true q229
                        have p73 : 0 ≤ (x15_1 : Int) := of_decide_eq_true am_
                        have q73 : (x15_1 : Int) < ((x3_1.length : Int) : Int) := of_decide_eq_true am_
                        obtain ⟨go73, co73, eo73, gb73, gl73, cl73, HG73⟩ := Kd.R_form HO_3.out (by omega)
                        (first | cases eo73 | (injection eo73 with ea_ en_ ec_; (first | subst ea_ | (injection ea_ with ea_; subst ea_)); subst ec_; clear en_))
                        have GB73 := Aside0.mk gb73
                        have GG73 := Aside0.mk HG73
                        clear gb73 gl73 HG73
                        (first | simp only [add_plain] at hx229_0 | skip)
                        obtain ⟨hx73_0, hf73_0⟩ := Kd.R_celln 0 HO_3.out (x15_1 : Int) p73 q73
                        replace p73 := eq_true p73
                        replace q73 := eq_true q73
                        have HP83 := Kd.R_putg HO_3.out (x15_1 : Int) (wrap64 ((rd x3_1 ((rd_T38 l0 x15_1).f1)) + 1))
                        go_wp2_with (first | ((with_reducible refine gate_store (t := 3) (p := 129) rfl ?_); (try (rw [drewN_self wc]; generalize hq_ : World.drewN wc _ = wc; have n0_ := Aside0.mk (Kd.R_at hq_ HO_3.out); have n1_ := Aside0.mk (blk_at hq_ BK219.out); have n2_ := Aside0.mk (below_at hq_ HB.out); clear hq_ HO_3 BK219 HB; have HO_3 := n0_; have BK219 := n1_; have HB := n2_; clear n0_ n1_ n2_; (try (have HP83 := Kd.R_putg HO_3.out (x15_1 : Int) (wrap64 ((rd x3_1 ((rd_T38 l0 x15_1).f1)) + 1)))))); refine store_event (t := 3) (p := 129) (v := ?vo_w84) (w1 := (wc.setCell ⟨go73, (x15_1 : Int).toNat, none⟩ (.int .i64 (wrap64 ((rd x3_1 ((rd_T38 l0 x15_1).f1)) + 1))))) ?hg ?ho ?hn ?hr ?_; (case ho => rfl); (case hg => rfl); (case hn => rfl); (case hr => first | (go_simp; done) | (go_simp; rfl)); intro w84 hw; have hg : wc.grownBy w84 (some go73) := (by rw [hw]; exact HP83.2); have hp_ : Kd.R (Kd.int .i64) 3 w84 w.heap.size (fun _ => True) (.slice (some ⟨go73, 0, none⟩) x3_1.length co82) y230 := (by rw [hw, Ny230.out]; exact HP83.1); clear HP83; have n0_ := Aside0.mk (hp_); have n1_ := Aside0.mk (blk_grown (g := gb219) (o := .cells #[.string ((rd_T38 l0 x15_1).f0), .int .i64 ((rd_T38 l0 x15_1).f1), .slice A218_2 ((rd_T38 l0 x15_1).f2).length c218_2, .string ((rd_T38 l0 x15_1).f3)] 38 (0, 0)) (bk_ BK219.out) hg (Kd.R_ne HO_3.out BK219.out (by decide))); have n2_ := Aside0.mk ((by rw [hw]; exact below_set (HB.out) GB73.out : Below w.heap.size w w84)); clear HO_3; clear BK219; clear HB; have HO_3 := n0_; have BK219 := n1_; have HB := n2_; clear n0_ n1_ n2_; clear hg hw hp_; have hcz85_0 := bc4_0 BK219.out; have hcz85_1 := bc4_1 BK219.out; have hcz85_2 := bc4_2 BK219.out; have hcz85_3 := bc4_3 BK219.out; have hfz85_0 := blk_frozen BK219.out 0; have hfz85_1 := blk_frozen BK219.out 1; have hfz85_2 := blk_frozen BK219.out 2; have hfz85_3 := blk_frozen BK219.out 3; have p231 : 0 ≤ (x15_1 : Int) := of_decide_eq_true am_; have q231 : x15_1 < (y230.length : Int) := (by have h_ : (x15_1 : Int) < ((x3_1.length : Int) : Int) := of_decide_eq_true am_; first | (have e_ := (Kd.R_reads' HO_3.out).1; omega) | simpa only [Ny230.out, List.length_set] using h_); have ql231 : ((x15_1 : Int) < ((x3_1.length : Int) : Int)) = True := eq_true (of_decide_eq_true am_); obtain ⟨ad231, e231, hx231_0⟩ := Kd.at_int (Kd.R_reads' HO_3.out).2.2 x15_1 p231 q231; obtain rfl : (⟨go73, 0, none⟩ : Addr) = ad231 := (by injection e231); (first | simp only [add_plain] at hx231_0 | simp only [add_at] at hx231_0 | simp only [Addr.add, Nat.zero_add] at hx231_0 | skip); replace p231 := eq_true p231; replace q231 := eq_true q231))
                        repeat (go_quiet (first | ((with_reducible refine gate_store (t := 3) (p := 129) rfl ?_); (try (rw [drewN_self wc]; generalize hq_ : World.drewN wc _ = wc; have n0_ := Aside0.mk (Kd.R_at hq_ HO_3.out); have n1_ := Aside0.mk (blk_at hq_ BK219.out); have n2_ := Aside0.mk (below_at hq_ HB.out); clear hq_ HO_3 BK219 HB; have HO_3 := n0_; have BK219 := n1_; have HB := n2_; clear n0_ n1_ n2_; (try (have HP83 := Kd.R_putg HO_3.out (x15_1 : Int) (wrap64 ((rd x3_1 ((rd_T38 l0 x15_1).f1)) + 1)))))); refine store_event (t := 3) (p := 129) (v := ?vo_w84) (w1 := (wc.setCell ⟨go73, (x15_1 : Int).toNat, none⟩ (.int .i64 (wrap64 ((rd x3_1 ((rd_T38 l0 x15_1).f1)) + 1))))) ?hg ?ho ?hn ?hr ?_; (case ho => rfl); (case hg => rfl); (case hn => rfl); (case hr => first | (go_simp; done) | (go_simp; rfl)); intro w84 hw; have hg : wc.grownBy w84 (some go73) := (by rw [hw]; exact HP83.2); have hp_ : Kd.R (Kd.int .i64) 3 w84 w.heap.size (fun _ => True) (.slice (some ⟨go73, 0, none⟩) x3_1.length co82) y230 := (by rw [hw, Ny230.out]; exact HP83.1); clear HP83; have n0_ := Aside0.mk (hp_); have n1_ := Aside0.mk (blk_grown (g := gb219) (o := .cells #[.string ((rd_T38 l0 x15_1).f0), .int .i64 ((rd_T38 l0 x15_1).f1), .slice A218_2 ((rd_T38 l0 x15_1).f2).length c218_2, .string ((rd_T38 l0 x15_1).f3)] 38 (0, 0)) (bk_ BK219.out) hg (Kd.R_ne HO_3.out BK219.out (by decide))); have n2_ := Aside0.mk ((by rw [hw]; exact below_set (HB.out) GB73.out : Below w.heap.size w w84)); clear HO_3; clear BK219; clear HB; have HO_3 := n0_; have BK219 := n1_; have HB := n2_; clear n0_ n1_ n2_; clear hg hw hp_; have hcz85_0 := bc4_0 BK219.out; have hcz85_1 := bc4_1 BK219.out; have hcz85_2 := bc4_2 BK219.out; have hcz85_3 := bc4_3 BK219.out; have hfz85_0 := blk_frozen BK219.out 0; have hfz85_1 := blk_frozen BK219.out 1; have hfz85_2 := blk_frozen BK219.out 2; have hfz85_3 := blk_frozen BK219.out 3; have p231 : 0 ≤ (x15_1 : Int) := of_decide_eq_true am_; have q231 : x15_1 < (y230.length : Int) := (by have h_ : (x15_1 : Int) < ((x3_1.length : Int) : Int) := of_decide_eq_true am_; first | (have e_ := (Kd.R_reads' HO_3.out).1; omega) | simpa only [Ny230.out, List.length_set] using h_); have ql231 : ((x15_1 : Int) < ((x3_1.length : Int) : Int)) = True := eq_true (of_decide_eq_true am_); obtain ⟨ad231, e231, hx231_0⟩ := Kd.at_int (Kd.R_reads' HO_3.out).2.2 x15_1 p231 q231; obtain rfl : (⟨go73, 0, none⟩ : Addr) = ad231 := (by injection e231); (first | simp only [add_plain] at hx231_0 | simp only [add_at] at hx231_0 | simp only [Addr.add, Nat.zero_add] at hx231_0 | skip); replace p231 := eq_true p231; replace q231 := eq_true q231)); try go_wp2_with (first | ((with_reducible refine gate_store (t := 3) (p := 129) rfl ?_); (try (rw [drewN_self wc]; generalize hq_ : World.drewN wc _ = wc; have n0_ := Aside0.mk (Kd.R_at hq_ HO_3.out); have n1_ := Aside0.mk (blk_at hq_ BK219.out); have n2_ := Aside0.mk (below_at hq_ HB.out); clear hq_ HO_3 BK219 HB; have HO_3 := n0_; have BK219 := n1_; have HB := n2_; clear n0_ n1_ n2_; (try (have HP83 := Kd.R_putg HO_3.out (x15_1 : Int) (wrap64 ((rd x3_1 ((rd_T38 l0 x15_1).f1)) + 1)))))); refine store_event (t := 3) (p := 129) (v := ?vo_w84) (w1 := (wc.setCell ⟨go73, (x15_1 : Int).toNat, none⟩ (.int .i64 (wrap64 ((rd x3_1 ((rd_T38 l0 x15_1).f1)) + 1))))) ?hg ?ho ?hn ?hr ?_; (case ho => rfl); (case hg => rfl); (case hn => rfl); (case hr => first | (go_simp; done) | (go_simp; rfl)); intro w84 hw; have hg : wc.grownBy w84 (some go73) := (by rw [hw]; exact HP83.2); have hp_ : Kd.R (Kd.int .i64) 3 w84 w.heap.size (fun _ => True) (.slice (some ⟨go73, 0, none⟩) x3_1.length co82) y230 := (by rw [hw, Ny230.out]; exact HP83.1); clear HP83; have n0_ := Aside0.mk (hp_); have n1_ := Aside0.mk (blk_grown (g := gb219) (o := .cells #[.string ((rd_T38 l0 x15_1).f0), .int .i64 ((rd_T38 l0 x15_1).f1), .slice A218_2 ((rd_T38 l0 x15_1).f2).length c218_2, .string ((rd_T38 l0 x15_1).f3)] 38 (0, 0)) (bk_ BK219.out) hg (Kd.R_ne HO_3.out BK219.out (by decide))); have n2_ := Aside0.mk ((by rw [hw]; exact below_set (HB.out) GB73.out : Below w.heap.size w w84)); clear HO_3; clear BK219; clear HB; have HO_3 := n0_; have BK219 := n1_; have HB := n2_; clear n0_ n1_ n2_; clear hg hw hp_; have hcz85_0 := bc4_0 BK219.out; have hcz85_1 := bc4_1 BK219.out; have hcz85_2 := bc4_2 BK219.out; have hcz85_3 := bc4_3 BK219.out; have hfz85_0 := blk_frozen BK219.out 0; have hfz85_1 := blk_frozen BK219.out 1; have hfz85_2 := blk_frozen BK219.out 2; have hfz85_3 := blk_frozen BK219.out 3; have p231 : 0 ≤ (x15_1 : Int) := of_decide_eq_true am_; have q231 : x15_1 < (y230.length : Int) := (by have h_ : (x15_1 : Int) < ((x3_1.length : Int) : Int) := of_decide_eq_true am_; first | (have e_ := (Kd.R_reads' HO_3.out).1; omega) | simpa only [Ny230.out, List.length_set] using h_); have ql231 : ((x15_1 : Int) < ((x3_1.length : Int) : Int)) = True := eq_true (of_decide_eq_true am_); obtain ⟨ad231, e231, hx231_0⟩ := Kd.at_int (Kd.R_reads' HO_3.out).2.2 x15_1 p231 q231; obtain rfl : (⟨go73, 0, none⟩ : Addr) = ad231 := (by injection e231); (first | simp only [add_plain] at hx231_0 | simp only [add_at] at hx231_0 | simp only [Addr.add, Nat.zero_add] at hx231_0 | skip); replace p231 := eq_true p231; replace q231 := eq_true q231)))
                        go_ret
                        exact ⟨er_, bes_⟩
                       ·rw [if_neg c80] at H
                        have c80b0 : decide (10 < (rd y230 x15_1)) = false := decide_eq_false c80
                        clear c80
                        have H' := Aside0.mk H
                        clear H
                        have hcz86_0 := bc4_0 BK219.out
                        have hcz86_1 := bc4_1 BK219.out
                        have hcz86_2 := bc4_2 BK219.out
                        have hcz86_3 := bc4_3 BK219.out
                        have hfz86_0 := blk_frozen BK219.out 0
                        have hfz86_1 := blk_frozen BK219.out 1
                        have hfz86_2 := blk_frozen BK219.out 2
                        have hfz86_3 := blk_frozen BK219.out 3
                        obtain ⟨Ao87, co87, eo87⟩ := Kd.R_slice HO_3.out
                        subst eo87
                        have p229 : 0 ≤ (((rd_T38 l0 x15_1).f1) : Int) := of_decide_eq_true am_
                        have q229 : ((rd_T38 l0 x15_1).f1) < (x3_1.length : Int) := of_decide_eq_true am_
                        obtain ⟨ad229, e229, hx229_0⟩ := Kd.at_int (Kd.R_reads' HO_3.out).2.2 ((rd_T38 l0 x15_1).f1) p229 q229
                        cases e229
                        replace p229 := eq_true p229
                        replace q229 := eq_true q229
                        have p73 : 0 ≤ (x15_1 : Int) := of_decide_eq_true am_
                        have q73 : (x15_1 : Int) < ((x3_1.length : Int) : Int) := of_decide_eq_true am_
                        obtain ⟨go73, co73, eo73, gb73, gl73, cl73, HG73⟩ := Kd.R_form HO_3.out (by omega)
                        (first | cases eo73 | (injection eo73 with ea_ en_ ec_; (first | subst ea_ | (injection ea_ with ea_; subst ea_)); subst ec_; clear en_))
                        have GB73 := Aside0.mk gb73
                        have GG73 := Aside0.mk HG73
                        clear gb73 gl73 HG73
                        (first | simp only [add_plain] at hx229_0 | skip)
                        obtain ⟨hx73_0, hf73_0⟩ := Kd.R_celln 0 HO_3.out (x15_1 : Int) p73 q73
                        replace p73 := eq_true p73
                        replace q73 := eq_true q73
                        have HP88 := Kd.R_putg HO_3.out (x15_1 : Int) (wrap64 ((rd x3_1 ((rd_T38 l0 x15_1).f1)) + 1))
                        go_wp2_with (first | ((with_reducible refine gate_store (t := 3) (p := 129) rfl ?_); (try (rw [drewN_self wc]; generalize hq_ : World.drewN wc _ = wc; have n0_ := Aside0.mk (Kd.R_at hq_ HO_3.out); have n1_ := Aside0.mk (blk_at hq_ BK219.out); have n2_ := Aside0.mk (below_at hq_ HB.out); clear hq_ HO_3 BK219 HB; have HO_3 := n0_; have BK219 := n1_; have HB := n2_; clear n0_ n1_ n2_; (try (have HP88 := Kd.R_putg HO_3.out (x15_1 : Int) (wrap64 ((rd x3_1 ((rd_T38 l0 x15_1).f1)) + 1)))))); refine store_event (t := 3) (p := 129) (v := ?vo_w89) (w1 := (wc.setCell ⟨go73, (x15_1 : Int).toNat, none⟩ (.int .i64 (wrap64 ((rd x3_1 ((rd_T38 l0 x15_1).f1)) + 1))))) ?hg ?ho ?hn ?hr ?_; (case ho => rfl); (case hg => rfl); (case hn => rfl); (case hr => first | (go_simp; done) | (go_simp; rfl)); intro w89 hw; have hg : wc.grownBy w89 (some go73) := (by rw [hw]; exact HP88.2); have hp_ : Kd.R (Kd.int .i64) 3 w89 w.heap.size (fun _ => True) (.slice (some ⟨go73, 0, none⟩) x3_1.length co87) y230 := (by rw [hw, Ny230.out]; exact HP88.1); clear HP88; have n0_ := Aside0.mk (hp_); have n1_ := Aside0.mk (blk_grown (g := gb219) (o := .cells #[.string ((rd_T38 l0 x15_1).f0), .int .i64 ((rd_T38 l0 x15_1).f1), .slice A218_2 ((rd_T38 l0 x15_1).f2).length c218_2, .string ((rd_T38 l0 x15_1).f3)] 38 (0, 0)) (bk_ BK219.out) hg (Kd.R_ne HO_3.out BK219.out (by decide))); have n2_ := Aside0.mk ((by rw [hw]; exact below_set (HB.out) GB73.out : Below w.heap.size w w89)); clear HO_3; clear BK219; clear HB; have HO_3 := n0_; have BK219 := n1_; have HB := n2_; clear n0_ n1_ n2_; clear hg hw hp_; have hcz90_0 := bc4_0 BK219.out; have hcz90_1 := bc4_1 BK219.out; have hcz90_2 := bc4_2 BK219.out; have hcz90_3 := bc4_3 BK219.out; have hfz90_0 := blk_frozen BK219.out 0; have hfz90_1 := blk_frozen BK219.out 1; have hfz90_2 := blk_frozen BK219.out 2; have hfz90_3 := blk_frozen BK219.out 3; have p231 : 0 ≤ (x15_1 : Int) := of_decide_eq_true am_; have q231 : x15_1 < (y230.length : Int) := (by have h_ : (x15_1 : Int) < ((x3_1.length : Int) : Int) := of_decide_eq_true am_; first | (have e_ := (Kd.R_reads' HO_3.out).1; omega) | simpa only [Ny230.out, List.length_set] using h_); have ql231 : ((x15_1 : Int) < ((x3_1.length : Int) : Int)) = True := eq_true (of_decide_eq_true am_); obtain ⟨ad231, e231, hx231_0⟩ := Kd.at_int (Kd.R_reads' HO_3.out).2.2 x15_1 p231 q231; obtain rfl : (⟨go73, 0, none⟩ : Addr) = ad231 := (by injection e231); (first | simp only [add_plain] at hx231_0 | simp only [add_at] at hx231_0 | simp only [Addr.add, Nat.zero_add] at hx231_0 | skip); replace p231 := eq_true p231; replace q231 := eq_true q231))
                        repeat (go_quiet (first | ((with_reducible refine gate_store (t := 3) (p := 129) rfl ?_); (try (rw [drewN_self wc]; generalize hq_ : World.drewN wc _ = wc; have n0_ := Aside0.mk (Kd.R_at hq_ HO_3.out); have n1_ := Aside0.mk (blk_at hq_ BK219.out); have n2_ := Aside0.mk (below_at hq_ HB.out); clear hq_ HO_3 BK219 HB; have HO_3 := n0_; have BK219 := n1_; have HB := n2_; clear n0_ n1_ n2_; (try (have HP88 := Kd.R_putg HO_3.out (x15_1 : Int) (wrap64 ((rd x3_1 ((rd_T38 l0 x15_1).f1)) + 1)))))); refine store_event (t := 3) (p := 129) (v := ?vo_w89) (w1 := (wc.setCell ⟨go73, (x15_1 : Int).toNat, none⟩ (.int .i64 (wrap64 ((rd x3_1 ((rd_T38 l0 x15_1).f1)) + 1))))) ?hg ?ho ?hn ?hr ?_; (case ho => rfl); (case hg => rfl); (case hn => rfl); (case hr => first | (go_simp; done) | (go_simp; rfl)); intro w89 hw; have hg : wc.grownBy w89 (some go73) := (by rw [hw]; exact HP88.2); have hp_ : Kd.R (Kd.int .i64) 3 w89 w.heap.size (fun _ => True) (.slice (some ⟨go73, 0, none⟩) x3_1.length co87) y230 := (by rw [hw, Ny230.out]; exact HP88.1); clear HP88; have n0_ := Aside0.mk (hp_); have n1_ := Aside0.mk (blk_grown (g := gb219) (o := .cells #[.string ((rd_T38 l0 x15_1).f0), .int .i64 ((rd_T38 l0 x15_1).f1), .slice A218_2 ((rd_T38 l0 x15_1).f2).length c218_2, .string ((rd_T38 l0 x15_1).f3)] 38 (0, 0)) (bk_ BK219.out) hg (Kd.R_ne HO_3.out BK219.out (by decide))); have n2_ := Aside0.mk ((by rw [hw]; exact below_set (HB.out) GB73.out : Below w.heap.size w w89)); clear HO_3; clear BK219; clear HB; have HO_3 := n0_; have BK219 := n1_; have HB := n2_; clear n0_ n1_ n2_; clear hg hw hp_; have hcz90_0 := bc4_0 BK219.out; have hcz90_1 := bc4_1 BK219.out; have hcz90_2 := bc4_2 BK219.out; have hcz90_3 := bc4_3 BK219.out; have hfz90_0 := blk_frozen BK219.out 0; have hfz90_1 := blk_frozen BK219.out 1; have hfz90_2 := blk_frozen BK219.out 2; have hfz90_3 := blk_frozen BK219.out 3; have p231 : 0 ≤ (x15_1 : Int) := of_decide_eq_true am_; have q231 : x15_1 < (y230.length : Int) := (by have h_ : (x15_1 : Int) < ((x3_1.length : Int) : Int) := of_decide_eq_true am_; first | (have e_ := (Kd.R_reads' HO_3.out).1; omega) | simpa only [Ny230.out, List.length_set] using h_); have ql231 : ((x15_1 : Int) < ((x3_1.length : Int) : Int)) = True := eq_true (of_decide_eq_true am_); obtain ⟨ad231, e231, hx231_0⟩ := Kd.at_int (Kd.R_reads' HO_3.out).2.2 x15_1 p231 q231; obtain rfl : (⟨go73, 0, none⟩ : Addr) = ad231 := (by injection e231); (first | simp only [add_plain] at hx231_0 | simp only [add_at] at hx231_0 | simp only [Addr.add, Nat.zero_add] at hx231_0 | skip); replace p231 := eq_true p231; replace q231 := eq_true q231)); try go_wp2_with (first | ((with_reducible refine gate_store (t := 3) (p := 129) rfl ?_); (try (rw [drewN_self wc]; generalize hq_ : World.drewN wc _ = wc; have n0_ := Aside0.mk (Kd.R_at hq_ HO_3.out); have n1_ := Aside0.mk (blk_at hq_ BK219.out); have n2_ := Aside0.mk (below_at hq_ HB.out); clear hq_ HO_3 BK219 HB; have HO_3 := n0_; have BK219 := n1_; have HB := n2_; clear n0_ n1_ n2_; (try (have HP88 := Kd.R_putg HO_3.out (x15_1 : Int) (wrap64 ((rd x3_1 ((rd_T38 l0 x15_1).f1)) + 1)))))); refine store_event (t := 3) (p := 129) (v := ?vo_w89) (w1 := (wc.setCell ⟨go73, (x15_1 : Int).toNat, none⟩ (.int .i64 (wrap64 ((rd x3_1 ((rd_T38 l0 x15_1).f1)) + 1))))) ?hg ?ho ?hn ?hr ?_; (case ho => rfl); (case hg => rfl); (case hn => rfl); (case hr => first | (go_simp; done) | (go_simp; rfl)); intro w89 hw; have hg : wc.grownBy w89 (some go73) := (by rw [hw]; exact HP88.2); have hp_ : Kd.R (Kd.int .i64) 3 w89 w.heap.size (fun _ => True) (.slice (some ⟨go73, 0, none⟩) x3_1.length co87) y230 := (by rw [hw, Ny230.out]; exact HP88.1); clear HP88; have n0_ := Aside0.mk (hp_); have n1_ := Aside0.mk (blk_grown (g := gb219) (o := .cells #[.string ((rd_T38 l0 x15_1).f0), .int .i64 ((rd_T38 l0 x15_1).f1), .slice A218_2 ((rd_T38 l0 x15_1).f2).length c218_2, .string ((rd_T38 l0 x15_1).f3)] 38 (0, 0)) (bk_ BK219.out) hg (Kd.R_ne HO_3.out BK219.out (by decide))); have n2_ := Aside0.mk ((by rw [hw]; exact below_set (HB.out) GB73.out : Below w.heap.size w w89)); clear HO_3; clear BK219; clear HB; have HO_3 := n0_; have BK219 := n1_; have HB := n2_; clear n0_ n1_ n2_; clear hg hw hp_; have hcz90_0 := bc4_0 BK219.out; have hcz90_1 := bc4_1 BK219.out; have hcz90_2 := bc4_2 BK219.out; have hcz90_3 := bc4_3 BK219.out; have hfz90_0 := blk_frozen BK219.out 0; have hfz90_1 := blk_frozen BK219.out 1; have hfz90_2 := blk_frozen BK219.out 2; have hfz90_3 := blk_frozen BK219.out 3; have p231 : 0 ≤ (x15_1 : Int) := of_decide_eq_true am_; have q231 : x15_1 < (y230.length : Int) := (by have h_ : (x15_1 : Int) < ((x3_1.length : Int) : Int) := of_decide_eq_true am_; first | (have e_ := (Kd.R_reads' HO_3.out).1; omega) | simpa only [Ny230.out, List.length_set] using h_); have ql231 : ((x15_1 : Int) < ((x3_1.length : Int) : Int)) = True := eq_true (of_decide_eq_true am_); obtain ⟨ad231, e231, hx231_0⟩ := Kd.at_int (Kd.R_reads' HO_3.out).2.2 x15_1 p231 q231; obtain rfl : (⟨go73, 0, none⟩ : Addr) = ad231 := (by injection e231); (first | simp only [add_plain] at hx231_0 | simp only [add_at] at hx231_0 | simp only [Addr.add, Nat.zero_add] at hx231_0 | skip); replace p231 := eq_true p231; replace q231 := eq_true q231)))
                        go_roundg kj58
                        case measure => have := HK1.out; have := HJ10.out; have := HJ47.out; have := HJ58.out; omega
                        case rel => exact ⟨(y230), (wrap64 (x15_1 + 1)), sv_, H', ⟨by have := HK1.out; have := HJ10.out; have := HJ47.out; have := HJ58.out; omega⟩, ⟨by (with_reducible repeat (first | apply Kd.R_alloc | apply Kd.R_drewN | apply Kd.R_drew)); exact HO_3.out⟩, ⟨bes_⟩⟩
                     ·rw [if_neg c72] at H
                      exact absurd H (by simp)
                    ·rw [if_neg c71] at H
                     exact absurd H (by simp)
                   ·rw [if_neg c70] at H
                    exact absurd H (by simp)
                  ·rw [if_neg c69] at H
                   exact absurd H (by simp)
        ·rw [if_neg c10] at H
         exact absurd H (by simp)
       ·rw [if_neg c9] at H
        exact absurd H (by simp)
      ·rw [if_neg c8] at H
       have c8b0 : decide (x15_1 < (l0.length : Int)) = false := decide_eq_false c8
       clear c8
       obtain rfl := Option.some.inj H
       go_wp2
       repeat (go_quiet (fail); try go_wp2)
       go_ret
       exact ⟨er_, bel_⟩
   ·rw [if_neg c5] at H
    exact absurd H (by simp)
  ·rw [if_neg c4] at H
   exact absurd H (by simp)
 ·replace c3 := Bool.eq_false_iff.mpr c3
  subst c3
  have H1 : (some false) = some r := by rw [if_neg (show ¬ (false = true) by decide)] at H; exact H
  clear H
  have H := H1
  clear H1
  obtain rfl := Option.some.inj H
  go_enter Tryz.func13, Tryz.ntmps13
  go_wp2_with (first | (go_at_call 24; (with_reducible refine (impl_within.calls (l0.length : Int) 1 60 false _ A2.out).mono ?_); rintro e w' ⟨rfl, ⟨nd, rfl⟩⟩; (try exact dd_)))
  repeat (go_quiet (first | (go_at_call 24; (with_reducible refine (impl_within.calls (l0.length : Int) 1 60 false _ A2.out).mono ?_); rintro e w' ⟨rfl, ⟨nd, rfl⟩⟩; (try exact dd_))); try go_wp2_with (first | (go_at_call 24; (with_reducible refine (impl_within.calls (l0.length : Int) 1 60 false _ A2.out).mono ?_); rintro e w' ⟨rfl, ⟨nd, rfl⟩⟩; (try exact dd_))))
  go_ret
  exact ⟨er_, bel_⟩

end Go.Proofs.YthfbpmjcjiihnaaGreatDoor.PFnExactMarksText
