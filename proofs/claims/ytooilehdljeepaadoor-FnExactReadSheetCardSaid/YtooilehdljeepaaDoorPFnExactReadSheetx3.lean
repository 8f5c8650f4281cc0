-- Laid by a program of this session out of the translation (its own run of the print). Lean checks it.
import Derived.Test.YtooilehdljeepaaDoorPFnExactReadSheetx0
import Derived.Test.YtooilehdljeepaaDoorPFnExactReadSheetx1
import Derived.Test.YtooilehdljeepaaDoorPFnExactReadSheetx2
namespace Go.Proofs.YtooilehdljeepaaDoor.PFnExactReadSheet
open Go.RowKit Go.Proofs.YtooilehdljeepaaDoorW.PrintWords Go.Proofs.YtooilehdljeepaaDoorW.PrintLast Go.Proofs.YtooilehdljeepaaDoorW.PrintMore
attribute [local go_sem] max2_int min2_int max_two min_two max_three min_three max_four min_four   -- for this text's walks alone
set_option linter.unusedVariables false
set_option linter.unusedSimpArgs false

/-! ### spec_l5Decl: function 149 -/
mutual
def spec_l5Decl.j0 : Nat → ByteArray → Bool → ByteArray → ByteArray → Bool → Option (ByteArray × ByteArray × Bool × Bool)
 | 0, _, _, _, _, _ => none
 | k + 1, x0, x29, x120000, x120001, x120002 => if x29 = true then (some ((⟨#[]⟩ : ByteArray), (⟨#[]⟩ : ByteArray), false, false)) else (if 1 ≤ (x0.size : Int) then ((spec_l5Trim.f k (x0.extract 1 x0.size)).bind fun t121 => (if (t121.size : Int) ≥ 10 then (if 0 ≤ (wrap64 ((t121.size : Int) - 10)) then (if (wrap64 ((t121.size : Int) - 10)) ≤ (t121.size : Int) then (spec_l5Decl.j1 k t121 ((t121.extract ((wrap64 ((t121.size : Int) - 10)) : Int).toNat t121.size).toList == ([33, 105, 109, 112, 111, 114, 116, 97, 110, 116] : List UInt8)) x120000 x120001 x120002) else (none)) else (none)) else (spec_l5Decl.j1 k t121 false x120000 x120001 x120002))) else (none))
def spec_l5Decl.j1 : Nat → ByteArray → Bool → ByteArray → ByteArray → Bool → Option (ByteArray × ByteArray × Bool × Bool)
 | 0, _, _, _, _, _ => none
 | k + 1, x0, x44, x120000, x120001, x120002 => if x44 = true then (if 0 ≤ (wrap64 ((x0.size : Int) - 10)) then (if (wrap64 ((x0.size : Int) - 10)) ≤ (x0.size : Int) then ((spec_l5Trim.f k (x0.extract 0 ((wrap64 ((x0.size : Int) - 10)) : Int).toNat)).bind fun t122 => ((spec_l1In.f (t122.size : Int) 1 60).bind fun t123 => (some (x120000, t122, true, t123)))) else (none)) else (none)) else ((spec_l1In.f (x0.size : Int) 1 60).bind fun t124 => (some (x120000, x0, x120002, t124)))
end
def spec_l5Decl.f (k : Nat) (a0 : ByteArray) : Option (ByteArray × ByteArray × Bool × Bool) := (spec_l5Trim.f k a0).bind fun t116 => ((spec_l5Run.f k t116).bind fun t117 => (if t117 = 0 then (some ((⟨#[]⟩ : ByteArray), (⟨#[]⟩ : ByteArray), false, false)) else (if 0 ≤ t117 then (if t117 ≤ (t116.size : Int) then ((spec_l5Low.f (t116.extract 0 (t117 : Int).toNat)).bind fun t118 => ((spec_l5Trim.f k (t116.extract (t117 : Int).toNat t116.size)).bind fun t120 => (if (t120.size : Int) = 0 then (spec_l5Decl.j0 k t120 true t118 (⟨#[]⟩ : ByteArray) false) else (if 0 < (t120.size : Int) then (spec_l5Decl.j0 k t120 ((bt t120 0) != 58) t118 (⟨#[]⟩ : ByteArray) false) else (none))))) else (none)) else (none))))
set_option maxHeartbeats 8000000 in
set_option maxRecDepth 100000 in
theorem spec_l5Decl.calls (k : Nat) (a0 : ByteArray) (r1 : ByteArray) (r2 : ByteArray) (r3 : Bool) (r4 : Bool) (w : World) (h : spec_l5Decl.f k a0 = some (r1, r2, r3, r4)) :
  Calls Tryd.prog 149 #[.string a0] w fun e w' => e = .returned (.tuple #[.agg #[.string r1, .string r2, .bool r3], .bool r4]) ∧ Below w.heap.size w w' := by
 have hu123 := Tryd.underlying123
 have HB := Aside0.mk (Below.refl w.heap.size w)
 have H : ((spec_l5Trim.f k a0).bind fun t116 => ((spec_l5Run.f k t116).bind fun t117 => (if t117 = 0 then (some ((⟨#[]⟩ : ByteArray), (⟨#[]⟩ : ByteArray), false, false)) else (if 0 ≤ t117 then (if t117 ≤ (t116.size : Int) then ((spec_l5Low.f (t116.extract 0 (t117 : Int).toNat)).bind fun t118 => ((spec_l5Trim.f k (t116.extract (t117 : Int).toNat t116.size)).bind fun t120 => (if (t120.size : Int) = 0 then (spec_l5Decl.j0 k t120 true t118 (⟨#[]⟩ : ByteArray) false) else (if 0 < (t120.size : Int) then (spec_l5Decl.j0 k t120 ((bt t120 0) != 58) t118 (⟨#[]⟩ : ByteArray) false) else (none))))) else (none)) else (none))))) = some (r1, r2, r3, r4) := h
 clear h
 replace H := Option.bind_eq_some_iff.mp H
 obtain ⟨t116, A20, H⟩ := H
 replace H : ((spec_l5Run.f k t116).bind fun t117 => (if t117 = 0 then (some ((⟨#[]⟩ : ByteArray), (⟨#[]⟩ : ByteArray), false, false)) else (if 0 ≤ t117 then (if t117 ≤ (t116.size : Int) then ((spec_l5Low.f (t116.extract 0 (t117 : Int).toNat)).bind fun t118 => ((spec_l5Trim.f k (t116.extract (t117 : Int).toNat t116.size)).bind fun t120 => (if (t120.size : Int) = 0 then (spec_l5Decl.j0 k t120 true t118 (⟨#[]⟩ : ByteArray) false) else (if 0 < (t120.size : Int) then (spec_l5Decl.j0 k t120 ((bt t120 0) != 58) t118 (⟨#[]⟩ : ByteArray) false) else (none))))) else (none)) else (none)))) = some (r1, r2, r3, r4) := H
 have A2 := Aside0.mk A20
 clear A20
 replace H := Option.bind_eq_some_iff.mp H
 obtain ⟨t117, A30, H⟩ := H
 replace H : (if t117 = 0 then (some ((⟨#[]⟩ : ByteArray), (⟨#[]⟩ : ByteArray), false, false)) else (if 0 ≤ t117 then (if t117 ≤ (t116.size : Int) then ((spec_l5Low.f (t116.extract 0 (t117 : Int).toNat)).bind fun t118 => ((spec_l5Trim.f k (t116.extract (t117 : Int).toNat t116.size)).bind fun t120 => (if (t120.size : Int) = 0 then (spec_l5Decl.j0 k t120 true t118 (⟨#[]⟩ : ByteArray) false) else (if 0 < (t120.size : Int) then (spec_l5Decl.j0 k t120 ((bt t120 0) != 58) t118 (⟨#[]⟩ : ByteArray) false) else (none))))) else (none)) else (none))) = some (r1, r2, r3, r4) := H
 have A3 := Aside0.mk A30
 clear A30
 by_cases c4 : t117 = 0
 ·rw [if_pos c4] at H
  have c4b0 : (t117 == 0) = true := beq_iff_eq.mpr c4
  have c4b1 : (t117 != 0) = false := bne_eq_false_iff_eq.mpr c4
  clear c4
  simp only [Option.some.injEq, Prod.mk.injEq] at H
  obtain ⟨rfl, rfl, rfl, rfl⟩ := H
  go_enter Tryd.func149, Tryd.ntmps149
  go_wp2_with (first | ((with_reducible refine gate_dst (N := 2) rfl ?_); (try (refine gate_guard (by rfl) ?_; dsimp only)); refine box_event ?hg (N := 2) ?hd (cs := #[.string (⟨#[]⟩ : ByteArray), .string (⟨#[]⟩ : ByteArray), .bool false]) (t := 123) ?hr ?_; (case hd => rfl); (case hg => rfl); (case hr => first | (go_simp; done) | (go_simp; rfl)); intro gb115 hg w5 hbox hb; have n0_ := Aside0.mk (below_step bel_ hb); have n1_ := Aside0.mk (hbox); have n2_ := Aside0.mk ((by rw [hg]; exact (below_size bel_) : w.heap.size ≤ gb115)); have n3_ := Aside0.mk ((by rw [hg]; exact (below_size bel_) : w.heap.size ≤ gb115)); clear HB; have HB := n0_; have BK115 := n1_; have GW115 := n2_; have GE115 := n3_; clear n0_ n1_ n2_ n3_; clear hb hbox hg) | ((with_reducible refine gate_callee (f := 61) rfl ?_); refine goesL_ (some 7) rfl rfl Tryd.func61 (by kernel_rfl) rfl #[.string a0] rfl au_ ?_; (with_reducible refine (spec_l5Trim.calls k a0 t116 _ A2.out).mono ?_); rintro e w' ⟨rfl, ⟨nd, rfl⟩⟩; refine ⟨_, rfl, ?_⟩; (try (rw [drewN_self w5]; generalize hq_ : World.drewN w5 _ = w5; have n0_ : Aside0 (w5.heap[gb115]? = some (.cells #[.string (⟨#[]⟩ : ByteArray), .string (⟨#[]⟩ : ByteArray), .bool false] 123 (0, 0))) := ⟨by rw [← hq_]; exact (bk_ BK115.out)⟩; have n1_ : Aside0 (Below w.heap.size w w5) := ⟨by rw [← hq_]; exact bes_⟩; clear BK115 HB hq_; have BK115 := n0_; have HB := n1_; clear n0_ n1_))) | ((with_reducible refine gate_callee (f := 161) rfl ?_); refine goesL_ (some 9) rfl rfl Tryd.func161 (by kernel_rfl) rfl #[.string t116] rfl au_ ?_; (with_reducible refine (spec_l5Run.calls k t116 t117 _ A3.out).mono ?_); rintro e w' ⟨rfl, ⟨nd, rfl⟩⟩; refine ⟨_, rfl, ?_⟩; (try (rw [drewN_self w5]; generalize hq_ : World.drewN w5 _ = w5; have n0_ : Aside0 (w5.heap[gb115]? = some (.cells #[.string (⟨#[]⟩ : ByteArray), .string (⟨#[]⟩ : ByteArray), .bool false] 123 (0, 0))) := ⟨by rw [← hq_]; exact (bk_ BK115.out)⟩; have n1_ : Aside0 (Below w.heap.size w w5) := ⟨by rw [← hq_]; exact bes_⟩; clear BK115 HB hq_; have BK115 := n0_; have HB := n1_; clear n0_ n1_)); have hcz6_0 := bc3_0 BK115.out; have hcz6_1 := bc3_1 BK115.out; have hcz6_2 := bc3_2 BK115.out; have hfz6_0 := blk_frozen BK115.out 0; have hfz6_1 := blk_frozen BK115.out 1; have hfz6_2 := blk_frozen BK115.out 2))
  refine bodyPost_ret (results_ct rfl _ _ gb115 123 #[.string (⟨#[]⟩ : ByteArray), .string (⟨#[]⟩ : ByteArray), .bool false] (0, 0) _ rfl (by (with_reducible repeat (first | refine blk_drewN ?_ _ | refine blk_drew ?_ | refine blk_alloc ?_ _)); refine blk_put (cs := #[.string (⟨#[]⟩ : ByteArray), .string (⟨#[]⟩ : ByteArray), .bool false]) ?_ 2 _ rfl; (with_reducible repeat (first | refine blk_drewN ?_ _ | refine blk_drew ?_ | refine blk_alloc ?_ _)); refine blk_put (cs := #[.string (⟨#[]⟩ : ByteArray), .string (⟨#[]⟩ : ByteArray), .bool false]) ?_ 1 _ rfl; (with_reducible repeat (first | refine blk_drewN ?_ _ | refine blk_drew ?_ | refine blk_alloc ?_ _)); refine blk_put (cs := #[.string (⟨#[]⟩ : ByteArray), .string (⟨#[]⟩ : ByteArray), .bool false]) ?_ 0 _ rfl; (with_reducible repeat (first | refine blk_drewN ?_ _ | refine blk_drew ?_ | refine blk_alloc ?_ _)); exact BK115.out) Tryd.underlying123 rfl (by kernel_rfl)) rfl ?_
  exact ⟨er_, bes_⟩
 ·rw [if_neg c4] at H
  have c4b0 : (t117 == 0) = false := beq_eq_false_iff_ne.mpr c4
  have c4b1 : (t117 != 0) = true := bne_iff_ne.mpr c4
  by_cases c7 : 0 ≤ t117
  ·rw [if_pos c7] at H
   have c7b0 := eq_true c7
   have c7b1 : decide (0 ≤ t117) = true := decide_eq_true c7
   clear c7
   by_cases c8 : t117 ≤ (t116.size : Int)
   ·rw [if_pos c8] at H
    have c8b0 := eq_true c8
    have c8b1 : decide (t117 ≤ (t116.size : Int)) = true := decide_eq_true c8
    clear c8
    replace H := Option.bind_eq_some_iff.mp H
    obtain ⟨t118, A90, H⟩ := H
    replace H : ((spec_l5Trim.f k (t116.extract (t117 : Int).toNat t116.size)).bind fun t120 => (if (t120.size : Int) = 0 then (spec_l5Decl.j0 k t120 true t118 (⟨#[]⟩ : ByteArray) false) else (if 0 < (t120.size : Int) then (spec_l5Decl.j0 k t120 ((bt t120 0) != 58) t118 (⟨#[]⟩ : ByteArray) false) else (none)))) = some (r1, r2, r3, r4) := H
    have A9 := Aside0.mk A90
    clear A90
    have c10b0 := eq_true (of_decide_eq_true am_ : 0 ≤ t117)
    have c11b0 := eq_true (of_decide_eq_true am_ : t117 ≤ (t116.size : Int))
    replace H := Option.bind_eq_some_iff.mp H
    obtain ⟨t120, A120, H⟩ := H
    replace H : (if (t120.size : Int) = 0 then (spec_l5Decl.j0 k t120 true t118 (⟨#[]⟩ : ByteArray) false) else (if 0 < (t120.size : Int) then (spec_l5Decl.j0 k t120 ((bt t120 0) != 58) t118 (⟨#[]⟩ : ByteArray) false) else (none))) = some (r1, r2, r3, r4) := H
    have A12 := Aside0.mk A120
    clear A120
    have HC13 := Aside0.mk H
    clear H
    go_enter Tryd.func149, Tryd.ntmps149
    go_upto_region 7 with (first | ((with_reducible refine gate_dst (N := 2) rfl ?_); (try (refine gate_guard (by rfl) ?_; dsimp only)); refine box_event ?hg (N := 2) ?hd (cs := #[.string (⟨#[]⟩ : ByteArray), .string (⟨#[]⟩ : ByteArray), .bool false]) (t := 123) ?hr ?_; (case hd => rfl); (case hg => rfl); (case hr => first | (go_simp; done) | (go_simp; rfl)); intro gb115 hg w14 hbox hb; have n0_ := Aside0.mk (below_step bel_ hb); have n1_ := Aside0.mk (hbox); have n2_ := Aside0.mk ((by rw [hg]; exact (below_size bel_) : w.heap.size ≤ gb115)); have n3_ := Aside0.mk ((by rw [hg]; exact (below_size bel_) : w.heap.size ≤ gb115)); clear HB; have HB := n0_; have BK115 := n1_; have GW115 := n2_; have GE115 := n3_; clear n0_ n1_ n2_ n3_; clear hb hbox hg) | ((with_reducible refine gate_callee (f := 61) rfl ?_); refine goesL_ (some 7) rfl rfl Tryd.func61 (by kernel_rfl) rfl #[.string a0] rfl au_ ?_; (with_reducible refine (spec_l5Trim.calls k a0 t116 _ A2.out).mono ?_); rintro e w' ⟨rfl, ⟨nd, rfl⟩⟩; refine ⟨_, rfl, ?_⟩; (try (rw [drewN_self w14]; generalize hq_ : World.drewN w14 _ = w14; have n0_ : Aside0 (w14.heap[gb115]? = some (.cells #[.string (⟨#[]⟩ : ByteArray), .string (⟨#[]⟩ : ByteArray), .bool false] 123 (0, 0))) := ⟨by rw [← hq_]; exact (bk_ BK115.out)⟩; have n1_ : Aside0 (Below w.heap.size w w14) := ⟨by rw [← hq_]; exact bes_⟩; clear BK115 HB hq_; have BK115 := n0_; have HB := n1_; clear n0_ n1_))) | ((with_reducible refine gate_callee (f := 161) rfl ?_); refine goesL_ (some 9) rfl rfl Tryd.func161 (by kernel_rfl) rfl #[.string t116] rfl au_ ?_; (with_reducible refine (spec_l5Run.calls k t116 t117 _ A3.out).mono ?_); rintro e w' ⟨rfl, ⟨nd, rfl⟩⟩; refine ⟨_, rfl, ?_⟩; (try (rw [drewN_self w14]; generalize hq_ : World.drewN w14 _ = w14; have n0_ : Aside0 (w14.heap[gb115]? = some (.cells #[.string (⟨#[]⟩ : ByteArray), .string (⟨#[]⟩ : ByteArray), .bool false] 123 (0, 0))) := ⟨by rw [← hq_]; exact (bk_ BK115.out)⟩; have n1_ : Aside0 (Below w.heap.size w w14) := ⟨by rw [← hq_]; exact bes_⟩; clear BK115 HB hq_; have BK115 := n0_; have HB := n1_; clear n0_ n1_))) | ((with_reducible refine gate_callee (f := 114) rfl ?_); refine goesL_ (some 16) rfl rfl Tryd.func114 (by kernel_rfl) rfl #[.string (t116.extract 0 (t117 : Int).toNat)] rfl au_ ?_; (with_reducible refine (spec_l5Low.calls (t116.extract 0 (t117 : Int).toNat) t118 _ A9.out).mono ?_); rintro e w15 ⟨rfl, hb⟩; refine ⟨_, rfl, ?_⟩; have n0_ := Aside0.mk (blk_below (g := gb115) (o := .cells #[.string (⟨#[]⟩ : ByteArray), .string (⟨#[]⟩ : ByteArray), .bool false] 123 (0, 0)) (bk_ BK115.out) hb); have n1_ := Aside0.mk (below_step bes_ hb); clear BK115; clear HB; have BK115 := n0_; have HB := n1_; clear n0_ n1_; (try clear hb);(try clear hb2);(try clear hk);(try clear hi)) | ((with_reducible refine gate_dst (N := 5) rfl ?_); (try (refine gate_guard (by rfl) ?_; dsimp only)); refine box_event ?hg (N := 5) ?hd (cs := #[.string (⟨#[]⟩ : ByteArray), .string (⟨#[]⟩ : ByteArray), .bool false]) (t := 123) ?hr ?_; (case hd => rfl); (case hg => rfl); (case hr => first | (go_simp; done) | (go_simp; rfl)); intro gb119 hg w16 hbox hb; have n0_ := Aside0.mk (blk_below (g := gb115) (o := .cells #[.string (⟨#[]⟩ : ByteArray), .string (⟨#[]⟩ : ByteArray), .bool false] 123 (0, 0)) (bk_ BK115.out) hb); have n1_ := Aside0.mk (below_step bes_ hb); have n2_ := Aside0.mk (hbox); have n3_ := Aside0.mk ((by rw [hg]; exact (below_size bes_) : w.heap.size ≤ gb119)); have n4_ := Aside0.mk ((by rw [hg]; exact (below_size bes_) : w.heap.size ≤ gb119)); have n5_ := Aside0.mk ((by rw [hg]; exact Nat.ne_of_lt (blk_lt (g := gb115) (o := .cells #[.string (⟨#[]⟩ : ByteArray), .string (⟨#[]⟩ : ByteArray), .bool false] 123 (0, 0)) (bk_ BK115.out)) : gb115 ≠ gb119)); have n6_ := Aside0.mk ((by rw [hg]; exact Nat.ne_of_gt (blk_lt (g := gb115) (o := .cells #[.string (⟨#[]⟩ : ByteArray), .string (⟨#[]⟩ : ByteArray), .bool false] 123 (0, 0)) (bk_ BK115.out)) : gb119 ≠ gb115)); clear BK115; clear HB; have BK115 := n0_; have HB := n1_; have BK119 := n2_; have GW119 := n3_; have GE119 := n4_; have NB115_119 := n5_; have NB119_115 := n6_; clear n0_ n1_ n2_ n3_ n4_ n5_ n6_; clear hb hbox hg; have hnb17 := NB119_115.out; have hnc17 := NB115_119.out; have hcz18_0 := bc3_0 BK119.out; have hcz18_1 := bc3_1 BK119.out; have hcz18_2 := bc3_2 BK119.out; have hfz18_0 := blk_frozen BK119.out 0; have hfz18_1 := blk_frozen BK119.out 1; have hfz18_2 := blk_frozen BK119.out 2) | ((with_reducible refine gate_callee (f := 61) rfl ?_); refine goesL_ (some 21) rfl rfl Tryd.func61 (by kernel_rfl) rfl #[.string (t116.extract (t117 : Int).toNat t116.size)] rfl au_ ?_; (with_reducible refine (spec_l5Trim.calls k (t116.extract (t117 : Int).toNat t116.size) t120 _ A12.out).mono ?_); rintro e w' ⟨rfl, ⟨nd, rfl⟩⟩; refine ⟨_, rfl, ?_⟩))
    (try simp only [Act.put, List.setIfInBounds_toArray, List.set_cons_zero, List.set_cons_succ])
    go_cut [29] (fun v29 wc => ∃ (kq : Nat) (x29_12 : Bool), v29 = .bool x29_12 ∧ Aside0 (spec_l5Decl.j0 kq t120 x29_12 t118 (⟨#[]⟩ : ByteArray) false = some (r1, r2, r3, r4)) ∧ Aside0 (kq ≤ k) ∧ Aside0 (wc.heap[gb115]? = some (.cells #[.string (⟨#[]⟩ : ByteArray), .string (⟨#[]⟩ : ByteArray), .bool false] 123 (0, 0))) ∧ Aside0 (wc.heap[gb119]? = some (.cells #[.string t118, .string (⟨#[]⟩ : ByteArray), .bool false] 123 (0, 0))) ∧ Aside0 (Below w.heap.size w wc))
    case first =>
     have H := HC13.out
     clear HC13
     by_cases c19 : (t120.size : Int) = 0
     ·rw [if_pos c19] at H
      have c19b0 : ((t120.size : Int) == 0) = true := beq_iff_eq.mpr c19
      have c19b1 : ((t120.size : Int) != 0) = false := bne_eq_false_iff_eq.mpr c19
      clear c19
      (first | rw [c19b0] | (simp only [i64_w, i32_w]; rw [c19b0]) | skip)
      have H' := Aside0.mk H
      clear H
      go_wp2
      go_meet
      case rel => exact ⟨_, (true), sv_, H', ⟨by first | omega | exact Nat.le_refl _⟩, ⟨by (with_reducible repeat (first | refine blk_drewN ?_ _ | refine blk_drew ?_ | refine blk_alloc ?_ _)); refine blk_far ?_ NB115_119.out _; (with_reducible repeat (first | refine blk_drewN ?_ _ | refine blk_drew ?_ | refine blk_alloc ?_ _)); refine blk_far ?_ NB115_119.out _; (with_reducible repeat (first | refine blk_drewN ?_ _ | refine blk_drew ?_ | refine blk_alloc ?_ _)); refine blk_far ?_ NB115_119.out _; (with_reducible repeat (first | refine blk_drewN ?_ _ | refine blk_drew ?_ | refine blk_alloc ?_ _)); exact BK115.out⟩, ⟨by (with_reducible repeat (first | refine blk_drewN ?_ _ | refine blk_drew ?_ | refine blk_alloc ?_ _)); refine blk_put (cs := #[.string t118, .string (⟨#[]⟩ : ByteArray), .bool false]) ?_ 2 _ rfl; (with_reducible repeat (first | refine blk_drewN ?_ _ | refine blk_drew ?_ | refine blk_alloc ?_ _)); refine blk_put (cs := #[.string t118, .string (⟨#[]⟩ : ByteArray), .bool false]) ?_ 1 _ rfl; (with_reducible repeat (first | refine blk_drewN ?_ _ | refine blk_drew ?_ | refine blk_alloc ?_ _)); refine blk_put (cs := #[.string (⟨#[]⟩ : ByteArray), .string (⟨#[]⟩ : ByteArray), .bool false]) ?_ 0 _ rfl; (with_reducible repeat (first | refine blk_drewN ?_ _ | refine blk_drew ?_ | refine blk_alloc ?_ _)); exact BK119.out⟩, ⟨bes_⟩⟩
     ·rw [if_neg c19] at H
      have c19b0 : ((t120.size : Int) == 0) = false := beq_eq_false_iff_ne.mpr c19
      have c19b1 : ((t120.size : Int) != 0) = true := bne_iff_ne.mpr c19
      (first | rw [c19b0] | (simp only [i64_w, i32_w]; rw [c19b0]) | skip)
      by_cases c20 : 0 < (t120.size : Int)
      ·rw [if_pos c20] at H
       have c20b0 : decide (0 < (t120.size : Int)) = true := decide_eq_true c20
       have c20b1 : decide (0 < t120.size) = true := decide_eq_true (by omega)
       clear c20
       have H' := Aside0.mk H
       clear H
       have p21 : 0 ≤ (0 : Int) := (by omega)
       have q21 : 0 < t120.size := (by have : (0 : Int) < (t120.size : Int) := of_decide_eq_true am_; omega)
       have hx21 : ∀ h : 0 < t120.size, ((t120[0]'h).toNat : Int) = bt t120 0 := bt_at t120 0
       clear p21
       have qi21 : (0 < (t120.size : Int)) = True := eq_true (of_decide_eq_true am_)
       replace q21 := eq_true q21
       go_wp2
       go_meet
       case rel => exact ⟨_, (((bt t120 0) != 58)), sv_, H', ⟨by first | omega | exact Nat.le_refl _⟩, ⟨by (with_reducible repeat (first | refine blk_drewN ?_ _ | refine blk_drew ?_ | refine blk_alloc ?_ _)); refine blk_far ?_ NB115_119.out _; (with_reducible repeat (first | refine blk_drewN ?_ _ | refine blk_drew ?_ | refine blk_alloc ?_ _)); refine blk_far ?_ NB115_119.out _; (with_reducible repeat (first | refine blk_drewN ?_ _ | refine blk_drew ?_ | refine blk_alloc ?_ _)); refine blk_far ?_ NB115_119.out _; (with_reducible repeat (first | refine blk_drewN ?_ _ | refine blk_drew ?_ | refine blk_alloc ?_ _)); exact BK115.out⟩, ⟨by (with_reducible repeat (first | refine blk_drewN ?_ _ | refine blk_drew ?_ | refine blk_alloc ?_ _)); refine blk_put (cs := #[.string t118, .string (⟨#[]⟩ : ByteArray), .bool false]) ?_ 2 _ rfl; (with_reducible repeat (first | refine blk_drewN ?_ _ | refine blk_drew ?_ | refine blk_alloc ?_ _)); refine blk_put (cs := #[.string t118, .string (⟨#[]⟩ : ByteArray), .bool false]) ?_ 1 _ rfl; (with_reducible repeat (first | refine blk_drewN ?_ _ | refine blk_drew ?_ | refine blk_alloc ?_ _)); refine blk_put (cs := #[.string (⟨#[]⟩ : ByteArray), .string (⟨#[]⟩ : ByteArray), .bool false]) ?_ 0 _ rfl; (with_reducible repeat (first | refine blk_drewN ?_ _ | refine blk_drew ?_ | refine blk_alloc ?_ _)); exact BK119.out⟩, ⟨bes_⟩⟩
      ·rw [if_neg c20] at H
       exact absurd H (by simp)
    case rest =>
     clear HC13
     (try clear c1);(try clear c2);(try clear p2);(try clear q2);(try clear hx2);(try clear qi2);(try clear c4);(try clear c4b0 c4b1);(try clear c6);(try clear c7);(try clear c7b0 c7b1);(try clear c8);(try clear c8b0 c8b1);(try clear c10);(try clear c10b0);(try clear c11);(try clear c11b0);(try clear c14);(try clear c16);(try clear c17);(try clear c19);(try clear c19b0 c19b1);(try clear c20);(try clear c20b0 c20b1);(try clear p21);(try clear q21);(try clear hx21);(try clear qi21);(try clear hcz18_0 hcz18_1 hcz18_2);(try clear hcz6_0 hcz6_1 hcz6_2);(try clear hfz18_0 hfz18_1 hfz18_2);(try clear hfz6_0 hfz6_1 hfz6_2);(try clear p21);(try clear q21)
     obtain ⟨kq, x29_12, rfl, HA, HJ12, BK115, BK119, HB⟩ := hcut
     cases kq with
     | zero => exact absurd HA.out (by simp [spec_l5Decl.j0])
     | succ kj12 =>
      have H := HA.out
      clear HA
      simp only [spec_l5Decl.j0] at H
      by_cases c22 : x29_12 = true
      ·subst c22
       have H1 : (some ((⟨#[]⟩ : ByteArray), (⟨#[]⟩ : ByteArray), false, false)) = some (r1, r2, r3, r4) := by rw [if_pos rfl] at H; exact H
       clear H
       have H := H1
       clear H1
       simp only [Option.some.injEq, Prod.mk.injEq] at H
       obtain ⟨rfl, rfl, rfl, rfl⟩ := H
       have hnb23 := NB115_119.out
       have hnc23 := NB119_115.out
       have hcz24_0 := bc3_0 BK115.out
       have hcz24_1 := bc3_1 BK115.out
       have hcz24_2 := bc3_2 BK115.out
       have hfz24_0 := blk_frozen BK115.out 0
       have hfz24_1 := blk_frozen BK115.out 1
       have hfz24_2 := blk_frozen BK115.out 2
       go_wp2
       refine bodyPost_ret (results_ct rfl _ _ gb115 123 #[.string (⟨#[]⟩ : ByteArray), .string (⟨#[]⟩ : ByteArray), .bool false] (0, 0) _ rfl (by (with_reducible repeat (first | refine blk_drewN ?_ _ | refine blk_drew ?_ | refine blk_alloc ?_ _)); refine blk_put (cs := #[.string (⟨#[]⟩ : ByteArray), .string (⟨#[]⟩ : ByteArray), .bool false]) ?_ 2 _ rfl; (with_reducible repeat (first | refine blk_drewN ?_ _ | refine blk_drew ?_ | refine blk_alloc ?_ _)); refine blk_put (cs := #[.string (⟨#[]⟩ : ByteArray), .string (⟨#[]⟩ : ByteArray), .bool false]) ?_ 1 _ rfl; (with_reducible repeat (first | refine blk_drewN ?_ _ | refine blk_drew ?_ | refine blk_alloc ?_ _)); refine blk_put (cs := #[.string (⟨#[]⟩ : ByteArray), .string (⟨#[]⟩ : ByteArray), .bool false]) ?_ 0 _ rfl; (with_reducible repeat (first | refine blk_drewN ?_ _ | refine blk_drew ?_ | refine blk_alloc ?_ _)); exact BK115.out) Tryd.underlying123 rfl (by kernel_rfl)) rfl ?_
       exact ⟨er_, bes_⟩
      ·replace c22 := Bool.eq_false_iff.mpr c22
       subst c22
       have H1 : (if 1 ≤ (t120.size : Int) then ((spec_l5Trim.f kj12 (t120.extract 1 t120.size)).bind fun t121 => (if (t121.size : Int) ≥ 10 then (if 0 ≤ (wrap64 ((t121.size : Int) - 10)) then (if (wrap64 ((t121.size : Int) - 10)) ≤ (t121.size : Int) then (spec_l5Decl.j1 kj12 t121 ((t121.extract ((wrap64 ((t121.size : Int) - 10)) : Int).toNat t121.size).toList == ([33, 105, 109, 112, 111, 114, 116, 97, 110, 116] : List UInt8)) t118 (⟨#[]⟩ : ByteArray) false) else (none)) else (none)) else (spec_l5Decl.j1 kj12 t121 false t118 (⟨#[]⟩ : ByteArray) false))) else (none)) = some (r1, r2, r3, r4) := by rw [if_neg (show ¬ (false = true) by decide)] at H; exact H
       clear H
       have H := H1
       clear H1
       by_cases c25 : 1 ≤ (t120.size : Int)
       ·rw [if_pos c25] at H
        have c25b0 := eq_true c25
        have c25b1 : decide (1 ≤ (t120.size : Int)) = true := decide_eq_true c25
        clear c25
        replace H := Option.bind_eq_some_iff.mp H
        obtain ⟨t121, A260, H⟩ := H
        replace H : (if (t121.size : Int) ≥ 10 then (if 0 ≤ (wrap64 ((t121.size : Int) - 10)) then (if (wrap64 ((t121.size : Int) - 10)) ≤ (t121.size : Int) then (spec_l5Decl.j1 kj12 t121 ((t121.extract ((wrap64 ((t121.size : Int) - 10)) : Int).toNat t121.size).toList == ([33, 105, 109, 112, 111, 114, 116, 97, 110, 116] : List UInt8)) t118 (⟨#[]⟩ : ByteArray) false) else (none)) else (none)) else (spec_l5Decl.j1 kj12 t121 false t118 (⟨#[]⟩ : ByteArray) false)) = some (r1, r2, r3, r4) := H
        have A26 := Aside0.mk A260
        clear A260
        have HC27 := Aside0.mk H
        clear H
        go_upto_region 10 with (first | ((with_reducible refine gate_callee (f := 61) rfl ?_); refine goesL_ (some 33) rfl rfl Tryd.func61 (by kernel_rfl) rfl #[.string (t120.extract 1 t120.size)] rfl au_ ?_; (with_reducible refine (spec_l5Trim.calls kj12 (t120.extract 1 t120.size) t121 _ A26.out).mono ?_); rintro e w' ⟨rfl, ⟨nd, rfl⟩⟩; refine ⟨_, rfl, ?_⟩))
        (try simp only [Act.put, List.setIfInBounds_toArray, List.set_cons_zero, List.set_cons_succ])
        go_cut [44] (fun v44 wc => ∃ (kq : Nat) (x44_26 : Bool), v44 = .bool x44_26 ∧ Aside0 (spec_l5Decl.j1 kq t121 x44_26 t118 (⟨#[]⟩ : ByteArray) false = some (r1, r2, r3, r4)) ∧ Aside0 (kq ≤ kj12) ∧ Aside0 (wc.heap[gb115]? = some (.cells #[.string (⟨#[]⟩ : ByteArray), .string (⟨#[]⟩ : ByteArray), .bool false] 123 (0, 0))) ∧ Aside0 (wc.heap[gb119]? = some (.cells #[.string t118, .string (⟨#[]⟩ : ByteArray), .bool false] 123 (0, 0))) ∧ Aside0 (Below w.heap.size w wc))
        case first =>
         have H := HC27.out
         clear HC27
         by_cases c28 : (t121.size : Int) ≥ 10
         ·rw [if_pos c28] at H
          have c28b0 : decide (10 ≤ (t121.size : Int)) = true := decide_eq_true c28
          have c28b1 : decide (10 ≤ t121.size) = true := decide_eq_true (by omega)
          clear c28
          (first | rw [c28b0] | (simp only [i64_w, i32_w]; rw [c28b0]) | skip)
          obtain ⟨ji29, hji29⟩ : ∃ j_ : Int, (wrap64 ((t121.size : Int) - 10)) = j_ := ⟨_, rfl⟩
          replace H : (if 0 ≤ (ji29) then (if (ji29) ≤ (t121.size : Int) then (spec_l5Decl.j1 kj12 t121 ((t121.extract ((ji29) : Int).toNat t121.size).toList == ([33, 105, 109, 112, 111, 114, 116, 97, 110, 116] : List UInt8)) t118 (⟨#[]⟩ : ByteArray) false) else (none)) else (none)) = some (r1, r2, r3, r4) := by first | (rw [hji29] at H; exact H) | (simp only [hji29] at H ⊢; exact H)
          have hji29w : (IntKind.i64.wrap ((t121.size : Int) - 10)) = ji29 := (i64_w _).trans hji29
          by_cases c30 : 0 ≤ (ji29)
          ·rw [if_pos c30] at H
           have c30b0 := eq_true c30
           have c30b1 : decide (0 ≤ (ji29)) = true := decide_eq_true c30
           clear c30
           by_cases c31 : (ji29) ≤ (t121.size : Int)
           ·rw [if_pos c31] at H
            have c31b0 := eq_true c31
            have c31b1 : decide ((ji29) ≤ (t121.size : Int)) = true := decide_eq_true c31
            clear c31
            have H' := Aside0.mk H
            clear H
            go_wp2
            go_meet
            case rel => exact ⟨_, (((t121.extract ((ji29) : Int).toNat t121.size).toList == ([33, 105, 109, 112, 111, 114, 116, 97, 110, 116] : List UInt8))), (by first | rfl | (simp; done) | (simp only [← hji29] <;> (first | rfl | simp)) | (simp [*]; done)), H', ⟨by have := HJ12.out; first | omega | exact Nat.le_refl _⟩, ⟨by (with_reducible repeat (first | refine blk_drewN ?_ _ | refine blk_drew ?_ | refine blk_alloc ?_ _)); exact BK115.out⟩, ⟨by (with_reducible repeat (first | refine blk_drewN ?_ _ | refine blk_drew ?_ | refine blk_alloc ?_ _)); exact BK119.out⟩, ⟨bes_⟩⟩
           ·rw [if_neg c31] at H
            exact absurd H (by simp)
          ·rw [if_neg c30] at H
           exact absurd H (by simp)
         ·rw [if_neg c28] at H
          have c28b0 : decide (10 ≤ (t121.size : Int)) = false := decide_eq_false c28
          have c28b1 : decide (10 ≤ t121.size) = false := decide_eq_false (by omega)
          clear c28
          (first | rw [c28b0] | (simp only [i64_w, i32_w]; rw [c28b0]) | skip)
          have H' := Aside0.mk H
          clear H
          go_wp2
          go_meet
          case rel => exact ⟨_, (false), sv_, H', ⟨by have := HJ12.out; first | omega | exact Nat.le_refl _⟩, ⟨by (with_reducible repeat (first | refine blk_drewN ?_ _ | refine blk_drew ?_ | refine blk_alloc ?_ _)); exact BK115.out⟩, ⟨by (with_reducible repeat (first | refine blk_drewN ?_ _ | refine blk_drew ?_ | refine blk_alloc ?_ _)); exact BK119.out⟩, ⟨bes_⟩⟩
        case rest =>
         clear HC27
         (try clear c1);(try clear c2);(try clear p2);(try clear q2);(try clear hx2);(try clear qi2);(try clear c3);(try clear c4);(try clear c4b0 c4b1);(try clear c6);(try clear p6);(try clear c7);(try clear c7b0 c7b1);(try clear c8);(try clear c8b0 c8b1);(try clear c10);(try clear c10b0);(try clear c11);(try clear c11b0);(try clear c14);(try clear c16);(try clear c17);(try clear c19);(try clear c19b0 c19b1);(try clear c20);(try clear c20b0 c20b1);(try clear p21);(try clear q21);(try clear hx21);(try clear qi21);(try clear c22);(try clear c23);(try clear c25);(try clear c25b0 c25b1);(try clear c28);(try clear c28b0 c28b1);(try clear c30);(try clear c30b0 c30b1);(try clear c31);(try clear c31b0 c31b1);(try clear hcz18_0 hcz18_1 hcz18_2);(try clear hcz24_0 hcz24_1)
         (try clear hcz24_2);(try clear hcz6_0 hcz6_1 hcz6_2);(try clear hfz18_0 hfz18_1 hfz18_2);(try clear hfz24_0 hfz24_1 hfz24_2);(try clear hfz6_0 hfz6_1 hfz6_2);(try clear p2);(try clear p21);(try clear q2);(try clear q21)
         obtain ⟨kq, x44_26, rfl, HA, HJ26, BK115, BK119, HB⟩ := hcut
         cases kq with
         | zero => exact absurd HA.out (by simp [spec_l5Decl.j1])
         | succ kj26 =>
          have H := HA.out
          clear HA
          simp only [spec_l5Decl.j1] at H
          by_cases c32 : x44_26 = true
          ·subst c32
           have H1 : (if 0 ≤ (wrap64 ((t121.size : Int) - 10)) then (if (wrap64 ((t121.size : Int) - 10)) ≤ (t121.size : Int) then ((spec_l5Trim.f kj26 (t121.extract 0 ((wrap64 ((t121.size : Int) - 10)) : Int).toNat)).bind fun t122 => ((spec_l1In.f (t122.size : Int) 1 60).bind fun t123 => (some (t118, t122, true, t123)))) else (none)) else (none)) = some (r1, r2, r3, r4) := by rw [if_pos rfl] at H; exact H
           clear H
           have H := H1
           clear H1
           obtain ⟨ji33, hji33⟩ : ∃ j_ : Int, (wrap64 ((t121.size : Int) - 10)) = j_ := ⟨_, rfl⟩
           replace H : (if 0 ≤ (ji33) then (if (ji33) ≤ (t121.size : Int) then ((spec_l5Trim.f kj26 (t121.extract 0 ((ji33) : Int).toNat)).bind fun t122 => ((spec_l1In.f (t122.size : Int) 1 60).bind fun t123 => (some (t118, t122, true, t123)))) else (none)) else (none)) = some (r1, r2, r3, r4) := by first | (rw [hji33] at H; exact H) | (simp only [hji33] at H ⊢; exact H)
           have hji33w : (IntKind.i64.wrap ((t121.size : Int) - 10)) = ji33 := (i64_w _).trans hji33
           by_cases c34 : 0 ≤ (ji33)
           ·rw [if_pos c34] at H
            have c34b0 := eq_true c34
            have c34b1 : decide (0 ≤ (ji33)) = true := decide_eq_true c34
            clear c34
            by_cases c35 : (ji33) ≤ (t121.size : Int)
            ·rw [if_pos c35] at H
             have c35b0 := eq_true c35
             have c35b1 : decide ((ji33) ≤ (t121.size : Int)) = true := decide_eq_true c35
             clear c35
             replace H := Option.bind_eq_some_iff.mp H
             obtain ⟨t122, A360, H⟩ := H
             replace H : ((spec_l1In.f (t122.size : Int) 1 60).bind fun t123 => (some (t118, t122, true, t123))) = some (r1, r2, r3, r4) := H
             have A36 := Aside0.mk A360
             clear A360
             replace H := Option.bind_eq_some_iff.mp H
             obtain ⟨t123, A370, H⟩ := H
             replace H : (some (t118, t122, true, t123)) = some (r1, r2, r3, r4) := H
             have A37 := Aside0.mk A370
             clear A370
             simp only [Option.some.injEq, Prod.mk.injEq] at H
             obtain ⟨rfl, rfl, rfl, rfl⟩ := H
             have hnb38 := NB119_115.out
             have hnc38 := NB115_119.out
             have hcz39_0 := bc3_0 BK119.out
             have hcz39_1 := bc3_1 BK119.out
             have hcz39_2 := bc3_2 BK119.out
             have hfz39_0 := blk_frozen BK119.out 0
             have hfz39_1 := blk_frozen BK119.out 1
             have hfz39_2 := blk_frozen BK119.out 2
             try go_wp2_with (first | ((with_reducible refine gate_callee (f := 61) rfl ?_); refine goesL_ (some 51) rfl rfl Tryd.func61 (by kernel_rfl) rfl #[.string (t121.extract 0 ((ji33) : Int).toNat)] rfl (by (try simp only [List.map_toArray, List.map_cons, List.map_nil]); first | done | (simp only [hji33]; rfl) | rfl | (simp only [List.length_drop, List.length_take]; rfl)) ?_; (with_reducible refine (spec_l5Trim.calls kj26 (t121.extract 0 ((ji33) : Int).toNat) t122 _ A36.out).mono ?_); rintro e w' ⟨rfl, ⟨nd, rfl⟩⟩; refine ⟨_, rfl, ?_⟩))
             have n0_ : Aside0 (((wc.setCell ⟨gb119, 2, none⟩ (.bool true)).setCell ⟨gb119, 1, none⟩ (.string t122)).heap[gb115]? = some (.cells #[.string (⟨#[]⟩ : ByteArray), .string (⟨#[]⟩ : ByteArray), .bool false] 123 (0, 0))) := ⟨by (with_reducible repeat (first | refine blk_drewN ?_ _ | refine blk_drew ?_ | refine blk_alloc ?_ _)); refine blk_far ?_ NB115_119.out _; (with_reducible repeat (first | refine blk_drewN ?_ _ | refine blk_drew ?_ | refine blk_alloc ?_ _)); refine blk_far ?_ NB115_119.out _; (with_reducible repeat (first | refine blk_drewN ?_ _ | refine blk_drew ?_ | refine blk_alloc ?_ _)); exact BK115.out⟩
             have n1_ : Aside0 (((wc.setCell ⟨gb119, 2, none⟩ (.bool true)).setCell ⟨gb119, 1, none⟩ (.string t122)).heap[gb119]? = some (.cells #[.string t118, .string t122, .bool true] 123 (0, 0))) := ⟨by (with_reducible repeat (first | refine blk_drewN ?_ _ | refine blk_drew ?_ | refine blk_alloc ?_ _)); refine blk_put (cs := #[.string t118, .string (⟨#[]⟩ : ByteArray), .bool true]) ?_ 1 _ rfl; (with_reducible repeat (first | refine blk_drewN ?_ _ | refine blk_drew ?_ | refine blk_alloc ?_ _)); refine blk_put (cs := #[.string t118, .string (⟨#[]⟩ : ByteArray), .bool false]) ?_ 2 _ rfl; (with_reducible repeat (first | refine blk_drewN ?_ _ | refine blk_drew ?_ | refine blk_alloc ?_ _)); exact BK119.out⟩
             have n2_ : Aside0 (Below w.heap.size w ((wc.setCell ⟨gb119, 2, none⟩ (.bool true)).setCell ⟨gb119, 1, none⟩ (.string t122))) := ⟨bes_⟩
             (try clear BK115)
             (try clear BK119)
             (try clear HB)
             (try rw [show ∀ (w_ : World) (n_ : Nat) (a_ : Addr) (v_ : Value), (w_.drewN n_).setCell a_ v_ = (w_.setCell a_ v_).drewN n_ from fun _ _ _ _ => rfl])
             generalize ((wc.setCell ⟨gb119, 2, none⟩ (.bool true)).setCell ⟨gb119, 1, none⟩ (.string t122)) = w40 at n0_ n1_ n2_ ⊢
             have BK115 := n0_
             have BK119 := n1_
             have HB := n2_
             clear n0_ n1_ n2_
             (try (rw [drewN_self w40]; generalize hq_ : World.drewN w40 _ = w40; have n0_ : Aside0 (w40.heap[gb115]? = some (.cells #[.string (⟨#[]⟩ : ByteArray), .string (⟨#[]⟩ : ByteArray), .bool false] 123 (0, 0))) := ⟨by rw [← hq_]; exact (bk_ BK115.out)⟩; have n1_ : Aside0 (w40.heap[gb119]? = some (.cells #[.string t118, .string t122, .bool true] 123 (0, 0))) := ⟨by rw [← hq_]; exact (bk_ BK119.out)⟩; have n2_ : Aside0 (Below w.heap.size w w40) := ⟨by rw [← hq_]; exact bes_⟩; clear BK115 BK119 HB hq_; have BK115 := n0_; have BK119 := n1_; have HB := n2_; clear n0_ n1_ n2_))
             have n0_ := Aside0.mk (blk_drew BK115.out)
             have n1_ := Aside0.mk (blk_drew BK119.out)
             have n2_ := Aside0.mk (below_drew1 HB.out)
             clear BK115
             clear BK119
             clear HB
             have BK115 := n0_
             have BK119 := n1_
             have HB := n2_
             clear n0_ n1_ n2_
             refine start_ (n := 6) (S := fun w' => w'.cell? ⟨gb119, 0, none⟩ = some (.string t118) ∧ w'.cell? ⟨gb119, 1, none⟩ = some (.string t122) ∧ w'.cell? ⟨gb119, 2, none⟩ = some (.bool true)) (ds := []) #[false, false, false, false, false, false] (by kernel_rfl) rfl rfl ⟨(blk_cell BK119.out 0).trans rfl, (blk_cell BK119.out 1).trans rfl, (blk_cell BK119.out 2).trans rfl⟩ (fun hHeld => ?_)
             generalize w40.drew = w41 at BK115 BK119 HB hHeld ⊢
             refine pure_ (i := 1) (N := some 55) (v := ?_) (a' := ?_) #[false, true, false, false, false, false] rfl rfl (by kernel_rfl) (fun _ _ _ h => h) (Or.inl ⟨by rfl, ?_⟩) ?_ ?_
             rotate_left
             ·intro w'
              go_simp
              with_reducible rfl
             rotate_left
             ·simp only [Act.put, List.setIfInBounds_toArray, List.set_cons_zero, List.set_cons_succ, i64_w, i32_w]
              rfl
             refine pure_ (i := 2) (N := some 56) (v := ?_) (a' := ?_) #[false, true, true, false, false, false] rfl rfl (by kernel_rfl) (fun _ _ _ h => h) (Or.inl ⟨by rfl, ?_⟩) ?_ ?_
             rotate_left
             ·intro w'
              go_simp
              with_reducible rfl
             rotate_left
             ·simp only [Act.put, List.setIfInBounds_toArray, List.set_cons_zero, List.set_cons_succ, i64_w, i32_w]
              rfl
             refine take_ (i := 0) (N := some 54) (v := ?_) (a' := ?_) #[true, true, true, false, false, false] rfl rfl (by kernel_rfl) (fun _ _ _ h => h) (Or.inl ⟨by rfl, ?_⟩) hHeld ?_ ?_
             rotate_left
             ·rintro w' ⟨s0, s1, s2⟩
              go_simp
              with_reducible rfl
             rotate_left
             ·simp only [Act.put, List.setIfInBounds_toArray, List.set_cons_zero, List.set_cons_succ, i64_w, i32_w]
              rfl
             refine one_ (i := 3) (N := some 57) #[true, true, true, true, false, false] rfl rfl (by kernel_rfl) (by decide) (fun K hK => ?_)
             refine goes_ Tryd.func65 (by kernel_rfl) rfl #[.int .i64 (t122.size : Int), .int .i64 1, .int .i64 60] (by rfl) rfl rfl au_ ?_
             with_reducible refine (spec_l1In.calls (t122.size : Int) 1 60 t123 _ A37.out).mono ?_
             rintro e w' ⟨rfl, ⟨nd, rfl⟩⟩
             refine ⟨_, rfl, ?_⟩
             refine hK.out _ _ ⟨(blk_cell BK119.out 0).trans rfl, (blk_cell BK119.out 1).trans rfl, (blk_cell BK119.out 2).trans rfl⟩ (fun hHeld => ?_)
             clear hK K
             refine norm_ (a' := ?_) ?_ ?_
             rotate_left
             ·show Act.put _ (some 57) _ = _
              simp only [Act.put, List.setIfInBounds_toArray, List.set_cons_zero, List.set_cons_succ, i64_w, i32_w]
              rfl
             refine one_ (i := 4) (N := none) #[true, true, true, true, true, false] rfl rfl (by kernel_rfl) (by decide) (fun K hK => ?_)
             have hs42 : w41.cell? ⟨gb115, 0, none⟩ = some (.string (⟨#[]⟩ : ByteArray)) := (blk_cell BK115.out 0).trans rfl
             have hfs42 := blk_frozen BK115.out 0
             have hns42_1 := NB119_115.out
             have hms42_1 := NB115_119.out
             have hs43 : w41.cell? ⟨gb115, 1, none⟩ = some (.string (⟨#[]⟩ : ByteArray)) := (blk_cell BK115.out 1).trans rfl
             have hfs43 := blk_frozen BK115.out 1
             have hns43_1 := NB119_115.out
             have hms43_1 := NB115_119.out
             have hs44 : w41.cell? ⟨gb115, 2, none⟩ = some (.bool false) := (blk_cell BK115.out 2).trans rfl
             have hfs44 := blk_frozen BK115.out 2
             have hns44_1 := NB119_115.out
             have hms44_1 := NB115_119.out
             refine skip_ (w1 := ?_) (by rfl) rfl ?_ ?_
             rotate_left
             ·go_simp
              rfl
             refine hK.out _ _ ⟨((cell_far (p := ⟨gb115, _, none⟩) NB119_115.out _).trans (((cell_far (p := ⟨gb115, _, none⟩) NB119_115.out _).trans (((cell_far (p := ⟨gb115, _, none⟩) NB119_115.out _).trans (hHeld.1)))))), ((cell_far (p := ⟨gb115, _, none⟩) NB119_115.out _).trans (((cell_far (p := ⟨gb115, _, none⟩) NB119_115.out _).trans (((cell_far (p := ⟨gb115, _, none⟩) NB119_115.out _).trans (hHeld.2.1)))))), ((cell_far (p := ⟨gb115, _, none⟩) NB119_115.out _).trans (((cell_far (p := ⟨gb115, _, none⟩) NB119_115.out _).trans (((cell_far (p := ⟨gb115, _, none⟩) NB119_115.out _).trans (hHeld.2.2))))))⟩ (fun hHeld => ?_)
             clear hK K
             refine pure_ (i := 5) (N := some 3) (v := ?_) (a' := ?_) #[true, true, true, true, true, true] rfl rfl (by kernel_rfl) (fun _ _ _ h => h) (Or.inl ⟨by rfl, ?_⟩) ?_ ?_
             rotate_left
             ·intro w'
              go_simp
              with_reducible rfl
             rotate_left
             ·simp only [Act.put, List.setIfInBounds_toArray, List.set_cons_zero, List.set_cons_succ, i64_w, i32_w]
              rfl
             refine done_ (by kernel_rfl) ?_
             try go_wp2
             refine bodyPost_ret (results_ct rfl _ _ gb115 123 #[.string t118, .string t122, .bool true] (0, 0) _ rfl (by (with_reducible repeat (first | refine blk_drewN ?_ _ | refine blk_drew ?_ | refine blk_alloc ?_ _)); refine blk_put (cs := #[.string t118, .string t122, .bool false]) ?_ 2 _ rfl; (with_reducible repeat (first | refine blk_drewN ?_ _ | refine blk_drew ?_ | refine blk_alloc ?_ _)); refine blk_put (cs := #[.string t118, .string (⟨#[]⟩ : ByteArray), .bool false]) ?_ 1 _ rfl; (with_reducible repeat (first | refine blk_drewN ?_ _ | refine blk_drew ?_ | refine blk_alloc ?_ _)); refine blk_put (cs := #[.string (⟨#[]⟩ : ByteArray), .string (⟨#[]⟩ : ByteArray), .bool false]) ?_ 0 _ rfl; (with_reducible repeat (first | refine blk_drewN ?_ _ | refine blk_drew ?_ | refine blk_alloc ?_ _)); exact BK115.out) Tryd.underlying123 rfl (by kernel_rfl)) rfl ?_
             exact ⟨by first | rfl | (simp [errW_none, errW_some] <;> rfl) | (simp only [← hji33]; first | rfl | (simp [errW_none, errW_some] <;> rfl)) | (simp [*, errW_none, errW_some] <;> rfl), bes_⟩
            ·rw [if_neg c35] at H
             exact absurd H (by simp)
           ·rw [if_neg c34] at H
            exact absurd H (by simp)
          ·replace c32 := Bool.eq_false_iff.mpr c32
           subst c32
           have H1 : ((spec_l1In.f (t121.size : Int) 1 60).bind fun t124 => (some (t118, t121, false, t124))) = some (r1, r2, r3, r4) := by rw [if_neg (show ¬ (false = true) by decide)] at H; exact H
           clear H
           have H := H1
           clear H1
           replace H := Option.bind_eq_some_iff.mp H
           obtain ⟨t124, A450, H⟩ := H
           replace H : (some (t118, t121, false, t124)) = some (r1, r2, r3, r4) := H
           have A45 := Aside0.mk A450
           clear A450
           simp only [Option.some.injEq, Prod.mk.injEq] at H
           obtain ⟨rfl, rfl, rfl, rfl⟩ := H
           have hnb46 := NB119_115.out
           have hnc46 := NB115_119.out
           have hcz47_0 := bc3_0 BK119.out
           have hcz47_1 := bc3_1 BK119.out
           have hcz47_2 := bc3_2 BK119.out
           have hfz47_0 := blk_frozen BK119.out 0
           have hfz47_1 := blk_frozen BK119.out 1
           have hfz47_2 := blk_frozen BK119.out 2
           try go_wp2
           have n0_ : Aside0 ((wc.setCell ⟨gb119, 1, none⟩ (.string t121)).heap[gb115]? = some (.cells #[.string (⟨#[]⟩ : ByteArray), .string (⟨#[]⟩ : ByteArray), .bool false] 123 (0, 0))) := ⟨by (with_reducible repeat (first | refine blk_drewN ?_ _ | refine blk_drew ?_ | refine blk_alloc ?_ _)); refine blk_far ?_ NB115_119.out _; (with_reducible repeat (first | refine blk_drewN ?_ _ | refine blk_drew ?_ | refine blk_alloc ?_ _)); exact BK115.out⟩
           have n1_ : Aside0 ((wc.setCell ⟨gb119, 1, none⟩ (.string t121)).heap[gb119]? = some (.cells #[.string t118, .string t121, .bool false] 123 (0, 0))) := ⟨by (with_reducible repeat (first | refine blk_drewN ?_ _ | refine blk_drew ?_ | refine blk_alloc ?_ _)); refine blk_put (cs := #[.string t118, .string (⟨#[]⟩ : ByteArray), .bool false]) ?_ 1 _ rfl; (with_reducible repeat (first | refine blk_drewN ?_ _ | refine blk_drew ?_ | refine blk_alloc ?_ _)); exact BK119.out⟩
           have n2_ : Aside0 (Below w.heap.size w (wc.setCell ⟨gb119, 1, none⟩ (.string t121))) := ⟨bes_⟩
           (try clear BK115)
           (try clear BK119)
           (try clear HB)
           (try rw [show ∀ (w_ : World) (n_ : Nat) (a_ : Addr) (v_ : Value), (w_.drewN n_).setCell a_ v_ = (w_.setCell a_ v_).drewN n_ from fun _ _ _ _ => rfl])
           generalize (wc.setCell ⟨gb119, 1, none⟩ (.string t121)) = w48 at n0_ n1_ n2_ ⊢
           have BK115 := n0_
           have BK119 := n1_
           have HB := n2_
           clear n0_ n1_ n2_
           have n0_ := Aside0.mk (blk_drew BK115.out)
           have n1_ := Aside0.mk (blk_drew BK119.out)
           have n2_ := Aside0.mk (below_drew1 HB.out)
           clear BK115
           clear BK119
           clear HB
           have BK115 := n0_
           have BK119 := n1_
           have HB := n2_
           clear n0_ n1_ n2_
           refine start_ (n := 6) (S := fun w' => w'.cell? ⟨gb119, 0, none⟩ = some (.string t118) ∧ w'.cell? ⟨gb119, 1, none⟩ = some (.string t121) ∧ w'.cell? ⟨gb119, 2, none⟩ = some (.bool false)) (ds := []) #[false, false, false, false, false, false] (by kernel_rfl) rfl rfl ⟨(blk_cell BK119.out 0).trans rfl, (blk_cell BK119.out 1).trans rfl, (blk_cell BK119.out 2).trans rfl⟩ (fun hHeld => ?_)
           generalize w48.drew = w49 at BK115 BK119 HB hHeld ⊢
           refine pure_ (i := 1) (N := some 55) (v := ?_) (a' := ?_) #[false, true, false, false, false, false] rfl rfl (by kernel_rfl) (fun _ _ _ h => h) (Or.inl ⟨by rfl, ?_⟩) ?_ ?_
           rotate_left
           ·intro w'
            go_simp
            with_reducible rfl
           rotate_left
           ·simp only [Act.put, List.setIfInBounds_toArray, List.set_cons_zero, List.set_cons_succ, i64_w, i32_w]
            rfl
           refine pure_ (i := 2) (N := some 56) (v := ?_) (a' := ?_) #[false, true, true, false, false, false] rfl rfl (by kernel_rfl) (fun _ _ _ h => h) (Or.inl ⟨by rfl, ?_⟩) ?_ ?_
           rotate_left
           ·intro w'
            go_simp
            with_reducible rfl
           rotate_left
           ·simp only [Act.put, List.setIfInBounds_toArray, List.set_cons_zero, List.set_cons_succ, i64_w, i32_w]
            rfl
           refine take_ (i := 0) (N := some 54) (v := ?_) (a' := ?_) #[true, true, true, false, false, false] rfl rfl (by kernel_rfl) (fun _ _ _ h => h) (Or.inl ⟨by rfl, ?_⟩) hHeld ?_ ?_
           rotate_left
           ·rintro w' ⟨s0, s1, s2⟩
            go_simp
            with_reducible rfl
           rotate_left
           ·simp only [Act.put, List.setIfInBounds_toArray, List.set_cons_zero, List.set_cons_succ, i64_w, i32_w]
            rfl
           refine one_ (i := 3) (N := some 57) #[true, true, true, true, false, false] rfl rfl (by kernel_rfl) (by decide) (fun K hK => ?_)
           refine goes_ Tryd.func65 (by kernel_rfl) rfl #[.int .i64 (t121.size : Int), .int .i64 1, .int .i64 60] (by rfl) rfl rfl au_ ?_
           with_reducible refine (spec_l1In.calls (t121.size : Int) 1 60 t124 _ A45.out).mono ?_
           rintro e w' ⟨rfl, ⟨nd, rfl⟩⟩
           refine ⟨_, rfl, ?_⟩
           refine hK.out _ _ ⟨(blk_cell BK119.out 0).trans rfl, (blk_cell BK119.out 1).trans rfl, (blk_cell BK119.out 2).trans rfl⟩ (fun hHeld => ?_)
           clear hK K
           refine norm_ (a' := ?_) ?_ ?_
           rotate_left
           ·show Act.put _ (some 57) _ = _
            simp only [Act.put, List.setIfInBounds_toArray, List.set_cons_zero, List.set_cons_succ, i64_w, i32_w]
            rfl
           refine one_ (i := 4) (N := none) #[true, true, true, true, true, false] rfl rfl (by kernel_rfl) (by decide) (fun K hK => ?_)
           have hs50 : w49.cell? ⟨gb115, 0, none⟩ = some (.string (⟨#[]⟩ : ByteArray)) := (blk_cell BK115.out 0).trans rfl
           have hfs50 := blk_frozen BK115.out 0
           have hns50_1 := NB119_115.out
           have hms50_1 := NB115_119.out
           have hs51 : w49.cell? ⟨gb115, 1, none⟩ = some (.string (⟨#[]⟩ : ByteArray)) := (blk_cell BK115.out 1).trans rfl
           have hfs51 := blk_frozen BK115.out 1
           have hns51_1 := NB119_115.out
           have hms51_1 := NB115_119.out
           have hs52 : w49.cell? ⟨gb115, 2, none⟩ = some (.bool false) := (blk_cell BK115.out 2).trans rfl
           have hfs52 := blk_frozen BK115.out 2
           have hns52_1 := NB119_115.out
           have hms52_1 := NB115_119.out
           refine skip_ (w1 := ?_) (by rfl) rfl ?_ ?_
           rotate_left
           ·go_simp
            rfl
           refine hK.out _ _ ⟨((cell_far (p := ⟨gb115, _, none⟩) NB119_115.out _).trans (((cell_far (p := ⟨gb115, _, none⟩) NB119_115.out _).trans (((cell_far (p := ⟨gb115, _, none⟩) NB119_115.out _).trans (hHeld.1)))))), ((cell_far (p := ⟨gb115, _, none⟩) NB119_115.out _).trans (((cell_far (p := ⟨gb115, _, none⟩) NB119_115.out _).trans (((cell_far (p := ⟨gb115, _, none⟩) NB119_115.out _).trans (hHeld.2.1)))))), ((cell_far (p := ⟨gb115, _, none⟩) NB119_115.out _).trans (((cell_far (p := ⟨gb115, _, none⟩) NB119_115.out _).trans (((cell_far (p := ⟨gb115, _, none⟩) NB119_115.out _).trans (hHeld.2.2))))))⟩ (fun hHeld => ?_)
           clear hK K
           refine pure_ (i := 5) (N := some 3) (v := ?_) (a' := ?_) #[true, true, true, true, true, true] rfl rfl (by kernel_rfl) (fun _ _ _ h => h) (Or.inl ⟨by rfl, ?_⟩) ?_ ?_
           rotate_left
           ·intro w'
            go_simp
            with_reducible rfl
           rotate_left
           ·simp only [Act.put, List.setIfInBounds_toArray, List.set_cons_zero, List.set_cons_succ, i64_w, i32_w]
            rfl
           refine done_ (by kernel_rfl) ?_
           try go_wp2
           refine bodyPost_ret (results_ct rfl _ _ gb115 123 #[.string t118, .string t121, .bool false] (0, 0) _ rfl (by (with_reducible repeat (first | refine blk_drewN ?_ _ | refine blk_drew ?_ | refine blk_alloc ?_ _)); refine blk_put (cs := #[.string t118, .string t121, .bool false]) ?_ 2 _ rfl; (with_reducible repeat (first | refine blk_drewN ?_ _ | refine blk_drew ?_ | refine blk_alloc ?_ _)); refine blk_put (cs := #[.string t118, .string (⟨#[]⟩ : ByteArray), .bool false]) ?_ 1 _ rfl; (with_reducible repeat (first | refine blk_drewN ?_ _ | refine blk_drew ?_ | refine blk_alloc ?_ _)); refine blk_put (cs := #[.string (⟨#[]⟩ : ByteArray), .string (⟨#[]⟩ : ByteArray), .bool false]) ?_ 0 _ rfl; (with_reducible repeat (first | refine blk_drewN ?_ _ | refine blk_drew ?_ | refine blk_alloc ?_ _)); exact BK115.out) Tryd.underlying123 rfl (by kernel_rfl)) rfl ?_
           exact ⟨er_, bes_⟩
       ·rw [if_neg c25] at H
        exact absurd H (by simp)
   ·rw [if_neg c8] at H
    exact absurd H (by simp)
  ·rw [if_neg c7] at H
   exact absurd H (by simp)

/-! ### spec_l5Decls: function 102 -/
def spec_l5Decls.l0 : Nat → List (S123) → List ByteArray → Int → Int → Option ((List (S123)))
 | 0, _, _, _, _ => none
 | k + 1, x3, x9, x10, x11 => if x11 < x10 then (if 0 ≤ x11 then (if x11 < (x9.length : Int) then ((spec_l5Decl.f k (rdOf ByteArray.empty x9 x11)).bind fun bt129 => (if bt129.2.2.2 = true then (if (x3.length : Int) < 12 then (if x3.length < 3518437208883 then (spec_l5Decls.l0 k (x3 ++ [(⟨bt129.1, bt129.2.1, bt129.2.2.1⟩ : S123)]) x9 x10 (wrap64 (x11 + 1))) else (none)) else (spec_l5Decls.l0 k x3 x9 x10 (wrap64 (x11 + 1)))) else (spec_l5Decls.l0 k x3 x9 x10 (wrap64 (x11 + 1))))) else (none)) else (none)) else (some x3)
def spec_l5Decls.f (k : Nat) (a0 : ByteArray) : Option ((List (S123))) := (spec_l1Split.f k a0 59).bind fun t125 => (spec_l5Decls.l0 k ([] : List (S123)) t125 (t125.length : Int) 0)
set_option maxHeartbeats 8000000 in
set_option maxRecDepth 100000 in
theorem spec_l5Decls.calls (k : Nat) (a0 : ByteArray) (r : List (S123)) (w : World) (h : spec_l5Decls.f k a0 = some r) :
  Calls Tryd.prog 102 #[.string a0] w fun e w' => ∃ v0_ : Value, e = .returned (v0_) ∧ Kd.R k123 123 w' w.heap.size (fun _ => True) v0_ r ∧ Below w.heap.size w w' := by
 have hu123 := Tryd.underlying123
 have HB := Aside0.mk (Below.refl w.heap.size w)
 have H : ((spec_l1Split.f k a0 59).bind fun t125 => (spec_l5Decls.l0 k ([] : List (S123)) t125 (t125.length : Int) 0)) = some r := h
 clear h
 replace H := Option.bind_eq_some_iff.mp H
 obtain ⟨t125, A20, H⟩ := H
 replace H : (spec_l5Decls.l0 k ([] : List (S123)) t125 (t125.length : Int) 0) = some r := H
 have A2 := Aside0.mk A20
 clear A20
 have H' := Aside0.mk H
 clear H
 go_enter Tryd.func102, Tryd.ntmps102
 go_wp2_with (first | ((with_reducible refine gate_callee (f := 64) rfl ?_); refine goesL_ (some 9) rfl rfl Tryd.func64 (by kernel_rfl) rfl #[.string a0, .int .u8 59] rfl au_ ?_; (with_reducible refine (spec_l1Split.calls k a0 59 t125 _ A2.out).mono ?_); rintro e w3 ⟨v126, rfl, ho0, hb⟩; refine ⟨_, rfl, ?_⟩; have n0_ := Aside0.mk (Kd.R_lower ho0 (below_size bel_)); have n1_ := Aside0.mk (below_step bel_ hb); clear HB; have HO127 := n0_; have HB := n1_; clear n0_ n1_; (try clear hb);(try clear hb2);(try clear hk);(try clear hi);(try clear ho0); obtain ⟨Ao4, co4, eo4⟩ := Kd.R_slice HO127.out; subst eo4))
 go_loopg [3, 11] k (fun kq v3 v11 w' => ∃ (x3_1 : List (S123)) (x11_1 : Int), v11 = .int .i64 x11_1 ∧ Aside0 (spec_l5Decls.l0 kq x3_1 t125 (t125.length : Int) x11_1 = some r) ∧ Aside0 (kq ≤ k) ∧ Aside0 (Kd.R k123 123 w' w.heap.size (fun _ => True) v3 x3_1) ∧ Aside0 (Kd.R Kd.string 9 w' w.heap.size (fun _ => True) (.slice Ao4 t125.length co4) t125) ∧ Aside0 (Below w.heap.size w w'))
 case atStart => exact ⟨(([] : List (S123))), (0), sv_, H', ⟨Nat.le_refl _⟩, ⟨by first | exact Kd.R_nil _ _ _ _ _ | exact Kd.N_nil _ _ _ _ _ | exact Kd.V_nil _ _ _ _ _ | exact Kd.Q_nil _ _ _ _ _ | exact Kd.S_nil _ _ _ _ _⟩, ⟨by (with_reducible repeat (first | apply Kd.R_alloc | apply Kd.R_drewN | apply Kd.R_drew)); exact HO127.out⟩, ⟨bel_⟩⟩
 case round =>
  clear H'
  (try clear c1);(try clear p2)
  obtain ⟨x3_1, x11_1, rfl, HA, HK1, HO_3, HO_9, HB⟩ := hrel
  cases gk with
  | zero => exact absurd HA.out (by simp [spec_l5Decls.l0])
  | succ k1 =>
   have H := HA.out
   clear HA
   simp only [spec_l5Decls.l0] at H
   by_cases c5 : x11_1 < (t125.length : Int)
   ·rw [if_pos c5] at H
    have c5b0 : decide (x11_1 < (t125.length : Int)) = true := decide_eq_true c5
    clear c5
    by_cases c6 : 0 ≤ x11_1
    ·rw [if_pos c6] at H
     have c6b0 : decide (0 ≤ x11_1) = true := decide_eq_true c6
     clear c6
     by_cases c7 : x11_1 < (t125.length : Int)
     ·rw [if_pos c7] at H
      have c7b0 : decide (x11_1 < (t125.length : Int)) = true := decide_eq_true c7
      clear c7
      replace H := Option.bind_eq_some_iff.mp H
      obtain ⟨⟨t129, t130, t131, t132⟩, A80, H⟩ := H
      replace H : (if t132 = true then (if (x3_1.length : Int) < 12 then (if x3_1.length < 3518437208883 then (spec_l5Decls.l0 k1 (x3_1 ++ [(⟨t129, t130, t131⟩ : S123)]) t125 (t125.length : Int) (wrap64 (x11_1 + 1))) else (none)) else (spec_l5Decls.l0 k1 x3_1 t125 (t125.length : Int) (wrap64 (x11_1 + 1)))) else (spec_l5Decls.l0 k1 x3_1 t125 (t125.length : Int) (wrap64 (x11_1 + 1)))) = some r := H
      have A8 := Aside0.mk A80
      clear A80
      by_cases c9 : t132 = true
      ·subst c9
       have H1 : (if (x3_1.length : Int) < 12 then (if x3_1.length < 3518437208883 then (spec_l5Decls.l0 k1 (x3_1 ++ [(⟨t129, t130, t131⟩ : S123)]) t125 (t125.length : Int) (wrap64 (x11_1 + 1))) else (none)) else (spec_l5Decls.l0 k1 x3_1 t125 (t125.length : Int) (wrap64 (x11_1 + 1)))) = some r := by rw [if_pos rfl] at H; exact H
       clear H
       have H := H1
       clear H1
       by_cases c10 : (x3_1.length : Int) < 12
       ·rw [if_pos c10] at H
        have c10b0 : decide ((x3_1.length : Int) < 12) = true := decide_eq_true c10
        have c10b1 : decide (x3_1.length < 12) = true := decide_eq_true (by omega)
        clear c10
        by_cases c11 : x3_1.length < 3518437208883
        ·rw [if_pos c11] at H
         have LMc11 := Aside0.mk c11
         clear c11
         obtain ⟨y134, hy134⟩ : ∃ y_ : List (S123), y_ = (x3_1 ++ [(⟨t129, t130, t131⟩ : S123)]) := ⟨_, rfl⟩
         replace H : (spec_l5Decls.l0 k1 y134 t125 (t125.length : Int) (wrap64 (x11_1 + 1))) = some r := by first | (rw [hy134]; with_reducible exact H) | (have H2_ := (Option.bind_some _ _).symm.trans H; rw [hy134]; with_reducible exact H2_) | (have H2_ := (Option.bind_some _ _).symm.trans H; with_reducible exact H2_) | with_reducible exact H | (rw [hy134]; exact H) | exact H
         have Ny134 := Aside0.mk hy134
         clear hy134
         have H' := Aside0.mk H
         clear H
         have p128 : 0 ≤ (x11_1 : Int) := of_decide_eq_true am_
         have q128 : x11_1 < (t125.length : Int) := of_decide_eq_true am_
         obtain ⟨ad128, e128, hx128_0⟩ := Kd.at_string (Kd.R_reads' HO_9.out).2.2 x11_1 p128 q128
         cases e128
         replace p128 := eq_true p128
         replace q128 := eq_true q128
         go_wp2_with (first | ((with_reducible refine gate_callee (f := 149) rfl ?_); refine goesL_ (some 17) rfl rfl Tryd.func149 (by kernel_rfl) rfl #[.string (rdOf ByteArray.empty t125 x11_1)] rfl au_ ?_; (with_reducible refine (spec_l5Decl.calls k1 (rdOf ByteArray.empty t125 x11_1) t129 t130 t131 true _ A8.out).mono ?_); rintro e w12 ⟨rfl, hb⟩; refine ⟨_, rfl, ?_⟩; have n0_ := Aside0.mk (Kd.R_below (kdR_ HO_3.out) hb); have n1_ := Aside0.mk (Kd.R_below (kdR_ HO_9.out) hb); have n2_ := Aside0.mk (below_step bel_ hb); clear HO_3; clear HO_9; clear HB; have HO_3 := n0_; have HO_9 := n1_; have HB := n2_; clear n0_ n1_ n2_; (try clear hb);(try clear hb2);(try clear hk);(try clear hi)) | ((with_reducible refine gate_dst (N := 6) rfl ?_); (try (refine gate_guard (by rfl) ?_; dsimp only)); refine box_event ?hg (N := 6) ?hd (cs := #[.string (⟨#[]⟩ : ByteArray), .string (⟨#[]⟩ : ByteArray), .bool false]) (t := 123) ?hr ?_; (case hd => rfl); (case hg => rfl); (case hr => first | (go_simp; done) | (go_simp; rfl)); intro gb133 hg w13 hbox hb; have n0_ := Aside0.mk (Kd.R_below (Kd.R_elderB (kdR_ HO_3.out) gb133 (Nat.le_of_eq hg.symm)) hb); have n1_ := Aside0.mk (Kd.R_below (kdR_ HO_9.out) hb); have n2_ := Aside0.mk (below_step bel_ hb); have n3_ := Aside0.mk (hbox); have n4_ := Aside0.mk ((by rw [hg]; exact (below_size bel_) : w.heap.size ≤ gb133)); have n5_ := Aside0.mk ((by rw [hg]; exact (below_size bel_) : w.heap.size ≤ gb133)); clear HO_3; clear HO_9; clear HB; have HO_3 := n0_; have HO_9 := n1_; have HB := n2_; have BK133 := n3_; have GW133 := n4_; have GE133 := n5_; clear n0_ n1_ n2_ n3_ n4_ n5_; clear hb hbox hg; have hcz14_0 := bc3_0 BK133.out; have hcz14_1 := bc3_1 BK133.out; have hcz14_2 := bc3_2 BK133.out; have hfz14_0 := blk_frozen BK133.out 0; have hfz14_1 := blk_frozen BK133.out 1; have hfz14_2 := blk_frozen BK133.out 2; obtain ⟨Ao15, co15, eo15⟩ := Kd.R_slice HO_3.out; subst eo15) | ((with_reducible refine gate_builtin (b := .append) (xs := #[.tmp 26, .tmp 28]) rfl ?_); (try (refine gate_guard (by rfl) ?_; dsimp only)); at_builtin; refine Kd.R_append k123 (w0 := w) w.heap.size rfl (.tmp 26) (.tmp 28) 87 123 (.agg #[(.string ⟨#[]⟩), (.string ⟨#[]⟩), (.bool false)]) 40 rfl Tryd.underlying87 info123 rfl (by decide) (by omega) (.slice Ao15 x3_1.length co15) x3_1 (⟨t129, t130, t131⟩ : S123) [.string t129, .string t130, .bool t131] (fun k_ => k_ ≠ gb133) (fun _ => False) rfl (by first | (go_simp; done) | (go_simp; rfl)) ?aP (fun _ hk => hk.elim) ?aF ?aO ?aB ?aS ?aL ?_; (case aP => exact k123_mkM _ _ _ (⟨t129, t130, t131⟩ : S123)); (case aB => exact bes_); (case aF => exact (fun k_ hk => Kd.freshB (g := gb133) (o := .cells #[.string t129, .string t130, .bool t131] 123 (0, 0)) (by (with_reducible repeat (first | refine blk_drewN ?_ _ | refine blk_drew ?_ | refine blk_alloc ?_ _)); refine blk_put (cs := #[.string t129, .string t130, .bool false]) ?_ 2 _ rfl; (with_reducible repeat (first | refine blk_drewN ?_ _ | refine blk_drew ?_ | refine blk_alloc ?_ _)); refine blk_put (cs := #[.string t129, .string (⟨#[]⟩ : ByteArray), .bool false]) ?_ 1 _ rfl; (with_reducible repeat (first | refine blk_drewN ?_ _ | refine blk_drew ?_ | refine blk_alloc ?_ _)); refine blk_put (cs := #[.string (⟨#[]⟩ : ByteArray), .string (⟨#[]⟩ : ByteArray), .bool false]) ?_ 0 _ rfl; (with_reducible repeat (first | refine blk_drewN ?_ _ | refine blk_drew ?_ | refine blk_alloc ?_ _)); exact BK133.out) k_ hk)); (case aO => exact (by (with_reducible repeat (first | apply Kd.R_alloc | apply Kd.R_drewN | apply Kd.R_drew)); exact Kd.R_mono (Kd.R_far (p := ⟨gb133, 2, none⟩) (Kd.R_far (p := ⟨gb133, 1, none⟩) (Kd.R_far (p := ⟨gb133, 0, none⟩) (Kd.R_mono HO_3.out (fun k_ hk => (⟨hk, hk.2⟩ : _ ∧ k_ ≠ gb133))) (fun _ hk => hk.2) (.string t129)) (fun _ hk => hk.2) (.string t130)) (fun _ hk => hk.2) (.bool t131)) (fun _ hk => hk.1.2))); (case aS => exact (below_size bes_)); (case aL => have := LMc11.out; omega); intro v135 w16 ho hb hg hat; rw [← Ny134.out] at ho; have n0_ := Aside0.mk (Kd.R_over' (by (with_reducible repeat (first | apply Kd.R_alloc | apply Kd.R_drewN | apply Kd.R_drew)); exact (Kd.R_mono (Kd.R_far (p := ⟨gb133, 2, none⟩) (Kd.R_far (p := ⟨gb133, 1, none⟩) (Kd.R_far (p := ⟨gb133, 0, none⟩) (Kd.R_types HO_9.out BK133.out (by decide)) (fun _ hk => hk.2) (.string t129)) (fun _ hk => hk.2) (.string t130)) (fun _ hk => hk.2) (.bool t131)) (fun _ h_ => h_.1))) (Kd.R_typed (by (with_reducible repeat (first | apply Kd.R_alloc | apply Kd.R_drewN | apply Kd.R_drew)); exact (Kd.R_mono (Kd.R_far (p := ⟨gb133, 2, none⟩) (Kd.R_far (p := ⟨gb133, 1, none⟩) (Kd.R_far (p := ⟨gb133, 0, none⟩) (Kd.R_mono HO_3.out (fun k_ hk => (⟨hk, hk.2⟩ : _ ∧ k_ ≠ gb133))) (fun _ hk => hk.2) (.string t129)) (fun _ hk => hk.2) (.string t130)) (fun _ hk => hk.2) (.bool t131)) (fun _ h_ => h_.1)))) (by decide) hg); have n1_ := Aside0.mk (blk_grown (g := gb133) (o := .cells #[.string t129, .string t130, .bool t131] 123 (0, 0)) (by (with_reducible repeat (first | refine blk_drewN ?_ _ | refine blk_drew ?_ | refine blk_alloc ?_ _)); refine blk_put (cs := #[.string t129, .string t130, .bool false]) ?_ 2 _ rfl; (with_reducible repeat (first | refine blk_drewN ?_ _ | refine blk_drew ?_ | refine blk_alloc ?_ _)); refine blk_put (cs := #[.string t129, .string (⟨#[]⟩ : ByteArray), .bool false]) ?_ 1 _ rfl; (with_reducible repeat (first | refine blk_drewN ?_ _ | refine blk_drew ?_ | refine blk_alloc ?_ _)); refine blk_put (cs := #[.string (⟨#[]⟩ : ByteArray), .string (⟨#[]⟩ : ByteArray), .bool false]) ?_ 0 _ rfl; (with_reducible repeat (first | refine blk_drewN ?_ _ | refine blk_drew ?_ | refine blk_alloc ?_ _)); exact BK133.out) hg (Kd.R_away HO_3.out (fun _ hk => hk.2))); have n2_ := Aside0.mk (hb); have n3_ := Aside0.mk (ho); clear HO_9; clear BK133; clear HB; clear HO_3; have HO_9 := n0_; have BK133 := n1_; have HB := n2_; have HO136 := n3_; clear n0_ n1_ n2_ n3_; clear ho hb hg hat))
         go_roundg k1
         case measure => have := HK1.out; omega
         case rel => exact ⟨(y134), (wrap64 (x11_1 + 1)), sv_, H', ⟨by have := HK1.out; omega⟩, ⟨by (with_reducible repeat (first | apply Kd.R_alloc | apply Kd.R_drewN | apply Kd.R_drew)); exact Kd.R_mono HO136.out (fun _ hk => trivial)⟩, ⟨by (with_reducible repeat (first | apply Kd.R_alloc | apply Kd.R_drewN | apply Kd.R_drew)); exact HO_9.out⟩, ⟨bes_⟩⟩
        ·rw [if_neg c11] at H
         exact absurd H (by simp)
       ·rw [if_neg c10] at H
        have c10b0 : decide ((x3_1.length : Int) < 12) = false := decide_eq_false c10
        have c10b1 : decide (x3_1.length < 12) = false := decide_eq_false (by omega)
        clear c10
        have H' := Aside0.mk H
        clear H
        have p128 : 0 ≤ (x11_1 : Int) := of_decide_eq_true am_
        have q128 : x11_1 < (t125.length : Int) := of_decide_eq_true am_
        obtain ⟨ad128, e128, hx128_0⟩ := Kd.at_string (Kd.R_reads' HO_9.out).2.2 x11_1 p128 q128
        cases e128
        replace p128 := eq_true p128
        replace q128 := eq_true q128
        go_wp2_with (first | ((with_reducible refine gate_callee (f := 149) rfl ?_); refine goesL_ (some 17) rfl rfl Tryd.func149 (by kernel_rfl) rfl #[.string (rdOf ByteArray.empty t125 x11_1)] rfl au_ ?_; (with_reducible refine (spec_l5Decl.calls k1 (rdOf ByteArray.empty t125 x11_1) t129 t130 t131 true _ A8.out).mono ?_); rintro e w17 ⟨rfl, hb⟩; refine ⟨_, rfl, ?_⟩; have n0_ := Aside0.mk (Kd.R_below (kdR_ HO_3.out) hb); have n1_ := Aside0.mk (Kd.R_below (kdR_ HO_9.out) hb); have n2_ := Aside0.mk (below_step bel_ hb); clear HO_3; clear HO_9; clear HB; have HO_3 := n0_; have HO_9 := n1_; have HB := n2_; clear n0_ n1_ n2_; (try clear hb);(try clear hb2);(try clear hk);(try clear hi)) | ((with_reducible refine gate_dst (N := 6) rfl ?_); (try (refine gate_guard (by rfl) ?_; dsimp only)); refine box_event ?hg (N := 6) ?hd (cs := #[.string (⟨#[]⟩ : ByteArray), .string (⟨#[]⟩ : ByteArray), .bool false]) (t := 123) ?hr ?_; (case hd => rfl); (case hg => rfl); (case hr => first | (go_simp; done) | (go_simp; rfl)); intro gb133 hg w18 hbox hb; have n0_ := Aside0.mk (Kd.R_below (Kd.R_elderB (kdR_ HO_3.out) gb133 (Nat.le_of_eq hg.symm)) hb); have n1_ := Aside0.mk (Kd.R_below (kdR_ HO_9.out) hb); have n2_ := Aside0.mk (below_step bel_ hb); have n3_ := Aside0.mk (hbox); have n4_ := Aside0.mk ((by rw [hg]; exact (below_size bel_) : w.heap.size ≤ gb133)); have n5_ := Aside0.mk ((by rw [hg]; exact (below_size bel_) : w.heap.size ≤ gb133)); clear HO_3; clear HO_9; clear HB; have HO_3 := n0_; have HO_9 := n1_; have HB := n2_; have BK133 := n3_; have GW133 := n4_; have GE133 := n5_; clear n0_ n1_ n2_ n3_ n4_ n5_; clear hb hbox hg; have hcz19_0 := bc3_0 BK133.out; have hcz19_1 := bc3_1 BK133.out; have hcz19_2 := bc3_2 BK133.out; have hfz19_0 := blk_frozen BK133.out 0; have hfz19_1 := blk_frozen BK133.out 1; have hfz19_2 := blk_frozen BK133.out 2; obtain ⟨Ao20, co20, eo20⟩ := Kd.R_slice HO_3.out; subst eo20))
        go_roundg k1
        case measure => have := HK1.out; omega
        case rel => exact ⟨(x3_1), (wrap64 (x11_1 + 1)), sv_, H', ⟨by have := HK1.out; omega⟩, ⟨by (with_reducible repeat (first | apply Kd.R_alloc | apply Kd.R_drewN | apply Kd.R_drew)); exact Kd.R_mono (Kd.R_far (p := ⟨gb133, 2, none⟩) (Kd.R_far (p := ⟨gb133, 1, none⟩) (Kd.R_far (p := ⟨gb133, 0, none⟩) (Kd.R_mono HO_3.out (fun k_ hk => (⟨hk, hk.2⟩ : _ ∧ k_ ≠ gb133))) (fun _ hk => hk.2) (.string t129)) (fun _ hk => hk.2) (.string t130)) (fun _ hk => hk.2) (.bool t131)) (fun _ hk => trivial)⟩, ⟨by (with_reducible repeat (first | apply Kd.R_alloc | apply Kd.R_drewN | apply Kd.R_drew)); exact Kd.R_mono (Kd.R_far (p := ⟨gb133, 2, none⟩) (Kd.R_far (p := ⟨gb133, 1, none⟩) (Kd.R_far (p := ⟨gb133, 0, none⟩) (Kd.R_types HO_9.out BK133.out (by decide)) (fun _ hk => hk.2) (.string t129)) (fun _ hk => hk.2) (.string t130)) (fun _ hk => hk.2) (.bool t131)) (fun _ hk => trivial)⟩, ⟨bes_⟩⟩
      ·replace c9 := Bool.eq_false_iff.mpr c9
       subst c9
       have H1 : (spec_l5Decls.l0 k1 x3_1 t125 (t125.length : Int) (wrap64 (x11_1 + 1))) = some r := by rw [if_neg (show ¬ (false = true) by decide)] at H; exact H
       clear H
       have H := H1
       clear H1
       have H' := Aside0.mk H
       clear H
       have p128 : 0 ≤ (x11_1 : Int) := of_decide_eq_true am_
       have q128 : x11_1 < (t125.length : Int) := of_decide_eq_true am_
       obtain ⟨ad128, e128, hx128_0⟩ := Kd.at_string (Kd.R_reads' HO_9.out).2.2 x11_1 p128 q128
       cases e128
       replace p128 := eq_true p128
       replace q128 := eq_true q128
       go_wp2_with (first | ((with_reducible refine gate_callee (f := 149) rfl ?_); refine goesL_ (some 17) rfl rfl Tryd.func149 (by kernel_rfl) rfl #[.string (rdOf ByteArray.empty t125 x11_1)] rfl au_ ?_; (with_reducible refine (spec_l5Decl.calls k1 (rdOf ByteArray.empty t125 x11_1) t129 t130 t131 false _ A8.out).mono ?_); rintro e w21 ⟨rfl, hb⟩; refine ⟨_, rfl, ?_⟩; have n0_ := Aside0.mk (Kd.R_below (kdR_ HO_3.out) hb); have n1_ := Aside0.mk (Kd.R_below (kdR_ HO_9.out) hb); have n2_ := Aside0.mk (below_step bel_ hb); clear HO_3; clear HO_9; clear HB; have HO_3 := n0_; have HO_9 := n1_; have HB := n2_; clear n0_ n1_ n2_; (try clear hb);(try clear hb2);(try clear hk);(try clear hi)) | ((with_reducible refine gate_dst (N := 6) rfl ?_); (try (refine gate_guard (by rfl) ?_; dsimp only)); refine box_event ?hg (N := 6) ?hd (cs := #[.string (⟨#[]⟩ : ByteArray), .string (⟨#[]⟩ : ByteArray), .bool false]) (t := 123) ?hr ?_; (case hd => rfl); (case hg => rfl); (case hr => first | (go_simp; done) | (go_simp; rfl)); intro gb133 hg w22 hbox hb; have n0_ := Aside0.mk (Kd.R_below (Kd.R_elderB (kdR_ HO_3.out) gb133 (Nat.le_of_eq hg.symm)) hb); have n1_ := Aside0.mk (Kd.R_below (kdR_ HO_9.out) hb); have n2_ := Aside0.mk (below_step bel_ hb); have n3_ := Aside0.mk (hbox); have n4_ := Aside0.mk ((by rw [hg]; exact (below_size bel_) : w.heap.size ≤ gb133)); have n5_ := Aside0.mk ((by rw [hg]; exact (below_size bel_) : w.heap.size ≤ gb133)); clear HO_3; clear HO_9; clear HB; have HO_3 := n0_; have HO_9 := n1_; have HB := n2_; have BK133 := n3_; have GW133 := n4_; have GE133 := n5_; clear n0_ n1_ n2_ n3_ n4_ n5_; clear hb hbox hg; have hcz23_0 := bc3_0 BK133.out; have hcz23_1 := bc3_1 BK133.out; have hcz23_2 := bc3_2 BK133.out; have hfz23_0 := blk_frozen BK133.out 0; have hfz23_1 := blk_frozen BK133.out 1; have hfz23_2 := blk_frozen BK133.out 2))
       go_roundg k1
       case measure => have := HK1.out; omega
       case rel => exact ⟨(x3_1), (wrap64 (x11_1 + 1)), sv_, H', ⟨by have := HK1.out; omega⟩, ⟨by (with_reducible repeat (first | apply Kd.R_alloc | apply Kd.R_drewN | apply Kd.R_drew)); exact Kd.R_mono (Kd.R_far (p := ⟨gb133, 2, none⟩) (Kd.R_far (p := ⟨gb133, 1, none⟩) (Kd.R_far (p := ⟨gb133, 0, none⟩) (Kd.R_mono HO_3.out (fun k_ hk => (⟨hk, hk.2⟩ : _ ∧ k_ ≠ gb133))) (fun _ hk => hk.2) (.string t129)) (fun _ hk => hk.2) (.string t130)) (fun _ hk => hk.2) (.bool t131)) (fun _ hk => trivial)⟩, ⟨by (with_reducible repeat (first | apply Kd.R_alloc | apply Kd.R_drewN | apply Kd.R_drew)); exact Kd.R_mono (Kd.R_far (p := ⟨gb133, 2, none⟩) (Kd.R_far (p := ⟨gb133, 1, none⟩) (Kd.R_far (p := ⟨gb133, 0, none⟩) (Kd.R_types HO_9.out BK133.out (by decide)) (fun _ hk => hk.2) (.string t129)) (fun _ hk => hk.2) (.string t130)) (fun _ hk => hk.2) (.bool t131)) (fun _ hk => trivial)⟩, ⟨bes_⟩⟩
     ·rw [if_neg c7] at H
      exact absurd H (by simp)
    ·rw [if_neg c6] at H
     exact absurd H (by simp)
   ·rw [if_neg c5] at H
    have c5b0 : decide (x11_1 < (t125.length : Int)) = false := decide_eq_false c5
    clear c5
    obtain rfl := Option.some.inj H
    go_wp2
    go_ret
    exact ⟨_, er_, by (with_reducible repeat (first | apply Kd.R_alloc | apply Kd.R_drewN | apply Kd.R_drew)); exact HO_3.out, bel_⟩

end Go.Proofs.YtooilehdljeepaaDoor.PFnExactReadSheet
