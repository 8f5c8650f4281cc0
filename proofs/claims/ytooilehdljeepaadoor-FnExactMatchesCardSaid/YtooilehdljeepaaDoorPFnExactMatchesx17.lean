-- Laid by a program of this session out of the translation (its own run of the print). Lean checks it.
import Derived.Test.YtooilehdljeepaaDoorPFnExactMatchesx0
import Derived.Test.YtooilehdljeepaaDoorPFnExactMatchesx16
namespace Go.Proofs.YtooilehdljeepaaDoor.PFnExactMatches
open Go.RowKit Go.Proofs.YtooilehdljeepaaDoorW.PrintWords Go.Proofs.YtooilehdljeepaaDoorW.PrintLast Go.Proofs.YtooilehdljeepaaDoorW.PrintMore
attribute [local go_sem] max2_int min2_int max_two min_two max_three min_three max_four min_four   -- for this text's walks alone
set_option linter.unusedVariables false
set_option linter.unusedSimpArgs false

/-! ### impl_fits: function 46 -/
mutual
def impl_fits.j0 : Nat → Bool → ByteArray → Int → List (S144) → ByteArray → ByteArray → ByteArray → List ByteArray → Option (Bool)
 | 0, _, _, _, _, _, _, _, _ => none
 | k + 1, x26, x313000, x313001, x313002, x313003, x314000, x314001, x314002 => if x26 = true then (some false) else ((impl_AttrOf.f k x313000 x313001 x313002 x313003 (⟨#[105, 100]⟩ : ByteArray)).bind fun bt314 => (if x314001.toList = ([] : List UInt8) then (impl_fits.j1 k false x313000 x313001 x313002 x313003 x314000 x314001 x314002) else (if bt314.2 = true then (impl_fits.j1 k (bt314.1.toList != x314001.toList) x313000 x313001 x313002 x313003 x314000 x314001 x314002) else (impl_fits.j1 k true x313000 x313001 x313002 x313003 x314000 x314001 x314002))))
def impl_fits.j1 : Nat → Bool → ByteArray → Int → List (S144) → ByteArray → ByteArray → ByteArray → List ByteArray → Option (Bool)
 | 0, _, _, _, _, _, _, _, _ => none
 | k + 1, x44, x313000, x313001, x313002, x313003, x314000, x314001, x314002 => if x44 = true then (some false) else ((impl_AttrOf.f k x313000 x313001 x313002 x313003 (⟨#[99, 108, 97, 115, 115]⟩ : ByteArray)).bind fun bt316 => ((impl_fields.f bt316.1).bind fun t318 => (impl_fits.l0 k t318 x314002 (x314002.length : Int) 0)))
def impl_fits.l0 : Nat → List ByteArray → List ByteArray → Int → Int → Option (Bool)
 | 0, _, _, _, _ => none
 | k + 1, x9, x53, x54, x55 => if x55 < x54 then (if 0 ≤ x55 then (if x55 < (x53.length : Int) then ((slices_Contains_string_string.f k x9 (rdOf ByteArray.empty x53 x55)).bind fun t322 => (if t322 = true then (impl_fits.l0 k x9 x53 x54 (wrap64 (x55 + 1))) else (some false))) else (none)) else (none)) else (some true)
end
def impl_fits.f (k : Nat) (a0_0 : ByteArray) (a0_1 : Int) (l0_2 : List (S144)) (a0_3 : ByteArray) (a1_0 : ByteArray) (a1_1 : ByteArray) (l1_2 : List ByteArray) : Option (Bool) := if a1_0.toList = ([] : List UInt8) then (impl_fits.j0 k false a0_0 a0_1 l0_2 a0_3 a1_0 a1_1 l1_2) else (if a1_0.toList = ([42] : List UInt8) then (impl_fits.j0 k false a0_0 a0_1 l0_2 a0_3 a1_0 a1_1 l1_2) else (impl_fits.j0 k (a1_0.toList != a0_0.toList) a0_0 a0_1 l0_2 a0_3 a1_0 a1_1 l1_2))
set_option maxHeartbeats 8000000 in
set_option maxRecDepth 100000 in
theorem impl_fits.calls (k : Nat) (a0_0 : ByteArray) (a0_1 : Int) (A0_2 : Option Addr) (c0_2 : Nat) (l0_2 : List (S144)) (a0_3 : ByteArray) (a1_0 : ByteArray) (a1_1 : ByteArray) (A1_2 : Option Addr) (c1_2 : Nat) (l1_2 : List ByteArray) (r : Bool) (w : World) (hr0_2 : Kd.C k144 w A0_2 l0_2.length l0_2) (hc0_2 : l0_2.length ≤ c0_2) (hr1_2 : Kd.C Kd.string w A1_2 l1_2.length l1_2) (hc1_2 : l1_2.length ≤ c1_2) (h : impl_fits.f k a0_0 a0_1 l0_2 a0_3 a1_0 a1_1 l1_2 = some r) :
  Calls Tryd.prog 46 #[.agg #[.string a0_0, .int .i64 a0_1, .slice A0_2 l0_2.length c0_2, .string a0_3], .agg #[.string a1_0, .string a1_1, .slice A1_2 l1_2.length c1_2]] w fun e w' => e = .returned (.bool r) ∧ Below w.heap.size w w' := by
 have hu69 := Tryd.underlying69
 have hu71 := Tryd.underlying71
 have HR0_2 := Aside0.mk hr0_2
 have HC0_2 := Aside0.mk hc0_2
 clear hr0_2 hc0_2
 have HR1_2 := Aside0.mk hr1_2
 have HC1_2 := Aside0.mk hc1_2
 clear hr1_2 hc1_2
 have HB := Aside0.mk (Below.refl w.heap.size w)
 have H : (if a1_0.toList = ([] : List UInt8) then (impl_fits.j0 k false a0_0 a0_1 l0_2 a0_3 a1_0 a1_1 l1_2) else (if a1_0.toList = ([42] : List UInt8) then (impl_fits.j0 k false a0_0 a0_1 l0_2 a0_3 a1_0 a1_1 l1_2) else (impl_fits.j0 k (a1_0.toList != a0_0.toList) a0_0 a0_1 l0_2 a0_3 a1_0 a1_1 l1_2))) = some r := h
 clear h
 have HC3 := Aside0.mk H
 clear H
 go_enter Tryd.func46, Tryd.ntmps46
 go_upto_region 1 with (first | ((with_reducible refine gate_dst (N := 2) rfl ?_); refine box_event ?hg (N := 2) ?hd (cs := #[.string a0_0, .int .i64 a0_1, .slice A0_2 l0_2.length c0_2, .string a0_3]) (t := 69) ?hr ?_; (case hd => rfl); (case hg => rfl); (case hr => first | (go_simp; done) | (go_simp; rfl)); intro gb312 hg w4 hbox hb; have n0_ := Aside0.mk (below_step bel_ hb); have n1_ := Aside0.mk (hbox); have n2_ := Aside0.mk ((by rw [hg]; exact (below_size bel_) : w.heap.size ≤ gb312)); have n3_ := Aside0.mk ((by rw [hg]; exact (below_size bel_) : w.heap.size ≤ gb312)); clear HB; have HB := n0_; have BK312 := n1_; have GW312 := n2_; have GE312 := n3_; clear n0_ n1_ n2_ n3_; clear hb hbox hg) | ((with_reducible refine gate_dst (N := 3) rfl ?_); refine box_event ?hg (N := 3) ?hd (cs := #[.string a1_0, .string a1_1, .slice A1_2 l1_2.length c1_2]) (t := 71) ?hr ?_; (case hd => rfl); (case hg => rfl); (case hr => first | (go_simp; done) | (go_simp; rfl)); intro gb313 hg w5 hbox hb; have n0_ := Aside0.mk (blk_below (g := gb312) (o := .cells #[.string a0_0, .int .i64 a0_1, .slice A0_2 l0_2.length c0_2, .string a0_3] 69 (0, 0)) (bk_ BK312.out) hb); have n1_ := Aside0.mk (below_step bes_ hb); have n2_ := Aside0.mk (hbox); have n3_ := Aside0.mk ((by rw [hg]; exact (below_size bes_) : w.heap.size ≤ gb313)); have n4_ := Aside0.mk ((by rw [hg]; exact (below_size bes_) : w.heap.size ≤ gb313)); have n5_ := Aside0.mk ((by rw [hg]; exact Nat.ne_of_lt (blk_lt (g := gb312) (o := .cells #[.string a0_0, .int .i64 a0_1, .slice A0_2 l0_2.length c0_2, .string a0_3] 69 (0, 0)) (bk_ BK312.out)) : gb312 ≠ gb313)); have n6_ := Aside0.mk ((by rw [hg]; exact Nat.ne_of_gt (blk_lt (g := gb312) (o := .cells #[.string a0_0, .int .i64 a0_1, .slice A0_2 l0_2.length c0_2, .string a0_3] 69 (0, 0)) (bk_ BK312.out)) : gb313 ≠ gb312)); clear BK312; clear HB; have BK312 := n0_; have HB := n1_; have BK313 := n2_; have GW313 := n3_; have GE313 := n4_; have NB312_313 := n5_; have NB313_312 := n6_; clear n0_ n1_ n2_ n3_ n4_ n5_ n6_; clear hb hbox hg))
 (try simp only [Act.put, List.setIfInBounds_toArray, List.set_cons_zero, List.set_cons_succ])
 go_cut [26] (fun v26 wc => ∃ (kq : Nat) (x26_2 : Bool), v26 = .bool x26_2 ∧ Aside0 (impl_fits.j0 kq x26_2 a0_0 a0_1 l0_2 a0_3 a1_0 a1_1 l1_2 = some r) ∧ Aside0 (kq ≤ k) ∧ Aside0 (wc.heap[gb312]? = some (.cells #[.string a0_0, .int .i64 a0_1, (.slice A0_2 l0_2.length c0_2), .string a0_3] 69 (0, 0))) ∧ Aside0 (wc.heap[gb313]? = some (.cells #[.string a1_0, .string a1_1, (.slice A1_2 l1_2.length c1_2)] 71 (0, 0))) ∧ Aside0 (Below w.heap.size w wc))
 case first =>
  have H := HC3.out
  clear HC3
  by_cases c6 : a1_0.toList = ([] : List UInt8)
  ·rw [if_pos c6] at H
   have c6b0 : (a1_0.toList == ([] : List UInt8)) = true := beq_iff_eq.mpr c6
   have c6b7 : a1_0.toList.isEmpty = true := by rw [beq_iff_eq.mp c6b0]; rfl
   have c6b8 : ¬ (a1_0.toList.isEmpty = false) := fun h_ => by have h9_ := beq_iff_eq.mp c6b0; rw [h9_] at h_; cases h_
   have c6b1 : (a1_0.toList != ([] : List UInt8)) = false := bne_eq_false_iff_eq.mpr c6
   clear c6
   (first | rw [c6b0] | simp only [c6b7, Bool.not_true, Bool.not_false] | (simp only [i64_w, i32_w]; rw [c6b0]) | skip)
   have H' := Aside0.mk H
   clear H
   have hnb7 := NB313_312.out
   have hnc7 := NB312_313.out
   have hcz8_0 := bc3_0 BK313.out
   have hcz8_1 := bc3_1 BK313.out
   have hcz8_2 := bc3_2 BK313.out
   have hfz8_0 := blk_frozen BK313.out 0
   have hfz8_1 := blk_frozen BK313.out 1
   have hfz8_2 := blk_frozen BK313.out 2
   go_wp2
   go_meet
   case rel => exact ⟨_, (false), sv_, H', ⟨by first | omega | exact Nat.le_refl _⟩, ⟨by (with_reducible repeat (first | refine blk_drewN ?_ _ | refine blk_drew ?_ | refine blk_alloc ?_ _)); exact BK312.out⟩, ⟨by (with_reducible repeat (first | refine blk_drewN ?_ _ | refine blk_drew ?_ | refine blk_alloc ?_ _)); exact BK313.out⟩, ⟨bes_⟩⟩
  ·rw [if_neg c6] at H
   have c6b0 : (a1_0.toList == ([] : List UInt8)) = false := beq_eq_false_iff_ne.mpr c6
   have c6b7 : a1_0.toList.isEmpty = false := Bool.eq_false_iff.mpr (fun h_ => absurd (List.isEmpty_iff.mp h_) (beq_eq_false_iff_ne.mp c6b0))
   have c6b8 : ¬ (a1_0.toList.isEmpty = true) := fun h_ => absurd (List.isEmpty_iff.mp h_) (beq_eq_false_iff_ne.mp c6b0)
   have c6b1 : (a1_0.toList != ([] : List UInt8)) = true := bne_iff_ne.mpr c6
   (first | rw [c6b0] | simp only [c6b7, Bool.not_true, Bool.not_false] | (simp only [i64_w, i32_w]; rw [c6b0]) | skip)
   by_cases c9 : a1_0.toList = ([42] : List UInt8)
   ·rw [if_pos c9] at H
    have c9b0 : (a1_0.toList == ([42] : List UInt8)) = true := beq_iff_eq.mpr c9
    have c9b1 : (a1_0.toList != ([42] : List UInt8)) = false := bne_eq_false_iff_eq.mpr c9
    clear c9
    have H' := Aside0.mk H
    clear H
    have hnb10 := NB313_312.out
    have hnc10 := NB312_313.out
    have hcz11_0 := bc3_0 BK313.out
    have hcz11_1 := bc3_1 BK313.out
    have hcz11_2 := bc3_2 BK313.out
    have hfz11_0 := blk_frozen BK313.out 0
    have hfz11_1 := blk_frozen BK313.out 1
    have hfz11_2 := blk_frozen BK313.out 2
    go_wp2
    go_meet
    case rel => exact ⟨_, (false), sv_, H', ⟨by first | omega | exact Nat.le_refl _⟩, ⟨by (with_reducible repeat (first | refine blk_drewN ?_ _ | refine blk_drew ?_ | refine blk_alloc ?_ _)); exact BK312.out⟩, ⟨by (with_reducible repeat (first | refine blk_drewN ?_ _ | refine blk_drew ?_ | refine blk_alloc ?_ _)); exact BK313.out⟩, ⟨bes_⟩⟩
   ·rw [if_neg c9] at H
    have c9b0 : (a1_0.toList == ([42] : List UInt8)) = false := beq_eq_false_iff_ne.mpr c9
    have c9b1 : (a1_0.toList != ([42] : List UInt8)) = true := bne_iff_ne.mpr c9
    have H' := Aside0.mk H
    clear H
    have hnb12 := NB313_312.out
    have hnc12 := NB312_313.out
    have hcz13_0 := bc3_0 BK313.out
    have hcz13_1 := bc3_1 BK313.out
    have hcz13_2 := bc3_2 BK313.out
    have hfz13_0 := blk_frozen BK313.out 0
    have hfz13_1 := blk_frozen BK313.out 1
    have hfz13_2 := blk_frozen BK313.out 2
    have hcz14_0 := bc4_0 BK312.out
    have hcz14_1 := bc4_1 BK312.out
    have hcz14_2 := bc4_2 BK312.out
    have hcz14_3 := bc4_3 BK312.out
    have hfz14_0 := blk_frozen BK312.out 0
    have hfz14_1 := blk_frozen BK312.out 1
    have hfz14_2 := blk_frozen BK312.out 2
    have hfz14_3 := blk_frozen BK312.out 3
    go_wp2
    go_meet
    case rel => exact ⟨_, ((a1_0.toList != a0_0.toList)), sv_, H', ⟨by first | omega | exact Nat.le_refl _⟩, ⟨by (with_reducible repeat (first | refine blk_drewN ?_ _ | refine blk_drew ?_ | refine blk_alloc ?_ _)); exact BK312.out⟩, ⟨by (with_reducible repeat (first | refine blk_drewN ?_ _ | refine blk_drew ?_ | refine blk_alloc ?_ _)); exact BK313.out⟩, ⟨bes_⟩⟩
 case rest =>
  clear HC3
  (try clear c1);(try clear p2);(try clear c4);(try clear c6);(try clear c6b0 c6b1);(try clear c7);(try clear c9);(try clear c9b0 c9b1);(try clear c10);(try clear c12);(try clear hcz11_0 hcz11_1 hcz11_2);(try clear hcz13_0 hcz13_1 hcz13_2);(try clear hcz14_0 hcz14_1 hcz14_2 hcz14_3);(try clear hcz8_0 hcz8_1 hcz8_2);(try clear hfz11_0 hfz11_1 hfz11_2);(try clear hfz13_0 hfz13_1 hfz13_2);(try clear hfz14_0 hfz14_1 hfz14_2 hfz14_3);(try clear hfz8_0 hfz8_1 hfz8_2)
  obtain ⟨kq, x26_2, rfl, HA, HJ2, BK312, BK313, HB⟩ := hcut
  cases kq with
  | zero => exact absurd HA.out (by simp [impl_fits.j0])
  | succ kj2 =>
   have H := HA.out
   clear HA
   simp only [impl_fits.j0] at H
   by_cases c15 : x26_2 = true
   ·subst c15
    have H1 : (some false) = some r := by rw [if_pos rfl] at H; exact H
    clear H
    have H := H1
    clear H1
    obtain rfl := Option.some.inj H
    go_wp2
    go_ret
    exact ⟨er_, bes_⟩
   ·replace c15 := Bool.eq_false_iff.mpr c15
    subst c15
    have H1 : ((impl_AttrOf.f kj2 a0_0 a0_1 l0_2 a0_3 (⟨#[105, 100]⟩ : ByteArray)).bind fun bt314 => (if a1_1.toList = ([] : List UInt8) then (impl_fits.j1 kj2 false a0_0 a0_1 l0_2 a0_3 a1_0 a1_1 l1_2) else (if bt314.2 = true then (impl_fits.j1 kj2 (bt314.1.toList != a1_1.toList) a0_0 a0_1 l0_2 a0_3 a1_0 a1_1 l1_2) else (impl_fits.j1 kj2 true a0_0 a0_1 l0_2 a0_3 a1_0 a1_1 l1_2)))) = some r := by rw [if_neg (show ¬ (false = true) by decide)] at H; exact H
    clear H
    have H := H1
    clear H1
    replace H := Option.bind_eq_some_iff.mp H
    obtain ⟨⟨t314, t315⟩, A160, H⟩ := H
    replace H : (if a1_1.toList = ([] : List UInt8) then (impl_fits.j1 kj2 false a0_0 a0_1 l0_2 a0_3 a1_0 a1_1 l1_2) else (if t315 = true then (impl_fits.j1 kj2 (t314.toList != a1_1.toList) a0_0 a0_1 l0_2 a0_3 a1_0 a1_1 l1_2) else (impl_fits.j1 kj2 true a0_0 a0_1 l0_2 a0_3 a1_0 a1_1 l1_2))) = some r := H
    have A16 := Aside0.mk A160
    clear A160
    have HC17 := Aside0.mk H
    clear H
    have hnb18 := NB312_313.out
    have hnc18 := NB313_312.out
    have hcz19_0 := bc4_0 BK312.out
    have hcz19_1 := bc4_1 BK312.out
    have hcz19_2 := bc4_2 BK312.out
    have hcz19_3 := bc4_3 BK312.out
    have hfz19_0 := blk_frozen BK312.out 0
    have hfz19_1 := blk_frozen BK312.out 1
    have hfz19_2 := blk_frozen BK312.out 2
    have hfz19_3 := blk_frozen BK312.out 3
    go_upto_region 4 with (first | ((with_reducible refine gate_callee (f := 88) rfl ?_); refine goesL_ (some 29) rfl rfl Tryd.func88 (by kernel_rfl) rfl #[.agg #[.string a0_0, .int .i64 a0_1, .slice A0_2 l0_2.length c0_2, .string a0_3], .string (⟨#[105, 100]⟩ : ByteArray)] rfl au_ ?_; (with_reducible refine (impl_AttrOf.calls kj2 a0_0 a0_1 _ _ l0_2 a0_3 (⟨#[105, 100]⟩ : ByteArray) t314 t315 _ ?side1 ?side2 A16.out).mono ?_); (case side1 => exact cs_ (Kd.C_below HR0_2.out HB.out)); (case side2 => exact HC0_2.out); rintro e w20 ⟨rfl, hb⟩; refine ⟨_, rfl, ?_⟩; have n0_ := Aside0.mk (blk_below (g := gb312) (o := .cells #[.string a0_0, .int .i64 a0_1, .slice A0_2 l0_2.length c0_2, .string a0_3] 69 (0, 0)) (bk_ BK312.out) hb); have n1_ := Aside0.mk (blk_below (g := gb313) (o := .cells #[.string a1_0, .string a1_1, .slice A1_2 l1_2.length c1_2] 71 (0, 0)) (bk_ BK313.out) hb); have n2_ := Aside0.mk (below_step bes_ hb); clear BK312; clear BK313; clear HB; have BK312 := n0_; have BK313 := n1_; have HB := n2_; clear n0_ n1_ n2_; (try clear hb);(try clear hb2);(try clear hk);(try clear hi)))
    (try simp only [Act.put, List.setIfInBounds_toArray, List.set_cons_zero, List.set_cons_succ])
    go_cut [44] (fun v44 wc => ∃ (kq : Nat) (x44_16 : Bool), v44 = .bool x44_16 ∧ Aside0 (impl_fits.j1 kq x44_16 a0_0 a0_1 l0_2 a0_3 a1_0 a1_1 l1_2 = some r) ∧ Aside0 (kq ≤ kj2) ∧ Aside0 (wc.heap[gb312]? = some (.cells #[.string a0_0, .int .i64 a0_1, (.slice A0_2 l0_2.length c0_2), .string a0_3] 69 (0, 0))) ∧ Aside0 (wc.heap[gb313]? = some (.cells #[.string a1_0, .string a1_1, (.slice A1_2 l1_2.length c1_2)] 71 (0, 0))) ∧ Aside0 (Below w.heap.size w wc))
    case first =>
     have H := HC17.out
     clear HC17
     by_cases c21 : a1_1.toList = ([] : List UInt8)
     ·rw [if_pos c21] at H
      have c21b0 : (a1_1.toList == ([] : List UInt8)) = true := beq_iff_eq.mpr c21
      have c21b7 : a1_1.toList.isEmpty = true := by rw [beq_iff_eq.mp c21b0]; rfl
      have c21b8 : ¬ (a1_1.toList.isEmpty = false) := fun h_ => by have h9_ := beq_iff_eq.mp c21b0; rw [h9_] at h_; cases h_
      have c21b1 : (a1_1.toList != ([] : List UInt8)) = false := bne_eq_false_iff_eq.mpr c21
      clear c21
      (first | rw [c21b0] | simp only [c21b7, Bool.not_true, Bool.not_false] | (simp only [i64_w, i32_w]; rw [c21b0]) | skip)
      have H' := Aside0.mk H
      clear H
      have hnb22 := NB313_312.out
      have hnc22 := NB312_313.out
      have hcz23_0 := bc3_0 BK313.out
      have hcz23_1 := bc3_1 BK313.out
      have hcz23_2 := bc3_2 BK313.out
      have hfz23_0 := blk_frozen BK313.out 0
      have hfz23_1 := blk_frozen BK313.out 1
      have hfz23_2 := blk_frozen BK313.out 2
      go_wp2
      go_meet
      case rel => exact ⟨_, (false), sv_, H', ⟨by have := HJ2.out; first | omega | exact Nat.le_refl _⟩, ⟨by (with_reducible repeat (first | refine blk_drewN ?_ _ | refine blk_drew ?_ | refine blk_alloc ?_ _)); exact BK312.out⟩, ⟨by (with_reducible repeat (first | refine blk_drewN ?_ _ | refine blk_drew ?_ | refine blk_alloc ?_ _)); exact BK313.out⟩, ⟨bes_⟩⟩
     ·rw [if_neg c21] at H
      have c21b0 : (a1_1.toList == ([] : List UInt8)) = false := beq_eq_false_iff_ne.mpr c21
      have c21b7 : a1_1.toList.isEmpty = false := Bool.eq_false_iff.mpr (fun h_ => absurd (List.isEmpty_iff.mp h_) (beq_eq_false_iff_ne.mp c21b0))
      have c21b8 : ¬ (a1_1.toList.isEmpty = true) := fun h_ => absurd (List.isEmpty_iff.mp h_) (beq_eq_false_iff_ne.mp c21b0)
      have c21b1 : (a1_1.toList != ([] : List UInt8)) = true := bne_iff_ne.mpr c21
      (first | rw [c21b0] | simp only [c21b7, Bool.not_true, Bool.not_false] | (simp only [i64_w, i32_w]; rw [c21b0]) | skip)
      by_cases c24 : t315 = true
      ·subst c24
       have H1 : (impl_fits.j1 kj2 (t314.toList != a1_1.toList) a0_0 a0_1 l0_2 a0_3 a1_0 a1_1 l1_2) = some r := by rw [if_pos rfl] at H; exact H
       clear H
       have H := H1
       clear H1
       have H' := Aside0.mk H
       clear H
       have hnb25 := NB313_312.out
       have hnc25 := NB312_313.out
       have hcz26_0 := bc3_0 BK313.out
       have hcz26_1 := bc3_1 BK313.out
       have hcz26_2 := bc3_2 BK313.out
       have hfz26_0 := blk_frozen BK313.out 0
       have hfz26_1 := blk_frozen BK313.out 1
       have hfz26_2 := blk_frozen BK313.out 2
       go_wp2
       go_meet
       case rel => exact ⟨_, ((t314.toList != a1_1.toList)), sv_, H', ⟨by have := HJ2.out; first | omega | exact Nat.le_refl _⟩, ⟨by (with_reducible repeat (first | refine blk_drewN ?_ _ | refine blk_drew ?_ | refine blk_alloc ?_ _)); exact BK312.out⟩, ⟨by (with_reducible repeat (first | refine blk_drewN ?_ _ | refine blk_drew ?_ | refine blk_alloc ?_ _)); exact BK313.out⟩, ⟨bes_⟩⟩
      ·replace c24 := Bool.eq_false_iff.mpr c24
       subst c24
       have H1 : (impl_fits.j1 kj2 true a0_0 a0_1 l0_2 a0_3 a1_0 a1_1 l1_2) = some r := by rw [if_neg (show ¬ (false = true) by decide)] at H; exact H
       clear H
       have H := H1
       clear H1
       have H' := Aside0.mk H
       clear H
       have hnb27 := NB313_312.out
       have hnc27 := NB312_313.out
       have hcz28_0 := bc3_0 BK313.out
       have hcz28_1 := bc3_1 BK313.out
       have hcz28_2 := bc3_2 BK313.out
       have hfz28_0 := blk_frozen BK313.out 0
       have hfz28_1 := blk_frozen BK313.out 1
       have hfz28_2 := blk_frozen BK313.out 2
       go_wp2
       go_meet
       case rel => exact ⟨_, (true), sv_, H', ⟨by have := HJ2.out; first | omega | exact Nat.le_refl _⟩, ⟨by (with_reducible repeat (first | refine blk_drewN ?_ _ | refine blk_drew ?_ | refine blk_alloc ?_ _)); exact BK312.out⟩, ⟨by (with_reducible repeat (first | refine blk_drewN ?_ _ | refine blk_drew ?_ | refine blk_alloc ?_ _)); exact BK313.out⟩, ⟨bes_⟩⟩
    case rest =>
     clear HC17
     (try clear c1);(try clear c2);(try clear p2);(try clear c4);(try clear c6);(try clear c6b0 c6b1);(try clear c7);(try clear c8);(try clear c9);(try clear c9b0 c9b1);(try clear c10);(try clear c12);(try clear c15);(try clear c18);(try clear c21);(try clear c21b0 c21b1);(try clear c22);(try clear c24);(try clear c25);(try clear c27);(try clear hcz11_0 hcz11_1 hcz11_2);(try clear hcz13_0 hcz13_1 hcz13_2);(try clear hcz14_0 hcz14_1 hcz14_2 hcz14_3);(try clear hcz19_0 hcz19_1 hcz19_2 hcz19_3);(try clear hcz23_0 hcz23_1 hcz23_2);(try clear hcz26_0 hcz26_1 hcz26_2);(try clear hcz28_0 hcz28_1 hcz28_2);(try clear hcz8_0 hcz8_1 hcz8_2);(try clear hfz11_0)
     (try clear hfz11_1 hfz11_2);(try clear hfz13_0 hfz13_1 hfz13_2);(try clear hfz14_0 hfz14_1 hfz14_2 hfz14_3);(try clear hfz19_0 hfz19_1 hfz19_2 hfz19_3);(try clear hfz23_0 hfz23_1 hfz23_2);(try clear hfz26_0 hfz26_1 hfz26_2);(try clear hfz28_0 hfz28_1 hfz28_2);(try clear hfz8_0 hfz8_1 hfz8_2);(try clear p2)
     obtain ⟨kq, x44_16, rfl, HA, HJ16, BK312, BK313, HB⟩ := hcut
     cases kq with
     | zero => exact absurd HA.out (by simp [impl_fits.j1])
     | succ kj16 =>
      have H := HA.out
      clear HA
      simp only [impl_fits.j1] at H
      by_cases c29 : x44_16 = true
      ·subst c29
       have H1 : (some false) = some r := by rw [if_pos rfl] at H; exact H
       clear H
       have H := H1
       clear H1
       obtain rfl := Option.some.inj H
       go_wp2
       go_ret
       exact ⟨er_, bes_⟩
      ·replace c29 := Bool.eq_false_iff.mpr c29
       subst c29
       have H1 : ((impl_AttrOf.f kj16 a0_0 a0_1 l0_2 a0_3 (⟨#[99, 108, 97, 115, 115]⟩ : ByteArray)).bind fun bt316 => ((impl_fields.f bt316.1).bind fun t318 => (impl_fits.l0 kj16 t318 l1_2 (l1_2.length : Int) 0))) = some r := by rw [if_neg (show ¬ (false = true) by decide)] at H; exact H
       clear H
       have H := H1
       clear H1
       replace H := Option.bind_eq_some_iff.mp H
       obtain ⟨⟨t316, t317⟩, A300, H⟩ := H
       replace H : ((impl_fields.f t316).bind fun t318 => (impl_fits.l0 kj16 t318 l1_2 (l1_2.length : Int) 0)) = some r := H
       have A30 := Aside0.mk A300
       clear A300
       replace H := Option.bind_eq_some_iff.mp H
       obtain ⟨t318, A310, H⟩ := H
       replace H : (impl_fits.l0 kj16 t318 l1_2 (l1_2.length : Int) 0) = some r := H
       have A31 := Aside0.mk A310
       clear A310
       have H' := Aside0.mk H
       clear H
       have hnb32 := NB312_313.out
       have hnc32 := NB313_312.out
       have hcz33_0 := bc4_0 BK312.out
       have hcz33_1 := bc4_1 BK312.out
       have hcz33_2 := bc4_2 BK312.out
       have hcz33_3 := bc4_3 BK312.out
       have hfz33_0 := blk_frozen BK312.out 0
       have hfz33_1 := blk_frozen BK312.out 1
       have hfz33_2 := blk_frozen BK312.out 2
       have hfz33_3 := blk_frozen BK312.out 3
       go_wp2_with (first | ((with_reducible refine gate_callee (f := 88) rfl ?_); refine goesL_ (some 47) rfl rfl Tryd.func88 (by kernel_rfl) rfl #[.agg #[.string a0_0, .int .i64 a0_1, .slice A0_2 l0_2.length c0_2, .string a0_3], .string (⟨#[99, 108, 97, 115, 115]⟩ : ByteArray)] rfl au_ ?_; (with_reducible refine (impl_AttrOf.calls kj16 a0_0 a0_1 _ _ l0_2 a0_3 (⟨#[99, 108, 97, 115, 115]⟩ : ByteArray) t316 t317 _ ?side1 ?side2 A30.out).mono ?_); (case side1 => exact cs_ (Kd.C_below HR0_2.out HB.out)); (case side2 => exact HC0_2.out); rintro e w34 ⟨rfl, hb⟩; refine ⟨_, rfl, ?_⟩; have n0_ := Aside0.mk (blk_below (g := gb312) (o := .cells #[.string a0_0, .int .i64 a0_1, .slice A0_2 l0_2.length c0_2, .string a0_3] 69 (0, 0)) (bk_ BK312.out) hb); have n1_ := Aside0.mk (blk_below (g := gb313) (o := .cells #[.string a1_0, .string a1_1, .slice A1_2 l1_2.length c1_2] 71 (0, 0)) (bk_ BK313.out) hb); have n2_ := Aside0.mk (below_step bes_ hb); clear BK312; clear BK313; clear HB; have BK312 := n0_; have BK313 := n1_; have HB := n2_; clear n0_ n1_ n2_; (try clear hb);(try clear hb2);(try clear hk);(try clear hi)) | ((with_reducible refine gate_callee (f := 89) rfl ?_); refine goesL_ (some 51) rfl rfl Tryd.func89 (by kernel_rfl) rfl #[.string t316] rfl au_ ?_; (with_reducible refine (impl_fields.calls t316 t318 _ A31.out).mono ?_); rintro e w35 ⟨v319, rfl, ho0, hb⟩; refine ⟨_, rfl, ?_⟩; have n0_ := Aside0.mk (Kd.R_lower ho0 (below_size bes_)); have n1_ := Aside0.mk (blk_below (g := gb312) (o := .cells #[.string a0_0, .int .i64 a0_1, .slice A0_2 l0_2.length c0_2, .string a0_3] 69 (0, 0)) (bk_ BK312.out) hb); have n2_ := Aside0.mk (blk_below (g := gb313) (o := .cells #[.string a1_0, .string a1_1, .slice A1_2 l1_2.length c1_2] 71 (0, 0)) (bk_ BK313.out) hb); have n3_ := Aside0.mk (below_step bes_ hb); clear BK312; clear BK313; clear HB; have HO320 := n0_; have BK312 := n1_; have BK313 := n2_; have HB := n3_; clear n0_ n1_ n2_ n3_; (try clear hb);(try clear hb2);(try clear hk);(try clear hi);(try clear ho0); have hcz36_0 := bc3_0 BK313.out; have hcz36_1 := bc3_1 BK313.out; have hcz36_2 := bc3_2 BK313.out; have hfz36_0 := blk_frozen BK313.out 0; have hfz36_1 := blk_frozen BK313.out 1; have hfz36_2 := blk_frozen BK313.out 2))
       go_loopg [55] kj16 (fun kq v55 w' => ∃ (x55_3 : Int), v55 = .int .i64 x55_3 ∧ Aside0 (impl_fits.l0 kq t318 l1_2 (l1_2.length : Int) x55_3 = some r) ∧ Aside0 (kq ≤ kj16) ∧ Aside0 (Kd.R Kd.string 9 w' w.heap.size (fun _ => True) v319 t318) ∧ Aside0 (w'.heap[gb312]? = some (.cells #[.string a0_0, .int .i64 a0_1, (.slice A0_2 l0_2.length c0_2), .string a0_3] 69 (0, 0))) ∧ Aside0 (w'.heap[gb313]? = some (.cells #[.string a1_0, .string a1_1, (.slice A1_2 l1_2.length c1_2)] 71 (0, 0))) ∧ Aside0 (Below w.heap.size w w'))
       case atStart => exact ⟨(0), sv_, H', ⟨Nat.le_refl _⟩, ⟨by (with_reducible repeat (first | apply Kd.R_alloc | apply Kd.R_drewN | apply Kd.R_drew)); exact HO320.out⟩, ⟨by (with_reducible repeat (first | refine blk_drewN ?_ _ | refine blk_drew ?_ | refine blk_alloc ?_ _)); exact BK312.out⟩, ⟨by (with_reducible repeat (first | refine blk_drewN ?_ _ | refine blk_drew ?_ | refine blk_alloc ?_ _)); exact BK313.out⟩, ⟨bes_⟩⟩
       case round =>
        clear H'
        (try clear c1);(try clear c2);(try clear p2);(try clear c3);(try clear c4);(try clear c6);(try clear c6b0 c6b1);(try clear c7);(try clear c8);(try clear c9);(try clear c9b0 c9b1);(try clear c10);(try clear c12);(try clear c15);(try clear c18);(try clear c21);(try clear c21b0 c21b1);(try clear c22);(try clear c24);(try clear c25);(try clear c27);(try clear c29);(try clear c32);(try clear hcz11_0 hcz11_1 hcz11_2);(try clear hcz13_0 hcz13_1 hcz13_2);(try clear hcz14_0 hcz14_1 hcz14_2 hcz14_3);(try clear hcz19_0 hcz19_1 hcz19_2 hcz19_3);(try clear hcz23_0 hcz23_1 hcz23_2);(try clear hcz26_0 hcz26_1 hcz26_2);(try clear hcz28_0 hcz28_1 hcz28_2);(try clear hcz33_0 hcz33_1)
        (try clear hcz33_2 hcz33_3);(try clear hcz36_0 hcz36_1 hcz36_2);(try clear hcz8_0 hcz8_1 hcz8_2);(try clear hfz11_0 hfz11_1 hfz11_2);(try clear hfz13_0 hfz13_1 hfz13_2);(try clear hfz14_0 hfz14_1 hfz14_2 hfz14_3);(try clear hfz19_0 hfz19_1 hfz19_2 hfz19_3);(try clear hfz23_0 hfz23_1 hfz23_2);(try clear hfz26_0 hfz26_1 hfz26_2);(try clear hfz28_0 hfz28_1 hfz28_2);(try clear hfz33_0 hfz33_1 hfz33_2 hfz33_3);(try clear hfz36_0 hfz36_1 hfz36_2);(try clear hfz8_0 hfz8_1 hfz8_2);(try clear p2)
        obtain ⟨x55_3, rfl, HA, HK3, HO_9, BK312, BK313, HB⟩ := hrel
        cases gk with
        | zero => exact absurd HA.out (by simp [impl_fits.l0])
        | succ k3 =>
         have H := HA.out
         clear HA
         simp only [impl_fits.l0] at H
         by_cases c37 : x55_3 < (l1_2.length : Int)
         ·rw [if_pos c37] at H
          have c37b0 : decide (x55_3 < (l1_2.length : Int)) = true := decide_eq_true c37
          clear c37
          by_cases c38 : 0 ≤ x55_3
          ·rw [if_pos c38] at H
           have c38b0 : decide (0 ≤ x55_3) = true := decide_eq_true c38
           clear c38
           by_cases c39 : x55_3 < (l1_2.length : Int)
           ·rw [if_pos c39] at H
            have c39b0 : decide (x55_3 < (l1_2.length : Int)) = true := decide_eq_true c39
            clear c39
            replace H := Option.bind_eq_some_iff.mp H
            obtain ⟨t322, A400, H⟩ := H
            replace H : (if t322 = true then (impl_fits.l0 k3 t318 l1_2 (l1_2.length : Int) (wrap64 (x55_3 + 1))) else (some false)) = some r := H
            have A40 := Aside0.mk A400
            clear A400
            by_cases c41 : t322 = true
            ·subst c41
             have H1 : (impl_fits.l0 k3 t318 l1_2 (l1_2.length : Int) (wrap64 (x55_3 + 1))) = some r := by rw [if_pos rfl] at H; exact H
             clear H
             have H := H1
             clear H1
             have H' := Aside0.mk H
             clear H
             have p321 : 0 ≤ (x55_3 : Int) := of_decide_eq_true am_
             have q321 : x55_3 < (l1_2.length : Int) := of_decide_eq_true am_
             obtain ⟨ad321, e321, hx321_0⟩ := Kd.at_string HR1_2.out x55_3 p321 q321
             cases e321
             replace hx321_0 := pw_cell_below HB.out hx321_0
             replace p321 := eq_true p321
             replace q321 := eq_true q321
             obtain ⟨Ao42, co42, eo42⟩ := Kd.R_slice HO_9.out
             subst eo42
             go_wp2_with (first | ((with_reducible refine gate_callee (f := 90) rfl ?_); refine goesL_ (some 61) rfl rfl Tryd.func90 (by kernel_rfl) rfl #[.slice Ao42 t318.length co42, .string (rdOf ByteArray.empty l1_2 x55_3)] rfl au_ ?_; (with_reducible refine (slices_Contains_string_string.calls k3 _ _ t318 (rdOf ByteArray.empty l1_2 x55_3) true _ ?side1 ?side2 A40.out).mono ?_); (case side1 => exact cs_ (Kd.R_reads' HO_9.out).2.2); (case side2 => exact (Kd.R_reads' HO_9.out).2.1); rintro e w' ⟨rfl, ⟨nd, rfl⟩⟩; refine ⟨_, rfl, ?_⟩))
             go_roundg k3
             case measure => have := HJ2.out; have := HJ16.out; have := HK3.out; omega
             case rel => exact ⟨(wrap64 (x55_3 + 1)), sv_, H', ⟨by have := HJ2.out; have := HJ16.out; have := HK3.out; omega⟩, ⟨by (with_reducible repeat (first | apply Kd.R_alloc | apply Kd.R_drewN | apply Kd.R_drew)); exact HO_9.out⟩, ⟨by (with_reducible repeat (first | refine blk_drewN ?_ _ | refine blk_drew ?_ | refine blk_alloc ?_ _)); exact BK312.out⟩, ⟨by (with_reducible repeat (first | refine blk_drewN ?_ _ | refine blk_drew ?_ | refine blk_alloc ?_ _)); exact BK313.out⟩, ⟨bes_⟩⟩
            ·replace c41 := Bool.eq_false_iff.mpr c41
             subst c41
             have H1 : (some false) = some r := by rw [if_neg (show ¬ (false = true) by decide)] at H; exact H
             clear H
             have H := H1
             clear H1
             obtain rfl := Option.some.inj H
             have p321 : 0 ≤ (x55_3 : Int) := of_decide_eq_true am_
             have q321 : x55_3 < (l1_2.length : Int) := of_decide_eq_true am_
             obtain ⟨ad321, e321, hx321_0⟩ := Kd.at_string HR1_2.out x55_3 p321 q321
             cases e321
             replace hx321_0 := pw_cell_below HB.out hx321_0
             replace p321 := eq_true p321
             replace q321 := eq_true q321
             obtain ⟨Ao43, co43, eo43⟩ := Kd.R_slice HO_9.out
             subst eo43
             go_wp2_with (first | ((with_reducible refine gate_callee (f := 90) rfl ?_); refine goesL_ (some 61) rfl rfl Tryd.func90 (by kernel_rfl) rfl #[.slice Ao43 t318.length co43, .string (rdOf ByteArray.empty l1_2 x55_3)] rfl au_ ?_; (with_reducible refine (slices_Contains_string_string.calls k3 _ _ t318 (rdOf ByteArray.empty l1_2 x55_3) false _ ?side1 ?side2 A40.out).mono ?_); (case side1 => exact cs_ (Kd.R_reads' HO_9.out).2.2); (case side2 => exact (Kd.R_reads' HO_9.out).2.1); rintro e w' ⟨rfl, ⟨nd, rfl⟩⟩; refine ⟨_, rfl, ?_⟩))
             go_ret
             exact ⟨er_, bes_⟩
           ·rw [if_neg c39] at H
            exact absurd H (by simp)
          ·rw [if_neg c38] at H
           exact absurd H (by simp)
         ·rw [if_neg c37] at H
          have c37b0 : decide (x55_3 < (l1_2.length : Int)) = false := decide_eq_false c37
          clear c37
          obtain rfl := Option.some.inj H
          go_wp2
          go_ret
          exact ⟨er_, bes_⟩

end Go.Proofs.YtooilehdljeepaaDoor.PFnExactMatches
