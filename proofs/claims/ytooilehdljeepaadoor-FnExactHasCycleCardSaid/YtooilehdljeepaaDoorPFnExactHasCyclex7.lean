-- Laid by a program of this session out of the translation (its own run of the print). Lean checks it.
import Derived.Test.YtooilehdljeepaaDoorPFnExactHasCyclex0
namespace Go.Proofs.YtooilehdljeepaaDoor.PFnExactHasCycle
open Go.RowKit Go.Proofs.YtooilehdljeepaaDoorW.PrintWords Go.Proofs.YtooilehdljeepaaDoorW.PrintLast Go.Proofs.YtooilehdljeepaaDoorW.PrintMore
attribute [local go_sem] max2_int min2_int max_two min_two max_three min_three max_four min_four   -- for this text's walks alone
set_option linter.unusedVariables false
set_option linter.unusedSimpArgs false

/-! ### spec_l8Below: function 93 -/
def spec_l8Below.l0 : Nat → List (S69) → Int → Int → Option (Bool)
 | 0, _, _, _ => none
 | k + 1, x0, x1, x2 => if x1 > x2 then (if 0 ≤ x1 then (if x1 < (x0.length : Int) then (spec_l8Below.l0 k x0 ((rd_T69 x0 x1).f1) x2) else (none)) else (none)) else (some (x1 == x2))
def spec_l8Below.f (k : Nat) (l0 : List (S69)) (a1 : Int) (a2 : Int) : Option (Bool) := spec_l8Below.l0 k l0 a1 a2
set_option maxHeartbeats 8000000 in
set_option maxRecDepth 100000 in
theorem spec_l8Below.calls (k : Nat) (A0 : Option Addr) (c0 : Nat) (l0 : List (S69)) (a1 : Int) (a2 : Int) (r : Bool) (w : World) (hr0 : Kd.C k69 w A0 l0.length l0) (hc0 : l0.length ≤ c0) (h : spec_l8Below.f k l0 a1 a2 = some r) :
  Calls Tryd.prog 93 #[.slice A0 l0.length c0, .int .i64 a1, .int .i64 a2] w fun e w' => e = .returned (.bool r) ∧ Drawn0 w w' := by
 have HR0 := Aside0.mk hr0
 have HC0 := Aside0.mk hc0
 clear hr0 hc0
 have H : (spec_l8Below.l0 k l0 a1 a2) = some r := h
 clear h
 have H' := Aside0.mk H
 clear H
 go_enter Tryd.func93, Tryd.ntmps93
 go_wp2
 go_loopg [1] k (fun kq v1 w' => ∃ (x1_1 : Int), v1 = .int .i64 x1_1 ∧ Aside0 (spec_l8Below.l0 kq l0 x1_1 a2 = some r) ∧ Aside0 (kq ≤ k) ∧ Drawn0 w w')
 case atStart => exact ⟨(a1), sv_, H', ⟨Nat.le_refl _⟩, by repeat (first | exact Drawn0.refl _ | apply Drawn0.step)⟩
 case round =>
  clear H'
  (try clear p2)
  obtain ⟨x1_1, rfl, HA, HK1, ⟨m1, rfl⟩⟩ := hrel
  cases gk with
  | zero => exact absurd HA.out (by simp [spec_l8Below.l0])
  | succ k1 =>
   have H := HA.out
   clear HA
   simp only [spec_l8Below.l0] at H
   by_cases c4 : x1_1 > a2
   ·rw [if_pos c4] at H
    have c4b0 : decide (a2 < x1_1) = true := decide_eq_true c4
    clear c4
    by_cases c5 : 0 ≤ x1_1
    ·rw [if_pos c5] at H
     have c5b0 : decide (0 ≤ x1_1) = true := decide_eq_true c5
     clear c5
     by_cases c6 : x1_1 < (l0.length : Int)
     ·rw [if_pos c6] at H
      have c6b0 : decide (x1_1 < (l0.length : Int)) = true := decide_eq_true c6
      clear c6
      have H' := Aside0.mk H
      clear H
      have p181 : 0 ≤ (x1_1 : Int) := of_decide_eq_true am_
      have q181 : x1_1 < (l0.length : Int) := of_decide_eq_true am_
      obtain ⟨ad181, A181_2, c181_2, e181, hx181_0, hx181_1, hx181_2, hx181_3, hl181_2, hi181_2⟩ := at_T69 HR0.out x1_1 p181 q181
      cases e181
      have HR181_2 := Aside0.mk hi181_2
      have HC181_2 := Aside0.mk hl181_2
      clear hi181_2 hl181_2
      replace p181 := eq_true p181
      replace q181 := eq_true q181
      go_wp2
      go_roundg k1
      case measure => have := HK1.out; omega
      case rel => exact ⟨((rd_T69 l0 x1_1).f1), sv_, H', ⟨by have := HK1.out; omega⟩, by repeat (first | exact Drawn0.refl _ | apply Drawn0.step)⟩
     ·rw [if_neg c6] at H
      exact absurd H (by simp)
    ·rw [if_neg c5] at H
     exact absurd H (by simp)
   ·rw [if_neg c4] at H
    have c4b0 : decide (a2 < x1_1) = false := decide_eq_false c4
    clear c4
    obtain rfl := Option.some.inj H
    go_wp2
    go_ret
    exact ⟨by first | rfl | (simp; done) | (simp [*]; done), by repeat (first | exact Drawn0.refl _ | apply Drawn0.step)⟩

/-! ### spec_AttrOf: function 133 -/
def spec_AttrOf.l0 : Nat → ByteArray → List (S144) → Int → Int → Option (ByteArray × Bool)
 | 0, _, _, _, _ => none
 | k + 1, x1, x9, x10, x11 => if x11 < x10 then (if 0 ≤ x11 then (if x11 < (x9.length : Int) then (if ((rd_T144 x9 x11).f0).toList = x1.toList then (some ((rd_T144 x9 x11).f1, true)) else (spec_AttrOf.l0 k x1 x9 x10 (wrap64 (x11 + 1)))) else (none)) else (none)) else (some ((⟨#[]⟩ : ByteArray), false))
def spec_AttrOf.f (k : Nat) (a0_0 : ByteArray) (a0_1 : Int) (l0_2 : List (S144)) (a0_3 : ByteArray) (a1 : ByteArray) : Option (ByteArray × Bool) := spec_AttrOf.l0 k a1 l0_2 (l0_2.length : Int) 0
set_option maxHeartbeats 8000000 in
set_option maxRecDepth 100000 in
theorem spec_AttrOf.calls (k : Nat) (a0_0 : ByteArray) (a0_1 : Int) (A0_2 : Option Addr) (c0_2 : Nat) (l0_2 : List (S144)) (a0_3 : ByteArray) (a1 : ByteArray) (r1 : ByteArray) (r2 : Bool) (w : World) (hr0_2 : Kd.C k144 w A0_2 l0_2.length l0_2) (hc0_2 : l0_2.length ≤ c0_2) (h : spec_AttrOf.f k a0_0 a0_1 l0_2 a0_3 a1 = some (r1, r2)) :
  Calls Tryd.prog 133 #[.agg #[.string a0_0, .int .i64 a0_1, .slice A0_2 l0_2.length c0_2, .string a0_3], .string a1] w fun e w' => e = .returned (.tuple #[.string r1, .bool r2]) ∧ Below w.heap.size w w' := by
 have hu69 := Tryd.underlying69
 have hu144 := Tryd.underlying144
 have HR0_2 := Aside0.mk hr0_2
 have HC0_2 := Aside0.mk hc0_2
 clear hr0_2 hc0_2
 have HB := Aside0.mk (Below.refl w.heap.size w)
 have H : (spec_AttrOf.l0 k a1 l0_2 (l0_2.length : Int) 0) = some (r1, r2) := h
 clear h
 have H' := Aside0.mk H
 clear H
 go_enter Tryd.func133, Tryd.ntmps133
 go_wp2_with (first | ((with_reducible refine gate_dst (N := 2) rfl ?_); refine box_event ?hg (N := 2) ?hd (cs := #[.string a0_0, .int .i64 a0_1, .slice A0_2 l0_2.length c0_2, .string a0_3]) (t := 69) ?hr ?_; (case hd => rfl); (case hg => rfl); (case hr => first | (go_simp; done) | (go_simp; rfl)); intro gb182 hg w3 hbox hb; have n0_ := Aside0.mk (below_step bel_ hb); have n1_ := Aside0.mk (hbox); have n2_ := Aside0.mk ((by rw [hg]; exact (below_size bel_) : w.heap.size ≤ gb182)); have n3_ := Aside0.mk ((by rw [hg]; exact (below_size bel_) : w.heap.size ≤ gb182)); clear HB; have HB := n0_; have BK182 := n1_; have GW182 := n2_; have GE182 := n3_; clear n0_ n1_ n2_ n3_; clear hb hbox hg; have hcz4_0 := bc4_0 BK182.out; have hcz4_1 := bc4_1 BK182.out; have hcz4_2 := bc4_2 BK182.out; have hcz4_3 := bc4_3 BK182.out; have hfz4_0 := blk_frozen BK182.out 0; have hfz4_1 := blk_frozen BK182.out 1; have hfz4_2 := blk_frozen BK182.out 2; have hfz4_3 := blk_frozen BK182.out 3))
 go_loopg [11] k (fun kq v11 w' => ∃ (x11_1 : Int), v11 = .int .i64 x11_1 ∧ Aside0 (spec_AttrOf.l0 kq a1 l0_2 (l0_2.length : Int) x11_1 = some (r1, r2)) ∧ Aside0 (kq ≤ k) ∧ Aside0 (w'.heap[gb182]? = some (.cells #[.string a0_0, .int .i64 a0_1, (.slice A0_2 l0_2.length c0_2), .string a0_3] 69 (0, 0))) ∧ Aside0 (Below w.heap.size w w'))
 case atStart => exact ⟨(0), sv_, H', ⟨Nat.le_refl _⟩, ⟨by (with_reducible repeat (first | refine blk_drewN ?_ _ | refine blk_drew ?_ | refine blk_alloc ?_ _)); exact BK182.out⟩, ⟨bes_⟩⟩
 case round =>
  clear H'
  (try clear c1);(try clear p2);(try clear hcz4_0 hcz4_1 hcz4_2 hcz4_3 hfz4_0 hfz4_1 hfz4_2 hfz4_3)
  obtain ⟨x11_1, rfl, HA, HK1, BK182, HB⟩ := hrel
  cases gk with
  | zero => exact absurd HA.out (by simp [spec_AttrOf.l0])
  | succ k1 =>
   have H := HA.out
   clear HA
   simp only [spec_AttrOf.l0] at H
   by_cases c5 : x11_1 < (l0_2.length : Int)
   ·rw [if_pos c5] at H
    have c5b0 : decide (x11_1 < (l0_2.length : Int)) = true := decide_eq_true c5
    clear c5
    by_cases c6 : 0 ≤ x11_1
    ·rw [if_pos c6] at H
     have c6b0 : decide (0 ≤ x11_1) = true := decide_eq_true c6
     clear c6
     by_cases c7 : x11_1 < (l0_2.length : Int)
     ·rw [if_pos c7] at H
      have c7b0 : decide (x11_1 < (l0_2.length : Int)) = true := decide_eq_true c7
      clear c7
      by_cases c8 : ((rd_T144 l0_2 x11_1).f0).toList = a1.toList
      ·rw [if_pos c8] at H
       have c8b0 : (((rd_T144 l0_2 x11_1).f0).toList == a1.toList) = true := beq_iff_eq.mpr c8
       have c8b1 : (((rd_T144 l0_2 x11_1).f0).toList != a1.toList) = false := bne_eq_false_iff_eq.mpr c8
       clear c8
       simp only [Option.some.injEq, Prod.mk.injEq] at H
       obtain ⟨rfl, rfl⟩ := H
       have p183 : 0 ≤ (x11_1 : Int) := of_decide_eq_true am_
       have q183 : x11_1 < (l0_2.length : Int) := of_decide_eq_true am_
       obtain ⟨ad183, e183, hx183_0, hx183_1⟩ := at_T144 HR0_2.out x11_1 p183 q183
       cases e183
       replace hx183_0 := pw_cell_below HB.out hx183_0
       replace hx183_1 := pw_cell_below HB.out hx183_1
       replace p183 := eq_true p183
       replace q183 := eq_true q183
       go_wp2_with (first | ((with_reducible refine gate_dst (N := 7) rfl ?_); refine box_event ?hg (N := 7) ?hd (cs := #[.string (⟨#[]⟩ : ByteArray), .string (⟨#[]⟩ : ByteArray)]) (t := 144) ?hr ?_; (case hd => rfl); (case hg => rfl); (case hr => first | (go_simp; done) | (go_simp; rfl)); intro gb184 hg w9 hbox hb; have n0_ := Aside0.mk (blk_below (g := gb182) (o := .cells #[.string a0_0, .int .i64 a0_1, .slice (some ad183) l0_2.length c0_2, .string a0_3] 69 (0, 0)) (bk_ BK182.out) hb); have n1_ := Aside0.mk (below_step bes_ hb); have n2_ := Aside0.mk (hbox); have n3_ := Aside0.mk ((by rw [hg]; exact (below_size bes_) : w.heap.size ≤ gb184)); have n4_ := Aside0.mk ((by rw [hg]; exact (below_size bes_) : w.heap.size ≤ gb184)); have n5_ := Aside0.mk ((by rw [hg]; exact Nat.ne_of_lt (blk_lt (g := gb182) (o := .cells #[.string a0_0, .int .i64 a0_1, .slice (some ad183) l0_2.length c0_2, .string a0_3] 69 (0, 0)) (bk_ BK182.out)) : gb182 ≠ gb184)); have n6_ := Aside0.mk ((by rw [hg]; exact Nat.ne_of_gt (blk_lt (g := gb182) (o := .cells #[.string a0_0, .int .i64 a0_1, .slice (some ad183) l0_2.length c0_2, .string a0_3] 69 (0, 0)) (bk_ BK182.out)) : gb184 ≠ gb182)); clear BK182; clear HB; have BK182 := n0_; have HB := n1_; have BK184 := n2_; have GW184 := n3_; have GE184 := n4_; have NB182_184 := n5_; have NB184_182 := n6_; clear n0_ n1_ n2_ n3_ n4_ n5_ n6_; clear hb hbox hg; have hnb10 := NB184_182.out; have hnc10 := NB182_184.out; have hcz11_0 := bc2_0 BK184.out; have hcz11_1 := bc2_1 BK184.out; have hfz11_0 := blk_frozen BK184.out 0; have hfz11_1 := blk_frozen BK184.out 1))
       go_ret2
       exact ⟨er_, bes_⟩
      ·rw [if_neg c8] at H
       have c8b0 : (((rd_T144 l0_2 x11_1).f0).toList == a1.toList) = false := beq_eq_false_iff_ne.mpr c8
       have c8b1 : (((rd_T144 l0_2 x11_1).f0).toList != a1.toList) = true := bne_iff_ne.mpr c8
       have H' := Aside0.mk H
       clear H
       have p183 : 0 ≤ (x11_1 : Int) := of_decide_eq_true am_
       have q183 : x11_1 < (l0_2.length : Int) := of_decide_eq_true am_
       obtain ⟨ad183, e183, hx183_0, hx183_1⟩ := at_T144 HR0_2.out x11_1 p183 q183
       cases e183
       replace hx183_0 := pw_cell_below HB.out hx183_0
       replace hx183_1 := pw_cell_below HB.out hx183_1
       replace p183 := eq_true p183
       replace q183 := eq_true q183
       go_wp2_with (first | ((with_reducible refine gate_dst (N := 7) rfl ?_); refine box_event ?hg (N := 7) ?hd (cs := #[.string (⟨#[]⟩ : ByteArray), .string (⟨#[]⟩ : ByteArray)]) (t := 144) ?hr ?_; (case hd => rfl); (case hg => rfl); (case hr => first | (go_simp; done) | (go_simp; rfl)); intro gb184 hg w12 hbox hb; have n0_ := Aside0.mk (blk_below (g := gb182) (o := .cells #[.string a0_0, .int .i64 a0_1, .slice (some ad183) l0_2.length c0_2, .string a0_3] 69 (0, 0)) (bk_ BK182.out) hb); have n1_ := Aside0.mk (below_step bes_ hb); have n2_ := Aside0.mk (hbox); have n3_ := Aside0.mk ((by rw [hg]; exact (below_size bes_) : w.heap.size ≤ gb184)); have n4_ := Aside0.mk ((by rw [hg]; exact (below_size bes_) : w.heap.size ≤ gb184)); have n5_ := Aside0.mk ((by rw [hg]; exact Nat.ne_of_lt (blk_lt (g := gb182) (o := .cells #[.string a0_0, .int .i64 a0_1, .slice (some ad183) l0_2.length c0_2, .string a0_3] 69 (0, 0)) (bk_ BK182.out)) : gb182 ≠ gb184)); have n6_ := Aside0.mk ((by rw [hg]; exact Nat.ne_of_gt (blk_lt (g := gb182) (o := .cells #[.string a0_0, .int .i64 a0_1, .slice (some ad183) l0_2.length c0_2, .string a0_3] 69 (0, 0)) (bk_ BK182.out)) : gb184 ≠ gb182)); clear BK182; clear HB; have BK182 := n0_; have HB := n1_; have BK184 := n2_; have GW184 := n3_; have GE184 := n4_; have NB182_184 := n5_; have NB184_182 := n6_; clear n0_ n1_ n2_ n3_ n4_ n5_ n6_; clear hb hbox hg; have hnb13 := NB184_182.out; have hnc13 := NB182_184.out; have hcz14_0 := bc2_0 BK184.out; have hcz14_1 := bc2_1 BK184.out; have hfz14_0 := blk_frozen BK184.out 0; have hfz14_1 := blk_frozen BK184.out 1))
       go_roundg k1
       case measure => have := HK1.out; omega
       case rel => exact ⟨(wrap64 (x11_1 + 1)), sv_, H', ⟨by have := HK1.out; omega⟩, ⟨by (with_reducible repeat (first | refine blk_drewN ?_ _ | refine blk_drew ?_ | refine blk_alloc ?_ _)); refine blk_far ?_ NB182_184.out _; (with_reducible repeat (first | refine blk_drewN ?_ _ | refine blk_drew ?_ | refine blk_alloc ?_ _)); refine blk_far ?_ NB182_184.out _; (with_reducible repeat (first | refine blk_drewN ?_ _ | refine blk_drew ?_ | refine blk_alloc ?_ _)); exact BK182.out⟩, ⟨bes_⟩⟩
     ·rw [if_neg c7] at H
      exact absurd H (by simp)
    ·rw [if_neg c6] at H
     exact absurd H (by simp)
   ·rw [if_neg c5] at H
    have c5b0 : decide (x11_1 < (l0_2.length : Int)) = false := decide_eq_false c5
    clear c5
    simp only [Option.some.injEq, Prod.mk.injEq] at H
    obtain ⟨rfl, rfl⟩ := H
    go_wp2
    go_ret2
    exact ⟨er_, bes_⟩

/-! ### spec_l8Node: function 94 -/
def spec_l8Node.l0 : Nat → ByteArray → List (S69) → Int → Int → Option (Int)
 | 0, _, _, _, _ => none
 | k + 1, x1, x9, x10, x11 => if x11 < x10 then (if 0 ≤ x11 then (if x11 < (x9.length : Int) then ((spec_AttrOf.f k ((rd_T69 x9 x11).f0) ((rd_T69 x9 x11).f1) ((rd_T69 x9 x11).f2) ((rd_T69 x9 x11).f3) (⟨#[105, 100]⟩ : ByteArray)).bind fun bt187 => (if ((rd_T69 x9 x11).f0).toList = ([] : List UInt8) then (spec_l8Node.l0 k x1 x9 x10 (wrap64 (x11 + 1))) else (if bt187.2 = true then (if bt187.1.toList = x1.toList then (if x1.toList = ([] : List UInt8) then (spec_l8Node.l0 k x1 x9 x10 (wrap64 (x11 + 1))) else (some x11)) else (spec_l8Node.l0 k x1 x9 x10 (wrap64 (x11 + 1)))) else (spec_l8Node.l0 k x1 x9 x10 (wrap64 (x11 + 1)))))) else (none)) else (none)) else (some (-1))
def spec_l8Node.f (k : Nat) (l0 : List (S69)) (a1 : ByteArray) : Option (Int) := spec_l8Node.l0 k a1 l0 (l0.length : Int) 0
set_option maxHeartbeats 8000000 in
set_option maxRecDepth 100000 in
theorem spec_l8Node.calls (k : Nat) (A0 : Option Addr) (c0 : Nat) (l0 : List (S69)) (a1 : ByteArray) (r : Int) (w : World) (hr0 : Kd.C k69 w A0 l0.length l0) (hc0 : l0.length ≤ c0) (h : spec_l8Node.f k l0 a1 = some r) :
  Calls Tryd.prog 94 #[.slice A0 l0.length c0, .string a1] w fun e w' => e = .returned (.int .i64 r) ∧ Below w.heap.size w w' := by
 have hu69 := Tryd.underlying69
 have HR0 := Aside0.mk hr0
 have HC0 := Aside0.mk hc0
 clear hr0 hc0
 have HB := Aside0.mk (Below.refl w.heap.size w)
 have H : (spec_l8Node.l0 k a1 l0 (l0.length : Int) 0) = some r := h
 clear h
 have H' := Aside0.mk H
 clear H
 go_enter Tryd.func94, Tryd.ntmps94
 go_wp2
 go_loopg [11] k (fun kq v11 w' => ∃ (x11_1 : Int), v11 = .int .i64 x11_1 ∧ Aside0 (spec_l8Node.l0 kq a1 l0 (l0.length : Int) x11_1 = some r) ∧ Aside0 (kq ≤ k) ∧ Aside0 (Below w.heap.size w w'))
 case atStart => exact ⟨(0), sv_, H', ⟨Nat.le_refl _⟩, ⟨bel_⟩⟩
 case round =>
  clear H'
  (try clear p2)
  obtain ⟨x11_1, rfl, HA, HK1, HB⟩ := hrel
  cases gk with
  | zero => exact absurd HA.out (by simp [spec_l8Node.l0])
  | succ k1 =>
   have H := HA.out
   clear HA
   simp only [spec_l8Node.l0] at H
   by_cases c3 : x11_1 < (l0.length : Int)
   ·rw [if_pos c3] at H
    have c3b0 : decide (x11_1 < (l0.length : Int)) = true := decide_eq_true c3
    clear c3
    by_cases c4 : 0 ≤ x11_1
    ·rw [if_pos c4] at H
     have c4b0 : decide (0 ≤ x11_1) = true := decide_eq_true c4
     clear c4
     by_cases c5 : x11_1 < (l0.length : Int)
     ·rw [if_pos c5] at H
      have c5b0 : decide (x11_1 < (l0.length : Int)) = true := decide_eq_true c5
      clear c5
      replace H := Option.bind_eq_some_iff.mp H
      obtain ⟨⟨t187, t188⟩, A60, H⟩ := H
      replace H : (if ((rd_T69 l0 x11_1).f0).toList = ([] : List UInt8) then (spec_l8Node.l0 k1 a1 l0 (l0.length : Int) (wrap64 (x11_1 + 1))) else (if t188 = true then (if t187.toList = a1.toList then (if a1.toList = ([] : List UInt8) then (spec_l8Node.l0 k1 a1 l0 (l0.length : Int) (wrap64 (x11_1 + 1))) else (some x11_1)) else (spec_l8Node.l0 k1 a1 l0 (l0.length : Int) (wrap64 (x11_1 + 1)))) else (spec_l8Node.l0 k1 a1 l0 (l0.length : Int) (wrap64 (x11_1 + 1))))) = some r := H
      have A6 := Aside0.mk A60
      clear A60
      by_cases c7 : ((rd_T69 l0 x11_1).f0).toList = ([] : List UInt8)
      ·rw [if_pos c7] at H
       have c7b0 : (((rd_T69 l0 x11_1).f0).toList == ([] : List UInt8)) = true := beq_iff_eq.mpr c7
       have c7b7 : ((rd_T69 l0 x11_1).f0).toList.isEmpty = true := by rw [beq_iff_eq.mp c7b0]; rfl
       have c7b8 : ¬ (((rd_T69 l0 x11_1).f0).toList.isEmpty = false) := fun h_ => by have h9_ := beq_iff_eq.mp c7b0; rw [h9_] at h_; cases h_
       have c7b1 : (((rd_T69 l0 x11_1).f0).toList != ([] : List UInt8)) = false := bne_eq_false_iff_eq.mpr c7
       clear c7
       have H' := Aside0.mk H
       clear H
       have p185 : 0 ≤ (x11_1 : Int) := of_decide_eq_true am_
       have q185 : x11_1 < (l0.length : Int) := of_decide_eq_true am_
       obtain ⟨ad185, A185_2, c185_2, e185, hx185_0, hx185_1, hx185_2, hx185_3, hl185_2, hi185_2⟩ := at_T69 HR0.out x11_1 p185 q185
       cases e185
       replace hx185_0 := pw_cell_below HB.out hx185_0
       replace hx185_1 := pw_cell_below HB.out hx185_1
       replace hx185_2 := pw_cell_below HB.out hx185_2
       replace hx185_3 := pw_cell_below HB.out hx185_3
       have HR185_2 := Aside0.mk hi185_2
       have HC185_2 := Aside0.mk hl185_2
       clear hi185_2 hl185_2
       replace p185 := eq_true p185
       replace q185 := eq_true q185
       go_wp2_with (first | ((with_reducible refine gate_dst (N := 6) rfl ?_); refine box_event ?hg (N := 6) ?hd (cs := #[.string (⟨#[]⟩ : ByteArray), .int .i64 0, .slice none 0 0, .string (⟨#[]⟩ : ByteArray)]) (t := 69) ?hr ?_; (case hd => rfl); (case hg => rfl); (case hr => first | (go_simp; done) | (go_simp; rfl)); intro gb186 hg w8 hbox hb; have n0_ := Aside0.mk (below_step bel_ hb); have n1_ := Aside0.mk (hbox); have n2_ := Aside0.mk ((by rw [hg]; exact (below_size bel_) : w.heap.size ≤ gb186)); have n3_ := Aside0.mk ((by rw [hg]; exact (below_size bel_) : w.heap.size ≤ gb186)); clear HB; have HB := n0_; have BK186 := n1_; have GW186 := n2_; have GE186 := n3_; clear n0_ n1_ n2_ n3_; clear hb hbox hg; have hcz9_0 := bc4_0 BK186.out; have hcz9_1 := bc4_1 BK186.out; have hcz9_2 := bc4_2 BK186.out; have hcz9_3 := bc4_3 BK186.out; have hfz9_0 := blk_frozen BK186.out 0; have hfz9_1 := blk_frozen BK186.out 1; have hfz9_2 := blk_frozen BK186.out 2; have hfz9_3 := blk_frozen BK186.out 3) | ((with_reducible refine gate_callee (f := 133) rfl ?_); refine goesL_ (some 18) rfl rfl Tryd.func133 (by kernel_rfl) rfl #[.agg #[.string ((rd_T69 l0 x11_1).f0), .int .i64 ((rd_T69 l0 x11_1).f1), .slice A185_2 ((rd_T69 l0 x11_1).f2).length c185_2, .string ((rd_T69 l0 x11_1).f3)], .string (⟨#[105, 100]⟩ : ByteArray)] rfl au_ ?_; (with_reducible refine (spec_AttrOf.calls k1 ((rd_T69 l0 x11_1).f0) ((rd_T69 l0 x11_1).f1) _ _ ((rd_T69 l0 x11_1).f2) ((rd_T69 l0 x11_1).f3) (⟨#[105, 100]⟩ : ByteArray) t187 t188 _ ?side1 ?side2 A6.out).mono ?_); (case side1 => exact Kd.C_below HR185_2.out bes_); (case side2 => exact HC185_2.out); rintro e w10 ⟨rfl, hb⟩; refine ⟨_, rfl, ?_⟩; have n0_ := Aside0.mk (blk_below (g := gb186) (o := .cells #[.string ((rd_T69 l0 x11_1).f0), .int .i64 ((rd_T69 l0 x11_1).f1), .slice A185_2 ((rd_T69 l0 x11_1).f2).length c185_2, .string ((rd_T69 l0 x11_1).f3)] 69 (0, 0)) (by (with_reducible repeat (first | refine blk_drewN ?_ _ | refine blk_drew ?_ | refine blk_alloc ?_ _)); refine blk_put (cs := #[.string ((rd_T69 l0 x11_1).f0), .int .i64 ((rd_T69 l0 x11_1).f1), .slice A185_2 ((rd_T69 l0 x11_1).f2).length c185_2, .string (⟨#[]⟩ : ByteArray)]) ?_ 3 _ rfl; (with_reducible repeat (first | refine blk_drewN ?_ _ | refine blk_drew ?_ | refine blk_alloc ?_ _)); refine blk_put (cs := #[.string ((rd_T69 l0 x11_1).f0), .int .i64 ((rd_T69 l0 x11_1).f1), .slice none 0 0, .string (⟨#[]⟩ : ByteArray)]) ?_ 2 _ rfl; (with_reducible repeat (first | refine blk_drewN ?_ _ | refine blk_drew ?_ | refine blk_alloc ?_ _)); refine blk_put (cs := #[.string ((rd_T69 l0 x11_1).f0), .int .i64 0, .slice none 0 0, .string (⟨#[]⟩ : ByteArray)]) ?_ 1 _ rfl; (with_reducible repeat (first | refine blk_drewN ?_ _ | refine blk_drew ?_ | refine blk_alloc ?_ _)); refine blk_put (cs := #[.string (⟨#[]⟩ : ByteArray), .int .i64 0, .slice none 0 0, .string (⟨#[]⟩ : ByteArray)]) ?_ 0 _ rfl; (with_reducible repeat (first | refine blk_drewN ?_ _ | refine blk_drew ?_ | refine blk_alloc ?_ _)); exact BK186.out) hb); have n1_ := Aside0.mk (below_step bes_ hb); clear BK186; clear HB; have BK186 := n0_; have HB := n1_; clear n0_ n1_; (try clear hb);(try clear hb2);(try clear hk);(try clear hi); have hcz11_0 := bc4_0 BK186.out; have hcz11_1 := bc4_1 BK186.out; have hcz11_2 := bc4_2 BK186.out; have hcz11_3 := bc4_3 BK186.out; have hfz11_0 := blk_frozen BK186.out 0; have hfz11_1 := blk_frozen BK186.out 1; have hfz11_2 := blk_frozen BK186.out 2; have hfz11_3 := blk_frozen BK186.out 3))
       go_roundg k1
       case measure => have := HK1.out; omega
       case rel => exact ⟨(wrap64 (x11_1 + 1)), sv_, H', ⟨by have := HK1.out; omega⟩, ⟨bes_⟩⟩
      ·rw [if_neg c7] at H
       have c7b0 : (((rd_T69 l0 x11_1).f0).toList == ([] : List UInt8)) = false := beq_eq_false_iff_ne.mpr c7
       have c7b7 : ((rd_T69 l0 x11_1).f0).toList.isEmpty = false := Bool.eq_false_iff.mpr (fun h_ => absurd (List.isEmpty_iff.mp h_) (beq_eq_false_iff_ne.mp c7b0))
       have c7b8 : ¬ (((rd_T69 l0 x11_1).f0).toList.isEmpty = true) := fun h_ => absurd (List.isEmpty_iff.mp h_) (beq_eq_false_iff_ne.mp c7b0)
       have c7b1 : (((rd_T69 l0 x11_1).f0).toList != ([] : List UInt8)) = true := bne_iff_ne.mpr c7
       by_cases c12 : t188 = true
       ·subst c12
        have H1 : (if t187.toList = a1.toList then (if a1.toList = ([] : List UInt8) then (spec_l8Node.l0 k1 a1 l0 (l0.length : Int) (wrap64 (x11_1 + 1))) else (some x11_1)) else (spec_l8Node.l0 k1 a1 l0 (l0.length : Int) (wrap64 (x11_1 + 1)))) = some r := by rw [if_pos rfl] at H; exact H
        clear H
        have H := H1
        clear H1
        by_cases c13 : t187.toList = a1.toList
        ·rw [if_pos c13] at H
         have c13b0 : (t187.toList == a1.toList) = true := beq_iff_eq.mpr c13
         have c13b1 : (t187.toList != a1.toList) = false := bne_eq_false_iff_eq.mpr c13
         clear c13
         by_cases c14 : a1.toList = ([] : List UInt8)
         ·rw [if_pos c14] at H
          have c14b0 : (a1.toList == ([] : List UInt8)) = true := beq_iff_eq.mpr c14
          have c14b7 : a1.toList.isEmpty = true := by rw [beq_iff_eq.mp c14b0]; rfl
          have c14b8 : ¬ (a1.toList.isEmpty = false) := fun h_ => by have h9_ := beq_iff_eq.mp c14b0; rw [h9_] at h_; cases h_
          have c14b1 : (a1.toList != ([] : List UInt8)) = false := bne_eq_false_iff_eq.mpr c14
          clear c14
          have H' := Aside0.mk H
          clear H
          have p185 : 0 ≤ (x11_1 : Int) := of_decide_eq_true am_
          have q185 : x11_1 < (l0.length : Int) := of_decide_eq_true am_
          obtain ⟨ad185, A185_2, c185_2, e185, hx185_0, hx185_1, hx185_2, hx185_3, hl185_2, hi185_2⟩ := at_T69 HR0.out x11_1 p185 q185
          cases e185
          replace hx185_0 := pw_cell_below HB.out hx185_0
          replace hx185_1 := pw_cell_below HB.out hx185_1
          replace hx185_2 := pw_cell_below HB.out hx185_2
          replace hx185_3 := pw_cell_below HB.out hx185_3
          have HR185_2 := Aside0.mk hi185_2
          have HC185_2 := Aside0.mk hl185_2
          clear hi185_2 hl185_2
          replace p185 := eq_true p185
          replace q185 := eq_true q185
          go_wp2_with (first | ((with_reducible refine gate_dst (N := 6) rfl ?_); refine box_event ?hg (N := 6) ?hd (cs := #[.string (⟨#[]⟩ : ByteArray), .int .i64 0, .slice none 0 0, .string (⟨#[]⟩ : ByteArray)]) (t := 69) ?hr ?_; (case hd => rfl); (case hg => rfl); (case hr => first | (go_simp; done) | (go_simp; rfl)); intro gb186 hg w15 hbox hb; have n0_ := Aside0.mk (below_step bel_ hb); have n1_ := Aside0.mk (hbox); have n2_ := Aside0.mk ((by rw [hg]; exact (below_size bel_) : w.heap.size ≤ gb186)); have n3_ := Aside0.mk ((by rw [hg]; exact (below_size bel_) : w.heap.size ≤ gb186)); clear HB; have HB := n0_; have BK186 := n1_; have GW186 := n2_; have GE186 := n3_; clear n0_ n1_ n2_ n3_; clear hb hbox hg; have hcz16_0 := bc4_0 BK186.out; have hcz16_1 := bc4_1 BK186.out; have hcz16_2 := bc4_2 BK186.out; have hcz16_3 := bc4_3 BK186.out; have hfz16_0 := blk_frozen BK186.out 0; have hfz16_1 := blk_frozen BK186.out 1; have hfz16_2 := blk_frozen BK186.out 2; have hfz16_3 := blk_frozen BK186.out 3) | ((with_reducible refine gate_callee (f := 133) rfl ?_); refine goesL_ (some 18) rfl rfl Tryd.func133 (by kernel_rfl) rfl #[.agg #[.string ((rd_T69 l0 x11_1).f0), .int .i64 ((rd_T69 l0 x11_1).f1), .slice A185_2 ((rd_T69 l0 x11_1).f2).length c185_2, .string ((rd_T69 l0 x11_1).f3)], .string (⟨#[105, 100]⟩ : ByteArray)] rfl au_ ?_; (with_reducible refine (spec_AttrOf.calls k1 ((rd_T69 l0 x11_1).f0) ((rd_T69 l0 x11_1).f1) _ _ ((rd_T69 l0 x11_1).f2) ((rd_T69 l0 x11_1).f3) (⟨#[105, 100]⟩ : ByteArray) t187 true _ ?side1 ?side2 A6.out).mono ?_); (case side1 => exact Kd.C_below HR185_2.out bes_); (case side2 => exact HC185_2.out); rintro e w17 ⟨rfl, hb⟩; refine ⟨_, rfl, ?_⟩; have n0_ := Aside0.mk (blk_below (g := gb186) (o := .cells #[.string ((rd_T69 l0 x11_1).f0), .int .i64 ((rd_T69 l0 x11_1).f1), .slice A185_2 ((rd_T69 l0 x11_1).f2).length c185_2, .string ((rd_T69 l0 x11_1).f3)] 69 (0, 0)) (by (with_reducible repeat (first | refine blk_drewN ?_ _ | refine blk_drew ?_ | refine blk_alloc ?_ _)); refine blk_put (cs := #[.string ((rd_T69 l0 x11_1).f0), .int .i64 ((rd_T69 l0 x11_1).f1), .slice A185_2 ((rd_T69 l0 x11_1).f2).length c185_2, .string (⟨#[]⟩ : ByteArray)]) ?_ 3 _ rfl; (with_reducible repeat (first | refine blk_drewN ?_ _ | refine blk_drew ?_ | refine blk_alloc ?_ _)); refine blk_put (cs := #[.string ((rd_T69 l0 x11_1).f0), .int .i64 ((rd_T69 l0 x11_1).f1), .slice none 0 0, .string (⟨#[]⟩ : ByteArray)]) ?_ 2 _ rfl; (with_reducible repeat (first | refine blk_drewN ?_ _ | refine blk_drew ?_ | refine blk_alloc ?_ _)); refine blk_put (cs := #[.string ((rd_T69 l0 x11_1).f0), .int .i64 0, .slice none 0 0, .string (⟨#[]⟩ : ByteArray)]) ?_ 1 _ rfl; (with_reducible repeat (first | refine blk_drewN ?_ _ | refine blk_drew ?_ | refine blk_alloc ?_ _)); refine blk_put (cs := #[.string (⟨#[]⟩ : ByteArray), .int .i64 0, .slice none 0 0, .string (⟨#[]⟩ : ByteArray)]) ?_ 0 _ rfl; (with_reducible repeat (first | refine blk_drewN ?_ _ | refine blk_drew ?_ | refine blk_alloc ?_ _)); exact BK186.out) hb); have n1_ := Aside0.mk (below_step bes_ hb); clear BK186; clear HB; have BK186 := n0_; have HB := n1_; clear n0_ n1_; (try clear hb);(try clear hb2);(try clear hk);(try clear hi); have hcz18_0 := bc4_0 BK186.out; have hcz18_1 := bc4_1 BK186.out; have hcz18_2 := bc4_2 BK186.out; have hcz18_3 := bc4_3 BK186.out; have hfz18_0 := blk_frozen BK186.out 0; have hfz18_1 := blk_frozen BK186.out 1; have hfz18_2 := blk_frozen BK186.out 2; have hfz18_3 := blk_frozen BK186.out 3))
          go_roundg k1
          case measure => have := HK1.out; omega
          case rel => exact ⟨(wrap64 (x11_1 + 1)), sv_, H', ⟨by have := HK1.out; omega⟩, ⟨bes_⟩⟩
         ·rw [if_neg c14] at H
          have c14b0 : (a1.toList == ([] : List UInt8)) = false := beq_eq_false_iff_ne.mpr c14
          have c14b7 : a1.toList.isEmpty = false := Bool.eq_false_iff.mpr (fun h_ => absurd (List.isEmpty_iff.mp h_) (beq_eq_false_iff_ne.mp c14b0))
          have c14b8 : ¬ (a1.toList.isEmpty = true) := fun h_ => absurd (List.isEmpty_iff.mp h_) (beq_eq_false_iff_ne.mp c14b0)
          have c14b1 : (a1.toList != ([] : List UInt8)) = true := bne_iff_ne.mpr c14
          obtain rfl := Option.some.inj H
          have p185 : 0 ≤ (x11_1 : Int) := of_decide_eq_true am_
          have q185 : x11_1 < (l0.length : Int) := of_decide_eq_true am_
          obtain ⟨ad185, A185_2, c185_2, e185, hx185_0, hx185_1, hx185_2, hx185_3, hl185_2, hi185_2⟩ := at_T69 HR0.out x11_1 p185 q185
          cases e185
          replace hx185_0 := pw_cell_below HB.out hx185_0
          replace hx185_1 := pw_cell_below HB.out hx185_1
          replace hx185_2 := pw_cell_below HB.out hx185_2
          replace hx185_3 := pw_cell_below HB.out hx185_3
          have HR185_2 := Aside0.mk hi185_2
          have HC185_2 := Aside0.mk hl185_2
          clear hi185_2 hl185_2
          replace p185 := eq_true p185
          replace q185 := eq_true q185
          go_wp2_with (first | ((with_reducible refine gate_dst (N := 6) rfl ?_); refine box_event ?hg (N := 6) ?hd (cs := #[.string (⟨#[]⟩ : ByteArray), .int .i64 0, .slice none 0 0, .string (⟨#[]⟩ : ByteArray)]) (t := 69) ?hr ?_; (case hd => rfl); (case hg => rfl); (case hr => first | (go_simp; done) | (go_simp; rfl)); intro gb186 hg w19 hbox hb; have n0_ := Aside0.mk (below_step bel_ hb); have n1_ := Aside0.mk (hbox); have n2_ := Aside0.mk ((by rw [hg]; exact (below_size bel_) : w.heap.size ≤ gb186)); have n3_ := Aside0.mk ((by rw [hg]; exact (below_size bel_) : w.heap.size ≤ gb186)); clear HB; have HB := n0_; have BK186 := n1_; have GW186 := n2_; have GE186 := n3_; clear n0_ n1_ n2_ n3_; clear hb hbox hg; have hcz20_0 := bc4_0 BK186.out; have hcz20_1 := bc4_1 BK186.out; have hcz20_2 := bc4_2 BK186.out; have hcz20_3 := bc4_3 BK186.out; have hfz20_0 := blk_frozen BK186.out 0; have hfz20_1 := blk_frozen BK186.out 1; have hfz20_2 := blk_frozen BK186.out 2; have hfz20_3 := blk_frozen BK186.out 3) | ((with_reducible refine gate_callee (f := 133) rfl ?_); refine goesL_ (some 18) rfl rfl Tryd.func133 (by kernel_rfl) rfl #[.agg #[.string ((rd_T69 l0 x11_1).f0), .int .i64 ((rd_T69 l0 x11_1).f1), .slice A185_2 ((rd_T69 l0 x11_1).f2).length c185_2, .string ((rd_T69 l0 x11_1).f3)], .string (⟨#[105, 100]⟩ : ByteArray)] rfl au_ ?_; (with_reducible refine (spec_AttrOf.calls k1 ((rd_T69 l0 x11_1).f0) ((rd_T69 l0 x11_1).f1) _ _ ((rd_T69 l0 x11_1).f2) ((rd_T69 l0 x11_1).f3) (⟨#[105, 100]⟩ : ByteArray) t187 true _ ?side1 ?side2 A6.out).mono ?_); (case side1 => exact Kd.C_below HR185_2.out bes_); (case side2 => exact HC185_2.out); rintro e w21 ⟨rfl, hb⟩; refine ⟨_, rfl, ?_⟩; have n0_ := Aside0.mk (blk_below (g := gb186) (o := .cells #[.string ((rd_T69 l0 x11_1).f0), .int .i64 ((rd_T69 l0 x11_1).f1), .slice A185_2 ((rd_T69 l0 x11_1).f2).length c185_2, .string ((rd_T69 l0 x11_1).f3)] 69 (0, 0)) (by (with_reducible repeat (first | refine blk_drewN ?_ _ | refine blk_drew ?_ | refine blk_alloc ?_ _)); refine blk_put (cs := #[.string ((rd_T69 l0 x11_1).f0), .int .i64 ((rd_T69 l0 x11_1).f1), .slice A185_2 ((rd_T69 l0 x11_1).f2).length c185_2, .string (⟨#[]⟩ : ByteArray)]) ?_ 3 _ rfl; (with_reducible repeat (first | refine blk_drewN ?_ _ | refine blk_drew ?_ | refine blk_alloc ?_ _)); refine blk_put (cs := #[.string ((rd_T69 l0 x11_1).f0), .int .i64 ((rd_T69 l0 x11_1).f1), .slice none 0 0, .string (⟨#[]⟩ : ByteArray)]) ?_ 2 _ rfl; (with_reducible repeat (first | refine blk_drewN ?_ _ | refine blk_drew ?_ | refine blk_alloc ?_ _)); refine blk_put (cs := #[.string ((rd_T69 l0 x11_1).f0), .int .i64 0, .slice none 0 0, .string (⟨#[]⟩ : ByteArray)]) ?_ 1 _ rfl; (with_reducible repeat (first | refine blk_drewN ?_ _ | refine blk_drew ?_ | refine blk_alloc ?_ _)); refine blk_put (cs := #[.string (⟨#[]⟩ : ByteArray), .int .i64 0, .slice none 0 0, .string (⟨#[]⟩ : ByteArray)]) ?_ 0 _ rfl; (with_reducible repeat (first | refine blk_drewN ?_ _ | refine blk_drew ?_ | refine blk_alloc ?_ _)); exact BK186.out) hb); have n1_ := Aside0.mk (below_step bes_ hb); clear BK186; clear HB; have BK186 := n0_; have HB := n1_; clear n0_ n1_; (try clear hb);(try clear hb2);(try clear hk);(try clear hi); have hcz22_0 := bc4_0 BK186.out; have hcz22_1 := bc4_1 BK186.out; have hcz22_2 := bc4_2 BK186.out; have hcz22_3 := bc4_3 BK186.out; have hfz22_0 := blk_frozen BK186.out 0; have hfz22_1 := blk_frozen BK186.out 1; have hfz22_2 := blk_frozen BK186.out 2; have hfz22_3 := blk_frozen BK186.out 3))
          go_ret
          exact ⟨er_, bes_⟩
        ·rw [if_neg c13] at H
         have c13b0 : (t187.toList == a1.toList) = false := beq_eq_false_iff_ne.mpr c13
         have c13b1 : (t187.toList != a1.toList) = true := bne_iff_ne.mpr c13
         have H' := Aside0.mk H
         clear H
         have p185 : 0 ≤ (x11_1 : Int) := of_decide_eq_true am_
         have q185 : x11_1 < (l0.length : Int) := of_decide_eq_true am_
         obtain ⟨ad185, A185_2, c185_2, e185, hx185_0, hx185_1, hx185_2, hx185_3, hl185_2, hi185_2⟩ := at_T69 HR0.out x11_1 p185 q185
         cases e185
         replace hx185_0 := pw_cell_below HB.out hx185_0
         replace hx185_1 := pw_cell_below HB.out hx185_1
         replace hx185_2 := pw_cell_below HB.out hx185_2
         replace hx185_3 := pw_cell_below HB.out hx185_3
         have HR185_2 := Aside0.mk hi185_2
         have HC185_2 := Aside0.mk hl185_2
         clear hi185_2 hl185_2
         replace p185 := eq_true p185
         replace q185 := eq_true q185
         go_wp2_with (first | ((with_reducible refine gate_dst (N := 6) rfl ?_); refine box_event ?hg (N := 6) ?hd (cs := #[.string (⟨#[]⟩ : ByteArray), .int .i64 0, .slice none 0 0, .string (⟨#[]⟩ : ByteArray)]) (t := 69) ?hr ?_; (case hd => rfl); (case hg => rfl); (case hr => first | (go_simp; done) | (go_simp; rfl)); intro gb186 hg w23 hbox hb; have n0_ := Aside0.mk (below_step bel_ hb); have n1_ := Aside0.mk (hbox); have n2_ := Aside0.mk ((by rw [hg]; exact (below_size bel_) : w.heap.size ≤ gb186)); have n3_ := Aside0.mk ((by rw [hg]; exact (below_size bel_) : w.heap.size ≤ gb186)); clear HB; have HB := n0_; have BK186 := n1_; have GW186 := n2_; have GE186 := n3_; clear n0_ n1_ n2_ n3_; clear hb hbox hg; have hcz24_0 := bc4_0 BK186.out; have hcz24_1 := bc4_1 BK186.out; have hcz24_2 := bc4_2 BK186.out; have hcz24_3 := bc4_3 BK186.out; have hfz24_0 := blk_frozen BK186.out 0; have hfz24_1 := blk_frozen BK186.out 1; have hfz24_2 := blk_frozen BK186.out 2; have hfz24_3 := blk_frozen BK186.out 3) | ((with_reducible refine gate_callee (f := 133) rfl ?_); refine goesL_ (some 18) rfl rfl Tryd.func133 (by kernel_rfl) rfl #[.agg #[.string ((rd_T69 l0 x11_1).f0), .int .i64 ((rd_T69 l0 x11_1).f1), .slice A185_2 ((rd_T69 l0 x11_1).f2).length c185_2, .string ((rd_T69 l0 x11_1).f3)], .string (⟨#[105, 100]⟩ : ByteArray)] rfl au_ ?_; (with_reducible refine (spec_AttrOf.calls k1 ((rd_T69 l0 x11_1).f0) ((rd_T69 l0 x11_1).f1) _ _ ((rd_T69 l0 x11_1).f2) ((rd_T69 l0 x11_1).f3) (⟨#[105, 100]⟩ : ByteArray) t187 true _ ?side1 ?side2 A6.out).mono ?_); (case side1 => exact Kd.C_below HR185_2.out bes_); (case side2 => exact HC185_2.out); rintro e w25 ⟨rfl, hb⟩; refine ⟨_, rfl, ?_⟩; have n0_ := Aside0.mk (blk_below (g := gb186) (o := .cells #[.string ((rd_T69 l0 x11_1).f0), .int .i64 ((rd_T69 l0 x11_1).f1), .slice A185_2 ((rd_T69 l0 x11_1).f2).length c185_2, .string ((rd_T69 l0 x11_1).f3)] 69 (0, 0)) (by (with_reducible repeat (first | refine blk_drewN ?_ _ | refine blk_drew ?_ | refine blk_alloc ?_ _)); refine blk_put (cs := #[.string ((rd_T69 l0 x11_1).f0), .int .i64 ((rd_T69 l0 x11_1).f1), .slice A185_2 ((rd_T69 l0 x11_1).f2).length c185_2, .string (⟨#[]⟩ : ByteArray)]) ?_ 3 _ rfl; (with_reducible repeat (first | refine blk_drewN ?_ _ | refine blk_drew ?_ | refine blk_alloc ?_ _)); refine blk_put (cs := #[.string ((rd_T69 l0 x11_1).f0), .int .i64 ((rd_T69 l0 x11_1).f1), .slice none 0 0, .string (⟨#[]⟩ : ByteArray)]) ?_ 2 _ rfl; (with_reducible repeat (first | refine blk_drewN ?_ _ | refine blk_drew ?_ | refine blk_alloc ?_ _)); refine blk_put (cs := #[.string ((rd_T69 l0 x11_1).f0), .int .i64 0, .slice none 0 0, .string (⟨#[]⟩ : ByteArray)]) ?_ 1 _ rfl; (with_reducible repeat (first | refine blk_drewN ?_ _ | refine blk_drew ?_ | refine blk_alloc ?_ _)); refine blk_put (cs := #[.string (⟨#[]⟩ : ByteArray), .int .i64 0, .slice none 0 0, .string (⟨#[]⟩ : ByteArray)]) ?_ 0 _ rfl; (with_reducible repeat (first | refine blk_drewN ?_ _ | refine blk_drew ?_ | refine blk_alloc ?_ _)); exact BK186.out) hb); have n1_ := Aside0.mk (below_step bes_ hb); clear BK186; clear HB; have BK186 := n0_; have HB := n1_; clear n0_ n1_; (try clear hb);(try clear hb2);(try clear hk);(try clear hi); have hcz26_0 := bc4_0 BK186.out; have hcz26_1 := bc4_1 BK186.out; have hcz26_2 := bc4_2 BK186.out; have hcz26_3 := bc4_3 BK186.out; have hfz26_0 := blk_frozen BK186.out 0; have hfz26_1 := blk_frozen BK186.out 1; have hfz26_2 := blk_frozen BK186.out 2; have hfz26_3 := blk_frozen BK186.out 3))
         go_roundg k1
         case measure => have := HK1.out; omega
         case rel => exact ⟨(wrap64 (x11_1 + 1)), sv_, H', ⟨by have := HK1.out; omega⟩, ⟨bes_⟩⟩
       ·replace c12 := Bool.eq_false_iff.mpr c12
        subst c12
        have H1 : (spec_l8Node.l0 k1 a1 l0 (l0.length : Int) (wrap64 (x11_1 + 1))) = some r := by rw [if_neg (show ¬ (false = true) by decide)] at H; exact H
        clear H
        have H := H1
        clear H1
        have H' := Aside0.mk H
        clear H
        have p185 : 0 ≤ (x11_1 : Int) := of_decide_eq_true am_
        have q185 : x11_1 < (l0.length : Int) := of_decide_eq_true am_
        obtain ⟨ad185, A185_2, c185_2, e185, hx185_0, hx185_1, hx185_2, hx185_3, hl185_2, hi185_2⟩ := at_T69 HR0.out x11_1 p185 q185
        cases e185
        replace hx185_0 := pw_cell_below HB.out hx185_0
        replace hx185_1 := pw_cell_below HB.out hx185_1
        replace hx185_2 := pw_cell_below HB.out hx185_2
        replace hx185_3 := pw_cell_below HB.out hx185_3
        have HR185_2 := Aside0.mk hi185_2
        have HC185_2 := Aside0.mk hl185_2
        clear hi185_2 hl185_2
        replace p185 := eq_true p185
        replace q185 := eq_true q185
        go_wp2_with (first | ((with_reducible refine gate_dst (N := 6) rfl ?_); refine box_event ?hg (N := 6) ?hd (cs := #[.string (⟨#[]⟩ : ByteArray), .int .i64 0, .slice none 0 0, .string (⟨#[]⟩ : ByteArray)]) (t := 69) ?hr ?_; (case hd => rfl); (case hg => rfl); (case hr => first | (go_simp; done) | (go_simp; rfl)); intro gb186 hg w27 hbox hb; have n0_ := Aside0.mk (below_step bel_ hb); have n1_ := Aside0.mk (hbox); have n2_ := Aside0.mk ((by rw [hg]; exact (below_size bel_) : w.heap.size ≤ gb186)); have n3_ := Aside0.mk ((by rw [hg]; exact (below_size bel_) : w.heap.size ≤ gb186)); clear HB; have HB := n0_; have BK186 := n1_; have GW186 := n2_; have GE186 := n3_; clear n0_ n1_ n2_ n3_; clear hb hbox hg; have hcz28_0 := bc4_0 BK186.out; have hcz28_1 := bc4_1 BK186.out; have hcz28_2 := bc4_2 BK186.out; have hcz28_3 := bc4_3 BK186.out; have hfz28_0 := blk_frozen BK186.out 0; have hfz28_1 := blk_frozen BK186.out 1; have hfz28_2 := blk_frozen BK186.out 2; have hfz28_3 := blk_frozen BK186.out 3) | ((with_reducible refine gate_callee (f := 133) rfl ?_); refine goesL_ (some 18) rfl rfl Tryd.func133 (by kernel_rfl) rfl #[.agg #[.string ((rd_T69 l0 x11_1).f0), .int .i64 ((rd_T69 l0 x11_1).f1), .slice A185_2 ((rd_T69 l0 x11_1).f2).length c185_2, .string ((rd_T69 l0 x11_1).f3)], .string (⟨#[105, 100]⟩ : ByteArray)] rfl au_ ?_; (with_reducible refine (spec_AttrOf.calls k1 ((rd_T69 l0 x11_1).f0) ((rd_T69 l0 x11_1).f1) _ _ ((rd_T69 l0 x11_1).f2) ((rd_T69 l0 x11_1).f3) (⟨#[105, 100]⟩ : ByteArray) t187 false _ ?side1 ?side2 A6.out).mono ?_); (case side1 => exact Kd.C_below HR185_2.out bes_); (case side2 => exact HC185_2.out); rintro e w29 ⟨rfl, hb⟩; refine ⟨_, rfl, ?_⟩; have n0_ := Aside0.mk (blk_below (g := gb186) (o := .cells #[.string ((rd_T69 l0 x11_1).f0), .int .i64 ((rd_T69 l0 x11_1).f1), .slice A185_2 ((rd_T69 l0 x11_1).f2).length c185_2, .string ((rd_T69 l0 x11_1).f3)] 69 (0, 0)) (by (with_reducible repeat (first | refine blk_drewN ?_ _ | refine blk_drew ?_ | refine blk_alloc ?_ _)); refine blk_put (cs := #[.string ((rd_T69 l0 x11_1).f0), .int .i64 ((rd_T69 l0 x11_1).f1), .slice A185_2 ((rd_T69 l0 x11_1).f2).length c185_2, .string (⟨#[]⟩ : ByteArray)]) ?_ 3 _ rfl; (with_reducible repeat (first | refine blk_drewN ?_ _ | refine blk_drew ?_ | refine blk_alloc ?_ _)); refine blk_put (cs := #[.string ((rd_T69 l0 x11_1).f0), .int .i64 ((rd_T69 l0 x11_1).f1), .slice none 0 0, .string (⟨#[]⟩ : ByteArray)]) ?_ 2 _ rfl; (with_reducible repeat (first | refine blk_drewN ?_ _ | refine blk_drew ?_ | refine blk_alloc ?_ _)); refine blk_put (cs := #[.string ((rd_T69 l0 x11_1).f0), .int .i64 0, .slice none 0 0, .string (⟨#[]⟩ : ByteArray)]) ?_ 1 _ rfl; (with_reducible repeat (first | refine blk_drewN ?_ _ | refine blk_drew ?_ | refine blk_alloc ?_ _)); refine blk_put (cs := #[.string (⟨#[]⟩ : ByteArray), .int .i64 0, .slice none 0 0, .string (⟨#[]⟩ : ByteArray)]) ?_ 0 _ rfl; (with_reducible repeat (first | refine blk_drewN ?_ _ | refine blk_drew ?_ | refine blk_alloc ?_ _)); exact BK186.out) hb); have n1_ := Aside0.mk (below_step bes_ hb); clear BK186; clear HB; have BK186 := n0_; have HB := n1_; clear n0_ n1_; (try clear hb);(try clear hb2);(try clear hk);(try clear hi); have hcz30_0 := bc4_0 BK186.out; have hcz30_1 := bc4_1 BK186.out; have hcz30_2 := bc4_2 BK186.out; have hcz30_3 := bc4_3 BK186.out; have hfz30_0 := blk_frozen BK186.out 0; have hfz30_1 := blk_frozen BK186.out 1; have hfz30_2 := blk_frozen BK186.out 2; have hfz30_3 := blk_frozen BK186.out 3))
        go_roundg k1
        case measure => have := HK1.out; omega
        case rel => exact ⟨(wrap64 (x11_1 + 1)), sv_, H', ⟨by have := HK1.out; omega⟩, ⟨bes_⟩⟩
     ·rw [if_neg c5] at H
      exact absurd H (by simp)
    ·rw [if_neg c4] at H
     exact absurd H (by simp)
   ·rw [if_neg c3] at H
    have c3b0 : decide (x11_1 < (l0.length : Int)) = false := decide_eq_false c3
    clear c3
    obtain rfl := Option.some.inj H
    go_wp2
    go_ret
    exact ⟨er_, bel_⟩

/-! ### spec_HrefOf: function 95 -/
def spec_HrefOf.f (k : Nat) (a0_0 : ByteArray) (a0_1 : Int) (l0_2 : List (S144)) (a0_3 : ByteArray) : Option (ByteArray) := (spec_AttrOf.f k a0_0 a0_1 l0_2 a0_3 (⟨#[104, 114, 101, 102]⟩ : ByteArray)).bind fun bt190 => (if bt190.2 = true then (if (bt190.1.size : Int) = 0 then (some (⟨#[]⟩ : ByteArray)) else (if 0 < (bt190.1.size : Int) then (if (bt bt190.1 0) = 35 then (if 1 ≤ (bt190.1.size : Int) then (some (bt190.1.extract 1 bt190.1.size)) else (none)) else (some (⟨#[]⟩ : ByteArray))) else (none))) else ((spec_AttrOf.f k a0_0 a0_1 l0_2 a0_3 (⟨#[120, 108, 105, 110, 107, 58, 104, 114, 101, 102]⟩ : ByteArray)).bind fun bt192 => (if (bt192.1.size : Int) = 0 then (some (⟨#[]⟩ : ByteArray)) else (if 0 < (bt192.1.size : Int) then (if (bt bt192.1 0) = 35 then (if 1 ≤ (bt192.1.size : Int) then (some (bt192.1.extract 1 bt192.1.size)) else (none)) else (some (⟨#[]⟩ : ByteArray))) else (none)))))
set_option maxHeartbeats 8000000 in
set_option maxRecDepth 100000 in
theorem spec_HrefOf.calls (k : Nat) (a0_0 : ByteArray) (a0_1 : Int) (A0_2 : Option Addr) (c0_2 : Nat) (l0_2 : List (S144)) (a0_3 : ByteArray) (r : ByteArray) (w : World) (hr0_2 : Kd.C k144 w A0_2 l0_2.length l0_2) (hc0_2 : l0_2.length ≤ c0_2) (h : spec_HrefOf.f k a0_0 a0_1 l0_2 a0_3 = some r) :
  Calls Tryd.prog 95 #[.agg #[.string a0_0, .int .i64 a0_1, .slice A0_2 l0_2.length c0_2, .string a0_3]] w fun e w' => e = .returned (.string r) ∧ Below w.heap.size w w' := by
 have hu69 := Tryd.underlying69
 have HR0_2 := Aside0.mk hr0_2
 have HC0_2 := Aside0.mk hc0_2
 clear hr0_2 hc0_2
 have HB := Aside0.mk (Below.refl w.heap.size w)
 have H : ((spec_AttrOf.f k a0_0 a0_1 l0_2 a0_3 (⟨#[104, 114, 101, 102]⟩ : ByteArray)).bind fun bt190 => (if bt190.2 = true then (if (bt190.1.size : Int) = 0 then (some (⟨#[]⟩ : ByteArray)) else (if 0 < (bt190.1.size : Int) then (if (bt bt190.1 0) = 35 then (if 1 ≤ (bt190.1.size : Int) then (some (bt190.1.extract 1 bt190.1.size)) else (none)) else (some (⟨#[]⟩ : ByteArray))) else (none))) else ((spec_AttrOf.f k a0_0 a0_1 l0_2 a0_3 (⟨#[120, 108, 105, 110, 107, 58, 104, 114, 101, 102]⟩ : ByteArray)).bind fun bt192 => (if (bt192.1.size : Int) = 0 then (some (⟨#[]⟩ : ByteArray)) else (if 0 < (bt192.1.size : Int) then (if (bt bt192.1 0) = 35 then (if 1 ≤ (bt192.1.size : Int) then (some (bt192.1.extract 1 bt192.1.size)) else (none)) else (some (⟨#[]⟩ : ByteArray))) else (none)))))) = some r := h
 clear h
 replace H := Option.bind_eq_some_iff.mp H
 obtain ⟨⟨t190, t191⟩, A20, H⟩ := H
 replace H : (if t191 = true then (if (t190.size : Int) = 0 then (some (⟨#[]⟩ : ByteArray)) else (if 0 < (t190.size : Int) then (if (bt t190 0) = 35 then (if 1 ≤ (t190.size : Int) then (some (t190.extract 1 t190.size)) else (none)) else (some (⟨#[]⟩ : ByteArray))) else (none))) else ((spec_AttrOf.f k a0_0 a0_1 l0_2 a0_3 (⟨#[120, 108, 105, 110, 107, 58, 104, 114, 101, 102]⟩ : ByteArray)).bind fun bt192 => (if (bt192.1.size : Int) = 0 then (some (⟨#[]⟩ : ByteArray)) else (if 0 < (bt192.1.size : Int) then (if (bt bt192.1 0) = 35 then (if 1 ≤ (bt192.1.size : Int) then (some (bt192.1.extract 1 bt192.1.size)) else (none)) else (some (⟨#[]⟩ : ByteArray))) else (none))))) = some r := H
 have A2 := Aside0.mk A20
 clear A20
 by_cases c3 : t191 = true
 ·subst c3
  have H1 : (if (t190.size : Int) = 0 then (some (⟨#[]⟩ : ByteArray)) else (if 0 < (t190.size : Int) then (if (bt t190 0) = 35 then (if 1 ≤ (t190.size : Int) then (some (t190.extract 1 t190.size)) else (none)) else (some (⟨#[]⟩ : ByteArray))) else (none))) = some r := by rw [if_pos rfl] at H; exact H
  clear H
  have H := H1
  clear H1
  by_cases c4 : (t190.size : Int) = 0
  ·rw [if_pos c4] at H
   have c4b0 : ((t190.size : Int) == 0) = true := beq_iff_eq.mpr c4
   have c4b1 : ((t190.size : Int) != 0) = false := bne_eq_false_iff_eq.mpr c4
   clear c4
   obtain rfl := Option.some.inj H
   go_enter Tryd.func95, Tryd.ntmps95
   go_wp2_with (first | ((with_reducible refine gate_dst (N := 1) rfl ?_); refine box_event ?hg (N := 1) ?hd (cs := #[.string a0_0, .int .i64 a0_1, .slice A0_2 l0_2.length c0_2, .string a0_3]) (t := 69) ?hr ?_; (case hd => rfl); (case hg => rfl); (case hr => first | (go_simp; done) | (go_simp; rfl)); intro gb189 hg w5 hbox hb; have n0_ := Aside0.mk (below_step bel_ hb); have n1_ := Aside0.mk (hbox); have n2_ := Aside0.mk ((by rw [hg]; exact (below_size bel_) : w.heap.size ≤ gb189)); have n3_ := Aside0.mk ((by rw [hg]; exact (below_size bel_) : w.heap.size ≤ gb189)); clear HB; have HB := n0_; have BK189 := n1_; have GW189 := n2_; have GE189 := n3_; clear n0_ n1_ n2_ n3_; clear hb hbox hg; have hcz6_0 := bc4_0 BK189.out; have hcz6_1 := bc4_1 BK189.out; have hcz6_2 := bc4_2 BK189.out; have hcz6_3 := bc4_3 BK189.out; have hfz6_0 := blk_frozen BK189.out 0; have hfz6_1 := blk_frozen BK189.out 1; have hfz6_2 := blk_frozen BK189.out 2; have hfz6_3 := blk_frozen BK189.out 3) | ((with_reducible refine gate_callee (f := 133) rfl ?_); refine goesL_ (some 7) rfl rfl Tryd.func133 (by kernel_rfl) rfl #[.agg #[.string a0_0, .int .i64 a0_1, .slice A0_2 l0_2.length c0_2, .string a0_3], .string (⟨#[104, 114, 101, 102]⟩ : ByteArray)] rfl au_ ?_; (with_reducible refine (spec_AttrOf.calls k a0_0 a0_1 _ _ l0_2 a0_3 (⟨#[104, 114, 101, 102]⟩ : ByteArray) t190 true _ ?side1 ?side2 A2.out).mono ?_); (case side1 => exact cs_ (Kd.C_below HR0_2.out HB.out)); (case side2 => exact HC0_2.out); rintro e w7 ⟨rfl, hb⟩; refine ⟨_, rfl, ?_⟩; have n0_ := Aside0.mk (blk_below (g := gb189) (o := .cells #[.string a0_0, .int .i64 a0_1, .slice A0_2 l0_2.length c0_2, .string a0_3] 69 (0, 0)) (bk_ BK189.out) hb); have n1_ := Aside0.mk (below_step bes_ hb); clear BK189; clear HB; have BK189 := n0_; have HB := n1_; clear n0_ n1_; (try clear hb);(try clear hb2);(try clear hk);(try clear hi)))
   go_ret
   exact ⟨er_, bes_⟩
  ·rw [if_neg c4] at H
   have c4b0 : ((t190.size : Int) == 0) = false := beq_eq_false_iff_ne.mpr c4
   have c4b1 : ((t190.size : Int) != 0) = true := bne_iff_ne.mpr c4
   by_cases c8 : 0 < (t190.size : Int)
   ·rw [if_pos c8] at H
    have c8b0 : decide (0 < (t190.size : Int)) = true := decide_eq_true c8
    have c8b1 : decide (0 < t190.size) = true := decide_eq_true (by omega)
    clear c8
    by_cases c10 : (bt t190 0) = 35
    ·rw [if_pos c10] at H
     have c10b0 : ((bt t190 0) == 35) = true := beq_iff_eq.mpr c10
     have c10b1 : ((bt t190 0) != 35) = false := bne_eq_false_iff_eq.mpr c10
     clear c10
     by_cases c11 : 1 ≤ (t190.size : Int)
     ·rw [if_pos c11] at H
      have c11b0 := eq_true c11
      have c11b1 : decide (1 ≤ (t190.size : Int)) = true := decide_eq_true c11
      clear c11
      obtain rfl := Option.some.inj H
      go_enter Tryd.func95, Tryd.ntmps95
      go_wp2_with (first | ((with_reducible refine gate_dst (N := 1) rfl ?_); refine box_event ?hg (N := 1) ?hd (cs := #[.string a0_0, .int .i64 a0_1, .slice A0_2 l0_2.length c0_2, .string a0_3]) (t := 69) ?hr ?_; (case hd => rfl); (case hg => rfl); (case hr => first | (go_simp; done) | (go_simp; rfl)); intro gb189 hg w12 hbox hb; have n0_ := Aside0.mk (below_step bel_ hb); have n1_ := Aside0.mk (hbox); have n2_ := Aside0.mk ((by rw [hg]; exact (below_size bel_) : w.heap.size ≤ gb189)); have n3_ := Aside0.mk ((by rw [hg]; exact (below_size bel_) : w.heap.size ≤ gb189)); clear HB; have HB := n0_; have BK189 := n1_; have GW189 := n2_; have GE189 := n3_; clear n0_ n1_ n2_ n3_; clear hb hbox hg; have hcz13_0 := bc4_0 BK189.out; have hcz13_1 := bc4_1 BK189.out; have hcz13_2 := bc4_2 BK189.out; have hcz13_3 := bc4_3 BK189.out; have hfz13_0 := blk_frozen BK189.out 0; have hfz13_1 := blk_frozen BK189.out 1; have hfz13_2 := blk_frozen BK189.out 2; have hfz13_3 := blk_frozen BK189.out 3) | ((with_reducible refine gate_callee (f := 133) rfl ?_); refine goesL_ (some 7) rfl rfl Tryd.func133 (by kernel_rfl) rfl #[.agg #[.string a0_0, .int .i64 a0_1, .slice A0_2 l0_2.length c0_2, .string a0_3], .string (⟨#[104, 114, 101, 102]⟩ : ByteArray)] rfl au_ ?_; (with_reducible refine (spec_AttrOf.calls k a0_0 a0_1 _ _ l0_2 a0_3 (⟨#[104, 114, 101, 102]⟩ : ByteArray) t190 true _ ?side1 ?side2 A2.out).mono ?_); (case side1 => exact cs_ (Kd.C_below HR0_2.out HB.out)); (case side2 => exact HC0_2.out); rintro e w14 ⟨rfl, hb⟩; refine ⟨_, rfl, ?_⟩; have n0_ := Aside0.mk (blk_below (g := gb189) (o := .cells #[.string a0_0, .int .i64 a0_1, .slice A0_2 l0_2.length c0_2, .string a0_3] 69 (0, 0)) (bk_ BK189.out) hb); have n1_ := Aside0.mk (below_step bes_ hb); clear BK189; clear HB; have BK189 := n0_; have HB := n1_; clear n0_ n1_; (try clear hb);(try clear hb2);(try clear hk);(try clear hi); have p9 : 0 ≤ (0 : Int) := (by omega); have q9 : 0 < t190.size := (by have : (0 : Int) < (t190.size : Int) := of_decide_eq_true am_; omega); have hx9 : ∀ h : 0 < t190.size, ((t190[0]'h).toNat : Int) = bt t190 0 := bt_at t190 0; clear p9; have qi9 : (0 < (t190.size : Int)) = True := eq_true (of_decide_eq_true am_); replace q9 := eq_true q9))
      go_ret
      exact ⟨er_, bes_⟩
     ·rw [if_neg c11] at H
      exact absurd H (by simp)
    ·rw [if_neg c10] at H
     have c10b0 : ((bt t190 0) == 35) = false := beq_eq_false_iff_ne.mpr c10
     have c10b1 : ((bt t190 0) != 35) = true := bne_iff_ne.mpr c10
     obtain rfl := Option.some.inj H
     go_enter Tryd.func95, Tryd.ntmps95
     go_wp2_with (first | ((with_reducible refine gate_dst (N := 1) rfl ?_); refine box_event ?hg (N := 1) ?hd (cs := #[.string a0_0, .int .i64 a0_1, .slice A0_2 l0_2.length c0_2, .string a0_3]) (t := 69) ?hr ?_; (case hd => rfl); (case hg => rfl); (case hr => first | (go_simp; done) | (go_simp; rfl)); intro gb189 hg w15 hbox hb; have n0_ := Aside0.mk (below_step bel_ hb); have n1_ := Aside0.mk (hbox); have n2_ := Aside0.mk ((by rw [hg]; exact (below_size bel_) : w.heap.size ≤ gb189)); have n3_ := Aside0.mk ((by rw [hg]; exact (below_size bel_) : w.heap.size ≤ gb189)); clear HB; have HB := n0_; have BK189 := n1_; have GW189 := n2_; have GE189 := n3_; clear n0_ n1_ n2_ n3_; clear hb hbox hg; have hcz16_0 := bc4_0 BK189.out; have hcz16_1 := bc4_1 BK189.out; have hcz16_2 := bc4_2 BK189.out; have hcz16_3 := bc4_3 BK189.out; have hfz16_0 := blk_frozen BK189.out 0; have hfz16_1 := blk_frozen BK189.out 1; have hfz16_2 := blk_frozen BK189.out 2; have hfz16_3 := blk_frozen BK189.out 3) | ((with_reducible refine gate_callee (f := 133) rfl ?_); refine goesL_ (some 7) rfl rfl Tryd.func133 (by kernel_rfl) rfl #[.agg #[.string a0_0, .int .i64 a0_1, .slice A0_2 l0_2.length c0_2, .string a0_3], .string (⟨#[104, 114, 101, 102]⟩ : ByteArray)] rfl au_ ?_; (with_reducible refine (spec_AttrOf.calls k a0_0 a0_1 _ _ l0_2 a0_3 (⟨#[104, 114, 101, 102]⟩ : ByteArray) t190 true _ ?side1 ?side2 A2.out).mono ?_); (case side1 => exact cs_ (Kd.C_below HR0_2.out HB.out)); (case side2 => exact HC0_2.out); rintro e w17 ⟨rfl, hb⟩; refine ⟨_, rfl, ?_⟩; have n0_ := Aside0.mk (blk_below (g := gb189) (o := .cells #[.string a0_0, .int .i64 a0_1, .slice A0_2 l0_2.length c0_2, .string a0_3] 69 (0, 0)) (bk_ BK189.out) hb); have n1_ := Aside0.mk (below_step bes_ hb); clear BK189; clear HB; have BK189 := n0_; have HB := n1_; clear n0_ n1_; (try clear hb);(try clear hb2);(try clear hk);(try clear hi); have p9 : 0 ≤ (0 : Int) := (by omega); have q9 : 0 < t190.size := (by have : (0 : Int) < (t190.size : Int) := of_decide_eq_true am_; omega); have hx9 : ∀ h : 0 < t190.size, ((t190[0]'h).toNat : Int) = bt t190 0 := bt_at t190 0; clear p9; have qi9 : (0 < (t190.size : Int)) = True := eq_true (of_decide_eq_true am_); replace q9 := eq_true q9))
     go_ret
     exact ⟨er_, bes_⟩
   ·rw [if_neg c8] at H
    exact absurd H (by simp)
 ·replace c3 := Bool.eq_false_iff.mpr c3
  subst c3
  have H1 : ((spec_AttrOf.f k a0_0 a0_1 l0_2 a0_3 (⟨#[120, 108, 105, 110, 107, 58, 104, 114, 101, 102]⟩ : ByteArray)).bind fun bt192 => (if (bt192.1.size : Int) = 0 then (some (⟨#[]⟩ : ByteArray)) else (if 0 < (bt192.1.size : Int) then (if (bt bt192.1 0) = 35 then (if 1 ≤ (bt192.1.size : Int) then (some (bt192.1.extract 1 bt192.1.size)) else (none)) else (some (⟨#[]⟩ : ByteArray))) else (none)))) = some r := by rw [if_neg (show ¬ (false = true) by decide)] at H; exact H
  clear H
  have H := H1
  clear H1
  replace H := Option.bind_eq_some_iff.mp H
  obtain ⟨⟨t192, t193⟩, A180, H⟩ := H
  replace H : (if (t192.size : Int) = 0 then (some (⟨#[]⟩ : ByteArray)) else (if 0 < (t192.size : Int) then (if (bt t192 0) = 35 then (if 1 ≤ (t192.size : Int) then (some (t192.extract 1 t192.size)) else (none)) else (some (⟨#[]⟩ : ByteArray))) else (none))) = some r := H
  have A18 := Aside0.mk A180
  clear A180
  by_cases c19 : (t192.size : Int) = 0
  ·rw [if_pos c19] at H
   have c19b0 : ((t192.size : Int) == 0) = true := beq_iff_eq.mpr c19
   have c19b1 : ((t192.size : Int) != 0) = false := bne_eq_false_iff_eq.mpr c19
   clear c19
   obtain rfl := Option.some.inj H
   go_enter Tryd.func95, Tryd.ntmps95
   go_wp2_with (first | ((with_reducible refine gate_dst (N := 1) rfl ?_); refine box_event ?hg (N := 1) ?hd (cs := #[.string a0_0, .int .i64 a0_1, .slice A0_2 l0_2.length c0_2, .string a0_3]) (t := 69) ?hr ?_; (case hd => rfl); (case hg => rfl); (case hr => first | (go_simp; done) | (go_simp; rfl)); intro gb189 hg w20 hbox hb; have n0_ := Aside0.mk (below_step bel_ hb); have n1_ := Aside0.mk (hbox); have n2_ := Aside0.mk ((by rw [hg]; exact (below_size bel_) : w.heap.size ≤ gb189)); have n3_ := Aside0.mk ((by rw [hg]; exact (below_size bel_) : w.heap.size ≤ gb189)); clear HB; have HB := n0_; have BK189 := n1_; have GW189 := n2_; have GE189 := n3_; clear n0_ n1_ n2_ n3_; clear hb hbox hg; have hcz21_0 := bc4_0 BK189.out; have hcz21_1 := bc4_1 BK189.out; have hcz21_2 := bc4_2 BK189.out; have hcz21_3 := bc4_3 BK189.out; have hfz21_0 := blk_frozen BK189.out 0; have hfz21_1 := blk_frozen BK189.out 1; have hfz21_2 := blk_frozen BK189.out 2; have hfz21_3 := blk_frozen BK189.out 3) | ((with_reducible refine gate_callee (f := 133) rfl ?_); refine goesL_ (some 7) rfl rfl Tryd.func133 (by kernel_rfl) rfl #[.agg #[.string a0_0, .int .i64 a0_1, .slice A0_2 l0_2.length c0_2, .string a0_3], .string (⟨#[104, 114, 101, 102]⟩ : ByteArray)] rfl au_ ?_; (with_reducible refine (spec_AttrOf.calls k a0_0 a0_1 _ _ l0_2 a0_3 (⟨#[104, 114, 101, 102]⟩ : ByteArray) t190 false _ ?side1 ?side2 A2.out).mono ?_); (case side1 => exact cs_ (Kd.C_below HR0_2.out HB.out)); (case side2 => exact HC0_2.out); rintro e w22 ⟨rfl, hb⟩; refine ⟨_, rfl, ?_⟩; have n0_ := Aside0.mk (blk_below (g := gb189) (o := .cells #[.string a0_0, .int .i64 a0_1, .slice A0_2 l0_2.length c0_2, .string a0_3] 69 (0, 0)) (bk_ BK189.out) hb); have n1_ := Aside0.mk (below_step bes_ hb); clear BK189; clear HB; have BK189 := n0_; have HB := n1_; clear n0_ n1_; (try clear hb);(try clear hb2);(try clear hk);(try clear hi); have hcz23_0 := bc4_0 BK189.out; have hcz23_1 := bc4_1 BK189.out; have hcz23_2 := bc4_2 BK189.out; have hcz23_3 := bc4_3 BK189.out; have hfz23_0 := blk_frozen BK189.out 0; have hfz23_1 := blk_frozen BK189.out 1; have hfz23_2 := blk_frozen BK189.out 2; have hfz23_3 := blk_frozen BK189.out 3) | ((with_reducible refine gate_callee (f := 133) rfl ?_); refine goesL_ (some 14) rfl rfl Tryd.func133 (by kernel_rfl) rfl #[.agg #[.string a0_0, .int .i64 a0_1, .slice A0_2 l0_2.length c0_2, .string a0_3], .string (⟨#[120, 108, 105, 110, 107, 58, 104, 114, 101, 102]⟩ : ByteArray)] rfl au_ ?_; (with_reducible refine (spec_AttrOf.calls k a0_0 a0_1 _ _ l0_2 a0_3 (⟨#[120, 108, 105, 110, 107, 58, 104, 114, 101, 102]⟩ : ByteArray) t192 t193 _ ?side1 ?side2 A18.out).mono ?_); (case side1 => exact cs_ (Kd.C_below HR0_2.out HB.out)); (case side2 => exact HC0_2.out); rintro e w24 ⟨rfl, hb⟩; refine ⟨_, rfl, ?_⟩; have n0_ := Aside0.mk (blk_below (g := gb189) (o := .cells #[.string a0_0, .int .i64 a0_1, .slice A0_2 l0_2.length c0_2, .string a0_3] 69 (0, 0)) (bk_ BK189.out) hb); have n1_ := Aside0.mk (below_step bes_ hb); clear BK189; clear HB; have BK189 := n0_; have HB := n1_; clear n0_ n1_; (try clear hb);(try clear hb2);(try clear hk);(try clear hi)))
   go_ret
   exact ⟨er_, bes_⟩
  ·rw [if_neg c19] at H
   have c19b0 : ((t192.size : Int) == 0) = false := beq_eq_false_iff_ne.mpr c19
   have c19b1 : ((t192.size : Int) != 0) = true := bne_iff_ne.mpr c19
   by_cases c25 : 0 < (t192.size : Int)
   ·rw [if_pos c25] at H
    have c25b0 : decide (0 < (t192.size : Int)) = true := decide_eq_true c25
    have c25b1 : decide (0 < t192.size) = true := decide_eq_true (by omega)
    clear c25
    by_cases c27 : (bt t192 0) = 35
    ·rw [if_pos c27] at H
     have c27b0 : ((bt t192 0) == 35) = true := beq_iff_eq.mpr c27
     have c27b1 : ((bt t192 0) != 35) = false := bne_eq_false_iff_eq.mpr c27
     clear c27
     by_cases c28 : 1 ≤ (t192.size : Int)
     ·rw [if_pos c28] at H
      have c28b0 := eq_true c28
      have c28b1 : decide (1 ≤ (t192.size : Int)) = true := decide_eq_true c28
      clear c28
      obtain rfl := Option.some.inj H
      go_enter Tryd.func95, Tryd.ntmps95
      go_wp2_with (first | ((with_reducible refine gate_dst (N := 1) rfl ?_); refine box_event ?hg (N := 1) ?hd (cs := #[.string a0_0, .int .i64 a0_1, .slice A0_2 l0_2.length c0_2, .string a0_3]) (t := 69) ?hr ?_; (case hd => rfl); (case hg => rfl); (case hr => first | (go_simp; done) | (go_simp; rfl)); intro gb189 hg w29 hbox hb; have n0_ := Aside0.mk (below_step bel_ hb); have n1_ := Aside0.mk (hbox); have n2_ := Aside0.mk ((by rw [hg]; exact (below_size bel_) : w.heap.size ≤ gb189)); have n3_ := Aside0.mk ((by rw [hg]; exact (below_size bel_) : w.heap.size ≤ gb189)); clear HB; have HB := n0_; have BK189 := n1_; have GW189 := n2_; have GE189 := n3_; clear n0_ n1_ n2_ n3_; clear hb hbox hg; have hcz30_0 := bc4_0 BK189.out; have hcz30_1 := bc4_1 BK189.out; have hcz30_2 := bc4_2 BK189.out; have hcz30_3 := bc4_3 BK189.out; have hfz30_0 := blk_frozen BK189.out 0; have hfz30_1 := blk_frozen BK189.out 1; have hfz30_2 := blk_frozen BK189.out 2; have hfz30_3 := blk_frozen BK189.out 3) | ((with_reducible refine gate_callee (f := 133) rfl ?_); refine goesL_ (some 7) rfl rfl Tryd.func133 (by kernel_rfl) rfl #[.agg #[.string a0_0, .int .i64 a0_1, .slice A0_2 l0_2.length c0_2, .string a0_3], .string (⟨#[104, 114, 101, 102]⟩ : ByteArray)] rfl au_ ?_; (with_reducible refine (spec_AttrOf.calls k a0_0 a0_1 _ _ l0_2 a0_3 (⟨#[104, 114, 101, 102]⟩ : ByteArray) t190 false _ ?side1 ?side2 A2.out).mono ?_); (case side1 => exact cs_ (Kd.C_below HR0_2.out HB.out)); (case side2 => exact HC0_2.out); rintro e w31 ⟨rfl, hb⟩; refine ⟨_, rfl, ?_⟩; have n0_ := Aside0.mk (blk_below (g := gb189) (o := .cells #[.string a0_0, .int .i64 a0_1, .slice A0_2 l0_2.length c0_2, .string a0_3] 69 (0, 0)) (bk_ BK189.out) hb); have n1_ := Aside0.mk (below_step bes_ hb); clear BK189; clear HB; have BK189 := n0_; have HB := n1_; clear n0_ n1_; (try clear hb);(try clear hb2);(try clear hk);(try clear hi); have hcz32_0 := bc4_0 BK189.out; have hcz32_1 := bc4_1 BK189.out; have hcz32_2 := bc4_2 BK189.out; have hcz32_3 := bc4_3 BK189.out; have hfz32_0 := blk_frozen BK189.out 0; have hfz32_1 := blk_frozen BK189.out 1; have hfz32_2 := blk_frozen BK189.out 2; have hfz32_3 := blk_frozen BK189.out 3) | ((with_reducible refine gate_callee (f := 133) rfl ?_); refine goesL_ (some 14) rfl rfl Tryd.func133 (by kernel_rfl) rfl #[.agg #[.string a0_0, .int .i64 a0_1, .slice A0_2 l0_2.length c0_2, .string a0_3], .string (⟨#[120, 108, 105, 110, 107, 58, 104, 114, 101, 102]⟩ : ByteArray)] rfl au_ ?_; (with_reducible refine (spec_AttrOf.calls k a0_0 a0_1 _ _ l0_2 a0_3 (⟨#[120, 108, 105, 110, 107, 58, 104, 114, 101, 102]⟩ : ByteArray) t192 t193 _ ?side1 ?side2 A18.out).mono ?_); (case side1 => exact cs_ (Kd.C_below HR0_2.out HB.out)); (case side2 => exact HC0_2.out); rintro e w33 ⟨rfl, hb⟩; refine ⟨_, rfl, ?_⟩; have n0_ := Aside0.mk (blk_below (g := gb189) (o := .cells #[.string a0_0, .int .i64 a0_1, .slice A0_2 l0_2.length c0_2, .string a0_3] 69 (0, 0)) (bk_ BK189.out) hb); have n1_ := Aside0.mk (below_step bes_ hb); clear BK189; clear HB; have BK189 := n0_; have HB := n1_; clear n0_ n1_; (try clear hb);(try clear hb2);(try clear hk);(try clear hi); have p26 : 0 ≤ (0 : Int) := (by omega); have q26 : 0 < t192.size := (by have : (0 : Int) < (t192.size : Int) := of_decide_eq_true am_; omega); have hx26 : ∀ h : 0 < t192.size, ((t192[0]'h).toNat : Int) = bt t192 0 := bt_at t192 0; clear p26; have qi26 : (0 < (t192.size : Int)) = True := eq_true (of_decide_eq_true am_); replace q26 := eq_true q26))
      go_ret
      exact ⟨er_, bes_⟩
     ·rw [if_neg c28] at H
      exact absurd H (by simp)
    ·rw [if_neg c27] at H
     have c27b0 : ((bt t192 0) == 35) = false := beq_eq_false_iff_ne.mpr c27
     have c27b1 : ((bt t192 0) != 35) = true := bne_iff_ne.mpr c27
     obtain rfl := Option.some.inj H
     go_enter Tryd.func95, Tryd.ntmps95
     go_wp2_with (first | ((with_reducible refine gate_dst (N := 1) rfl ?_); refine box_event ?hg (N := 1) ?hd (cs := #[.string a0_0, .int .i64 a0_1, .slice A0_2 l0_2.length c0_2, .string a0_3]) (t := 69) ?hr ?_; (case hd => rfl); (case hg => rfl); (case hr => first | (go_simp; done) | (go_simp; rfl)); intro gb189 hg w34 hbox hb; have n0_ := Aside0.mk (below_step bel_ hb); have n1_ := Aside0.mk (hbox); have n2_ := Aside0.mk ((by rw [hg]; exact (below_size bel_) : w.heap.size ≤ gb189)); have n3_ := Aside0.mk ((by rw [hg]; exact (below_size bel_) : w.heap.size ≤ gb189)); clear HB; have HB := n0_; have BK189 := n1_; have GW189 := n2_; have GE189 := n3_; clear n0_ n1_ n2_ n3_; clear hb hbox hg; have hcz35_0 := bc4_0 BK189.out; have hcz35_1 := bc4_1 BK189.out; have hcz35_2 := bc4_2 BK189.out; have hcz35_3 := bc4_3 BK189.out; have hfz35_0 := blk_frozen BK189.out 0; have hfz35_1 := blk_frozen BK189.out 1; have hfz35_2 := blk_frozen BK189.out 2; have hfz35_3 := blk_frozen BK189.out 3) | ((with_reducible refine gate_callee (f := 133) rfl ?_); refine goesL_ (some 7) rfl rfl Tryd.func133 (by kernel_rfl) rfl #[.agg #[.string a0_0, .int .i64 a0_1, .slice A0_2 l0_2.length c0_2, .string a0_3], .string (⟨#[104, 114, 101, 102]⟩ : ByteArray)] rfl au_ ?_; (with_reducible refine (spec_AttrOf.calls k a0_0 a0_1 _ _ l0_2 a0_3 (⟨#[104, 114, 101, 102]⟩ : ByteArray) t190 false _ ?side1 ?side2 A2.out).mono ?_); (case side1 => exact cs_ (Kd.C_below HR0_2.out HB.out)); (case side2 => exact HC0_2.out); rintro e w36 ⟨rfl, hb⟩; refine ⟨_, rfl, ?_⟩; have n0_ := Aside0.mk (blk_below (g := gb189) (o := .cells #[.string a0_0, .int .i64 a0_1, .slice A0_2 l0_2.length c0_2, .string a0_3] 69 (0, 0)) (bk_ BK189.out) hb); have n1_ := Aside0.mk (below_step bes_ hb); clear BK189; clear HB; have BK189 := n0_; have HB := n1_; clear n0_ n1_; (try clear hb);(try clear hb2);(try clear hk);(try clear hi); have hcz37_0 := bc4_0 BK189.out; have hcz37_1 := bc4_1 BK189.out; have hcz37_2 := bc4_2 BK189.out; have hcz37_3 := bc4_3 BK189.out; have hfz37_0 := blk_frozen BK189.out 0; have hfz37_1 := blk_frozen BK189.out 1; have hfz37_2 := blk_frozen BK189.out 2; have hfz37_3 := blk_frozen BK189.out 3) | ((with_reducible refine gate_callee (f := 133) rfl ?_); refine goesL_ (some 14) rfl rfl Tryd.func133 (by kernel_rfl) rfl #[.agg #[.string a0_0, .int .i64 a0_1, .slice A0_2 l0_2.length c0_2, .string a0_3], .string (⟨#[120, 108, 105, 110, 107, 58, 104, 114, 101, 102]⟩ : ByteArray)] rfl au_ ?_; (with_reducible refine (spec_AttrOf.calls k a0_0 a0_1 _ _ l0_2 a0_3 (⟨#[120, 108, 105, 110, 107, 58, 104, 114, 101, 102]⟩ : ByteArray) t192 t193 _ ?side1 ?side2 A18.out).mono ?_); (case side1 => exact cs_ (Kd.C_below HR0_2.out HB.out)); (case side2 => exact HC0_2.out); rintro e w38 ⟨rfl, hb⟩; refine ⟨_, rfl, ?_⟩; have n0_ := Aside0.mk (blk_below (g := gb189) (o := .cells #[.string a0_0, .int .i64 a0_1, .slice A0_2 l0_2.length c0_2, .string a0_3] 69 (0, 0)) (bk_ BK189.out) hb); have n1_ := Aside0.mk (below_step bes_ hb); clear BK189; clear HB; have BK189 := n0_; have HB := n1_; clear n0_ n1_; (try clear hb);(try clear hb2);(try clear hk);(try clear hi); have p26 : 0 ≤ (0 : Int) := (by omega); have q26 : 0 < t192.size := (by have : (0 : Int) < (t192.size : Int) := of_decide_eq_true am_; omega); have hx26 : ∀ h : 0 < t192.size, ((t192[0]'h).toNat : Int) = bt t192 0 := bt_at t192 0; clear p26; have qi26 : (0 < (t192.size : Int)) = True := eq_true (of_decide_eq_true am_); replace q26 := eq_true q26))
     go_ret
     exact ⟨er_, bes_⟩
   ·rw [if_neg c25] at H
    exact absurd H (by simp)

end Go.Proofs.YtooilehdljeepaaDoor.PFnExactHasCycle
