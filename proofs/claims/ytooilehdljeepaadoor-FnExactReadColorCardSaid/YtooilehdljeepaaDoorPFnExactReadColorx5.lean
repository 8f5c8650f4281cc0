-- Laid by a program of this session out of the translation (its own run of the print). Lean checks it.
import Derived.Test.YtooilehdljeepaaDoorPFnExactReadColorx0
import Derived.Test.YtooilehdljeepaaDoorPFnExactReadColorx4
namespace Go.Proofs.YtooilehdljeepaaDoor.PFnExactReadColor
open Go.RowKit Go.Proofs.YtooilehdljeepaaDoorW.PrintWords Go.Proofs.YtooilehdljeepaaDoorW.PrintLast Go.Proofs.YtooilehdljeepaaDoorW.PrintMore
attribute [local go_sem] max2_int min2_int max_two min_two max_three min_three max_four min_four   -- for this text's walks alone
set_option linter.unusedVariables false
set_option linter.unusedSimpArgs false

/-! ### spec_ReadColor: function 7 -/
def spec_ReadColor.f (k : Nat) (a0 : ByteArray) : Option (Int × Int × Int × Bool) := if (a0.size : Int) > 600 then (some (0, 0, 0, false)) else ((spec_l7Color.f k a0).bind fun bt161 => (some (bt161.1, bt161.2.1, bt161.2.2.1, bt161.2.2.2)))
set_option maxHeartbeats 8000000 in
set_option maxRecDepth 100000 in
theorem spec_ReadColor.calls (k : Nat) (a0 : ByteArray) (r1 : Int) (r2 : Int) (r3 : Int) (r4 : Bool) (w : World) (h : spec_ReadColor.f k a0 = some (r1, r2, r3, r4)) :
  Calls Tryd.prog 7 #[.string a0] w fun e w' => e = .returned (.tuple #[.agg #[.int .i64 r1, .int .i64 r2, .int .i64 r3], .bool r4]) ∧ Below w.heap.size w w' := by
 have hu23 := Tryd.underlying23
 have HB := Aside0.mk (Below.refl w.heap.size w)
 have H : (if (a0.size : Int) > 600 then (some (0, 0, 0, false)) else ((spec_l7Color.f k a0).bind fun bt161 => (some (bt161.1, bt161.2.1, bt161.2.2.1, bt161.2.2.2)))) = some (r1, r2, r3, r4) := h
 clear h
 by_cases c2 : (a0.size : Int) > 600
 ·rw [if_pos c2] at H
  have c2b0 : decide (600 < (a0.size : Int)) = true := decide_eq_true c2
  have c2b1 : decide (600 < a0.size) = true := decide_eq_true (by omega)
  clear c2
  simp only [Option.some.injEq, Prod.mk.injEq] at H
  obtain ⟨rfl, rfl, rfl, rfl⟩ := H
  go_enter Tryd.func7, Tryd.ntmps7
  go_wp2_with (first | ((with_reducible refine gate_dst (N := 2) rfl ?_); refine box_event ?hg (N := 2) ?hd (cs := #[.int .i64 0, .int .i64 0, .int .i64 0]) (t := 23) ?hr ?_; (case hd => rfl); (case hg => rfl); (case hr => first | (go_simp; done) | (go_simp; rfl)); intro gb160 hg w3 hbox hb; have n0_ := Aside0.mk (below_step (by repeat (first | (with_reducible first | exact HB.out | apply below_alloc | apply pw_below_drewN | apply below_drew1) | exact HB.out)) hb); have n1_ := Aside0.mk (hbox); have n2_ := Aside0.mk ((by rw [hg]; exact (below_size (by repeat (first | (with_reducible first | exact HB.out | apply below_alloc | apply pw_below_drewN | apply below_drew1) | exact HB.out))) : w.heap.size ≤ gb160)); have n3_ := Aside0.mk ((by rw [hg]; exact (below_size (by repeat (first | (with_reducible first | exact HB.out | apply below_alloc | apply pw_below_drewN | apply below_drew1) | exact HB.out))) : w.heap.size ≤ gb160)); clear HB; have HB := n0_; have BK160 := n1_; have GW160 := n2_; have GE160 := n3_; clear n0_ n1_ n2_ n3_; clear hb hbox hg; have hcz4_0 : w3.cell? ⟨gb160, 0, none⟩ = some (.int .i64 0) := (blk_cell BK160.out 0).trans rfl; have hcz4_1 : w3.cell? ⟨gb160, 1, none⟩ = some (.int .i64 0) := (blk_cell BK160.out 1).trans rfl; have hcz4_2 : w3.cell? ⟨gb160, 2, none⟩ = some (.int .i64 0) := (blk_cell BK160.out 2).trans rfl; have hfz4_0 := blk_frozen BK160.out 0; have hfz4_1 := blk_frozen BK160.out 1; have hfz4_2 := blk_frozen BK160.out 2))
  refine bodyPost_ret (results_ct rfl _ _ gb160 23 #[.int .i64 0, .int .i64 0, .int .i64 0] (0, 0) _ rfl (by (with_reducible repeat (first | refine blk_drewN ?_ _ | refine blk_drew ?_ | refine blk_alloc ?_ _)); refine blk_put (cs := #[.int .i64 0, .int .i64 0, .int .i64 0]) ?_ 2 _ rfl; (with_reducible repeat (first | refine blk_drewN ?_ _ | refine blk_drew ?_ | refine blk_alloc ?_ _)); refine blk_put (cs := #[.int .i64 0, .int .i64 0, .int .i64 0]) ?_ 1 _ rfl; (with_reducible repeat (first | refine blk_drewN ?_ _ | refine blk_drew ?_ | refine blk_alloc ?_ _)); refine blk_put (cs := #[.int .i64 0, .int .i64 0, .int .i64 0]) ?_ 0 _ rfl; (with_reducible repeat (first | refine blk_drewN ?_ _ | refine blk_drew ?_ | refine blk_alloc ?_ _)); exact BK160.out) Tryd.underlying23 rfl (by kernel_rfl)) rfl ?_
  exact ⟨by first | rfl | (simp [errW_none, errW_some] <;> rfl) | (simp [*, errW_none, errW_some] <;> rfl), by repeat (first | (with_reducible first | exact HB.out | apply below_alloc | apply pw_below_drewN | apply below_drew1 | refine below_set ?_ GE160.out) | exact HB.out)⟩
 ·rw [if_neg c2] at H
  have c2b0 : decide (600 < (a0.size : Int)) = false := decide_eq_false c2
  have c2b1 : decide (600 < a0.size) = false := decide_eq_false (by omega)
  clear c2
  replace H := Option.bind_eq_some_iff.mp H
  obtain ⟨⟨t161, t162, t163, t164⟩, A50, H⟩ := H
  replace H : (some (t161, t162, t163, t164)) = some (r1, r2, r3, r4) := H
  have A5 := Aside0.mk A50
  clear A50
  simp only [Option.some.injEq, Prod.mk.injEq] at H
  obtain ⟨rfl, rfl, rfl, rfl⟩ := H
  go_enter Tryd.func7, Tryd.ntmps7
  go_wp2_with (first | ((with_reducible refine gate_dst (N := 2) rfl ?_); refine box_event ?hg (N := 2) ?hd (cs := #[.int .i64 0, .int .i64 0, .int .i64 0]) (t := 23) ?hr ?_; (case hd => rfl); (case hg => rfl); (case hr => first | (go_simp; done) | (go_simp; rfl)); intro gb160 hg w6 hbox hb; have n0_ := Aside0.mk (below_step (by repeat (first | (with_reducible first | exact HB.out | apply below_alloc | apply pw_below_drewN | apply below_drew1) | exact HB.out)) hb); have n1_ := Aside0.mk (hbox); have n2_ := Aside0.mk ((by rw [hg]; exact (below_size (by repeat (first | (with_reducible first | exact HB.out | apply below_alloc | apply pw_below_drewN | apply below_drew1) | exact HB.out))) : w.heap.size ≤ gb160)); have n3_ := Aside0.mk ((by rw [hg]; exact (below_size (by repeat (first | (with_reducible first | exact HB.out | apply below_alloc | apply pw_below_drewN | apply below_drew1) | exact HB.out))) : w.heap.size ≤ gb160)); clear HB; have HB := n0_; have BK160 := n1_; have GW160 := n2_; have GE160 := n3_; clear n0_ n1_ n2_ n3_; clear hb hbox hg) | ((with_reducible refine gate_callee (f := 25) rfl ?_); refine goesL_ (some 9) rfl rfl Tryd.func25 (by kernel_rfl) rfl #[.string a0] rfl (by (try simp only [List.map_toArray, List.map_cons, List.map_nil]); first | done | rfl | (simp only [List.length_drop, List.length_take]; rfl)) ?_; (with_reducible refine (spec_l7Color.calls k a0 t161 t162 t163 t164 _ A5.out).mono ?_); rintro e w7 ⟨rfl, hb⟩; refine ⟨_, rfl, ?_⟩; have n0_ := Aside0.mk (blk_below (g := gb160) (o := .cells #[.int .i64 0, .int .i64 0, .int .i64 0] 23 (0, 0)) (by (with_reducible repeat (first | refine blk_drewN ?_ _ | refine blk_drew ?_ | refine blk_alloc ?_ _)); exact BK160.out) hb); have n1_ := Aside0.mk (below_step (by repeat (first | (with_reducible first | exact HB.out | apply below_alloc | apply pw_below_drewN | apply below_drew1 | refine below_set ?_ GE160.out) | exact HB.out)) hb); clear BK160; clear HB; have BK160 := n0_; have HB := n1_; clear n0_ n1_; (try clear hb); (try clear hb2); (try clear hk); (try clear hi); have hcz8_0 : w7.cell? ⟨gb160, 0, none⟩ = some (.int .i64 0) := (blk_cell BK160.out 0).trans rfl; have hcz8_1 : w7.cell? ⟨gb160, 1, none⟩ = some (.int .i64 0) := (blk_cell BK160.out 1).trans rfl; have hcz8_2 : w7.cell? ⟨gb160, 2, none⟩ = some (.int .i64 0) := (blk_cell BK160.out 2).trans rfl; have hfz8_0 := blk_frozen BK160.out 0; have hfz8_1 := blk_frozen BK160.out 1; have hfz8_2 := blk_frozen BK160.out 2))
  refine bodyPost_ret (results_ct rfl _ _ gb160 23 #[.int .i64 t161, .int .i64 t162, .int .i64 t163] (0, 0) _ rfl (by (with_reducible repeat (first | refine blk_drewN ?_ _ | refine blk_drew ?_ | refine blk_alloc ?_ _)); refine blk_put (cs := #[.int .i64 t161, .int .i64 t162, .int .i64 0]) ?_ 2 _ rfl; (with_reducible repeat (first | refine blk_drewN ?_ _ | refine blk_drew ?_ | refine blk_alloc ?_ _)); refine blk_put (cs := #[.int .i64 t161, .int .i64 0, .int .i64 0]) ?_ 1 _ rfl; (with_reducible repeat (first | refine blk_drewN ?_ _ | refine blk_drew ?_ | refine blk_alloc ?_ _)); refine blk_put (cs := #[.int .i64 0, .int .i64 0, .int .i64 0]) ?_ 0 _ rfl; (with_reducible repeat (first | refine blk_drewN ?_ _ | refine blk_drew ?_ | refine blk_alloc ?_ _)); exact BK160.out) Tryd.underlying23 rfl (by kernel_rfl)) rfl ?_
  exact ⟨by first | rfl | (simp [errW_none, errW_some] <;> rfl) | (simp [*, errW_none, errW_some] <;> rfl), by repeat (first | (with_reducible first | exact HB.out | apply below_alloc | apply pw_below_drewN | apply below_drew1 | refine below_set ?_ GE160.out) | exact HB.out)⟩

-- NOT PRINTED: function 115 (strings_trimLeftByte)

-- NOT PRINTED: function 116 (strings_trimRightByte)

-- NOT PRINTED: function 117 (strings_makeASCIISet)

-- NOT PRINTED: function 156 (strings_asciiSet_contains)

-- NOT PRINTED: function 118 (strings_trimLeftASCII)

-- NOT PRINTED: function 119 (strings_trimRightASCII)

-- NOT PRINTED: function 162 (utf8_decodeRuneInStringSlow)

-- NOT PRINTED: function 137 (utf8_DecodeRuneInString)

-- NOT PRINTED: function 177 (bytealg_IndexString)

-- NOT PRINTED: function 178 (bytealg_Cutover)

-- NOT PRINTED: function 191 (bytealg_IndexByteString)

-- NOT PRINTED: function 176 (stringslite_IndexByte)

-- NOT PRINTED: function 193 (strings_IndexByte)

-- NOT PRINTED: function 194 (utf8_ValidRune)

-- NOT PRINTED: function 181 (strings_IndexRune)

-- NOT PRINTED: function 157 (strings_ContainsRune)

-- NOT PRINTED: function 120 (strings_trimLeftUnicode)

-- NOT PRINTED: function 182 (utf8_RuneStart)

-- NOT PRINTED: function 158 (utf8_DecodeLastRuneInString)

-- NOT PRINTED: function 121 (strings_trimRightUnicode)

-- NOT PRINTED: function 67 (strings_Trim)

/-! ### impl_trimmed: function 26 -/
def laid227_ren_ : Go.Shelf.Ren := ⟨fun | 227 => 117 | n => n, fun | 116 => 133 | n => n, fun | 1 => 0 | 3 => 1 | 4 => 2 | n => n⟩
theorem laid227_ : Go.Proofs.Lays.n227 Tryd.prog laid227_ren_ := {
 mixed := by kernel_rfl
 f227 := Tryd.func117.trans (congrArg some (by kernel_rfl))
 t0 := Tryd.underlying0
 a0 := Tryd.isAgg0
 z0 := Tryd.sizeOf0
 v0 := Tryd.zeroValue0
 t3 := Tryd.underlying3
 a3 := Tryd.isAgg3
 z3 := Tryd.sizeOf3
 v3 := Tryd.zeroValue3
 t4 := Tryd.underlying4
 a4 := Tryd.isAgg4
 z4 := Tryd.sizeOf4
 v4 := Tryd.zeroValue4
 t5 := Tryd.underlying5
 a5 := Tryd.isAgg5
 z5 := Tryd.sizeOf5
 v5 := Tryd.zeroValue5
 t9 := Tryd.underlying9
 a9 := Tryd.isAgg9
 z9 := Tryd.sizeOf9
 v9 := Tryd.zeroValue9
 t116 := Tryd.underlying133
 a116 := Tryd.isAgg133
 z116 := Tryd.sizeOf133 }
def laid233_ren_ : Go.Shelf.Ren := ⟨fun | 228 => 156 | 233 => 118 | n => n, fun | 116 => 133 | 124 => 137 | n => n, fun | 1 => 0 | 3 => 1 | 4 => 2 | n => n⟩
theorem laid233_ : Go.Proofs.Lays.n233 Tryd.prog laid233_ren_ := {
 mixed := by kernel_rfl
 f228 := Tryd.func156.trans (congrArg some (by kernel_rfl))
 f233 := Tryd.func118.trans (congrArg some (by kernel_rfl))
 t0 := Tryd.underlying0
 a0 := Tryd.isAgg0
 z0 := Tryd.sizeOf0
 v0 := Tryd.zeroValue0
 t3 := Tryd.underlying3
 a3 := Tryd.isAgg3
 z3 := Tryd.sizeOf3
 v3 := Tryd.zeroValue3
 t4 := Tryd.underlying4
 a4 := Tryd.isAgg4
 z4 := Tryd.sizeOf4
 v4 := Tryd.zeroValue4
 t5 := Tryd.underlying5
 a5 := Tryd.isAgg5
 z5 := Tryd.sizeOf5
 v5 := Tryd.zeroValue5
 t9 := Tryd.underlying9
 a9 := Tryd.isAgg9
 z9 := Tryd.sizeOf9
 v9 := Tryd.zeroValue9
 t116 := Tryd.underlying133
 a116 := Tryd.isAgg133
 z116 := Tryd.sizeOf133
 t124 := Tryd.underlying137
 a124 := Tryd.isAgg137
 z124 := Tryd.sizeOf137
 v124 := Tryd.zeroValue137 }
def laid234_ren_ : Go.Shelf.Ren := ⟨fun | 228 => 156 | 234 => 119 | n => n, fun | 116 => 133 | 124 => 137 | n => n, fun | 1 => 0 | 3 => 1 | 4 => 2 | n => n⟩
theorem laid234_ : Go.Proofs.Lays.n234 Tryd.prog laid234_ren_ := {
 mixed := by kernel_rfl
 f228 := Tryd.func156.trans (congrArg some (by kernel_rfl))
 f234 := Tryd.func119.trans (congrArg some (by kernel_rfl))
 t0 := Tryd.underlying0
 a0 := Tryd.isAgg0
 z0 := Tryd.sizeOf0
 v0 := Tryd.zeroValue0
 t3 := Tryd.underlying3
 a3 := Tryd.isAgg3
 z3 := Tryd.sizeOf3
 v3 := Tryd.zeroValue3
 t4 := Tryd.underlying4
 a4 := Tryd.isAgg4
 z4 := Tryd.sizeOf4
 v4 := Tryd.zeroValue4
 t5 := Tryd.underlying5
 a5 := Tryd.isAgg5
 z5 := Tryd.sizeOf5
 v5 := Tryd.zeroValue5
 t9 := Tryd.underlying9
 a9 := Tryd.isAgg9
 z9 := Tryd.sizeOf9
 v9 := Tryd.zeroValue9
 t116 := Tryd.underlying133
 a116 := Tryd.isAgg133
 z116 := Tryd.sizeOf133
 t124 := Tryd.underlying137
 a124 := Tryd.isAgg137
 z124 := Tryd.sizeOf137
 v124 := Tryd.zeroValue137 }

def blanksB : ByteArray := ⟨#[9, 10, 13, 32]⟩
def blanksL : List UInt8 := [9, 10, 13, 32]
/-- a text without blanks around it. -/
def trimB (s : ByteArray) : ByteArray := ⟨(Lib.trimS s.data.toList blanksL).toArray⟩
def impl_trimmed.f (a0 : ByteArray) : Option ByteArray := if a0.size ≤ 9223372036854775807 then some (trimB a0) else none
set_option maxRecDepth 1000000 in
theorem zeroSet_ : ∀ w, (zeroValue 133).run Tryd.prog w = .ok (.agg (Array.replicate 256 (.bool false))) w := fun w => by
 kernel_rfl
set_option maxHeartbeats 8000000 in
set_option maxRecDepth 1000000 in
theorem trim_blanks_ (s : ByteArray) (w : World) (h0 : 0 < s.size) (hs : s.size ≤ 9223372036854775807) :
  Calls Tryd.prog 67 #[.string s, .string blanksB] w fun e w' => e = .returned (.string (trimB s)) ∧ Below w.heap.size w w' := by
 have hM := Any.strings_makeASCIISet laid227_ zeroSet_ (by kernel_rfl) blanksB w (by decide) (fun j b hj => by
  match j, hj with
  | 0, hj => cases hj; decide
  | 1, hj => cases hj; decide
  | 2, hj => cases hj; decide
  | 3, hj => cases hj; decide
  | j + 4, hj => cases hj)
 have hemps : s.toList.isEmpty = false := by
  rw [Lib.toList_data]
  cases h : s.data.toList with
  | nil => have := Lib.size_eq s; rw [h, List.length_nil] at this; omega
  | cons _ _ => rfl
 have hemp : blanksB.toList.isEmpty = false := by rw [Lib.toList_data]; rfl
 have hn1 : ((blanksB.size : Int) == 1) = false := by decide
 have hi : (Tryd.prog.info? 133).map (·.size) = some 256 := by kernel_rfl
 have hcl : blanksB.data.toList = blanksL := rfl
 have hsc : (storeCells ⟨w.heap.size + 1, 0, none⟩ (Lib.setCells blanksL).toList 0).run Tryd.prog ((w.alloc (.cells (Lib.setCells blanksL) 133)).alloc (.cells (Array.replicate 256 (.bool false)) 133)) = .ok () ((w.alloc (.cells (Lib.setCells blanksL) 133)).alloc (.cells (Lib.setCells blanksL) 133)) := by
  have := run_storeCells_new (P := Tryd.prog) (w.alloc (.cells (Lib.setCells blanksL) 133)) 133 (Array.replicate 256 (.bool false)) (Lib.setCells blanksL) (by rw [Lib.setCells_size]; exact hi) (by rw [Lib.setCells_size, Array.size_replicate]) (Lib.setCells_one _)
  simpa using this
 have hsz := Lib.setCells_size blanksL
 have hcellAt : ∀ x : UInt8, ((w.alloc (.cells (Lib.setCells blanksL) 133)).alloc (.cells (Lib.setCells blanksL) 133)).cell? ⟨w.heap.size + 1, x.toNat, none⟩ = some (.bool (blanksL.contains x)) := fun x => by
  rw [World.cell?_alloc_at _ _ _ _ (by simp), Lib.setCells_at]
 have HC : Aside (∀ (q : Nat) (x : UInt8), (((w.alloc (.cells (Lib.setCells blanksL) 133)).alloc (.cells (Lib.setCells blanksL) 133)).drewN q).cell? ⟨w.heap.size + 1, x.toNat, none⟩ = some (.bool (blanksL.contains x))) := fun q x => by simpa using hcellAt x
 clear hcellAt
 have hz : Tryd.zeroCells133 = Array.replicate 256 (.bool false) := by kernel_rfl
 go_enter Tryd.func67, Tryd.ntmps67
 go_wp2_with (go_at_call 117; refine hM.mono ?_; rintro e w' ⟨rfl, hw⟩; rw [hw])
 simp only [show laid227_ren_.t 116 = 133 from rfl, hz, hcl, hsc, Result.andThen]
 rw [Oper.upon_skip]
 clear hM hsc
 go_wp2_with (first | (go_at_call 119; refine (Any.strings_trimRightASCII laid234_ s (w.heap.size + 1) blanksL _ hs (HC.out 0)).mono ?_; rintro e w' ⟨rfl, hw⟩; rw [hw]) | (go_at_call 118; refine (Any.strings_trimLeftASCII laid233_ _ (w.heap.size + 1) blanksL _ (HC.out 0)).mono ?_; rintro e w' ⟨rfl, hw⟩; rw [hw]))
 go_ret
 exact ⟨rfl, pw_below_drewN (below_alloc (below_alloc (Below.refl w.heap.size w) _) _) 0⟩
set_option maxHeartbeats 8000000 in
set_option maxRecDepth 1000000 in
theorem impl_trimmed.calls (a0 : ByteArray) (r : ByteArray) (w : World) (h : impl_trimmed.f a0 = some r) :
  Calls Tryd.prog 26 #[.string a0] w fun e w' => e = .returned (.string r) ∧ Below w.heap.size w w' := by
 unfold impl_trimmed.f at h
 by_cases hs : a0.size ≤ 9223372036854775807
 ·rw [if_pos hs] at h
  obtain rfl := Option.some.inj h
  by_cases h0 : 0 < a0.size
  ·have c := fun w => trim_blanks_ a0 w h0 hs
   go_enter Tryd.func26, Tryd.ntmps26
   go_wp2_with (go_at_call 67; refine (c _).mono ?_; rintro e w' ⟨rfl, hb⟩)
   go_ret
   exact ⟨rfl, hb⟩
  ·have he : a0.data.toList = [] := by
    have := Lib.size_eq a0
    exact List.length_eq_zero_iff.mp (by omega)
   have hemps : a0.toList.isEmpty = true := by rw [Lib.toList_data, he]; rfl
   have ht : trimB a0 = a0 := by
    unfold trimB
    rw [he]
    cases a0 with
    | mk d => cases d with
     | mk l => simp at he; subst he; rfl
   rw [ht]
   go_enter Tryd.func26, Tryd.ntmps26
   go_wp2
   go_ret
   exact ⟨rfl, Below.refl _ _⟩
 ·rw [if_neg hs] at h; cases h

/-! ### stringslite_HasPrefix: function 122 -/
def stringslite_HasPrefix.f (a0 : ByteArray) (a1 : ByteArray) : Option (Bool) := if (a0.size : Int) ≥ (a1.size : Int) then (if 0 ≤ (a1.size : Int) then (if (a1.size : Int) ≤ (a0.size : Int) then (some ((a0.extract 0 ((a1.size : Int) : Int).toNat).toList == a1.toList)) else (none)) else (none)) else (some false)
set_option maxHeartbeats 8000000 in
set_option maxRecDepth 100000 in
theorem stringslite_HasPrefix.calls (a0 : ByteArray) (a1 : ByteArray) (r : Bool) (w : World) (h : stringslite_HasPrefix.f a0 a1 = some r) :
  Calls Tryd.prog 122 #[.string a0, .string a1] w fun e w' => e = .returned (.bool r) ∧ Drawn0 w w' := by
 have H : (if (a0.size : Int) ≥ (a1.size : Int) then (if 0 ≤ (a1.size : Int) then (if (a1.size : Int) ≤ (a0.size : Int) then (some ((a0.extract 0 ((a1.size : Int) : Int).toNat).toList == a1.toList)) else (none)) else (none)) else (some false)) = some r := h
 clear h
 by_cases c3 : (a0.size : Int) ≥ (a1.size : Int)
 ·rw [if_pos c3] at H
  have c3b0 : decide ((a1.size : Int) ≤ (a0.size : Int)) = true := decide_eq_true c3
  have c3b1 : decide (a1.size ≤ a0.size) = true := decide_eq_true (Int.ofNat_le.mp c3)
  clear c3
  by_cases c4 : 0 ≤ (a1.size : Int)
  ·rw [if_pos c4] at H
   have c4b0 := eq_true c4
   have c4b1 : decide (0 ≤ (a1.size : Int)) = true := decide_eq_true c4
   clear c4
   by_cases c5 : (a1.size : Int) ≤ (a0.size : Int)
   ·rw [if_pos c5] at H
    have c5b0 := eq_true c5
    have c5b1 : decide ((a1.size : Int) ≤ (a0.size : Int)) = true := decide_eq_true c5
    clear c5
    obtain rfl := Option.some.inj H
    go_enter Tryd.func122, Tryd.ntmps122
    go_wp2
    go_ret
    exact ⟨by first | rfl | (simp; done) | (simp [*]; done), by repeat (first | exact Drawn0.refl _ | apply Drawn0.step)⟩
   ·rw [if_neg c5] at H
    exact absurd H (by simp)
  ·rw [if_neg c4] at H
   exact absurd H (by simp)
 ·rw [if_neg c3] at H
  have c3b0 : decide ((a1.size : Int) ≤ (a0.size : Int)) = false := decide_eq_false c3
  have c3b1 : decide (a1.size ≤ a0.size) = false := decide_eq_false (fun h => c3 (Int.ofNat_le.mpr h))
  clear c3
  obtain rfl := Option.some.inj H
  go_enter Tryd.func122, Tryd.ntmps122
  go_wp2
  go_ret
  exact ⟨by first | rfl | (simp; done) | (simp [*]; done), by repeat (first | exact Drawn0.refl _ | apply Drawn0.step)⟩

/-! ### stringslite_CutPrefix: function 68 -/
def stringslite_CutPrefix.f (a0 : ByteArray) (a1 : ByteArray) : Option (ByteArray × Bool) := (stringslite_HasPrefix.f a0 a1).bind fun t165 => (if t165 = true then (if 0 ≤ (a1.size : Int) then (if (a1.size : Int) ≤ (a0.size : Int) then (some (a0.extract ((a1.size : Int) : Int).toNat a0.size, true)) else (none)) else (none)) else (some (a0, false)))
set_option maxHeartbeats 8000000 in
set_option maxRecDepth 100000 in
theorem stringslite_CutPrefix.calls (a0 : ByteArray) (a1 : ByteArray) (r1 : ByteArray) (r2 : Bool) (w : World) (h : stringslite_CutPrefix.f a0 a1 = some (r1, r2)) :
  Calls Tryd.prog 68 #[.string a0, .string a1] w fun e w' => e = .returned (.tuple #[.string r1, .bool r2]) ∧ Drawn0 w w' := by
 have H : ((stringslite_HasPrefix.f a0 a1).bind fun t165 => (if t165 = true then (if 0 ≤ (a1.size : Int) then (if (a1.size : Int) ≤ (a0.size : Int) then (some (a0.extract ((a1.size : Int) : Int).toNat a0.size, true)) else (none)) else (none)) else (some (a0, false)))) = some (r1, r2) := h
 clear h
 replace H := Option.bind_eq_some_iff.mp H
 obtain ⟨t165, A30, H⟩ := H
 replace H : (if t165 = true then (if 0 ≤ (a1.size : Int) then (if (a1.size : Int) ≤ (a0.size : Int) then (some (a0.extract ((a1.size : Int) : Int).toNat a0.size, true)) else (none)) else (none)) else (some (a0, false))) = some (r1, r2) := H
 have A3 := Aside0.mk A30
 clear A30
 by_cases c4 : t165 = true
 ·subst c4
  have H1 : (if 0 ≤ (a1.size : Int) then (if (a1.size : Int) ≤ (a0.size : Int) then (some (a0.extract ((a1.size : Int) : Int).toNat a0.size, true)) else (none)) else (none)) = some (r1, r2) := by rw [if_pos rfl] at H; exact H
  clear H
  have H := H1
  clear H1
  by_cases c5 : 0 ≤ (a1.size : Int)
  ·rw [if_pos c5] at H
   have c5b0 := eq_true c5
   have c5b1 : decide (0 ≤ (a1.size : Int)) = true := decide_eq_true c5
   clear c5
   by_cases c6 : (a1.size : Int) ≤ (a0.size : Int)
   ·rw [if_pos c6] at H
    have c6b0 := eq_true c6
    have c6b1 : decide ((a1.size : Int) ≤ (a0.size : Int)) = true := decide_eq_true c6
    clear c6
    simp only [Option.some.injEq, Prod.mk.injEq] at H
    obtain ⟨rfl, rfl⟩ := H
    go_enter Tryd.func68, Tryd.ntmps68
    go_wp2_with (first | ((with_reducible refine gate_callee (f := 122) rfl ?_); refine goesL_ (some 8) rfl rfl Tryd.func122 (by kernel_rfl) rfl #[.string a0, .string a1] rfl (by (try simp only [List.map_toArray, List.map_cons, List.map_nil]); first | done | rfl | (simp only [List.length_drop, List.length_take]; rfl)) ?_; (with_reducible refine (stringslite_HasPrefix.calls a0 a1 true _ A3.out).mono ?_); rintro e w' ⟨rfl, ⟨nd, rfl⟩⟩; refine ⟨_, rfl, ?_⟩))
    go_ret2
    exact ⟨by first | rfl | (simp; done) | (simp [*]; done), by repeat (first | exact Drawn0.refl _ | apply Drawn0.step)⟩
   ·rw [if_neg c6] at H
    exact absurd H (by simp)
  ·rw [if_neg c5] at H
   exact absurd H (by simp)
 ·replace c4 := Bool.eq_false_iff.mpr c4
  subst c4
  have H1 : (some (a0, false)) = some (r1, r2) := by rw [if_neg (show ¬ (false = true) by decide)] at H; exact H
  clear H
  have H := H1
  clear H1
  simp only [Option.some.injEq, Prod.mk.injEq] at H
  obtain ⟨rfl, rfl⟩ := H
  go_enter Tryd.func68, Tryd.ntmps68
  go_wp2_with (first | ((with_reducible refine gate_callee (f := 122) rfl ?_); refine goesL_ (some 8) rfl rfl Tryd.func122 (by kernel_rfl) rfl #[.string a0, .string a1] rfl (by (try simp only [List.map_toArray, List.map_cons, List.map_nil]); first | done | rfl | (simp only [List.length_drop, List.length_take]; rfl)) ?_; (with_reducible refine (stringslite_HasPrefix.calls a0 a1 false _ A3.out).mono ?_); rintro e w' ⟨rfl, ⟨nd, rfl⟩⟩; refine ⟨_, rfl, ?_⟩))
  go_ret2
  exact ⟨by first | rfl | (simp; done) | (simp [*]; done), by repeat (first | exact Drawn0.refl _ | apply Drawn0.step)⟩

/-! ### strings_CutPrefix: function 27 -/
def strings_CutPrefix.f (a0 : ByteArray) (a1 : ByteArray) : Option (ByteArray × Bool) := (stringslite_CutPrefix.f a0 a1).bind fun bt166 => (some (bt166.1, bt166.2))
set_option maxHeartbeats 8000000 in
set_option maxRecDepth 100000 in
theorem strings_CutPrefix.calls (a0 : ByteArray) (a1 : ByteArray) (r1 : ByteArray) (r2 : Bool) (w : World) (h : strings_CutPrefix.f a0 a1 = some (r1, r2)) :
  Calls Tryd.prog 27 #[.string a0, .string a1] w fun e w' => e = .returned (.tuple #[.string r1, .bool r2]) ∧ Drawn0 w w' := by
 have H : ((stringslite_CutPrefix.f a0 a1).bind fun bt166 => (some (bt166.1, bt166.2))) = some (r1, r2) := h
 clear h
 replace H := Option.bind_eq_some_iff.mp H
 obtain ⟨⟨t166, t167⟩, A30, H⟩ := H
 replace H : (some (t166, t167)) = some (r1, r2) := H
 have A3 := Aside0.mk A30
 clear A30
 simp only [Option.some.injEq, Prod.mk.injEq] at H
 obtain ⟨rfl, rfl⟩ := H
 go_enter Tryd.func27, Tryd.ntmps27
 go_wp2_with (first | ((with_reducible refine gate_callee (f := 68) rfl ?_); refine goesL_ (some 8) rfl rfl Tryd.func68 (by kernel_rfl) rfl #[.string a0, .string a1] rfl (by (try simp only [List.map_toArray, List.map_cons, List.map_nil]); first | done | rfl | (simp only [List.length_drop, List.length_take]; rfl)) ?_; (with_reducible refine (stringslite_CutPrefix.calls a0 a1 t166 t167 _ A3.out).mono ?_); rintro e w' ⟨rfl, ⟨nd, rfl⟩⟩; refine ⟨_, rfl, ?_⟩))
 go_ret2
 exact ⟨by first | rfl | (simp; done) | (simp [*]; done), by repeat (first | exact Drawn0.refl _ | apply Drawn0.step)⟩

/-! ### impl_isDigit: function 72 -/
def impl_isDigit.f (a0 : Int) : Option (Bool) := if a0 ≥ 48 then (some (decide (a0 ≤ 57))) else (some false)
set_option maxHeartbeats 8000000 in
set_option maxRecDepth 100000 in
theorem impl_isDigit.calls (a0 : Int) (r : Bool) (w : World) (h : impl_isDigit.f a0 = some r) :
  Calls Tryd.prog 72 #[.int .u8 a0] w fun e w' => e = .returned (.bool r) ∧ Drawn0 w w' := by
 have H : (if a0 ≥ 48 then (some (decide (a0 ≤ 57))) else (some false)) = some r := h
 clear h
 by_cases c2 : a0 ≥ 48
 ·rw [if_pos c2] at H
  have c2b0 : decide (48 ≤ a0) = true := decide_eq_true c2
  clear c2
  obtain rfl := Option.some.inj H
  go_enter Tryd.func72, Tryd.ntmps72
  go_wp2
  go_ret
  exact ⟨by first | rfl | (simp; done) | (simp [*]; done), by repeat (first | exact Drawn0.refl _ | apply Drawn0.step)⟩
 ·rw [if_neg c2] at H
  have c2b0 : decide (48 ≤ a0) = false := decide_eq_false c2
  clear c2
  obtain rfl := Option.some.inj H
  go_enter Tryd.func72, Tryd.ntmps72
  go_wp2
  go_ret
  exact ⟨by first | rfl | (simp; done) | (simp [*]; done), by repeat (first | exact Drawn0.refl _ | apply Drawn0.step)⟩

/-! ### impl_hexOf: function 69 -/
def impl_hexOf.j0 : Nat → Int → Bool → Option (Int)
 | 0, _, _ => none
 | k + 1, x0, x9 => if x9 = true then (some (((x0 - 97) % 256) + 10)) else (if x0 ≥ 65 then (if x0 ≤ 70 then (some (((x0 - 65) % 256) + 10)) else (some (-1))) else (some (-1)))
def impl_hexOf.f (k : Nat) (a0 : Int) : Option (Int) := (impl_isDigit.f a0).bind fun t168 => (if t168 = true then (some ((a0 - 48) % 256)) else (if a0 ≥ 97 then (impl_hexOf.j0 k a0 (decide (a0 ≤ 102))) else (impl_hexOf.j0 k a0 false)))
set_option maxHeartbeats 8000000 in
set_option maxRecDepth 100000 in
theorem impl_hexOf.calls (k : Nat) (a0 : Int) (r : Int) (w : World) (h : impl_hexOf.f k a0 = some r) :
  Calls Tryd.prog 69 #[.int .u8 a0] w fun e w' => e = .returned (.int .i64 r) ∧ Drawn0 w w' := by
 have H : ((impl_isDigit.f a0).bind fun t168 => (if t168 = true then (some ((a0 - 48) % 256)) else (if a0 ≥ 97 then (impl_hexOf.j0 k a0 (decide (a0 ≤ 102))) else (impl_hexOf.j0 k a0 false)))) = some r := h
 clear h
 replace H := Option.bind_eq_some_iff.mp H
 obtain ⟨t168, A20, H⟩ := H
 replace H : (if t168 = true then (some ((a0 - 48) % 256)) else (if a0 ≥ 97 then (impl_hexOf.j0 k a0 (decide (a0 ≤ 102))) else (impl_hexOf.j0 k a0 false))) = some r := H
 have A2 := Aside0.mk A20
 clear A20
 by_cases c3 : t168 = true
 ·subst c3
  have H1 : (some ((a0 - 48) % 256)) = some r := by rw [if_pos rfl] at H; exact H
  clear H
  have H := H1
  clear H1
  obtain rfl := Option.some.inj H
  go_enter Tryd.func69, Tryd.ntmps69
  go_wp2_with (first | ((with_reducible refine gate_callee (f := 72) rfl ?_); refine goesL_ (some 5) rfl rfl Tryd.func72 (by kernel_rfl) rfl #[.int .u8 a0] rfl (by (try simp only [List.map_toArray, List.map_cons, List.map_nil]); first | done | rfl | (simp only [List.length_drop, List.length_take]; rfl)) ?_; (with_reducible refine (impl_isDigit.calls a0 true _ A2.out).mono ?_); rintro e w' ⟨rfl, ⟨nd, rfl⟩⟩; refine ⟨_, rfl, ?_⟩))
  go_ret
  exact ⟨by first | rfl | (simp; done) | (simp [*]; done), by repeat (first | exact Drawn0.refl _ | apply Drawn0.step)⟩
 ·replace c3 := Bool.eq_false_iff.mpr c3
  subst c3
  have H1 : (if a0 ≥ 97 then (impl_hexOf.j0 k a0 (decide (a0 ≤ 102))) else (impl_hexOf.j0 k a0 false)) = some r := by rw [if_neg (show ¬ (false = true) by decide)] at H; exact H
  clear H
  have H := H1
  clear H1
  have HC4 := Aside0.mk H
  clear H
  go_enter Tryd.func69, Tryd.ntmps69
  go_upto_region 3 with (first | ((with_reducible refine gate_callee (f := 72) rfl ?_); refine goesL_ (some 5) rfl rfl Tryd.func72 (by kernel_rfl) rfl #[.int .u8 a0] rfl (by (try simp only [List.map_toArray, List.map_cons, List.map_nil]); first | done | rfl | (simp only [List.length_drop, List.length_take]; rfl)) ?_; (with_reducible refine (impl_isDigit.calls a0 false _ A2.out).mono ?_); rintro e w' ⟨rfl, ⟨nd, rfl⟩⟩; refine ⟨_, rfl, ?_⟩))
  (try simp only [Act.put, List.setIfInBounds_toArray, List.set_cons_zero, List.set_cons_succ])
  go_cut [9] (fun v9 wc => ∃ (kq : Nat) (x9_3 : Bool), v9 = .bool x9_3 ∧ Aside0 (impl_hexOf.j0 kq a0 x9_3 = some r) ∧ Aside0 (kq ≤ k) ∧ Drawn0 w wc)
  case first =>
   have H := HC4.out
   clear HC4
   by_cases c5 : a0 ≥ 97
   ·rw [if_pos c5] at H
    have c5b0 : decide (97 ≤ a0) = true := decide_eq_true c5
    clear c5
    (first | rw [c5b0] | (simp only [i64_w, i32_w]; rw [c5b0]) | skip)
    have H' := Aside0.mk H
    clear H
    go_wp2
    go_meet
    case rel => exact ⟨_, (decide (a0 ≤ 102)), (by first | rfl | (simp; done) | (simp [*]; done) | (simp [wrap64]; done)), H', ⟨by first | omega | exact Nat.le_refl _⟩, by repeat (first | exact Drawn0.refl _ | apply Drawn0.step)⟩
   ·rw [if_neg c5] at H
    have c5b0 : decide (97 ≤ a0) = false := decide_eq_false c5
    clear c5
    (first | rw [c5b0] | (simp only [i64_w, i32_w]; rw [c5b0]) | skip)
    have H' := Aside0.mk H
    clear H
    go_wp2
    go_meet
    case rel => exact ⟨_, (false), (by first | rfl | (simp; done) | (simp [*]; done) | (simp [wrap64]; done)), H', ⟨by first | omega | exact Nat.le_refl _⟩, by repeat (first | exact Drawn0.refl _ | apply Drawn0.step)⟩
  case rest =>
   clear HC4
   (try clear p2);(try clear c3);(try clear c5);(try clear c5b0)
   obtain ⟨kq, x9_3, rfl, HA, HJ3, ⟨mc3, rfl⟩⟩ := hcut
   cases kq with
   | zero => exact absurd HA.out (by simp [impl_hexOf.j0])
   | succ kj3 =>
    have H := HA.out
    clear HA
    simp only [impl_hexOf.j0] at H
    by_cases c6 : x9_3 = true
    ·subst c6
     have H1 : (some (((a0 - 97) % 256) + 10)) = some r := by rw [if_pos rfl] at H; exact H
     clear H
     have H := H1
     clear H1
     obtain rfl := Option.some.inj H
     go_wp2
     go_ret
     exact ⟨by first | rfl | (simp; done) | (simp [*]; done), by repeat (first | exact Drawn0.refl _ | apply Drawn0.step)⟩
    ·replace c6 := Bool.eq_false_iff.mpr c6
     subst c6
     have H1 : (if a0 ≥ 65 then (if a0 ≤ 70 then (some (((a0 - 65) % 256) + 10)) else (some (-1))) else (some (-1))) = some r := by rw [if_neg (show ¬ (false = true) by decide)] at H; exact H
     clear H
     have H := H1
     clear H1
     by_cases c7 : a0 ≥ 65
     ·rw [if_pos c7] at H
      have c7b0 : decide (65 ≤ a0) = true := decide_eq_true c7
      clear c7
      by_cases c8 : a0 ≤ 70
      ·rw [if_pos c8] at H
       have c8b0 : decide (a0 ≤ 70) = true := decide_eq_true c8
       clear c8
       obtain rfl := Option.some.inj H
       go_wp2
       go_ret
       exact ⟨by first | rfl | (simp; done) | (simp [*]; done), by repeat (first | exact Drawn0.refl _ | apply Drawn0.step)⟩
      ·rw [if_neg c8] at H
       have c8b0 : decide (a0 ≤ 70) = false := decide_eq_false c8
       clear c8
       obtain rfl := Option.some.inj H
       go_wp2
       go_ret
       exact ⟨by first | rfl | (simp; done) | (simp [*]; done), by repeat (first | exact Drawn0.refl _ | apply Drawn0.step)⟩
     ·rw [if_neg c7] at H
      have c7b0 : decide (65 ≤ a0) = false := decide_eq_false c7
      clear c7
      obtain rfl := Option.some.inj H
      go_wp2
      go_ret
      exact ⟨by first | rfl | (simp; done) | (simp [*]; done), by repeat (first | exact Drawn0.refl _ | apply Drawn0.step)⟩

/-! ### impl_hexColor: function 28 -/
def hexG (k : Nat) (s : ByteArray) : Nat → Nat → Int → Int → Int → Option (Int × Int × Int × Bool)
 | 0, _, a, b, c => some (a, b, c, true)
 | g + 1, i, a, b, c => (impl_hexOf.f k (bt s (i : Int))).bind fun d => if d < 0 then some (0, 0, 0, false) else if i / 2 = 0 then hexG k s g (i + 1) (wrap64 (wrap64 (16 * a) + d)) b c else if i / 2 = 1 then hexG k s g (i + 1) a (wrap64 (wrap64 (16 * b) + d)) c else hexG k s g (i + 1) a b (wrap64 (wrap64 (16 * c) + d))
def hexTwice (s : ByteArray) : ByteArray := ((((s.extract 0 1 ++ s.extract 0 1) ++ s.extract 1 2) ++ s.extract 1 2) ++ s.extract 2 3) ++ s.extract 2 3
def impl_hexColor.f (k : Nat) (a0 : ByteArray) : Option (Int × Int × Int × Bool) := if a0.size = 3 then hexG k (hexTwice a0) 6 0 0 0 0 else if a0.size = 6 then hexG k a0 6 0 0 0 0 else some (0, 0, 0, false)
theorem hexTwice_size (s : ByteArray) (h : s.size = 3) : (hexTwice s).size = 6 := by
 unfold hexTwice
 simp only [ByteArray.size_append, ByteArray.size_extract, h]
 rfl
theorem new1_ (W : World) (o : Obj) (n : Nat) (h : W.heap.size = n) : (W.alloc o).heap[n]? = some o := by subst h; exact blk_new _ _
set_option maxHeartbeats 8000000 in
set_option maxRecDepth 100000 in
theorem impl_hexColor.calls (k : Nat) (a0 : ByteArray) (r1 : Int) (r2 : Int) (r3 : Int) (r4 : Bool) (w : World) (h : impl_hexColor.f k a0 = some (r1, r2, r3, r4)) :
  Calls Tryd.prog 28 #[.string a0] w fun e w' => e = .returned (.tuple #[.agg #[.int .i64 r1, .int .i64 r2, .int .i64 r3], .bool r4]) ∧ Below w.heap.size w w' := by
 have hu23 := Tryd.underlying23
 have HB0 := Aside0.mk (Below.refl w.heap.size w)
 unfold impl_hexColor.f at h
 by_cases h3 : a0.size = 3
 ·rw [if_pos h3] at h
  have H' := Aside0.mk h
  have hT6 := Aside0.mk (hexTwice_size a0 h3)
  clear h
  go_enter Tryd.func28, Tryd.ntmps28
  go_wp2
  go_quiet (fail)
  go_wp2
  unfold hexTwice at H' hT6
  generalize a0.extract 0 1 ++ a0.extract 0 1 ++ a0.extract 1 2 ++ a0.extract 1 2 ++ a0.extract 2 3 ++ a0.extract 2 3 = T at H' hT6 ⊢
  go_loopg [32] 6 (fun kq v32 w' => ∃ (i : Nat) (a b c : Int), v32 = .int .i64 (i : Int) ∧ Aside0 (hexG k T kq i a b c = some (r1, r2, r3, r4)) ∧ Aside0 (i + kq = 6) ∧ Aside0 (w'.heap[w.heap.size]? = some (.cells #[.int .i64 0, .int .i64 0, .int .i64 0] 23 (0, 0))) ∧ Aside0 (w'.heap[w.heap.size + 1]? = some (.cells #[.int .i64 a, .int .i64 b, .int .i64 c] 53 (0, 0))) ∧ Aside0 (Below w.heap.size w w'))
  case atStart =>
   refine ⟨0, 0, 0, 0, rfl, H', ⟨rfl⟩, ⟨?_⟩, ⟨?_⟩, ⟨?_⟩⟩
   ·first | exact blk_alloc (blk_new _ _) _ | exact blk_alloc (blk_drewN (blk_new _ _) _) _
   ·exact new1_ _ _ _ (by first | rfl | simp)
   ·repeat (first | (with_reducible first | exact HB0.out | apply below_alloc | apply pw_below_drewN | apply below_drew1) | exact HB0.out)
  case round =>
   obtain ⟨i, a, b, c, rfl, HA, HI, B0, B1, HB⟩ := hrel
   have N01 := Aside0.mk (show w.heap.size ≠ w.heap.size + 1 by omega)
   have N10 := Aside0.mk (show w.heap.size + 1 ≠ w.heap.size by omega)
   have GE0 := Aside0.mk (Nat.le_refl w.heap.size)
   have GE1 := Aside0.mk (show w.heap.size ≤ w.heap.size + 1 by omega)
   cases gk with
   | zero =>
    have hi : i = 6 := by have := HI.out; omega
    subst hi
    have H := HA.out
    clear HA HI
    simp only [hexG, Option.some.injEq, Prod.mk.injEq] at H
    obtain ⟨rfl, rfl, rfl, rfl⟩ := H
    have a0_ : wr.cell? ⟨w.heap.size + 1, 0, none⟩ = some (.int .i64 a) := (blk_cell B1.out 0).trans rfl
    have a1_ : wr.cell? ⟨w.heap.size + 1, 1, none⟩ = some (.int .i64 b) := (blk_cell B1.out 1).trans rfl
    have a2_ : wr.cell? ⟨w.heap.size + 1, 2, none⟩ = some (.int .i64 c) := (blk_cell B1.out 2).trans rfl
    have c0_ : wr.cell? ⟨w.heap.size, 0, none⟩ = some (.int .i64 0) := (blk_cell B0.out 0).trans rfl
    have c1_ : wr.cell? ⟨w.heap.size, 1, none⟩ = some (.int .i64 0) := (blk_cell B0.out 1).trans rfl
    have c2_ : wr.cell? ⟨w.heap.size, 2, none⟩ = some (.int .i64 0) := (blk_cell B0.out 2).trans rfl
    have f0_ := blk_frozen B0.out 0
    have f1_ := blk_frozen B0.out 1
    have f2_ := blk_frozen B0.out 2
    go_wp2
    refine bodyPost_ret (results_ct rfl _ _ w.heap.size 23 #[.int .i64 a, .int .i64 b, .int .i64 c] (0, 0) _ rfl (by (with_reducible repeat (first | refine blk_drewN ?_ _ | refine blk_drew ?_ | refine blk_alloc ?_ _)); refine blk_put (cs := #[.int .i64 a, .int .i64 b, .int .i64 0]) ?_ 2 _ rfl; (with_reducible repeat (first | refine blk_drewN ?_ _ | refine blk_drew ?_ | refine blk_alloc ?_ _)); refine blk_put (cs := #[.int .i64 a, .int .i64 0, .int .i64 0]) ?_ 1 _ rfl; (with_reducible repeat (first | refine blk_drewN ?_ _ | refine blk_drew ?_ | refine blk_alloc ?_ _)); refine blk_put (cs := #[.int .i64 0, .int .i64 0, .int .i64 0]) ?_ 0 _ rfl; (with_reducible repeat (first | refine blk_drewN ?_ _ | refine blk_drew ?_ | refine blk_alloc ?_ _)); exact B0.out) Tryd.underlying23 rfl (by kernel_rfl)) rfl ?_
    exact ⟨rfl, by repeat (first | (with_reducible first | exact HB.out | apply below_alloc | apply pw_below_drewN | apply below_drew1 | refine below_set ?_ GE0.out | refine below_set ?_ GE1.out) | exact HB.out)⟩
   | succ k1 =>
    have H := HA.out
    clear HA
    simp only [hexG] at H
    obtain ⟨d, hd, H⟩ := Option.bind_eq_some_iff.mp H
    have c69 : ∀ W : World, Calls Tryd.prog 69 #[.int .u8 (bt T (i : Int))] W fun e w' => e = .returned (.int .i64 d) ∧ Drawn0 W w' := fun W => impl_hexOf.calls k _ d W hd
    clear hd
    have hs6 := hT6
    have hk : i / 2 = 0 ∨ i / 2 = 1 ∨ i / 2 = 2 := by have := HI.out; omega
    obtain ⟨x, hx⟩ : ∃ x : Int, x = (i : Int) := ⟨_, rfl⟩
    have X := Aside0.mk hx
    rw [← hx] at c69 ⊢
    have hx5 := bt_at T x
    have p5 := eq_true (show (0 : Int) ≤ x by omega)
    have q5 := eq_true (show x < (T.size : Int) by have := HI.out; have := hs6.out; omega)
    have i6 : decide (x < 6) = true := decide_eq_true (by have := HI.out; omega)
    by_cases hd0 : d < 0
    ·rw [if_pos hd0] at H
     simp only [Option.some.injEq, Prod.mk.injEq] at H
     obtain ⟨rfl, rfl, rfl, rfl⟩ := H
     have d0 : decide (d < 0) = true := decide_eq_true hd0
     have c0_ : wr.cell? ⟨w.heap.size, 0, none⟩ = some (.int .i64 0) := (blk_cell B0.out 0).trans rfl
     have c1_ : wr.cell? ⟨w.heap.size, 1, none⟩ = some (.int .i64 0) := (blk_cell B0.out 1).trans rfl
     have c2_ : wr.cell? ⟨w.heap.size, 2, none⟩ = some (.int .i64 0) := (blk_cell B0.out 2).trans rfl
     have f0_ := blk_frozen B0.out 0
     have f1_ := blk_frozen B0.out 1
     have f2_ := blk_frozen B0.out 2
     clear hk hd0 hx
     go_wp2_with (go_at_call 69; (with_reducible refine (c69 _).mono ?_); rintro e w2 ⟨rfl, ⟨nd, rfl⟩⟩)
     refine bodyPost_ret (results_ct rfl _ _ w.heap.size 23 #[.int .i64 0, .int .i64 0, .int .i64 0] (0, 0) _ rfl (by (with_reducible repeat (first | refine blk_drewN ?_ _ | refine blk_drew ?_ | refine blk_alloc ?_ _)); refine blk_put (cs := #[.int .i64 0, .int .i64 0, .int .i64 0]) ?_ 2 _ rfl; (with_reducible repeat (first | refine blk_drewN ?_ _ | refine blk_drew ?_ | refine blk_alloc ?_ _)); refine blk_put (cs := #[.int .i64 0, .int .i64 0, .int .i64 0]) ?_ 1 _ rfl; (with_reducible repeat (first | refine blk_drewN ?_ _ | refine blk_drew ?_ | refine blk_alloc ?_ _)); refine blk_put (cs := #[.int .i64 0, .int .i64 0, .int .i64 0]) ?_ 0 _ rfl; (with_reducible repeat (first | refine blk_drewN ?_ _ | refine blk_drew ?_ | refine blk_alloc ?_ _)); exact B0.out) Tryd.underlying23 rfl (by kernel_rfl)) rfl ?_
     exact ⟨rfl, by repeat (first | (with_reducible first | exact HB.out | apply below_alloc | apply pw_below_drewN | apply below_drew1 | refine below_set ?_ GE0.out | refine below_set ?_ GE1.out) | exact HB.out)⟩
    ·rw [if_neg hd0] at H
     have d0 : decide (d < 0) = false := decide_eq_false hd0
     have a0_ : wr.cell? ⟨w.heap.size + 1, 0, none⟩ = some (.int .i64 a) := (blk_cell B1.out 0).trans rfl
     have a1_ : wr.cell? ⟨w.heap.size + 1, 1, none⟩ = some (.int .i64 b) := (blk_cell B1.out 1).trans rfl
     have a2_ : wr.cell? ⟨w.heap.size + 1, 2, none⟩ = some (.int .i64 c) := (blk_cell B1.out 2).trans rfl
     have f0_ := blk_frozen B1.out 0
     have f1_ := blk_frozen B1.out 1
     have f2_ := blk_frozen B1.out 2
     clear hd0
     have wx : wrap64 (x + 1) = ((i + 1 : Nat) : Int) := by have := HI.out; rw [hx]; unfold wrap64; omega
     have WX := Aside0.mk wx
     clear wx
     rcases hk with hk | hk | hk
     ·rw [if_pos hk] at H
      have H' := Aside0.mk H
      have t2 : Int.tdiv x 2 = ((0 : Nat) : Int) := by rw [← hk, hx]; rfl
      clear H hk hx
      go_wp2_with (go_at_call 69; (with_reducible refine (c69 _).mono ?_); rintro e w2 ⟨rfl, ⟨nd, rfl⟩⟩)
      go_roundg k1
      case measure => omega
      case rel =>
       refine ⟨i + 1, wrap64 (wrap64 (16 * a) + d), b, c, by rw [WX.out], H', ⟨by have := HI.out; omega⟩, ⟨?_⟩, ⟨?_⟩, ⟨?_⟩⟩
       ·(with_reducible repeat (first | refine blk_drewN ?_ _ | refine blk_drew ?_ | refine blk_alloc ?_ _)); refine blk_far ?_ N01.out _; (with_reducible repeat (first | refine blk_drewN ?_ _ | refine blk_drew ?_ | refine blk_alloc ?_ _)); exact B0.out
       ·(with_reducible repeat (first | refine blk_drewN ?_ _ | refine blk_drew ?_ | refine blk_alloc ?_ _)); refine blk_put (cs := #[.int .i64 a, .int .i64 b, .int .i64 c]) ?_ 0 _ rfl; (with_reducible repeat (first | refine blk_drewN ?_ _ | refine blk_drew ?_ | refine blk_alloc ?_ _)); exact B1.out
       ·repeat (first | (with_reducible first | exact HB.out | apply below_alloc | apply pw_below_drewN | apply below_drew1 | refine below_set ?_ GE0.out | refine below_set ?_ GE1.out) | exact HB.out)
     ·rw [if_neg (by omega), if_pos hk] at H
      have H' := Aside0.mk H
      have t2 : Int.tdiv x 2 = ((1 : Nat) : Int) := by rw [← hk, hx]; rfl
      clear H hk hx
      go_wp2_with (go_at_call 69; (with_reducible refine (c69 _).mono ?_); rintro e w2 ⟨rfl, ⟨nd, rfl⟩⟩)
      go_roundg k1
      case measure => omega
      case rel =>
       refine ⟨i + 1, a, wrap64 (wrap64 (16 * b) + d), c, by rw [WX.out], H', ⟨by have := HI.out; omega⟩, ⟨?_⟩, ⟨?_⟩, ⟨?_⟩⟩
       ·(with_reducible repeat (first | refine blk_drewN ?_ _ | refine blk_drew ?_ | refine blk_alloc ?_ _)); refine blk_far ?_ N01.out _; (with_reducible repeat (first | refine blk_drewN ?_ _ | refine blk_drew ?_ | refine blk_alloc ?_ _)); exact B0.out
       ·(with_reducible repeat (first | refine blk_drewN ?_ _ | refine blk_drew ?_ | refine blk_alloc ?_ _)); refine blk_put (cs := #[.int .i64 a, .int .i64 b, .int .i64 c]) ?_ 1 _ rfl; (with_reducible repeat (first | refine blk_drewN ?_ _ | refine blk_drew ?_ | refine blk_alloc ?_ _)); exact B1.out
       ·repeat (first | (with_reducible first | exact HB.out | apply below_alloc | apply pw_below_drewN | apply below_drew1 | refine below_set ?_ GE0.out | refine below_set ?_ GE1.out) | exact HB.out)
     ·rw [if_neg (by omega), if_neg (by omega)] at H
      have H' := Aside0.mk H
      have t2 : Int.tdiv x 2 = ((2 : Nat) : Int) := by rw [← hk, hx]; rfl
      clear H hk hx
      go_wp2_with (go_at_call 69; (with_reducible refine (c69 _).mono ?_); rintro e w2 ⟨rfl, ⟨nd, rfl⟩⟩)
      go_roundg k1
      case measure => omega
      case rel =>
       refine ⟨i + 1, a, b, wrap64 (wrap64 (16 * c) + d), by rw [WX.out], H', ⟨by have := HI.out; omega⟩, ⟨?_⟩, ⟨?_⟩, ⟨?_⟩⟩
       ·(with_reducible repeat (first | refine blk_drewN ?_ _ | refine blk_drew ?_ | refine blk_alloc ?_ _)); refine blk_far ?_ N01.out _; (with_reducible repeat (first | refine blk_drewN ?_ _ | refine blk_drew ?_ | refine blk_alloc ?_ _)); exact B0.out
       ·(with_reducible repeat (first | refine blk_drewN ?_ _ | refine blk_drew ?_ | refine blk_alloc ?_ _)); refine blk_put (cs := #[.int .i64 a, .int .i64 b, .int .i64 c]) ?_ 2 _ rfl; (with_reducible repeat (first | refine blk_drewN ?_ _ | refine blk_drew ?_ | refine blk_alloc ?_ _)); exact B1.out
       ·repeat (first | (with_reducible first | exact HB.out | apply below_alloc | apply pw_below_drewN | apply below_drew1 | refine below_set ?_ GE0.out | refine below_set ?_ GE1.out) | exact HB.out)
 rw [if_neg h3] at h
 by_cases h6 : a0.size = 6
 ·rw [if_pos h6] at h
  have H' := Aside0.mk h
  clear h
  have e3 : (((6:Nat) : Int) == 3) = false := by decide
  go_enter Tryd.func28, Tryd.ntmps28
  go_wp2
  go_loopg [32] 6 (fun kq v32 w' => ∃ (i : Nat) (a b c : Int), v32 = .int .i64 (i : Int) ∧ Aside0 (hexG k a0 kq i a b c = some (r1, r2, r3, r4)) ∧ Aside0 (i + kq = 6) ∧ Aside0 (w'.heap[w.heap.size]? = some (.cells #[.int .i64 0, .int .i64 0, .int .i64 0] 23 (0, 0))) ∧ Aside0 (w'.heap[w.heap.size + 1]? = some (.cells #[.int .i64 a, .int .i64 b, .int .i64 c] 53 (0, 0))) ∧ Aside0 (Below w.heap.size w w'))
  case atStart =>
   refine ⟨0, 0, 0, 0, rfl, H', ⟨rfl⟩, ⟨?_⟩, ⟨?_⟩, ⟨?_⟩⟩
   ·first | exact blk_alloc (blk_new _ _) _ | exact blk_alloc (blk_drewN (blk_new _ _) _) _
   ·exact new1_ _ _ _ (by first | rfl | simp)
   ·repeat (first | (with_reducible first | exact HB0.out | apply below_alloc | apply pw_below_drewN | apply below_drew1) | exact HB0.out)
  case round =>
   obtain ⟨i, a, b, c, rfl, HA, HI, B0, B1, HB⟩ := hrel
   have N01 := Aside0.mk (show w.heap.size ≠ w.heap.size + 1 by omega)
   have N10 := Aside0.mk (show w.heap.size + 1 ≠ w.heap.size by omega)
   have GE0 := Aside0.mk (Nat.le_refl w.heap.size)
   have GE1 := Aside0.mk (show w.heap.size ≤ w.heap.size + 1 by omega)
   cases gk with
   | zero =>
    have hi : i = 6 := by have := HI.out; omega
    subst hi
    have H := HA.out
    clear HA HI
    simp only [hexG, Option.some.injEq, Prod.mk.injEq] at H
    obtain ⟨rfl, rfl, rfl, rfl⟩ := H
    have a0_ : wr.cell? ⟨w.heap.size + 1, 0, none⟩ = some (.int .i64 a) := (blk_cell B1.out 0).trans rfl
    have a1_ : wr.cell? ⟨w.heap.size + 1, 1, none⟩ = some (.int .i64 b) := (blk_cell B1.out 1).trans rfl
    have a2_ : wr.cell? ⟨w.heap.size + 1, 2, none⟩ = some (.int .i64 c) := (blk_cell B1.out 2).trans rfl
    have c0_ : wr.cell? ⟨w.heap.size, 0, none⟩ = some (.int .i64 0) := (blk_cell B0.out 0).trans rfl
    have c1_ : wr.cell? ⟨w.heap.size, 1, none⟩ = some (.int .i64 0) := (blk_cell B0.out 1).trans rfl
    have c2_ : wr.cell? ⟨w.heap.size, 2, none⟩ = some (.int .i64 0) := (blk_cell B0.out 2).trans rfl
    have f0_ := blk_frozen B0.out 0
    have f1_ := blk_frozen B0.out 1
    have f2_ := blk_frozen B0.out 2
    go_wp2
    refine bodyPost_ret (results_ct rfl _ _ w.heap.size 23 #[.int .i64 a, .int .i64 b, .int .i64 c] (0, 0) _ rfl (by (with_reducible repeat (first | refine blk_drewN ?_ _ | refine blk_drew ?_ | refine blk_alloc ?_ _)); refine blk_put (cs := #[.int .i64 a, .int .i64 b, .int .i64 0]) ?_ 2 _ rfl; (with_reducible repeat (first | refine blk_drewN ?_ _ | refine blk_drew ?_ | refine blk_alloc ?_ _)); refine blk_put (cs := #[.int .i64 a, .int .i64 0, .int .i64 0]) ?_ 1 _ rfl; (with_reducible repeat (first | refine blk_drewN ?_ _ | refine blk_drew ?_ | refine blk_alloc ?_ _)); refine blk_put (cs := #[.int .i64 0, .int .i64 0, .int .i64 0]) ?_ 0 _ rfl; (with_reducible repeat (first | refine blk_drewN ?_ _ | refine blk_drew ?_ | refine blk_alloc ?_ _)); exact B0.out) Tryd.underlying23 rfl (by kernel_rfl)) rfl ?_
    exact ⟨rfl, by repeat (first | (with_reducible first | exact HB.out | apply below_alloc | apply pw_below_drewN | apply below_drew1 | refine below_set ?_ GE0.out | refine below_set ?_ GE1.out) | exact HB.out)⟩
   | succ k1 =>
    have H := HA.out
    clear HA
    simp only [hexG] at H
    obtain ⟨d, hd, H⟩ := Option.bind_eq_some_iff.mp H
    have c69 : ∀ W : World, Calls Tryd.prog 69 #[.int .u8 (bt a0 (i : Int))] W fun e w' => e = .returned (.int .i64 d) ∧ Drawn0 W w' := fun W => impl_hexOf.calls k _ d W hd
    clear hd
    have hs6 := Aside0.mk h6
    have hk : i / 2 = 0 ∨ i / 2 = 1 ∨ i / 2 = 2 := by have := HI.out; omega
    obtain ⟨x, hx⟩ : ∃ x : Int, x = (i : Int) := ⟨_, rfl⟩
    have X := Aside0.mk hx
    rw [← hx] at c69 ⊢
    have hx5 := bt_at a0 x
    have p5 := eq_true (show (0 : Int) ≤ x by omega)
    have q5 := eq_true (show x < (a0.size : Int) by have := HI.out; have := hs6.out; omega)
    have i6 : decide (x < 6) = true := decide_eq_true (by have := HI.out; omega)
    by_cases hd0 : d < 0
    ·rw [if_pos hd0] at H
     simp only [Option.some.injEq, Prod.mk.injEq] at H
     obtain ⟨rfl, rfl, rfl, rfl⟩ := H
     have d0 : decide (d < 0) = true := decide_eq_true hd0
     have c0_ : wr.cell? ⟨w.heap.size, 0, none⟩ = some (.int .i64 0) := (blk_cell B0.out 0).trans rfl
     have c1_ : wr.cell? ⟨w.heap.size, 1, none⟩ = some (.int .i64 0) := (blk_cell B0.out 1).trans rfl
     have c2_ : wr.cell? ⟨w.heap.size, 2, none⟩ = some (.int .i64 0) := (blk_cell B0.out 2).trans rfl
     have f0_ := blk_frozen B0.out 0
     have f1_ := blk_frozen B0.out 1
     have f2_ := blk_frozen B0.out 2
     clear hk h3 h6 hd0 hx
     go_wp2_with (go_at_call 69; (with_reducible refine (c69 _).mono ?_); rintro e w2 ⟨rfl, ⟨nd, rfl⟩⟩)
     refine bodyPost_ret (results_ct rfl _ _ w.heap.size 23 #[.int .i64 0, .int .i64 0, .int .i64 0] (0, 0) _ rfl (by (with_reducible repeat (first | refine blk_drewN ?_ _ | refine blk_drew ?_ | refine blk_alloc ?_ _)); refine blk_put (cs := #[.int .i64 0, .int .i64 0, .int .i64 0]) ?_ 2 _ rfl; (with_reducible repeat (first | refine blk_drewN ?_ _ | refine blk_drew ?_ | refine blk_alloc ?_ _)); refine blk_put (cs := #[.int .i64 0, .int .i64 0, .int .i64 0]) ?_ 1 _ rfl; (with_reducible repeat (first | refine blk_drewN ?_ _ | refine blk_drew ?_ | refine blk_alloc ?_ _)); refine blk_put (cs := #[.int .i64 0, .int .i64 0, .int .i64 0]) ?_ 0 _ rfl; (with_reducible repeat (first | refine blk_drewN ?_ _ | refine blk_drew ?_ | refine blk_alloc ?_ _)); exact B0.out) Tryd.underlying23 rfl (by kernel_rfl)) rfl ?_
     exact ⟨rfl, by repeat (first | (with_reducible first | exact HB.out | apply below_alloc | apply pw_below_drewN | apply below_drew1 | refine below_set ?_ GE0.out | refine below_set ?_ GE1.out) | exact HB.out)⟩
    ·rw [if_neg hd0] at H
     have d0 : decide (d < 0) = false := decide_eq_false hd0
     have a0_ : wr.cell? ⟨w.heap.size + 1, 0, none⟩ = some (.int .i64 a) := (blk_cell B1.out 0).trans rfl
     have a1_ : wr.cell? ⟨w.heap.size + 1, 1, none⟩ = some (.int .i64 b) := (blk_cell B1.out 1).trans rfl
     have a2_ : wr.cell? ⟨w.heap.size + 1, 2, none⟩ = some (.int .i64 c) := (blk_cell B1.out 2).trans rfl
     have f0_ := blk_frozen B1.out 0
     have f1_ := blk_frozen B1.out 1
     have f2_ := blk_frozen B1.out 2
     clear h3 h6 hd0
     have wx : wrap64 (x + 1) = ((i + 1 : Nat) : Int) := by have := HI.out; rw [hx]; unfold wrap64; omega
     have WX := Aside0.mk wx
     clear wx
     rcases hk with hk | hk | hk
     ·rw [if_pos hk] at H
      have H' := Aside0.mk H
      have t2 : Int.tdiv x 2 = ((0 : Nat) : Int) := by rw [← hk, hx]; rfl
      clear H hk hx
      go_wp2_with (go_at_call 69; (with_reducible refine (c69 _).mono ?_); rintro e w2 ⟨rfl, ⟨nd, rfl⟩⟩)
      go_roundg k1
      case measure => omega
      case rel =>
       refine ⟨i + 1, wrap64 (wrap64 (16 * a) + d), b, c, by rw [WX.out], H', ⟨by have := HI.out; omega⟩, ⟨?_⟩, ⟨?_⟩, ⟨?_⟩⟩
       ·(with_reducible repeat (first | refine blk_drewN ?_ _ | refine blk_drew ?_ | refine blk_alloc ?_ _)); refine blk_far ?_ N01.out _; (with_reducible repeat (first | refine blk_drewN ?_ _ | refine blk_drew ?_ | refine blk_alloc ?_ _)); exact B0.out
       ·(with_reducible repeat (first | refine blk_drewN ?_ _ | refine blk_drew ?_ | refine blk_alloc ?_ _)); refine blk_put (cs := #[.int .i64 a, .int .i64 b, .int .i64 c]) ?_ 0 _ rfl; (with_reducible repeat (first | refine blk_drewN ?_ _ | refine blk_drew ?_ | refine blk_alloc ?_ _)); exact B1.out
       ·repeat (first | (with_reducible first | exact HB.out | apply below_alloc | apply pw_below_drewN | apply below_drew1 | refine below_set ?_ GE0.out | refine below_set ?_ GE1.out) | exact HB.out)
     ·rw [if_neg (by omega), if_pos hk] at H
      have H' := Aside0.mk H
      have t2 : Int.tdiv x 2 = ((1 : Nat) : Int) := by rw [← hk, hx]; rfl
      clear H hk hx
      go_wp2_with (go_at_call 69; (with_reducible refine (c69 _).mono ?_); rintro e w2 ⟨rfl, ⟨nd, rfl⟩⟩)
      go_roundg k1
      case measure => omega
      case rel =>
       refine ⟨i + 1, a, wrap64 (wrap64 (16 * b) + d), c, by rw [WX.out], H', ⟨by have := HI.out; omega⟩, ⟨?_⟩, ⟨?_⟩, ⟨?_⟩⟩
       ·(with_reducible repeat (first | refine blk_drewN ?_ _ | refine blk_drew ?_ | refine blk_alloc ?_ _)); refine blk_far ?_ N01.out _; (with_reducible repeat (first | refine blk_drewN ?_ _ | refine blk_drew ?_ | refine blk_alloc ?_ _)); exact B0.out
       ·(with_reducible repeat (first | refine blk_drewN ?_ _ | refine blk_drew ?_ | refine blk_alloc ?_ _)); refine blk_put (cs := #[.int .i64 a, .int .i64 b, .int .i64 c]) ?_ 1 _ rfl; (with_reducible repeat (first | refine blk_drewN ?_ _ | refine blk_drew ?_ | refine blk_alloc ?_ _)); exact B1.out
       ·repeat (first | (with_reducible first | exact HB.out | apply below_alloc | apply pw_below_drewN | apply below_drew1 | refine below_set ?_ GE0.out | refine below_set ?_ GE1.out) | exact HB.out)
     ·rw [if_neg (by omega), if_neg (by omega)] at H
      have H' := Aside0.mk H
      have t2 : Int.tdiv x 2 = ((2 : Nat) : Int) := by rw [← hk, hx]; rfl
      clear H hk hx
      go_wp2_with (go_at_call 69; (with_reducible refine (c69 _).mono ?_); rintro e w2 ⟨rfl, ⟨nd, rfl⟩⟩)
      go_roundg k1
      case measure => omega
      case rel =>
       refine ⟨i + 1, a, b, wrap64 (wrap64 (16 * c) + d), by rw [WX.out], H', ⟨by have := HI.out; omega⟩, ⟨?_⟩, ⟨?_⟩, ⟨?_⟩⟩
       ·(with_reducible repeat (first | refine blk_drewN ?_ _ | refine blk_drew ?_ | refine blk_alloc ?_ _)); refine blk_far ?_ N01.out _; (with_reducible repeat (first | refine blk_drewN ?_ _ | refine blk_drew ?_ | refine blk_alloc ?_ _)); exact B0.out
       ·(with_reducible repeat (first | refine blk_drewN ?_ _ | refine blk_drew ?_ | refine blk_alloc ?_ _)); refine blk_put (cs := #[.int .i64 a, .int .i64 b, .int .i64 c]) ?_ 2 _ rfl; (with_reducible repeat (first | refine blk_drewN ?_ _ | refine blk_drew ?_ | refine blk_alloc ?_ _)); exact B1.out
       ·repeat (first | (with_reducible first | exact HB.out | apply below_alloc | apply pw_below_drewN | apply below_drew1 | refine below_set ?_ GE0.out | refine below_set ?_ GE1.out) | exact HB.out)
 ·rw [if_neg h6] at h
  simp only [Option.some.injEq, Prod.mk.injEq] at h
  obtain ⟨rfl, rfl, rfl, rfl⟩ := h
  have e3 : ((a0.size : Int) == 3) = false := beq_eq_false_iff_ne.mpr (by omega)
  have e6 : ((a0.size : Int) != 6) = true := bne_iff_ne.mpr (by omega)
  go_enter Tryd.func28, Tryd.ntmps28
  go_wp2
  refine bodyPost_ret (results_ct rfl _ _ w.heap.size 23 #[.int .i64 0, .int .i64 0, .int .i64 0] (0, 0) _ rfl (by first | exact blk_new _ _ | exact blk_drewN (blk_new _ _) _) Tryd.underlying23 rfl (by kernel_rfl)) rfl ?_
  exact ⟨rfl, by repeat (first | (with_reducible first | exact HB0.out | apply below_alloc | apply pw_below_drewN | apply below_drew1 | refine below_set ?_ (Nat.le_refl _)) | exact HB0.out)⟩

end Go.Proofs.YtooilehdljeepaaDoor.PFnExactReadColor
