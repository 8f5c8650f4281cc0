-- Laid by a program of this session out of the translation (its own run of the print). Lean checks it.
import Derived.Test.YtooilehdljeepaaDoorPFnExactReadSheetx0
namespace Go.Proofs.YtooilehdljeepaaDoor.PFnExactReadSheet
open Go.RowKit Go.Proofs.YtooilehdljeepaaDoorW.PrintWords Go.Proofs.YtooilehdljeepaaDoorW.PrintLast Go.Proofs.YtooilehdljeepaaDoorW.PrintMore
attribute [local go_sem] max2_int min2_int max_two min_two max_three min_three max_four min_four   -- for this text's walks alone
set_option linter.unusedVariables false
set_option linter.unusedSimpArgs false

/-! ### strings_Split: function 32 -/
def laid146_ren_ : Go.Shelf.Ren := ⟨fun | 138 => 125 | 143 => 126 | 146 => 32 | 195 => 159 | 197 => 137 | 217 => 176 | 218 => 160 | 219 => 151 | 221 => 71 | 224 => 178 | 225 => 177 | 260 => 162 | 266 => 191 | 267 => 179 | 268 => 124 | 314 => 192 | n => n, fun | 31 => 51 | 46 => 158 | 51 => 177 | 105 => 149 | 119 => 182 | 138 => 184 | 139 => 185 | 146 => 192 | n => n, fun | 1 => 0 | 3 => 1 | 4 => 2 | n => n⟩
theorem laid146_ : Go.Proofs.Lays.n146 Tryd.prog laid146_ren_ := {
 mixed := by kernel_rfl
 f138 := Tryd.func125.trans (congrArg some (by kernel_rfl))
 f143 := Tryd.func126.trans (congrArg some (by kernel_rfl))
 f146 := Tryd.func32.trans (congrArg some (by kernel_rfl))
 f195 := Tryd.func159.trans (congrArg some (by kernel_rfl))
 f197 := Tryd.func137.trans (congrArg some (by kernel_rfl))
 f217 := Tryd.func176.trans (congrArg some (by kernel_rfl))
 f218 := Tryd.func160.trans (congrArg some (by kernel_rfl))
 f219 := Tryd.func151.trans (congrArg some (by kernel_rfl))
 f221 := Tryd.func71.trans (congrArg some (by kernel_rfl))
 f224 := Tryd.func178.trans (congrArg some (by kernel_rfl))
 f225 := Tryd.func177.trans (congrArg some (by kernel_rfl))
 f260 := Tryd.func162.trans (congrArg some (by kernel_rfl))
 f266 := Tryd.func191.trans (congrArg some (by kernel_rfl))
 f267 := Tryd.func179.trans (congrArg some (by kernel_rfl))
 f268 := Tryd.func124.trans (congrArg some (by kernel_rfl))
 f314 := Tryd.func192.trans (congrArg some (by kernel_rfl))
 t0 := Tryd.underlying0
 a0 := Tryd.isAgg0
 z0 := Tryd.sizeOf0
 v0 := Tryd.zeroValue0
 t3 := Tryd.underlying3
 a3 := Tryd.isAgg3
 z3 := Tryd.sizeOf3
 v3 := Tryd.zeroValue3
 t4 := Tryd.underlying4
 a4 := Tryd.isAgg4
 z4 := Tryd.sizeOf4
 v4 := Tryd.zeroValue4
 t5 := Tryd.underlying5
 a5 := Tryd.isAgg5
 z5 := Tryd.sizeOf5
 v5 := Tryd.zeroValue5
 t9 := Tryd.underlying9
 a9 := Tryd.isAgg9
 z9 := Tryd.sizeOf9
 v9 := Tryd.zeroValue9
 t21 := Tryd.underlying21
 a21 := Tryd.isAgg21
 z21 := Tryd.sizeOf21
 v21 := Tryd.zeroValue21
 t31 := Tryd.underlying51
 a31 := Tryd.isAgg51
 z31 := Tryd.sizeOf51
 v31 := Tryd.zeroValue51
 t46 := Tryd.underlying158
 a46 := Tryd.isAgg158
 z46 := Tryd.sizeOf158
 v46 := Tryd.zeroValue158
 t51 := Tryd.underlying177
 a51 := Tryd.isAgg177
 z51 := Tryd.sizeOf177
 v51 := Tryd.zeroValue177
 t105 := Tryd.underlying149
 a105 := Tryd.isAgg149
 z105 := Tryd.sizeOf149
 v105 := Tryd.zeroValue149
 t119 := Tryd.underlying182
 a119 := Tryd.isAgg182
 z119 := Tryd.sizeOf182
 t138 := Tryd.underlying184
 a138 := Tryd.isAgg184
 z138 := Tryd.sizeOf184
 v138 := Tryd.zeroValue184
 t139 := Tryd.underlying185
 a139 := Tryd.isAgg185
 z139 := Tryd.sizeOf185
 v139 := Tryd.zeroValue185
 t146 := Tryd.underlying192
 a146 := Tryd.isAgg192
 z146 := Tryd.sizeOf192
 v146 := Tryd.zeroValue192
 g1 := by kernel_rfl
 g3 := by kernel_rfl
 g4 := by kernel_rfl }

/-- the library's own number of internal/bytealg lies in this world. -/
def U8Tabs_ (w : World) : Prop := ∃ m : Int, w.cell? ⟨laid146_ren_.g 1, 0, none⟩ = some (.int .i64 m)
theorem utf8_keep_ {w w' : World} (h : U8Tabs_ w) (hb : Below w.heap.size w w') : U8Tabs_ w' :=
 let ⟨m, hc⟩ := h
 ⟨m, (hb.cell (World.block_lt_of_cell? w _ hc)).trans hc⟩
theorem utf8_drawn_ {w w' : World} (h : U8Tabs_ w) (hb : Drawn0 w w') : U8Tabs_ w' := by
 obtain ⟨n, rfl⟩ := hb
 exact utf8_keep_ h (pw_below_drewN (Below.refl _ _) n)
def strings_Split.f (a0 : ByteArray) (a1 : ByteArray) : Option (List ByteArray) := if a0.size < 4294967281 ∧ 1 ≤ a1.size then some (Lib.splitB a1 0 (Lib.countB a0 a1) a0) else none
theorem strings_Split.calls (a0 : ByteArray) (a1 : ByteArray) (r : List ByteArray) (w : World) (h : strings_Split.f a0 a1 = some r) (hT_ : U8Tabs_ w) :
  Calls Tryd.prog 32 #[.string a0, .string a1] w fun e w' => ∃ v0_ : Value, e = .returned (v0_) ∧ Kd.R Kd.string 9 w' w.heap.size (fun _ => True) v0_ r ∧ Below w.heap.size w w' := by
 unfold strings_Split.f at h
 by_cases hs : a0.size < 4294967281 ∧ 1 ≤ a1.size
 ·rw [if_pos hs] at h
  obtain rfl := Option.some.inj h
  obtain ⟨m, hm⟩ := hT_
  have hle := Lib.countB_le a1 hs.2 a0.size a0 (Nat.le_refl _)
  have hlen := Lib.splitB_all a1 hs.2 0 _ a0 rfl
  have hs1 := hs.1
  refine (Any.strings_Split laid146_ (by kernel_rfl) a0 a1 m w hs.1 hm hs.2).mono fun e w' ⟨he, hw⟩ => ⟨_, he, ?_, by rw [hw]; exact below_alloc (Below.refl _ _) _⟩
  subst hw
  refine Kd.R_of_own ?_ (fun _ _ => trivial)
  refine ⟨by simp [encs], .inr ⟨w.heap.size, Lib.countB a0 a1 + 1, ((Lib.splitB a1 0 (Lib.countB a0 a1) a0).map Value.string).toArray, by rw [hlen], Nat.le_refl _, blk_new _ _, by omega, by unfold maxLen; omega, by simp [hlen], ?_⟩⟩
  rw [List.toList_toArray, List.take_of_length_le (by simp)]
  rfl
 ·rw [if_neg hs] at h; cases h

/-! ### impl_within: function 33 -/
def impl_within.f (a0 : Int) (a1 : Int) (a2 : Int) : Option (Bool) := if a1 ≤ a0 then (some (decide (a0 ≤ a2))) else (some false)
set_option maxHeartbeats 8000000 in
set_option maxRecDepth 100000 in
theorem impl_within.calls (a0 : Int) (a1 : Int) (a2 : Int) (r : Bool) (w : World) (h : impl_within.f a0 a1 a2 = some r) :
  Calls Tryd.prog 33 #[.int .i64 a0, .int .i64 a1, .int .i64 a2] w fun e w' => e = .returned (.bool r) ∧ Drawn0 w w' := by
 have H : (if a1 ≤ a0 then (some (decide (a0 ≤ a2))) else (some false)) = some r := h
 clear h
 by_cases c4 : a1 ≤ a0
 ·rw [if_pos c4] at H
  have c4b0 : decide (a1 ≤ a0) = true := decide_eq_true c4
  clear c4
  obtain rfl := Option.some.inj H
  go_enter Tryd.func33, Tryd.ntmps33
  go_wp2
  go_ret
  exact ⟨by first | rfl | (simp; done) | (simp [*]; done), by repeat (first | exact Drawn0.refl _ | apply Drawn0.step)⟩
 ·rw [if_neg c4] at H
  have c4b0 : decide (a1 ≤ a0) = false := decide_eq_false c4
  clear c4
  obtain rfl := Option.some.inj H
  go_enter Tryd.func33, Tryd.ntmps33
  go_wp2
  go_ret
  exact ⟨by first | rfl | (simp; done) | (simp [*]; done), by repeat (first | exact Drawn0.refl _ | apply Drawn0.step)⟩

/-! ### impl_isDigit: function 72 -/
def impl_isDigit.f (a0 : Int) : Option (Bool) := if a0 ≥ 48 then (some (decide (a0 ≤ 57))) else (some false)
set_option maxHeartbeats 8000000 in
set_option maxRecDepth 100000 in
theorem impl_isDigit.calls (a0 : Int) (r : Bool) (w : World) (h : impl_isDigit.f a0 = some r) :
  Calls Tryd.prog 72 #[.int .u8 a0] w fun e w' => e = .returned (.bool r) ∧ Drawn0 w w' := by
 have H : (if a0 ≥ 48 then (some (decide (a0 ≤ 57))) else (some false)) = some r := h
 clear h
 by_cases c2 : a0 ≥ 48
 ·rw [if_pos c2] at H
  have c2b0 : decide (48 ≤ a0) = true := decide_eq_true c2
  clear c2
  obtain rfl := Option.some.inj H
  go_enter Tryd.func72, Tryd.ntmps72
  go_wp2
  go_ret
  exact ⟨by first | rfl | (simp; done) | (simp [*]; done), by repeat (first | exact Drawn0.refl _ | apply Drawn0.step)⟩
 ·rw [if_neg c2] at H
  have c2b0 : decide (48 ≤ a0) = false := decide_eq_false c2
  clear c2
  obtain rfl := Option.some.inj H
  go_enter Tryd.func72, Tryd.ntmps72
  go_wp2
  go_ret
  exact ⟨by first | rfl | (simp; done) | (simp [*]; done), by repeat (first | exact Drawn0.refl _ | apply Drawn0.step)⟩

/-! ### impl_isLetter: function 184 -/
def impl_isLetter.f (a0 : Int) : Option (Bool) := if a0 ≥ 97 then (if a0 ≤ 122 then (some true) else (if a0 ≥ 65 then (some (decide (a0 ≤ 90))) else (some false))) else (if a0 ≥ 65 then (some (decide (a0 ≤ 90))) else (some false))
set_option maxHeartbeats 8000000 in
set_option maxRecDepth 100000 in
theorem impl_isLetter.calls (a0 : Int) (r : Bool) (w : World) (h : impl_isLetter.f a0 = some r) :
  Calls Tryd.prog 184 #[.int .u8 a0] w fun e w' => e = .returned (.bool r) ∧ Drawn0 w w' := by
 have H : (if a0 ≥ 97 then (if a0 ≤ 122 then (some true) else (if a0 ≥ 65 then (some (decide (a0 ≤ 90))) else (some false))) else (if a0 ≥ 65 then (some (decide (a0 ≤ 90))) else (some false))) = some r := h
 clear h
 by_cases c2 : a0 ≥ 97
 ·rw [if_pos c2] at H
  have c2b0 : decide (97 ≤ a0) = true := decide_eq_true c2
  clear c2
  by_cases c3 : a0 ≤ 122
  ·rw [if_pos c3] at H
   have c3b0 : decide (a0 ≤ 122) = true := decide_eq_true c3
   clear c3
   obtain rfl := Option.some.inj H
   go_enter Tryd.func184, Tryd.ntmps184
   go_wp2
   go_ret
   exact ⟨by first | rfl | (simp; done) | (simp [*]; done), by repeat (first | exact Drawn0.refl _ | apply Drawn0.step)⟩
  ·rw [if_neg c3] at H
   have c3b0 : decide (a0 ≤ 122) = false := decide_eq_false c3
   clear c3
   by_cases c4 : a0 ≥ 65
   ·rw [if_pos c4] at H
    have c4b0 : decide (65 ≤ a0) = true := decide_eq_true c4
    clear c4
    obtain rfl := Option.some.inj H
    go_enter Tryd.func184, Tryd.ntmps184
    go_wp2
    go_ret
    exact ⟨by first | rfl | (simp; done) | (simp [*]; done), by repeat (first | exact Drawn0.refl _ | apply Drawn0.step)⟩
   ·rw [if_neg c4] at H
    have c4b0 : decide (65 ≤ a0) = false := decide_eq_false c4
    clear c4
    obtain rfl := Option.some.inj H
    go_enter Tryd.func184, Tryd.ntmps184
    go_wp2
    go_ret
    exact ⟨by first | rfl | (simp; done) | (simp [*]; done), by repeat (first | exact Drawn0.refl _ | apply Drawn0.step)⟩
 ·rw [if_neg c2] at H
  have c2b0 : decide (97 ≤ a0) = false := decide_eq_false c2
  clear c2
  by_cases c5 : a0 ≥ 65
  ·rw [if_pos c5] at H
   have c5b0 : decide (65 ≤ a0) = true := decide_eq_true c5
   clear c5
   obtain rfl := Option.some.inj H
   go_enter Tryd.func184, Tryd.ntmps184
   go_wp2
   go_ret
   exact ⟨by first | rfl | (simp; done) | (simp [*]; done), by repeat (first | exact Drawn0.refl _ | apply Drawn0.step)⟩
  ·rw [if_neg c5] at H
   have c5b0 : decide (65 ≤ a0) = false := decide_eq_false c5
   clear c5
   obtain rfl := Option.some.inj H
   go_enter Tryd.func184, Tryd.ntmps184
   go_wp2
   go_ret
   exact ⟨by first | rfl | (simp; done) | (simp [*]; done), by repeat (first | exact Drawn0.refl _ | apply Drawn0.step)⟩

/-! ### impl_wordEnd: function 164 -/
mutual
def impl_wordEnd.j0 : Nat → ByteArray → Int → Bool → Option (Int)
 | 0, _, _, _ => none
 | k + 1, x0, x1, x14 => if x14 = true then (some x1) else (impl_wordEnd.l0 k x0 x1)
def impl_wordEnd.l0 : Nat → ByteArray → Int → Option (Int)
 | 0, _, _ => none
 | k + 1, x0, x1 => if x1 < (x0.size : Int) then (if 0 ≤ x1 then ((impl_isLetter.f (bt x0 x1)).bind fun t190 => (if t190 = true then (impl_wordEnd.l0 k x0 (wrap64 (x1 + 1))) else ((impl_isDigit.f (bt x0 x1)).bind fun t191 => (if t191 = true then (impl_wordEnd.l0 k x0 (wrap64 (x1 + 1))) else (if (bt x0 x1) = 95 then (impl_wordEnd.l0 k x0 (wrap64 (x1 + 1))) else (if (bt x0 x1) = 45 then (impl_wordEnd.l0 k x0 (wrap64 (x1 + 1))) else (some x1))))))) else (none)) else (some x1)
end
def impl_wordEnd.f (k : Nat) (a0 : ByteArray) (a1 : Int) : Option (Int) := if a1 < (a0.size : Int) then (if 0 ≤ a1 then ((impl_isDigit.f (bt a0 a1)).bind fun t189 => (impl_wordEnd.j0 k a0 a1 t189)) else (none)) else (impl_wordEnd.j0 k a0 a1 false)
set_option maxHeartbeats 8000000 in
set_option maxRecDepth 100000 in
theorem impl_wordEnd.calls (k : Nat) (a0 : ByteArray) (a1 : Int) (r : Int) (w : World) (h : impl_wordEnd.f k a0 a1 = some r) :
  Calls Tryd.prog 164 #[.string a0, .int .i64 a1] w fun e w' => e = .returned (.int .i64 r) ∧ Drawn0 w w' := by
 have H : (if a1 < (a0.size : Int) then (if 0 ≤ a1 then ((impl_isDigit.f (bt a0 a1)).bind fun t189 => (impl_wordEnd.j0 k a0 a1 t189)) else (none)) else (impl_wordEnd.j0 k a0 a1 false)) = some r := h
 clear h
 have HC3 := Aside0.mk H
 clear H
 go_enter Tryd.func164, Tryd.ntmps164
 go_upto_region 1 with (fail)
 go_cut [14] (fun v14 wc => ∃ (kq : Nat) (x14_2 : Bool), v14 = .bool x14_2 ∧ Aside0 (impl_wordEnd.j0 kq a0 a1 x14_2 = some r) ∧ Aside0 (kq ≤ k) ∧ Drawn0 w wc)
 case first =>
  have H := HC3.out
  clear HC3
  by_cases c4 : a1 < (a0.size : Int)
  ·rw [if_pos c4] at H
   have c4b0 : decide (a1 < (a0.size : Int)) = true := decide_eq_true c4
   clear c4
   (first | rw [c4b0] | (simp only [i64_w, i32_w]; rw [c4b0]) | skip)
   by_cases c5 : 0 ≤ a1
   ·rw [if_pos c5] at H
    have c5b0 : decide (0 ≤ a1) = true := decide_eq_true c5
    clear c5
    replace H := Option.bind_eq_some_iff.mp H
    obtain ⟨t189, A70, H⟩ := H
    replace H : (impl_wordEnd.j0 k a0 a1 t189) = some r := H
    have A7 := Aside0.mk A70
    clear A70
    have H' := Aside0.mk H
    clear H
    have p6 : 0 ≤ (a1 : Int) := of_decide_eq_true am_
    have q6 : a1 < (a0.size : Int) := of_decide_eq_true am_
    have hx6 := bt_at a0 a1
    replace p6 := eq_true p6
    replace q6 := eq_true q6
    go_wp2_with (first | (go_at_call 72; (with_reducible refine (impl_isDigit.calls (bt a0 a1) t189 _ A7.out).mono ?_); rintro e w' ⟨rfl, ⟨nd, rfl⟩⟩))
    go_meet
    case rel => exact ⟨_, (t189), sv_, H', ⟨by first | omega | exact Nat.le_refl _⟩, by repeat (first | exact Drawn0.refl _ | apply Drawn0.step)⟩
   ·rw [if_neg c5] at H
    exact absurd H (by simp)
  ·rw [if_neg c4] at H
   have c4b0 : decide (a1 < (a0.size : Int)) = false := decide_eq_false c4
   clear c4
   (first | rw [c4b0] | (simp only [i64_w, i32_w]; rw [c4b0]) | skip)
   have H' := Aside0.mk H
   clear H
   go_wp2
   go_meet
   case rel => exact ⟨_, (false), sv_, H', ⟨by first | omega | exact Nat.le_refl _⟩, by repeat (first | exact Drawn0.refl _ | apply Drawn0.step)⟩
 case rest =>
  clear HC3
  (try clear c1);(try clear p2);(try clear c4);(try clear c4b0);(try clear c5);(try clear c5b0);(try clear p6);(try clear q6);(try clear hx6);(try clear p6);(try clear q6)
  obtain ⟨kq, x14_2, rfl, HA, HJ2, ⟨mc2, rfl⟩⟩ := hcut
  cases kq with
  | zero => exact absurd HA.out (by simp [impl_wordEnd.j0])
  | succ kj2 =>
   have H := HA.out
   clear HA
   simp only [impl_wordEnd.j0] at H
   by_cases c8 : x14_2 = true
   ·subst c8
    have H1 : (some a1) = some r := by rw [if_pos rfl] at H; exact H
    clear H
    have H := H1
    clear H1
    obtain rfl := Option.some.inj H
    go_wp2
    go_ret
    exact ⟨by first | rfl | (simp; done) | (simp [*]; done), by repeat (first | exact Drawn0.refl _ | apply Drawn0.step)⟩
   ·replace c8 := Bool.eq_false_iff.mpr c8
    subst c8
    have H1 : (impl_wordEnd.l0 kj2 a0 a1) = some r := by rw [if_neg (show ¬ (false = true) by decide)] at H; exact H
    clear H
    have H := H1
    clear H1
    have H' := Aside0.mk H
    clear H
    go_wp2
    go_loopg [1] kj2 (fun kq v1 w' => ∃ (x1_2 : Int), v1 = .int .i64 x1_2 ∧ Aside0 (impl_wordEnd.l0 kq a0 x1_2 = some r) ∧ Aside0 (kq ≤ kj2) ∧ Drawn0 w w')
    case atStart => exact ⟨(a1), sv_, H', ⟨Nat.le_refl _⟩, by repeat (first | exact Drawn0.refl _ | apply Drawn0.step)⟩
    case round =>
     clear H'
     (try clear c1);(try clear c2);(try clear p2);(try clear c4);(try clear c4b0);(try clear c5);(try clear c5b0);(try clear p6);(try clear q6);(try clear hx6);(try clear c8);(try clear p2);(try clear p6);(try clear q6)
     obtain ⟨x1_2, rfl, HA, HK2, ⟨m2, rfl⟩⟩ := hrel
     cases gk with
     | zero => exact absurd HA.out (by simp [impl_wordEnd.l0])
     | succ k2 =>
      have H := HA.out
      clear HA
      simp only [impl_wordEnd.l0] at H
      by_cases c9 : x1_2 < (a0.size : Int)
      ·rw [if_pos c9] at H
       have c9b0 : decide (x1_2 < (a0.size : Int)) = true := decide_eq_true c9
       clear c9
       by_cases c10 : 0 ≤ x1_2
       ·rw [if_pos c10] at H
        have c10b0 : decide (0 ≤ x1_2) = true := decide_eq_true c10
        clear c10
        replace H := Option.bind_eq_some_iff.mp H
        obtain ⟨t190, A120, H⟩ := H
        replace H : (if t190 = true then (impl_wordEnd.l0 k2 a0 (wrap64 (x1_2 + 1))) else ((impl_isDigit.f (bt a0 x1_2)).bind fun t191 => (if t191 = true then (impl_wordEnd.l0 k2 a0 (wrap64 (x1_2 + 1))) else (if (bt a0 x1_2) = 95 then (impl_wordEnd.l0 k2 a0 (wrap64 (x1_2 + 1))) else (if (bt a0 x1_2) = 45 then (impl_wordEnd.l0 k2 a0 (wrap64 (x1_2 + 1))) else (some x1_2)))))) = some r := H
        have A12 := Aside0.mk A120
        clear A120
        by_cases c13 : t190 = true
        ·subst c13
         have H1 : (impl_wordEnd.l0 k2 a0 (wrap64 (x1_2 + 1))) = some r := by rw [if_pos rfl] at H; exact H
         clear H
         have H := H1
         clear H1
         have H' := Aside0.mk H
         clear H
         have p11 : 0 ≤ (x1_2 : Int) := of_decide_eq_true am_
         have q11 : x1_2 < (a0.size : Int) := of_decide_eq_true am_
         have hx11 := bt_at a0 x1_2
         replace p11 := eq_true p11
         replace q11 := eq_true q11
         go_wp2_with (first | (go_at_call 184; (with_reducible refine (impl_isLetter.calls (bt a0 x1_2) true _ A12.out).mono ?_); rintro e w' ⟨rfl, ⟨nd, rfl⟩⟩))
         go_roundg k2
         case measure => have := HJ2.out; have := HK2.out; omega
         case rel => exact ⟨(wrap64 (x1_2 + 1)), sv_, H', ⟨by have := HJ2.out; have := HK2.out; omega⟩, by repeat (first | exact Drawn0.refl _ | apply Drawn0.step)⟩
        ·replace c13 := Bool.eq_false_iff.mpr c13
         subst c13
         have H1 : ((impl_isDigit.f (bt a0 x1_2)).bind fun t191 => (if t191 = true then (impl_wordEnd.l0 k2 a0 (wrap64 (x1_2 + 1))) else (if (bt a0 x1_2) = 95 then (impl_wordEnd.l0 k2 a0 (wrap64 (x1_2 + 1))) else (if (bt a0 x1_2) = 45 then (impl_wordEnd.l0 k2 a0 (wrap64 (x1_2 + 1))) else (some x1_2))))) = some r := by rw [if_neg (show ¬ (false = true) by decide)] at H; exact H
         clear H
         have H := H1
         clear H1
         replace H := Option.bind_eq_some_iff.mp H
         obtain ⟨t191, A150, H⟩ := H
         replace H : (if t191 = true then (impl_wordEnd.l0 k2 a0 (wrap64 (x1_2 + 1))) else (if (bt a0 x1_2) = 95 then (impl_wordEnd.l0 k2 a0 (wrap64 (x1_2 + 1))) else (if (bt a0 x1_2) = 45 then (impl_wordEnd.l0 k2 a0 (wrap64 (x1_2 + 1))) else (some x1_2)))) = some r := H
         have A15 := Aside0.mk A150
         clear A150
         by_cases c16 : t191 = true
         ·subst c16
          have H1 : (impl_wordEnd.l0 k2 a0 (wrap64 (x1_2 + 1))) = some r := by rw [if_pos rfl] at H; exact H
          clear H
          have H := H1
          clear H1
          have H' := Aside0.mk H
          clear H
          have p11 : 0 ≤ (x1_2 : Int) := of_decide_eq_true am_
          have q11 : x1_2 < (a0.size : Int) := of_decide_eq_true am_
          have hx11 := bt_at a0 x1_2
          replace p11 := eq_true p11
          replace q11 := eq_true q11
          go_wp2_with (first | (go_at_call 184; (with_reducible refine (impl_isLetter.calls (bt a0 x1_2) false _ A12.out).mono ?_); rintro e w' ⟨rfl, ⟨nd, rfl⟩⟩; have p14 : 0 ≤ (x1_2 : Int) := of_decide_eq_true am_; have q14 : x1_2 < (a0.size : Int) := of_decide_eq_true am_; have hx14 := bt_at a0 x1_2; replace p14 := eq_true p14; replace q14 := eq_true q14) | (go_at_call 72; (with_reducible refine (impl_isDigit.calls (bt a0 x1_2) true _ A15.out).mono ?_); rintro e w' ⟨rfl, ⟨nd, rfl⟩⟩))
          go_roundg k2
          case measure => have := HJ2.out; have := HK2.out; omega
          case rel => exact ⟨(wrap64 (x1_2 + 1)), sv_, H', ⟨by have := HJ2.out; have := HK2.out; omega⟩, by repeat (first | exact Drawn0.refl _ | apply Drawn0.step)⟩
         ·replace c16 := Bool.eq_false_iff.mpr c16
          subst c16
          have H1 : (if (bt a0 x1_2) = 95 then (impl_wordEnd.l0 k2 a0 (wrap64 (x1_2 + 1))) else (if (bt a0 x1_2) = 45 then (impl_wordEnd.l0 k2 a0 (wrap64 (x1_2 + 1))) else (some x1_2))) = some r := by rw [if_neg (show ¬ (false = true) by decide)] at H; exact H
          clear H
          have H := H1
          clear H1
          by_cases c18 : (bt a0 x1_2) = 95
          ·rw [if_pos c18] at H
           have c18b0 : ((bt a0 x1_2) == 95) = true := beq_iff_eq.mpr c18
           have c18b1 : ((bt a0 x1_2) != 95) = false := bne_eq_false_iff_eq.mpr c18
           clear c18
           have H' := Aside0.mk H
           clear H
           have p11 : 0 ≤ (x1_2 : Int) := of_decide_eq_true am_
           have q11 : x1_2 < (a0.size : Int) := of_decide_eq_true am_
           have hx11 := bt_at a0 x1_2
           replace p11 := eq_true p11
           replace q11 := eq_true q11
           go_wp2_with (first | (go_at_call 184; (with_reducible refine (impl_isLetter.calls (bt a0 x1_2) false _ A12.out).mono ?_); rintro e w' ⟨rfl, ⟨nd, rfl⟩⟩; have p14 : 0 ≤ (x1_2 : Int) := of_decide_eq_true am_; have q14 : x1_2 < (a0.size : Int) := of_decide_eq_true am_; have hx14 := bt_at a0 x1_2; replace p14 := eq_true p14; replace q14 := eq_true q14) | (go_at_call 72; (with_reducible refine (impl_isDigit.calls (bt a0 x1_2) false _ A15.out).mono ?_); rintro e w' ⟨rfl, ⟨nd, rfl⟩⟩; have p17 : 0 ≤ (x1_2 : Int) := of_decide_eq_true am_; have q17 : x1_2 < (a0.size : Int) := of_decide_eq_true am_; have hx17 := bt_at a0 x1_2; replace p17 := eq_true p17; replace q17 := eq_true q17))
           go_roundg k2
           case measure => have := HJ2.out; have := HK2.out; omega
           case rel => exact ⟨(wrap64 (x1_2 + 1)), sv_, H', ⟨by have := HJ2.out; have := HK2.out; omega⟩, by repeat (first | exact Drawn0.refl _ | apply Drawn0.step)⟩
          ·rw [if_neg c18] at H
           have c18b0 : ((bt a0 x1_2) == 95) = false := beq_eq_false_iff_ne.mpr c18
           have c18b1 : ((bt a0 x1_2) != 95) = true := bne_iff_ne.mpr c18
           by_cases c20 : (bt a0 x1_2) = 45
           ·rw [if_pos c20] at H
            have c20b0 : ((bt a0 x1_2) == 45) = true := beq_iff_eq.mpr c20
            have c20b1 : ((bt a0 x1_2) != 45) = false := bne_eq_false_iff_eq.mpr c20
            clear c20
            have H' := Aside0.mk H
            clear H
            have p11 : 0 ≤ (x1_2 : Int) := of_decide_eq_true am_
            have q11 : x1_2 < (a0.size : Int) := of_decide_eq_true am_
            have hx11 := bt_at a0 x1_2
            replace p11 := eq_true p11
            replace q11 := eq_true q11
            go_wp2_with (first | (go_at_call 184; (with_reducible refine (impl_isLetter.calls (bt a0 x1_2) false _ A12.out).mono ?_); rintro e w' ⟨rfl, ⟨nd, rfl⟩⟩; have p14 : 0 ≤ (x1_2 : Int) := of_decide_eq_true am_; have q14 : x1_2 < (a0.size : Int) := of_decide_eq_true am_; have hx14 := bt_at a0 x1_2; replace p14 := eq_true p14; replace q14 := eq_true q14) | (go_at_call 72; (with_reducible refine (impl_isDigit.calls (bt a0 x1_2) false _ A15.out).mono ?_); rintro e w' ⟨rfl, ⟨nd, rfl⟩⟩; have p17 : 0 ≤ (x1_2 : Int) := of_decide_eq_true am_; have q17 : x1_2 < (a0.size : Int) := of_decide_eq_true am_; have hx17 := bt_at a0 x1_2; replace p17 := eq_true p17; replace q17 := eq_true q17; have p19 : 0 ≤ (x1_2 : Int) := of_decide_eq_true am_; have q19 : x1_2 < (a0.size : Int) := of_decide_eq_true am_; have hx19 := bt_at a0 x1_2; replace p19 := eq_true p19; replace q19 := eq_true q19))
            go_roundg k2
            case measure => have := HJ2.out; have := HK2.out; omega
            case rel => exact ⟨(wrap64 (x1_2 + 1)), sv_, H', ⟨by have := HJ2.out; have := HK2.out; omega⟩, by repeat (first | exact Drawn0.refl _ | apply Drawn0.step)⟩
           ·rw [if_neg c20] at H
            have c20b0 : ((bt a0 x1_2) == 45) = false := beq_eq_false_iff_ne.mpr c20
            have c20b1 : ((bt a0 x1_2) != 45) = true := bne_iff_ne.mpr c20
            obtain rfl := Option.some.inj H
            have p11 : 0 ≤ (x1_2 : Int) := of_decide_eq_true am_
            have q11 : x1_2 < (a0.size : Int) := of_decide_eq_true am_
            have hx11 := bt_at a0 x1_2
            replace p11 := eq_true p11
            replace q11 := eq_true q11
            go_wp2_with (first | (go_at_call 184; (with_reducible refine (impl_isLetter.calls (bt a0 x1_2) false _ A12.out).mono ?_); rintro e w' ⟨rfl, ⟨nd, rfl⟩⟩; have p14 : 0 ≤ (x1_2 : Int) := of_decide_eq_true am_; have q14 : x1_2 < (a0.size : Int) := of_decide_eq_true am_; have hx14 := bt_at a0 x1_2; replace p14 := eq_true p14; replace q14 := eq_true q14) | (go_at_call 72; (with_reducible refine (impl_isDigit.calls (bt a0 x1_2) false _ A15.out).mono ?_); rintro e w' ⟨rfl, ⟨nd, rfl⟩⟩; have p17 : 0 ≤ (x1_2 : Int) := of_decide_eq_true am_; have q17 : x1_2 < (a0.size : Int) := of_decide_eq_true am_; have hx17 := bt_at a0 x1_2; replace p17 := eq_true p17; replace q17 := eq_true q17; have p19 : 0 ≤ (x1_2 : Int) := of_decide_eq_true am_; have q19 : x1_2 < (a0.size : Int) := of_decide_eq_true am_; have hx19 := bt_at a0 x1_2; replace p19 := eq_true p19; replace q19 := eq_true q19))
            go_ret
            exact ⟨by first | rfl | (simp; done) | (simp [*]; done), by repeat (first | exact Drawn0.refl _ | apply Drawn0.step)⟩
       ·rw [if_neg c10] at H
        exact absurd H (by simp)
      ·rw [if_neg c9] at H
       have c9b0 : decide (x1_2 < (a0.size : Int)) = false := decide_eq_false c9
       clear c9
       obtain rfl := Option.some.inj H
       go_wp2
       go_ret
       exact ⟨by first | rfl | (simp; done) | (simp [*]; done), by repeat (first | exact Drawn0.refl _ | apply Drawn0.step)⟩

/-! ### impl_isWord: function 140 -/
def impl_isWord.f (k : Nat) (a0 : ByteArray) : Option (Bool) := (impl_within.f (a0.size : Int) 1 30).bind fun t192 => (if t192 = true then ((impl_wordEnd.f k a0 0).bind fun t193 => (some (t193 == (a0.size : Int)))) else (some false))
set_option maxHeartbeats 8000000 in
set_option maxRecDepth 100000 in
theorem impl_isWord.calls (k : Nat) (a0 : ByteArray) (r : Bool) (w : World) (h : impl_isWord.f k a0 = some r) :
  Calls Tryd.prog 140 #[.string a0] w fun e w' => e = .returned (.bool r) ∧ Drawn0 w w' := by
 have H : ((impl_within.f (a0.size : Int) 1 30).bind fun t192 => (if t192 = true then ((impl_wordEnd.f k a0 0).bind fun t193 => (some (t193 == (a0.size : Int)))) else (some false))) = some r := h
 clear h
 replace H := Option.bind_eq_some_iff.mp H
 obtain ⟨t192, A20, H⟩ := H
 replace H : (if t192 = true then ((impl_wordEnd.f k a0 0).bind fun t193 => (some (t193 == (a0.size : Int)))) else (some false)) = some r := H
 have A2 := Aside0.mk A20
 clear A20
 by_cases c3 : t192 = true
 ·subst c3
  have H1 : ((impl_wordEnd.f k a0 0).bind fun t193 => (some (t193 == (a0.size : Int)))) = some r := by rw [if_pos rfl] at H; exact H
  clear H
  have H := H1
  clear H1
  replace H := Option.bind_eq_some_iff.mp H
  obtain ⟨t193, A40, H⟩ := H
  replace H : (some (t193 == (a0.size : Int))) = some r := H
  have A4 := Aside0.mk A40
  clear A40
  obtain rfl := Option.some.inj H
  go_enter Tryd.func140, Tryd.ntmps140
  go_wp2_with (first | ((with_reducible refine gate_callee (f := 33) rfl ?_); refine goesL_ (some 5) rfl rfl Tryd.func33 (by kernel_rfl) rfl #[.int .i64 (a0.size : Int), .int .i64 1, .int .i64 30] rfl au_ ?_; (with_reducible refine (impl_within.calls (a0.size : Int) 1 30 true _ A2.out).mono ?_); rintro e w' ⟨rfl, ⟨nd, rfl⟩⟩; refine ⟨_, rfl, ?_⟩) | (go_at_call 164; (with_reducible refine (impl_wordEnd.calls k a0 0 t193 _ A4.out).mono ?_); rintro e w' ⟨rfl, ⟨nd, rfl⟩⟩))
  go_ret
  exact ⟨by first | rfl | (simp; done) | (simp [*]; done), by repeat (first | exact Drawn0.refl _ | apply Drawn0.step)⟩
 ·replace c3 := Bool.eq_false_iff.mpr c3
  subst c3
  have H1 : (some false) = some r := by rw [if_neg (show ¬ (false = true) by decide)] at H; exact H
  clear H
  have H := H1
  clear H1
  obtain rfl := Option.some.inj H
  go_enter Tryd.func140, Tryd.ntmps140
  go_wp2_with (first | ((with_reducible refine gate_callee (f := 33) rfl ?_); refine goesL_ (some 5) rfl rfl Tryd.func33 (by kernel_rfl) rfl #[.int .i64 (a0.size : Int), .int .i64 1, .int .i64 30] rfl au_ ?_; (with_reducible refine (impl_within.calls (a0.size : Int) 1 30 false _ A2.out).mono ?_); rintro e w' ⟨rfl, ⟨nd, rfl⟩⟩; refine ⟨_, rfl, ?_⟩))
  go_ret
  exact ⟨by first | rfl | (simp; done) | (simp [*]; done), by repeat (first | exact Drawn0.refl _ | apply Drawn0.step)⟩

end Go.Proofs.YtooilehdljeepaaDoor.PFnExactReadSheet
