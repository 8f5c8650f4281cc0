-- Laid by a program of this session out of the translation (its own run of the print). Lean checks it.
import Derived.Test.YtganmdnieihpeaaDoorPFnExactSheetTextx0
namespace Go.Proofs.YtganmdnieihpeaaDoor.PFnExactSheetText
open Go.RowKit Go.Proofs.YtganmdnieihpeaaDoorW.PrintWords Go.Proofs.YtganmdnieihpeaaDoorW.PrintLast Go.Proofs.YtganmdnieihpeaaDoorW.PrintMore
attribute [local go_sem] max2_int min2_int max_two min_two max_three min_three max_four min_four   -- for this text's walks alone
set_option linter.unusedVariables false
set_option linter.unusedSimpArgs false

/-! ### strings_ContainsAny: function 48 -/
def laid150_ren_ : Go.Shelf.Ren := ⟨fun | 119 => 102 | 137 => 101 | 150 => 48 | 152 => 86 | 153 => 66 | 217 => 109 | 224 => 103 | 225 => 104 | 226 => 87 | 227 => 81 | 228 => 88 | 266 => 114 | n => n, fun | 46 => 126 | 116 => 109 | 117 => 110 | 124 => 113 | n => n, fun | 1 => 0 | 3 => 1 | 4 => 2 | n => n⟩
theorem laid150_ : Go.Proofs.Lays.n150 Tryd.prog laid150_ren_ := {
 mixed := by kernel_rfl
 f119 := Tryd.func102.trans (congrArg some (by kernel_rfl))
 f137 := Tryd.func101.trans (congrArg some (by kernel_rfl))
 f150 := Tryd.func48.trans (congrArg some (by kernel_rfl))
 f152 := Tryd.func86.trans (congrArg some (by kernel_rfl))
 f153 := Tryd.func66.trans (congrArg some (by kernel_rfl))
 f217 := Tryd.func109.trans (congrArg some (by kernel_rfl))
 f224 := Tryd.func103.trans (congrArg some (by kernel_rfl))
 f225 := Tryd.func104.trans (congrArg some (by kernel_rfl))
 f226 := Tryd.func87.trans (congrArg some (by kernel_rfl))
 f227 := Tryd.func81.trans (congrArg some (by kernel_rfl))
 f228 := Tryd.func88.trans (congrArg some (by kernel_rfl))
 f266 := Tryd.func114.trans (congrArg some (by kernel_rfl))
 t0 := Tryd.underlying0
 a0 := Tryd.isAgg0
 z0 := Tryd.sizeOf0
 v0 := Tryd.zeroValue0
 t3 := Tryd.underlying3
 a3 := Tryd.isAgg3
 z3 := Tryd.sizeOf3
 v3 := Tryd.zeroValue3
 t4 := Tryd.underlying4
 a4 := Tryd.isAgg4
 z4 := Tryd.sizeOf4
 v4 := Tryd.zeroValue4
 t5 := Tryd.underlying5
 a5 := Tryd.isAgg5
 z5 := Tryd.sizeOf5
 v5 := Tryd.zeroValue5
 t9 := Tryd.underlying9
 a9 := Tryd.isAgg9
 z9 := Tryd.sizeOf9
 v9 := Tryd.zeroValue9
 t21 := Tryd.underlying21
 a21 := Tryd.isAgg21
 z21 := Tryd.sizeOf21
 v21 := Tryd.zeroValue21
 t46 := Tryd.underlying126
 a46 := Tryd.isAgg126
 z46 := Tryd.sizeOf126
 v46 := Tryd.zeroValue126
 t116 := Tryd.underlying109
 a116 := Tryd.isAgg109
 z116 := Tryd.sizeOf109
 t117 := Tryd.underlying110
 a117 := Tryd.isAgg110
 z117 := Tryd.sizeOf110
 v117 := Tryd.zeroValue110
 t124 := Tryd.underlying113
 a124 := Tryd.isAgg113
 z124 := Tryd.sizeOf113
 v124 := Tryd.zeroValue113 }

def anyC : ByteArray := ⟨#[59, 123, 125, 47, 33]⟩
theorem anyC_ascii : ∀ (j : Nat) b, anyC.data.toList[j]? = some b → b.toNat < 128 := by
 intro j b h
 have hm : b ∈ ([59, 123, 125, 47, 33] : List UInt8) := List.mem_of_getElem? h
 simp only [List.mem_cons, List.not_mem_nil, or_false] at hm
 rcases hm with rfl | rfl | rfl | rfl | rfl <;> decide
theorem anyC_none (i : Nat) (c : UInt8) (hc : 128 ≤ c.toNat) : Lib.indexByte ((anyC.extract i anyC.size).data.toList) c = -1 := by
 have hm : ∀ b ∈ (anyC.extract i anyC.size).data.toList, b ≠ c := by
  intro b hb e
  rw [ByteArray.data_extract, Array.toList_extract] at hb
  have hb2 := List.mem_of_mem_take hb
  obtain ⟨j, hj⟩ := List.getElem?_of_mem (List.mem_of_mem_drop hb2)
  have := anyC_ascii j b hj
  rw [e] at this
  omega
 generalize (anyC.extract i anyC.size).data.toList = l at hm
 induction l with
 | nil => rfl
 | cons b l ih =>
  have h1 := ih (fun x hx => hm x (List.mem_cons_of_mem _ hx))
  have h2 := hm b List.mem_cons_self
  unfold Lib.indexByte
  rw [if_neg (fun h => h2 (by simpa using h)), h1]
  rfl
set_option maxHeartbeats 4000000 in
set_option maxRecDepth 100000 in
theorem far_rune (r : Int) (h0 : 128 ≤ r) (h1 : r ≤ 1114111) (w : World) :
  Calls Tryd.prog 86 #[.string anyC, .int .i32 r] w fun e w' => e = .returned (.int .i64 (-1)) ∧ Below w.heap.size w w' := by
 have hz : anyC.size = 5 := rfl
 have hV : ∀ W : World, Calls Tryd.prog 102 #[.int .i32 r] W fun e w' => e = .returned (.bool (Lib.validRune r)) ∧ w' = W := fun W => Any.utf8_ValidRune { laid150_ with } r W
 have hI : ∀ (u : ByteArray) (b : UInt8) (W : World), Calls Tryd.prog 101 #[.string u, .int .u8 (b.toNat : Int)] W fun e w' => e = .returned (.int .i64 (Lib.indexByte u.data.toList b)) ∧ w' = W := fun u b W => by
  have h := Any.strings_IndexByte { laid150_ with } u (b.toNat : Int) W
  rw [show ((b.toNat : Int)).toNat.toUInt8 = b by simp] at h
  exact h
 by_cases hr : r = 65533
 ·subst hr
  go_enter Tryd.func86, Tryd.ntmps86
  go_wp2
  go_loopg [5, 6] 5 (fun g _ _ wx => ∃ i : Nat, i + g = 5 ∧ wx = w.iter anyC i)
  case atStart => exact ⟨0, by omega, rfl⟩
  case round =>
   obtain ⟨i, hig, rfl⟩ := hrel
   cases gk with
   | zero =>
    obtain rfl : i = 5 := by omega
    have hnx := run_next_end (P := Tryd.prog) w anyC 5
    go_wp2
    go_ret
    exact ⟨rfl, (Below.refl _ _).alloc (Nat.le_refl _) _⟩
   | succ g =>
    have hi : i < anyC.size := by omega
    obtain ⟨x, hx⟩ : ∃ x : UInt8, anyC[i]'hi = x := ⟨_, rfl⟩
    have hx128 : x.toNat < 128 := anyC_ascii i x (by rw [← hx]; exact Lib.data_getElem? anyC i hi)
    have hnx := fun ty => run_next_ascii (P := Tryd.prog) w anyC i ty hi (by rw [hx]; exact hx128)
    rw [hx] at hnx
    have hne : ((x.toNat : Int) == 65533) = false := beq_eq_false_iff_ne.mpr (by omega)
    go_wp2
    go_roundg g
    case measure => omega
    case rel => exact ⟨i + 1, by omega, rfl⟩
 ·by_cases hv : Lib.validRune r = true
  ·have hv2 : Utf8.valid r = true := by
    unfold Lib.validRune at hv
    unfold Utf8.valid
    simp at hv ⊢
    omega
   obtain ⟨e1, e2, e3⟩ := encode_facts r hv2 h0
   generalize ht : Utf8.encode r = t at e1 e2 e3
   obtain ⟨c, hc, hc128⟩ : ∃ c : UInt8, (∀ h : t.size - 1 < t.size, t[t.size - 1]'h = c) ∧ 128 ≤ c.toNat := ⟨t[t.size - 1]'(by omega), fun _ => rfl, e3 (by omega)⟩
   clear e3
   have hcv : ∀ W : World, (convert 21 9 (.int .i32 r)).run Tryd.prog W = .ok (.string t) W := fun W => by
    rw [run_convert_int_string W 21 9 .i32 r (by kernel_rfl) Tryd.underlying9, ht]
   have hib := anyC_none
   have hn : t.size - 1 = 1 ∨ t.size - 1 = 2 ∨ t.size - 1 = 3 := by omega
   have hsz : t.size = t.size - 1 + 1 := by omega
   generalize t.size - 1 = m at hc hn hsz
   have hw : IntKind.i64.wrap ((t.size : Int) - 1) = (m : Int) := by rw [wrap_small _ (by omega) (by omega)]; omega
   obtain ⟨x, hx⟩ : ∃ x : UInt8, anyC[m]'(by omega) = x := ⟨_, rfl⟩
   have hx128 : x.toNat < 128 := anyC_ascii m x (by rw [← hx]; exact Lib.data_getElem? anyC m (by omega))
   have hxa : ∀ h : m < anyC.size, anyC[m]'h = x := fun _ => hx
   have hne : ((x.toNat : Int) != (c.toNat : Int)) = true := bne_iff_ne.mpr (by omega)
   clear hx
   have hsl := anyC_none (m + 1) c hc128
   have q1 : ((m : Int) < (anyC.size : Int)) = True := eq_true (by omega)
   have q2 : (m < anyC.size) = True := eq_true (by omega)
   have q3 : ((m : Int) < (t.size : Int)) = True := eq_true (by omega)
   have q4 : (m < t.size) = True := eq_true (by omega)
   have q5 : decide ((m : Int) < (anyC.size : Int)) = true := decide_eq_true (by omega)
   have q6 : (0 ≤ (m : Int)) = True := eq_true (by omega)
   have q7 : IntKind.i64.wrap ((m : Int) + 1) = (m : Int) + 1 := wrap_small _ (by omega) (by omega)
   have q8 : (0 ≤ (m : Int) + 1) = True := eq_true (by omega)
   have q9 : ((m : Int) + 1 ≤ (anyC.size : Int)) = True := eq_true (by omega)
   have q10 : ((m : Int) + 1).toNat = m + 1 := by omega
   clear hz
   go_enter Tryd.func86, Tryd.ntmps86
   go_wp2_with (first | (go_at_call 102; refine (hV _).mono ?_; rintro e w' ⟨rfl, hw_⟩; rw [hw_, hv]))
   clear hib
   apply wp_scope_straight
   go_wp2
   go_loopg [9, 10] 0 (fun g v9 v10 wx => v9 = .int .i64 (m : Int) ∧ v10 = .int .i64 0 ∧ wx = w)
   case atStart => exact ⟨by first | rfl | (congr 1), rfl, by first | rfl | assumption⟩
   case round =>
    obtain ⟨rfl, rfl, rfl⟩ := hrel
    go_wp2
    apply wp_scope_straight
    go_wp2
    go_quiet (fail)
    go_wp2
    go_quiet (first | (go_at_call 101; (with_reducible refine (hI (anyC.extract (m + 1) anyC.size) c _).mono ?_); rintro e w' ⟨rfl, hw_⟩; rw [hw_, hsl]; exact ⟨rfl, _, rfl⟩))
    go_wp2
    simp only [Exit.noGoto_ret]
    go_wp2
    simp only [Exit.noGoto_ret]
    go_wp2
    go_ret
    exact ⟨rfl, by repeat (first | exact Below.refl _ _ | apply pw_below_drewN | apply below_drew1)⟩
  ·go_enter Tryd.func86, Tryd.ntmps86
   go_wp2_with (first | (go_at_call 102; refine (hV _).mono ?_; rintro e w' ⟨rfl, hw_⟩; rw [hw_, Bool.eq_false_iff.2 hv]))
   go_ret
   exact ⟨rfl, Below.refl _ _⟩
theorem any_bytes (s : ByteArray) (i : Nat) (hi : i < s.size) (h : 128 ≤ (Utf8.decode s i).1) : ∀ j, i ≤ j → j < i + (Utf8.decode s i).2 → ∀ b, s.data.toList[j]? = some b → 128 ≤ b.toNat := by
 intro j h1 h2 b hb
 rw [Lib.decode_N] at h h2
 have hlen : i < s.data.toList.length := by rw [← Lib.size_eq]; exact hi
 have g : ∀ k, s.data.toList.getD k 0 = (s.data.toList[k]?).getD 0 := fun k => List.getD_eq_getElem?_getD
 have hc := Lib.decodeN_conts (s.data.toList.length - i) (s.data.toList.getD i 0).toNat (s.data.toList.getD (i + 1) 0).toNat (s.data.toList.getD (i + 2) 0).toNat (s.data.toList.getD (i + 3) 0).toNat
 obtain ⟨c1, c2, c3, c4⟩ := hc
 have h0 : 128 ≤ (s.data.toList.getD i 0).toNat := by
  refine Classical.byContradiction fun hn => ?_
  rw [Lib.decodeN_ascii _ _ _ _ _ (by omega)] at h
  simp only at h
  omega
 have hj : j = i ∨ j = i + 1 ∨ j = i + 2 ∨ j = i + 3 := by omega
 have e : (s.data.toList.getD j 0) = b := by rw [g, hb]; rfl
 rcases hj with rfl | rfl | rfl | rfl
 ·rw [e] at h0; exact h0
 ·have := (c1 (by omega)).1; rw [e] at this; omega
 ·have := (c2 (by omega)).1; rw [e] at this; omega
 ·have := (c3 (by omega)).1; rw [e] at this; omega
theorem any_low (s : ByteArray) (i : Nat) (hi : i < s.size) (h : (Utf8.decode s i).1 < 128) : (Utf8.decode s i).2 = 1 ∧ ∃ x : UInt8, s.data.toList[i]? = some x ∧ (Utf8.decode s i).1 = x.toNat := by
 have hlen : i < s.data.toList.length := by rw [← Lib.size_eq]; exact hi
 have e : s.data.toList.getD i 0 = s.data.toList[i]'hlen := by rw [List.getD_eq_getElem?_getD, List.getElem?_eq_getElem hlen]; rfl
 rw [Lib.decode_N] at h ⊢
 by_cases h0 : (s.data.toList.getD i 0).toNat < 128
 ·rw [Lib.decodeN_ascii _ _ _ _ _ h0]
  exact ⟨rfl, _, List.getElem?_eq_getElem hlen, by rw [e]⟩
 ·exfalso
  rcases Lib.decodeN_shape (s.data.toList.length - i) (s.data.toList.getD i 0).toNat (s.data.toList.getD (i + 1) 0).toNat (s.data.toList.getD (i + 2) 0).toNat (s.data.toList.getD (i + 3) 0).toNat with ⟨a, _⟩ | ⟨_, _, _, a, b⟩ | ⟨_, _, _, _, a, _, b⟩ | ⟨_, _, _, _, _, a, _, b⟩ | b
  ·omega
  all_goals (rw [b] at h; simp only at h; omega)
set_option maxHeartbeats 4000000 in
set_option maxRecDepth 100000 in
theorem any_short (s : ByteArray) (w : World) (h8 : s.size ≤ 8) :
  Calls Tryd.prog 66 #[.string s, .string anyC] w fun e w' => e = .returned (.int .i64 (Lib.indexAny s.data.toList anyC.data.toList)) ∧ Below w.heap.size w w' := by
 have hemp : anyC.toList.isEmpty = false := by rw [Lib.toList_data]; rfl
 have hn1 : ((anyC.size : Int) == 1) = false := rfl
 have h8z : decide ((8 : Int) < (s.size : Int)) = false := decide_eq_false (by omega)
 have hS : ∀ W : World, Calls Tryd.prog 87 #[.int .i64 (s.size : Int)] W fun e w' => e = .returned (.bool (decide ((8 : Int) < (s.size : Int)))) ∧ w' = W := fun W => Any.strings_shouldUseASCIISet { laid150_ with } _ _
 have hR : ∀ (r : Int) (W : World), 0 ≤ r → r < 128 → Calls Tryd.prog 86 #[.string anyC, .int .i32 r] W fun e w' => e = .returned (.int .i64 (Lib.indexByte anyC.data.toList r.toNat.toUInt8)) ∧ w' = W := fun r W a b => Any.strings_IndexRune_ascii { laid150_ with } anyC r W a b
 go_enter Tryd.func66, Tryd.ntmps66
 go_wp2_with (first | (go_at_call 87; refine (hS _).mono ?_; rintro e w' ⟨rfl, hw⟩; rw [hw, h8z]))
 go_loopg [9, 10] s.size (fun g _ _ wx => ∃ i : Nat, s.size ≤ i + g ∧ wx.heap[w.heap.size]? = some (.stringIter s i) ∧ Below w.heap.size w wx ∧ Lib.NoAny s.data.toList anyC.data.toList i)
 case atStart => exact ⟨0, by omega, World.iter_heap _ _ _, (Below.refl _ _).alloc (Nat.le_refl _) _, Lib.NoAny.zero _ _⟩
 case round =>
  obtain ⟨i, hig, hk, hb, hno⟩ := hrel
  have HN := Aside0.mk hno
  have HK := Aside0.mk hk
  have HB := Aside0.mk hb
  clear hno hb
  by_cases hi : i < s.size
  ·cases gk with
   | zero => omega
   | succ g =>
    have hnx := fun ty => Lib.run_next_any_at (P := Tryd.prog) wr w.heap.size s i ty hk hi
    clear hk
    have hle := Lib.rune_le s i
    have hw1 := Lib.width_pos s i
    by_cases hlow : (Utf8.decode s i).1 < 128
    ·obtain ⟨hwd, x, hx, hrx⟩ := any_low s i hi hlow
     rw [hwd, hrx] at hnx
     have hx128 : x.toNat < 128 := by omega
     have Hx := Aside0.mk hx
     clear hx
     have hcon := Lib.contains_iff_indexByte anyC.data.toList x
     have hback : ((x.toNat : Int)).toNat.toUInt8 = x := by simp
     have hbW : Below w.heap.size w (wr.iterAt w.heap.size s (i + 1)) := Lib.below_iterAt HB.out (Nat.le_refl _) s _
     have hkW := Lib.iterAt_heap wr w.heap.size s i (i + 1) HK.out
     have HBW := Aside0.mk hbW
     have HKW := Aside0.mk hkW
     clear hbW hkW
     cases hin : anyC.data.toList.contains x
     ·rw [hin] at hcon
      have hlt : ¬ ((0 : Int) ≤ Lib.indexByte anyC.data.toList x) := of_decide_eq_false hcon.symm
      clear hcon
      go_wp2_with (first | (go_at_call 86; refine (hR _ _ (by omega) (by omega)).mono ?_; rintro e w' ⟨rfl, hw⟩; rw [hw, hback]))
      go_roundg g
      case measure => omega
      case rel => exact ⟨i + 1, by omega, HKW.out, HBW.out, HN.out.succ Hx.out hin⟩
     ·rw [hin] at hcon
      have hge : (0 : Int) ≤ Lib.indexByte anyC.data.toList x := of_decide_eq_true hcon.symm
      clear hcon
      go_wp2_with (first | (go_at_call 86; refine (hR _ _ (by omega) (by omega)).mono ?_; rintro e w' ⟨rfl, hw⟩; rw [hw, hback]))
      go_ret
      exact ⟨by rw [Lib.indexAny_hit HN.out Hx.out hin]; rfl, HBW.out⟩
    ·have hby := any_bytes s i hi (by omega)
     have HY := Aside0.mk hby
     clear hby
     have hbW : Below w.heap.size w (wr.iterAt w.heap.size s (i + (Utf8.decode s i).2)) := Lib.below_iterAt HB.out (Nat.le_refl _) s _
     have hkW := Lib.iterAt_heap wr w.heap.size s i (i + (Utf8.decode s i).2) HK.out
     have HBW := Aside0.mk hbW
     have HKW := Aside0.mk hkW
     clear hbW hkW
     have hF : ∀ W : World, Calls Tryd.prog 86 #[.string anyC, .int .i32 ((Utf8.decode s i).1 : Int)] W fun e w' => e = .returned (.int .i64 (-1)) ∧ Below W.heap.size W w' := fun W => far_rune _ (by omega) (by omega) W
     generalize (Utf8.decode s i).2 = wd at *
     generalize (Utf8.decode s i).1 = rn at *
     go_wp2_with (first | (go_at_call 86; refine (hF _).mono ?_; rintro e w' ⟨rfl, hb2⟩))
     have HB2 := Aside0.mk hb2
     go_roundg g
     case measure => omega
     case rel =>
      refine ⟨i + wd, by omega, blk_below HKW.out HB2.out, below_step HBW.out HB2.out, fun j b hj hbj => ?_⟩
      by_cases hji : j < i
      ·exact HN.out j b hji hbj
      ·have h128 := HY.out j (by omega) hj b hbj
       cases hc : anyC.data.toList.contains b
       ·rfl
       ·have hm : b ∈ anyC.data.toList := by simpa using hc
        obtain ⟨q, hq⟩ := List.getElem?_of_mem hm
        have := anyC_ascii q b hq
        omega
  ·have hnx := fun ty => Lib.run_next_end_at (P := Tryd.prog) wr w.heap.size s i ty hk hi
   clear hk
   go_wp2
   go_ret
   exact ⟨by rw [Lib.indexAny_none (fun j b hj hbj => HN.out j b (by have := Lib.size_eq s; omega) hbj)]; rfl, HB.out⟩
def strings_ContainsAny.f (a0 : ByteArray) (a1 : ByteArray) : Option Bool := if a0.size < 4294967281 ∧ a1.data.toList = [59, 123, 125, 47, 33] then some (Lib.containsAny a0.data.toList a1.data.toList) else none
set_option maxHeartbeats 4000000 in
set_option maxRecDepth 100000 in
theorem strings_ContainsAny.calls (a0 : ByteArray) (a1 : ByteArray) (r : Bool) (w : World) (h : strings_ContainsAny.f a0 a1 = some r) :
  Calls Tryd.prog 48 #[.string a0, .string a1] w fun e w' => e = .returned (.bool r) ∧ Below w.heap.size w w' := by
 unfold strings_ContainsAny.f at h
 by_cases hs : a0.size < 4294967281 ∧ a1.data.toList = [59, 123, 125, 47, 33]
 ·rw [if_pos hs] at h
  obtain rfl := Option.some.inj h
  obtain ⟨hs, hc⟩ := hs
  have e : a1 = anyC := by
   cases a1 with
   | mk d => cases d with
    | mk l => simp only at hc; subst hc; rfl
  subst e
  clear h hc
  have c : Calls Tryd.prog 66 #[.string a0, .string anyC] w fun e w' => e = .returned (.int .i64 (Lib.indexAny a0.data.toList anyC.data.toList)) ∧ Below w.heap.size w w' := by
   by_cases h8 : a0.size ≤ 8
   ·exact any_short a0 w h8
   ·have hz := zero_of_info (P := Tryd.prog) (t := laid150_ren_.t 116) (show (Tryd.prog.info? (laid150_ren_.t 116)).map (fun i => (i.zero, i.size)) = some (some (.agg (Array.replicate 256 (.bool false))), 256) by kernel_rfl)
    refine (Any.strings_IndexAny_long { laid150_ with } hz.1 hz.2 a0 anyC w (by decide) (by omega) hs (by decide) anyC_ascii).mono fun e w' ⟨h1, h2⟩ => ⟨h1, ?_⟩
    rw [h2]
    exact ((Below.refl _ _).alloc (Nat.le_refl _) _).alloc (by simp) _
  generalize hr : Lib.indexAny a0.data.toList anyC.data.toList = q at c
  have hca : Lib.containsAny a0.data.toList anyC.data.toList = decide (0 ≤ q) := by unfold Lib.containsAny; rw [hr]
  rw [hca]
  clear hr hca
  go_enter Tryd.func48, Tryd.ntmps48
  go_wp2_with (first | (go_at_call 66; refine c.mono ?_; rintro e w' ⟨rfl, hw⟩))
  go_ret
  exact ⟨rfl, hw⟩
 ·rw [if_neg hs] at h; cases h

end Go.Proofs.YtganmdnieihpeaaDoor.PFnExactSheetText
