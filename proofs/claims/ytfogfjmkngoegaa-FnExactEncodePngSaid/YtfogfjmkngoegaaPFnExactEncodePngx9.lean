-- Laid by a program of this session out of the translation (its own run of the print). Lean checks it.
import Derived.Test.YtfogfjmkngoegaaPFnExactEncodePngx0
import Derived.Test.YtfogfjmkngoegaaPFnExactEncodePngx2
import Derived.Test.YtfogfjmkngoegaaPFnExactEncodePngx8
namespace Go.Proofs.Ytfogfjmkngoegaa.PFnExactEncodePng
open Go.RowKit Go.Proofs.YtfogfjmkngoegaaW.PrintWords Go.Proofs.YtfogfjmkngoegaaW.PrintLast Go.Proofs.YtfogfjmkngoegaaW.PrintMore
attribute [local go_sem] max2_int min2_int max_two min_two max_three min_three max_four min_four   -- for this text's walks alone
set_option linter.unusedVariables false
set_option linter.unusedSimpArgs false

/-! ### impl_Crc32: function 45 -/
mutual
def impl_Crc32.l0 : Nat → Int → List Int → Int → Int → Option (Int)
 | 0, _, _, _, _ => none
 | k + 1, x3, x7, x8, x9 => if x9 < x8 then (if 0 ≤ x9 then (if x9 < (x7.length : Int) then (impl_Crc32.l1 k (Go.bits .xor .u32 x3 ((rd x7 x9) % 4294967296)) x7 x8 x9 0) else (none)) else (none)) else (some (Go.bits .xor .u32 4294967295 x3))
def impl_Crc32.l1 : Nat → Int → List Int → Int → Int → Int → Option (Int)
 | 0, _, _, _, _, _ => none
 | k + 1, x3, x7, x8, x9, x17 => if x17 < 8 then (if (Go.bits .and .u32 x3 1) = 1 then (impl_Crc32.l1 k (Go.bits .xor .u32 (x3 / 2) 3988292384) x7 x8 x9 (wrap64 (x17 + 1))) else (impl_Crc32.l1 k (x3 / 2) x7 x8 x9 (wrap64 (x17 + 1)))) else (impl_Crc32.l0 k x3 x7 x8 (wrap64 (x9 + 1)))
end
def impl_Crc32.f (k : Nat) (l0 : List Int) : Option (Int) := impl_Crc32.l0 k 4294967295 l0 (l0.length : Int) 0
set_option maxHeartbeats 8000000 in
set_option maxRecDepth 100000 in
theorem impl_Crc32.calls (k : Nat) (A0 : Option Addr) (c0 : Nat) (l0 : List Int) (r : Int) (w : World) (hr0 : Kd.C (Kd.int .u8) w A0 l0.length l0) (hc0 : l0.length ≤ c0) (h : impl_Crc32.f k l0 = some r) :
  Calls Try.prog 45 #[.slice A0 l0.length c0] w fun e w' => e = .returned (.int .u32 r) ∧ Drawn0 w w' := by
 have HR0 := Aside0.mk hr0
 have HC0 := Aside0.mk hc0
 clear hr0 hc0
 have H : (impl_Crc32.l0 k 4294967295 l0 (l0.length : Int) 0) = some r := h
 clear h
 have H' := Aside0.mk H
 clear H
 go_enter Try.func45, Try.ntmps45
 go_wp2
 go_loopg [3, 9] k (fun kq v3 v9 w' => ∃ (x3_1 : Int) (x9_1 : Int), v3 = .int .u32 x3_1 ∧ v9 = .int .i64 x9_1 ∧ Aside0 (impl_Crc32.l0 kq x3_1 l0 (l0.length : Int) x9_1 = some r) ∧ Aside0 (kq ≤ k) ∧ Drawn0 w w')
 case atStart => exact ⟨(4294967295), (0), sv_, sv_, H', ⟨Nat.le_refl _⟩, by repeat (first | exact Drawn0.refl _ | apply Drawn0.step)⟩
 case round =>
  clear H'
  obtain ⟨x3_1, x9_1, rfl, rfl, HA, HK1, ⟨m1, rfl⟩⟩ := hrel
  cases gk with
  | zero => exact absurd HA.out (by simp [impl_Crc32.l0])
  | succ k1 =>
   have H := HA.out
   clear HA
   simp only [impl_Crc32.l0] at H
   by_cases c2 : x9_1 < (l0.length : Int)
   ·rw [if_pos c2] at H
    have c2b0 : decide (x9_1 < (l0.length : Int)) = true := decide_eq_true c2
    clear c2
    by_cases c3 : 0 ≤ x9_1
    ·rw [if_pos c3] at H
     have c3b0 : decide (0 ≤ x9_1) = true := decide_eq_true c3
     clear c3
     by_cases c4 : x9_1 < (l0.length : Int)
     ·rw [if_pos c4] at H
      have c4b0 : decide (x9_1 < (l0.length : Int)) = true := decide_eq_true c4
      clear c4
      have H' := Aside0.mk H
      clear H
      have p313 : 0 ≤ (x9_1 : Int) := of_decide_eq_true am_
      have q313 : x9_1 < (l0.length : Int) := of_decide_eq_true am_
      obtain ⟨ad313, e313, hx313_0⟩ := Kd.at_int HR0.out x9_1 p313 q313
      cases e313
      replace p313 := eq_true p313
      replace q313 := eq_true q313
      go_wp2
      go_loopg [3, 17] k1 (fun kq v3 v17 w' => ∃ (x3_2 : Int) (x17_2 : Int), v3 = .int .u32 x3_2 ∧ v17 = .int .i64 x17_2 ∧ Aside0 (impl_Crc32.l1 kq x3_2 l0 (l0.length : Int) x9_1 x17_2 = some r) ∧ Aside0 (kq ≤ k1) ∧ Drawn0 w w')
      case atStart => exact ⟨(Go.bits .xor .u32 x3_1 ((rd l0 x9_1) % 4294967296)), (0), sv_, sv_, H', ⟨Nat.le_refl _⟩, by repeat (first | exact Drawn0.refl _ | apply Drawn0.step)⟩
      case round =>
       clear H'
       (try clear c2);(try clear c2b0);(try clear p2);(try clear c3);(try clear c3b0);(try clear p3);(try clear q3);(try clear hx3);(try clear c4);(try clear c4b0);(try clear hx313_0);(try clear p313);(try clear q313)
       obtain ⟨x3_2, x17_2, rfl, rfl, HA, HK2, ⟨m2, rfl⟩⟩ := hrel
       cases gk with
       | zero => exact absurd HA.out (by simp [impl_Crc32.l1])
       | succ k2 =>
        have H := HA.out
        clear HA
        simp only [impl_Crc32.l1] at H
        by_cases c5 : x17_2 < 8
        ·rw [if_pos c5] at H
         have c5b0 : decide (x17_2 < 8) = true := decide_eq_true c5
         clear c5
         by_cases c6 : (Go.bits .and .u32 x3_2 1) = 1
         ·rw [if_pos c6] at H
          have c6b0 : ((Go.bits .and .u32 x3_2 1) == 1) = true := beq_iff_eq.mpr c6
          have c6b1 : ((Go.bits .and .u32 x3_2 1) != 1) = false := bne_eq_false_iff_eq.mpr c6
          clear c6
          have H' := Aside0.mk H
          clear H
          go_wp2
          go_roundg k2
          case measure => have := HK1.out; have := HK2.out; omega
          case rel => exact ⟨(Go.bits .xor .u32 (x3_2 / 2) 3988292384), (wrap64 (x17_2 + 1)), sv_, sv_, H', ⟨by have := HK1.out; have := HK2.out; omega⟩, by repeat (first | exact Drawn0.refl _ | apply Drawn0.step)⟩
         ·rw [if_neg c6] at H
          have c6b0 : ((Go.bits .and .u32 x3_2 1) == 1) = false := beq_eq_false_iff_ne.mpr c6
          have c6b1 : ((Go.bits .and .u32 x3_2 1) != 1) = true := bne_iff_ne.mpr c6
          have H' := Aside0.mk H
          clear H
          go_wp2
          go_roundg k2
          case measure => have := HK1.out; have := HK2.out; omega
          case rel => exact ⟨(x3_2 / 2), (wrap64 (x17_2 + 1)), sv_, sv_, H', ⟨by have := HK1.out; have := HK2.out; omega⟩, by repeat (first | exact Drawn0.refl _ | apply Drawn0.step)⟩
        ·rw [if_neg c5] at H
         have c5b0 : decide (x17_2 < 8) = false := decide_eq_false c5
         clear c5
         have H' := Aside0.mk H
         clear H
         go_wp2
         go_roundg k2
         case measure => have := HK1.out; have := HK2.out; omega
         case rel => exact ⟨(x3_2), (wrap64 (x9_1 + 1)), sv_, sv_, H', ⟨by have := HK1.out; have := HK2.out; omega⟩, by repeat (first | exact Drawn0.refl _ | apply Drawn0.step)⟩
     ·rw [if_neg c4] at H
      exact absurd H (by simp)
    ·rw [if_neg c3] at H
     exact absurd H (by simp)
   ·rw [if_neg c2] at H
    have c2b0 : decide (x9_1 < (l0.length : Int)) = false := decide_eq_false c2
    clear c2
    obtain rfl := Option.some.inj H
    go_wp2
    go_ret
    exact ⟨by first | rfl | (simp; done) | (simp [*]; done), by repeat (first | exact Drawn0.refl _ | apply Drawn0.step)⟩

/-! ### impl_chunk: function 37 -/
def impl_chunk.f (k : Nat) (a0 : ByteArray) (l1 : List Int) : Option (List Int) := if a0.size + l1.length < 140737488000000 then (impl_four.f ((l1.length : Int) % 4294967296)).bind fun f => (impl_Crc32.f k (bytesOf a0 ++ l1)).bind fun c => (impl_four.f c).bind fun g => if f.length ≤ 100 ∧ g.length ≤ 100 then some ((f ++ (bytesOf a0 ++ l1)) ++ g) else none else none
set_option maxHeartbeats 8000000 in
set_option maxRecDepth 100000 in
theorem impl_chunk.calls (k : Nat) (a0 : ByteArray) (A1 : Option Addr) (c1 : Nat) (l1 : List Int) (r : List Int) (w : World) (hr1 : Kd.C (Kd.int .u8) w A1 l1.length l1) (hc1 : l1.length ≤ c1) (h : impl_chunk.f k a0 l1 = some r) :
  Calls Try.prog 37 #[.string a0, .slice A1 l1.length c1] w fun e w' => ∃ v0_ : Value, e = .returned (v0_) ∧ Kd.R (Kd.int .u8) 5 w' w.heap.size (fun _ => True) v0_ r ∧ Below w.heap.size w w' := by
 unfold impl_chunk.f at h
 by_cases hz : a0.size + l1.length < 140737488000000
 rotate_left
 ·rw [if_neg hz] at h; cases h
 rw [if_pos hz] at h
 obtain ⟨f, hf, h1⟩ := Option.bind_eq_some_iff.mp h
 clear h
 obtain ⟨c, hc, h2⟩ := Option.bind_eq_some_iff.mp h1
 clear h1
 obtain ⟨gg, hg, ha⟩ := Option.bind_eq_some_iff.mp h2
 clear h2
 by_cases hs : f.length ≤ 100 ∧ gg.length ≤ 100
 rotate_left
 ·rw [if_neg hs] at ha; cases ha
 rw [if_pos hs] at ha
 obtain rfl := Option.some.inj ha
 clear ha
 have HZ := Aside0.mk hz
 have HF := Aside0.mk hf
 have HG := Aside0.mk hg
 have HS := Aside0.mk hs
 have HD := Aside0.mk (Kd.C_below hr1 (bytes_below (Below.refl _ _) (Nat.le_refl _) 5 a0))
 have kb := fun W => print_bytes (P := Try.prog) 9 22 5 Try.underlying9 Try.underlying22 Try.underlying5 a0 W
 obtain ⟨own, hown⟩ : ∃ own : List Int, own = bytesOf a0 ++ l1 := ⟨_, rfl⟩
 have NO := Aside0.mk hown
 have HOL : Aside0 (own.length ≤ 140737488000000) := ⟨by rw [hown, List.length_append, bytesOf_length]; omega⟩
 rw [← hown] at hc ⊢
 have HCR := Aside0.mk hc
 have hlen : (l1.length : Int) ≤ 140737488000000 := by omega
 clear hz hf hc hg hs hr1 hc1 hown
 go_enter Try.func37, Try.ntmps37
 go_wp2_with (first
  | ((with_reducible refine gate_builtin (b := .append) (xs := #[.tmp 8, .tmp 9]) rfl ?_); at_builtin; refine conv_event_ rfl (.tmp 8) (.tmp 9) 22 5 (.int .u8 0) rfl Try.underlying22 info5 rfl w a0 _ _ _ l1 rfl rfl HD.out (by have := HZ.out; omega) ?_; intro b cp w1 q1 q2 q3 q4 q5; rw [← NO.out] at q1 q5 ⊢; have OC := Aside0.mk q1; have OG := Aside0.mk q2; have OL := Aside0.mk q3; have OB := Aside0.mk q4; have OT := Aside0.mk q5; clear q1 q2 q3 q4 q5)
  | (go_at_call 35; (with_reducible refine (impl_four.calls _ f _ HF.out).mono ?_); rintro e w3 ⟨v3, rfl, q1, q2⟩; have R3 := Aside0.mk q1; have B3 := Aside0.mk q2; clear q1 q2)
  | ((with_reducible refine gate_builtin (b := .append) (xs := #[.tmp 14, .tmp 15]) rfl ?_); at_builtin; refine Kd.R_append_rows (Kd.int .u8) (w0 := w) w.heap.size rfl (.tmp 14) (.tmp 15) 22 5 (.int .u8 0) 1 rfl Try.underlying22 info5 rfl (by decide) (by omega) v3 f own _ _ _ (fun _ => True) (fun _ => False) rfl rfl ?aO ?aR (fun _ _ h => h) (fun _ h => h.elim) ?aF ?aB ?aS ?aL ?_; (case aO => exact Kd.R_mono (Kd.R_lower R3.out OB.out.size) (fun _ h => h)); (case aR => exact OT.out _ (B3.out.block _ OL.out)); (case aF => exact fun _ _ => trivial); (case aB => exact OB.out.trans (Below.mono B3.out OB.out.size)); (case aS => exact Nat.le_trans OB.out.size B3.out.size); (case aL => have h1_ := HS.out.1; have h2_ := HOL.out; omega); intro v4 w4 q1 q2 q3 q4; have R4 := Aside0.mk q1; have B4 := Aside0.mk q2; have O4 : Aside0 (w4.heap[b]? = w1.heap[b]?) := ⟨(q3.block b (Nat.lt_of_lt_of_le OL.out B3.out.size) (fun e => by have := Kd.R_base R3.out b e.symm; have := OL.out; omega)).trans (B3.out.block _ OL.out)⟩; clear q1 q2 q3 q4)
  | (go_at_call 45; (with_reducible refine (impl_Crc32.calls k _ _ own c _ (OT.out _ O4.out) OC.out HCR.out).mono ?_); rintro e w5 ⟨rfl, ⟨nd, rfl⟩⟩)
  | (go_at_call 35; (with_reducible refine (impl_four.calls c gg _ HG.out).mono ?_); rintro e w6 ⟨v6, rfl, q1, q2⟩; obtain ⟨A6, c6, rfl, _⟩ := Kd.R_reads q1; have R6 := Aside0.mk q1; have B6 := Aside0.mk q2; clear q1 q2)
  | ((with_reducible refine gate_builtin (b := .append) (xs := #[.tmp 17, .tmp 20]) rfl ?_); at_builtin; refine Kd.R_append_rows (Kd.int .u8) (w0 := w) w.heap.size rfl (.tmp 17) (.tmp 20) 22 5 (.int .u8 0) 1 rfl Try.underlying22 info5 rfl (by decide) (by omega) v4 (f ++ own) gg _ _ _ (fun _ => True) (fun _ => False) rfl rfl ?aO ?aR (fun _ _ h => h) (fun _ h => h.elim) ?aF ?aB ?aS ?aL ?_; (case aO => exact Kd.R_below (Kd.R_drewN R4.out nd) B6.out); (case aR => exact (Kd.R_reads' R6.out).2.2); (case aF => exact fun _ _ => trivial); (case aB => exact (pw_below_drewN B4.out nd).trans (Below.mono B6.out (pw_below_drewN B4.out nd).size)); (case aS => exact Nat.le_trans (pw_below_drewN B4.out nd).size B6.out.size); (case aL => have h1_ := HS.out.1; have h3_ := HS.out.2; have h2_ := HOL.out; rw [List.length_append]; omega); intro v7 w7 q1 q2 q3 q4; have R7 := Aside0.mk q1; have B7 := Aside0.mk q2; clear q1 q2 q3 q4))
 go_ret
 exact ⟨_, rfl, R7.out, B7.out⟩
theorem impl_chunk_pos_ {k : Nat} {a0 : ByteArray} {l1 r : List Int} (h : impl_chunk.f k a0 l1 = some r) : 0 < r.length := by
 unfold impl_chunk.f at h
 split at h
 ·obtain ⟨f, hf, h1⟩ := Option.bind_eq_some_iff.mp h
  obtain ⟨c, _, h2⟩ := Option.bind_eq_some_iff.mp h1
  obtain ⟨g, hg, h3⟩ := Option.bind_eq_some_iff.mp h2
  split at h3
  ·obtain rfl := Option.some.inj h3
   obtain rfl := Option.some.inj hf
   simp
  ·cases h3
 ·cases h
/-- []byte(constant): a literal row whose block then bears a mark; it is only read, and grown away from. -/
theorem mk_lit_ {P : Program} {ops : Array Oper} {o1 o2 : Oper} {rest : List Oper} {a : Act} {Q : Exit → Act → World → Prop} {W : World} (e : Nat) (t : TypeId) (hg1 : o1.guard = none) (hg2 : o2.guard = none) {N1 : Tmp} (ht : P.underlying t = some (.slice e)) (he : P.underlying e = some (.int .u8)) (xs : List Int)
  (hr1 : (execOp a.eval o1).run P W = .ok (.value (.slice (some ⟨W.heap.size, 0, none⟩) xs.length xs.length)) (W.alloc (.cells (xs.map (Value.int .u8)).toArray e))) (ho2 : o2.op = .convert t t (.tmp N1))
  (hev : (a.put o1.dst (.slice (some ⟨W.heap.size, 0, none⟩) xs.length xs.length)).eval (.tmp N1) = .slice (some ⟨W.heap.size, 0, none⟩) xs.length xs.length)
  (h : ∀ g w1, Kd.R (Kd.int .u8) e w1 W.heap.size (fun _ => True) (.slice none 0 0) [] → Below W.heap.size W w1 → g < w1.heap.size → (∀ W' : World, W'.heap[g]? = w1.heap[g]? → ∀ j, j < xs.length → W'.cell? ⟨g, j, none⟩ = some (.int .u8 (xs.getD j 0))) →
   wpList P ops Q rest ((a.put o1.dst (.slice (some ⟨g, 0, none⟩) xs.length xs.length)).put o2.dst (.slice (some ⟨g, 0, none⟩) xs.length xs.length)) w1) : wpList P ops Q (o1 :: o2 :: rest) a W := by
 refine Kd.event_run hg1 hr1 ?_
 have hsh : (W.alloc (.cells (xs.map (Value.int .u8)).toArray e)).shape? W.heap.size = some (e, xs.length) := by
  simp [World.shape?, World.alloc, -World.alloc_eq]
 have hr2 : (execOp (a.put o1.dst (.slice (some ⟨W.heap.size, 0, none⟩) xs.length xs.length)).eval o2).run P (W.alloc (.cells (xs.map (Value.int .u8)).toArray e)) = .ok (.value (.slice (some ⟨W.heap.size, 0, none⟩) xs.length xs.length)) ((W.alloc (.cells (xs.map (Value.int .u8)).toArray e)).freeze ⟨W.heap.size, xs.length, none⟩ 1) := by
  simp only [execOp, ho2, hev]
  simp [convert, run_underlying ht, run_underlying he, markStringish, Result.andThen, hsh]
 have hnew : ((W.alloc (.cells (xs.map (Value.int .u8)).toArray e)).freeze ⟨W.heap.size, xs.length, none⟩ 1).heap[W.heap.size]? = some (.cells (xs.map (Value.int .u8)).toArray e (xs.length, xs.length + 1)) := by
  simp [World.freeze, World.alloc, -World.alloc_eq]
  rw [Array.getElem_modify_self]
  simp
 have hsz : ((W.alloc (.cells (xs.map (Value.int .u8)).toArray e)).freeze ⟨W.heap.size, xs.length, none⟩ 1).heap.size = W.heap.size + 1 := by
  simp [World.freeze, World.alloc, -World.alloc_eq]
 refine Kd.event_run hg2 hr2 (h _ _ (Kd.R_nil _ _ _ _ _) ⟨by simp [World.freeze, World.alloc, -World.alloc_eq], by simp [World.freeze, World.alloc, -World.alloc_eq], by simp [World.freeze, World.alloc, -World.alloc_eq], by omega, fun k hk => ?_⟩ (by omega) (fun W' hW j hj => ?_))
 ·have : W.heap.size ≠ k := by omega
  simp [World.freeze, World.alloc, -World.alloc_eq, Array.getElem?_modify, Array.getElem?_push, this, Ne.symm this]
 ·have hc : W'.heap[W.heap.size]? = some (.cells (xs.map (Value.int .u8)).toArray e (xs.length, xs.length + 1)) := hW.trans hnew
  rw [cell_of_row _ _ _ _ _ _ hc]
  simp [List.getD_eq_getElem?_getD, hj]
theorem mk_append_ {P : Program} {ops : Array Oper} {rest : List Oper} {o : Oper} {a : Act} {Q : Exit → Act → World → Prop} {w0 W : World} (base : Nat) (hgd : o.guard = none) (s x : Operand) (t e : TypeId) (z : Value)
  (ho : o.op = .call { callee := .builtin .append, args := #[s, x], argTypes := #[t, t] }) (ht : P.underlying t = some (.slice e)) (hinfo : (P.info? e).map (fun i => (i.zero, i.size, i.bytes)) = some (some z, 1, 1)) (hz : z.cells.size = 1)
  (g : Nat) (xs ys : List Int) (A : Option Addr) (m c : Nat) (ok : Nat → Prop) (hs : a.eval s = .slice (some ⟨g, 0, none⟩) xs.length xs.length) (hx : a.eval x = .slice A m c)
  (hc : ∀ j, j < xs.length → W.cell? ⟨g, j, none⟩ = some (.int .u8 (xs.getD j 0))) (hpos : 0 < ys.length)
  (_HO : Kd.R (Kd.int .u8) e W base ok (.slice none 0 0) []) (HR : (Kd.int .u8).C W A m ys) (hfresh : ∀ k, W.heap.size ≤ k → ok k)
  (HB : Below base w0 W) (hbase : base ≤ W.heap.size) (hl : (xs.length + m) * 1 ≤ 140737488355328)
  (h : ∀ v1 w1, Kd.R (Kd.int .u8) e w1 base ok v1 (xs ++ ys) → Below base w0 w1 → W.grownBy w1 (Value.slice none 0 0).ownBlock → (v1.ownBlock = (Value.slice none 0 0).ownBlock ∨ ∃ b, v1.ownBlock = some b ∧ W.heap.size ≤ b) → wpList P ops Q rest (a.put o.dst v1) w1) :
  wpList P ops Q (o :: rest) a W := by
 obtain ⟨i0, hi, hzz⟩ := Option.map_eq_some_iff.1 hinfo
 simp only [Prod.mk.injEq] at hzz
 obtain ⟨hz0, hz1, hz2⟩ := hzz
 have hys := Kd.reads_of_C (d := (0 : Int)) HR
 have hm : ys.length = m := hys.1
 obtain ⟨ad, hA, hcs⟩ := hys.2.2 (by omega)
 subst hA
 obtain ⟨v', w', hr, ho', hg⟩ := run_append_arg_grows (P := P) (w := W) t o.type e i0 z 1 1 ht hi hz0 hz1 hz2 hz (by omega) ⟨g, 0, none⟩ xs.length xs.length (xs.map (Value.int .u8)) (by rw [List.length_map, Nat.mul_one]) (fun j u hu => by
   rw [List.getElem?_map] at hu
   cases hj : xs[j]? with
   | none => rw [hj] at hu; cases hu
   | some y =>
    rw [hj] at hu
    injection hu with hu
    subst hu
    rw [add_plain]
    show World.cell? _ _ = _
    rw [hc j (List.getElem?_eq_some_iff.1 hj).1, List.getD_eq_getElem?_getD, hj]
    rfl) ad m c (ys.map (Value.int .u8)) (by rw [List.length_map, hm, Nat.mul_one]) (fun j u hu => by
   rw [List.getElem?_map] at hu
   cases hj : ys[j]? with
   | none => rw [hj] at hu; cases hu
   | some y =>
    rw [hj] at hu
    injection hu with hu
    subst hu
    have := (List.getElem?_eq_some_iff.1 hj).1
    rw [hcs j (by omega), List.getD_eq_getElem?_getD, hj]
    rfl) (by omega) (by simp only [maxLen]; omega) (by omega)
 have hat : ∃ b, v'.ownBlock = some b ∧ W.heap.size ≤ b := by
  rcases ho'.2 with ⟨_, hz⟩ | ⟨b, cap, cur, rfl, hbase, _⟩
  ·omega
  ·exact ⟨b, rfl, hbase⟩
 refine wpList_plain hgd fun K hK => ?_
 unfold Oper.wp execOp
 simp only [ho, resolve, invoke, builtin, Sem.run_bind, Sem.run_pure, Result.andThen_ok, List.map_toArray, List.map_cons, List.map_nil, hs, hx, hr]
 refine hK _ _ (h v' w' ?_ (HB.grown hg hbase (fun k hk => by cases hk)) hg (.inr hat))
 rw [← hm, ← List.length_append, ← List.map_append] at ho'
 exact Kd.R_lower (Kd.R_of_own ho' (fun k hk => by obtain ⟨b, e1, e2⟩ := hat; rw [e1] at hk; injection hk with hk; subst hk; exact hfresh _ e2)) hbase

end Go.Proofs.Ytfogfjmkngoegaa.PFnExactEncodePng
