-- Laid by a program of this session out of the translation (its own run of the print). Lean checks it.
import Derived.Test.YtfogfjmkngoegaaPFnExactEncodePngx0
import Derived.Test.YtfogfjmkngoegaaPFnExactEncodePngx2
namespace Go.Proofs.Ytfogfjmkngoegaa.PFnExactEncodePng
open Go.RowKit Go.Proofs.YtfogfjmkngoegaaW.PrintWords Go.Proofs.YtfogfjmkngoegaaW.PrintLast Go.Proofs.YtfogfjmkngoegaaW.PrintMore
attribute [local go_sem] max2_int min2_int max_two min_two max_three min_three max_four min_four   -- for this text's walks alone
set_option linter.unusedVariables false
set_option linter.unusedSimpArgs false

/-! ### impl_bitWriter_put: function 54 -/
def putO (out : List Int) (many : Int) : List Int := if many = 0 then out ++ [0] else out
def putM (many : Int) : Int := if many = 0 then 8 else many
def impl_bitWriter_put.f (out : List Int) (many x : Int) : Option (List Int × Int) :=
 if (0 ≤ many ∧ many ≤ 8) ∧ out.length < 140737488355327 ∧ (many = 0 ∨ 0 < out.length) then some ((putO out many).set ((putO out many).length - 1) (bits .or .u8 (rdOf 0 (putO out many) (((putO out many).length : Int) - 1)) (wrap64 (x * 2 ^ ((8 : Int) - putM many).toNat) % 256)), putM many - 1) else none
set_option maxHeartbeats 8000000 in
set_option maxRecDepth 100000 in
theorem impl_bitWriter_put.calls (out : List Int) (many x : Int) (out' : List Int) (many' : Int) (base g : Nat) (w0 w : World) (hbase : base ≤ w.heap.size) (hB : Below base w0 w) (hW : W8 39 w base g out many) (h : impl_bitWriter_put.f out many x = some (out', many')) :
  Calls Try.prog 54 #[.pointer (some ⟨g, 0, none⟩), .int .i64 x] w fun e w' => e = .returned (.tuple #[]) ∧ Below base w0 w' ∧ W8 39 w' base g out' many' ∧ Kept8 w w' g := by
 obtain ⟨v, hb, hge, hR⟩ := hW
 unfold impl_bitWriter_put.f at h
 by_cases hc : (0 ≤ many ∧ many ≤ 8) ∧ out.length < 140737488355327 ∧ (many = 0 ∨ 0 < out.length)
 rotate_left
 ·rw [if_neg hc] at h; cases h
 rw [if_pos hc] at h
 obtain ⟨⟨hm, hm8⟩, hl0, hz⟩ := hc
 obtain ⟨rfl, rfl⟩ := Prod.mk.inj (Option.some.inj h)
 clear h
 have HBK := Aside0.mk hb
 have HR := Aside0.mk hR
 have HB := Aside0.mk hB
 have HSZ := Aside0.mk hbase
 have HL0 := Aside0.mk hl0
 have a0_ : w.cell? ⟨g, 0, none⟩ = some v := (blk_cell hb 0).trans rfl
 have a1_ : w.cell? ⟨g, 1, none⟩ = some (.int .i64 many) := (blk_cell hb 1).trans rfl
 have f0_ := blk_frozen hb 0
 have f1_ := blk_frozen hb 1
 by_cases h8 : many = 0
 ·subst h8
  have eo : putO out 0 = out ++ [0] := if_pos rfl
  have em : putM 0 = 8 := if_pos rfl
  obtain ⟨o, ho⟩ : ∃ o : List Int, o = out ++ [0] := ⟨_, rfl⟩
  rw [eo, em, ← ho, show x * 2 ^ ((8 : Int) - 8).toNat = x by simp, show (8 : Int) - 1 = 7 from rfl]
  have NO := Aside0.mk ho
  have HN : Aside0 (0 < o.length) := ⟨by rw [ho, List.length_append]; simp⟩
  have HL : Aside0 (o.length ≤ 140737488355328) := ⟨by have := HL0.out; rw [ho, List.length_append, List.length_singleton]; omega⟩
  clear hb hR hB hz eo em ho
  go_enter Try.func54, Try.ntmps54
  go_upto_region 2 with (first | ((with_reducible refine gate_builtin (b := .append) (xs := #[.tmp 13, .tmp 14]) rfl ?_); at_builtin; refine Kd.R_append (Kd.int .u8) (w0 := w0) base rfl (.tmp 13) (.tmp 14) 22 5 (.int .u8 0) 1 rfl Try.underlying22 info5 rfl (by decide) (by omega) v out 0 [.int .u8 0] (fun _ => True) (fun _ => False) rfl rfl ?aP (fun _ hk => hk.elim) ?aF ?aO ?aB ?aS ?aL ?_; (case aP => exact rfl); (case aF => exact (fun _ _ => trivial)); (case aO => exact HR.out); (case aB => exact HB.out); (case aS => exact HSZ.out); (case aL => have := HL0.out; omega); intro v1 w6 ho hb6 hg6 hat; rw [← NO.out] at ho; obtain ⟨b, cap, rfl, hle⟩ := sl8_ ho HN.out; have BK6 : w6.heap[g]? = some (.cells #[v, .int .i64 0] 39 (0, 0)) := blk_grown HBK.out hg6 (Kd.R_ne HR.out HBK.out (by decide)); have c6_ : w6.cell? ⟨g, 0, none⟩ = some v := (blk_cell BK6 0).trans rfl; have f6_ := blk_frozen BK6 0; have n0_ := Aside0.mk BK6; have n1_ := Aside0.mk ho; have n2_ := Aside0.mk hb6; have n3_ := Aside0.mk (Kept8.grown (Kept8.refl w g) hg6 (Kd.R_typed HR.out)); clear BK6 ho hb6 hg6 hat))
  have BK6 : Aside0 ((w6.setCell ⟨g, 0, none⟩ (.slice (some ⟨b, 0, none⟩) o.length cap)).heap[g]? = some (.cells #[.slice (some ⟨b, 0, none⟩) o.length cap, .int .i64 0] 39 (0, 0))) := ⟨blk_put n0_.out 0 _ rfl⟩
  have k1_ : (w6.setCell ⟨g, 0, none⟩ (.slice (some ⟨b, 0, none⟩) o.length cap)).cell? ⟨g, 1, none⟩ = some (.int .i64 0) := (blk_cell BK6.out 1).trans rfl
  have kf_ := blk_frozen BK6.out 1
  go_upto_region 3 with (fail)
  obtain ⟨W, hW⟩ : ∃ W : World, W = (w6.setCell ⟨g, 0, none⟩ (.slice (some ⟨b, 0, none⟩) o.length cap)).setCell ⟨g, 1, none⟩ (.int .i64 8) := ⟨_, rfl⟩
  have BK : Aside0 (W.heap[g]? = some (.cells #[.slice (some ⟨b, 0, none⟩) o.length cap, .int .i64 8] 39 (0, 0))) := ⟨by rw [hW]; exact blk_put BK6.out 1 _ rfl⟩
  have RR : Aside0 (Kd.R (Kd.int .u8) 5 W base (fun _ => True) (.slice (some ⟨b, 0, none⟩) o.length cap) o) := ⟨by
   rw [hW]
   exact Kd.R_mono (Kd.R_far (Kd.R_far (Kd.R_types n1_.out n0_.out (by decide)) (p := ⟨g, 0, none⟩) (fun k hk => hk.2) _) (p := ⟨g, 1, none⟩) (fun k hk => hk.2) _) (fun _ _ => trivial)⟩
  have KK : Aside0 (Kept8 w W g) := ⟨by rw [hW]; exact Kept8.setG (Kept8.setG n3_.out _) _⟩
  have BB : Aside0 (Below base w0 W) := ⟨by rw [hW]; exact Below.setCell (Below.setCell n2_.out hge _) hge _⟩
  rw [← hW]
  clear hW n0_ n1_ n2_ n3_ c6_ f6_ a0_ a1_ f0_ f1_ k1_ kf_ BK6
  obtain ⟨cl, fz⟩ := Kd.R_celln 0 RR.out ((o.length : Int) - 1) (by have := HN.out; omega) (by omega)
  have ei : ((o.length : Int) - 1).toNat = o.length - 1 := by omega
  rw [ei] at cl fz
  clear ei
  have hpos := HN.out
  have hlim := HL.out
  have b0_ : W.cell? ⟨g, 0, none⟩ = some (.slice (some ⟨b, 0, none⟩) o.length cap) := (blk_cell BK.out 0).trans rfl
  have b1_ : W.cell? ⟨g, 1, none⟩ = some (.int .i64 8) := (blk_cell BK.out 1).trans rfl
  have g1_ := blk_frozen BK.out 1
  have hbg : b ≠ g := fun e => (Kd.R_ne RR.out BK.out (by decide)) (by rw [e]; rfl)
  have P2 := Kd.R_putn RR.out ((o.length : Int) - 1) (bits .or .u8 (rdOf 0 o ((o.length : Int) - 1)) (wrap64 x % 256))
  have ei : ((o.length : Int) - 1).toNat = o.length - 1 := by omega
  rw [ei] at P2
  obtain ⟨cb, hcb⟩ := Kd.R_typed RR.out b rfl
  have hgb : base ≤ b := (Kd.R_base RR.out) b rfl
  have X0 := Aside0.mk (show W.heap[b]? = some (.cells cb 5 (0, 0)) from hcb)
  have X1 := Aside0.mk P2
  clear P2 ei hcb
  go_region
  obtain ⟨V, hV⟩ : ∃ V : World, V = (W.setCell ⟨b, o.length - 1, none⟩ (.int .u8 (bits .or .u8 (rdOf 0 o ((o.length : Int) - 1)) (wrap64 x % 256)))) := ⟨_, rfl⟩
  have BV : V.heap[g]? = some (.cells #[.slice (some ⟨b, 0, none⟩) o.length cap, .int .i64 8] 39 (0, 0)) := by rw [hV]; exact blk_far BK.out (fun e => hbg e.symm) _
  have RV : Kd.R (Kd.int .u8) 5 V base (fun _ => True) (.slice (some ⟨b, 0, none⟩) o.length cap) (o.set (o.length - 1) (bits .or .u8 (rdOf 0 o ((o.length : Int) - 1)) (wrap64 x % 256))) := by rw [hV]; exact X1.out
  have KV : Kept8 w V g := by rw [hV]; exact Kept8.setRow KK.out X0.out _
  have BBV : Below base w0 V := by rw [hV]; exact Below.setCell BB.out hgb _
  rw [← hV]
  have v1_ : V.drew.cell? ⟨g, 1, none⟩ = some (.int .i64 8) := (blk_cell (blk_drew BV) 1).trans rfl
  have vg1_ := blk_frozen (blk_drew BV) 1
  have BV' := Aside0.mk BV
  have RV' := Aside0.mk RV
  clear BV RV b0_ b1_ cl fz g1_ hV
  go_wp2
  go_end0
  have B2 := blk_put (blk_drew BV'.out) 1 (.int .i64 (7)) rfl
  have R1 := Kd.R_types (Kd.R_drew RV'.out) (blk_drew BV'.out) (by decide)
  refine ⟨rfl, Below.setCell BBV.drew hge _, ?_, Kept8.setG KV.drew _⟩
  refine ⟨_, B2, hge, ?_⟩
  have R2 := Kd.R_mono (Kd.R_far R1 (p := ⟨g, 1, none⟩) (fun k hk => hk.2) (.int .i64 (7))) (ok' := fun _ => True) (fun _ _ => trivial)
  exact R2
 ·have h8b : ((many : Int) == 0) = false := beq_eq_false_iff_ne.mpr h8
  have eo : putO out many = out := if_neg h8
  have em : putM many = many := if_neg h8
  rw [eo, em]
  have hn : 0 < out.length := by rcases hz with hz | hz; exact absurd hz h8; exact hz
  obtain ⟨b, cap, rfl, hle⟩ := sl8_ hR hn
  have BK := HBK
  have RR := HR
  have KK := Aside0.mk (Kept8.refl w g)
  have BB := HB
  have HN := Aside0.mk hn
  have HL : Aside0 (out.length ≤ 140737488355328) := ⟨by omega⟩
  clear hb hR hB hz eo hn em
  go_enter Try.func54, Try.ntmps54
  go_upto_region 3 with (fail)
  clear a0_ a1_ f0_ f1_
  obtain ⟨cl, fz⟩ := Kd.R_celln 0 RR.out ((out.length : Int) - 1) (by have := HN.out; omega) (by omega)
  have ei : ((out.length : Int) - 1).toNat = out.length - 1 := by omega
  rw [ei] at cl fz
  clear ei
  have hpos := HN.out
  have hlim := HL.out
  have b0_ : w.cell? ⟨g, 0, none⟩ = some (.slice (some ⟨b, 0, none⟩) out.length cap) := (blk_cell BK.out 0).trans rfl
  have b1_ : w.cell? ⟨g, 1, none⟩ = some (.int .i64 many) := (blk_cell BK.out 1).trans rfl
  have g1_ := blk_frozen BK.out 1
  have hbg : b ≠ g := fun e => (Kd.R_ne RR.out BK.out (by decide)) (by rw [e]; rfl)
  have P2 := Kd.R_putn RR.out ((out.length : Int) - 1) (bits .or .u8 (rdOf 0 out ((out.length : Int) - 1)) (wrap64 (x * 2 ^ ((8 : Int) - many).toNat) % 256))
  have ei : ((out.length : Int) - 1).toNat = out.length - 1 := by omega
  rw [ei] at P2
  obtain ⟨cb, hcb⟩ := Kd.R_typed RR.out b rfl
  have hgb : base ≤ b := (Kd.R_base RR.out) b rfl
  have X0 := Aside0.mk (show w.heap[b]? = some (.cells cb 5 (0, 0)) from hcb)
  have X1 := Aside0.mk P2
  clear P2 ei hcb
  go_region
  obtain ⟨V, hV⟩ : ∃ V : World, V = (w.setCell ⟨b, out.length - 1, none⟩ (.int .u8 (bits .or .u8 (rdOf 0 out ((out.length : Int) - 1)) (wrap64 (x * 2 ^ ((8 : Int) - many).toNat) % 256)))) := ⟨_, rfl⟩
  have BV : V.heap[g]? = some (.cells #[.slice (some ⟨b, 0, none⟩) out.length cap, .int .i64 many] 39 (0, 0)) := by rw [hV]; exact blk_far BK.out (fun e => hbg e.symm) _
  have RV : Kd.R (Kd.int .u8) 5 V base (fun _ => True) (.slice (some ⟨b, 0, none⟩) out.length cap) (out.set (out.length - 1) (bits .or .u8 (rdOf 0 out ((out.length : Int) - 1)) (wrap64 (x * 2 ^ ((8 : Int) - many).toNat) % 256))) := by rw [hV]; exact X1.out
  have KV : Kept8 w V g := by rw [hV]; exact Kept8.setRow KK.out X0.out _
  have BBV : Below base w0 V := by rw [hV]; exact Below.setCell BB.out hgb _
  rw [← hV]
  have v1_ : V.drew.cell? ⟨g, 1, none⟩ = some (.int .i64 many) := (blk_cell (blk_drew BV) 1).trans rfl
  have vg1_ := blk_frozen (blk_drew BV) 1
  have BV' := Aside0.mk BV
  have RV' := Aside0.mk RV
  clear BV RV b0_ b1_ cl fz g1_ hV
  go_wp2
  go_end0
  have B2 := blk_put (blk_drew BV'.out) 1 (.int .i64 (many - 1)) rfl
  have R1 := Kd.R_types (Kd.R_drew RV'.out) (blk_drew BV'.out) (by decide)
  refine ⟨rfl, Below.setCell BBV.drew hge _, ?_, Kept8.setG KV.drew _⟩
  refine ⟨_, B2, hge, ?_⟩
  have R2 := Kd.R_mono (Kd.R_far R1 (p := ⟨g, 1, none⟩) (fun k hk => hk.2) (.int .i64 (many - 1))) (ok' := fun _ => True) (fun _ _ => trivial)
  exact R2

/-! ### impl_bitWriter_number: function 22 -/
def impl_bitWriter_numberG (n : Int) : Nat → Nat → List Int → Int → Option (List Int × Int)
 | 0, _, o, m => some (o, m)
 | r + 1, k, o, m => (impl_bitWriter_put.f o m (bits .and .i64 (n / 2 ^ k) 1)).bind fun p => impl_bitWriter_numberG n r (k + 1) p.1 p.2
def impl_bitWriter_number.f (out : List Int) (many n cnt : Int) : Option (List Int × Int) := if 0 ≤ cnt ∧ cnt ≤ 62 then impl_bitWriter_numberG n cnt.toNat 0 out many else none
set_option maxHeartbeats 8000000 in
set_option maxRecDepth 100000 in
theorem impl_bitWriter_number.calls (out : List Int) (many n cnt : Int) (out' : List Int) (many' : Int) (base g : Nat) (w0 w : World) (hbase : base ≤ w.heap.size) (hB : Below base w0 w) (hW : W8 39 w base g out many) (h : impl_bitWriter_number.f out many n cnt = some (out', many')) :
  Calls Try.prog 22 #[.pointer (some ⟨g, 0, none⟩), .int .i64 n, .int .i64 cnt] w fun e w' => e = .returned (.tuple #[]) ∧ Below base w0 w' ∧ W8 39 w' base g out' many' ∧ Kept8 w w' g := by
 unfold impl_bitWriter_number.f at h
 by_cases hc : 0 ≤ cnt ∧ cnt ≤ 62
 rotate_left
 ·rw [if_neg hc] at h; cases h
 rw [if_pos hc] at h
 have HB := Aside0.mk hB
 have HW := Aside0.mk hW
 have HH := Aside0.mk h
 have HC := Aside0.mk hc
 have HSZ := Aside0.mk hbase
 have hc0 := hc.1
 have hc62 := hc.2
 clear hB hW h hc hbase
 go_enter Try.func22, Try.ntmps22
 go_wp2
 go_loopg [8] cnt.toNat (fun kq v w' => ∃ (k : Nat) (o : List Int) (m : Int), v = .int .i64 (k : Int) ∧ Aside0 (impl_bitWriter_numberG n kq k o m = some (out', many')) ∧ Aside0 (kq + k = cnt.toNat) ∧ Aside0 (base ≤ w'.heap.size) ∧ Aside0 (Below base w0 w') ∧ Aside0 (W8 39 w' base g o m) ∧ Aside0 (Kept8 w w' g))
 case atStart => exact ⟨0, out, many, rfl, HH, ⟨rfl⟩, HSZ, HB, HW, ⟨Kept8.refl w g⟩⟩
 case round =>
  obtain ⟨k, o, m, rfl, HA, HI, HS, HB2, HW2, HK⟩ := hrel
  cases gk with
  | zero =>
   have H := HA.out
   simp only [impl_bitWriter_numberG, Option.some.injEq, Prod.mk.injEq] at H
   obtain ⟨rfl, rfl⟩ := H
   have hk : decide ((k : Int) < cnt) = false := decide_eq_false (by have := HI.out; omega)
   clear HA HI
   go_wp2
   go_end0
   exact ⟨rfl, HB2.out, HW2.out, HK.out⟩
  | succ r =>
   have H := HA.out
   clear HA
   simp only [impl_bitWriter_numberG] at H
   obtain ⟨⟨o2, m2⟩, hd, H⟩ := Option.bind_eq_some_iff.mp H
   have HD := Aside0.mk hd
   have H' := Aside0.mk H
   have hk : decide ((k : Int) < cnt) = true := decide_eq_true (by have := HI.out; omega)
   have hk2 : (k : Int) < 64 := by have := HI.out; omega
   have hk3 : (k : Int) < cnt := by have := HI.out; omega
   clear hd H
   go_wp2_with (go_at_call 54; (with_reducible refine (impl_bitWriter_put.calls o m _ o2 m2 base g w0 _ HS.out HB2.out HW2.out HD.out).mono ?_); rintro e w2 ⟨rfl, hb_, hw_, hk_⟩; have X1 := Aside0.mk hb_; have X2 := Aside0.mk hw_; have X3 := Aside0.mk (Kept8.trans HK.out hk_); have X4 := Aside0.mk (Nat.le_trans HS.out hk_.1); clear hb_ hw_ hk_)
   go_roundg r
   case measure => omega
   case rel => exact ⟨k + 1, o2, m2, by first | rfl | (rw [Int.natCast_add]; rfl) | (simp; done), H', ⟨by have := HI.out; omega⟩, X4, X1, X2, X3⟩

/-! ### impl_bitWriter_code: function 24 -/
def impl_bitWriter_codeG (n : Int) : Nat → List Int → Int → Option (List Int × Int)
 | 0, o, m => some (o, m)
 | r + 1, o, m => (impl_bitWriter_put.f o m (bits .and .i64 (n / 2 ^ r) 1)).bind fun p => impl_bitWriter_codeG n r p.1 p.2
def impl_bitWriter_code.f (out : List Int) (many n cnt : Int) : Option (List Int × Int) := if 0 ≤ cnt ∧ cnt ≤ 62 then impl_bitWriter_codeG n cnt.toNat out many else none
set_option maxHeartbeats 8000000 in
set_option maxRecDepth 100000 in
theorem impl_bitWriter_code.calls (out : List Int) (many n cnt : Int) (out' : List Int) (many' : Int) (base g : Nat) (w0 w : World) (hbase : base ≤ w.heap.size) (hB : Below base w0 w) (hW : W8 39 w base g out many) (h : impl_bitWriter_code.f out many n cnt = some (out', many')) :
  Calls Try.prog 24 #[.pointer (some ⟨g, 0, none⟩), .int .i64 n, .int .i64 cnt] w fun e w' => e = .returned (.tuple #[]) ∧ Below base w0 w' ∧ W8 39 w' base g out' many' ∧ Kept8 w w' g := by
 unfold impl_bitWriter_code.f at h
 by_cases hc : 0 ≤ cnt ∧ cnt ≤ 62
 rotate_left
 ·rw [if_neg hc] at h; cases h
 rw [if_pos hc] at h
 have HB := Aside0.mk hB
 have HW := Aside0.mk hW
 have HH := Aside0.mk h
 have HC := Aside0.mk hc
 have HSZ := Aside0.mk hbase
 have hc0 := hc.1
 have hc62 := hc.2
 clear hB hW h hc hbase
 go_enter Try.func24, Try.ntmps24
 go_wp2
 go_loopg [6] cnt.toNat (fun kq v w' => ∃ (o : List Int) (m : Int), v = .int .i64 ((kq : Int) - 1) ∧ Aside0 (impl_bitWriter_codeG n kq o m = some (out', many')) ∧ Aside0 (kq ≤ cnt.toNat) ∧ Aside0 (base ≤ w'.heap.size) ∧ Aside0 (Below base w0 w') ∧ Aside0 (W8 39 w' base g o m) ∧ Aside0 (Kept8 w w' g))
 case atStart => exact ⟨out, many, by rw [Int.toNat_of_nonneg hc0], HH, ⟨Nat.le_refl _⟩, HSZ, HB, HW, ⟨Kept8.refl w g⟩⟩
 case round =>
  obtain ⟨o, m, rfl, HA, HI, HS, HB2, HW2, HK⟩ := hrel
  cases gk with
  | zero =>
   have H := HA.out
   simp only [impl_bitWriter_codeG, Option.some.injEq, Prod.mk.injEq] at H
   obtain ⟨rfl, rfl⟩ := H
   clear HA HI
   go_wp2
   go_end0
   exact ⟨rfl, HB2.out, HW2.out, HK.out⟩
  | succ r =>
   have H := HA.out
   clear HA
   simp only [impl_bitWriter_codeG] at H
   obtain ⟨⟨o2, m2⟩, hd, H⟩ := Option.bind_eq_some_iff.mp H
   have HD := Aside0.mk hd
   have H' := Aside0.mk H
   have er : ((r + 1 : Nat) : Int) - 1 = (r : Int) := by omega
   rw [er]
   have hk2 : (r : Int) < 64 := by have := HI.out; omega
   have hk3 : decide ((r : Int) ≥ 0) = true := decide_eq_true (by omega)
   clear hd H er
   go_wp2_with (go_at_call 54; (with_reducible refine (impl_bitWriter_put.calls o m _ o2 m2 base g w0 _ HS.out HB2.out HW2.out HD.out).mono ?_); rintro e w2 ⟨rfl, hb_, hw_, hk_⟩; have X1 := Aside0.mk hb_; have X2 := Aside0.mk hw_; have X3 := Aside0.mk (Kept8.trans HK.out hk_); have X4 := Aside0.mk (Nat.le_trans HS.out hk_.1); clear hb_ hw_ hk_)
   go_roundg r
   case measure => omega
   case rel => exact ⟨o2, m2, rfl, H', ⟨by have := HI.out; omega⟩, X4, X1, X2, X3⟩

/-! ### impl_within: function 32 -/
def impl_within.f (a0 : Int) (a1 : Int) (a2 : Int) : Option (Bool) := if a1 ≤ a0 then (some (decide (a0 ≤ a2))) else (some false)
set_option maxHeartbeats 8000000 in
set_option maxRecDepth 100000 in
theorem impl_within.calls (a0 : Int) (a1 : Int) (a2 : Int) (r : Bool) (w : World) (h : impl_within.f a0 a1 a2 = some r) :
  Calls Try.prog 32 #[.int .i64 a0, .int .i64 a1, .int .i64 a2] w fun e w' => e = .returned (.bool r) ∧ Drawn0 w w' := by
 have H : (if a1 ≤ a0 then (some (decide (a0 ≤ a2))) else (some false)) = some r := h
 clear h
 by_cases c4 : a1 ≤ a0
 ·rw [if_pos c4] at H
  have c4b0 : decide (a1 ≤ a0) = true := decide_eq_true c4
  clear c4
  obtain rfl := Option.some.inj H
  go_enter Try.func32, Try.ntmps32
  go_wp2
  go_ret
  exact ⟨by first | rfl | (simp; done) | (simp [*]; done), by repeat (first | exact Drawn0.refl _ | apply Drawn0.step)⟩
 ·rw [if_neg c4] at H
  have c4b0 : decide (a1 ≤ a0) = false := decide_eq_false c4
  clear c4
  obtain rfl := Option.some.inj H
  go_enter Try.func32, Try.ntmps32
  go_wp2
  go_ret
  exact ⟨by first | rfl | (simp; done) | (simp [*]; done), by repeat (first | exact Drawn0.refl _ | apply Drawn0.step)⟩

/-! ### impl_MatchAt: function 25 -/
mutual
def impl_MatchAt.j0 : Nat → List Int → Int → Bool → Option (Int × Int)
 | 0, _, _, _ => none
 | k + 1, x0, x1, x19 => if x19 = true then (some (0, 0)) else (impl_MatchAt.l0 k x0 x1 0 0 1)
def impl_MatchAt.l0 : Nat → List Int → Int → Int → Int → Int → Option (Int × Int)
 | 0, _, _, _, _, _ => none
 | k + 1, x0, x1, x6, x7, x8 => if x8 ≤ x1 then (impl_MatchAt.l1 k x0 x1 x6 x7 x8 0) else (if x6 < 3 then (some (0, 0)) else (some (x6, x7)))
def impl_MatchAt.l1 : Nat → List Int → Int → Int → Int → Int → Int → Option (Int × Int)
 | 0, _, _, _, _, _, _ => none
 | k + 1, x0, x1, x6, x7, x8, x9 => if x9 < 258 then (if (wrap64 (x1 + x9)) < (x0.length : Int) then (if 0 ≤ (wrap64 (x1 + x9)) then (if 0 ≤ (wrap64 ((wrap64 (x1 + x9)) - x8)) then (if (wrap64 ((wrap64 (x1 + x9)) - x8)) < (x0.length : Int) then (if (rd x0 (wrap64 (x1 + x9))) = (rd x0 (wrap64 ((wrap64 (x1 + x9)) - x8))) then (impl_MatchAt.l1 k x0 x1 x6 x7 x8 (wrap64 (x9 + 1))) else (if x9 > x6 then (impl_MatchAt.l0 k x0 x1 x9 x8 (wrap64 (x8 + 1))) else (impl_MatchAt.l0 k x0 x1 x6 x7 (wrap64 (x8 + 1))))) else (none)) else (none)) else (none)) else (if x9 > x6 then (impl_MatchAt.l0 k x0 x1 x9 x8 (wrap64 (x8 + 1))) else (impl_MatchAt.l0 k x0 x1 x6 x7 (wrap64 (x8 + 1))))) else (if x9 > x6 then (impl_MatchAt.l0 k x0 x1 x9 x8 (wrap64 (x8 + 1))) else (impl_MatchAt.l0 k x0 x1 x6 x7 (wrap64 (x8 + 1))))
end
def impl_MatchAt.f (k : Nat) (l0 : List Int) (a1 : Int) : Option (Int × Int) := if (l0.length : Int) > 6000 then (impl_MatchAt.j0 k l0 a1 true) else ((impl_within.f a1 0 (l0.length : Int)).bind fun t253 => (impl_MatchAt.j0 k l0 a1 (!t253)))
set_option maxHeartbeats 8000000 in
set_option maxRecDepth 100000 in
theorem impl_MatchAt.calls (k : Nat) (A0 : Option Addr) (c0 : Nat) (l0 : List Int) (a1 : Int) (r1 : Int) (r2 : Int) (w : World) (hr0 : Kd.C (Kd.int .u8) w A0 l0.length l0) (hc0 : l0.length ≤ c0) (h : impl_MatchAt.f k l0 a1 = some (r1, r2)) :
  Calls Try.prog 25 #[.slice A0 l0.length c0, .int .i64 a1] w fun e w' => e = .returned (.tuple #[.int .i64 r1, .int .i64 r2]) ∧ Drawn0 w w' := by
 have HR0 := Aside0.mk hr0
 have HC0 := Aside0.mk hc0
 clear hr0 hc0
 have H : (if (l0.length : Int) > 6000 then (impl_MatchAt.j0 k l0 a1 true) else ((impl_within.f a1 0 (l0.length : Int)).bind fun t253 => (impl_MatchAt.j0 k l0 a1 (!t253)))) = some (r1, r2) := h
 clear h
 have HC3 := Aside0.mk H
 clear H
 go_enter Try.func25, Try.ntmps25
 go_upto_region 1 with (fail)
 repeat (go_quiet (fail); go_upto_region 1 with (fail))
 go_cut [19] (fun v19 wc => ∃ (kq : Nat) (x19_2 : Bool), v19 = .bool x19_2 ∧ Aside0 (impl_MatchAt.j0 kq l0 a1 x19_2 = some (r1, r2)) ∧ Aside0 (kq ≤ k) ∧ Drawn0 w wc)
 case first =>
  have H := HC3.out
  clear HC3
  by_cases c4 : (l0.length : Int) > 6000
  ·rw [if_pos c4] at H
   have c4b0 : decide (6000 < (l0.length : Int)) = true := decide_eq_true c4
   have c4b1 : decide (6000 < l0.length) = true := decide_eq_true (by omega)
   clear c4
   (first | rw [c4b0] | (simp only [i64_w, i32_w]; rw [c4b0]) | skip)
   have H' := Aside0.mk H
   clear H
   go_wp2
   repeat (go_quiet (fail); try go_wp2)
   go_meet
   case rel => exact ⟨_, (true), sv_, H', ⟨by first | omega | exact Nat.le_refl _⟩, by repeat (first | exact Drawn0.refl _ | apply Drawn0.step)⟩
  ·rw [if_neg c4] at H
   have c4b0 : decide (6000 < (l0.length : Int)) = false := decide_eq_false c4
   have c4b1 : decide (6000 < l0.length) = false := decide_eq_false (by omega)
   clear c4
   (first | rw [c4b0] | (simp only [i64_w, i32_w]; rw [c4b0]) | skip)
   replace H := Option.bind_eq_some_iff.mp H
   obtain ⟨t253, A50, H⟩ := H
   replace H : (impl_MatchAt.j0 k l0 a1 (!t253)) = some (r1, r2) := H
   have A5 := Aside0.mk A50
   clear A50
   have H' := Aside0.mk H
   clear H
   go_wp2_with (first | (go_at_call 32; (with_reducible refine (impl_within.calls a1 0 (l0.length : Int) t253 _ A5.out).mono ?_); rintro e w' ⟨rfl, ⟨nd, rfl⟩⟩; (try exact dd_)))
   repeat (go_quiet (first | (go_at_call 32; (with_reducible refine (impl_within.calls a1 0 (l0.length : Int) t253 _ A5.out).mono ?_); rintro e w' ⟨rfl, ⟨nd, rfl⟩⟩; (try exact dd_))); try go_wp2_with (first | (go_at_call 32; (with_reducible refine (impl_within.calls a1 0 (l0.length : Int) t253 _ A5.out).mono ?_); rintro e w' ⟨rfl, ⟨nd, rfl⟩⟩; (try exact dd_))))
   go_meet
   case rel => exact ⟨_, (!t253), sv_, H', ⟨by first | omega | exact Nat.le_refl _⟩, by repeat (first | exact Drawn0.refl _ | apply Drawn0.step)⟩
 case rest =>
  clear HC3
  (try clear c2);(try clear p2);(try clear c4);(try clear c4b0 c4b1)
  obtain ⟨kq, x19_2, rfl, HA, HJ2, ⟨mc2, rfl⟩⟩ := hcut
  cases kq with
  | zero => exact absurd HA.out (by simp [impl_MatchAt.j0])
  | succ kj2 =>
   have H := HA.out
   clear HA
   simp only [impl_MatchAt.j0] at H
   by_cases c6 : x19_2 = true
   ·subst c6
    have H1 : (some (0, 0)) = some (r1, r2) := by rw [if_pos rfl] at H; exact H
    clear H
    have H := H1
    clear H1
    simp only [Option.some.injEq, Prod.mk.injEq] at H
    obtain ⟨rfl, rfl⟩ := H
    go_wp2
    repeat (go_quiet (fail); try go_wp2)
    go_ret2
    exact ⟨by first | rfl | (simp; done) | (simp [*]; done), by repeat (first | exact Drawn0.refl _ | apply Drawn0.step)⟩
   ·replace c6 := Bool.eq_false_iff.mpr c6
    subst c6
    have H1 : (impl_MatchAt.l0 kj2 l0 a1 0 0 1) = some (r1, r2) := by rw [if_neg (show ¬ (false = true) by decide)] at H; exact H
    clear H
    have H := H1
    clear H1
    have H' := Aside0.mk H
    clear H
    go_wp2
    repeat (go_quiet (fail); try go_wp2)
    go_loopg [6, 7, 8] kj2 (fun kq v6 v7 v8 w' => ∃ (x6_2 : Int) (x7_2 : Int) (x8_2 : Int), v6 = .int .i64 x6_2 ∧ v7 = .int .i64 x7_2 ∧ v8 = .int .i64 x8_2 ∧ Aside0 (impl_MatchAt.l0 kq l0 a1 x6_2 x7_2 x8_2 = some (r1, r2)) ∧ Aside0 (kq ≤ kj2) ∧ Drawn0 w w')
    case atStart => exact ⟨(0), (0), (1), sv_, sv_, sv_, H', ⟨Nat.le_refl _⟩, by repeat (first | exact Drawn0.refl _ | apply Drawn0.step)⟩
    case round =>
     clear H'
     (try clear c2);(try clear p2);(try clear c4);(try clear c4b0 c4b1);(try clear c6);(try clear p2)
     obtain ⟨x6_2, x7_2, x8_2, rfl, rfl, rfl, HA, HK2, ⟨m2, rfl⟩⟩ := hrel
     cases gk with
     | zero => exact absurd HA.out (by simp [impl_MatchAt.l0])
     | succ k2 =>
      have H := HA.out
      clear HA
      simp only [impl_MatchAt.l0] at H
      by_cases c7 : x8_2 ≤ a1
      ·rw [if_pos c7] at H
       have c7b0 : decide (x8_2 ≤ a1) = true := decide_eq_true c7
       clear c7
       have H' := Aside0.mk H
       clear H
       go_wp2
       repeat (go_quiet (fail); try go_wp2)
       go_loopg [9] k2 (fun kq v9 w' => ∃ (x9_3 : Int), v9 = .int .i64 x9_3 ∧ Aside0 (impl_MatchAt.l1 kq l0 a1 x6_2 x7_2 x8_2 x9_3 = some (r1, r2)) ∧ Aside0 (kq ≤ k2) ∧ Drawn0 w w')
       case atStart => exact ⟨(0), sv_, H', ⟨Nat.le_refl _⟩, by repeat (first | exact Drawn0.refl _ | apply Drawn0.step)⟩
       case round =>
        clear H'
        (try clear c2);(try clear p2);(try clear c4);(try clear c4b0 c4b1);(try clear c6);(try clear c7);(try clear c7b0);(try clear p2)
        obtain ⟨x9_3, rfl, HA, HK3, ⟨m3, rfl⟩⟩ := hrel
        cases gk with
        | zero => exact absurd HA.out (by simp [impl_MatchAt.l1])
        | succ k3 =>
         have H := HA.out
         clear HA
         simp only [impl_MatchAt.l1] at H
         by_cases c8 : x9_3 < 258
         ·rw [if_pos c8] at H
          have c8b0 : decide (x9_3 < 258) = true := decide_eq_true c8
          clear c8
          by_cases c9 : (wrap64 (a1 + x9_3)) < (l0.length : Int)
          ·rw [if_pos c9] at H
           have c9b0 : decide ((wrap64 (a1 + x9_3)) < (l0.length : Int)) = true := decide_eq_true c9
           clear c9
           obtain ⟨ji10, hji10⟩ : ∃ j_ : Int, (wrap64 (a1 + x9_3)) = j_ := ⟨_, rfl⟩
           replace H : (if 0 ≤ (ji10) then (if 0 ≤ (wrap64 ((ji10) - x8_2)) then (if (wrap64 ((ji10) - x8_2)) < (l0.length : Int) then (if (rd l0 (ji10)) = (rd l0 (wrap64 ((ji10) - x8_2))) then (impl_MatchAt.l1 k3 l0 a1 x6_2 x7_2 x8_2 (wrap64 (x9_3 + 1))) else (if x9_3 > x6_2 then (impl_MatchAt.l0 k3 l0 a1 x9_3 x8_2 (wrap64 (x8_2 + 1))) else (impl_MatchAt.l0 k3 l0 a1 x6_2 x7_2 (wrap64 (x8_2 + 1))))) else (none)) else (none)) else (none)) = some (r1, r2) := by first | (rw [hji10] at H; exact H) | (simp only [hji10] at H ⊢; exact H)
           (try rw [hji10] at c9b0)
           have hji10w : (IntKind.i64.wrap (a1 + x9_3)) = ji10 := (i64_w _).trans hji10
           by_cases c11 : 0 ≤ (ji10)
           ·rw [if_pos c11] at H
            have c11b0 : decide (0 ≤ (ji10)) = true := decide_eq_true c11
            clear c11
            obtain ⟨ji12, hji12⟩ : ∃ j_ : Int, (wrap64 ((ji10) - x8_2)) = j_ := ⟨_, rfl⟩
            replace H : (if 0 ≤ (ji12) then (if (ji12) < (l0.length : Int) then (if (rd l0 (ji10)) = (rd l0 (ji12)) then (impl_MatchAt.l1 k3 l0 a1 x6_2 x7_2 x8_2 (wrap64 (x9_3 + 1))) else (if x9_3 > x6_2 then (impl_MatchAt.l0 k3 l0 a1 x9_3 x8_2 (wrap64 (x8_2 + 1))) else (impl_MatchAt.l0 k3 l0 a1 x6_2 x7_2 (wrap64 (x8_2 + 1))))) else (none)) else (none)) = some (r1, r2) := by first | (rw [hji12] at H; exact H) | (simp only [hji12] at H ⊢; exact H)
            have hji12w : (IntKind.i64.wrap ((ji10) - x8_2)) = ji12 := (i64_w _).trans hji12
            by_cases c13 : 0 ≤ (ji12)
            ·rw [if_pos c13] at H
             have c13b0 : decide (0 ≤ (ji12)) = true := decide_eq_true c13
             clear c13
             by_cases c14 : (ji12) < (l0.length : Int)
             ·rw [if_pos c14] at H
              have c14b0 : decide ((ji12) < (l0.length : Int)) = true := decide_eq_true c14
              clear c14
              by_cases c15 : (rd l0 (ji10)) = (rd l0 (ji12))
              ·rw [if_pos c15] at H
               have c15b0 : ((rd l0 (ji10)) == (rd l0 (ji12))) = true := beq_iff_eq.mpr c15
               have c15b1 : ((rd l0 (ji10)) != (rd l0 (ji12))) = false := bne_eq_false_iff_eq.mpr c15
               clear c15
               have H' := Aside0.mk H
               clear H
               have p254 : 0 ≤ ((ji10) : Int) := of_decide_eq_true am_
               have q254 : (ji10) < (l0.length : Int) := of_decide_eq_true am_
               obtain ⟨ad254, e254, hx254_0⟩ := Kd.at_int HR0.out (ji10) p254 q254
               cases e254
               replace p254 := eq_true p254
               replace q254 := eq_true q254
               have p255 : 0 ≤ ((ji12) : Int) := of_decide_eq_true am_
               have q255 : (ji12) < (l0.length : Int) := of_decide_eq_true am_
               obtain ⟨ad255, e255, hx255_0⟩ := Kd.at_int HR0.out (ji12) p255 q255
               obtain rfl : ad254 = ad255 := (by injection e255)
               replace p255 := eq_true p255
               replace q255 := eq_true q255
               go_wp2
               repeat (go_quiet (fail); try go_wp2)
               go_roundg k3
               case measure => have := HJ2.out; have := HK2.out; have := HK3.out; omega
               case rel => exact ⟨(wrap64 (x9_3 + 1)), sv_, H', ⟨by have := HJ2.out; have := HK2.out; have := HK3.out; omega⟩, by repeat (first | exact Drawn0.refl _ | apply Drawn0.step)⟩
              ·rw [if_neg c15] at H
               have c15b0 : ((rd l0 (ji10)) == (rd l0 (ji12))) = false := beq_eq_false_iff_ne.mpr c15
               have c15b1 : ((rd l0 (ji10)) != (rd l0 (ji12))) = true := bne_iff_ne.mpr c15
               by_cases c16 : x9_3 > x6_2
               ·rw [if_pos c16] at H
                have c16b0 : decide (x6_2 < x9_3) = true := decide_eq_true c16
                clear c16
                have H' := Aside0.mk H
                clear H
                have p254 : 0 ≤ ((ji10) : Int) := of_decide_eq_true am_
                have q254 : (ji10) < (l0.length : Int) := of_decide_eq_true am_
                obtain ⟨ad254, e254, hx254_0⟩ := Kd.at_int HR0.out (ji10) p254 q254
                cases e254
                replace p254 := eq_true p254
                replace q254 := eq_true q254
                have p255 : 0 ≤ ((ji12) : Int) := of_decide_eq_true am_
                have q255 : (ji12) < (l0.length : Int) := of_decide_eq_true am_
                obtain ⟨ad255, e255, hx255_0⟩ := Kd.at_int HR0.out (ji12) p255 q255
                obtain rfl : ad254 = ad255 := (by injection e255)
                replace p255 := eq_true p255
                replace q255 := eq_true q255
                go_wp2
                repeat (go_quiet (fail); try go_wp2)
                go_roundg k3
                case measure => have := HJ2.out; have := HK2.out; have := HK3.out; omega
                case rel => exact ⟨(x9_3), (x8_2), (wrap64 (x8_2 + 1)), sv_, sv_, sv_, H', ⟨by have := HJ2.out; have := HK2.out; have := HK3.out; omega⟩, by repeat (first | exact Drawn0.refl _ | apply Drawn0.step)⟩
               ·rw [if_neg c16] at H
                have c16b0 : decide (x6_2 < x9_3) = false := decide_eq_false c16
                clear c16
                have H' := Aside0.mk H
                clear H
                have p254 : 0 ≤ ((ji10) : Int) := of_decide_eq_true am_
                have q254 : (ji10) < (l0.length : Int) := of_decide_eq_true am_
                obtain ⟨ad254, e254, hx254_0⟩ := Kd.at_int HR0.out (ji10) p254 q254
                cases e254
                replace p254 := eq_true p254
                replace q254 := eq_true q254
                have p255 : 0 ≤ ((ji12) : Int) := of_decide_eq_true am_
                have q255 : (ji12) < (l0.length : Int) := of_decide_eq_true am_
                obtain ⟨ad255, e255, hx255_0⟩ := Kd.at_int HR0.out (ji12) p255 q255
                obtain rfl : ad254 = ad255 := (by injection e255)
                replace p255 := eq_true p255
                replace q255 := eq_true q255
                go_wp2
                repeat (go_quiet (fail); try go_wp2)
                go_roundg k3
                case measure => have := HJ2.out; have := HK2.out; have := HK3.out; omega
                case rel => exact ⟨(x6_2), (x7_2), (wrap64 (x8_2 + 1)), sv_, sv_, sv_, H', ⟨by have := HJ2.out; have := HK2.out; have := HK3.out; omega⟩, by repeat (first | exact Drawn0.refl _ | apply Drawn0.step)⟩
             ·rw [if_neg c14] at H
              exact absurd H (by simp)
            ·rw [if_neg c13] at H
             exact absurd H (by simp)
           ·rw [if_neg c11] at H
            exact absurd H (by simp)
          ·rw [if_neg c9] at H
           have c9b0 : decide ((wrap64 (a1 + x9_3)) < (l0.length : Int)) = false := decide_eq_false c9
           clear c9
           by_cases c17 : x9_3 > x6_2
           ·rw [if_pos c17] at H
            have c17b0 : decide (x6_2 < x9_3) = true := decide_eq_true c17
            clear c17
            have H' := Aside0.mk H
            clear H
            go_wp2
            repeat (go_quiet (fail); try go_wp2)
            go_roundg k3
            case measure => have := HJ2.out; have := HK2.out; have := HK3.out; omega
            case rel => exact ⟨(x9_3), (x8_2), (wrap64 (x8_2 + 1)), sv_, sv_, sv_, H', ⟨by have := HJ2.out; have := HK2.out; have := HK3.out; omega⟩, by repeat (first | exact Drawn0.refl _ | apply Drawn0.step)⟩
           ·rw [if_neg c17] at H
            have c17b0 : decide (x6_2 < x9_3) = false := decide_eq_false c17
            clear c17
            have H' := Aside0.mk H
            clear H
            go_wp2
            repeat (go_quiet (fail); try go_wp2)
            go_roundg k3
            case measure => have := HJ2.out; have := HK2.out; have := HK3.out; omega
            case rel => exact ⟨(x6_2), (x7_2), (wrap64 (x8_2 + 1)), sv_, sv_, sv_, H', ⟨by have := HJ2.out; have := HK2.out; have := HK3.out; omega⟩, by repeat (first | exact Drawn0.refl _ | apply Drawn0.step)⟩
         ·rw [if_neg c8] at H
          have c8b0 : decide (x9_3 < 258) = false := decide_eq_false c8
          clear c8
          by_cases c18 : x9_3 > x6_2
          ·rw [if_pos c18] at H
           have c18b0 : decide (x6_2 < x9_3) = true := decide_eq_true c18
           clear c18
           have H' := Aside0.mk H
           clear H
           go_wp2
           repeat (go_quiet (fail); try go_wp2)
           go_roundg k3
           case measure => have := HJ2.out; have := HK2.out; have := HK3.out; omega
           case rel => exact ⟨(x9_3), (x8_2), (wrap64 (x8_2 + 1)), sv_, sv_, sv_, H', ⟨by have := HJ2.out; have := HK2.out; have := HK3.out; omega⟩, by repeat (first | exact Drawn0.refl _ | apply Drawn0.step)⟩
          ·rw [if_neg c18] at H
           have c18b0 : decide (x6_2 < x9_3) = false := decide_eq_false c18
           clear c18
           have H' := Aside0.mk H
           clear H
           go_wp2
           repeat (go_quiet (fail); try go_wp2)
           go_roundg k3
           case measure => have := HJ2.out; have := HK2.out; have := HK3.out; omega
           case rel => exact ⟨(x6_2), (x7_2), (wrap64 (x8_2 + 1)), sv_, sv_, sv_, H', ⟨by have := HJ2.out; have := HK2.out; have := HK3.out; omega⟩, by repeat (first | exact Drawn0.refl _ | apply Drawn0.step)⟩
      ·rw [if_neg c7] at H
       have c7b0 : decide (x8_2 ≤ a1) = false := decide_eq_false c7
       clear c7
       by_cases c19 : x6_2 < 3
       ·rw [if_pos c19] at H
        have c19b0 : decide (x6_2 < 3) = true := decide_eq_true c19
        clear c19
        simp only [Option.some.injEq, Prod.mk.injEq] at H
        obtain ⟨rfl, rfl⟩ := H
        go_wp2
        repeat (go_quiet (fail); try go_wp2)
        go_ret2
        exact ⟨by first | rfl | (simp; done) | (simp [*]; done), by repeat (first | exact Drawn0.refl _ | apply Drawn0.step)⟩
       ·rw [if_neg c19] at H
        have c19b0 : decide (x6_2 < 3) = false := decide_eq_false c19
        clear c19
        simp only [Option.some.injEq, Prod.mk.injEq] at H
        obtain ⟨rfl, rfl⟩ := H
        go_wp2
        repeat (go_quiet (fail); try go_wp2)
        go_ret2
        exact ⟨by first | rfl | (simp; done) | (simp [*]; done), by repeat (first | exact Drawn0.refl _ | apply Drawn0.step)⟩

/-! ### impl_lengthBase: function 26 -/
def impl_lengthBase.f (a0 : Int) : Option (Int × Int) := if a0 = 285 then (some (258, 0)) else (if (wrap64 (a0 - 257)) < 8 then (some (wrap64 ((wrap64 (a0 - 257)) + 3), 0)) else (if 0 ≤ (wrap64 ((wrap64 (Int.tdiv (wrap64 (a0 - 257)) 4)) - 1)) then (some (wrap64 ((shl .i64 (wrap64 (4 + (Int.tmod (wrap64 (a0 - 257)) 4))) (wrap64 ((wrap64 (Int.tdiv (wrap64 (a0 - 257)) 4)) - 1))) + 3), wrap64 ((wrap64 (Int.tdiv (wrap64 (a0 - 257)) 4)) - 1))) else (none)))
set_option maxHeartbeats 8000000 in
set_option maxRecDepth 100000 in
theorem impl_lengthBase.calls (a0 : Int) (r1 : Int) (r2 : Int) (w : World) (h : impl_lengthBase.f a0 = some (r1, r2)) :
  Calls Try.prog 26 #[.int .i64 a0] w fun e w' => e = .returned (.tuple #[.int .i64 r1, .int .i64 r2]) ∧ Drawn0 w w' := by
 have H : (if a0 = 285 then (some (258, 0)) else (if (wrap64 (a0 - 257)) < 8 then (some (wrap64 ((wrap64 (a0 - 257)) + 3), 0)) else (if 0 ≤ (wrap64 ((wrap64 (Int.tdiv (wrap64 (a0 - 257)) 4)) - 1)) then (some (wrap64 ((shl .i64 (wrap64 (4 + (Int.tmod (wrap64 (a0 - 257)) 4))) (wrap64 ((wrap64 (Int.tdiv (wrap64 (a0 - 257)) 4)) - 1))) + 3), wrap64 ((wrap64 (Int.tdiv (wrap64 (a0 - 257)) 4)) - 1))) else (none)))) = some (r1, r2) := h
 clear h
 by_cases c2 : a0 = 285
 ·rw [if_pos c2] at H
  have c2b0 : (a0 == 285) = true := beq_iff_eq.mpr c2
  have c2b1 : (a0 != 285) = false := bne_eq_false_iff_eq.mpr c2
  clear c2
  simp only [Option.some.injEq, Prod.mk.injEq] at H
  obtain ⟨rfl, rfl⟩ := H
  go_enter Try.func26, Try.ntmps26
  go_wp2
  go_ret2
  exact ⟨by first | rfl | (simp; done) | (simp [*]; done), by repeat (first | exact Drawn0.refl _ | apply Drawn0.step)⟩
 ·rw [if_neg c2] at H
  have c2b0 : (a0 == 285) = false := beq_eq_false_iff_ne.mpr c2
  have c2b1 : (a0 != 285) = true := bne_iff_ne.mpr c2
  by_cases c3 : (wrap64 (a0 - 257)) < 8
  ·rw [if_pos c3] at H
   have c3b0 : decide ((wrap64 (a0 - 257)) < 8) = true := decide_eq_true c3
   clear c3
   simp only [Option.some.injEq, Prod.mk.injEq] at H
   obtain ⟨rfl, rfl⟩ := H
   go_enter Try.func26, Try.ntmps26
   go_wp2
   go_ret2
   exact ⟨by first | rfl | (simp; done) | (simp [*]; done), by repeat (first | exact Drawn0.refl _ | apply Drawn0.step)⟩
  ·rw [if_neg c3] at H
   have c3b0 : decide ((wrap64 (a0 - 257)) < 8) = false := decide_eq_false c3
   clear c3
   obtain ⟨ji4, hji4⟩ : ∃ j_ : Int, (wrap64 ((wrap64 (Int.tdiv (wrap64 (a0 - 257)) 4)) - 1)) = j_ := ⟨_, rfl⟩
   replace H : (if 0 ≤ (ji4) then (some (wrap64 ((shl .i64 (wrap64 (4 + (Int.tmod (wrap64 (a0 - 257)) 4))) (ji4)) + 3), ji4)) else (none)) = some (r1, r2) := by first | (rw [hji4] at H; exact H) | (simp only [hji4] at H ⊢; exact H)
   have hji4w : (IntKind.i64.wrap ((wrap64 (Int.tdiv (wrap64 (a0 - 257)) 4)) - 1)) = ji4 := (i64_w _).trans hji4
   by_cases c5 : 0 ≤ (ji4)
   ·rw [if_pos c5] at H
    have c5b0 := eq_true c5
    have c5b1 : decide (0 ≤ (ji4)) = true := decide_eq_true c5
    clear c5
    obtain ⟨ji6, hji6⟩ : ∃ j_ : Int, (shl .i64 (wrap64 (4 + (Int.tmod (wrap64 (a0 - 257)) 4))) (ji4)) = j_ := ⟨_, rfl⟩
    replace H : (some (wrap64 ((ji6) + 3), ji4)) = some (r1, r2) := by first | (rw [hji6] at H; exact H) | (simp only [hji6] at H ⊢; exact H)
    have hji6_ : (IntKind.i64.wrap ((wrap64 (4 + (Int.tmod (wrap64 (a0 - 257)) 4))) * 2 ^ min (ji4).toNat 64)) = ji6 := hji6
    have hji6z : (ji4) ≤ 64 → (IntKind.i64.wrap ((wrap64 (4 + (Int.tmod (wrap64 (a0 - 257)) 4))) * 2 ^ (ji4).toNat)) = ji6 := shl_small hji6
    have hji6y : (wrap64 ((wrap64 (4 + (Int.tmod (wrap64 (a0 - 257)) 4))) * 2 ^ min (ji4).toNat 64)) = ji6 := (i64_w _).symm.trans hji6_
    have hji6x : (ji4) ≤ 64 → (wrap64 ((wrap64 (4 + (Int.tmod (wrap64 (a0 - 257)) 4))) * 2 ^ (ji4).toNat)) = ji6 := fun h_ => (i64_w _).symm.trans (hji6z h_)
    simp only [Option.some.injEq, Prod.mk.injEq] at H
    obtain ⟨rfl, rfl⟩ := H
    go_enter Try.func26, Try.ntmps26
    go_wp2
    go_ret2
    exact ⟨by first | rfl | (simp; done) | (simp only [← hji4, ← hji6] <;> (first | rfl | simp)) | (simp [*]; done), by repeat (first | exact Drawn0.refl _ | apply Drawn0.step)⟩
   ·rw [if_neg c5] at H
    exact absurd H (by simp)

/-! ### impl_farBase: function 27 -/
def impl_farBase.f (a0 : Int) : Option (Int × Int) := if a0 < 4 then (some (wrap64 (a0 + 1), 0)) else (if 0 ≤ (wrap64 ((wrap64 (Int.tdiv a0 2)) - 1)) then (some (wrap64 ((shl .i64 (wrap64 (2 + (Int.tmod a0 2))) (wrap64 ((wrap64 (Int.tdiv a0 2)) - 1))) + 1), wrap64 ((wrap64 (Int.tdiv a0 2)) - 1))) else (none))
set_option maxHeartbeats 8000000 in
set_option maxRecDepth 100000 in
theorem impl_farBase.calls (a0 : Int) (r1 : Int) (r2 : Int) (w : World) (h : impl_farBase.f a0 = some (r1, r2)) :
  Calls Try.prog 27 #[.int .i64 a0] w fun e w' => e = .returned (.tuple #[.int .i64 r1, .int .i64 r2]) ∧ Drawn0 w w' := by
 have H : (if a0 < 4 then (some (wrap64 (a0 + 1), 0)) else (if 0 ≤ (wrap64 ((wrap64 (Int.tdiv a0 2)) - 1)) then (some (wrap64 ((shl .i64 (wrap64 (2 + (Int.tmod a0 2))) (wrap64 ((wrap64 (Int.tdiv a0 2)) - 1))) + 1), wrap64 ((wrap64 (Int.tdiv a0 2)) - 1))) else (none))) = some (r1, r2) := h
 clear h
 by_cases c2 : a0 < 4
 ·rw [if_pos c2] at H
  have c2b0 : decide (a0 < 4) = true := decide_eq_true c2
  clear c2
  simp only [Option.some.injEq, Prod.mk.injEq] at H
  obtain ⟨rfl, rfl⟩ := H
  go_enter Try.func27, Try.ntmps27
  go_wp2
  go_ret2
  exact ⟨by first | rfl | (simp; done) | (simp [*]; done), by repeat (first | exact Drawn0.refl _ | apply Drawn0.step)⟩
 ·rw [if_neg c2] at H
  have c2b0 : decide (a0 < 4) = false := decide_eq_false c2
  clear c2
  obtain ⟨ji3, hji3⟩ : ∃ j_ : Int, (wrap64 ((wrap64 (Int.tdiv a0 2)) - 1)) = j_ := ⟨_, rfl⟩
  replace H : (if 0 ≤ (ji3) then (some (wrap64 ((shl .i64 (wrap64 (2 + (Int.tmod a0 2))) (ji3)) + 1), ji3)) else (none)) = some (r1, r2) := by first | (rw [hji3] at H; exact H) | (simp only [hji3] at H ⊢; exact H)
  have hji3w : (IntKind.i64.wrap ((wrap64 (Int.tdiv a0 2)) - 1)) = ji3 := (i64_w _).trans hji3
  by_cases c4 : 0 ≤ (ji3)
  ·rw [if_pos c4] at H
   have c4b0 := eq_true c4
   have c4b1 : decide (0 ≤ (ji3)) = true := decide_eq_true c4
   clear c4
   obtain ⟨ji5, hji5⟩ : ∃ j_ : Int, (shl .i64 (wrap64 (2 + (Int.tmod a0 2))) (ji3)) = j_ := ⟨_, rfl⟩
   replace H : (some (wrap64 ((ji5) + 1), ji3)) = some (r1, r2) := by first | (rw [hji5] at H; exact H) | (simp only [hji5] at H ⊢; exact H)
   have hji5_ : (IntKind.i64.wrap ((wrap64 (2 + (Int.tmod a0 2))) * 2 ^ min (ji3).toNat 64)) = ji5 := hji5
   have hji5z : (ji3) ≤ 64 → (IntKind.i64.wrap ((wrap64 (2 + (Int.tmod a0 2))) * 2 ^ (ji3).toNat)) = ji5 := shl_small hji5
   have hji5y : (wrap64 ((wrap64 (2 + (Int.tmod a0 2))) * 2 ^ min (ji3).toNat 64)) = ji5 := (i64_w _).symm.trans hji5_
   have hji5x : (ji3) ≤ 64 → (wrap64 ((wrap64 (2 + (Int.tmod a0 2))) * 2 ^ (ji3).toNat)) = ji5 := fun h_ => (i64_w _).symm.trans (hji5z h_)
   simp only [Option.some.injEq, Prod.mk.injEq] at H
   obtain ⟨rfl, rfl⟩ := H
   go_enter Try.func27, Try.ntmps27
   go_wp2
   go_ret2
   exact ⟨by first | rfl | (simp; done) | (simp only [← hji3, ← hji5] <;> (first | rfl | simp)) | (simp [*]; done), by repeat (first | exact Drawn0.refl _ | apply Drawn0.step)⟩
  ·rw [if_neg c4] at H
   exact absurd H (by simp)

end Go.Proofs.Ytfogfjmkngoegaa.PFnExactEncodePng
