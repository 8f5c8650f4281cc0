-- Laid by a program of this session out of the translation (its own run of the print). Lean checks it.
import Derived.Test.YtfogfjmkngoegaaPFnExactEncodePngx0
import Derived.Test.YtfogfjmkngoegaaPFnExactEncodePngx2
import Derived.Test.YtfogfjmkngoegaaPFnExactEncodePngx3
import Derived.Test.YtfogfjmkngoegaaPFnExactEncodePngx5
import Derived.Test.YtfogfjmkngoegaaPFnExactEncodePngx6
namespace Go.Proofs.Ytfogfjmkngoegaa.PFnExactEncodePng
open Go.RowKit Go.Proofs.YtfogfjmkngoegaaW.PrintWords Go.Proofs.YtfogfjmkngoegaaW.PrintLast Go.Proofs.YtfogfjmkngoegaaW.PrintMore
attribute [local go_sem] max2_int min2_int max_two min_two max_three min_three max_four min_four   -- for this text's walks alone
set_option linter.unusedVariables false
set_option linter.unusedSimpArgs false

/-! ### impl_PackFixedOf: function 9 -/
/-- the program's: the row of lengths, of codes and the bits' block behind variables that a function value holds. -/
structure PkSi (base : Nat) (w0 W : World) (g : Nat) (vl vc : Value) (ls cs out : List Int) (many : Int) (p4 p5 p7 : Nat) : Prop where
 st : PkSt 39 base w0 W g vl vc ls cs out many
 c4 : W.heap[p4]? = some (.cells #[vl] 33 (0, 0))
 c5 : W.heap[p5]? = some (.cells #[vc] 33 (0, 0))
 c7 : W.heap[p7]? = some (.cells #[.pointer (some ⟨g, 0, none⟩)] 37 (0, 0))
theorem PkSi.drewN {base g p4 p5 p7 : Nat} {w0 W : World} {vl vc : Value} {ls cs out : List Int} {many : Int} (h : PkSi base w0 W g vl vc ls cs out many p4 p5 p7) (n : Nat) : PkSi base w0 (W.drewN n) g vl vc ls cs out many p4 p5 p7 := ⟨h.st.drewN n, h.c4, h.c5, h.c7⟩
theorem PkSi.drew {base g p4 p5 p7 : Nat} {w0 W : World} {vl vc : Value} {ls cs out : List Int} {many : Int} (h : PkSi base w0 W g vl vc ls cs out many p4 p5 p7) : PkSi base w0 W.drew g vl vc ls cs out many p4 p5 p7 := ⟨h.st.drew, h.c4, h.c5, h.c7⟩
theorem kept8_blk {w W : World} {g p t : Nat} {c d : Array Value} (hk : Kept8 w W g) (hg : w.heap[g]? = some (.cells d 39 (0, 0))) (hp : w.heap[p]? = some (.cells c t (0, 0))) (h1 : t ≠ 39) (h2 : t ≠ 5) : W.heap[p]? = some (.cells c t (0, 0)) := by
 refine (hk.2 p (blk_lt hp) (fun e => ?_) (fun cs' e => ?_)).trans hp
 ·subst e; rw [hp] at hg; injection hg with hg; injection hg with _ hh; exact h1 hh
 ·rw [hp] at e; injection e with e; injection e with _ hh; exact h2 hh
theorem PkSi.told {base g p4 p5 p7 : Nat} {w0 W V : World} {vl vc : Value} {ls cs out out' : List Int} {many many' : Int} (h : PkSi base w0 W g vl vc ls cs out many p4 p5 p7) (hb : Below base w0 V) (hw : W8 39 V base g out' many') (hk : Kept8 W V g) : PkSi base w0 V g vl vc ls cs out' many' p4 p5 p7 := by
 obtain ⟨v, h1, _⟩ := h.st.bits
 exact ⟨h.st.told (by decide) hb hw hk, kept8_blk hk h1 h.c4 (by decide) (by decide), kept8_blk hk h1 h.c5 (by decide) (by decide), kept8_blk hk h1 h.c7 (by decide) (by decide)⟩
set_option maxHeartbeats 8000000 in
set_option maxRecDepth 100000 in
theorem pkSym_ (base : Nat) (w0 W : World) (g p4 p5 p7 : Nat) (bl cl bc cc : Nat) (ls cs o : List Int) (m x : Int) (o2 : List Int) (m2 : Int) (ST : PkSi base w0 W g (.slice (some ⟨bl, 0, none⟩) ls.length cl) (.slice (some ⟨bc, 0, none⟩) cs.length cc) ls cs o m p4 p5 p7)
  (i1 : 0 ≤ x) (i2 : x < (ls.length : Int)) (i3 : x < (cs.length : Int)) (hd : impl_bitWriter_code.f o m (rdOf 0 cs x) (rdOf 0 ls x) = some (o2, m2)) :
  Calls Try.prog 23 #[.int .i64 x, .pointer (some ⟨p7, 0, none⟩), .pointer (some ⟨p5, 0, none⟩), .pointer (some ⟨p4, 0, none⟩)] W fun e w' => e = .returned (.tuple #[]) ∧ PkSi base w0 w' g (.slice (some ⟨bl, 0, none⟩) ls.length cl) (.slice (some ⟨bc, 0, none⟩) cs.length cc) ls cs o2 m2 p4 p5 p7 := by
 have S1 := Aside0.mk ST
 have HD := Aside0.mk hd
 have hy1 := (Kd.R_celln 0 ST.st.len x i1 i2).1
 have hy2 := (Kd.R_celln 0 ST.st.cod x i1 i3).1
 have a4_ : W.cell? ⟨p4, 0, none⟩ = some (.slice (some ⟨bl, 0, none⟩) ls.length cl) := (blk_cell ST.c4 0).trans rfl
 have a5_ : W.cell? ⟨p5, 0, none⟩ = some (.slice (some ⟨bc, 0, none⟩) cs.length cc) := (blk_cell ST.c5 0).trans rfl
 have a7_ : W.cell? ⟨p7, 0, none⟩ = some (.pointer (some ⟨g, 0, none⟩)) := (blk_cell ST.c7 0).trans rfl
 clear ST hd
 go_enter Try.func23, Try.ntmps23
 go_upto_region 0 with (fail)
 go_still_tail 9, (by kernel_rfl)
 change wpList _ _ _ _ _ W.drew
 have S2 := Aside0.mk S1.out.drew
 clear S1 hy1 hy2 a4_ a5_ a7_
 generalize W.drew = V at S2 ⊢
 go_wp2_with (go_at_call 24; (with_reducible refine (impl_bitWriter_code.calls o m _ _ o2 m2 base _ w0 _ S2.out.st.size S2.out.st.below S2.out.st.bits HD.out).mono ?_); rintro e w2 ⟨rfl, hb_, hw_, hk_⟩; have S3 := Aside0.mk (PkSi.told S2.out hb_ hw_ hk_); clear hb_ hw_ hk_)
 go_end0
 exact ⟨rfl, S3.out⟩
def pkBi (n : Int) : Nat → Option Nat
 | 0 => none
 | r + 1 => (impl_lengthBase.f (257 + (r : Int))).bind fun p => if p.1 ≤ n then some r else pkBi n r
def pkFi (n : Int) : Nat → Int → Option Nat
 | 0, _ => none
 | r + 1, b => if b > n then (impl_farBase.f ((r : Int) - 1)).bind fun p => pkFi n r p.1 else some r
def impl_PackFixedOf.l0 (D ls cs : List Int) : Nat → Int → List Int → Int → Option (List Int × Bool)
 | 0, _, _, _ => none
 | k + 1, at_, o, m => if at_ < (D.length : Int) then (if 0 ≤ at_ then (impl_MatchAt.f k D at_).bind fun q => if q.1 = 0 then (if 0 ≤ rd D at_ ∧ rd D at_ < 256 then (impl_bitWriter_code.f o m (rd cs (rd D at_)) (rd ls (rd D at_))).bind fun p => impl_PackFixedOf.l0 D ls cs k (wrap64 (at_ + 1)) p.1 p.2 else none) else
   (if q.1 < 258 then pkBi q.1 28 else some 28).bind fun kk => (impl_lengthBase.f (257 + (kk : Int))).bind fun bm => (impl_bitWriter_code.f o m (rd cs (257 + (kk : Int))) (rd ls (257 + (kk : Int)))).bind fun p => (impl_bitWriter_number.f p.1 p.2 (wrap64 (q.1 - bm.1)) bm.2).bind fun p =>
   (impl_farBase.f 29).bind fun b29 => (pkFi q.2 30 b29.1).bind fun kf => (impl_farBase.f (kf : Int)).bind fun fm => (impl_bitWriter_code.f p.1 p.2 (kf : Int) 5).bind fun p => (impl_bitWriter_number.f p.1 p.2 (wrap64 (q.2 - fm.1)) fm.2).bind fun p => impl_PackFixedOf.l0 D ls cs k (wrap64 (at_ + q.1)) p.1 p.2 else none)
  else (impl_bitWriter_code.f o m (rd cs 256) (rd ls 256)).bind fun p => some (p.1, true)
def impl_PackFixedOf.f (k : Nat) (D : List Int) : Option (List Int × Bool) := if (D.length : Int) > 6000 then some ([], false) else (impl_fixedLengths.f k).bind fun ls => (impl_codesBy.f k ls).bind fun c => if ls.length = 288 ∧ c.1.length = 288 then (impl_bitWriter_number.f [] 0 1 1).bind fun p => (impl_bitWriter_number.f p.1 p.2 1 2).bind fun p => impl_PackFixedOf.l0 D ls c.1 k 0 p.1 p.2 else none
set_option maxHeartbeats 8000000 in
set_option maxRecDepth 100000 in
theorem impl_PackFixedOf.calls (k : Nat) (A0 : Option Addr) (c0 : Nat) (l0 : List Int) (r1 : List Int) (r2 : Bool) (w : World) (hr0 : Kd.C (Kd.int .u8) w A0 l0.length l0) (hc0 : l0.length ≤ c0) (h : impl_PackFixedOf.f k l0 = some (r1, r2)) :
  Calls Try.prog 9 #[.slice A0 l0.length c0] w fun e w' => ∃ v0_ : Value, e = .returned (.tuple #[v0_, .bool r2]) ∧ Kd.R (Kd.int .u8) 5 w' w.heap.size (fun _ => True) v0_ r1 ∧ Below w.heap.size w w' := by
 have HR0 := Aside0.mk hr0
 have HC0 := Aside0.mk hc0
 clear hr0 hc0
 unfold impl_PackFixedOf.f at h
 by_cases h6 : (l0.length : Int) > 6000
 ·rw [if_pos h6] at h
  obtain ⟨rfl, rfl⟩ := Prod.mk.inj (Option.some.inj h)
  have h6b : decide ((l0.length : Int) > 6000) = true := decide_eq_true h6
  clear h h6
  go_enter Try.func9, Try.ntmps9
  go_wp2
  go_ret2
  exact ⟨_, rfl, Kd.R_nil _ _ _ _ _, Below.refl _ _⟩
 rw [if_neg h6] at h
 have h6b : decide ((l0.length : Int) > 6000) = false := decide_eq_false h6
 obtain ⟨ls, hls, ha⟩ := Option.bind_eq_some_iff.mp h
 clear h
 obtain ⟨⟨cs, sm⟩, hcs, h⟩ := Option.bind_eq_some_iff.mp ha
 clear ha
 dsimp only at h
 by_cases h288 : ls.length = 288 ∧ cs.length = 288
 rotate_left
 ·rw [if_neg h288] at h; cases h
 rw [if_pos h288] at h
 obtain ⟨⟨o1, m1⟩, hn1, ha⟩ := Option.bind_eq_some_iff.mp h
 clear h
 obtain ⟨⟨o2, m2⟩, hn2, h⟩ := Option.bind_eq_some_iff.mp ha
 clear ha
 have HLS := Aside0.mk hls
 have HCS := Aside0.mk hcs
 have HNL := Aside0.mk h288.1
 have HNC := Aside0.mk h288.2
 have HN1 := Aside0.mk hn1
 have HN2 := Aside0.mk hn2
 have HH := Aside0.mk h
 have h6c : (l0.length : Int) ≤ 6000 := by omega
 clear hls hcs h288 hn1 hn2 h h6
 go_enter Try.func9, Try.ntmps9
 go_upto_region 6 with (first
  | (go_at_call 20; (with_reducible refine (impl_fixedLengths.calls k ls _ HLS.out).mono ?_); rintro e w2 ⟨v0, rfl, hR, hb⟩; obtain ⟨bl, cl, rfl, hcl⟩ := sl64_ hR (by have := HNL.out; omega); have RL := Aside0.mk hR; have BL := Aside0.mk hb; have CL := Aside0.mk hcl; clear hR hb hcl)
  | (go_at_call 21; (with_reducible refine (impl_codesBy.calls k _ _ ls cs sm _ (Kd.R_reads' (Kd.R_alloc RL.out _)).2.2 CL.out HCS.out).mono ?_); rintro e w3 ⟨v1, rfl, hR, hb⟩; obtain ⟨bc, cc, rfl, hcc⟩ := sl64_ hR (by have := HNC.out; omega); have RC := Aside0.mk hR; have BC := Aside0.mk hb; have CC := Aside0.mk hcc; clear hR hb hcc))
 obtain ⟨p4, hp4⟩ : ∃ p : Nat, p = w2.heap.size := ⟨_, rfl⟩
 obtain ⟨p5, hp5⟩ : ∃ p : Nat, p = w3.heap.size := ⟨_, rfl⟩
 obtain ⟨g, hg⟩ : ∃ p : Nat, p = w3.heap.size + 1 := ⟨_, rfl⟩
 obtain ⟨p7, hp7⟩ : ∃ p : Nat, p = w3.heap.size + 1 + 1 := ⟨_, rfl⟩
 rw [← hp7, ← hg, ← hp4, ← hp5]
 obtain ⟨W0, hW0⟩ : ∃ W0 : World, W0 = (((w3.alloc (.cells #[.slice (some ⟨bc, 0, none⟩) cs.length cc] 33)).alloc (.cells #[.slice none 0 0, .int .i64 0] 39)).alloc (.cells #[.pointer (some ⟨g, 0, none⟩)] 37)) := ⟨_, rfl⟩
 rw [← hW0]
 have S0 : Aside0 (PkSi w.heap.size w W0 g (.slice (some ⟨bl, 0, none⟩) ls.length cl) (.slice (some ⟨bc, 0, none⟩) cs.length cc) ls cs [] 0 p4 p5 p7) := ⟨by
  have b1 := BL.out
  have z1 := b1.size
  have b2 := Below.mono BC.out (show w.heap.size ≤ _ by rw [World.size_alloc]; omega)
  have z2 := b2.size
  rw [World.size_alloc] at z2
  have hz : w.heap.size ≤ w3.heap.size := by omega
  have n4 := blk_below (blk_new w2 (.cells #[.slice (some ⟨bl, 0, none⟩) ls.length cl] 33)) BC.out
  have n5 := blk_new w3 (.cells #[.slice (some ⟨bc, 0, none⟩) cs.length cc] 33)
  have ng := blk_new (w3.alloc (.cells #[.slice (some ⟨bc, 0, none⟩) cs.length cc] 33)) (.cells #[.slice none 0 0, .int .i64 0] 39)
  have n7 := blk_new ((w3.alloc (.cells #[.slice (some ⟨bc, 0, none⟩) cs.length cc] 33)).alloc (.cells #[.slice none 0 0, .int .i64 0] 39)) (.cells #[.pointer (some ⟨g, 0, none⟩)] 37)
  rw [World.size_alloc] at ng
  rw [World.size_alloc, World.size_alloc] at n7
  rw [← hp4] at n4
  rw [← hp5] at n5
  rw [← hg] at ng
  rw [← hp7] at n7
  have rl := Kd.R_alloc (Kd.R_alloc (Kd.R_alloc (Kd.R_below (Kd.R_alloc RL.out _) BC.out) (.cells #[.slice (some ⟨bc, 0, none⟩) cs.length cc] 33)) (.cells #[.slice none 0 0, .int .i64 0] 39)) (.cells #[.pointer (some ⟨g, 0, none⟩)] 37)
  have rc := Kd.R_alloc (Kd.R_alloc (Kd.R_alloc (Kd.R_lower RC.out (show w.heap.size ≤ _ by rw [World.size_alloc]; omega)) (.cells #[.slice (some ⟨bc, 0, none⟩) cs.length cc] 33)) (.cells #[.slice none 0 0, .int .i64 0] 39)) (.cells #[.pointer (some ⟨g, 0, none⟩)] 37)
  rw [hW0]
  refine ⟨⟨?_, ?_, ⟨_, blk_alloc ng _, by omega, Kd.R_nil _ _ _ _ _⟩, rl, rc⟩, blk_alloc (blk_alloc (blk_alloc n4 _) _) _, blk_alloc (blk_alloc n5 _) _, n7⟩
  ·rw [World.size_alloc, World.size_alloc, World.size_alloc]; omega
  ·refine Below.alloc (Below.alloc (Below.alloc (Below.trans (Below.alloc b1 z1 _) b2) hz _) ?_ _) ?_ _
   ·rw [World.size_alloc]; omega
   ·rw [World.size_alloc, World.size_alloc]; omega⟩
 have A0_ : W0.cell? ⟨p7, 0, none⟩ = some (.pointer (some ⟨g, 0, none⟩)) := (blk_cell S0.out.c7 0).trans rfl
 clear hW0 RL BL RC BC hp4 hp5 hg hp7
 clear w2 w3
 go_wp2_with (first
  | (go_at_call 22; (with_reducible refine (impl_bitWriter_number.calls [] 0 1 1 o1 m1 w.heap.size _ w _ (S0.out).st.size (S0.out).st.below (S0.out).st.bits HN1.out).mono ?_); rintro e w1 ⟨rfl, hb_, hw_, hk_⟩; have S1 := Aside0.mk (PkSi.told (S0.out) hb_ hw_ hk_); have A1_ : w1.cell? ⟨p7, 0, none⟩ = some (.pointer (some ⟨g, 0, none⟩)) := (blk_cell S1.out.c7 0).trans rfl; clear hb_ hw_ hk_)
  | (go_at_call 22; (with_reducible refine (impl_bitWriter_number.calls o1 m1 1 2 o2 m2 w.heap.size _ w _ (S1.out).st.size (S1.out).st.below (S1.out).st.bits HN2.out).mono ?_); rintro e w2 ⟨rfl, hb_, hw_, hk_⟩; have S2 := Aside0.mk (PkSi.told (S1.out) hb_ hw_ hk_); have A2_ : w2.cell? ⟨p7, 0, none⟩ = some (.pointer (some ⟨g, 0, none⟩)) := (blk_cell S2.out.c7 0).trans rfl; clear hb_ hw_ hk_))
 go_loopg [9] k (fun kq v w' => ∃ (a : Int) (o : List Int) (m : Int), v = .int .i64 a ∧ Aside0 (impl_PackFixedOf.l0 l0 ls cs kq a o m = some (r1, r2)) ∧ Aside0 (PkSi w.heap.size w w' g (.slice (some ⟨bl, 0, none⟩) ls.length cl) (.slice (some ⟨bc, 0, none⟩) cs.length cc) ls cs o m p4 p5 p7))
 case atStart => exact ⟨0, o2, m2, rfl, HH, S2⟩
 case round =>
  clear S0 S1 S2 HH HN1 HN2 A0_ A1_ A2_
  clear o2 m2 o1 m1
  obtain ⟨a, o, m, rfl, HA, ST⟩ := hrel
  cases gk with
  | zero => exact absurd HA.out (by simp [impl_PackFixedOf.l0])
  | succ kf =>
   have H := HA.out
   clear HA
   rw [impl_PackFixedOf.l0] at H
   have HR1 := Aside0.mk (Kd.C_below HR0.out ST.out.st.below)
   have B0_ : wr.cell? ⟨p7, 0, none⟩ = some (.pointer (some ⟨g, 0, none⟩)) := (blk_cell ST.out.c7 0).trans rfl
   by_cases c1 : a < (l0.length : Int)
   rotate_left
   ·rw [if_neg c1] at H
    obtain ⟨⟨o2, m2⟩, hd, H⟩ := Option.bind_eq_some_iff.mp H
    obtain ⟨rfl, rfl⟩ := Prod.mk.inj (Option.some.inj H)
    have HD := Aside0.mk (show impl_bitWriter_code.f o m (rdOf 0 cs 256) (rdOf 0 ls 256) = some (o2, m2) from hd)
    have c1b : decide (a < (l0.length : Int)) = false := decide_eq_false c1
    clear hd H c1
    go_wp2
    have i1 : (0 : Int) ≤ 256 := by omega
    have i2 : (256 : Int) < (ls.length : Int) := by have := HNL.out; omega
    have i3 : (256 : Int) < (cs.length : Int) := by have := HNC.out; omega
    have hy1 : wr.cell? ⟨bl, 256, none⟩ = some (.int .i64 (rdOf 0 ls 256)) := (Kd.R_celln 0 (ST.out).st.len 256 i1 i2).1
    have hy2 : wr.cell? ⟨bc, 256, none⟩ = some (.int .i64 (rdOf 0 cs 256)) := (Kd.R_celln 0 (ST.out).st.cod 256 i1 i3).1
    have a4_ : wr.cell? ⟨p4, 0, none⟩ = some (.slice (some ⟨bl, 0, none⟩) ls.length cl) := (blk_cell (ST.out).c4 0).trans rfl
    have a5_ : wr.cell? ⟨p5, 0, none⟩ = some (.slice (some ⟨bc, 0, none⟩) cs.length cc) := (blk_cell (ST.out).c5 0).trans rfl
    have a7_ : wr.cell? ⟨p7, 0, none⟩ = some (.pointer (some ⟨g, 0, none⟩)) := (blk_cell (ST.out).c7 0).trans rfl
    go_still_tail 9, (by kernel_rfl)
    change wpList _ _ _ _ _ wr.drew
    have S9 := Aside0.mk (ST.out).drew
    clear hy1 hy2 a4_ a5_ a7_
    generalize wr.drew = V at S9 ⊢
    go_wp2_with (go_at_call 24; (with_reducible refine (impl_bitWriter_code.calls o m _ _ o2 m2 w.heap.size _ w _ (S9.out).st.size (S9.out).st.below (S9.out).st.bits HD.out).mono ?_); rintro e w2 ⟨rfl, hb_, hw_, hk_⟩; have S2 := Aside0.mk (PkSi.told (S9.out) hb_ hw_ hk_); have A2_ : w2.cell? ⟨p7, 0, none⟩ = some (.pointer (some ⟨g, 0, none⟩)) := (blk_cell S2.out.c7 0).trans rfl; clear hb_ hw_ hk_; obtain ⟨vo, hb_, hg_, hR_⟩ := S2.out.st.bits; have k0_ := (blk_cell hb_ 0).trans rfl; have RO := Aside0.mk hR_; clear hb_ hg_ hR_)
    go_end0
    go_wp2
    go_ret2
    exact ⟨_, rfl, RO.out, S2.out.st.below⟩
   ·rw [if_pos c1] at H
    have c1b : decide (a < (l0.length : Int)) = true := decide_eq_true c1
    by_cases c2 : 0 ≤ a
    rotate_left
    ·rw [if_neg c2] at H; cases H
    rw [if_pos c2] at H
    obtain ⟨⟨n, f⟩, hq, H⟩ := Option.bind_eq_some_iff.mp H
    have HQ := Aside0.mk hq
    dsimp only at H
    clear hq
    by_cases hn : n = 0
    ·rw [if_pos hn] at H
     subst hn
     by_cases c3 : 0 ≤ rd l0 a ∧ rd l0 a < 256
     rotate_left
     ·rw [if_neg c3] at H; cases H
     rw [if_pos c3] at H
     obtain ⟨⟨o2, m2⟩, hd, H⟩ := Option.bind_eq_some_iff.mp H
     have H' := Aside0.mk H
     clear H
     obtain ⟨ad, e1, hx⟩ := Kd.at_int HR1.out a c2 c1
     subst e1
     obtain ⟨x, ex⟩ : ∃ x : Int, x = rd l0 a := ⟨_, rfl⟩
     rw [← ex] at hx c3 hd
     have HD := Aside0.mk (show impl_bitWriter_code.f o m (rdOf 0 cs x) (rdOf 0 ls x) = some (o2, m2) from hd)
     have i1 := c3.1
     have i2 : x < (ls.length : Int) := by have := HNL.out; omega
     have i3 : x < (cs.length : Int) := by have := HNC.out; omega
     have wx : IntKind.i64.wrap x = x := (i64_w _).trans (by have := c3.2; unfold wrap64; omega)
     have wy : wrap64 x = x := by have := c3.2; unfold wrap64; omega
     clear ex c3 hd
     go_wp2_with (first
      | (go_at_call 25; (with_reducible refine (impl_MatchAt.calls kf (some ad) c0 l0 a 0 f _ HR1.out HC0.out HQ.out).mono ?_); rintro e w2 ⟨rfl, ⟨nd, rfl⟩⟩)
      | (go_at_call 23; (with_reducible refine (pkSym_ w.heap.size w _ g p4 p5 p7 bl cl bc cc ls cs o m x o2 m2 (ST.out.drewN nd) i1 i2 i3 HD.out).mono ?_); rintro e w2 ⟨rfl, hs_⟩; have S2 := Aside0.mk hs_; have A2_ : w2.cell? ⟨p7, 0, none⟩ = some (.pointer (some ⟨g, 0, none⟩)) := (blk_cell hs_.c7 0).trans rfl; clear hs_))
     go_roundg kf
     case measure => omega
     case rel => exact ⟨wrap64 (a + 1), o2, m2, by first | rfl | (simp; done) | (have := h6c; unfold wrap64; congr 1; omega), H', S2⟩
    ·rw [if_neg hn] at H
     obtain ⟨kk, hkk, H⟩ := Option.bind_eq_some_iff.mp H
     obtain ⟨⟨bb, bm⟩, hbm, H⟩ := Option.bind_eq_some_iff.mp H
     obtain ⟨⟨o2, m2⟩, hd2, H⟩ := Option.bind_eq_some_iff.mp H
     obtain ⟨⟨o3, m3⟩, hd3, H⟩ := Option.bind_eq_some_iff.mp H
     obtain ⟨⟨b29, c29⟩, h29, H⟩ := Option.bind_eq_some_iff.mp H
     obtain ⟨kz, hkq, H⟩ := Option.bind_eq_some_iff.mp H
     obtain ⟨⟨fb, fm⟩, hfm, H⟩ := Option.bind_eq_some_iff.mp H
     obtain ⟨⟨o4, m4⟩, hd4, H⟩ := Option.bind_eq_some_iff.mp H
     obtain ⟨⟨o5, m5⟩, hd5, H⟩ := Option.bind_eq_some_iff.mp H
     dsimp only at hkk hbm hd2 hd3 h29 hkq hfm hd4 hd5 H
     have HBM1 := Aside0.mk hbm
     have HD1 := Aside0.mk (show impl_bitWriter_code.f o m (rdOf 0 cs (257 + (kk : Int))) (rdOf 0 ls (257 + (kk : Int))) = some (o2, m2) from hd2)
     have HD3 := Aside0.mk hd3
     have H29 := Aside0.mk h29
     have HKQ := Aside0.mk hkq
     have HFM := Aside0.mk hfm
     have HD4 := Aside0.mk hd4
     have HD5 := Aside0.mk hd5
     have H' := Aside0.mk H
     have hnb : ((n : Int) == 0) = false := beq_eq_false_iff_ne.mpr hn
     clear hbm hd2 hd3 h29 hkq hfm hd4 hd5 H
     by_cases h258 : n < 258
     ·rw [if_pos h258] at hkk
      have HKK := Aside0.mk hkk
      have h258b : decide (n < 258) = true := decide_eq_true h258
      clear hkk
      go_wp2_with (go_at_call 25; (with_reducible refine (impl_MatchAt.calls kf A0 c0 l0 a n f _ HR1.out HC0.out HQ.out).mono ?_); rintro e w2 ⟨rfl, ⟨nd, rfl⟩⟩)
      go_loopg [12] 28 (fun kq v12 w' => ∃ c : Int, v12 = .int .i64 c ∧ Aside0 (c = 257 + (kq : Int)) ∧ Aside0 (pkBi n kq = some kk) ∧ Aside0 (kq ≤ 28) ∧ Aside0 (PkSi w.heap.size w w' g (.slice (some ⟨bl, 0, none⟩) ls.length cl) (.slice (some ⟨bc, 0, none⟩) cs.length cc) ls cs o m p4 p5 p7))
      case atStart => exact ⟨285, rfl, ⟨rfl⟩, HKK, ⟨Nat.le_refl _⟩, ⟨ST.out.drewN _⟩⟩
      case round =>
       clear HR1 HKK HQ B0_
       obtain ⟨c, rfl, HC, HA2, HI2, ST2⟩ := hrel
       cases gk with
       | zero => exact absurd HA2.out (by simp [pkBi])
       | succ r1 =>
        have hi2 := HI2.out
        have H := HA2.out
        rw [pkBi] at H
        clear HA2
        obtain ⟨⟨b', c'⟩, h', H⟩ := Option.bind_eq_some_iff.mp H
        dsimp only at H
        obtain ⟨d, ed⟩ : ∃ d : Int, d = 257 + (r1 : Int) := ⟨_, rfl⟩
        have wj : wrap64 (c - 1) = d := by have := HC.out; rw [ed]; unfold wrap64; omega
        have wi : IntKind.i64.wrap (c - 1) = d := (i64_w _).trans wj
        have ec : c - 1 = d := by have := HC.out; omega
        rw [← ed] at h'
        have H0' := Aside0.mk h'
        have B2_ : wr.cell? ⟨p7, 0, none⟩ = some (.pointer (some ⟨g, 0, none⟩)) := (blk_cell ST2.out.c7 0).trans rfl
        have d0 : 257 ≤ d ∧ d ≤ 284 := by omega
        obtain ⟨d1, d2⟩ := d0
        by_cases hb : b' ≤ n
        ·rw [if_pos hb] at H
         obtain rfl := Option.some.inj H
         have hb1 : decide (b' ≤ n) = true := decide_eq_true hb
         have HBM : Aside0 (impl_lengthBase.f d = some (bb, bm)) := ⟨by rw [ed]; exact HBM1.out⟩
         have HD2 : Aside0 (impl_bitWriter_code.f o m (rdOf 0 cs d) (rdOf 0 ls d) = some (o2, m2)) := ⟨by rw [ed]; exact HD1.out⟩
         clear H hb h' ed HC HBM1 HD1 hi2
         go_upto_region 21 with (go_at_call 26; (with_reducible refine (impl_lengthBase.calls d b' c' _ H0'.out).mono ?_); rintro e w9 ⟨rfl, ⟨nd3, rfl⟩⟩)
         have i1 : (0 : Int) ≤ d := by omega
         have i2 : d < (ls.length : Int) := by have := HNL.out; omega
         have i3 : d < (cs.length : Int) := by have := HNC.out; omega
         go_wp2_with (first
          | (go_at_call 26; (with_reducible refine (impl_lengthBase.calls d bb bm _ HBM.out).mono ?_); rintro e w9 ⟨rfl, ⟨nd6, rfl⟩⟩)
          | (go_at_call 23; (with_reducible refine (pkSym_ w.heap.size w _ g p4 p5 p7 bl cl bc cc ls cs o m d o2 m2 (ST2.out.drewN _) i1 i2 i3 HD2.out).mono ?_); rintro e w2 ⟨rfl, hs_⟩; have S2 := Aside0.mk hs_; have A2_ : w2.cell? ⟨p7, 0, none⟩ = some (.pointer (some ⟨g, 0, none⟩)) := (blk_cell hs_.c7 0).trans rfl; clear hs_)
          | (go_at_call 22; (with_reducible refine (impl_bitWriter_number.calls o2 m2 (wrap64 (n - bb)) bm o3 m3 w.heap.size _ w _ (S2.out).st.size (S2.out).st.below (S2.out).st.bits HD3.out).mono ?_); rintro e w3 ⟨rfl, hb_, hw_, hk_⟩; have S3 := Aside0.mk (PkSi.told (S2.out) hb_ hw_ hk_); have A3_ : w3.cell? ⟨p7, 0, none⟩ = some (.pointer (some ⟨g, 0, none⟩)) := (blk_cell S3.out.c7 0).trans rfl; clear hb_ hw_ hk_)
          | (go_at_call 27; (with_reducible refine (impl_farBase.calls 29 b29 c29 _ H29.out).mono ?_); rintro e w9 ⟨rfl, ⟨nd7, rfl⟩⟩))
         go_loopg [12, 17] 30 (fun kq v12 v17 w' => ∃ b : Int, v12 = .int .i64 ((kq : Int) - 1) ∧ v17 = .int .i64 b ∧ Aside0 (pkFi f kq b = some kz) ∧ Aside0 (kq ≤ 30) ∧ Aside0 (PkSi w.heap.size w w' g (.slice (some ⟨bl, 0, none⟩) ls.length cl) (.slice (some ⟨bc, 0, none⟩) cs.length cc) ls cs o3 m3 p4 p5 p7))
         case atStart => exact ⟨b29, rfl, rfl, HKQ, ⟨Nat.le_refl _⟩, ⟨S3.out.drewN _⟩⟩
         case round =>
          clear S3 S2 HKQ H29 HD2 HD3 HBM A2_ A3_
          obtain ⟨b3, rfl, rfl, HA3, HI3, ST3⟩ := hrel
          cases gk with
          | zero => exact absurd HA3.out (by simp [pkFi])
          | succ r2 =>
           have er : ((r2 + 1 : Nat) : Int) - 1 = (r2 : Int) := by omega
           rw [er]
           have hi3 := HI3.out
           have H := HA3.out
           rw [pkFi] at H
           clear HA3 er
           have B3_ : wr.cell? ⟨p7, 0, none⟩ = some (.pointer (some ⟨g, 0, none⟩)) := (blk_cell ST3.out.c7 0).trans rfl
           by_cases hb : b3 > f
           ·rw [if_pos hb] at H
            obtain ⟨⟨b', c'⟩, h', H⟩ := Option.bind_eq_some_iff.mp H
            have H0' := Aside0.mk h'
            have H1' := Aside0.mk H
            have hb1 : decide (b3 > f) = true := decide_eq_true hb
            clear h' H
            go_wp2_with (go_at_call 27; (with_reducible refine (impl_farBase.calls ((r2 : Int) - 1) b' c' _ H0'.out).mono ?_); rintro e w9 ⟨rfl, ⟨nd5, rfl⟩⟩)
            go_roundg r2
            case measure => omega
            case rel => exact ⟨b', rfl, rfl, H1', ⟨by have := HI3.out; omega⟩, ⟨ST3.out.drewN _⟩⟩
           ·rw [if_neg hb] at H
            obtain rfl := Option.some.inj H
            have hb1 : decide (b3 > f) = false := decide_eq_false hb
            clear H hb
            go_wp2_with (first
             | (go_at_call 27; (with_reducible refine (impl_farBase.calls (r2 : Int) fb fm _ HFM.out).mono ?_); rintro e w9 ⟨rfl, ⟨nd5, rfl⟩⟩)
             | (go_at_call 24; (with_reducible refine (impl_bitWriter_code.calls o3 m3 (r2 : Int) 5 o4 m4 w.heap.size _ w _ (ST3.out.drewN nd5).st.size (ST3.out.drewN nd5).st.below (ST3.out.drewN nd5).st.bits HD4.out).mono ?_); rintro e w4 ⟨rfl, hb_, hw_, hk_⟩; have S4 := Aside0.mk (PkSi.told (ST3.out.drewN nd5) hb_ hw_ hk_); have A4_ : w4.cell? ⟨p7, 0, none⟩ = some (.pointer (some ⟨g, 0, none⟩)) := (blk_cell S4.out.c7 0).trans rfl; clear hb_ hw_ hk_)
             | (go_at_call 22; (with_reducible refine (impl_bitWriter_number.calls o4 m4 (wrap64 (f - fb)) fm o5 m5 w.heap.size _ w _ (S4.out).st.size (S4.out).st.below (S4.out).st.bits HD5.out).mono ?_); rintro e w5 ⟨rfl, hb_, hw_, hk_⟩; have S5 := Aside0.mk (PkSi.told (S4.out) hb_ hw_ hk_); have A5_ : w5.cell? ⟨p7, 0, none⟩ = some (.pointer (some ⟨g, 0, none⟩)) := (blk_cell S5.out.c7 0).trans rfl; clear hb_ hw_ hk_))
            go_roundg kf
            case measure => omega
            case rel => exact ⟨wrap64 (a + n), o5, m5, by first | rfl | (simp; done), H', S5⟩
        ·rw [if_neg hb] at H
         have H1' := Aside0.mk H
         have ED := Aside0.mk ed
         have hb1 : decide (b' ≤ n) = false := decide_eq_false hb
         clear H hb h' ed
         go_wp2_with (go_at_call 26; (with_reducible refine (impl_lengthBase.calls d b' c' _ H0'.out).mono ?_); rintro e w9 ⟨rfl, ⟨nd3, rfl⟩⟩)
         go_roundg r1
         case measure => omega
         case rel => exact ⟨d, rfl, ED, H1', ⟨by have := HI2.out; omega⟩, ⟨ST2.out.drewN _⟩⟩
     ·rw [if_neg h258] at hkk
      obtain rfl := Option.some.inj hkk
      have h258b : decide (n < 258) = false := decide_eq_false h258
      have HBM : Aside0 (impl_lengthBase.f 285 = some (bb, bm)) := HBM1
      have HD2 : Aside0 (impl_bitWriter_code.f o m (rdOf 0 cs 285) (rdOf 0 ls 285) = some (o2, m2)) := HD1
      clear hkk HBM1 HD1 h258
      go_wp2_with (go_at_call 25; (with_reducible refine (impl_MatchAt.calls kf A0 c0 l0 a n f _ HR1.out HC0.out HQ.out).mono ?_); rintro e w2 ⟨rfl, ⟨nd, rfl⟩⟩)
      go_loopg [12] 28 (fun kq v12 w' => v12 = .int .i64 285 ∧ Aside0 (PkSi w.heap.size w w' g (.slice (some ⟨bl, 0, none⟩) ls.length cl) (.slice (some ⟨bc, 0, none⟩) cs.length cc) ls cs o m p4 p5 p7))
      case atStart => exact ⟨rfl, ⟨ST.out.drewN _⟩⟩
      case round =>
       clear HR1 HQ B0_
       obtain ⟨rfl, ST2⟩ := hrel
       have B2_ : wr.cell? ⟨p7, 0, none⟩ = some (.pointer (some ⟨g, 0, none⟩)) := (blk_cell ST2.out.c7 0).trans rfl
       have i1 : (0 : Int) ≤ 285 := by omega
       have i2 : 285 < (ls.length : Int) := by have := HNL.out; omega
       have i3 : 285 < (cs.length : Int) := by have := HNC.out; omega
       go_wp2_with (first
        | (go_at_call 26; (with_reducible refine (impl_lengthBase.calls 285 bb bm _ HBM.out).mono ?_); rintro e w9 ⟨rfl, ⟨nd6, rfl⟩⟩)
        | (go_at_call 23; (with_reducible refine (pkSym_ w.heap.size w _ g p4 p5 p7 bl cl bc cc ls cs o m 285 o2 m2 (ST2.out.drewN _) i1 i2 i3 HD2.out).mono ?_); rintro e w2 ⟨rfl, hs_⟩; have S2 := Aside0.mk hs_; have A2_ : w2.cell? ⟨p7, 0, none⟩ = some (.pointer (some ⟨g, 0, none⟩)) := (blk_cell hs_.c7 0).trans rfl; clear hs_)
        | (go_at_call 22; (with_reducible refine (impl_bitWriter_number.calls o2 m2 (wrap64 (n - bb)) bm o3 m3 w.heap.size _ w _ (S2.out).st.size (S2.out).st.below (S2.out).st.bits HD3.out).mono ?_); rintro e w3 ⟨rfl, hb_, hw_, hk_⟩; have S3 := Aside0.mk (PkSi.told (S2.out) hb_ hw_ hk_); have A3_ : w3.cell? ⟨p7, 0, none⟩ = some (.pointer (some ⟨g, 0, none⟩)) := (blk_cell S3.out.c7 0).trans rfl; clear hb_ hw_ hk_)
        | (go_at_call 27; (with_reducible refine (impl_farBase.calls 29 b29 c29 _ H29.out).mono ?_); rintro e w9 ⟨rfl, ⟨nd7, rfl⟩⟩))
       go_loopg [12, 17] 30 (fun kq v12 v17 w' => ∃ b : Int, v12 = .int .i64 ((kq : Int) - 1) ∧ v17 = .int .i64 b ∧ Aside0 (pkFi f kq b = some kz) ∧ Aside0 (kq ≤ 30) ∧ Aside0 (PkSi w.heap.size w w' g (.slice (some ⟨bl, 0, none⟩) ls.length cl) (.slice (some ⟨bc, 0, none⟩) cs.length cc) ls cs o3 m3 p4 p5 p7))
       case atStart => exact ⟨b29, rfl, rfl, HKQ, ⟨Nat.le_refl _⟩, ⟨S3.out.drewN _⟩⟩
       case round =>
        clear S3 S2 HKQ H29 HD2 HD3 HBM A2_ A3_
        obtain ⟨b3, rfl, rfl, HA3, HI3, ST3⟩ := hrel
        cases gk with
        | zero => exact absurd HA3.out (by simp [pkFi])
        | succ r2 =>
         have er : ((r2 + 1 : Nat) : Int) - 1 = (r2 : Int) := by omega
         rw [er]
         have hi3 := HI3.out
         have H := HA3.out
         rw [pkFi] at H
         clear HA3 er
         have B3_ : wr.cell? ⟨p7, 0, none⟩ = some (.pointer (some ⟨g, 0, none⟩)) := (blk_cell ST3.out.c7 0).trans rfl
         by_cases hb : b3 > f
         ·rw [if_pos hb] at H
          obtain ⟨⟨b', c'⟩, h', H⟩ := Option.bind_eq_some_iff.mp H
          have H0' := Aside0.mk h'
          have H1' := Aside0.mk H
          have hb1 : decide (b3 > f) = true := decide_eq_true hb
          clear h' H
          go_wp2_with (go_at_call 27; (with_reducible refine (impl_farBase.calls ((r2 : Int) - 1) b' c' _ H0'.out).mono ?_); rintro e w9 ⟨rfl, ⟨nd5, rfl⟩⟩)
          go_roundg r2
          case measure => omega
          case rel => exact ⟨b', rfl, rfl, H1', ⟨by have := HI3.out; omega⟩, ⟨ST3.out.drewN _⟩⟩
         ·rw [if_neg hb] at H
          obtain rfl := Option.some.inj H
          have hb1 : decide (b3 > f) = false := decide_eq_false hb
          clear H hb
          go_wp2_with (first
           | (go_at_call 27; (with_reducible refine (impl_farBase.calls (r2 : Int) fb fm _ HFM.out).mono ?_); rintro e w9 ⟨rfl, ⟨nd5, rfl⟩⟩)
           | (go_at_call 24; (with_reducible refine (impl_bitWriter_code.calls o3 m3 (r2 : Int) 5 o4 m4 w.heap.size _ w _ (ST3.out.drewN nd5).st.size (ST3.out.drewN nd5).st.below (ST3.out.drewN nd5).st.bits HD4.out).mono ?_); rintro e w4 ⟨rfl, hb_, hw_, hk_⟩; have S4 := Aside0.mk (PkSi.told (ST3.out.drewN nd5) hb_ hw_ hk_); have A4_ : w4.cell? ⟨p7, 0, none⟩ = some (.pointer (some ⟨g, 0, none⟩)) := (blk_cell S4.out.c7 0).trans rfl; clear hb_ hw_ hk_)
           | (go_at_call 22; (with_reducible refine (impl_bitWriter_number.calls o4 m4 (wrap64 (f - fb)) fm o5 m5 w.heap.size _ w _ (S4.out).st.size (S4.out).st.below (S4.out).st.bits HD5.out).mono ?_); rintro e w5 ⟨rfl, hb_, hw_, hk_⟩; have S5 := Aside0.mk (PkSi.told (S4.out) hb_ hw_ hk_); have A5_ : w5.cell? ⟨p7, 0, none⟩ = some (.pointer (some ⟨g, 0, none⟩)) := (blk_cell S5.out.c7 0).trans rfl; clear hb_ hw_ hk_))
          go_roundg kf
          case measure => omega
          case rel => exact ⟨wrap64 (a + n), o5, m5, by first | rfl | (simp; done), H', S5⟩

/-! ### impl_PackStoredOf: function 29 -/
def impl_PackStoredOf.f (l0 : List Int) : Option (List Int × Bool) := if (l0.length : Int) > 6000 then (some (([] : List Int), false)) else ((some (([1, ((l0.length : Int)) % 256, ((l0.length : Int) / 256) % 256, Go.bits .xor .u8 255 (((l0.length : Int)) % 256), Go.bits .xor .u8 255 (((l0.length : Int) / 256) % 256)] : List Int) : List Int)).bind fun y256 => (if y256.length + l0.length < 140737488355328 then (some ((y256 ++ l0), true)) else (none)))
set_option maxHeartbeats 8000000 in
set_option maxRecDepth 100000 in
theorem impl_PackStoredOf.calls (A0 : Option Addr) (c0 : Nat) (l0 : List Int) (r1 : List Int) (r2 : Bool) (w : World) (hr0 : Kd.C (Kd.int .u8) w A0 l0.length l0) (hc0 : l0.length ≤ c0) (h : impl_PackStoredOf.f l0 = some (r1, r2)) :
  Calls Try.prog 29 #[.slice A0 l0.length c0] w fun e w' => ∃ v0_ : Value, e = .returned (.tuple #[v0_, .bool r2]) ∧ Kd.R (Kd.int .u8) 5 w' w.heap.size (fun _ => True) v0_ r1 ∧ Below w.heap.size w w' := by
 have HR0 := Aside0.mk hr0
 have HC0 := Aside0.mk hc0
 clear hr0 hc0
 have HB := Aside0.mk (Below.refl w.heap.size w)
 have H : (if (l0.length : Int) > 6000 then (some (([] : List Int), false)) else ((some (([1, ((l0.length : Int)) % 256, ((l0.length : Int) / 256) % 256, Go.bits .xor .u8 255 (((l0.length : Int)) % 256), Go.bits .xor .u8 255 (((l0.length : Int) / 256) % 256)] : List Int) : List Int)).bind fun y256 => (if y256.length + l0.length < 140737488355328 then (some ((y256 ++ l0), true)) else (none)))) = some (r1, r2) := h
 clear h
 by_cases c2 : (l0.length : Int) > 6000
 ·rw [if_pos c2] at H
  have c2b0 : decide (6000 < (l0.length : Int)) = true := decide_eq_true c2
  have c2b1 : decide (6000 < l0.length) = true := decide_eq_true (by omega)
  clear c2
  simp only [Option.some.injEq, Prod.mk.injEq] at H
  obtain ⟨rfl, rfl⟩ := H
  go_enter Try.func29, Try.ntmps29
  go_wp2
  go_ret2
  exact ⟨_, er_, by first | exact Kd.R_nil _ _ _ _ _ | exact Kd.N_nil _ _ _ _ _ | exact Kd.V_nil _ _ _ _ _ | exact Kd.Q_nil _ _ _ _ _ | exact Kd.S_nil _ _ _ _ _, bel_⟩
 ·rw [if_neg c2] at H
  have c2b0 : decide (6000 < (l0.length : Int)) = false := decide_eq_false c2
  have c2b1 : decide (6000 < l0.length) = false := decide_eq_false (by omega)
  clear c2
  obtain ⟨y256, hy256⟩ : ∃ y_ : List Int, y_ = (([1, ((l0.length : Int)) % 256, ((l0.length : Int) / 256) % 256, Go.bits .xor .u8 255 (((l0.length : Int)) % 256), Go.bits .xor .u8 255 (((l0.length : Int) / 256) % 256)] : List Int)) := ⟨_, rfl⟩
  replace H : (if y256.length + l0.length < 140737488355328 then (some ((y256 ++ l0), true)) else (none)) = some (r1, r2) := by first | (rw [hy256]; with_reducible exact H) | (have H2_ := (Option.bind_some _ _).symm.trans H; rw [hy256]; with_reducible exact H2_) | (have H2_ := (Option.bind_some _ _).symm.trans H; with_reducible exact H2_) | with_reducible exact H | (rw [hy256]; exact H) | exact H
  have Ny256 := Aside0.mk hy256
  clear hy256
  by_cases c3 : y256.length + l0.length < 140737488355328
  ·rw [if_pos c3] at H
   have LMc3 := Aside0.mk c3
   clear c3
   obtain ⟨y259, hy259⟩ : ∃ y_ : List Int, y_ = (y256 ++ l0) := ⟨_, rfl⟩
   replace H : (some (y259, true)) = some (r1, r2) := by first | (rw [hy259]; with_reducible exact H) | (have H2_ := (Option.bind_some _ _).symm.trans H; rw [hy259]; with_reducible exact H2_) | (have H2_ := (Option.bind_some _ _).symm.trans H; with_reducible exact H2_) | with_reducible exact H | (rw [hy259]; exact H) | exact H
   have Ny259 := Aside0.mk hy259
   clear hy259
   simp only [Option.some.injEq, Prod.mk.injEq] at H
   obtain ⟨rfl, rfl⟩ := H
   go_enter Try.func29, Try.ntmps29
   go_wp2_with (first | ((with_reducible refine gate_dst (N := 22) rfl ?_); refine Kd.R_lit (Kd.int .u8) _ 5 ?hg (N := 22) ?hd (xs := ([1, ((l0.length : Int)) % 256, ((l0.length : Int) / 256) % 256, Go.bits .xor .u8 255 (((l0.length : Int)) % 256), Go.bits .xor .u8 255 (((l0.length : Int) / 256) % 256)] : List Int)) (inner := [.int .u8 1, .int .u8 (((l0.length : Int)) % 256), .int .u8 (((l0.length : Int) / 256) % 256), .int .u8 (Go.bits .xor .u8 255 (((l0.length : Int)) % 256)), .int .u8 (Go.bits .xor .u8 255 (((l0.length : Int) / 256) % 256))]) (ok := fun _ => True) (okp := fun _ => True) ?hr ?hp (fun _ hk => hk) trivial (Below.refl _ _) (Nat.le_refl _) (by simp) ?_; (case hd => rfl); (case hg => rfl); (case hr => first | (go_simp; done) | (go_simp; rfl)); (case hp => exact (Reps.one (show Kd.M (Kd.int .u8) _ _ _ 1 [.int .u8 1] from rfl) (Reps.one (show Kd.M (Kd.int .u8) _ _ _ (((l0.length : Int)) % 256) [.int .u8 (((l0.length : Int)) % 256)] from rfl) (Reps.one (show Kd.M (Kd.int .u8) _ _ _ (((l0.length : Int) / 256) % 256) [.int .u8 (((l0.length : Int) / 256) % 256)] from rfl) (Reps.one (show Kd.M (Kd.int .u8) _ _ _ (Go.bits .xor .u8 255 (((l0.length : Int)) % 256)) [.int .u8 (Go.bits .xor .u8 255 (((l0.length : Int)) % 256))] from rfl) (Reps.one (show Kd.M (Kd.int .u8) _ _ _ (Go.bits .xor .u8 255 (((l0.length : Int) / 256) % 256)) [.int .u8 (Go.bits .xor .u8 255 (((l0.length : Int) / 256) % 256))] from rfl) (Reps.none _ _))))))); intro v257 w4 ho5 hb hg_ hnew_; clear hg_ hnew_; (first | rw [← Ny256.out] at ho5 | (simp only [Int.reduceToNat] at ho5; rw [← Ny256.out] at ho5)); have n0_ := Aside0.mk (Kd.R_lower ho5 (below_size bel_)); have n1_ := Aside0.mk (below_step bel_ hb); clear HB; have HO258 := n0_; have HB := n1_; clear n0_ n1_; clear hb ho5) | ((with_reducible refine gate_builtin (b := .append) (xs := #[.tmp 23, .tmp 24]) rfl ?_); at_builtin; refine Kd.R_append_rows (Kd.int .u8) (w0 := w) w.heap.size rfl (.tmp 23) (.tmp 24) 22 5 (.int .u8 0) 1 rfl Try.underlying22 info5 rfl (by decide) (by omega) v257 y256 l0 _ _ _ (fun _ => True) (fun _ => False) rfl rfl ?aO ?aR (fun _ _ h => h) (fun _ h => h.elim) ?aF ?aB ?aS ?aL ?_; (case aR => exact cs_ (Kd.C_below HR0.out HB.out)); (case aB => exact bel_); (case aF => exact (fun _ _ => trivial)); (case aO => exact (kdR_ HO258.out)); (case aS => exact (below_size bel_)); (case aL => have := LMc3.out; omega); intro v260 w6 ho hb hg hat; rw [← Ny259.out] at ho; have n0_ := Aside0.mk (hb); have n1_ := Aside0.mk (ho); clear HB; clear HO258; have HB := n0_; have HO261 := n1_; clear n0_ n1_; clear ho hb hg hat))
   go_ret2
   exact ⟨_, er_, by (with_reducible repeat (first | apply Kd.R_alloc | apply Kd.R_drewN | apply Kd.R_drew)); exact HO261.out, bel_⟩
  ·rw [if_neg c3] at H
   exact absurd H (by simp)

/-! ### impl_PackBest: function 14 -/
def impl_PackBest.f (k : Nat) (l0 : List Int) : Option (List Int × Bool) := (impl_PackStoredOf.f l0).bind fun bt262 => (if bt262.2 = true then ((impl_PackFixedOf.f k l0).bind fun bt266 => (if (bt266.1.length : Int) < (bt262.1.length : Int) then (some (bt266.1, true)) else (some (bt262.1, true)))) else (some (([] : List Int), false)))
set_option maxHeartbeats 8000000 in
set_option maxRecDepth 100000 in
theorem impl_PackBest.calls (k : Nat) (A0 : Option Addr) (c0 : Nat) (l0 : List Int) (r1 : List Int) (r2 : Bool) (w : World) (hr0 : Kd.C (Kd.int .u8) w A0 l0.length l0) (hc0 : l0.length ≤ c0) (h : impl_PackBest.f k l0 = some (r1, r2)) :
  Calls Try.prog 14 #[.slice A0 l0.length c0] w fun e w' => ∃ v0_ : Value, e = .returned (.tuple #[v0_, .bool r2]) ∧ Kd.R (Kd.int .u8) 5 w' w.heap.size (fun _ => True) v0_ r1 ∧ Below w.heap.size w w' := by
 have HR0 := Aside0.mk hr0
 have HC0 := Aside0.mk hc0
 clear hr0 hc0
 have HB := Aside0.mk (Below.refl w.heap.size w)
 have H : ((impl_PackStoredOf.f l0).bind fun bt262 => (if bt262.2 = true then ((impl_PackFixedOf.f k l0).bind fun bt266 => (if (bt266.1.length : Int) < (bt262.1.length : Int) then (some (bt266.1, true)) else (some (bt262.1, true)))) else (some (([] : List Int), false)))) = some (r1, r2) := h
 clear h
 replace H := Option.bind_eq_some_iff.mp H
 obtain ⟨⟨t262, t263⟩, A20, H⟩ := H
 replace H : (if t263 = true then ((impl_PackFixedOf.f k l0).bind fun bt266 => (if (bt266.1.length : Int) < (t262.length : Int) then (some (bt266.1, true)) else (some (t262, true)))) else (some (([] : List Int), false))) = some (r1, r2) := H
 have A2 := Aside0.mk A20
 clear A20
 by_cases c3 : t263 = true
 ·subst c3
  have H1 : ((impl_PackFixedOf.f k l0).bind fun bt266 => (if (bt266.1.length : Int) < (t262.length : Int) then (some (bt266.1, true)) else (some (t262, true)))) = some (r1, r2) := by rw [if_pos rfl] at H; exact H
  clear H
  have H := H1
  clear H1
  replace H := Option.bind_eq_some_iff.mp H
  obtain ⟨⟨t266, t267⟩, A40, H⟩ := H
  replace H : (if (t266.length : Int) < (t262.length : Int) then (some (t266, true)) else (some (t262, true))) = some (r1, r2) := H
  have A4 := Aside0.mk A40
  clear A40
  by_cases c5 : (t266.length : Int) < (t262.length : Int)
  ·rw [if_pos c5] at H
   have c5b0 : decide ((t266.length : Int) < (t262.length : Int)) = true := decide_eq_true c5
   have c5b1 : decide (t266.length < t262.length) = true := decide_eq_true (Int.ofNat_lt.mp c5)
   clear c5
   simp only [Option.some.injEq, Prod.mk.injEq] at H
   obtain ⟨rfl, rfl⟩ := H
   go_enter Try.func14, Try.ntmps14
   go_wp2_with (first | ((with_reducible refine gate_callee (f := 29) rfl ?_); refine goesL_ (some 10) rfl rfl Try.func29 (by kernel_rfl) rfl #[.slice A0 l0.length c0] rfl au_ ?_; (with_reducible refine (impl_PackStoredOf.calls _ _ l0 t262 true _ ?side1 ?side2 A2.out).mono ?_); (case side1 => exact cs_ HR0.out); (case side2 => exact HC0.out); rintro e w6 ⟨v264, rfl, ho0, hb⟩; refine ⟨_, rfl, ?_⟩; have n0_ := Aside0.mk (Kd.R_lower ho0 (below_size bel_)); have n1_ := Aside0.mk (below_step bel_ hb); clear HB; have HO265 := n0_; have HB := n1_; clear n0_ n1_; (try clear hb);(try clear hb2);(try clear hk);(try clear hi);(try clear ho0)) | ((with_reducible refine gate_callee (f := 9) rfl ?_); refine goesL_ (some 17) rfl rfl Try.func9 (by kernel_rfl) rfl #[.slice A0 l0.length c0] rfl au_ ?_; (with_reducible refine (impl_PackFixedOf.calls k _ _ l0 t266 t267 _ ?side1 ?side2 A4.out).mono ?_); (case side1 => exact cs_ (Kd.C_below HR0.out HB.out)); (case side2 => exact HC0.out); rintro e w7 ⟨v268, rfl, ho0, hb⟩; refine ⟨_, rfl, ?_⟩; have n0_ := Aside0.mk (Kd.R_elder' (kdR_ HO265.out) (Kd.R_base ho0) hb); have n1_ := Aside0.mk (Kd.R_lower (Kd.R_new' ho0 (Kd.R_lt (kdR_ HO265.out))) (below_size bel_)); have n2_ := Aside0.mk (below_step bel_ hb); clear HO265; clear HB; have HO265 := n0_; have HO269 := n1_; have HB := n2_; clear n0_ n1_ n2_; (try clear hb);(try clear hb2);(try clear hk);(try clear hi);(try clear ho0); obtain ⟨Ao8, co8, eo8⟩ := Kd.R_slice HO269.out; subst eo8; obtain ⟨Ao9, co9, eo9⟩ := Kd.R_slice HO265.out; subst eo9))
   go_ret2
   exact ⟨_, er_, by (with_reducible repeat (first | apply Kd.R_alloc | apply Kd.R_drewN | apply Kd.R_drew)); exact Kd.R_mono HO269.out (fun _ hk => trivial), bel_⟩
  ·rw [if_neg c5] at H
   have c5b0 : decide ((t266.length : Int) < (t262.length : Int)) = false := decide_eq_false c5
   have c5b1 : decide (t266.length < t262.length) = false := decide_eq_false (fun h => c5 (Int.ofNat_lt.mpr h))
   clear c5
   simp only [Option.some.injEq, Prod.mk.injEq] at H
   obtain ⟨rfl, rfl⟩ := H
   go_enter Try.func14, Try.ntmps14
   go_wp2_with (first | ((with_reducible refine gate_callee (f := 29) rfl ?_); refine goesL_ (some 10) rfl rfl Try.func29 (by kernel_rfl) rfl #[.slice A0 l0.length c0] rfl au_ ?_; (with_reducible refine (impl_PackStoredOf.calls _ _ l0 t262 true _ ?side1 ?side2 A2.out).mono ?_); (case side1 => exact cs_ HR0.out); (case side2 => exact HC0.out); rintro e w10 ⟨v264, rfl, ho0, hb⟩; refine ⟨_, rfl, ?_⟩; have n0_ := Aside0.mk (Kd.R_lower ho0 (below_size bel_)); have n1_ := Aside0.mk (below_step bel_ hb); clear HB; have HO265 := n0_; have HB := n1_; clear n0_ n1_; (try clear hb);(try clear hb2);(try clear hk);(try clear hi);(try clear ho0)) | ((with_reducible refine gate_callee (f := 9) rfl ?_); refine goesL_ (some 17) rfl rfl Try.func9 (by kernel_rfl) rfl #[.slice A0 l0.length c0] rfl au_ ?_; (with_reducible refine (impl_PackFixedOf.calls k _ _ l0 t266 t267 _ ?side1 ?side2 A4.out).mono ?_); (case side1 => exact cs_ (Kd.C_below HR0.out HB.out)); (case side2 => exact HC0.out); rintro e w11 ⟨v268, rfl, ho0, hb⟩; refine ⟨_, rfl, ?_⟩; have n0_ := Aside0.mk (Kd.R_elder' (kdR_ HO265.out) (Kd.R_base ho0) hb); have n1_ := Aside0.mk (Kd.R_lower (Kd.R_new' ho0 (Kd.R_lt (kdR_ HO265.out))) (below_size bel_)); have n2_ := Aside0.mk (below_step bel_ hb); clear HO265; clear HB; have HO265 := n0_; have HO269 := n1_; have HB := n2_; clear n0_ n1_ n2_; (try clear hb);(try clear hb2);(try clear hk);(try clear hi);(try clear ho0); obtain ⟨Ao12, co12, eo12⟩ := Kd.R_slice HO269.out; subst eo12; obtain ⟨Ao13, co13, eo13⟩ := Kd.R_slice HO265.out; subst eo13))
   go_ret2
   exact ⟨_, er_, by (with_reducible repeat (first | apply Kd.R_alloc | apply Kd.R_drewN | apply Kd.R_drew)); exact Kd.R_mono HO265.out (fun _ hk => trivial), bel_⟩
 ·replace c3 := Bool.eq_false_iff.mpr c3
  subst c3
  have H1 : (some (([] : List Int), false)) = some (r1, r2) := by rw [if_neg (show ¬ (false = true) by decide)] at H; exact H
  clear H
  have H := H1
  clear H1
  simp only [Option.some.injEq, Prod.mk.injEq] at H
  obtain ⟨rfl, rfl⟩ := H
  go_enter Try.func14, Try.ntmps14
  go_wp2_with (first | ((with_reducible refine gate_callee (f := 29) rfl ?_); refine goesL_ (some 10) rfl rfl Try.func29 (by kernel_rfl) rfl #[.slice A0 l0.length c0] rfl au_ ?_; (with_reducible refine (impl_PackStoredOf.calls _ _ l0 t262 false _ ?side1 ?side2 A2.out).mono ?_); (case side1 => exact cs_ HR0.out); (case side2 => exact HC0.out); rintro e w14 ⟨v264, rfl, ho0, hb⟩; refine ⟨_, rfl, ?_⟩; have n0_ := Aside0.mk (Kd.R_lower ho0 (below_size bel_)); have n1_ := Aside0.mk (below_step bel_ hb); clear HB; have HO265 := n0_; have HB := n1_; clear n0_ n1_; (try clear hb);(try clear hb2);(try clear hk);(try clear hi);(try clear ho0)))
  go_ret2
  exact ⟨_, er_, by first | exact Kd.R_nil _ _ _ _ _ | exact Kd.N_nil _ _ _ _ _ | exact Kd.V_nil _ _ _ _ _ | exact Kd.Q_nil _ _ _ _ _ | exact Kd.S_nil _ _ _ _ _, bel_⟩

/-! ### impl_guess: function 60 -/
def impl_guess.j0 : Nat → Int → Int → Int → Int → Int → Bool → Option (Int)
 | 0, _, _, _, _, _, _ => none
 | k + 1, x1, x2, x3, x14, x15, x66 => if x66 = true then (some x1) else (if x14 ≤ x15 then (some x2) else (some x3))
def impl_guess.f (k : Nat) (a0 : Int) (a1 : Int) (a2 : Int) (a3 : Int) : Option (Int) := if a0 = 1 then (some a1) else (if a0 = 2 then (some a2) else (if a0 = 3 then (some ((wrap64 (Int.tdiv (wrap64 ((wrap64 (a1)) + (wrap64 (a2)))) 2)) % 256)) else (if a0 = 4 then (if (mx (wrap64 ((wrap64 ((wrap64 ((wrap64 (a1)) + (wrap64 (a2)))) - (wrap64 (a3)))) - (wrap64 (a1)))) (wrap64 ((wrap64 (a1)) - (wrap64 ((wrap64 ((wrap64 (a1)) + (wrap64 (a2)))) - (wrap64 (a3))))))) ≤ (mx (wrap64 ((wrap64 ((wrap64 ((wrap64 (a1)) + (wrap64 (a2)))) - (wrap64 (a3)))) - (wrap64 (a2)))) (wrap64 ((wrap64 (a2)) - (wrap64 ((wrap64 ((wrap64 (a1)) + (wrap64 (a2)))) - (wrap64 (a3))))))) then (impl_guess.j0 k a1 a2 a3 (mx (wrap64 ((wrap64 ((wrap64 ((wrap64 (a1)) + (wrap64 (a2)))) - (wrap64 (a3)))) - (wrap64 (a2)))) (wrap64 ((wrap64 (a2)) - (wrap64 ((wrap64 ((wrap64 (a1)) + (wrap64 (a2)))) - (wrap64 (a3))))))) (mx (wrap64 ((wrap64 ((wrap64 ((wrap64 (a1)) + (wrap64 (a2)))) - (wrap64 (a3)))) - (wrap64 (a3)))) (wrap64 ((wrap64 (a3)) - (wrap64 ((wrap64 ((wrap64 (a1)) + (wrap64 (a2)))) - (wrap64 (a3))))))) (decide ((mx (wrap64 ((wrap64 ((wrap64 ((wrap64 (a1)) + (wrap64 (a2)))) - (wrap64 (a3)))) - (wrap64 (a1)))) (wrap64 ((wrap64 (a1)) - (wrap64 ((wrap64 ((wrap64 (a1)) + (wrap64 (a2)))) - (wrap64 (a3))))))) ≤ (mx (wrap64 ((wrap64 ((wrap64 ((wrap64 (a1)) + (wrap64 (a2)))) - (wrap64 (a3)))) - (wrap64 (a3)))) (wrap64 ((wrap64 (a3)) - (wrap64 ((wrap64 ((wrap64 (a1)) + (wrap64 (a2)))) - (wrap64 (a3)))))))))) else (impl_guess.j0 k a1 a2 a3 (mx (wrap64 ((wrap64 ((wrap64 ((wrap64 (a1)) + (wrap64 (a2)))) - (wrap64 (a3)))) - (wrap64 (a2)))) (wrap64 ((wrap64 (a2)) - (wrap64 ((wrap64 ((wrap64 (a1)) + (wrap64 (a2)))) - (wrap64 (a3))))))) (mx (wrap64 ((wrap64 ((wrap64 ((wrap64 (a1)) + (wrap64 (a2)))) - (wrap64 (a3)))) - (wrap64 (a3)))) (wrap64 ((wrap64 (a3)) - (wrap64 ((wrap64 ((wrap64 (a1)) + (wrap64 (a2)))) - (wrap64 (a3))))))) false)) else (some 0))))
set_option maxHeartbeats 8000000 in
set_option maxRecDepth 100000 in
theorem impl_guess.calls (k : Nat) (a0 : Int) (a1 : Int) (a2 : Int) (a3 : Int) (r : Int) (w : World) (h : impl_guess.f k a0 a1 a2 a3 = some r) :
  Calls Try.prog 60 #[.int .i64 a0, .int .u8 a1, .int .u8 a2, .int .u8 a3] w fun e w' => e = .returned (.int .u8 r) ∧ Below w.heap.size w w' := by
 have HB := Aside0.mk (Below.refl w.heap.size w)
 have H : (if a0 = 1 then (some a1) else (if a0 = 2 then (some a2) else (if a0 = 3 then (some ((wrap64 (Int.tdiv (wrap64 ((wrap64 (a1)) + (wrap64 (a2)))) 2)) % 256)) else (if a0 = 4 then (if (mx (wrap64 ((wrap64 ((wrap64 ((wrap64 (a1)) + (wrap64 (a2)))) - (wrap64 (a3)))) - (wrap64 (a1)))) (wrap64 ((wrap64 (a1)) - (wrap64 ((wrap64 ((wrap64 (a1)) + (wrap64 (a2)))) - (wrap64 (a3))))))) ≤ (mx (wrap64 ((wrap64 ((wrap64 ((wrap64 (a1)) + (wrap64 (a2)))) - (wrap64 (a3)))) - (wrap64 (a2)))) (wrap64 ((wrap64 (a2)) - (wrap64 ((wrap64 ((wrap64 (a1)) + (wrap64 (a2)))) - (wrap64 (a3))))))) then (impl_guess.j0 k a1 a2 a3 (mx (wrap64 ((wrap64 ((wrap64 ((wrap64 (a1)) + (wrap64 (a2)))) - (wrap64 (a3)))) - (wrap64 (a2)))) (wrap64 ((wrap64 (a2)) - (wrap64 ((wrap64 ((wrap64 (a1)) + (wrap64 (a2)))) - (wrap64 (a3))))))) (mx (wrap64 ((wrap64 ((wrap64 ((wrap64 (a1)) + (wrap64 (a2)))) - (wrap64 (a3)))) - (wrap64 (a3)))) (wrap64 ((wrap64 (a3)) - (wrap64 ((wrap64 ((wrap64 (a1)) + (wrap64 (a2)))) - (wrap64 (a3))))))) (decide ((mx (wrap64 ((wrap64 ((wrap64 ((wrap64 (a1)) + (wrap64 (a2)))) - (wrap64 (a3)))) - (wrap64 (a1)))) (wrap64 ((wrap64 (a1)) - (wrap64 ((wrap64 ((wrap64 (a1)) + (wrap64 (a2)))) - (wrap64 (a3))))))) ≤ (mx (wrap64 ((wrap64 ((wrap64 ((wrap64 (a1)) + (wrap64 (a2)))) - (wrap64 (a3)))) - (wrap64 (a3)))) (wrap64 ((wrap64 (a3)) - (wrap64 ((wrap64 ((wrap64 (a1)) + (wrap64 (a2)))) - (wrap64 (a3)))))))))) else (impl_guess.j0 k a1 a2 a3 (mx (wrap64 ((wrap64 ((wrap64 ((wrap64 (a1)) + (wrap64 (a2)))) - (wrap64 (a3)))) - (wrap64 (a2)))) (wrap64 ((wrap64 (a2)) - (wrap64 ((wrap64 ((wrap64 (a1)) + (wrap64 (a2)))) - (wrap64 (a3))))))) (mx (wrap64 ((wrap64 ((wrap64 ((wrap64 (a1)) + (wrap64 (a2)))) - (wrap64 (a3)))) - (wrap64 (a3)))) (wrap64 ((wrap64 (a3)) - (wrap64 ((wrap64 ((wrap64 (a1)) + (wrap64 (a2)))) - (wrap64 (a3))))))) false)) else (some 0))))) = some r := h
 clear h
 by_cases c5 : a0 = 1
 ·rw [if_pos c5] at H
  have c5b0 : (a0 == 1) = true := beq_iff_eq.mpr c5
  have c5b1 : (a0 != 1) = false := bne_eq_false_iff_eq.mpr c5
  clear c5
  obtain rfl := Option.some.inj H
  go_enter Try.func60, Try.ntmps60
  go_wp2
  go_ret
  exact ⟨er_, bel_⟩
 ·rw [if_neg c5] at H
  have c5b0 : (a0 == 1) = false := beq_eq_false_iff_ne.mpr c5
  have c5b1 : (a0 != 1) = true := bne_iff_ne.mpr c5
  by_cases c6 : a0 = 2
  ·rw [if_pos c6] at H
   have c6b0 : (a0 == 2) = true := beq_iff_eq.mpr c6
   have c6b1 : (a0 != 2) = false := bne_eq_false_iff_eq.mpr c6
   clear c6
   obtain rfl := Option.some.inj H
   go_enter Try.func60, Try.ntmps60
   go_wp2
   go_ret
   exact ⟨er_, bel_⟩
  ·rw [if_neg c6] at H
   have c6b0 : (a0 == 2) = false := beq_eq_false_iff_ne.mpr c6
   have c6b1 : (a0 != 2) = true := bne_iff_ne.mpr c6
   by_cases c7 : a0 = 3
   ·rw [if_pos c7] at H
    have c7b0 : (a0 == 3) = true := beq_iff_eq.mpr c7
    have c7b1 : (a0 != 3) = false := bne_eq_false_iff_eq.mpr c7
    clear c7
    obtain rfl := Option.some.inj H
    go_enter Try.func60, Try.ntmps60
    go_wp2
    go_ret
    exact ⟨er_, bel_⟩
   ·rw [if_neg c7] at H
    have c7b0 : (a0 == 3) = false := beq_eq_false_iff_ne.mpr c7
    have c7b1 : (a0 != 3) = true := bne_iff_ne.mpr c7
    by_cases c8 : a0 = 4
    ·rw [if_pos c8] at H
     have c8b0 : (a0 == 4) = true := beq_iff_eq.mpr c8
     have c8b1 : (a0 != 4) = false := bne_eq_false_iff_eq.mpr c8
     clear c8
     obtain ⟨ji9, hji9⟩ : ∃ j_ : Int, (mx (wrap64 ((wrap64 ((wrap64 ((wrap64 (a1)) + (wrap64 (a2)))) - (wrap64 (a3)))) - (wrap64 (a1)))) (wrap64 ((wrap64 (a1)) - (wrap64 ((wrap64 ((wrap64 (a1)) + (wrap64 (a2)))) - (wrap64 (a3))))))) = j_ := ⟨_, rfl⟩
     replace H : (if (ji9) ≤ (mx (wrap64 ((wrap64 ((wrap64 ((wrap64 (a1)) + (wrap64 (a2)))) - (wrap64 (a3)))) - (wrap64 (a2)))) (wrap64 ((wrap64 (a2)) - (wrap64 ((wrap64 ((wrap64 (a1)) + (wrap64 (a2)))) - (wrap64 (a3))))))) then (impl_guess.j0 k a1 a2 a3 (mx (wrap64 ((wrap64 ((wrap64 ((wrap64 (a1)) + (wrap64 (a2)))) - (wrap64 (a3)))) - (wrap64 (a2)))) (wrap64 ((wrap64 (a2)) - (wrap64 ((wrap64 ((wrap64 (a1)) + (wrap64 (a2)))) - (wrap64 (a3))))))) (mx (wrap64 ((wrap64 ((wrap64 ((wrap64 (a1)) + (wrap64 (a2)))) - (wrap64 (a3)))) - (wrap64 (a3)))) (wrap64 ((wrap64 (a3)) - (wrap64 ((wrap64 ((wrap64 (a1)) + (wrap64 (a2)))) - (wrap64 (a3))))))) (decide ((ji9) ≤ (mx (wrap64 ((wrap64 ((wrap64 ((wrap64 (a1)) + (wrap64 (a2)))) - (wrap64 (a3)))) - (wrap64 (a3)))) (wrap64 ((wrap64 (a3)) - (wrap64 ((wrap64 ((wrap64 (a1)) + (wrap64 (a2)))) - (wrap64 (a3)))))))))) else (impl_guess.j0 k a1 a2 a3 (mx (wrap64 ((wrap64 ((wrap64 ((wrap64 (a1)) + (wrap64 (a2)))) - (wrap64 (a3)))) - (wrap64 (a2)))) (wrap64 ((wrap64 (a2)) - (wrap64 ((wrap64 ((wrap64 (a1)) + (wrap64 (a2)))) - (wrap64 (a3))))))) (mx (wrap64 ((wrap64 ((wrap64 ((wrap64 (a1)) + (wrap64 (a2)))) - (wrap64 (a3)))) - (wrap64 (a3)))) (wrap64 ((wrap64 (a3)) - (wrap64 ((wrap64 ((wrap64 (a1)) + (wrap64 (a2)))) - (wrap64 (a3))))))) false)) = some r := by first | (rw [hji9] at H; exact H) | (simp only [hji9] at H ⊢; exact H)
     have hji9_ : (if (wrap64 ((wrap64 ((wrap64 ((wrap64 (a1)) + (wrap64 (a2)))) - (wrap64 (a3)))) - (wrap64 (a1)))) < (wrap64 ((wrap64 (a1)) - (wrap64 ((wrap64 ((wrap64 (a1)) + (wrap64 (a2)))) - (wrap64 (a3)))))) then (wrap64 ((wrap64 (a1)) - (wrap64 ((wrap64 ((wrap64 (a1)) + (wrap64 (a2)))) - (wrap64 (a3)))))) else (wrap64 ((wrap64 ((wrap64 ((wrap64 (a1)) + (wrap64 (a2)))) - (wrap64 (a3)))) - (wrap64 (a1))))) = ji9 := hji9
     obtain ⟨ji10, hji10⟩ : ∃ j_ : Int, (mx (wrap64 ((wrap64 ((wrap64 ((wrap64 (a1)) + (wrap64 (a2)))) - (wrap64 (a3)))) - (wrap64 (a2)))) (wrap64 ((wrap64 (a2)) - (wrap64 ((wrap64 ((wrap64 (a1)) + (wrap64 (a2)))) - (wrap64 (a3))))))) = j_ := ⟨_, rfl⟩
     replace H : (if (ji9) ≤ (ji10) then (impl_guess.j0 k a1 a2 a3 ji10 (mx (wrap64 ((wrap64 ((wrap64 ((wrap64 (a1)) + (wrap64 (a2)))) - (wrap64 (a3)))) - (wrap64 (a3)))) (wrap64 ((wrap64 (a3)) - (wrap64 ((wrap64 ((wrap64 (a1)) + (wrap64 (a2)))) - (wrap64 (a3))))))) (decide ((ji9) ≤ (mx (wrap64 ((wrap64 ((wrap64 ((wrap64 (a1)) + (wrap64 (a2)))) - (wrap64 (a3)))) - (wrap64 (a3)))) (wrap64 ((wrap64 (a3)) - (wrap64 ((wrap64 ((wrap64 (a1)) + (wrap64 (a2)))) - (wrap64 (a3)))))))))) else (impl_guess.j0 k a1 a2 a3 ji10 (mx (wrap64 ((wrap64 ((wrap64 ((wrap64 (a1)) + (wrap64 (a2)))) - (wrap64 (a3)))) - (wrap64 (a3)))) (wrap64 ((wrap64 (a3)) - (wrap64 ((wrap64 ((wrap64 (a1)) + (wrap64 (a2)))) - (wrap64 (a3))))))) false)) = some r := by first | (rw [hji10] at H; exact H) | (simp only [hji10] at H ⊢; exact H)
     have hji10_ : (if (wrap64 ((wrap64 ((wrap64 ((wrap64 (a1)) + (wrap64 (a2)))) - (wrap64 (a3)))) - (wrap64 (a2)))) < (wrap64 ((wrap64 (a2)) - (wrap64 ((wrap64 ((wrap64 (a1)) + (wrap64 (a2)))) - (wrap64 (a3)))))) then (wrap64 ((wrap64 (a2)) - (wrap64 ((wrap64 ((wrap64 (a1)) + (wrap64 (a2)))) - (wrap64 (a3)))))) else (wrap64 ((wrap64 ((wrap64 ((wrap64 (a1)) + (wrap64 (a2)))) - (wrap64 (a3)))) - (wrap64 (a2))))) = ji10 := hji10
     obtain ⟨ji11, hji11⟩ : ∃ j_ : Int, (mx (wrap64 ((wrap64 ((wrap64 ((wrap64 (a1)) + (wrap64 (a2)))) - (wrap64 (a3)))) - (wrap64 (a3)))) (wrap64 ((wrap64 (a3)) - (wrap64 ((wrap64 ((wrap64 (a1)) + (wrap64 (a2)))) - (wrap64 (a3))))))) = j_ := ⟨_, rfl⟩
     replace H : (if (ji9) ≤ (ji10) then (impl_guess.j0 k a1 a2 a3 ji10 ji11 (decide ((ji9) ≤ (ji11)))) else (impl_guess.j0 k a1 a2 a3 ji10 ji11 false)) = some r := by first | (rw [hji11] at H; exact H) | (simp only [hji11] at H ⊢; exact H)
     have hji11_ : (if (wrap64 ((wrap64 ((wrap64 ((wrap64 (a1)) + (wrap64 (a2)))) - (wrap64 (a3)))) - (wrap64 (a3)))) < (wrap64 ((wrap64 (a3)) - (wrap64 ((wrap64 ((wrap64 (a1)) + (wrap64 (a2)))) - (wrap64 (a3)))))) then (wrap64 ((wrap64 (a3)) - (wrap64 ((wrap64 ((wrap64 (a1)) + (wrap64 (a2)))) - (wrap64 (a3)))))) else (wrap64 ((wrap64 ((wrap64 ((wrap64 (a1)) + (wrap64 (a2)))) - (wrap64 (a3)))) - (wrap64 (a3))))) = ji11 := hji11
     have HC12 := Aside0.mk H
     clear H
     go_enter Try.func60, Try.ntmps60
     go_upto_region 12 with (fail)
     go_cut [66] (fun v66 wc => ∃ (kq : Nat) (x66_11 : Bool), v66 = .bool x66_11 ∧ Aside0 (impl_guess.j0 kq a1 a2 a3 ji10 ji11 x66_11 = some r) ∧ Aside0 (kq ≤ k) ∧ Aside0 (Below w.heap.size w wc))
     case first =>
      have H := HC12.out
      clear HC12
      by_cases c13 : (ji9) ≤ (ji10)
      ·rw [if_pos c13] at H
       have c13b0 : decide ((ji9) ≤ (ji10)) = true := decide_eq_true c13
       clear c13
       (first | rw [c13b0] | (simp only [i64_w, i32_w]; rw [c13b0]) | skip)
       have H' := Aside0.mk H
       clear H
       go_wp2
       go_meet
       case rel => exact ⟨_, (decide ((ji9) ≤ (ji11))), (by first | rfl | (simp; done) | (simp only [← hji9, ← hji11] <;> (first | rfl | simp)) | (simp [*]; done)), H', ⟨by first | omega | exact Nat.le_refl _⟩, ⟨bel_⟩⟩
      ·rw [if_neg c13] at H
       have c13b0 : decide ((ji9) ≤ (ji10)) = false := decide_eq_false c13
       clear c13
       (first | rw [c13b0] | (simp only [i64_w, i32_w]; rw [c13b0]) | skip)
       have H' := Aside0.mk H
       clear H
       go_wp2
       go_meet
       case rel => exact ⟨_, (false), sv_, H', ⟨by first | omega | exact Nat.le_refl _⟩, ⟨bel_⟩⟩
     case rest =>
      clear HC12
      (try clear c1);(try clear p2);(try clear c5);(try clear c5b0 c5b1);(try clear c6);(try clear c6b0 c6b1);(try clear p6);(try clear c7);(try clear c7b0 c7b1);(try clear c8);(try clear c8b0 c8b1);(try clear c13);(try clear c13b0)
      obtain ⟨kq, x66_11, rfl, HA, HJ11, HB⟩ := hcut
      cases kq with
      | zero => exact absurd HA.out (by simp [impl_guess.j0])
      | succ kj11 =>
       have H := HA.out
       clear HA
       simp only [impl_guess.j0] at H
       by_cases c14 : x66_11 = true
       ·subst c14
        have H1 : (some a1) = some r := by rw [if_pos rfl] at H; exact H
        clear H
        have H := H1
        clear H1
        obtain rfl := Option.some.inj H
        go_wp2
        go_ret
        exact ⟨by first | rfl | (simp [errW_none, errW_some] <;> rfl) | (simp only [← hji9, ← hji10, ← hji11]; first | rfl | (simp [errW_none, errW_some] <;> rfl)) | (simp [*, errW_none, errW_some] <;> rfl), bel_⟩
       ·replace c14 := Bool.eq_false_iff.mpr c14
        subst c14
        have H1 : (if ji10 ≤ ji11 then (some a2) else (some a3)) = some r := by rw [if_neg (show ¬ (false = true) by decide)] at H; exact H
        clear H
        have H := H1
        clear H1
        by_cases c15 : ji10 ≤ ji11
        ·rw [if_pos c15] at H
         have c15b0 : decide (ji10 ≤ ji11) = true := decide_eq_true c15
         clear c15
         obtain rfl := Option.some.inj H
         go_wp2
         go_ret
         exact ⟨by first | rfl | (simp [errW_none, errW_some] <;> rfl) | (simp only [← hji9, ← hji10, ← hji11]; first | rfl | (simp [errW_none, errW_some] <;> rfl)) | (simp [*, errW_none, errW_some] <;> rfl), bel_⟩
        ·rw [if_neg c15] at H
         have c15b0 : decide (ji10 ≤ ji11) = false := decide_eq_false c15
         clear c15
         obtain rfl := Option.some.inj H
         go_wp2
         go_ret
         exact ⟨by first | rfl | (simp [errW_none, errW_some] <;> rfl) | (simp only [← hji9, ← hji10, ← hji11]; first | rfl | (simp [errW_none, errW_some] <;> rfl)) | (simp [*, errW_none, errW_some] <;> rfl), bel_⟩
    ·rw [if_neg c8] at H
     have c8b0 : (a0 == 4) = false := beq_eq_false_iff_ne.mpr c8
     have c8b1 : (a0 != 4) = true := bne_iff_ne.mpr c8
     obtain rfl := Option.some.inj H
     go_enter Try.func60, Try.ntmps60
     go_wp2
     go_ret
     exact ⟨er_, bel_⟩

end Go.Proofs.Ytfogfjmkngoegaa.PFnExactEncodePng
