-- Laid by a program of this session out of the translation (its own run of the print). Lean checks it.
import Derived.Test.YtooilehdljeepaaDoorPFnExactReadSheetx0
import Derived.Test.YtooilehdljeepaaDoorPFnExactReadSheetx5
import Derived.Test.YtooilehdljeepaaDoorPFnExactReadSheetx6
import Derived.Test.YtooilehdljeepaaDoorPFnExactReadSheetx9
import Derived.Test.YtooilehdljeepaaDoorPFnExactReadSheetx10
import Derived.Test.YtooilehdljeepaaDoorPFnExactReadSheetx12
import Derived.Test.YtooilehdljeepaaDoorPFnExactReadSheetx13
import Derived.Test.YtooilehdljeepaaDoorPFnExactReadSheetx16
import Derived.Test.YtooilehdljeepaaDoorPFnExactReadSheetx17
namespace Go.Proofs.YtooilehdljeepaaDoor.PFnExactReadSheet
open Go.RowKit Go.Proofs.YtooilehdljeepaaDoorW.PrintWords Go.Proofs.YtooilehdljeepaaDoorW.PrintLast Go.Proofs.YtooilehdljeepaaDoorW.PrintMore
attribute [local go_sem] max2_int min2_int max_two min_two max_three min_three max_four min_four   -- for this text's walks alone
set_option linter.unusedVariables false
set_option linter.unusedSimpArgs false

/-! ### laws_heldRuleS: function 24 -/
def laws_heldRuleS.l0 : Nat → List (S90) → Int → Int → Option (Int)
 | 0, _, _, _ => none
 | k + 1, x0, x1, x5 => if x5 < (x0.length : Int) then (if 0 ≤ x5 then ((laws_heldPartSS.f k ((rd_T90 x0 x5).f0) x1).bind fun t314 => (if t314 < 0 then (some (-1)) else ((laws_heldDeclS.f k ((rd_T90 x0 x5).f1) t314).bind fun t316 => (if t316 < 0 then (some (-1)) else (laws_heldRuleS.l0 k x0 t316 (wrap64 (x5 + 1))))))) else (none)) else (some x1)
def laws_heldRuleS.f (k : Nat) (l0 : List (S90)) (a1 : Int) : Option (Int) := laws_heldRuleS.l0 k l0 a1 0
set_option maxHeartbeats 8000000 in
set_option maxRecDepth 100000 in
theorem laws_heldRuleS.calls (k : Nat) (A0 : Option Addr) (c0 : Nat) (l0 : List (S90)) (a1 : Int) (r : Int) (w : World) (hr0 : Kd.C k90 w A0 l0.length l0) (hc0 : l0.length ≤ c0) (h : laws_heldRuleS.f k l0 a1 = some r) :
  Calls Tryd.prog 24 #[.slice A0 l0.length c0, .int .i64 a1] w fun e w' => e = .returned (.int .i64 r) ∧ Below w.heap.size w w' := by
 have HR0 := Aside0.mk hr0
 have HC0 := Aside0.mk hc0
 clear hr0 hc0
 have HB := Aside0.mk (Below.refl w.heap.size w)
 have H : (laws_heldRuleS.l0 k l0 a1 0) = some r := h
 clear h
 have H' := Aside0.mk H
 clear H
 go_enter Tryd.func24, Tryd.ntmps24
 go_wp2
 go_loopg [1, 5] k (fun kq v1 v5 w' => ∃ (x1_1 : Int) (x5_1 : Int), v1 = .int .i64 x1_1 ∧ v5 = .int .i64 x5_1 ∧ Aside0 (laws_heldRuleS.l0 kq l0 x1_1 x5_1 = some r) ∧ Aside0 (kq ≤ k) ∧ Aside0 (Below w.heap.size w w'))
 case atStart => exact ⟨(a1), (0), sv_, sv_, H', ⟨Nat.le_refl _⟩, ⟨bel_⟩⟩
 case round =>
  clear H'
  (try clear c2);(try clear p2)
  obtain ⟨x1_1, x5_1, rfl, rfl, HA, HK1, HB⟩ := hrel
  cases gk with
  | zero => exact absurd HA.out (by simp [laws_heldRuleS.l0])
  | succ k1 =>
   have H := HA.out
   clear HA
   simp only [laws_heldRuleS.l0] at H
   by_cases c3 : x5_1 < (l0.length : Int)
   ·rw [if_pos c3] at H
    have c3b0 : decide (x5_1 < (l0.length : Int)) = true := decide_eq_true c3
    clear c3
    by_cases c4 : 0 ≤ x5_1
    ·rw [if_pos c4] at H
     have c4b0 : decide (0 ≤ x5_1) = true := decide_eq_true c4
     clear c4
     replace H := Option.bind_eq_some_iff.mp H
     obtain ⟨t314, A50, H⟩ := H
     replace H : (if t314 < 0 then (some (-1)) else ((laws_heldDeclS.f k1 ((rd_T90 l0 x5_1).f1) t314).bind fun t316 => (if t316 < 0 then (some (-1)) else (laws_heldRuleS.l0 k1 l0 t316 (wrap64 (x5_1 + 1)))))) = some r := H
     have A5 := Aside0.mk A50
     clear A50
     by_cases c6 : t314 < 0
     ·rw [if_pos c6] at H
      have c6b0 : decide (t314 < 0) = true := decide_eq_true c6
      clear c6
      obtain rfl := Option.some.inj H
      have p313 : 0 ≤ (x5_1 : Int) := of_decide_eq_true am_
      have q313 : x5_1 < (l0.length : Int) := of_decide_eq_true am_
      obtain ⟨ad313, A313_0, c313_0, A313_1, c313_1, e313, hx313_0, hx313_1, hl313_0, hi313_0, hl313_1, hi313_1⟩ := at_T90 HR0.out x5_1 p313 q313
      cases e313
      replace hx313_0 := pw_cell_below HB.out hx313_0
      replace hx313_1 := pw_cell_below HB.out hx313_1
      have HR313_0 := Aside0.mk hi313_0
      have HC313_0 := Aside0.mk hl313_0
      clear hi313_0 hl313_0
      have HR313_1 := Aside0.mk hi313_1
      have HC313_1 := Aside0.mk hl313_1
      clear hi313_1 hl313_1
      replace p313 := eq_true p313
      replace q313 := eq_true q313
      go_wp2_with (first | ((with_reducible refine gate_callee (f := 59) rfl ?_); refine goesL_ (some 18) rfl rfl Tryd.func59 (by kernel_rfl) rfl #[.slice A313_0 ((rd_T90 l0 x5_1).f0).length c313_0, .int .i64 x1_1] rfl au_ ?_; (with_reducible refine (laws_heldPartSS.calls k1 _ _ ((rd_T90 l0 x5_1).f0) x1_1 t314 _ ?side1 ?side2 A5.out).mono ?_); (case side1 => exact cs_ (Kd.C_below HR313_0.out HB.out)); (case side2 => exact HC313_0.out); rintro e w7 ⟨rfl, hb⟩; refine ⟨_, rfl, ?_⟩; have n0_ := Aside0.mk (below_step bel_ hb); clear HB; have HB := n0_; clear n0_; (try clear hb);(try clear hb2);(try clear hk);(try clear hi)))
      go_ret
      exact ⟨er_, bel_⟩
     ·rw [if_neg c6] at H
      have c6b0 : decide (t314 < 0) = false := decide_eq_false c6
      clear c6
      replace H := Option.bind_eq_some_iff.mp H
      obtain ⟨t316, A80, H⟩ := H
      replace H : (if t316 < 0 then (some (-1)) else (laws_heldRuleS.l0 k1 l0 t316 (wrap64 (x5_1 + 1)))) = some r := H
      have A8 := Aside0.mk A80
      clear A80
      by_cases c9 : t316 < 0
      ·rw [if_pos c9] at H
       have c9b0 : decide (t316 < 0) = true := decide_eq_true c9
       clear c9
       obtain rfl := Option.some.inj H
       have p313 : 0 ≤ (x5_1 : Int) := of_decide_eq_true am_
       have q313 : x5_1 < (l0.length : Int) := of_decide_eq_true am_
       obtain ⟨ad313, A313_0, c313_0, A313_1, c313_1, e313, hx313_0, hx313_1, hl313_0, hi313_0, hl313_1, hi313_1⟩ := at_T90 HR0.out x5_1 p313 q313
       cases e313
       replace hx313_0 := pw_cell_below HB.out hx313_0
       replace hx313_1 := pw_cell_below HB.out hx313_1
       have HR313_0 := Aside0.mk hi313_0
       have HC313_0 := Aside0.mk hl313_0
       clear hi313_0 hl313_0
       have HR313_1 := Aside0.mk hi313_1
       have HC313_1 := Aside0.mk hl313_1
       clear hi313_1 hl313_1
       replace p313 := eq_true p313
       replace q313 := eq_true q313
       go_wp2_with (first | ((with_reducible refine gate_callee (f := 59) rfl ?_); refine goesL_ (some 18) rfl rfl Tryd.func59 (by kernel_rfl) rfl #[.slice A313_0 ((rd_T90 l0 x5_1).f0).length c313_0, .int .i64 x1_1] rfl au_ ?_; (with_reducible refine (laws_heldPartSS.calls k1 _ _ ((rd_T90 l0 x5_1).f0) x1_1 t314 _ ?side1 ?side2 A5.out).mono ?_); (case side1 => exact cs_ (Kd.C_below HR313_0.out HB.out)); (case side2 => exact HC313_0.out); rintro e w10 ⟨rfl, hb⟩; refine ⟨_, rfl, ?_⟩; have n0_ := Aside0.mk (below_step bel_ hb); clear HB; have HB := n0_; clear n0_; (try clear hb);(try clear hb2);(try clear hk);(try clear hi); have p315 : 0 ≤ (x5_1 : Int) := of_decide_eq_true am_; have q315 : x5_1 < (l0.length : Int) := of_decide_eq_true am_; obtain ⟨ad315, A315_0, c315_0, A315_1, c315_1, e315, hx315_0, hx315_1, hl315_0, hi315_0, hl315_1, hi315_1⟩ := at_T90 HR0.out x5_1 p315 q315; obtain rfl : ad313 = ad315 := (by injection e315); replace hx315_0 := pw_cell_below HB.out hx315_0; replace hx315_1 := pw_cell_below HB.out hx315_1; have HR315_0 := Aside0.mk hi315_0; have HC315_0 := Aside0.mk hl315_0; clear hi315_0 hl315_0; have HR315_1 := Aside0.mk hi315_1; have HC315_1 := Aside0.mk hl315_1; clear hi315_1 hl315_1; replace p315 := eq_true p315; replace q315 := eq_true q315) | ((with_reducible refine gate_callee (f := 60) rfl ?_); refine goesL_ (some 27) rfl rfl Tryd.func60 (by kernel_rfl) rfl #[.slice A315_1 ((rd_T90 l0 x5_1).f1).length c315_1, .int .i64 t314] rfl au_ ?_; (with_reducible refine (laws_heldDeclS.calls k1 _ _ ((rd_T90 l0 x5_1).f1) t314 t316 _ ?side1 ?side2 A8.out).mono ?_); (case side1 => exact cs_ (Kd.C_below HR315_1.out HB.out)); (case side2 => exact HC315_1.out); rintro e w11 ⟨rfl, hb⟩; refine ⟨_, rfl, ?_⟩; have n0_ := Aside0.mk (below_step bel_ hb); clear HB; have HB := n0_; clear n0_; (try clear hb);(try clear hb2);(try clear hk);(try clear hi)))
       go_ret
       exact ⟨er_, bel_⟩
      ·rw [if_neg c9] at H
       have c9b0 : decide (t316 < 0) = false := decide_eq_false c9
       clear c9
       have H' := Aside0.mk H
       clear H
       have p313 : 0 ≤ (x5_1 : Int) := of_decide_eq_true am_
       have q313 : x5_1 < (l0.length : Int) := of_decide_eq_true am_
       obtain ⟨ad313, A313_0, c313_0, A313_1, c313_1, e313, hx313_0, hx313_1, hl313_0, hi313_0, hl313_1, hi313_1⟩ := at_T90 HR0.out x5_1 p313 q313
       cases e313
       replace hx313_0 := pw_cell_below HB.out hx313_0
       replace hx313_1 := pw_cell_below HB.out hx313_1
       have HR313_0 := Aside0.mk hi313_0
       have HC313_0 := Aside0.mk hl313_0
       clear hi313_0 hl313_0
       have HR313_1 := Aside0.mk hi313_1
       have HC313_1 := Aside0.mk hl313_1
       clear hi313_1 hl313_1
       replace p313 := eq_true p313
       replace q313 := eq_true q313
       go_wp2_with (first | ((with_reducible refine gate_callee (f := 59) rfl ?_); refine goesL_ (some 18) rfl rfl Tryd.func59 (by kernel_rfl) rfl #[.slice A313_0 ((rd_T90 l0 x5_1).f0).length c313_0, .int .i64 x1_1] rfl au_ ?_; (with_reducible refine (laws_heldPartSS.calls k1 _ _ ((rd_T90 l0 x5_1).f0) x1_1 t314 _ ?side1 ?side2 A5.out).mono ?_); (case side1 => exact cs_ (Kd.C_below HR313_0.out HB.out)); (case side2 => exact HC313_0.out); rintro e w12 ⟨rfl, hb⟩; refine ⟨_, rfl, ?_⟩; have n0_ := Aside0.mk (below_step bel_ hb); clear HB; have HB := n0_; clear n0_; (try clear hb);(try clear hb2);(try clear hk);(try clear hi); have p315 : 0 ≤ (x5_1 : Int) := of_decide_eq_true am_; have q315 : x5_1 < (l0.length : Int) := of_decide_eq_true am_; obtain ⟨ad315, A315_0, c315_0, A315_1, c315_1, e315, hx315_0, hx315_1, hl315_0, hi315_0, hl315_1, hi315_1⟩ := at_T90 HR0.out x5_1 p315 q315; obtain rfl : ad313 = ad315 := (by injection e315); replace hx315_0 := pw_cell_below HB.out hx315_0; replace hx315_1 := pw_cell_below HB.out hx315_1; have HR315_0 := Aside0.mk hi315_0; have HC315_0 := Aside0.mk hl315_0; clear hi315_0 hl315_0; have HR315_1 := Aside0.mk hi315_1; have HC315_1 := Aside0.mk hl315_1; clear hi315_1 hl315_1; replace p315 := eq_true p315; replace q315 := eq_true q315) | ((with_reducible refine gate_callee (f := 60) rfl ?_); refine goesL_ (some 27) rfl rfl Tryd.func60 (by kernel_rfl) rfl #[.slice A315_1 ((rd_T90 l0 x5_1).f1).length c315_1, .int .i64 t314] rfl au_ ?_; (with_reducible refine (laws_heldDeclS.calls k1 _ _ ((rd_T90 l0 x5_1).f1) t314 t316 _ ?side1 ?side2 A8.out).mono ?_); (case side1 => exact cs_ (Kd.C_below HR315_1.out HB.out)); (case side2 => exact HC315_1.out); rintro e w13 ⟨rfl, hb⟩; refine ⟨_, rfl, ?_⟩; have n0_ := Aside0.mk (below_step bel_ hb); clear HB; have HB := n0_; clear n0_; (try clear hb);(try clear hb2);(try clear hk);(try clear hi)))
       go_roundg k1
       case measure => have := HK1.out; omega
       case rel => exact ⟨(t316), (wrap64 (x5_1 + 1)), sv_, sv_, H', ⟨by have := HK1.out; omega⟩, ⟨bel_⟩⟩
    ·rw [if_neg c4] at H
     exact absurd H (by simp)
   ·rw [if_neg c3] at H
    have c3b0 : decide (x5_1 < (l0.length : Int)) = false := decide_eq_false c3
    clear c3
    obtain rfl := Option.some.inj H
    go_wp2
    go_ret
    exact ⟨er_, bel_⟩

/-! ### laws_FnExactReadSheet: function 6 -/
theorem eqRules_ {W : World} {b1 b2 : Nat} {ok1 ok2 : Nat → Prop} {v1 v2 : Value} {l1 l2 : List S90} {r : Bool} (k : Nat) (h1 : Kd.S kRule_ 90 W b1 ok1 v1 l1) (h2 : Kd.R k90 90 W b2 ok2 v2 l2) (h : laws_eqRuleS.f k l1 l2 = some r) :
  Calls Tryd.prog 22 #[v1, v2] W fun e w' => e = .returned (.bool r) ∧ Below W.heap.size W w' := by
 obtain ⟨A1, c1, rfl⟩ := Kd.S_slice h1
 obtain ⟨A2, c2, rfl⟩ := Kd.R_slice h2
 exact laws_eqRuleS.calls k A1 c1 l1 A2 c2 l2 r W (Kd.S_reads' h1).2.2 (Kd.S_reads' h1).2.1 (Kd.R_reads' h2).2.2 (Kd.R_reads' h2).2.1 h
theorem heldRules_ {W : World} {b1 : Nat} {ok1 : Nat → Prop} {v1 : Value} {l1 : List S90} {a r : Int} (k : Nat) (h1 : Kd.S kRule_ 90 W b1 ok1 v1 l1) (h : laws_heldRuleS.f k l1 a = some r) :
  Calls Tryd.prog 24 #[v1, .int .i64 a] W fun e w' => e = .returned (.int .i64 r) ∧ Below W.heap.size W w' := by
 obtain ⟨A1, c1, rfl⟩ := Kd.S_slice h1
 exact laws_heldRuleS.calls k A1 c1 l1 a r W (Kd.S_reads' h1).2.2 (Kd.S_reads' h1).2.1 h
def laws_FnExactReadSheet.f (k : Nat) (a0 : ByteArray) : Option (Bool) := if (a0.size : Int) > 1048576 then (some true) else ((spec_ReadSheet.f k a0).bind fun s => ((impl_ReadSheet.f k a0).bind fun g => ((laws_eqRuleS.f k g.1 s.1).bind fun t => (if t = true ∧ g.2 = s.2 then ((laws_markRuleS.f k g.1 1).bind fun m => ((laws_heldRuleS.f k m.2 1).bind fun q => (if 0 ≤ q ∧ q = m.1 then (some true) else (none)))) else (none)))))
set_option maxHeartbeats 8000000 in
set_option maxRecDepth 100000 in
theorem laws_FnExactReadSheet.calls (k : Nat) (a0 : ByteArray) (r : Bool) (w : World) (h : laws_FnExactReadSheet.f k a0 = some r) (hT_ : U8Tabs_ w) :
 Calls Tryd.prog 6 #[.string a0] w fun e w' => e = .returned (.bool r) ∧ Below w.heap.size w w' := by
 unfold laws_FnExactReadSheet.f at h
 by_cases c0 : (a0.size : Int) > 1048576
 ·rw [if_pos c0] at h
  obtain rfl := Option.some.inj h
  have c2b0 : decide (1048576 < (a0.size : Int)) = true := decide_eq_true c0
  have c2b1 : decide (1048576 < a0.size) = true := decide_eq_true (by omega)
  clear c0 h
  go_enter Tryd.func6, Tryd.ntmps6
  go_wp2
  go_ret
  exact ⟨rfl, Below.refl _ _⟩
 ·rw [if_neg c0] at h
  have c2b0 : decide (1048576 < (a0.size : Int)) = false := decide_eq_false c0
  have c2b1 : decide (1048576 < a0.size) = false := decide_eq_false (by omega)
  clear c0
  obtain ⟨⟨s1, s2⟩, A1, h⟩ := Option.bind_eq_some_iff.mp h
  obtain ⟨⟨g1, g2⟩, A2, h⟩ := Option.bind_eq_some_iff.mp h
  obtain ⟨t, A3, h⟩ := Option.bind_eq_some_iff.mp h
  by_cases c1 : t = true ∧ g2 = s2
  ·rw [if_pos c1] at h
   obtain ⟨⟨m, g3⟩, A4, h⟩ := Option.bind_eq_some_iff.mp h
   obtain ⟨q, A5, h⟩ := Option.bind_eq_some_iff.mp h
   by_cases c4 : 0 ≤ q ∧ q = m
   ·rw [if_pos c4] at h
    obtain rfl := Option.some.inj h
    clear h
    obtain ⟨rfl, rfl⟩ := c1
    obtain ⟨c5, rfl⟩ := c4
    have d1 : decide (q < 0) = false := decide_eq_false (by omega)
    have d2 : (q == q) = true := beq_iff_eq.mpr rfl
    have d3 : (q != q) = false := bne_eq_false_iff_eq.mpr rfl
    have d4 : (g2 != g2) = false := bne_eq_false_iff_eq.mpr rfl
    have d5 : (g2 == g2) = true := beq_iff_eq.mpr rfl
    replace A1 := Aside0.mk A1
    replace A2 := Aside0.mk A2
    replace A3 := Aside0.mk A3
    replace A4 := Aside0.mk A4
    replace A5 := Aside0.mk A5
    have tok1 : True := trivial
    have tok2 : True := trivial
    clear c5
    go_enter Tryd.func6, Tryd.ntmps6
    go_wp2_with (first | (go_at_call 20; (with_reducible refine (spec_ReadSheet.calls k a0 s1 g2 _ A1.out).mono ?_); rintro e w1 ⟨vs, rfl, hs, hb⟩; have HS := Aside0.mk hs; have HB := Aside0.mk hb; clear hs hb) | (go_at_call 21; have _t := tok1; (with_reducible refine (impl_ReadSheet.calls k a0 g1 g2 _ A2.out (utf8_keep_ hT_ bel_)).mono ?_); rintro e w2 ⟨vg, rfl, hg, hb⟩; have HG := Aside0.mk hg; have HB2 := Aside0.mk hb; clear hg hb tok1 _t) | (go_at_call 22; have _t := tok2; (with_reducible refine (eqRules_ k HG.out (Kd.R_below HS.out HB2.out) A3.out).mono ?_); rintro e w3 ⟨rfl, hb⟩; have n1 := Aside0.mk (Kd.S_below HG.out hb); have n2 := Aside0.mk (below_step HB2.out hb); clear HG HB2 hb tok2 _t; have HG := n1; have HB2 := n2; clear n1 n2) | (go_at_call 23; (with_reducible refine (laws_markRuleS.calls k (fun _ => True) vg g1 1 q g3 w1 _ HB2.out HG.out A4.out).mono ?_); rintro e w4 ⟨rfl, hg, hb, hk⟩; clear HG HB2; have HG := Aside0.mk hg; have HB2 := Aside0.mk hb; clear hg hb hk) | (go_at_call 24; (with_reducible refine (heldRules_ k HG.out A5.out).mono ?_); rintro e w5 ⟨rfl, hb⟩; have n1 := Aside0.mk (Kd.S_below HG.out hb); have n2 := Aside0.mk (below_step HB2.out hb); clear HG HB2 hb; have HG := n1; have HB2 := n2; clear n1 n2) | (go_at_call 21; (with_reducible refine (impl_ReadSheet.calls k a0 g1 g2 _ A2.out (utf8_keep_ hT_ (by repeat (first | (with_reducible first | exact (below_step HB.out HB2.out) | apply below_alloc | apply pw_below_drewN | apply below_drew1) | exact (below_step HB.out HB2.out))))).mono ?_); rintro e w6 ⟨vh, rfl, hh, hb⟩; have HH := Aside0.mk hh; have n1 := Aside0.mk (Kd.S_below HG.out hb); have n2 := Aside0.mk (below_step HB2.out hb); clear HG HB2 hb hh; have HG := n1; have HB2 := n2; clear n1 n2) | (go_at_call 22; (with_reducible refine (eqRules_ k HH.out (Kd.R_below HS.out HB2.out) A3.out).mono ?_); rintro e w7 ⟨rfl, hb⟩; have n1 := Aside0.mk (Kd.S_below HG.out hb); have n2 := Aside0.mk (below_step HB2.out hb); clear HG HB2 hb HH; have HG := n1; have HB2 := n2; clear n1 n2))
    go_ret
    exact ⟨rfl, below_step HB.out HB2.out⟩
   ·rw [if_neg c4] at h; cases h
  ·rw [if_neg c1] at h; cases h
/-- THE ONE PURE STATEMENT of laws_FnExactReadSheet. -/
def laws_FnExactReadSheet.Pure : Prop := ∀ (a0 : ByteArray), a0.size ≤ 140737488351232 → ∃ k, laws_FnExactReadSheet.f k a0 = some true
theorem laws_FnExactReadSheet.walk (P : laws_FnExactReadSheet.Pure) (a0 : ByteArray) (w : World) (w0 : a0.size ≤ 140737488351232) (hT_ : U8Tabs_ w) :
 Calls Tryd.prog 6 #[.string a0] w fun e w' => e = .returned (.bool true) ∧ Below w.heap.size w w' := by
 obtain ⟨k, h⟩ := P a0 w0
 refine (laws_FnExactReadSheet.calls k a0 true w h hT_).mono ?_
 rintro e w' ⟨rfl, hd⟩
 exact ⟨rfl, hd⟩

end Go.Proofs.YtooilehdljeepaaDoor.PFnExactReadSheet
