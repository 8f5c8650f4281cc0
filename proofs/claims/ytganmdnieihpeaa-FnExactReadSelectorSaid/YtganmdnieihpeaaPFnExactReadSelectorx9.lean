-- Laid by a program of this session out of the translation (its own run of the print). Lean checks it.
import Derived.Test.YtganmdnieihpeaaPFnExactReadSelectorx0
import Derived.Test.YtganmdnieihpeaaPFnExactReadSelectorx1
import Derived.Test.YtganmdnieihpeaaPFnExactReadSelectorx4
import Derived.Test.YtganmdnieihpeaaPFnExactReadSelectorx6
import Derived.Test.YtganmdnieihpeaaPFnExactReadSelectorx7
import Derived.Test.YtganmdnieihpeaaPFnExactReadSelectorx8
namespace Go.Proofs.Ytganmdnieihpeaa.PFnExactReadSelector
open Go.RowKit Go.Proofs.YtganmdnieihpeaaW.PrintWords Go.Proofs.YtganmdnieihpeaaW.PrintLast Go.Proofs.YtganmdnieihpeaaW.PrintMore
attribute [local go_sem] max2_int min2_int max_two min_two max_three min_three max_four min_four   -- for this text's walks alone
set_option linter.unusedVariables false
set_option linter.unusedSimpArgs false

/-! ### laws_FnExactReadSelector: function 4 -/
theorem eqParts_ {W : World} {b1 b2 : Nat} {ok1 ok2 : Nat → Prop} {v1 v2 : Value} {l1 l2 : List S40} {r : Bool} (k : Nat) (h1 : Kd.S k40 40 W b1 ok1 v1 l1) (h2 : Kd.S k40 40 W b2 ok2 v2 l2) (h : laws_eqPartS.f k l1 l2 = some r) :
  Calls Try.prog 9 #[v1, v2] W fun e w' => e = .returned (.bool r) ∧ Below W.heap.size W w' := by
 obtain ⟨A1, c1, rfl⟩ := Kd.S_slice h1
 obtain ⟨A2, c2, rfl⟩ := Kd.S_slice h2
 exact laws_eqPartS.calls k A1 c1 l1 A2 c2 l2 r W (Kd.S_reads' h1).2.2 (Kd.S_reads' h1).2.1 (Kd.S_reads' h2).2.2 (Kd.S_reads' h2).2.1 h
theorem heldParts_ {W : World} {b1 : Nat} {ok1 : Nat → Prop} {v1 : Value} {l1 : List S40} {a r : Int} (k : Nat) (h1 : Kd.S k40 40 W b1 ok1 v1 l1) (h : laws_heldPartS.f k l1 a = some r) :
  Calls Try.prog 13 #[v1, .int .i64 a] W fun e w' => e = .returned (.int .i64 r) ∧ Below W.heap.size W w' := by
 obtain ⟨A1, c1, rfl⟩ := Kd.S_slice h1
 exact laws_heldPartS.calls k A1 c1 l1 a r W (Kd.S_reads' h1).2.2 (Kd.S_reads' h1).2.1 h
def laws_FnExactReadSelector.f (k : Nat) (a0 : ByteArray) : Option (Bool) := if (a0.size : Int) > 1048576 then (some true) else ((spec_ReadSelector.f k a0).bind fun s => ((impl_ReadSelector.f k a0).bind fun g => ((laws_eqPartS.f k g.1 s.1).bind fun t => (if t = true ∧ g.2 = s.2 then ((laws_markPartS.f k g.1 1).bind fun m => ((laws_heldPartS.f k m.2 1).bind fun q => (if 0 ≤ q ∧ q = m.1 then (some true) else (none)))) else (none)))))
set_option maxHeartbeats 8000000 in
set_option maxRecDepth 100000 in
theorem laws_FnExactReadSelector.calls (k : Nat) (a0 : ByteArray) (r : Bool) (w : World) (h : laws_FnExactReadSelector.f k a0 = some r) :
 Calls Try.prog 4 #[.string a0] w fun e w' => e = .returned (.bool r) ∧ Below w.heap.size w w' := by
 unfold laws_FnExactReadSelector.f at h
 by_cases c0 : (a0.size : Int) > 1048576
 ·rw [if_pos c0] at h
  obtain rfl := Option.some.inj h
  have c2b0 : decide (1048576 < (a0.size : Int)) = true := decide_eq_true c0
  have c2b1 : decide (1048576 < a0.size) = true := decide_eq_true (by omega)
  clear c0 h
  go_enter Try.func4, Try.ntmps4
  go_wp2
  go_ret
  exact ⟨rfl, Below.refl _ _⟩
 ·rw [if_neg c0] at h
  have c2b0 : decide (1048576 < (a0.size : Int)) = false := decide_eq_false c0
  have c2b1 : decide (1048576 < a0.size) = false := decide_eq_false (by omega)
  clear c0
  obtain ⟨⟨s1, s2⟩, A1, h⟩ := Option.bind_eq_some_iff.mp h
  obtain ⟨⟨g1, g2⟩, A2, h⟩ := Option.bind_eq_some_iff.mp h
  obtain ⟨t, A3, h⟩ := Option.bind_eq_some_iff.mp h
  by_cases c1 : t = true ∧ g2 = s2
  ·rw [if_pos c1] at h
   obtain ⟨⟨m, g3⟩, A4, h⟩ := Option.bind_eq_some_iff.mp h
   obtain ⟨q, A5, h⟩ := Option.bind_eq_some_iff.mp h
   by_cases c4 : 0 ≤ q ∧ q = m
   ·rw [if_pos c4] at h
    obtain rfl := Option.some.inj h
    clear h
    obtain ⟨rfl, rfl⟩ := c1
    obtain ⟨c5, rfl⟩ := c4
    have d1 : decide (q < 0) = false := decide_eq_false (by omega)
    have d2 : (q == q) = true := beq_iff_eq.mpr rfl
    have d3 : (q != q) = false := bne_eq_false_iff_eq.mpr rfl
    have d4 : (g2 != g2) = false := bne_eq_false_iff_eq.mpr rfl
    have d5 : (g2 == g2) = true := beq_iff_eq.mpr rfl
    replace A1 := Aside0.mk A1
    replace A2 := Aside0.mk A2
    replace A3 := Aside0.mk A3
    replace A4 := Aside0.mk A4
    replace A5 := Aside0.mk A5
    have tok1 : True := trivial
    have tok2 : True := trivial
    clear c5
    go_enter Try.func4, Try.ntmps4
    go_wp2_with (first | (go_at_call 10; (with_reducible refine (spec_ReadSelector.calls k a0 s1 g2 _ A1.out).mono ?_); rintro e w1 ⟨vs, rfl, hs, hb⟩; have HS := Aside0.mk hs; have HB := Aside0.mk hb; clear hs hb) | (go_at_call 11; have _t := tok1; (with_reducible refine (impl_ReadSelector.calls k a0 g1 g2 _ A2.out).mono ?_); rintro e w2 ⟨vg, rfl, hg, hb⟩; have HG := Aside0.mk hg; have HB2 := Aside0.mk hb; clear hg hb tok1 _t) | (go_at_call 9; have _t := tok2; (with_reducible refine (eqParts_ k HG.out (Kd.S_below HS.out HB2.out) A3.out).mono ?_); rintro e w3 ⟨rfl, hb⟩; have n1 := Aside0.mk (Kd.S_below HG.out hb); have n2 := Aside0.mk (below_step HB2.out hb); clear HG HB2 hb tok2 _t; have HG := n1; have HB2 := n2; clear n1 n2) | (go_at_call 12; (with_reducible refine (laws_markPartS.calls k (fun _ => True) vg g1 1 q g3 w1 _ HB2.out HG.out A4.out).mono ?_); rintro e w4 ⟨rfl, hg, hb, hk⟩; clear HG HB2; have HG := Aside0.mk hg; have HB2 := Aside0.mk hb; clear hg hb hk) | (go_at_call 13; (with_reducible refine (heldParts_ k HG.out A5.out).mono ?_); rintro e w5 ⟨rfl, hb⟩; have n1 := Aside0.mk (Kd.S_below HG.out hb); have n2 := Aside0.mk (below_step HB2.out hb); clear HG HB2 hb; have HG := n1; have HB2 := n2; clear n1 n2) | (go_at_call 11; (with_reducible refine (impl_ReadSelector.calls k a0 g1 g2 _ A2.out).mono ?_); rintro e w6 ⟨vh, rfl, hh, hb⟩; have HH := Aside0.mk hh; have n1 := Aside0.mk (Kd.S_below HG.out hb); have n2 := Aside0.mk (below_step HB2.out hb); clear HG HB2 hb hh; have HG := n1; have HB2 := n2; clear n1 n2) | (go_at_call 9; (with_reducible refine (eqParts_ k HH.out (Kd.S_below HS.out HB2.out) A3.out).mono ?_); rintro e w7 ⟨rfl, hb⟩; have n1 := Aside0.mk (Kd.S_below HG.out hb); have n2 := Aside0.mk (below_step HB2.out hb); clear HG HB2 hb HH; have HG := n1; have HB2 := n2; clear n1 n2))
    go_ret
    exact ⟨rfl, below_step HB.out HB2.out⟩
   ·rw [if_neg c4] at h; cases h
  ·rw [if_neg c1] at h; cases h
/-- THE ONE PURE STATEMENT of laws_FnExactReadSelector. -/
def laws_FnExactReadSelector.Pure : Prop := ∀ (a0 : ByteArray), a0.size ≤ 140737488351232 → ∃ k, laws_FnExactReadSelector.f k a0 = some true
theorem laws_FnExactReadSelector.walk (P : laws_FnExactReadSelector.Pure) (a0 : ByteArray) (w : World) (w0 : a0.size ≤ 140737488351232) :
 Calls Try.prog 4 #[.string a0] w fun e w' => e = .returned (.bool true) ∧ Below w.heap.size w w' := by
 obtain ⟨k, h⟩ := P a0 w0
 refine (laws_FnExactReadSelector.calls k a0 true w h).mono ?_
 rintro e w' ⟨rfl, hd⟩
 exact ⟨rfl, hd⟩

end Go.Proofs.Ytganmdnieihpeaa.PFnExactReadSelector
