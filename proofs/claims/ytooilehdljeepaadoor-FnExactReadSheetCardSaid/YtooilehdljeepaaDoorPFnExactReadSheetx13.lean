-- Laid by a program of this session out of the translation (its own run of the print). Lean checks it.
import Derived.Test.YtooilehdljeepaaDoorPFnExactReadSheetx0
import Derived.Test.YtooilehdljeepaaDoorPFnExactReadSheetx9
namespace Go.Proofs.YtooilehdljeepaaDoor.PFnExactReadSheet
open Go.RowKit Go.Proofs.YtooilehdljeepaaDoorW.PrintWords Go.Proofs.YtooilehdljeepaaDoorW.PrintLast Go.Proofs.YtooilehdljeepaaDoorW.PrintMore
attribute [local go_sem] max2_int min2_int max_two min_two max_three min_three max_four min_four   -- for this text's walks alone
set_option linter.unusedVariables false
set_option linter.unusedSimpArgs false

/-! ### laws_markText: function 110 -/
def laws_markText.l0 : Nat → Int → ByteArray → Option (ByteArray)
 | 0, _, _ => none
 | k + 1, x0, x3 => if x0 > 0 then ((some (([(wrap64 (48 + (Int.tmod x0 10))) % 256] : List Int) : List Int)).bind fun y288 => (if (strOfNums y288).size + x3.size ≤ 9223372036854775807 then (laws_markText.l0 k (wrap64 (Int.tdiv x0 10)) ((strOfNums y288) ++ x3)) else (none))) else (if 1 + x3.size ≤ 9223372036854775807 then (some ((⟨#[109]⟩ : ByteArray) ++ x3)) else (none))
def laws_markText.f (k : Nat) (a0 : Int) : Option (ByteArray) := if a0 ≤ 0 then (some (⟨#[109, 48]⟩ : ByteArray)) else (laws_markText.l0 k a0 (⟨#[]⟩ : ByteArray))
set_option maxHeartbeats 8000000 in
set_option maxRecDepth 100000 in
theorem laws_markText.calls (k : Nat) (a0 : Int) (r : ByteArray) (w : World) (h : laws_markText.f k a0 = some r) :
  Calls Tryd.prog 110 #[.int .i64 a0] w fun e w' => e = .returned (.string r) ∧ Below w.heap.size w w' := by
 have HB := Aside0.mk (Below.refl w.heap.size w)
 have H : (if a0 ≤ 0 then (some (⟨#[109, 48]⟩ : ByteArray)) else (laws_markText.l0 k a0 (⟨#[]⟩ : ByteArray))) = some r := h
 clear h
 by_cases c2 : a0 ≤ 0
 ·rw [if_pos c2] at H
  have c2b0 : decide (a0 ≤ 0) = true := decide_eq_true c2
  clear c2
  obtain rfl := Option.some.inj H
  go_enter Tryd.func110, Tryd.ntmps110
  go_wp2
  go_ret
  exact ⟨er_, bel_⟩
 ·rw [if_neg c2] at H
  have c2b0 : decide (a0 ≤ 0) = false := decide_eq_false c2
  clear c2
  have H' := Aside0.mk H
  clear H
  go_enter Tryd.func110, Tryd.ntmps110
  go_wp2
  go_loopg [0, 3] k (fun kq v0 v3 w' => ∃ (x0_1 : Int) (x3_1 : ByteArray), v0 = .int .i64 x0_1 ∧ v3 = .string x3_1 ∧ Aside0 (laws_markText.l0 kq x0_1 x3_1 = some r) ∧ Aside0 (kq ≤ k) ∧ Aside0 (Below w.heap.size w w'))
  case atStart => exact ⟨(a0), ((⟨#[]⟩ : ByteArray)), sv_, sv_, H', ⟨Nat.le_refl _⟩, ⟨bel_⟩⟩
  case round =>
   clear H'
   (try clear c1);(try clear c2);(try clear c2b0);(try clear p2)
   obtain ⟨x0_1, x3_1, rfl, rfl, HA, HK1, HB⟩ := hrel
   cases gk with
   | zero => exact absurd HA.out (by simp [laws_markText.l0])
   | succ k1 =>
    have H := HA.out
    clear HA
    simp only [laws_markText.l0] at H
    by_cases c3 : x0_1 > 0
    ·rw [if_pos c3] at H
     have c3b0 : decide (0 < x0_1) = true := decide_eq_true c3
     clear c3
     obtain ⟨y288, hy288⟩ : ∃ y_ : List Int, y_ = (([(wrap64 (48 + (Int.tmod x0_1 10))) % 256] : List Int)) := ⟨_, rfl⟩
     replace H : (if (strOfNums y288).size + x3_1.size ≤ 9223372036854775807 then (laws_markText.l0 k1 (wrap64 (Int.tdiv x0_1 10)) ((strOfNums y288) ++ x3_1)) else (none)) = some r := by first | (rw [hy288]; with_reducible exact H) | (have H2_ := (Option.bind_some _ _).symm.trans H; rw [hy288]; with_reducible exact H2_) | (have H2_ := (Option.bind_some _ _).symm.trans H; with_reducible exact H2_) | with_reducible exact H | (rw [hy288]; exact H) | exact H
     have Ny288 := Aside0.mk hy288
     clear hy288
     by_cases c4 : (strOfNums y288).size + x3_1.size ≤ 9223372036854775807
     ·rw [if_pos c4] at H
      have c4b0 := eq_true c4
      have c4b1 : decide ((strOfNums y288).size + x3_1.size ≤ 9223372036854775807) = true := decide_eq_true c4
      try have c4b2 : (9223372036854775807 < (strOfNums y288).size + x3_1.size) = False := eq_false (Nat.not_lt.2 c4)
      have H' := Aside0.mk H
      clear H
      go_wp2_with (first | ((with_reducible refine gate_dst (N := 12) rfl ?_); refine Kd.R_lit (Kd.int .u8) _ 5 ?hg (N := 12) ?hd (xs := ([(wrap64 (48 + (Int.tmod x0_1 10))) % 256] : List Int)) (inner := [.int .u8 ((wrap64 (48 + (Int.tmod x0_1 10))) % 256)]) (ok := fun _ => True) (okp := fun _ => True) ?hr ?hp (fun _ hk => hk) trivial (Below.refl _ _) (Nat.le_refl _) (by simp) ?_; (case hd => rfl); (case hg => rfl); (case hr => first | (go_simp; done) | (go_simp; rfl)); (case hp => exact (Reps.one (show Kd.M (Kd.int .u8) _ _ _ ((wrap64 (48 + (Int.tmod x0_1 10))) % 256) [.int .u8 ((wrap64 (48 + (Int.tmod x0_1 10))) % 256)] from rfl) (Reps.none _ _))); intro v289 w5 ho6 hb hg_ hnew_; clear hg_ hnew_; (first | rw [← Ny288.out] at ho6 | (simp only [Int.reduceToNat] at ho6; rw [← Ny288.out] at ho6)); have n0_ := Aside0.mk (Kd.R_lower ho6 (below_size bel_)); have n1_ := Aside0.mk (below_step bel_ hb); clear HB; have HO290 := n0_; have HB := n1_; clear n0_ n1_; clear hb ho6; have hcv7 := own_string (P := Tryd.prog) Tryd.underlying56 Tryd.underlying5 Tryd.underlying9 (Kd.own_of_R HO290.out)))
      go_roundg k1
      case measure => have := HK1.out; omega
      case rel => exact ⟨(wrap64 (Int.tdiv x0_1 10)), ((strOfNums y288) ++ x3_1), sv_, sv_, H', ⟨by have := HK1.out; omega⟩, ⟨bel_⟩⟩
     ·rw [if_neg c4] at H
      exact absurd H (by simp)
    ·rw [if_neg c3] at H
     have c3b0 : decide (0 < x0_1) = false := decide_eq_false c3
     clear c3
     by_cases c8 : 1 + x3_1.size ≤ 9223372036854775807
     ·rw [if_pos c8] at H
      have c8b0 := eq_true c8
      have c8b1 : decide (1 + x3_1.size ≤ 9223372036854775807) = true := decide_eq_true c8
      try have c8b2 : (9223372036854775807 < 1 + x3_1.size) = False := eq_false (Nat.not_lt.2 c8)
      obtain rfl := Option.some.inj H
      go_wp2
      go_ret
      exact ⟨er_, bel_⟩
     ·rw [if_neg c8] at H
      exact absurd H (by simp)

/-! ### laws_markStringS: function 154 -/
def laws_markStringS.l0 : Nat → List ByteArray → Int → Int → Option (Int × List ByteArray)
 | 0, _, _, _ => none
 | k + 1, x0, x1, x5 => if x5 < (x0.length : Int) then ((laws_markText.f k x1).bind fun t291 => (if 0 ≤ x5 then (laws_markStringS.l0 k (x0.set (x5 : Int).toNat t291) (wrap64 (x1 + 1)) (wrap64 (x5 + 1))) else (none))) else (some (x1, x0))
def laws_markStringS.f (k : Nat) (l0 : List ByteArray) (a1 : Int) : Option (Int × List ByteArray) := laws_markStringS.l0 k l0 a1 0
set_option maxHeartbeats 8000000 in
set_option maxRecDepth 100000 in
theorem laws_markStringS.calls (k : Nat) (P0_ : Nat → Prop) (u9000_ : Value) (l0 : List ByteArray) (a1 : Int) (r1 : Int) (r2 : List ByteArray) (w0 w : World) (hB : Below w0.heap.size w0 w) (ho0 : Kd.R Kd.string 9 w w0.heap.size P0_ u9000_ l0) (h : laws_markStringS.f k l0 a1 = some (r1, r2)) :
  Calls Tryd.prog 154 #[u9000_, .int .i64 a1] w fun e w' => e = .returned (.int .i64 r1) ∧ Kd.R Kd.string 9 w' w0.heap.size (fun k_ => (P0_ k_ ∨ w.heap.size ≤ k_)) u9000_ r2 ∧ Below w0.heap.size w0 w' ∧ Kept w w' (fun k_ => P0_ k_) := by
 have HO0 := Aside0.mk (show Kd.R Kd.string 9 w w0.heap.size (fun k_ => (P0_ k_ ∨ w.heap.size ≤ k_)) u9000_ l0 from Kd.R_mono ho0 (fun k_ hk => (.inl hk)))
 have HK := Aside0.mk (Kept.refl w (fun k_ => P0_ k_))
 have HW0 := Aside0.mk hB.size
 have HB := Aside0.mk hB
 clear hB
 have H : (laws_markStringS.l0 k l0 a1 0) = some (r1, r2) := h
 clear h
 have H' := Aside0.mk H
 clear H
 go_enter Tryd.func154, Tryd.ntmps154
 go_wp2
 go_loopg [1, 5] k (fun kq v1 v5 w' => ∃ (x0_1 : List ByteArray) (x1_1 : Int) (x5_1 : Int), v1 = .int .i64 x1_1 ∧ v5 = .int .i64 x5_1 ∧ Aside0 (laws_markStringS.l0 kq x0_1 x1_1 x5_1 = some (r1, r2)) ∧ Aside0 (kq ≤ k) ∧ Aside0 (Kd.R Kd.string 9 w' w0.heap.size (fun k_ => (P0_ k_ ∨ w.heap.size ≤ k_)) u9000_ x0_1) ∧ Aside0 (Kept w w' (fun k_ => P0_ k_)) ∧ Aside0 (Below w0.heap.size w0 w'))
 case atStart => exact ⟨(l0), (a1), (0), sv_, sv_, H', ⟨Nat.le_refl _⟩, ⟨by (with_reducible repeat (first | apply Kd.R_alloc | apply Kd.R_drewN | apply Kd.R_drew)); exact HO0.out⟩, ⟨by repeat (first | (with_reducible first | exact HK.out | apply Kept.alloc | apply Kept.drewN | apply Kept.drew) | exact HK.out)⟩, ⟨bel_⟩⟩
 case round =>
  clear H'
  (try clear c1);(try clear p2)
  obtain ⟨x0_1, x1_1, x5_1, rfl, rfl, HA, HK1, HO_0, HK, HB⟩ := hrel
  cases gk with
  | zero => exact absurd HA.out (by simp [laws_markStringS.l0])
  | succ k1 =>
   have H := HA.out
   clear HA
   simp only [laws_markStringS.l0] at H
   by_cases c3 : x5_1 < (x0_1.length : Int)
   ·rw [if_pos c3] at H
    have c3b0 : decide (x5_1 < (x0_1.length : Int)) = true := decide_eq_true c3
    clear c3
    replace H := Option.bind_eq_some_iff.mp H
    obtain ⟨t291, A40, H⟩ := H
    replace H : (if 0 ≤ x5_1 then (laws_markStringS.l0 k1 (x0_1.set (x5_1 : Int).toNat t291) (wrap64 (x1_1 + 1)) (wrap64 (x5_1 + 1))) else (none)) = some (r1, r2) := H
    have A4 := Aside0.mk A40
    clear A40
    by_cases c5 : 0 ≤ x5_1
    ·rw [if_pos c5] at H
     have c5b0 : decide (0 ≤ x5_1) = true := decide_eq_true c5
     clear c5
     obtain ⟨y292, hy292⟩ : ∃ y_ : List ByteArray, y_ = (x0_1.set (x5_1 : Int).toNat t291) := ⟨_, rfl⟩
     replace H : (laws_markStringS.l0 k1 y292 (wrap64 (x1_1 + 1)) (wrap64 (x5_1 + 1))) = some (r1, r2) := by first | (rw [hy292]; with_reducible exact H) | (have H2_ := (Option.bind_some _ _).symm.trans H; rw [hy292]; with_reducible exact H2_) | (have H2_ := (Option.bind_some _ _).symm.trans H; with_reducible exact H2_) | with_reducible exact H | (rw [hy292]; exact H) | exact H
     have Ny292 := Aside0.mk hy292
     clear hy292
     have H' := Aside0.mk H
     clear H
     obtain ⟨Ao7, co7, eo7⟩ := Kd.R_slice HO_0.out
     subst eo7
     go_wp2_with (first | ((with_reducible refine gate_callee (f := 110) rfl ?_); refine goesL_ (some 15) rfl rfl Tryd.func110 (by kernel_rfl) rfl #[.int .i64 x1_1] rfl au_ ?_; (with_reducible refine (laws_markText.calls k1 x1_1 t291 _ A4.out).mono ?_); rintro e w8 ⟨rfl, hb⟩; refine ⟨_, rfl, ?_⟩; have n0_ := Aside0.mk (Kd.R_below (kdR_ HO_0.out) hb); have n1_ := Aside0.mk (Kept.below (S := (fun k_ => P0_ k_)) (by repeat (first | (with_reducible first | exact HK.out | apply Kept.alloc | apply Kept.drewN | apply Kept.drew) | exact HK.out)) hb); have n2_ := Aside0.mk (below_step bel_ hb); clear HO_0; clear HK; clear HB; have HO_0 := n0_; have HK := n1_; have HB := n2_; clear n0_ n1_ n2_; (try clear hb);(try clear hb2);(try clear hk);(try clear hi); have p6 : 0 ≤ (x5_1 : Int) := of_decide_eq_true am_; have q6 : (x5_1 : Int) < ((x0_1.length : Int) : Int) := of_decide_eq_true am_; obtain ⟨go6, co6, eo6, gb6, gl6, cl6, HG6⟩ := Kd.R_form HO_0.out (by omega); (first | cases eo6 | (injection eo6 with ea_ en_ ec_; (first | subst ea_ | (injection ea_ with ea_; subst ea_)); subst ec_; clear en_)); have GB6 := Aside0.mk gb6; have GG6 := Aside0.mk HG6; clear gb6 gl6 HG6; have HMgo6 := Aside0.mk (show (P0_ go6 ∨ w.heap.size ≤ go6) from (HO_0.out.1 _ rfl)); obtain ⟨hx6_0, hf6_0⟩ := Kd.R_celln (⟨#[]⟩ : ByteArray) HO_0.out (x5_1 : Int) p6 q6; replace p6 := eq_true p6; replace q6 := eq_true q6; obtain ⟨hy9_, hz9_⟩ := Kd.R_celln (⟨#[]⟩ : ByteArray) HO_0.out (x5_1 : Int) (of_decide_eq_true am_) (of_decide_eq_true am_); have HP9 := Kd.R_putg HO_0.out (x5_1 : Int) t291) | ((with_reducible refine gate_store (t := 9) (p := 16) rfl ?_); refine store_event (t := 9) (p := 16) (v := ?vo_w10) (w1 := (w8.setCell ⟨go6, (x5_1 : Int).toNat, none⟩ (.string t291))) ?hg ?ho ?hn ?hr ?_; (case ho => rfl); (case hg => rfl); (case hn => rfl); (case hr => first | (go_simp; done) | (go_simp; rfl)); intro w10 hw; have hg : w8.grownBy w10 (some go6) := (by rw [hw]; exact HP9.2); have hp_ : Kd.R Kd.string 9 w10 w0.heap.size (fun k_ => (P0_ k_ ∨ w.heap.size ≤ k_)) (.slice (some ⟨go6, 0, none⟩) x0_1.length co7) y292 := (by rw [hw, Ny292.out]; exact HP9.1); clear HP9; have n0_ := Aside0.mk (hp_); have n1_ := Aside0.mk ((by rw [hw]; exact below_set (HB.out) GB6.out : Below w0.heap.size w0 w10)); have n2_ := Aside0.mk (Kept.of_grown (S := (fun k_ => P0_ k_)) hg (by repeat (first | (with_reducible first | exact HK.out | apply Kept.alloc | apply Kept.drewN | apply Kept.drew) | exact HK.out)) (fun k_ e_ => (HO_0.out.1 k_ e_))); clear HO_0; clear HB; clear HK; have HO_0 := n0_; have HB := n1_; have HK := n2_; clear n0_ n1_ n2_; clear hg hw hp_))
     go_roundg k1
     case measure => have := HK1.out; omega
     case rel => exact ⟨(y292), (wrap64 (x1_1 + 1)), (wrap64 (x5_1 + 1)), sv_, sv_, H', ⟨by have := HK1.out; omega⟩, ⟨by (with_reducible repeat (first | apply Kd.R_alloc | apply Kd.R_drewN | apply Kd.R_drew)); exact HO_0.out⟩, ⟨by repeat (first | (with_reducible first | exact HK.out | apply Kept.alloc | apply Kept.drewN | apply Kept.drew) | exact HK.out)⟩, ⟨bel_⟩⟩
    ·rw [if_neg c5] at H
     exact absurd H (by simp)
   ·rw [if_neg c3] at H
    have c3b0 : decide (x5_1 < (x0_1.length : Int)) = false := decide_eq_false c3
    clear c3
    simp only [Option.some.injEq, Prod.mk.injEq] at H
    obtain ⟨rfl, rfl⟩ := H
    obtain ⟨Ao11, co11, eo11⟩ := Kd.R_slice HO_0.out
    subst eo11
    go_wp2
    go_ret
    exact ⟨er_, by (with_reducible repeat (first | apply Kd.R_alloc | apply Kd.R_drewN | apply Kd.R_drew)); exact HO_0.out, bel_, by repeat (first | (with_reducible first | exact HK.out | apply Kept.alloc | apply Kept.drewN | apply Kept.drew) | exact HK.out)⟩

/-! ### laws_markPartS: function 109 -/
theorem part_store0_ {W : World} {base g n cap : Nat} {ok : Nat → Prop} {xs : List S71} (h : Kd.S k71 71 W base ok (.slice (some ⟨g, 0, none⟩) n cap) xs) (i : Int) (h0 : 0 ≤ i) (h1 : i < n) (t : ByteArray) :
  Kd.S k71 71 (W.setCell ⟨g, i.toNat * 3, none⟩ (.string t)) base ok (.slice (some ⟨g, 0, none⟩) n cap) (xs.set i.toNat ⟨t, (rd_T71 xs i).f1, (rd_T71 xs i).f2⟩) ∧ W.grownBy (W.setCell ⟨g, i.toNat * 3, none⟩ (.string t)) (some g) := by
 have HX : Kd.S k71 71 W base (fun k_ => ok k_ ∧ ¬ (fun _ => False) k_) (.slice (some ⟨g, 0, none⟩) n cap) xs := Kd.S_mono h (fun k hk => ⟨hk, fun hf => hf⟩)
 obtain ⟨oki, c, hcl, hM, hcc, hfr, hoki, hH⟩ := Kd.S_elem HX z71 i h0 h1
 obtain ⟨u, rfl, hR⟩ := k71_openM hM
 exact Kd.S_seg (okg := fun _ => False) (okp := oki) hH h0 h1 (seg := [.string t]) (j := 0) (show 1 ≤ 3 from by decide) (x' := ⟨t, (rd_T71 xs i).f1, (rd_T71 xs i).f2⟩) (k71_mkM W base oki ⟨t, (rd_T71 xs i).f1, (rd_T71 xs i).f2⟩ hR) (fun k hk => .inl hk) (fun k hk => hk.elim)
theorem part_store1_ {W : World} {base g n cap : Nat} {ok : Nat → Prop} {xs : List S71} (h : Kd.S k71 71 W base ok (.slice (some ⟨g, 0, none⟩) n cap) xs) (i : Int) (h0 : 0 ≤ i) (h1 : i < n) (t : ByteArray) :
  Kd.S k71 71 (W.setCell ⟨g, i.toNat * 3 + 1, none⟩ (.string t)) base ok (.slice (some ⟨g, 0, none⟩) n cap) (xs.set i.toNat ⟨(rd_T71 xs i).f0, t, (rd_T71 xs i).f2⟩) ∧ W.grownBy (W.setCell ⟨g, i.toNat * 3 + 1, none⟩ (.string t)) (some g) := by
 have HX : Kd.S k71 71 W base (fun k_ => ok k_ ∧ ¬ (fun _ => False) k_) (.slice (some ⟨g, 0, none⟩) n cap) xs := Kd.S_mono h (fun k hk => ⟨hk, fun hf => hf⟩)
 obtain ⟨oki, c, hcl, hM, hcc, hfr, hoki, hH⟩ := Kd.S_elem HX z71 i h0 h1
 obtain ⟨u, rfl, hR⟩ := k71_openM hM
 exact Kd.S_seg (okg := fun _ => False) (okp := oki) hH h0 h1 (seg := [.string t]) (j := 1) (show 1 + 1 ≤ 3 from by decide) (x' := ⟨(rd_T71 xs i).f0, t, (rd_T71 xs i).f2⟩) (k71_mkM W base oki ⟨(rd_T71 xs i).f0, t, (rd_T71 xs i).f2⟩ hR) (fun k hk => .inl hk) (fun k hk => hk.elim)
/-- a part's cells; its row of names lent, and put back. -/
theorem part_lend_ {W : World} {base g n cap : Nat} {ok : Nat → Prop} {xs : List S71} (h : Kd.S k71 71 W base ok (.slice (some ⟨g, 0, none⟩) n cap) xs) (i : Int) (h0 : 0 ≤ i) (h1 : i < n) (hok : ∀ k, W.heap.size ≤ k → ok k) :
  ∃ (u : Value) (oki : Nat → Prop), W.cell? ⟨g, i.toNat * 3, none⟩ = some (.string (rd_T71 xs i).f0) ∧ W.cell? ⟨g, i.toNat * 3 + 1, none⟩ = some (.string (rd_T71 xs i).f1) ∧ W.cell? ⟨g, i.toNat * 3 + 2, none⟩ = some u ∧
   W.frozen? ⟨g, i.toNat * 3, none⟩ = false ∧ W.frozen? ⟨g, i.toNat * 3 + 1, none⟩ = false ∧ W.frozen? ⟨g, i.toNat * 3 + 2, none⟩ = false ∧
   (∀ k, oki k → ok k) ∧ Kd.R Kd.string 9 W base oki u (rd_T71 xs i).f2 ∧
   ∀ (W' : World) (b : List ByteArray), Kept W W' oki → Kd.R Kd.string 9 W' base (fun k => oki k ∨ W.heap.size ≤ k) u b →
    Kd.S k71 71 W' base ok (.slice (some ⟨g, 0, none⟩) n cap) (xs.set i.toNat ⟨(rd_T71 xs i).f0, (rd_T71 xs i).f1, b⟩) := by
 obtain ⟨oki, c, hcl, hM, hcc, hfr, hoki, hH⟩ := Kd.S_elem h z71 i h0 h1
 obtain ⟨u, rfl, hR⟩ := k71_openM hM
 refine ⟨u, oki, hcc 0 _ rfl, hcc 1 _ rfl, hcc 2 _ rfl, hfr 0, hfr 1, hfr 2, fun k hk => (hoki k hk).1, hR, fun W' b hk hb => ?_⟩
 have hW := Kd.H_step (w1 := W') (Kd.H_widen hH) (fun k _ hn hlt => hk.2 k hlt (fun h2 => hn (.inl h2)))
 exact Kd.H_back hW (x' := ⟨(rd_T71 xs i).f0, (rd_T71 xs i).f1, b⟩) (okp := fun k => oki k ∨ W.heap.size ≤ k) (k71_mkM W' base _ ⟨(rd_T71 xs i).f0, (rd_T71 xs i).f1, b⟩ hb) (fun k hk => hk.imp id (fun h2 => ⟨hok k h2, h2⟩))
theorem rd_set_part_ (xs : List S71) (i : Int) (x : S71) (h0 : 0 ≤ i) (h1 : i < (xs.length : Int)) : rd_T71 (xs.set i.toNat x) i = x := by
 have h2 : i.toNat < xs.length := by omega
 simp [rd_T71, h2]
theorem part_two_ (xs : List S71) (i : Int) (h0 : 0 ≤ i) (h1 : i < (xs.length : Int)) (a b : ByteArray) (ys zs : List S71) (hy : ys = xs.set i.toNat ⟨a, (rd_T71 xs i).f1, (rd_T71 xs i).f2⟩) (hz : zs = ys.set i.toNat ⟨(rd_T71 ys i).f0, b, (rd_T71 ys i).f2⟩) :
  rd_T71 zs i = ⟨a, b, (rd_T71 xs i).f2⟩ ∧ ∀ c, zs.set i.toNat ⟨(rd_T71 zs i).f0, (rd_T71 zs i).f1, c⟩ = xs.set i.toNat ⟨a, b, c⟩ := by
 have r1 : rd_T71 ys i = ⟨a, (rd_T71 xs i).f1, (rd_T71 xs i).f2⟩ := by rw [hy]; exact rd_set_part_ xs i _ h0 h1
 have hl : i < (ys.length : Int) := by rw [hy, List.length_set]; exact h1
 have r2 : rd_T71 zs i = ⟨a, b, (rd_T71 xs i).f2⟩ := by rw [hz, rd_set_part_ ys i _ h0 hl, r1]
 refine ⟨r2, fun c => ?_⟩
 rw [r2, hz, List.set_set, hy, List.set_set]
def laws_markPartS.l0 : Nat → List (S71) → Int → Int → Option (Int × List (S71))
| 0, _, _, _ => none
| k + 1, x0, x1, x5 => if x5 < (x0.length : Int) then (if 0 ≤ x5 then ((laws_markText.f k x1).bind fun t1 => ((laws_markText.f k (wrap64 (x1 + 1))).bind fun t2 => ((laws_markStringS.f k (rd_T71 x0 x5).f2 (wrap64 (wrap64 (x1 + 1) + 1))).bind fun b3 => (laws_markPartS.l0 k (x0.set x5.toNat ⟨t1, t2, b3.2⟩) b3.1 (wrap64 (x5 + 1)))))) else (none)) else (some (x1, x0))
def laws_markPartS.f (k : Nat) (l0 : List (S71)) (a1 : Int) : Option (Int × List (S71)) := laws_markPartS.l0 k l0 a1 0
set_option maxHeartbeats 8000000 in
set_option maxRecDepth 100000 in
theorem laws_markPartS.calls (k : Nat) (P0_ : Nat → Prop) (u9000_ : Value) (l0 : List (S71)) (a1 : Int) (r1 : Int) (r2 : List (S71)) (w0 w : World) (hB : Below w0.heap.size w0 w) (ho0 : Kd.S k71 71 w w0.heap.size P0_ u9000_ l0) (h : laws_markPartS.f k l0 a1 = some (r1, r2)) :
 Calls Tryd.prog 109 #[u9000_, .int .i64 a1] w fun e w' => e = .returned (.int .i64 r1) ∧ Kd.S k71 71 w' w0.heap.size (fun k_ => (P0_ k_ ∨ w.heap.size ≤ k_)) u9000_ r2 ∧ Below w0.heap.size w0 w' ∧ Kept w w' (fun k_ => P0_ k_) := by
 obtain ⟨A, cap, rfl⟩ := Kd.S_slice ho0
 have HO := Aside0.mk (Kd.S_mono ho0 (ok' := fun k_ => (P0_ k_ ∨ w.heap.size ≤ k_)) (fun k_ hk => .inl hk))
 have HK := Aside0.mk (Kept.refl w (fun k_ => P0_ k_))
 have HB := Aside0.mk hB
 have H' := Aside0.mk (show laws_markPartS.l0 k l0 a1 0 = some (r1, r2) from h)
 obtain ⟨n, hn⟩ : ∃ n, n = l0.length := ⟨_, rfl⟩
 rw [← hn] at HO ⊢
 have HN := Aside0.mk hn.symm
 clear hB ho0 h hn
 go_enter Tryd.func109, Tryd.ntmps109
 go_wp2
 go_loopg [1, 5] k (fun kq v1 v5 w' => ∃ (x0 : List (S71)) (x1 x5 : Int), v1 = .int .i64 x1 ∧ v5 = .int .i64 x5 ∧ Aside0 (laws_markPartS.l0 kq x0 x1 x5 = some (r1, r2)) ∧ Aside0 (kq ≤ k) ∧ Aside0 (x0.length = n) ∧ Aside0 (Kd.S k71 71 w' w0.heap.size (fun k_ => (P0_ k_ ∨ w.heap.size ≤ k_)) (.slice A n cap) x0) ∧ Aside0 (Kept w w' (fun k_ => P0_ k_)) ∧ Aside0 (Below w0.heap.size w0 w'))
 case atStart => exact ⟨l0, a1, 0, rfl, rfl, H', ⟨Nat.le_refl _⟩, HN, HO, HK, HB⟩
 case round =>
  clear H' HO HK HB HN
  obtain ⟨x0, x1, x5, rfl, rfl, HA, HK1, HN, HO, HK, HB⟩ := hrel
  cases gk with
  | zero => exact absurd HA.out (by simp [laws_markPartS.l0])
  | succ k1 =>
   have H := HA.out
   clear HA
   simp only [laws_markPartS.l0] at H
   rw [HN.out] at H
   by_cases c3 : x5 < (n : Int)
   ·rw [if_pos c3] at H
    by_cases c5 : 0 ≤ x5
    ·rw [if_pos c5] at H
     obtain ⟨t1, A4, H⟩ := Option.bind_eq_some_iff.mp H
     obtain ⟨t2, A5, H⟩ := Option.bind_eq_some_iff.mp H
     obtain ⟨⟨q3, b3⟩, A6, H⟩ := Option.bind_eq_some_iff.mp H
     have H' := Aside0.mk (show laws_markPartS.l0 k1 (x0.set x5.toNat ⟨t1, t2, b3⟩) q3 (wrap64 (x5 + 1)) = some (r1, r2) from H)
     clear H
     replace A4 := Aside0.mk A4
     replace A5 := Aside0.mk A5
     replace A6 := Aside0.mk A6
     obtain ⟨g, cap', eo, hg1, hg2, cells, hcells⟩ := Kd.S_form HO.out (by have := HN.out; omega)
     injection eo with ea_ en_ ec_
     subst ea_
     clear ec_ en_ hcells cells cap'
     have HG := Aside0.mk hg1
     clear hg1 hg2
     have p := c5
     have q := c3
     have c3b0 : decide (x5 < (n : Int)) = true := decide_eq_true c3
     have P := Aside0.mk c5
     have Q := Aside0.mk c3
     replace p := eq_true p
     replace q := eq_true q
     clear c3 c5
     go_wp2_with (first | (go_at_call 110; (with_reducible refine (laws_markText.calls k1 x1 t1 _ A4.out).mono ?_); rintro e w1 ⟨rfl, hb1⟩; have HO1 := Aside0.mk (Kd.S_below HO.out hb1); have HK2 := Aside0.mk (Kept.below HK.out hb1); have HB1 := Aside0.mk (below_step HB.out hb1); clear HO HK HB hb1; obtain ⟨u1, ok1, ha0, ha1, ha2, hf0, hf1, hf2, hq1, hR1, hback1⟩ := part_lend_ HO1.out x5 P.out Q.out (fun k_ h_ => .inr (Nat.le_trans HK2.out.1 h_)); clear hq1 hR1 hback1) | ((with_reducible refine gate_store (t := 9) (p := 17) rfl ?_); refine store_event (t := 9) (p := 17) (v := ?vo_w13) (w1 := (w1.setCell ⟨g, x5.toNat * 3, none⟩ (.string t1))) ?hg ?ho ?hn ?hr ?_; (case ho => rfl); (case hg => rfl); (case hn => rfl); (case hr => first | (go_simp; done) | (go_simp; rfl)); intro w2 hw; have HP := part_store0_ HO1.out x5 P.out Q.out t1; rw [← hw] at HP; have HO2 := Aside0.mk HP.1; have HK3 := Aside0.mk (Kept.of_grown HP.2 HK2.out (fun k_ e_ => by injection e_ with e_; subst e_; exact (Kd.S_R HO1.out).1 _ rfl)); have HB2 := Aside0.mk (show Below w0.heap.size w0 w2 by rw [hw]; exact below_set HB1.out HG.out); clear HO1 HK2 HB1 HP hw ha0 ha1 ha2 hf0 hf1 hf2) | (go_at_call 110; (with_reducible refine (laws_markText.calls k1 (wrap64 (x1 + 1)) t2 _ A5.out).mono ?_); rintro e w3 ⟨rfl, hb3⟩; have HO3 := Aside0.mk (Kd.S_below HO2.out hb3); have HK4 := Aside0.mk (Kept.below HK3.out hb3); have HB3 := Aside0.mk (below_step HB2.out hb3); clear HO2 HK3 HB2 hb3; obtain ⟨u3, ok3, ha0, ha1, ha2, hf0, hf1, hf2, hq3, hR3, hback3⟩ := part_lend_ HO3.out x5 P.out Q.out (fun k_ h_ => .inr (Nat.le_trans HK4.out.1 h_)); clear hq3 hR3 hback3) | ((with_reducible refine gate_store (t := 9) (p := 25) rfl ?_); refine store_event (t := 9) (p := 25) (v := ?vo_w14) (w1 := (w3.setCell ⟨g, x5.toNat * 3 + 1, none⟩ (.string t2))) ?hg ?ho ?hn ?hr ?_; (case ho => rfl); (case hg => rfl); (case hn => rfl); (case hr => first | (go_simp; done) | (go_simp; rfl)); intro w4 hw; have HP := part_store1_ HO3.out x5 P.out Q.out t2; rw [← hw] at HP; have HO4 := Aside0.mk HP.1; have HK5 := Aside0.mk (Kept.of_grown HP.2 HK4.out (fun k_ e_ => by injection e_ with e_; subst e_; exact (Kd.S_R HO3.out).1 _ rfl)); have HB4 := Aside0.mk (show Below w0.heap.size w0 w4 by rw [hw]; exact below_set HB3.out HG.out); clear HO3 HK4 HB3 HP hw ha0 ha1 ha2 hf0 hf1 hf2; obtain ⟨u5, ok5, ha0, ha1, ha2, hf0, hf1, hf2, hq5, hR5, hback5⟩ := part_lend_ HO4.out x5 P.out Q.out (fun k_ h_ => .inr (Nat.le_trans HK5.out.1 h_)); have HQ5 := Aside0.mk hq5; have HR5 := Aside0.mk hR5; have HK5b := Aside0.mk hback5; clear hq5 hR5 hback5) | (go_at_call 154; (with_reducible refine (laws_markStringS.calls k1 ok5 u5 _ (wrap64 (wrap64 (x1 + 1) + 1)) q3 b3 w0 _ HB4.out HR5.out ?a6).mono ?_); (case a6 => rw [(part_two_ x0 x5 P.out (by rw [HN.out]; exact Q.out) t1 t2 _ _ rfl rfl).1]; exact A6.out); rintro e w5 ⟨rfl, hr5, hb5, hk5⟩; have HO5 := Aside0.mk (HK5b.out _ _ hk5 hr5); have HK6 := Aside0.mk (Kept.then_ HK5.out hk5 (fun k_ h_ => HQ5.out k_ h_)); have HB5 := Aside0.mk hb5; clear HO4 HK5 HB4 HR5 HK5b HQ5 hr5 hb5 hk5 ha0 ha1 ha2 hf0 hf1 hf2))
     go_roundg k1
     case measure => have := HK1.out; omega
     case rel =>
      refine ⟨x0.set x5.toNat ⟨t1, t2, b3⟩, q3, wrap64 (x5 + 1), rfl, rfl, H', ⟨by have := HK1.out; omega⟩, ⟨by rw [List.length_set]; exact HN.out⟩, ⟨?_⟩, HK6, HB5⟩
      have h9 := HO5.out
      rw [(part_two_ x0 x5 P.out (by rw [HN.out]; exact Q.out) t1 t2 _ _ rfl rfl).2 b3] at h9
      exact h9
    ·rw [if_neg c5] at H
     exact absurd H (by simp)
   ·rw [if_neg c3] at H
    have c3b0 : decide (x5 < (n : Int)) = false := decide_eq_false c3
    clear c3
    simp only [Option.some.injEq, Prod.mk.injEq] at H
    obtain ⟨rfl, rfl⟩ := H
    go_wp2
    go_ret
    exact ⟨rfl, HO.out, HB.out, HK.out⟩

/-! ### laws_markPartSS: function 57 -/
def rdL_ (xs : List (List S71)) (i : Int) : List S71 := xs.getD i.toNat ([] : List S71)
/-- a selector's cell; its row lent, and put back. -/
theorem sel_lend_ {W : World} {base g n cap : Nat} {ok : Nat → Prop} {xs : List (List S71)} (h : Kd.S kSel_ 35 W base ok (.slice (some ⟨g, 0, none⟩) n cap) xs) (i : Int) (h0 : 0 ≤ i) (h1 : i < n) (hok : ∀ k, W.heap.size ≤ k → ok k) :
  ∃ (u : Value) (oki : Nat → Prop), W.cell? ⟨g, i.toNat, none⟩ = some u ∧ W.frozen? ⟨g, i.toNat, none⟩ = false ∧
   (∀ k, oki k → ok k) ∧ Kd.S k71 71 W base oki u (rdL_ xs i) ∧
   ∀ (W' : World) (b : List S71), Kept W W' oki → Kd.S k71 71 W' base (fun k => oki k ∨ W.heap.size ≤ k) u b →
    Kd.S kSel_ 35 W' base ok (.slice (some ⟨g, 0, none⟩) n cap) (xs.set i.toNat b) := by
 obtain ⟨oki, c, hcl, hM, hcc, hfr, hoki, hH⟩ := Kd.S_elem h ([] : List S71) i h0 h1
 obtain ⟨u, rfl, hR⟩ := hM
 have e1 : i.toNat * (kSel_).sz + 0 = i.toNat := Nat.mul_one _
 have hc0 := hcc 0 _ rfl
 have hf0 := hfr 0
 rw [e1] at hc0 hf0
 refine ⟨u, oki, hc0, hf0, fun k hk => (hoki k hk).1, hR, fun W' b hk hb => ?_⟩
 have hW := Kd.H_step (w1 := W') (Kd.H_widen hH) (fun k _ hn hlt => hk.2 k hlt (fun h2 => hn (.inl h2)))
 exact Kd.H_back hW (x' := b) (okp := fun k => oki k ∨ W.heap.size ≤ k) ⟨u, rfl, hb⟩ (fun k hk => hk.imp id (fun h2 => ⟨hok k h2, h2⟩))
def laws_markPartSS.l0 : Nat → List (List S71) → Int → Int → Option (Int × List (List S71))
| 0, _, _, _ => none
| k + 1, x0, x1, x5 => if x5 < (x0.length : Int) then (if 0 ≤ x5 then ((laws_markPartS.f k (rdL_ x0 x5) x1).bind fun b3 => (laws_markPartSS.l0 k (x0.set x5.toNat b3.2) b3.1 (wrap64 (x5 + 1)))) else (none)) else (some (x1, x0))
def laws_markPartSS.f (k : Nat) (l0 : List (List S71)) (a1 : Int) : Option (Int × List (List S71)) := laws_markPartSS.l0 k l0 a1 0
set_option maxHeartbeats 8000000 in
set_option maxRecDepth 100000 in
theorem laws_markPartSS.calls (k : Nat) (P0_ : Nat → Prop) (u9000_ : Value) (l0 : List (List S71)) (a1 : Int) (r1 : Int) (r2 : List (List S71)) (w0 w : World) (hB : Below w0.heap.size w0 w) (ho0 : Kd.S kSel_ 35 w w0.heap.size P0_ u9000_ l0) (h : laws_markPartSS.f k l0 a1 = some (r1, r2)) :
 Calls Tryd.prog 57 #[u9000_, .int .i64 a1] w fun e w' => e = .returned (.int .i64 r1) ∧ Kd.S kSel_ 35 w' w0.heap.size (fun k_ => (P0_ k_ ∨ w.heap.size ≤ k_)) u9000_ r2 ∧ Below w0.heap.size w0 w' ∧ Kept w w' (fun k_ => P0_ k_) := by
 obtain ⟨A, cap, rfl⟩ := Kd.S_slice ho0
 have HO := Aside0.mk (Kd.S_mono ho0 (ok' := fun k_ => (P0_ k_ ∨ w.heap.size ≤ k_)) (fun k_ hk => .inl hk))
 have HK := Aside0.mk (Kept.refl w (fun k_ => P0_ k_))
 have HB := Aside0.mk hB
 have H' := Aside0.mk (show laws_markPartSS.l0 k l0 a1 0 = some (r1, r2) from h)
 obtain ⟨n, hn⟩ : ∃ n, n = l0.length := ⟨_, rfl⟩
 rw [← hn] at HO ⊢
 have HN := Aside0.mk hn.symm
 clear hB ho0 h hn
 go_enter Tryd.func57, Tryd.ntmps57
 go_wp2
 go_loopg [1, 5] k (fun kq v1 v5 w' => ∃ (x0 : List (List S71)) (x1 x5 : Int), v1 = .int .i64 x1 ∧ v5 = .int .i64 x5 ∧ Aside0 (laws_markPartSS.l0 kq x0 x1 x5 = some (r1, r2)) ∧ Aside0 (kq ≤ k) ∧ Aside0 (x0.length = n) ∧ Aside0 (Kd.S kSel_ 35 w' w0.heap.size (fun k_ => (P0_ k_ ∨ w.heap.size ≤ k_)) (.slice A n cap) x0) ∧ Aside0 (Kept w w' (fun k_ => P0_ k_)) ∧ Aside0 (Below w0.heap.size w0 w'))
 case atStart => exact ⟨l0, a1, 0, rfl, rfl, H', ⟨Nat.le_refl _⟩, HN, HO, HK, HB⟩
 case round =>
  clear H' HO HK HB HN
  obtain ⟨x0, x1, x5, rfl, rfl, HA, HK1, HN, HO, HK, HB⟩ := hrel
  cases gk with
  | zero => exact absurd HA.out (by simp [laws_markPartSS.l0])
  | succ k1 =>
   have H := HA.out
   clear HA
   simp only [laws_markPartSS.l0] at H
   rw [HN.out] at H
   by_cases c3 : x5 < (n : Int)
   ·rw [if_pos c3] at H
    by_cases c5 : 0 ≤ x5
    ·rw [if_pos c5] at H
     obtain ⟨⟨q3, b3⟩, A6, H⟩ := Option.bind_eq_some_iff.mp H
     have H' := Aside0.mk (show laws_markPartSS.l0 k1 (x0.set x5.toNat b3) q3 (wrap64 (x5 + 1)) = some (r1, r2) from H)
     clear H
     replace A6 := Aside0.mk A6
     obtain ⟨g, cap', eo, hg1, hg2, cells, hcells⟩ := Kd.S_form HO.out (by have := HN.out; omega)
     injection eo with ea_ en_ ec_
     subst ea_
     clear ec_ en_ hcells cells cap'
     have HG := Aside0.mk hg1
     clear hg1 hg2
     have p := c5
     have q := c3
     have c3b0 : decide (x5 < (n : Int)) = true := decide_eq_true c3
     have P := Aside0.mk c5
     have Q := Aside0.mk c3
     replace p := eq_true p
     replace q := eq_true q
     clear c3 c5
     obtain ⟨u5, ok5, ha0, hf0, hq5, hR5, hback5⟩ := sel_lend_ HO.out x5 P.out Q.out (fun k_ h_ => .inr (Nat.le_trans HK.out.1 h_))
     have HQ5 := Aside0.mk hq5
     have HR5 := Aside0.mk hR5
     have HK5b := Aside0.mk hback5
     clear hq5 hR5 hback5
     go_wp2_with (first | (go_at_call 109; (with_reducible refine (laws_markPartS.calls k1 ok5 u5 _ x1 q3 b3 w0 _ bel_ (kdS_ HR5.out) A6.out).mono ?_); rintro e w5 ⟨rfl, hr5, hb5, hk5⟩; have HO5 := Aside0.mk (HK5b.out _ _ hk5 hr5); have HK6 := Aside0.mk (Kept.then_ HK.out hk5 (fun k_ h_ => HQ5.out k_ h_)); have HB5 := Aside0.mk hb5; clear HO HK HB HR5 HK5b HQ5 hr5 hb5 hk5 ha0 hf0))
     go_roundg k1
     case measure => have := HK1.out; omega
     case rel =>
      exact ⟨x0.set x5.toNat b3, q3, wrap64 (x5 + 1), rfl, rfl, H', ⟨by have := HK1.out; omega⟩, ⟨by rw [List.length_set]; exact HN.out⟩, HO5, HK6, HB5⟩
    ·rw [if_neg c5] at H
     exact absurd H (by simp)
   ·rw [if_neg c3] at H
    have c3b0 : decide (x5 < (n : Int)) = false := decide_eq_false c3
    clear c3
    simp only [Option.some.injEq, Prod.mk.injEq] at H
    obtain ⟨rfl, rfl⟩ := H
    go_wp2
    go_ret
    exact ⟨rfl, HO.out, HB.out, HK.out⟩

/-! ### laws_markDeclS: function 58 -/
def laws_markDeclS.l0 : Nat → List (S123) → Int → Int → Option (Int × (List (S123)))
 | 0, _, _, _ => none
 | k + 1, x0, x1, x5 => if x5 < (x0.length : Int) then ((laws_markText.f k x1).bind fun t293 => (if 0 ≤ x5 then ((some (x0.set (x5 : Int).toNat (⟨t293, (rd_T123 x0 x5).f1, (rd_T123 x0 x5).f2⟩ : S123) : List (S123))).bind fun y294 => ((laws_markText.f k (wrap64 (x1 + 1))).bind fun t295 => ((some (y294.set (x5 : Int).toNat (⟨(rd_T123 y294 x5).f0, t295, (rd_T123 y294 x5).f2⟩ : S123) : List (S123))).bind fun y296 => (laws_markDeclS.l0 k (y296.set (x5 : Int).toNat (⟨(rd_T123 y296 x5).f0, (rd_T123 y296 x5).f1, ((Int.tmod (wrap64 ((wrap64 (x1 + 1)) + 1)) 3) == 0)⟩ : S123)) (wrap64 ((wrap64 ((wrap64 (x1 + 1)) + 1)) + 1)) (wrap64 (x5 + 1)))))) else (none))) else (some (x1, x0))
def laws_markDeclS.f (k : Nat) (l0 : List (S123)) (a1 : Int) : Option (Int × (List (S123))) := laws_markDeclS.l0 k l0 a1 0
set_option maxHeartbeats 8000000 in
set_option maxRecDepth 100000 in
theorem laws_markDeclS.calls (k : Nat) (P0_ : Nat → Prop) (u9000_ : Value) (l0 : List (S123)) (a1 : Int) (r1 : Int) (r2 : List (S123)) (w0 w : World) (hB : Below w0.heap.size w0 w) (ho0 : Kd.R k123 123 w w0.heap.size P0_ u9000_ l0) (h : laws_markDeclS.f k l0 a1 = some (r1, r2)) :
  Calls Tryd.prog 58 #[u9000_, .int .i64 a1] w fun e w' => e = .returned (.int .i64 r1) ∧ Kd.R k123 123 w' w0.heap.size (fun k_ => (P0_ k_ ∨ w.heap.size ≤ k_)) u9000_ r2 ∧ Below w0.heap.size w0 w' ∧ Kept w w' (fun k_ => P0_ k_) := by
 have HO0 := Aside0.mk (show Kd.R k123 123 w w0.heap.size (fun k_ => (P0_ k_ ∨ w.heap.size ≤ k_)) u9000_ l0 from Kd.R_mono ho0 (fun k_ hk => (.inl hk)))
 have HK := Aside0.mk (Kept.refl w (fun k_ => P0_ k_))
 have HW0 := Aside0.mk hB.size
 have HB := Aside0.mk hB
 clear hB
 have H : (laws_markDeclS.l0 k l0 a1 0) = some (r1, r2) := h
 clear h
 have H' := Aside0.mk H
 clear H
 go_enter Tryd.func58, Tryd.ntmps58
 go_wp2
 go_loopg [1, 5] k (fun kq v1 v5 w' => ∃ (x0_1 : List (S123)) (x1_1 : Int) (x5_1 : Int), v1 = .int .i64 x1_1 ∧ v5 = .int .i64 x5_1 ∧ Aside0 (laws_markDeclS.l0 kq x0_1 x1_1 x5_1 = some (r1, r2)) ∧ Aside0 (kq ≤ k) ∧ Aside0 (Kd.R k123 123 w' w0.heap.size (fun k_ => (P0_ k_ ∨ w.heap.size ≤ k_)) u9000_ x0_1) ∧ Aside0 (Kept w w' (fun k_ => P0_ k_)) ∧ Aside0 (Below w0.heap.size w0 w'))
 case atStart => exact ⟨(l0), (a1), (0), sv_, sv_, H', ⟨Nat.le_refl _⟩, ⟨by (with_reducible repeat (first | apply Kd.R_alloc | apply Kd.R_drewN | apply Kd.R_drew)); exact HO0.out⟩, ⟨by repeat (first | (with_reducible first | exact HK.out | apply Kept.alloc | apply Kept.drewN | apply Kept.drew) | exact HK.out)⟩, ⟨bel_⟩⟩
 case round =>
  clear H'
  (try clear p2)
  obtain ⟨x0_1, x1_1, x5_1, rfl, rfl, HA, HK1, HO_0, HK, HB⟩ := hrel
  cases gk with
  | zero => exact absurd HA.out (by simp [laws_markDeclS.l0])
  | succ k1 =>
   have H := HA.out
   clear HA
   simp only [laws_markDeclS.l0] at H
   by_cases c3 : x5_1 < (x0_1.length : Int)
   ·rw [if_pos c3] at H
    have c3b0 : decide (x5_1 < (x0_1.length : Int)) = true := decide_eq_true c3
    clear c3
    replace H := Option.bind_eq_some_iff.mp H
    obtain ⟨t293, A40, H⟩ := H
    replace H : (if 0 ≤ x5_1 then ((some (x0_1.set (x5_1 : Int).toNat (⟨t293, (rd_T123 x0_1 x5_1).f1, (rd_T123 x0_1 x5_1).f2⟩ : S123) : List (S123))).bind fun y294 => ((laws_markText.f k1 (wrap64 (x1_1 + 1))).bind fun t295 => ((some (y294.set (x5_1 : Int).toNat (⟨(rd_T123 y294 x5_1).f0, t295, (rd_T123 y294 x5_1).f2⟩ : S123) : List (S123))).bind fun y296 => (laws_markDeclS.l0 k1 (y296.set (x5_1 : Int).toNat (⟨(rd_T123 y296 x5_1).f0, (rd_T123 y296 x5_1).f1, ((Int.tmod (wrap64 ((wrap64 (x1_1 + 1)) + 1)) 3) == 0)⟩ : S123)) (wrap64 ((wrap64 ((wrap64 (x1_1 + 1)) + 1)) + 1)) (wrap64 (x5_1 + 1)))))) else (none)) = some (r1, r2) := H
    have A4 := Aside0.mk A40
    clear A40
    by_cases c5 : 0 ≤ x5_1
    ·rw [if_pos c5] at H
     have c5b0 : decide (0 ≤ x5_1) = true := decide_eq_true c5
     clear c5
     obtain ⟨y294, hy294⟩ : ∃ y_ : List (S123), y_ = (x0_1.set (x5_1 : Int).toNat (⟨t293, (rd_T123 x0_1 x5_1).f1, (rd_T123 x0_1 x5_1).f2⟩ : S123)) := ⟨_, rfl⟩
     replace H : ((laws_markText.f k1 (wrap64 (x1_1 + 1))).bind fun t295 => ((some (y294.set (x5_1 : Int).toNat (⟨(rd_T123 y294 x5_1).f0, t295, (rd_T123 y294 x5_1).f2⟩ : S123) : List (S123))).bind fun y296 => (laws_markDeclS.l0 k1 (y296.set (x5_1 : Int).toNat (⟨(rd_T123 y296 x5_1).f0, (rd_T123 y296 x5_1).f1, ((Int.tmod (wrap64 ((wrap64 (x1_1 + 1)) + 1)) 3) == 0)⟩ : S123)) (wrap64 ((wrap64 ((wrap64 (x1_1 + 1)) + 1)) + 1)) (wrap64 (x5_1 + 1))))) = some (r1, r2) := by first | (rw [hy294]; with_reducible exact H) | (have H2_ := (Option.bind_some _ _).symm.trans H; rw [hy294]; with_reducible exact H2_) | (have H2_ := (Option.bind_some _ _).symm.trans H; with_reducible exact H2_) | with_reducible exact H | (rw [hy294]; exact H) | exact H
     have Ny294 := Aside0.mk hy294
     clear hy294
     replace H := Option.bind_eq_some_iff.mp H
     obtain ⟨t295, A70, H⟩ := H
     replace H : ((some (y294.set (x5_1 : Int).toNat (⟨(rd_T123 y294 x5_1).f0, t295, (rd_T123 y294 x5_1).f2⟩ : S123) : List (S123))).bind fun y296 => (laws_markDeclS.l0 k1 (y296.set (x5_1 : Int).toNat (⟨(rd_T123 y296 x5_1).f0, (rd_T123 y296 x5_1).f1, ((Int.tmod (wrap64 ((wrap64 (x1_1 + 1)) + 1)) 3) == 0)⟩ : S123)) (wrap64 ((wrap64 ((wrap64 (x1_1 + 1)) + 1)) + 1)) (wrap64 (x5_1 + 1)))) = some (r1, r2) := H
     have A7 := Aside0.mk A70
     clear A70
     obtain ⟨y296, hy296⟩ : ∃ y_ : List (S123), y_ = (y294.set (x5_1 : Int).toNat (⟨(rd_T123 y294 x5_1).f0, t295, (rd_T123 y294 x5_1).f2⟩ : S123)) := ⟨_, rfl⟩
     replace H : (laws_markDeclS.l0 k1 (y296.set (x5_1 : Int).toNat (⟨(rd_T123 y296 x5_1).f0, (rd_T123 y296 x5_1).f1, ((Int.tmod (wrap64 ((wrap64 (x1_1 + 1)) + 1)) 3) == 0)⟩ : S123)) (wrap64 ((wrap64 ((wrap64 (x1_1 + 1)) + 1)) + 1)) (wrap64 (x5_1 + 1))) = some (r1, r2) := by first | (rw [hy296]; with_reducible exact H) | (have H2_ := (Option.bind_some _ _).symm.trans H; rw [hy296]; with_reducible exact H2_) | (have H2_ := (Option.bind_some _ _).symm.trans H; with_reducible exact H2_) | with_reducible exact H | (rw [hy296]; exact H) | exact H
     have Ny296 := Aside0.mk hy296
     clear hy296
     obtain ⟨y297, hy297⟩ : ∃ y_ : List (S123), y_ = (y296.set (x5_1 : Int).toNat (⟨(rd_T123 y296 x5_1).f0, (rd_T123 y296 x5_1).f1, ((Int.tmod (wrap64 ((wrap64 (x1_1 + 1)) + 1)) 3) == 0)⟩ : S123)) := ⟨_, rfl⟩
     replace H : (laws_markDeclS.l0 k1 y297 (wrap64 ((wrap64 ((wrap64 (x1_1 + 1)) + 1)) + 1)) (wrap64 (x5_1 + 1))) = some (r1, r2) := by first | (rw [hy297]; with_reducible exact H) | (have H2_ := (Option.bind_some _ _).symm.trans H; rw [hy297]; with_reducible exact H2_) | (have H2_ := (Option.bind_some _ _).symm.trans H; with_reducible exact H2_) | with_reducible exact H | (rw [hy297]; exact H) | exact H
     have Ny297 := Aside0.mk hy297
     clear hy297
     have H' := Aside0.mk H
     clear H
     obtain ⟨Ao10, co10, eo10⟩ := Kd.R_slice HO_0.out
     subst eo10
     go_wp2_with (first | ((with_reducible refine gate_callee (f := 110) rfl ?_); refine goesL_ (some 15) rfl rfl Tryd.func110 (by kernel_rfl) rfl #[.int .i64 x1_1] rfl au_ ?_; (with_reducible refine (laws_markText.calls k1 x1_1 t293 _ A4.out).mono ?_); rintro e w11 ⟨rfl, hb⟩; refine ⟨_, rfl, ?_⟩; have n0_ := Aside0.mk (Kd.R_below (kdR_ HO_0.out) hb); have n1_ := Aside0.mk (Kept.below (S := (fun k_ => P0_ k_)) (by repeat (first | (with_reducible first | exact HK.out | apply Kept.alloc | apply Kept.drewN | apply Kept.drew) | exact HK.out)) hb); have n2_ := Aside0.mk (below_step bel_ hb); clear HO_0; clear HK; clear HB; have HO_0 := n0_; have HK := n1_; have HB := n2_; clear n0_ n1_ n2_; (try clear hb);(try clear hb2);(try clear hk);(try clear hi); have p6 : 0 ≤ (x5_1 : Int) := of_decide_eq_true am_; have q6 : (x5_1 : Int) < ((x0_1.length : Int) : Int) := of_decide_eq_true am_; obtain ⟨go6, co6, eo6, gb6, gl6, cl6, HG6⟩ := Kd.R_form HO_0.out (by omega); (first | cases eo6 | (injection eo6 with ea_ en_ ec_; (first | subst ea_ | (injection ea_ with ea_; subst ea_)); subst ec_; clear en_)); have GB6 := Aside0.mk gb6; have GG6 := Aside0.mk HG6; clear gb6 gl6 HG6; have HMgo6 := Aside0.mk (show (P0_ go6 ∨ w.heap.size ≤ go6) from (HO_0.out.1 _ rfl)); obtain ⟨ce6, hcl6, hM6, hcc6, hfr6⟩ := Kd.R_elem HO_0.out z123 (x5_1 : Int) p6 q6; obtain rfl := k123_openM hM6; have hx6_0 : w11.cell? ⟨go6, (x5_1 : Int).toNat * 3, none⟩ = some (.string ((rd_T123 x0_1 x5_1).f0)) := hcc6 0 _ rfl; have hx6_1 : w11.cell? ⟨go6, (x5_1 : Int).toNat * 3 + 1, none⟩ = some (.string ((rd_T123 x0_1 x5_1).f1)) := hcc6 1 _ rfl; have hx6_2 : w11.cell? ⟨go6, (x5_1 : Int).toNat * 3 + 2, none⟩ = some (.bool ((rd_T123 x0_1 x5_1).f2)) := hcc6 2 _ rfl; have hf6_0 : w11.frozen? ⟨go6, (x5_1 : Int).toNat * 3, none⟩ = false := hfr6 0; have hf6_1 : w11.frozen? ⟨go6, (x5_1 : Int).toNat * 3 + 1, none⟩ = false := hfr6 1; have hf6_2 : w11.frozen? ⟨go6, (x5_1 : Int).toNat * 3 + 2, none⟩ = false := hfr6 2; (first | clear hcl6 hcc6 hfr6 hM6 | clear hcl6 hcc6 hfr6); replace p6 := eq_true p6; replace q6 := eq_true q6; have HX12 := Aside0.mk (show Kd.R k123 123 w11 w0.heap.size (fun k_ => (P0_ k_ ∨ w.heap.size ≤ k_)) (.slice (some ⟨go6, 0, none⟩) x0_1.length co10) x0_1 from (kdR_ HO_0.out)); obtain ⟨ce12, hcl12, hM12, hcc12, hfr12⟩ := Kd.R_elem HX12.out z123 (x5_1 : Int) (of_decide_eq_true am_) (by have h_ : (x5_1 : Int) < ((x0_1.length : Int) : Int) := of_decide_eq_true am_; first | exact h_ | (have e_ := (Kd.R_reads' HO_0.out).1; omega) | simpa using h_); obtain rfl := k123_openM hM12; have HP12 := Kd.R_seg HX12.out (x5_1 : Int) (of_decide_eq_true am_) (by have h_ : (x5_1 : Int) < ((x0_1.length : Int) : Int) := of_decide_eq_true am_; first | exact h_ | (have e_ := (Kd.R_reads' HO_0.out).1; omega) | simpa using h_) (seg := [.string t293]) (j := 0) hcl12 hcc12 (show 1 ≤ 3 from by decide) (x' := (⟨t293, (rd_T123 x0_1 x5_1).f1, (rd_T123 x0_1 x5_1).f2⟩ : S123)) (k123_mkM _ _ _ (⟨t293, (rd_T123 x0_1 x5_1).f1, (rd_T123 x0_1 x5_1).f2⟩ : S123) ) (fun _ hk => hk); have hx12_0 := hcc12 0 _ rfl; (try simp only [show (k123).sz = 3 from rfl, Nat.mul_one, Nat.add_zero] at hx12_0); have hf12_0 := hfr12 0; (try simp only [show (k123).sz = 3 from rfl, Nat.mul_one, Nat.add_zero] at hf12_0); (first | clear hcl12 hcc12 hfr12 hM12 | clear hcl12 hcc12 hfr12)) | ((with_reducible refine gate_store (t := 9) (p := 17) rfl ?_); refine store_event (t := 9) (p := 17) (v := ?vo_w13) (w1 := (w11.setCell ⟨go6, (x5_1 : Int).toNat * 3, none⟩ (.string t293))) ?hg ?ho ?hn ?hr ?_; (case ho => rfl); (case hg => rfl); (case hn => rfl); (case hr => first | (go_simp; done) | (go_simp; rfl)); intro w13 hw; have hg : w11.grownBy w13 (some go6) := (by rw [hw]; exact HP12.2); have hp_ : Kd.R k123 123 w13 w0.heap.size (fun k_ => (P0_ k_ ∨ w.heap.size ≤ k_)) (.slice (some ⟨go6, 0, none⟩) x0_1.length co10) y294 := (by rw [hw, Ny294.out]; exact HP12.1); clear HP12; have n0_ := Aside0.mk (hp_); have n1_ := Aside0.mk ((by rw [hw]; exact below_set (HB.out) GB6.out : Below w0.heap.size w0 w13)); have n2_ := Aside0.mk (Kept.of_grown (S := (fun k_ => P0_ k_)) hg (by repeat (first | (with_reducible first | exact HK.out | apply Kept.alloc | apply Kept.drewN | apply Kept.drew) | exact HK.out)) (fun k_ e_ => (HO_0.out.1 k_ e_))); clear HO_0; clear HB; clear HK; have HO_0 := n0_; have HB := n1_; have HK := n2_; clear n0_ n1_ n2_; clear hg hw hp_) | ((with_reducible refine gate_callee (f := 110) rfl ?_); refine goesL_ (some 23) rfl rfl Tryd.func110 (by kernel_rfl) rfl #[.int .i64 (wrap64 (x1_1 + 1))] rfl au_ ?_; (with_reducible refine (laws_markText.calls k1 (wrap64 (x1_1 + 1)) t295 _ A7.out).mono ?_); rintro e w14 ⟨rfl, hb⟩; refine ⟨_, rfl, ?_⟩; have n0_ := Aside0.mk (Kd.R_below (kdR_ HO_0.out) hb); have n1_ := Aside0.mk (Kept.below (S := (fun k_ => P0_ k_)) (by repeat (first | (with_reducible first | exact HK.out | apply Kept.alloc | apply Kept.drewN | apply Kept.drew) | exact HK.out)) hb); have n2_ := Aside0.mk (below_step bel_ hb); clear HO_0; clear HK; clear HB; have HO_0 := n0_; have HK := n1_; have HB := n2_; clear n0_ n1_ n2_; (try clear hb);(try clear hb2);(try clear hk);(try clear hi); have p8 : 0 ≤ (x5_1 : Int) := of_decide_eq_true am_; have q8 : (x5_1 : Int) < ((x0_1.length : Int) : Int) := of_decide_eq_true am_; obtain ⟨ce8, hcl8, hM8, hcc8, hfr8⟩ := Kd.R_elem HO_0.out z123 (x5_1 : Int) p8 q8; obtain rfl := k123_openM hM8; have hx8_0 : w14.cell? ⟨go6, (x5_1 : Int).toNat * 3, none⟩ = some (.string ((rd_T123 y294 x5_1).f0)) := hcc8 0 _ rfl; have hx8_1 : w14.cell? ⟨go6, (x5_1 : Int).toNat * 3 + 1, none⟩ = some (.string ((rd_T123 y294 x5_1).f1)) := hcc8 1 _ rfl; have hx8_2 : w14.cell? ⟨go6, (x5_1 : Int).toNat * 3 + 2, none⟩ = some (.bool ((rd_T123 y294 x5_1).f2)) := hcc8 2 _ rfl; have hf8_0 : w14.frozen? ⟨go6, (x5_1 : Int).toNat * 3, none⟩ = false := hfr8 0; have hf8_1 : w14.frozen? ⟨go6, (x5_1 : Int).toNat * 3 + 1, none⟩ = false := hfr8 1; have hf8_2 : w14.frozen? ⟨go6, (x5_1 : Int).toNat * 3 + 2, none⟩ = false := hfr8 2; (first | clear hcl8 hcc8 hfr8 hM8 | clear hcl8 hcc8 hfr8); replace p8 := eq_true p8; replace q8 := eq_true q8; have HX15 := Aside0.mk (show Kd.R k123 123 w14 w0.heap.size (fun k_ => (P0_ k_ ∨ w.heap.size ≤ k_)) (.slice (some ⟨go6, 0, none⟩) x0_1.length co10) y294 from (kdR_ HO_0.out)); obtain ⟨ce15, hcl15, hM15, hcc15, hfr15⟩ := Kd.R_elem HX15.out z123 (x5_1 : Int) (of_decide_eq_true am_) (by have h_ : (x5_1 : Int) < ((x0_1.length : Int) : Int) := of_decide_eq_true am_; first | exact h_ | (have e_ := (Kd.R_reads' HO_0.out).1; omega) | simpa using h_); obtain rfl := k123_openM hM15; have HP15 := Kd.R_seg HX15.out (x5_1 : Int) (of_decide_eq_true am_) (by have h_ : (x5_1 : Int) < ((x0_1.length : Int) : Int) := of_decide_eq_true am_; first | exact h_ | (have e_ := (Kd.R_reads' HO_0.out).1; omega) | simpa using h_) (seg := [.string t295]) (j := 1) hcl15 hcc15 (show 2 ≤ 3 from by decide) (x' := (⟨(rd_T123 y294 x5_1).f0, t295, (rd_T123 y294 x5_1).f2⟩ : S123)) (k123_mkM _ _ _ (⟨(rd_T123 y294 x5_1).f0, t295, (rd_T123 y294 x5_1).f2⟩ : S123) ) (fun _ hk => hk); have hx15_1 := hcc15 1 _ rfl; (try simp only [show (k123).sz = 3 from rfl, Nat.mul_one, Nat.add_zero] at hx15_1); have hf15_1 := hfr15 1; (try simp only [show (k123).sz = 3 from rfl, Nat.mul_one, Nat.add_zero] at hf15_1); (first | clear hcl15 hcc15 hfr15 hM15 | clear hcl15 hcc15 hfr15)) | ((with_reducible refine gate_store (t := 9) (p := 25) rfl ?_); refine store_event (t := 9) (p := 25) (v := ?vo_w16) (w1 := (w14.setCell ⟨go6, (x5_1 : Int).toNat * 3 + 1, none⟩ (.string t295))) ?hg ?ho ?hn ?hr ?_; (case ho => rfl); (case hg => rfl); (case hn => rfl); (case hr => first | (go_simp; done) | (go_simp; rfl)); intro w16 hw; have hg : w14.grownBy w16 (some go6) := (by rw [hw]; exact HP15.2); have hp_ : Kd.R k123 123 w16 w0.heap.size (fun k_ => (P0_ k_ ∨ w.heap.size ≤ k_)) (.slice (some ⟨go6, 0, none⟩) x0_1.length co10) y296 := (by rw [hw, Ny296.out]; exact HP15.1); clear HP15; have n0_ := Aside0.mk (hp_); have n1_ := Aside0.mk ((by rw [hw]; exact below_set (HB.out) GB6.out : Below w0.heap.size w0 w16)); have n2_ := Aside0.mk (Kept.of_grown (S := (fun k_ => P0_ k_)) hg (by repeat (first | (with_reducible first | exact HK.out | apply Kept.alloc | apply Kept.drewN | apply Kept.drew) | exact HK.out)) (fun k_ e_ => (HO_0.out.1 k_ e_))); clear HO_0; clear HB; clear HK; have HO_0 := n0_; have HB := n1_; have HK := n2_; clear n0_ n1_ n2_; clear hg hw hp_; have p9 : 0 ≤ (x5_1 : Int) := of_decide_eq_true am_; have q9 : (x5_1 : Int) < ((x0_1.length : Int) : Int) := of_decide_eq_true am_; obtain ⟨ce9, hcl9, hM9, hcc9, hfr9⟩ := Kd.R_elem HO_0.out z123 (x5_1 : Int) p9 q9; obtain rfl := k123_openM hM9; have hx9_0 : w16.cell? ⟨go6, (x5_1 : Int).toNat * 3, none⟩ = some (.string ((rd_T123 y296 x5_1).f0)) := hcc9 0 _ rfl; have hx9_1 : w16.cell? ⟨go6, (x5_1 : Int).toNat * 3 + 1, none⟩ = some (.string ((rd_T123 y296 x5_1).f1)) := hcc9 1 _ rfl; have hx9_2 : w16.cell? ⟨go6, (x5_1 : Int).toNat * 3 + 2, none⟩ = some (.bool ((rd_T123 y296 x5_1).f2)) := hcc9 2 _ rfl; have hf9_0 : w16.frozen? ⟨go6, (x5_1 : Int).toNat * 3, none⟩ = false := hfr9 0; have hf9_1 : w16.frozen? ⟨go6, (x5_1 : Int).toNat * 3 + 1, none⟩ = false := hfr9 1; have hf9_2 : w16.frozen? ⟨go6, (x5_1 : Int).toNat * 3 + 2, none⟩ = false := hfr9 2; (first | clear hcl9 hcc9 hfr9 hM9 | clear hcl9 hcc9 hfr9); replace p9 := eq_true p9; replace q9 := eq_true q9; have HX17 := Aside0.mk (show Kd.R k123 123 w16 w0.heap.size (fun k_ => (P0_ k_ ∨ w.heap.size ≤ k_)) (.slice (some ⟨go6, 0, none⟩) x0_1.length co10) y296 from (kdR_ HO_0.out)); obtain ⟨ce17, hcl17, hM17, hcc17, hfr17⟩ := Kd.R_elem HX17.out z123 (x5_1 : Int) (of_decide_eq_true am_) (by have h_ : (x5_1 : Int) < ((x0_1.length : Int) : Int) := of_decide_eq_true am_; first | exact h_ | (have e_ := (Kd.R_reads' HO_0.out).1; omega) | simpa using h_); obtain rfl := k123_openM hM17; have HP17 := Kd.R_seg HX17.out (x5_1 : Int) (of_decide_eq_true am_) (by have h_ : (x5_1 : Int) < ((x0_1.length : Int) : Int) := of_decide_eq_true am_; first | exact h_ | (have e_ := (Kd.R_reads' HO_0.out).1; omega) | simpa using h_) (seg := [.bool ((Int.tmod (wrap64 ((wrap64 (x1_1 + 1)) + 1)) 3) == 0)]) (j := 2) hcl17 hcc17 (show 3 ≤ 3 from by decide) (x' := (⟨(rd_T123 y296 x5_1).f0, (rd_T123 y296 x5_1).f1, ((Int.tmod (wrap64 ((wrap64 (x1_1 + 1)) + 1)) 3) == 0)⟩ : S123)) (k123_mkM _ _ _ (⟨(rd_T123 y296 x5_1).f0, (rd_T123 y296 x5_1).f1, ((Int.tmod (wrap64 ((wrap64 (x1_1 + 1)) + 1)) 3) == 0)⟩ : S123) ) (fun _ hk => hk); have hx17_2 := hcc17 2 _ rfl; (try simp only [show (k123).sz = 3 from rfl, Nat.mul_one, Nat.add_zero] at hx17_2); have hf17_2 := hfr17 2; (try simp only [show (k123).sz = 3 from rfl, Nat.mul_one, Nat.add_zero] at hf17_2); (first | clear hcl17 hcc17 hfr17 hM17 | clear hcl17 hcc17 hfr17)) | ((with_reducible refine gate_store (t := 4) (p := 34) rfl ?_); refine store_event (t := 4) (p := 34) (v := ?vo_w18) (w1 := (w16.setCell ⟨go6, (x5_1 : Int).toNat * 3 + 2, none⟩ (.bool ((Int.tmod (wrap64 ((wrap64 (x1_1 + 1)) + 1)) 3) == 0)))) ?hg ?ho ?hn ?hr ?_; (case ho => rfl); (case hg => rfl); (case hn => rfl); (case hr => first | (go_simp; done) | (go_simp; rfl)); intro w18 hw; have hg : w16.grownBy w18 (some go6) := (by rw [hw]; exact HP17.2); have hp_ : Kd.R k123 123 w18 w0.heap.size (fun k_ => (P0_ k_ ∨ w.heap.size ≤ k_)) (.slice (some ⟨go6, 0, none⟩) x0_1.length co10) y297 := (by rw [hw, Ny297.out]; exact HP17.1); clear HP17; have n0_ := Aside0.mk (hp_); have n1_ := Aside0.mk ((by rw [hw]; exact below_set (HB.out) GB6.out : Below w0.heap.size w0 w18)); have n2_ := Aside0.mk (Kept.of_grown (S := (fun k_ => P0_ k_)) hg (by repeat (first | (with_reducible first | exact HK.out | apply Kept.alloc | apply Kept.drewN | apply Kept.drew) | exact HK.out)) (fun k_ e_ => (HO_0.out.1 k_ e_))); clear HO_0; clear HB; clear HK; have HO_0 := n0_; have HB := n1_; have HK := n2_; clear n0_ n1_ n2_; clear hg hw hp_))
     go_roundg k1
     case measure => have := HK1.out; omega
     case rel => exact ⟨(y297), (wrap64 ((wrap64 ((wrap64 (x1_1 + 1)) + 1)) + 1)), (wrap64 (x5_1 + 1)), sv_, sv_, H', ⟨by have := HK1.out; omega⟩, ⟨by (with_reducible repeat (first | apply Kd.R_alloc | apply Kd.R_drewN | apply Kd.R_drew)); exact HO_0.out⟩, ⟨by repeat (first | (with_reducible first | exact HK.out | apply Kept.alloc | apply Kept.drewN | apply Kept.drew) | exact HK.out)⟩, ⟨bel_⟩⟩
    ·rw [if_neg c5] at H
     exact absurd H (by simp)
   ·rw [if_neg c3] at H
    have c3b0 : decide (x5_1 < (x0_1.length : Int)) = false := decide_eq_false c3
    clear c3
    simp only [Option.some.injEq, Prod.mk.injEq] at H
    obtain ⟨rfl, rfl⟩ := H
    obtain ⟨Ao19, co19, eo19⟩ := Kd.R_slice HO_0.out
    subst eo19
    go_wp2
    go_ret
    exact ⟨er_, by (with_reducible repeat (first | apply Kd.R_alloc | apply Kd.R_drewN | apply Kd.R_drew)); exact HO_0.out, bel_, by repeat (first | (with_reducible first | exact HK.out | apply Kept.alloc | apply Kept.drewN | apply Kept.drew) | exact HK.out)⟩

/-! ### laws_markRuleS: function 23 -/
/-- a rule's cells; its row of selectors lent, and put back. -/
theorem rule_lend0_ {W : World} {base g n cap : Nat} {ok : Nat → Prop} {xs : List S90} (h : Kd.S kRule_ 90 W base ok (.slice (some ⟨g, 0, none⟩) n cap) xs) (i : Int) (h0 : 0 ≤ i) (h1 : i < n) (hok : ∀ k, W.heap.size ≤ k → ok k) :
  ∃ (u : Value) (oki : Nat → Prop), W.cell? ⟨g, i.toNat * 2, none⟩ = some u ∧ W.frozen? ⟨g, i.toNat * 2, none⟩ = false ∧
   (∀ k, oki k → ok k) ∧ Kd.S kSel_ 35 W base oki u (rd_T90 xs i).f0 ∧
   ∀ (W' : World) (b : List (List S71)), Kept W W' oki → Kd.S kSel_ 35 W' base (fun k => oki k ∨ W.heap.size ≤ k) u b →
    Kd.S kRule_ 90 W' base ok (.slice (some ⟨g, 0, none⟩) n cap) (xs.set i.toNat ⟨b, (rd_T90 xs i).f1⟩) := by
 obtain ⟨oki, c, hcl, hM, hcc, hfr, hoki, hH⟩ := Kd.S_elem h z90 i h0 h1
 obtain ⟨u, v, rfl, hS, hR⟩ := kRule_openM_ hM
 refine ⟨u, _, hcc 0 _ rfl, hfr 0, fun k hk => (hoki k hk.1).1, Kd.S_bound hS, fun W' b hk hb => ?_⟩
 have hW := Kd.H_step (w1 := W') (Kd.H_widen hH) (fun k _ hn hlt => hk.2 k hlt (fun h2 => hn (.inl h2.1)))
 have hR' : Kd.R k123 123 W' base oki v (rd_T90 xs i).f1 := by
  refine Kd.R_mono (Kd.R_move (Kd.R_bound hR) (fun k h3 => hk.2 k h3.2.2.1 (fun h4 => ?_))) (fun k h3 => h3.1)
  obtain ⟨_, _, _, q, hq, cells, hc⟩ := h3
  obtain ⟨_, _, _, q', hq', cells', hc'⟩ := h4
  rw [hc] at hc'
  injection hc' with hc'
  injection hc' with _ e
  subst e
  revert hq hq'
  show q ∈ [123] → q ∈ [35, 71, 9] → False
  intro hq hq'
  simp at hq hq'
  omega
 exact Kd.H_back hW (x' := ⟨b, (rd_T90 xs i).f1⟩) (okp := fun k => oki k ∨ W.heap.size ≤ k) (kRule_mkM_ (Kd.S_mono hb (fun k hk => hk.imp (fun h2 => h2.1) id)) (Kd.R_mono hR' (fun k hk => .inl hk))) (fun k hk => hk.imp id (fun h2 => ⟨hok k h2, h2⟩))
/-- a rule's row of declarations lent, and put back. -/
theorem rule_lend1_ {W : World} {base g n cap : Nat} {ok : Nat → Prop} {xs : List S90} (h : Kd.S kRule_ 90 W base ok (.slice (some ⟨g, 0, none⟩) n cap) xs) (i : Int) (h0 : 0 ≤ i) (h1 : i < n) (hok : ∀ k, W.heap.size ≤ k → ok k) :
  ∃ (u : Value) (oki : Nat → Prop), W.cell? ⟨g, i.toNat * 2 + 1, none⟩ = some u ∧ W.frozen? ⟨g, i.toNat * 2 + 1, none⟩ = false ∧
   (∀ k, oki k → ok k) ∧ Kd.R k123 123 W base oki u (rd_T90 xs i).f1 ∧
   ∀ (W' : World) (b : List S123), Kept W W' oki → Kd.R k123 123 W' base (fun k => oki k ∨ W.heap.size ≤ k) u b →
    Kd.S kRule_ 90 W' base ok (.slice (some ⟨g, 0, none⟩) n cap) (xs.set i.toNat ⟨(rd_T90 xs i).f0, b⟩) := by
 obtain ⟨oki, c, hcl, hM, hcc, hfr, hoki, hH⟩ := Kd.S_elem h z90 i h0 h1
 obtain ⟨u, v, rfl, hS, hR⟩ := kRule_openM_ hM
 refine ⟨v, _, hcc 1 _ rfl, hfr 1, fun k hk => (hoki k hk.1).1, Kd.R_bound hR, fun W' b hk hb => ?_⟩
 have hW := Kd.H_step (w1 := W') (Kd.H_widen hH) (fun k _ hn hlt => hk.2 k hlt (fun h2 => hn (.inl h2.1)))
 have hS' : Kd.S kSel_ 35 W' base oki u (rd_T90 xs i).f0 := by
  refine Kd.S_mono (Kd.S_move (Kd.S_bound hS) (fun k h3 => hk.2 k h3.2.2.1 (fun h4 => ?_))) (fun k h3 => h3.1)
  obtain ⟨_, _, _, q', hq', cells', hc'⟩ := h3
  obtain ⟨_, _, _, q, hq, cells, hc⟩ := h4
  rw [hc] at hc'
  injection hc' with hc'
  injection hc' with _ e
  subst e
  revert hq hq'
  show q ∈ [123] → q ∈ [35, 71, 9] → False
  intro hq hq'
  simp at hq hq'
  omega
 exact Kd.H_back hW (x' := ⟨(rd_T90 xs i).f0, b⟩) (okp := fun k => oki k ∨ W.heap.size ≤ k) (kRule_mkM_ (Kd.S_mono hS' (fun k hk => .inl hk)) (Kd.R_mono hb (fun k hk => hk.imp (fun h2 => h2.1) id))) (fun k hk => hk.imp id (fun h2 => ⟨hok k h2, h2⟩))
theorem rd_set_rule_ (xs : List S90) (i : Int) (x : S90) (h0 : 0 ≤ i) (h1 : i < (xs.length : Int)) : rd_T90 (xs.set i.toNat x) i = x := by
 have h2 : i.toNat < xs.length := by omega
 simp [rd_T90, h2]
def laws_markRuleS.l0 : Nat → List (S90) → Int → Int → Option (Int × List (S90))
| 0, _, _, _ => none
| k + 1, x0, x1, x5 => if x5 < (x0.length : Int) then (if 0 ≤ x5 then ((laws_markPartSS.f k (rd_T90 x0 x5).f0 x1).bind fun b2 => ((laws_markDeclS.f k (rd_T90 x0 x5).f1 b2.1).bind fun b3 => (laws_markRuleS.l0 k (x0.set x5.toNat ⟨b2.2, b3.2⟩) b3.1 (wrap64 (x5 + 1))))) else (none)) else (some (x1, x0))
def laws_markRuleS.f (k : Nat) (l0 : List (S90)) (a1 : Int) : Option (Int × List (S90)) := laws_markRuleS.l0 k l0 a1 0
set_option maxHeartbeats 8000000 in
set_option maxRecDepth 100000 in
theorem laws_markRuleS.calls (k : Nat) (P0_ : Nat → Prop) (u9000_ : Value) (l0 : List (S90)) (a1 : Int) (r1 : Int) (r2 : List (S90)) (w0 w : World) (hB : Below w0.heap.size w0 w) (ho0 : Kd.S kRule_ 90 w w0.heap.size P0_ u9000_ l0) (h : laws_markRuleS.f k l0 a1 = some (r1, r2)) :
 Calls Tryd.prog 23 #[u9000_, .int .i64 a1] w fun e w' => e = .returned (.int .i64 r1) ∧ Kd.S kRule_ 90 w' w0.heap.size (fun k_ => (P0_ k_ ∨ w.heap.size ≤ k_)) u9000_ r2 ∧ Below w0.heap.size w0 w' ∧ Kept w w' (fun k_ => P0_ k_) := by
 obtain ⟨A, cap, rfl⟩ := Kd.S_slice ho0
 have HO := Aside0.mk (Kd.S_mono ho0 (ok' := fun k_ => (P0_ k_ ∨ w.heap.size ≤ k_)) (fun k_ hk => .inl hk))
 have HK := Aside0.mk (Kept.refl w (fun k_ => P0_ k_))
 have HB := Aside0.mk hB
 have H' := Aside0.mk (show laws_markRuleS.l0 k l0 a1 0 = some (r1, r2) from h)
 obtain ⟨n, hn⟩ : ∃ n, n = l0.length := ⟨_, rfl⟩
 rw [← hn] at HO ⊢
 have HN := Aside0.mk hn.symm
 clear hB ho0 h hn
 go_enter Tryd.func23, Tryd.ntmps23
 go_wp2
 go_loopg [1, 5] k (fun kq v1 v5 w' => ∃ (x0 : List (S90)) (x1 x5 : Int), v1 = .int .i64 x1 ∧ v5 = .int .i64 x5 ∧ Aside0 (laws_markRuleS.l0 kq x0 x1 x5 = some (r1, r2)) ∧ Aside0 (kq ≤ k) ∧ Aside0 (x0.length = n) ∧ Aside0 (Kd.S kRule_ 90 w' w0.heap.size (fun k_ => (P0_ k_ ∨ w.heap.size ≤ k_)) (.slice A n cap) x0) ∧ Aside0 (Kept w w' (fun k_ => P0_ k_)) ∧ Aside0 (Below w0.heap.size w0 w'))
 case atStart => exact ⟨l0, a1, 0, rfl, rfl, H', ⟨Nat.le_refl _⟩, HN, HO, HK, HB⟩
 case round =>
  clear H' HO HK HB HN
  obtain ⟨x0, x1, x5, rfl, rfl, HA, HK1, HN, HO, HK, HB⟩ := hrel
  cases gk with
  | zero => exact absurd HA.out (by simp [laws_markRuleS.l0])
  | succ k1 =>
   have H := HA.out
   clear HA
   simp only [laws_markRuleS.l0] at H
   rw [HN.out] at H
   by_cases c3 : x5 < (n : Int)
   ·rw [if_pos c3] at H
    by_cases c5 : 0 ≤ x5
    ·rw [if_pos c5] at H
     obtain ⟨⟨q2, b2⟩, A5, H⟩ := Option.bind_eq_some_iff.mp H
     obtain ⟨⟨q3, b3⟩, A6, H⟩ := Option.bind_eq_some_iff.mp H
     have H' := Aside0.mk (show laws_markRuleS.l0 k1 (x0.set x5.toNat ⟨b2, b3⟩) q3 (wrap64 (x5 + 1)) = some (r1, r2) from H)
     clear H
     replace A5 := Aside0.mk A5
     replace A6 := Aside0.mk A6
     obtain ⟨g, cap', eo, hg1, hg2, cells, hcells⟩ := Kd.S_form HO.out (by have := HN.out; omega)
     injection eo with ea_ en_ ec_
     subst ea_
     clear ec_ en_ hcells cells cap'
     have HG := Aside0.mk hg1
     clear hg1 hg2
     have p := c5
     have q := c3
     have c3b0 : decide (x5 < (n : Int)) = true := decide_eq_true c3
     have P := Aside0.mk c5
     have Q := Aside0.mk c3
     replace p := eq_true p
     replace q := eq_true q
     clear c3 c5
     obtain ⟨u5, ok5, ha0, hf0, hq5, hR5, hback5⟩ := rule_lend0_ HO.out x5 P.out Q.out (fun k_ h_ => .inr (Nat.le_trans HK.out.1 h_))
     have HQ5 := Aside0.mk hq5
     have HR5 := Aside0.mk hR5
     have HK5b := Aside0.mk hback5
     clear hq5 hR5 hback5
     go_wp2_with (first | (go_at_call 57; (with_reducible refine (laws_markPartSS.calls k1 ok5 u5 _ x1 q2 b2 w0 _ bel_ (kdS_ HR5.out) A5.out).mono ?_); rintro e w5 ⟨rfl, hr5, hb5, hk5⟩; have HO5 := Aside0.mk (HK5b.out _ _ hk5 hr5); have HK6 := Aside0.mk (Kept.then_ HK.out hk5 (fun k_ h_ => HQ5.out k_ h_)); have HB5 := Aside0.mk hb5; clear HO HK HB HR5 HK5b HQ5 hr5 hb5 hk5 ha0 hf0; obtain ⟨u6, ok6, ha0, hf0, hq6, hR6, hback6⟩ := rule_lend1_ HO5.out x5 P.out Q.out (fun k_ h_ => .inr (Nat.le_trans HK6.out.1 h_)); have HQ6 := Aside0.mk hq6; have HR6 := Aside0.mk hR6; have HK6b := Aside0.mk hback6; clear hq6 hR6 hback6) | (go_at_call 58; (with_reducible refine (laws_markDeclS.calls k1 ok6 u6 _ q2 q3 b3 w0 _ (by repeat (first | (with_reducible first | exact HB5.out | apply below_alloc | apply pw_below_drewN | apply below_drew1) | exact HB5.out)) (kdR_ HR6.out) ?a6).mono ?_); (case a6 => rw [rd_set_rule_ x0 x5 _ P.out (by rw [HN.out]; exact Q.out)]; exact A6.out); rintro e w7 ⟨rfl, hr7, hb7, hk7⟩; have HO7 := Aside0.mk (HK6b.out _ _ hk7 hr7); have HK8 := Aside0.mk (Kept.then_ HK6.out hk7 (fun k_ h_ => HQ6.out k_ h_)); have HB7 := Aside0.mk hb7; clear HO5 HK6 HB5 HR6 HK6b HQ6 hr7 hb7 hk7 ha0 hf0))
     go_roundg k1
     case measure => have := HK1.out; omega
     case rel =>
      refine ⟨x0.set x5.toNat ⟨b2, b3⟩, q3, wrap64 (x5 + 1), rfl, rfl, H', ⟨by have := HK1.out; omega⟩, ⟨by rw [List.length_set]; exact HN.out⟩, ⟨?_⟩, HK8, HB7⟩
      have h9 := HO7.out
      rw [rd_set_rule_ x0 x5 _ P.out (by rw [HN.out]; exact Q.out), List.set_set] at h9
      exact h9
    ·rw [if_neg c5] at H
     exact absurd H (by simp)
   ·rw [if_neg c3] at H
    have c3b0 : decide (x5 < (n : Int)) = false := decide_eq_false c3
    clear c3
    simp only [Option.some.injEq, Prod.mk.injEq] at H
    obtain ⟨rfl, rfl⟩ := H
    go_wp2
    go_ret
    exact ⟨rfl, HO.out, HB.out, HK.out⟩

end Go.Proofs.YtooilehdljeepaaDoor.PFnExactReadSheet
