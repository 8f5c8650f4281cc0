-- Laid by a program of this session out of the translation (its own run of the print). Lean checks it.
import Derived.Test.YtfogfjmkngoegaaPFnExactPackBestx0
namespace Go.Proofs.Ytfogfjmkngoegaa.PFnExactPackBest
open Go.RowKit Go.Proofs.YtfogfjmkngoegaaW.PrintWords Go.Proofs.YtfogfjmkngoegaaW.PrintLast Go.Proofs.YtfogfjmkngoegaaW.PrintMore
attribute [local go_sem] max2_int min2_int max_two min_two max_three min_three max_four min_four   -- for this text's walks alone
set_option linter.unusedVariables false
set_option linter.unusedSimpArgs false

/-! ### spec_l2Codes: function 48 -/
mutual
def spec_l2Codes.l0 : Nat → List Int → List Int → Int → Int → Option (List Int)
 | 0, _, _, _, _ => none
 | k + 1, x0, x3, x4, x5 => if x5 ≤ 15 then (spec_l2Codes.l1 k x0 x3 (wrap64 (x4 * 2)) x5 x0 (x0.length : Int) 0) else (some x3)
def spec_l2Codes.l1 : Nat → List Int → List Int → Int → Int → List Int → Int → Int → Option (List Int)
 | 0, _, _, _, _, _, _, _ => none
 | k + 1, x0, x3, x4, x5, x17, x18, x19 => if x19 < x18 then (if 0 ≤ x19 then (if x19 < (x17.length : Int) then (if (rd x17 x19) = x5 then (if x19 < (x3.length : Int) then (spec_l2Codes.l1 k x0 (x3.set (x19 : Int).toNat x4) (wrap64 (x4 + 1)) x5 x17 x18 (wrap64 (x19 + 1))) else (none)) else (spec_l2Codes.l1 k x0 x3 x4 x5 x17 x18 (wrap64 (x19 + 1)))) else (none)) else (none)) else (spec_l2Codes.l0 k x0 x3 x4 (wrap64 (x5 + 1)))
end
def spec_l2Codes.f (k : Nat) (l0 : List Int) : Option (List Int) := if 0 ≤ (l0.length : Int) then (if ((l0.length : Int) : Int).toNat ≤ 35184372088832 then (spec_l2Codes.l0 k l0 (List.replicate ((l0.length : Int) : Int).toNat 0) 0 1) else (none)) else (none)
set_option maxHeartbeats 8000000 in
set_option maxRecDepth 100000 in
theorem spec_l2Codes.calls (k : Nat) (A0 : Option Addr) (c0 : Nat) (l0 : List Int) (r : List Int) (w : World) (hr0 : Kd.C (Kd.int .i64) w A0 l0.length l0) (hc0 : l0.length ≤ c0) (h : spec_l2Codes.f k l0 = some r) :
  Calls Try.prog 48 #[.slice A0 l0.length c0] w fun e w' => ∃ v0_ : Value, e = .returned (v0_) ∧ Kd.R (Kd.int .i64) 3 w' w.heap.size (fun _ => True) v0_ r ∧ Below w.heap.size w w' := by
 have HR0 := Aside0.mk hr0
 have HC0 := Aside0.mk hc0
 clear hr0 hc0
 have HB := Aside0.mk (Below.refl w.heap.size w)
 have H : (if 0 ≤ (l0.length : Int) then (if ((l0.length : Int) : Int).toNat ≤ 35184372088832 then (spec_l2Codes.l0 k l0 (List.replicate ((l0.length : Int) : Int).toNat 0) 0 1) else (none)) else (none)) = some r := h
 clear h
 by_cases c2 : 0 ≤ (l0.length : Int)
 ·rw [if_pos c2] at H
  have c2b0 := eq_true c2
  have c2b1 : decide (0 ≤ (l0.length : Int)) = true := decide_eq_true c2
  clear c2
  by_cases c3 : ((l0.length : Int) : Int).toNat ≤ 35184372088832
  ·rw [if_pos c3] at H
   have c3b0 := eq_true c3
   have c3b1 : decide (((l0.length : Int) : Int).toNat ≤ 35184372088832) = true := decide_eq_true c3
   clear c3
   obtain ⟨y119, hy119⟩ : ∃ y_ : List Int, y_ = (List.replicate ((l0.length : Int) : Int).toNat 0) := ⟨_, rfl⟩
   replace H : (spec_l2Codes.l0 k l0 y119 0 1) = some r := by first | (rw [hy119]; with_reducible exact H) | (have H2_ := (Option.bind_some _ _).symm.trans H; rw [hy119]; with_reducible exact H2_) | (have H2_ := (Option.bind_some _ _).symm.trans H; with_reducible exact H2_) | with_reducible exact H | (rw [hy119]; exact H) | exact H
   have Ny119 := Aside0.mk hy119
   clear hy119
   have H' := Aside0.mk H
   clear H
   go_enter Try.func48, Try.ntmps48
   go_wp2_with (first | ((with_reducible refine gate_dst (N := 10) rfl ?_); refine Kd.R_make (Kd.int .i64) _ 3 rfl (N := 10) rfl 33 _ _ rfl (l0.length : Int) rfl rfl Try.underlying33 (.int .i64 0) 8 info3 rfl (by decide) (by omega) 0 (ok := fun _ => True) (okp := fun _ => True) rfl (fun _ hk => hk) trivial (of_decide_eq_true (by first | (with_reducible assumption) | assumption)) (Nat.le_trans (Nat.mul_le_mul_right _ (of_decide_eq_true (by first | (with_reducible assumption) | assumption) : (l0.length : Int).toNat ≤ 35184372088832)) (by omega)) (Below.refl _ _) (Nat.le_refl _) ?_; intro v120 w4 ho5 hb hg_ hnew_; clear hg_ hnew_; (first | rw [← Ny119.out] at ho5 | (simp only [Int.reduceToNat] at ho5; rw [← Ny119.out] at ho5)); have n0_ := Aside0.mk (Kd.R_lower ho5 (below_size (by repeat (first | (with_reducible first | exact HB.out | apply below_alloc | apply pw_below_drewN | apply below_drew1) | exact HB.out)))); have n1_ := Aside0.mk (below_step (by repeat (first | (with_reducible first | exact HB.out | apply below_alloc | apply pw_below_drewN | apply below_drew1) | exact HB.out)) hb); clear HB; have HO121 := n0_; have HB := n1_; clear n0_ n1_; clear hb ho5))
   go_loopg [4, 5] k (fun kq v4 v5 w' => ∃ (x3_1 : List Int) (x4_1 : Int) (x5_1 : Int), v4 = .int .i64 x4_1 ∧ v5 = .int .i64 x5_1 ∧ Aside0 (spec_l2Codes.l0 kq l0 x3_1 x4_1 x5_1 = some r) ∧ Aside0 (kq ≤ k) ∧ Aside0 (Kd.R (Kd.int .i64) 3 w' w.heap.size (fun _ => True) v120 x3_1) ∧ Aside0 (Below w.heap.size w w'))
   case atStart => exact ⟨(y119), (0), (1), (by first | rfl | (simp; done) | (simp [*]; done) | (simp [wrap64]; done)), (by first | rfl | (simp; done) | (simp [*]; done) | (simp [wrap64]; done)), H', ⟨Nat.le_refl _⟩, ⟨by (with_reducible repeat (first | apply Kd.R_alloc | apply Kd.R_drewN | apply Kd.R_drew)); exact HO121.out⟩, ⟨by repeat (first | (with_reducible first | exact HB.out | apply below_alloc | apply pw_below_drewN | apply below_drew1) | exact HB.out)⟩⟩
   case round =>
    clear H'
    (try clear c2);(try clear c2b0);(try clear c2b1);(try clear p2);(try clear c3);(try clear c3b0);(try clear c3b1);(try clear c4)
    obtain ⟨x3_1, x4_1, x5_1, rfl, rfl, HA, HK1, HO_3, HB⟩ := hrel
    cases gk with
    | zero => exact absurd HA.out (by simp [spec_l2Codes.l0])
    | succ k1 =>
     have H := HA.out
     clear HA
     simp only [spec_l2Codes.l0] at H
     by_cases c6 : x5_1 ≤ 15
     ·rw [if_pos c6] at H
      have c6b0 : decide (x5_1 ≤ 15) = true := decide_eq_true c6
      clear c6
      have H' := Aside0.mk H
      clear H
      go_wp2
      go_loopg [4, 19] k1 (fun kq v4 v19 w' => ∃ (x3_2 : List Int) (x4_2 : Int) (x19_2 : Int), v4 = .int .i64 x4_2 ∧ v19 = .int .i64 x19_2 ∧ Aside0 (spec_l2Codes.l1 kq l0 x3_2 x4_2 x5_1 l0 (l0.length : Int) x19_2 = some r) ∧ Aside0 (kq ≤ k1) ∧ Aside0 (Kd.R (Kd.int .i64) 3 w' w.heap.size (fun _ => True) v120 x3_2) ∧ Aside0 (Below w.heap.size w w'))
      case atStart => exact ⟨(x3_1), (wrap64 (x4_1 * 2)), (0), (by first | rfl | (simp; done) | (simp [*]; done) | (simp [wrap64]; done)), (by first | rfl | (simp; done) | (simp [*]; done) | (simp [wrap64]; done)), H', ⟨Nat.le_refl _⟩, ⟨by (with_reducible repeat (first | apply Kd.R_alloc | apply Kd.R_drewN | apply Kd.R_drew)); exact HO_3.out⟩, ⟨by repeat (first | (with_reducible first | exact HB.out | apply below_alloc | apply pw_below_drewN | apply below_drew1) | exact HB.out)⟩⟩
      case round =>
       clear H'
       (try clear c2);(try clear c2b0);(try clear c2b1);(try clear p2);(try clear c3);(try clear c3b0);(try clear c3b1);(try clear c4);(try clear c6);(try clear c6b0);(try clear p6);(try clear p2)
       obtain ⟨x3_2, x4_2, x19_2, rfl, rfl, HA, HK2, HO_3, HB⟩ := hrel
       cases gk with
       | zero => exact absurd HA.out (by simp [spec_l2Codes.l1])
       | succ k2 =>
        have H := HA.out
        clear HA
        simp only [spec_l2Codes.l1] at H
        by_cases c7 : x19_2 < (l0.length : Int)
        ·rw [if_pos c7] at H
         have c7b0 : decide (x19_2 < (l0.length : Int)) = true := decide_eq_true c7
         clear c7
         by_cases c8 : 0 ≤ x19_2
         ·rw [if_pos c8] at H
          have c8b0 : decide (0 ≤ x19_2) = true := decide_eq_true c8
          clear c8
          by_cases c9 : x19_2 < (l0.length : Int)
          ·rw [if_pos c9] at H
           have c9b0 : decide (x19_2 < (l0.length : Int)) = true := decide_eq_true c9
           clear c9
           by_cases c10 : (rd l0 x19_2) = x5_1
           ·rw [if_pos c10] at H
            have c10b0 : ((rd l0 x19_2) == x5_1) = true := beq_iff_eq.mpr c10
            have c10b1 : ((rd l0 x19_2) != x5_1) = false := bne_eq_false_iff_eq.mpr c10
            clear c10
            by_cases c11 : x19_2 < (x3_2.length : Int)
            ·rw [if_pos c11] at H
             have c11b0 : decide (x19_2 < (x3_2.length : Int)) = true := decide_eq_true c11
             clear c11
             obtain ⟨y123, hy123⟩ : ∃ y_ : List Int, y_ = (x3_2.set (x19_2 : Int).toNat x4_2) := ⟨_, rfl⟩
             replace H : (spec_l2Codes.l1 k2 l0 y123 (wrap64 (x4_2 + 1)) x5_1 l0 (l0.length : Int) (wrap64 (x19_2 + 1))) = some r := by first | (rw [hy123]; with_reducible exact H) | (have H2_ := (Option.bind_some _ _).symm.trans H; rw [hy123]; with_reducible exact H2_) | (have H2_ := (Option.bind_some _ _).symm.trans H; with_reducible exact H2_) | with_reducible exact H | (rw [hy123]; exact H) | exact H
             have Ny123 := Aside0.mk hy123
             clear hy123
             have H' := Aside0.mk H
             clear H
             have p122 : 0 ≤ (x19_2 : Int) := of_decide_eq_true (by first | (with_reducible assumption) | assumption)
             have q122 : x19_2 < (l0.length : Int) := of_decide_eq_true (by first | (with_reducible assumption) | assumption)
             obtain ⟨ad122, e122, hx122_0⟩ := Kd.at_int HR0.out x19_2 p122 q122
             cases e122
             replace hx122_0 := (HB.out.cell (World.block_lt_of_cell? w _ hx122_0)).trans hx122_0
             replace p122 := eq_true p122
             replace q122 := eq_true q122
             have p12 : 0 ≤ (x19_2 : Int) := of_decide_eq_true (by first | (with_reducible assumption) | assumption)
             have q12 : (x19_2 : Int) < ((x3_2.length : Int) : Int) := of_decide_eq_true (by first | (with_reducible assumption) | assumption)
             obtain ⟨go12, co12, eo12, gb12, gl12, cl12, HG12⟩ := Kd.R_form HO_3.out (by omega)
             (first | cases eo12 | (injection eo12 with ea_ en_ ec_; (first | subst ea_ | (injection ea_ with ea_; subst ea_)); subst ec_; clear en_))
             have GB12 := Aside0.mk gb12
             have GG12 := Aside0.mk HG12
             clear gb12 gl12 HG12
             obtain ⟨hx12_0, hf12_0⟩ := Kd.R_celln 0 HO_3.out (x19_2 : Int) p12 q12
             replace p12 := eq_true p12
             replace q12 := eq_true q12
             have HP13 := Kd.R_putg HO_3.out (x19_2 : Int) x4_2
             go_wp2_with (first | ((with_reducible refine gate_store (t := 3) (p := 30) rfl ?_); refine store_event (t := 3) (p := 30) (v := ?vo_w14) (w1 := (wr.setCell ⟨go12, (x19_2 : Int).toNat, none⟩ (.int .i64 x4_2))) ?hg ?ho ?hn ?hr ?_; (case ho => rfl); (case hg => rfl); (case hn => rfl); (case hr => first | (go_simp; done) | (go_simp; rfl)); intro w14 hw; have hg : wr.grownBy w14 (some go12) := (by rw [hw]; exact HP13.2); have hp_ : Kd.R (Kd.int .i64) 3 w14 w.heap.size (fun _ => True) (.slice (some ⟨go12, 0, none⟩) x3_2.length co12) y123 := (by rw [hw, Ny123.out]; exact HP13.1); clear HP13; have n0_ := Aside0.mk (hp_); have n1_ := Aside0.mk ((by rw [hw]; exact below_set (HB.out) GB12.out : Below w.heap.size w w14)); clear HO_3; clear HB; have HO_3 := n0_; have HB := n1_; clear n0_ n1_; clear hg hw hp_))
             go_roundg k2
             case measure => have := HK1.out; have := HK2.out; omega
             case rel => exact ⟨(y123), (wrap64 (x4_2 + 1)), (wrap64 (x19_2 + 1)), (by first | rfl | (simp; done) | (simp [*]; done) | (simp [wrap64]; done)), (by first | rfl | (simp; done) | (simp [*]; done) | (simp [wrap64]; done)), H', ⟨by have := HK1.out; have := HK2.out; omega⟩, ⟨by (with_reducible repeat (first | apply Kd.R_alloc | apply Kd.R_drewN | apply Kd.R_drew)); exact HO_3.out⟩, ⟨by repeat (first | (with_reducible first | exact HB.out | apply below_alloc | apply pw_below_drewN | apply below_drew1) | exact HB.out)⟩⟩
            ·rw [if_neg c11] at H
             exact absurd H (by simp)
           ·rw [if_neg c10] at H
            have c10b0 : ((rd l0 x19_2) == x5_1) = false := beq_eq_false_iff_ne.mpr c10
            have c10b1 : ((rd l0 x19_2) != x5_1) = true := bne_iff_ne.mpr c10
            have H' := Aside0.mk H
            clear H
            have p122 : 0 ≤ (x19_2 : Int) := of_decide_eq_true (by first | (with_reducible assumption) | assumption)
            have q122 : x19_2 < (l0.length : Int) := of_decide_eq_true (by first | (with_reducible assumption) | assumption)
            obtain ⟨ad122, e122, hx122_0⟩ := Kd.at_int HR0.out x19_2 p122 q122
            cases e122
            replace hx122_0 := (HB.out.cell (World.block_lt_of_cell? w _ hx122_0)).trans hx122_0
            replace p122 := eq_true p122
            replace q122 := eq_true q122
            go_wp2
            go_roundg k2
            case measure => have := HK1.out; have := HK2.out; omega
            case rel => exact ⟨(x3_2), (x4_2), (wrap64 (x19_2 + 1)), (by first | rfl | (simp; done) | (simp [*]; done) | (simp [wrap64]; done)), (by first | rfl | (simp; done) | (simp [*]; done) | (simp [wrap64]; done)), H', ⟨by have := HK1.out; have := HK2.out; omega⟩, ⟨by (with_reducible repeat (first | apply Kd.R_alloc | apply Kd.R_drewN | apply Kd.R_drew)); exact HO_3.out⟩, ⟨by repeat (first | (with_reducible first | exact HB.out | apply below_alloc | apply pw_below_drewN | apply below_drew1) | exact HB.out)⟩⟩
          ·rw [if_neg c9] at H
           exact absurd H (by simp)
         ·rw [if_neg c8] at H
          exact absurd H (by simp)
        ·rw [if_neg c7] at H
         have c7b0 : decide (x19_2 < (l0.length : Int)) = false := decide_eq_false c7
         clear c7
         have H' := Aside0.mk H
         clear H
         go_wp2
         go_roundg k2
         case measure => have := HK1.out; have := HK2.out; omega
         case rel => exact ⟨(x3_2), (x4_2), (wrap64 (x5_1 + 1)), (by first | rfl | (simp; done) | (simp [*]; done) | (simp [wrap64]; done)), (by first | rfl | (simp; done) | (simp [*]; done) | (simp [wrap64]; done)), H', ⟨by have := HK1.out; have := HK2.out; omega⟩, ⟨by (with_reducible repeat (first | apply Kd.R_alloc | apply Kd.R_drewN | apply Kd.R_drew)); exact HO_3.out⟩, ⟨by repeat (first | (with_reducible first | exact HB.out | apply below_alloc | apply pw_below_drewN | apply below_drew1) | exact HB.out)⟩⟩
     ·rw [if_neg c6] at H
      have c6b0 : decide (x5_1 ≤ 15) = false := decide_eq_false c6
      clear c6
      obtain rfl := Option.some.inj H
      go_wp2
      go_ret
      exact ⟨_, by first | rfl | (simp [errW_none, errW_some] <;> rfl) | (simp [*, errW_none, errW_some] <;> rfl), by (with_reducible repeat (first | apply Kd.R_alloc | apply Kd.R_drewN | apply Kd.R_drew)); exact HO_3.out, by repeat (first | (with_reducible first | exact HB.out | apply below_alloc | apply pw_below_drewN | apply below_drew1) | exact HB.out)⟩
  ·rw [if_neg c3] at H
   exact absurd H (by simp)
 ·rw [if_neg c2] at H
  exact absurd H (by simp)

/-! ### spec_l2Bits_bit: function 66 -/
-- EXT rounds=0 making=1 imports=Derived.BigQuiet,Derived.BigRegion
/-! ### spec_l2Bits_bit: function 66 -/
/-- bits that are laid down: a block of two cells, and the row. -/
def W8 (t : TypeId) (w : World) (base g : Nat) (out : List Int) (many : Int) : Prop := ∃ v, w.heap[g]? = some (.cells #[v, .int .i64 many] t (0, 0)) ∧ base ≤ g ∧ Kd.R (Kd.int .u8) 5 w base (fun _ => True) v out
/-- what no bit's laying down touches: blocks of other types. -/
def Kept8 (w W : World) (g : Nat) : Prop := w.heap.size ≤ W.heap.size ∧ ∀ i, i < w.heap.size → i ≠ g → (∀ cs, w.heap[i]? ≠ some (.cells cs 5 (0, 0))) → W.heap[i]? = w.heap[i]?
theorem Kept8.refl (w : World) (g : Nat) : Kept8 w w g := ⟨Nat.le_refl _, fun _ _ _ _ => rfl⟩
theorem Kept8.trans {w W V : World} {g : Nat} (h : Kept8 w W g) (k : Kept8 W V g) : Kept8 w V g :=
 ⟨Nat.le_trans h.1 k.1, fun i hi hg hn => by
  have e := h.2 i hi hg hn
  exact (k.2 i (Nat.lt_of_lt_of_le hi h.1) hg (fun cs => by rw [e]; exact hn cs)).trans e⟩
theorem Kept8.of_below {w W : World} {g : Nat} (h : Below w.heap.size w W) : Kept8 w W g := ⟨h.size, fun i hi _ _ => h.block i hi⟩
theorem Kept8.drew {w W : World} {g : Nat} (h : Kept8 w W g) : Kept8 w W.drew g := h
theorem Kept8.drewN {w W : World} {g : Nat} (h : Kept8 w W g) (n : Nat) : Kept8 w (W.drewN n) g := h
theorem Kept8.setG {w W : World} {g j : Nat} (h : Kept8 w W g) (u : Value) : Kept8 w (W.setCell ⟨g, j, none⟩ u) g :=
 ⟨by simpa [World.setCell] using h.1, fun i hi hg hn => (Below.heap_setCell W ⟨g, j, none⟩ u i hg).trans (h.2 i hi hg hn)⟩
theorem Kept8.setRow {w W : World} {g b j : Nat} {cs : Array Value} (h : Kept8 w W g) (hb : W.heap[b]? = some (.cells cs 5 (0, 0))) (u : Value) : Kept8 w (W.setCell ⟨b, j, none⟩ u) g :=
 ⟨by simpa [World.setCell] using h.1, fun i hi hg hn => by
  have e := h.2 i hi hg hn
  refine (Below.heap_setCell W ⟨b, j, none⟩ u i (fun hib => ?_)).trans e
  subst hib
  exact hn cs (by rw [← e]; exact hb)⟩
theorem Kept8.grown {w W V : World} {g : Nat} {row : Option Nat} (h : Kept8 w W g) (hg : W.grownBy V row) (hr : ∀ k, row = some k → ∃ cs, W.heap[k]? = some (.cells cs 5 (0, 0))) : Kept8 w V g :=
 h.trans ⟨hg.size, fun i hi _ hn => hg.block i hi (fun e => by obtain ⟨cs, hc⟩ := hr i e.symm; exact hn cs hc)⟩
theorem sl8_ {w : World} {base : Nat} {ok : Nat → Prop} {v : Value} {xs : List Int} (h : Kd.R (Kd.int .u8) 5 w base ok v xs) (hn : 0 < xs.length) : ∃ b cap, v = .slice (some ⟨b, 0, none⟩) xs.length cap ∧ xs.length ≤ cap := by
 rcases (Kd.own_of_R h).2 with ⟨_, hz⟩ | ⟨b, cap, cur, e, _, _, hc, _⟩
 ·omega
 ·exact ⟨b, cap, e, hc⟩
theorem W8.drew {t : TypeId} {w : World} {base g : Nat} {o : List Int} {m : Int} (h : W8 t w base g o m) : W8 t w.drew base g o m := by
 obtain ⟨v, h1, h2, h3⟩ := h
 exact ⟨v, h1, h2, Kd.R_drew h3⟩
theorem W8.drewN {t : TypeId} {w : World} {base g : Nat} {o : List Int} {m : Int} (h : W8 t w base g o m) (n : Nat) : W8 t (w.drewN n) base g o m := by
 obtain ⟨v, h1, h2, h3⟩ := h
 exact ⟨v, h1, h2, Kd.R_drewN h3 n⟩
def bitO (out : List Int) (many : Int) : List Int := if many % 8 = 0 then out ++ [0] else out
def spec_l2Bits_bit.f (out : List Int) (many x : Int) : Option (List Int × Int) :=
 if 0 ≤ many ∧ out.length < 140737488355327 ∧ (many % 8 = 0 ∨ 0 < out.length) then some ((bitO out many).set ((bitO out many).length - 1) (bits .or .u8 (rdOf 0 (bitO out many) (((bitO out many).length : Int) - 1)) (wrap64 (x * 2 ^ (many % 8).toNat) % 256)), wrap64 (many + 1)) else none
set_option maxHeartbeats 8000000 in
set_option maxRecDepth 100000 in
theorem spec_l2Bits_bit.calls (out : List Int) (many x : Int) (out' : List Int) (many' : Int) (base g : Nat) (w0 w : World) (hbase : base ≤ w.heap.size) (hB : Below base w0 w) (hW : W8 67 w base g out many) (h : spec_l2Bits_bit.f out many x = some (out', many')) :
  Calls Try.prog 66 #[.pointer (some ⟨g, 0, none⟩), .int .i64 x] w fun e w' => e = .returned (.tuple #[]) ∧ Below base w0 w' ∧ W8 67 w' base g out' many' ∧ Kept8 w w' g := by
 obtain ⟨v, hb, hge, hR⟩ := hW
 unfold spec_l2Bits_bit.f at h
 by_cases hc : 0 ≤ many ∧ out.length < 140737488355327 ∧ (many % 8 = 0 ∨ 0 < out.length)
 rotate_left
 ·rw [if_neg hc] at h; cases h
 rw [if_pos hc] at h
 obtain ⟨hm, hl0, hz⟩ := hc
 obtain ⟨rfl, rfl⟩ := Prod.mk.inj (Option.some.inj h)
 clear h
 have HBK := Aside0.mk hb
 have HR := Aside0.mk hR
 have HB := Aside0.mk hB
 have HSZ := Aside0.mk hbase
 have HL0 := Aside0.mk hl0
 have a0_ : w.cell? ⟨g, 0, none⟩ = some v := (blk_cell hb 0).trans rfl
 have a1_ : w.cell? ⟨g, 1, none⟩ = some (.int .i64 many) := (blk_cell hb 1).trans rfl
 have f0_ := blk_frozen hb 0
 have f1_ := blk_frozen hb 1
 by_cases h8 : many % 8 = 0
 ·have h8b : ((many % 8 : Int) == 0) = true := beq_iff_eq.mpr h8
  have eo : bitO out many = out ++ [0] := if_pos h8
  obtain ⟨o, ho⟩ : ∃ o : List Int, o = out ++ [0] := ⟨_, rfl⟩
  rw [eo, ← ho]
  have NO := Aside0.mk ho
  have HN : Aside0 (0 < o.length) := ⟨by rw [ho, List.length_append]; simp⟩
  have HL : Aside0 (o.length ≤ 140737488355328) := ⟨by have := HL0.out; rw [ho, List.length_append, List.length_singleton]; omega⟩
  clear hb hR hB h8 hz eo ho
  go_enter Try.func66, Try.ntmps66
  go_upto_region 2 with (first | ((with_reducible refine gate_builtin (b := .append) (xs := #[.tmp 14, .tmp 15]) rfl ?_); at_builtin; refine Kd.R_append (Kd.int .u8) (w0 := w0) base rfl (.tmp 14) (.tmp 15) 22 5 (.int .u8 0) 1 rfl Try.underlying22 info5 rfl (by decide) (by omega) v out 0 [.int .u8 0] (fun _ => True) (fun _ => False) rfl rfl ?aP (fun _ hk => hk.elim) ?aF ?aO ?aB ?aS ?aL ?_; (case aP => exact rfl); (case aF => exact (fun _ _ => trivial)); (case aO => exact HR.out); (case aB => exact HB.out); (case aS => exact HSZ.out); (case aL => have := HL0.out; omega); intro v1 w6 ho hb6 hg6 hat; rw [← NO.out] at ho; obtain ⟨b, cap, rfl, hle⟩ := sl8_ ho HN.out; have BK6 : w6.heap[g]? = some (.cells #[v, .int .i64 many] 67 (0, 0)) := blk_grown HBK.out hg6 (Kd.R_ne HR.out HBK.out (by decide)); have c6_ : w6.cell? ⟨g, 0, none⟩ = some v := (blk_cell BK6 0).trans rfl; have f6_ := blk_frozen BK6 0; have n0_ := Aside0.mk BK6; have n1_ := Aside0.mk ho; have n2_ := Aside0.mk hb6; have n3_ := Aside0.mk (Kept8.grown (Kept8.refl w g) hg6 (Kd.R_typed HR.out)); clear BK6 ho hb6 hg6 hat))
  obtain ⟨W, hW⟩ : ∃ W : World, W = w6.setCell ⟨g, 0, none⟩ (.slice (some ⟨b, 0, none⟩) o.length cap) := ⟨_, rfl⟩
  have BK : Aside0 (W.heap[g]? = some (.cells #[.slice (some ⟨b, 0, none⟩) o.length cap, .int .i64 many] 67 (0, 0))) := ⟨by rw [hW]; exact blk_put n0_.out 0 _ rfl⟩
  have RR : Aside0 (Kd.R (Kd.int .u8) 5 W base (fun _ => True) (.slice (some ⟨b, 0, none⟩) o.length cap) o) := ⟨by
   rw [hW]
   exact Kd.R_mono (Kd.R_far (Kd.R_types n1_.out n0_.out (by decide)) (p := ⟨g, 0, none⟩) (fun k hk => hk.2) _) (fun _ _ => trivial)⟩
  have KK : Aside0 (Kept8 w W g) := ⟨by rw [hW]; exact Kept8.setG n3_.out _⟩
  have BB : Aside0 (Below base w0 W) := ⟨by rw [hW]; exact Below.setCell n2_.out hge _⟩
  rw [← hW]
  clear hW n0_ n1_ n2_ n3_ c6_ f6_ a0_ a1_ f0_ f1_
  obtain ⟨cl, fz⟩ := Kd.R_celln 0 RR.out ((o.length : Int) - 1) (by have := HN.out; omega) (by omega)
  have ei : ((o.length : Int) - 1).toNat = o.length - 1 := by omega
  rw [ei] at cl fz
  clear ei
  have hpos := HN.out
  have hlim := HL.out
  have b0_ : W.cell? ⟨g, 0, none⟩ = some (.slice (some ⟨b, 0, none⟩) o.length cap) := (blk_cell BK.out 0).trans rfl
  have b1_ : W.cell? ⟨g, 1, none⟩ = some (.int .i64 many) := (blk_cell BK.out 1).trans rfl
  have g1_ := blk_frozen BK.out 1
  have hbg : b ≠ g := fun e => (Kd.R_ne RR.out BK.out (by decide)) (by rw [e]; rfl)
  have P2 := Kd.R_putn RR.out ((o.length : Int) - 1) (bits .or .u8 (rdOf 0 o ((o.length : Int) - 1)) (wrap64 (x * 2 ^ (many % 8).toNat) % 256))
  have ei : ((o.length : Int) - 1).toNat = o.length - 1 := by omega
  rw [ei] at P2
  obtain ⟨cb, hcb⟩ := Kd.R_typed RR.out b rfl
  have hgb : base ≤ b := (Kd.R_base RR.out) b rfl
  have X0 := Aside0.mk (show W.heap[b]? = some (.cells cb 5 (0, 0)) from hcb)
  have X1 := Aside0.mk P2
  clear P2 ei hcb
  go_region
  obtain ⟨V, hV⟩ : ∃ V : World, V = (W.setCell ⟨b, o.length - 1, none⟩ (.int .u8 (bits .or .u8 (rdOf 0 o ((o.length : Int) - 1)) (wrap64 (x * 2 ^ (many % 8).toNat) % 256)))) := ⟨_, rfl⟩
  have BV : V.heap[g]? = some (.cells #[.slice (some ⟨b, 0, none⟩) o.length cap, .int .i64 many] 67 (0, 0)) := by rw [hV]; exact blk_far BK.out (fun e => hbg e.symm) _
  have RV : Kd.R (Kd.int .u8) 5 V base (fun _ => True) (.slice (some ⟨b, 0, none⟩) o.length cap) (o.set (o.length - 1) (bits .or .u8 (rdOf 0 o ((o.length : Int) - 1)) (wrap64 (x * 2 ^ (many % 8).toNat) % 256))) := by rw [hV]; exact X1.out
  have KV : Kept8 w V g := by rw [hV]; exact Kept8.setRow KK.out X0.out _
  have BBV : Below base w0 V := by rw [hV]; exact Below.setCell BB.out hgb _
  rw [← hV]
  have v1_ : V.drew.cell? ⟨g, 1, none⟩ = some (.int .i64 many) := (blk_cell (blk_drew BV) 1).trans rfl
  have vg1_ := blk_frozen (blk_drew BV) 1
  have BV' := Aside0.mk BV
  have RV' := Aside0.mk RV
  clear BV RV b0_ b1_ cl fz g1_ hV
  go_wp2
  go_end0
  have B2 := blk_put (blk_drew BV'.out) 1 (.int .i64 (wrap64 (many + 1))) rfl
  have R1 := Kd.R_types (Kd.R_drew RV'.out) (blk_drew BV'.out) (by decide)
  refine ⟨rfl, Below.setCell BBV.drew hge _, ?_, Kept8.setG KV.drew _⟩
  refine ⟨_, B2, hge, ?_⟩
  have R2 := Kd.R_mono (Kd.R_far R1 (p := ⟨g, 1, none⟩) (fun k hk => hk.2) (.int .i64 (wrap64 (many + 1)))) (ok' := fun _ => True) (fun _ _ => trivial)
  exact R2
 ·have h8b : ((many % 8 : Int) == 0) = false := beq_eq_false_iff_ne.mpr h8
  have eo : bitO out many = out := if_neg h8
  rw [eo]
  have hn : 0 < out.length := by rcases hz with hz | hz; exact absurd hz h8; exact hz
  obtain ⟨b, cap, rfl, hle⟩ := sl8_ hR hn
  have BK := HBK
  have RR := HR
  have KK := Aside0.mk (Kept8.refl w g)
  have BB := HB
  have HN := Aside0.mk hn
  have HL : Aside0 (out.length ≤ 140737488355328) := ⟨by omega⟩
  clear hb hR hB h8 hz eo hn
  go_enter Try.func66, Try.ntmps66
  go_upto_region 2 with (fail)
  clear a0_ a1_ f0_ f1_
  obtain ⟨cl, fz⟩ := Kd.R_celln 0 RR.out ((out.length : Int) - 1) (by have := HN.out; omega) (by omega)
  have ei : ((out.length : Int) - 1).toNat = out.length - 1 := by omega
  rw [ei] at cl fz
  clear ei
  have hpos := HN.out
  have hlim := HL.out
  have b0_ : w.cell? ⟨g, 0, none⟩ = some (.slice (some ⟨b, 0, none⟩) out.length cap) := (blk_cell BK.out 0).trans rfl
  have b1_ : w.cell? ⟨g, 1, none⟩ = some (.int .i64 many) := (blk_cell BK.out 1).trans rfl
  have g1_ := blk_frozen BK.out 1
  have hbg : b ≠ g := fun e => (Kd.R_ne RR.out BK.out (by decide)) (by rw [e]; rfl)
  have P2 := Kd.R_putn RR.out ((out.length : Int) - 1) (bits .or .u8 (rdOf 0 out ((out.length : Int) - 1)) (wrap64 (x * 2 ^ (many % 8).toNat) % 256))
  have ei : ((out.length : Int) - 1).toNat = out.length - 1 := by omega
  rw [ei] at P2
  obtain ⟨cb, hcb⟩ := Kd.R_typed RR.out b rfl
  have hgb : base ≤ b := (Kd.R_base RR.out) b rfl
  have X0 := Aside0.mk (show w.heap[b]? = some (.cells cb 5 (0, 0)) from hcb)
  have X1 := Aside0.mk P2
  clear P2 ei hcb
  go_region
  obtain ⟨V, hV⟩ : ∃ V : World, V = (w.setCell ⟨b, out.length - 1, none⟩ (.int .u8 (bits .or .u8 (rdOf 0 out ((out.length : Int) - 1)) (wrap64 (x * 2 ^ (many % 8).toNat) % 256)))) := ⟨_, rfl⟩
  have BV : V.heap[g]? = some (.cells #[.slice (some ⟨b, 0, none⟩) out.length cap, .int .i64 many] 67 (0, 0)) := by rw [hV]; exact blk_far BK.out (fun e => hbg e.symm) _
  have RV : Kd.R (Kd.int .u8) 5 V base (fun _ => True) (.slice (some ⟨b, 0, none⟩) out.length cap) (out.set (out.length - 1) (bits .or .u8 (rdOf 0 out ((out.length : Int) - 1)) (wrap64 (x * 2 ^ (many % 8).toNat) % 256))) := by rw [hV]; exact X1.out
  have KV : Kept8 w V g := by rw [hV]; exact Kept8.setRow KK.out X0.out _
  have BBV : Below base w0 V := by rw [hV]; exact Below.setCell BB.out hgb _
  rw [← hV]
  have v1_ : V.drew.cell? ⟨g, 1, none⟩ = some (.int .i64 many) := (blk_cell (blk_drew BV) 1).trans rfl
  have vg1_ := blk_frozen (blk_drew BV) 1
  have BV' := Aside0.mk BV
  have RV' := Aside0.mk RV
  clear BV RV b0_ b1_ cl fz g1_ hV
  go_wp2
  go_end0
  have B2 := blk_put (blk_drew BV'.out) 1 (.int .i64 (wrap64 (many + 1))) rfl
  have R1 := Kd.R_types (Kd.R_drew RV'.out) (blk_drew BV'.out) (by decide)
  refine ⟨rfl, Below.setCell BBV.drew hge _, ?_, Kept8.setG KV.drew _⟩
  refine ⟨_, B2, hge, ?_⟩
  have R2 := Kd.R_mono (Kd.R_far R1 (p := ⟨g, 1, none⟩) (fun k hk => hk.2) (.int .i64 (wrap64 (many + 1)))) (ok' := fun _ => True) (fun _ _ => trivial)
  exact R2

/-! ### spec_l2Bits_number: function 49 -/
def spec_l2Bits_numberG (n : Int) : Nat → Nat → List Int → Int → Option (List Int × Int)
 | 0, _, o, m => some (o, m)
 | r + 1, k, o, m => (spec_l2Bits_bit.f o m (bits .and .i64 (n / 2 ^ k) 1)).bind fun p => spec_l2Bits_numberG n r (k + 1) p.1 p.2
def spec_l2Bits_number.f (out : List Int) (many n cnt : Int) : Option (List Int × Int) := if 0 ≤ cnt ∧ cnt ≤ 62 then spec_l2Bits_numberG n cnt.toNat 0 out many else none
set_option maxHeartbeats 8000000 in
set_option maxRecDepth 100000 in
theorem spec_l2Bits_number.calls (out : List Int) (many n cnt : Int) (out' : List Int) (many' : Int) (base g : Nat) (w0 w : World) (hbase : base ≤ w.heap.size) (hB : Below base w0 w) (hW : W8 67 w base g out many) (h : spec_l2Bits_number.f out many n cnt = some (out', many')) :
  Calls Try.prog 49 #[.pointer (some ⟨g, 0, none⟩), .int .i64 n, .int .i64 cnt] w fun e w' => e = .returned (.tuple #[]) ∧ Below base w0 w' ∧ W8 67 w' base g out' many' ∧ Kept8 w w' g := by
 unfold spec_l2Bits_number.f at h
 by_cases hc : 0 ≤ cnt ∧ cnt ≤ 62
 rotate_left
 ·rw [if_neg hc] at h; cases h
 rw [if_pos hc] at h
 have HB := Aside0.mk hB
 have HW := Aside0.mk hW
 have HH := Aside0.mk h
 have HC := Aside0.mk hc
 have HSZ := Aside0.mk hbase
 have hc0 := hc.1
 have hc62 := hc.2
 clear hB hW h hc hbase
 go_enter Try.func49, Try.ntmps49
 go_wp2
 go_loopg [6] cnt.toNat (fun kq v w' => ∃ (k : Nat) (o : List Int) (m : Int), v = .int .i64 (k : Int) ∧ Aside0 (spec_l2Bits_numberG n kq k o m = some (out', many')) ∧ Aside0 (kq + k = cnt.toNat) ∧ Aside0 (base ≤ w'.heap.size) ∧ Aside0 (Below base w0 w') ∧ Aside0 (W8 67 w' base g o m) ∧ Aside0 (Kept8 w w' g))
 case atStart => exact ⟨0, out, many, rfl, HH, ⟨rfl⟩, HSZ, HB, HW, ⟨Kept8.refl w g⟩⟩
 case round =>
  obtain ⟨k, o, m, rfl, HA, HI, HS, HB2, HW2, HK⟩ := hrel
  cases gk with
  | zero =>
   have H := HA.out
   simp only [spec_l2Bits_numberG, Option.some.injEq, Prod.mk.injEq] at H
   obtain ⟨rfl, rfl⟩ := H
   have hk : decide ((k : Int) < cnt) = false := decide_eq_false (by have := HI.out; omega)
   clear HA HI
   go_wp2
   go_end0
   exact ⟨rfl, HB2.out, HW2.out, HK.out⟩
  | succ r =>
   have H := HA.out
   clear HA
   simp only [spec_l2Bits_numberG] at H
   obtain ⟨⟨o2, m2⟩, hd, H⟩ := Option.bind_eq_some_iff.mp H
   have HD := Aside0.mk hd
   have H' := Aside0.mk H
   have hk : decide ((k : Int) < cnt) = true := decide_eq_true (by have := HI.out; omega)
   have hk2 : (k : Int) < 64 := by have := HI.out; omega
   have hk3 : (k : Int) < cnt := by have := HI.out; omega
   clear hd H
   go_wp2_with (go_at_call 66; (with_reducible refine (spec_l2Bits_bit.calls o m _ o2 m2 base g w0 _ HS.out HB2.out HW2.out HD.out).mono ?_); rintro e w2 ⟨rfl, hb_, hw_, hk_⟩; have X1 := Aside0.mk hb_; have X2 := Aside0.mk hw_; have X3 := Aside0.mk (Kept8.trans HK.out hk_); have X4 := Aside0.mk (Nat.le_trans HS.out hk_.1); clear hb_ hw_ hk_)
   go_roundg r
   case measure => omega
   case rel => exact ⟨k + 1, o2, m2, by first | rfl | (rw [Int.natCast_add]; rfl) | (simp; done), H', ⟨by have := HI.out; omega⟩, X4, X1, X2, X3⟩

/-! ### spec_l2Match: function 50 -/
mutual
def spec_l2Match.l0 : Nat → List Int → Int → Int → Int → Int → Option (Int × Int)
 | 0, _, _, _, _, _ => none
 | k + 1, x0, x1, x6, x7, x8 => if x8 ≤ x1 then (spec_l2Match.l1 k x0 x1 x6 x7 x8 0) else (if x6 < 3 then (some (0, 0)) else (some (x6, x7)))
def spec_l2Match.l1 : Nat → List Int → Int → Int → Int → Int → Int → Option (Int × Int)
 | 0, _, _, _, _, _, _ => none
 | k + 1, x0, x1, x6, x7, x8, x9 => if x9 < 258 then (if (wrap64 (x1 + x9)) < (x0.length : Int) then (if 0 ≤ (wrap64 (x1 + x9)) then (if 0 ≤ (wrap64 ((wrap64 (x1 + x9)) - x8)) then (if (wrap64 ((wrap64 (x1 + x9)) - x8)) < (x0.length : Int) then (if (rd x0 (wrap64 (x1 + x9))) = (rd x0 (wrap64 ((wrap64 (x1 + x9)) - x8))) then (spec_l2Match.l1 k x0 x1 x6 x7 x8 (wrap64 (x9 + 1))) else (if x9 > x6 then (spec_l2Match.l0 k x0 x1 x9 x8 (wrap64 (x8 + 1))) else (spec_l2Match.l0 k x0 x1 x6 x7 (wrap64 (x8 + 1))))) else (none)) else (none)) else (none)) else (if x9 > x6 then (spec_l2Match.l0 k x0 x1 x9 x8 (wrap64 (x8 + 1))) else (spec_l2Match.l0 k x0 x1 x6 x7 (wrap64 (x8 + 1))))) else (if x9 > x6 then (spec_l2Match.l0 k x0 x1 x9 x8 (wrap64 (x8 + 1))) else (spec_l2Match.l0 k x0 x1 x6 x7 (wrap64 (x8 + 1))))
end
def spec_l2Match.f (k : Nat) (l0 : List Int) (a1 : Int) : Option (Int × Int) := spec_l2Match.l0 k l0 a1 0 0 1
set_option maxHeartbeats 8000000 in
set_option maxRecDepth 100000 in
theorem spec_l2Match.calls (k : Nat) (A0 : Option Addr) (c0 : Nat) (l0 : List Int) (a1 : Int) (r1 : Int) (r2 : Int) (w : World) (hr0 : Kd.C (Kd.int .u8) w A0 l0.length l0) (hc0 : l0.length ≤ c0) (h : spec_l2Match.f k l0 a1 = some (r1, r2)) :
  Calls Try.prog 50 #[.slice A0 l0.length c0, .int .i64 a1] w fun e w' => e = .returned (.tuple #[.int .i64 r1, .int .i64 r2]) ∧ Drawn0 w w' := by
 have HR0 := Aside0.mk hr0
 have HC0 := Aside0.mk hc0
 clear hr0 hc0
 have H : (spec_l2Match.l0 k l0 a1 0 0 1) = some (r1, r2) := h
 clear h
 have H' := Aside0.mk H
 clear H
 go_enter Try.func50, Try.ntmps50
 go_wp2
 repeat (go_quiet (fail); try go_wp2)
 go_loopg [6, 7, 8] k (fun kq v6 v7 v8 w' => ∃ (x6_1 : Int) (x7_1 : Int) (x8_1 : Int), v6 = .int .i64 x6_1 ∧ v7 = .int .i64 x7_1 ∧ v8 = .int .i64 x8_1 ∧ Aside0 (spec_l2Match.l0 kq l0 a1 x6_1 x7_1 x8_1 = some (r1, r2)) ∧ Aside0 (kq ≤ k) ∧ Drawn0 w w')
 case atStart => exact ⟨(0), (0), (1), (by first | rfl | (simp; done) | (simp [*]; done) | (simp [wrap64]; done)), (by first | rfl | (simp; done) | (simp [*]; done) | (simp [wrap64]; done)), (by first | rfl | (simp; done) | (simp [*]; done) | (simp [wrap64]; done)), H', ⟨Nat.le_refl _⟩, by repeat (first | exact Drawn0.refl _ | apply Drawn0.step)⟩
 case round =>
  clear H'
  (try clear p2)
  obtain ⟨x6_1, x7_1, x8_1, rfl, rfl, rfl, HA, HK1, ⟨m1, rfl⟩⟩ := hrel
  cases gk with
  | zero => exact absurd HA.out (by simp [spec_l2Match.l0])
  | succ k1 =>
   have H := HA.out
   clear HA
   simp only [spec_l2Match.l0] at H
   by_cases c3 : x8_1 ≤ a1
   ·rw [if_pos c3] at H
    have c3b0 : decide (x8_1 ≤ a1) = true := decide_eq_true c3
    clear c3
    have H' := Aside0.mk H
    clear H
    go_wp2
    repeat (go_quiet (fail); try go_wp2)
    go_loopg [9] k1 (fun kq v9 w' => ∃ (x9_2 : Int), v9 = .int .i64 x9_2 ∧ Aside0 (spec_l2Match.l1 kq l0 a1 x6_1 x7_1 x8_1 x9_2 = some (r1, r2)) ∧ Aside0 (kq ≤ k1) ∧ Drawn0 w w')
    case atStart => exact ⟨(0), (by first | rfl | (simp; done) | (simp [*]; done) | (simp [wrap64]; done)), H', ⟨Nat.le_refl _⟩, by repeat (first | exact Drawn0.refl _ | apply Drawn0.step)⟩
    case round =>
     clear H'
     (try clear p2);(try clear c3);(try clear c3b0);(try clear p2)
     obtain ⟨x9_2, rfl, HA, HK2, ⟨m2, rfl⟩⟩ := hrel
     cases gk with
     | zero => exact absurd HA.out (by simp [spec_l2Match.l1])
     | succ k2 =>
      have H := HA.out
      clear HA
      simp only [spec_l2Match.l1] at H
      by_cases c4 : x9_2 < 258
      ·rw [if_pos c4] at H
       have c4b0 : decide (x9_2 < 258) = true := decide_eq_true c4
       clear c4
       by_cases c5 : (wrap64 (a1 + x9_2)) < (l0.length : Int)
       ·rw [if_pos c5] at H
        have c5b0 : decide ((wrap64 (a1 + x9_2)) < (l0.length : Int)) = true := decide_eq_true c5
        clear c5
        obtain ⟨ji6, hji6⟩ : ∃ j_ : Int, (wrap64 (a1 + x9_2)) = j_ := ⟨_, rfl⟩
        replace H : (if 0 ≤ (ji6) then (if 0 ≤ (wrap64 ((ji6) - x8_1)) then (if (wrap64 ((ji6) - x8_1)) < (l0.length : Int) then (if (rd l0 (ji6)) = (rd l0 (wrap64 ((ji6) - x8_1))) then (spec_l2Match.l1 k2 l0 a1 x6_1 x7_1 x8_1 (wrap64 (x9_2 + 1))) else (if x9_2 > x6_1 then (spec_l2Match.l0 k2 l0 a1 x9_2 x8_1 (wrap64 (x8_1 + 1))) else (spec_l2Match.l0 k2 l0 a1 x6_1 x7_1 (wrap64 (x8_1 + 1))))) else (none)) else (none)) else (none)) = some (r1, r2) := by first | (rw [hji6] at H; exact H) | (simp only [hji6] at H ⊢; exact H)
        (try rw [hji6] at c5b0)
        have hji6w : (IntKind.i64.wrap (a1 + x9_2)) = ji6 := (i64_w _).trans hji6
        by_cases c7 : 0 ≤ (ji6)
        ·rw [if_pos c7] at H
         have c7b0 : decide (0 ≤ (ji6)) = true := decide_eq_true c7
         clear c7
         obtain ⟨ji8, hji8⟩ : ∃ j_ : Int, (wrap64 ((ji6) - x8_1)) = j_ := ⟨_, rfl⟩
         replace H : (if 0 ≤ (ji8) then (if (ji8) < (l0.length : Int) then (if (rd l0 (ji6)) = (rd l0 (ji8)) then (spec_l2Match.l1 k2 l0 a1 x6_1 x7_1 x8_1 (wrap64 (x9_2 + 1))) else (if x9_2 > x6_1 then (spec_l2Match.l0 k2 l0 a1 x9_2 x8_1 (wrap64 (x8_1 + 1))) else (spec_l2Match.l0 k2 l0 a1 x6_1 x7_1 (wrap64 (x8_1 + 1))))) else (none)) else (none)) = some (r1, r2) := by first | (rw [hji8] at H; exact H) | (simp only [hji8] at H ⊢; exact H)
         have hji8w : (IntKind.i64.wrap ((ji6) - x8_1)) = ji8 := (i64_w _).trans hji8
         by_cases c9 : 0 ≤ (ji8)
         ·rw [if_pos c9] at H
          have c9b0 : decide (0 ≤ (ji8)) = true := decide_eq_true c9
          clear c9
          by_cases c10 : (ji8) < (l0.length : Int)
          ·rw [if_pos c10] at H
           have c10b0 : decide ((ji8) < (l0.length : Int)) = true := decide_eq_true c10
           clear c10
           by_cases c11 : (rd l0 (ji6)) = (rd l0 (ji8))
           ·rw [if_pos c11] at H
            have c11b0 : ((rd l0 (ji6)) == (rd l0 (ji8))) = true := beq_iff_eq.mpr c11
            have c11b1 : ((rd l0 (ji6)) != (rd l0 (ji8))) = false := bne_eq_false_iff_eq.mpr c11
            clear c11
            have H' := Aside0.mk H
            clear H
            have p124 : 0 ≤ ((ji6) : Int) := of_decide_eq_true (by first | (with_reducible assumption) | assumption)
            have q124 : (ji6) < (l0.length : Int) := of_decide_eq_true (by first | (with_reducible assumption) | assumption)
            obtain ⟨ad124, e124, hx124_0⟩ := Kd.at_int HR0.out (ji6) p124 q124
            cases e124
            replace p124 := eq_true p124
            replace q124 := eq_true q124
            have p125 : 0 ≤ ((ji8) : Int) := of_decide_eq_true (by first | (with_reducible assumption) | assumption)
            have q125 : (ji8) < (l0.length : Int) := of_decide_eq_true (by first | (with_reducible assumption) | assumption)
            obtain ⟨ad125, e125, hx125_0⟩ := Kd.at_int HR0.out (ji8) p125 q125
            obtain rfl : ad124 = ad125 := (by injection e125)
            replace p125 := eq_true p125
            replace q125 := eq_true q125
            go_wp2
            repeat (go_quiet (fail); try go_wp2)
            go_roundg k2
            case measure => have := HK1.out; have := HK2.out; omega
            case rel => exact ⟨(wrap64 (x9_2 + 1)), (by first | rfl | (simp; done) | (simp [*]; done) | (simp [wrap64]; done)), H', ⟨by have := HK1.out; have := HK2.out; omega⟩, by repeat (first | exact Drawn0.refl _ | apply Drawn0.step)⟩
           ·rw [if_neg c11] at H
            have c11b0 : ((rd l0 (ji6)) == (rd l0 (ji8))) = false := beq_eq_false_iff_ne.mpr c11
            have c11b1 : ((rd l0 (ji6)) != (rd l0 (ji8))) = true := bne_iff_ne.mpr c11
            by_cases c12 : x9_2 > x6_1
            ·rw [if_pos c12] at H
             have c12b0 : decide (x6_1 < x9_2) = true := decide_eq_true c12
             clear c12
             have H' := Aside0.mk H
             clear H
             have p124 : 0 ≤ ((ji6) : Int) := of_decide_eq_true (by first | (with_reducible assumption) | assumption)
             have q124 : (ji6) < (l0.length : Int) := of_decide_eq_true (by first | (with_reducible assumption) | assumption)
             obtain ⟨ad124, e124, hx124_0⟩ := Kd.at_int HR0.out (ji6) p124 q124
             cases e124
             replace p124 := eq_true p124
             replace q124 := eq_true q124
             have p125 : 0 ≤ ((ji8) : Int) := of_decide_eq_true (by first | (with_reducible assumption) | assumption)
             have q125 : (ji8) < (l0.length : Int) := of_decide_eq_true (by first | (with_reducible assumption) | assumption)
             obtain ⟨ad125, e125, hx125_0⟩ := Kd.at_int HR0.out (ji8) p125 q125
             obtain rfl : ad124 = ad125 := (by injection e125)
             replace p125 := eq_true p125
             replace q125 := eq_true q125
             go_wp2
             repeat (go_quiet (fail); try go_wp2)
             go_roundg k2
             case measure => have := HK1.out; have := HK2.out; omega
             case rel => exact ⟨(x9_2), (x8_1), (wrap64 (x8_1 + 1)), (by first | rfl | (simp; done) | (simp [*]; done) | (simp [wrap64]; done)), (by first | rfl | (simp; done) | (simp [*]; done) | (simp [wrap64]; done)), (by first | rfl | (simp; done) | (simp [*]; done) | (simp [wrap64]; done)), H', ⟨by have := HK1.out; have := HK2.out; omega⟩, by repeat (first | exact Drawn0.refl _ | apply Drawn0.step)⟩
            ·rw [if_neg c12] at H
             have c12b0 : decide (x6_1 < x9_2) = false := decide_eq_false c12
             clear c12
             have H' := Aside0.mk H
             clear H
             have p124 : 0 ≤ ((ji6) : Int) := of_decide_eq_true (by first | (with_reducible assumption) | assumption)
             have q124 : (ji6) < (l0.length : Int) := of_decide_eq_true (by first | (with_reducible assumption) | assumption)
             obtain ⟨ad124, e124, hx124_0⟩ := Kd.at_int HR0.out (ji6) p124 q124
             cases e124
             replace p124 := eq_true p124
             replace q124 := eq_true q124
             have p125 : 0 ≤ ((ji8) : Int) := of_decide_eq_true (by first | (with_reducible assumption) | assumption)
             have q125 : (ji8) < (l0.length : Int) := of_decide_eq_true (by first | (with_reducible assumption) | assumption)
             obtain ⟨ad125, e125, hx125_0⟩ := Kd.at_int HR0.out (ji8) p125 q125
             obtain rfl : ad124 = ad125 := (by injection e125)
             replace p125 := eq_true p125
             replace q125 := eq_true q125
             go_wp2
             repeat (go_quiet (fail); try go_wp2)
             go_roundg k2
             case measure => have := HK1.out; have := HK2.out; omega
             case rel => exact ⟨(x6_1), (x7_1), (wrap64 (x8_1 + 1)), (by first | rfl | (simp; done) | (simp [*]; done) | (simp [wrap64]; done)), (by first | rfl | (simp; done) | (simp [*]; done) | (simp [wrap64]; done)), (by first | rfl | (simp; done) | (simp [*]; done) | (simp [wrap64]; done)), H', ⟨by have := HK1.out; have := HK2.out; omega⟩, by repeat (first | exact Drawn0.refl _ | apply Drawn0.step)⟩
          ·rw [if_neg c10] at H
           exact absurd H (by simp)
         ·rw [if_neg c9] at H
          exact absurd H (by simp)
        ·rw [if_neg c7] at H
         exact absurd H (by simp)
       ·rw [if_neg c5] at H
        have c5b0 : decide ((wrap64 (a1 + x9_2)) < (l0.length : Int)) = false := decide_eq_false c5
        clear c5
        by_cases c13 : x9_2 > x6_1
        ·rw [if_pos c13] at H
         have c13b0 : decide (x6_1 < x9_2) = true := decide_eq_true c13
         clear c13
         have H' := Aside0.mk H
         clear H
         go_wp2
         repeat (go_quiet (fail); try go_wp2)
         go_roundg k2
         case measure => have := HK1.out; have := HK2.out; omega
         case rel => exact ⟨(x9_2), (x8_1), (wrap64 (x8_1 + 1)), (by first | rfl | (simp; done) | (simp [*]; done) | (simp [wrap64]; done)), (by first | rfl | (simp; done) | (simp [*]; done) | (simp [wrap64]; done)), (by first | rfl | (simp; done) | (simp [*]; done) | (simp [wrap64]; done)), H', ⟨by have := HK1.out; have := HK2.out; omega⟩, by repeat (first | exact Drawn0.refl _ | apply Drawn0.step)⟩
        ·rw [if_neg c13] at H
         have c13b0 : decide (x6_1 < x9_2) = false := decide_eq_false c13
         clear c13
         have H' := Aside0.mk H
         clear H
         go_wp2
         repeat (go_quiet (fail); try go_wp2)
         go_roundg k2
         case measure => have := HK1.out; have := HK2.out; omega
         case rel => exact ⟨(x6_1), (x7_1), (wrap64 (x8_1 + 1)), (by first | rfl | (simp; done) | (simp [*]; done) | (simp [wrap64]; done)), (by first | rfl | (simp; done) | (simp [*]; done) | (simp [wrap64]; done)), (by first | rfl | (simp; done) | (simp [*]; done) | (simp [wrap64]; done)), H', ⟨by have := HK1.out; have := HK2.out; omega⟩, by repeat (first | exact Drawn0.refl _ | apply Drawn0.step)⟩
      ·rw [if_neg c4] at H
       have c4b0 : decide (x9_2 < 258) = false := decide_eq_false c4
       clear c4
       by_cases c14 : x9_2 > x6_1
       ·rw [if_pos c14] at H
        have c14b0 : decide (x6_1 < x9_2) = true := decide_eq_true c14
        clear c14
        have H' := Aside0.mk H
        clear H
        go_wp2
        repeat (go_quiet (fail); try go_wp2)
        go_roundg k2
        case measure => have := HK1.out; have := HK2.out; omega
        case rel => exact ⟨(x9_2), (x8_1), (wrap64 (x8_1 + 1)), (by first | rfl | (simp; done) | (simp [*]; done) | (simp [wrap64]; done)), (by first | rfl | (simp; done) | (simp [*]; done) | (simp [wrap64]; done)), (by first | rfl | (simp; done) | (simp [*]; done) | (simp [wrap64]; done)), H', ⟨by have := HK1.out; have := HK2.out; omega⟩, by repeat (first | exact Drawn0.refl _ | apply Drawn0.step)⟩
       ·rw [if_neg c14] at H
        have c14b0 : decide (x6_1 < x9_2) = false := decide_eq_false c14
        clear c14
        have H' := Aside0.mk H
        clear H
        go_wp2
        repeat (go_quiet (fail); try go_wp2)
        go_roundg k2
        case measure => have := HK1.out; have := HK2.out; omega
        case rel => exact ⟨(x6_1), (x7_1), (wrap64 (x8_1 + 1)), (by first | rfl | (simp; done) | (simp [*]; done) | (simp [wrap64]; done)), (by first | rfl | (simp; done) | (simp [*]; done) | (simp [wrap64]; done)), (by first | rfl | (simp; done) | (simp [*]; done) | (simp [wrap64]; done)), H', ⟨by have := HK1.out; have := HK2.out; omega⟩, by repeat (first | exact Drawn0.refl _ | apply Drawn0.step)⟩
   ·rw [if_neg c3] at H
    have c3b0 : decide (x8_1 ≤ a1) = false := decide_eq_false c3
    clear c3
    by_cases c15 : x6_1 < 3
    ·rw [if_pos c15] at H
     have c15b0 : decide (x6_1 < 3) = true := decide_eq_true c15
     clear c15
     simp only [Option.some.injEq, Prod.mk.injEq] at H
     obtain ⟨rfl, rfl⟩ := H
     go_wp2
     repeat (go_quiet (fail); try go_wp2)
     go_ret2
     exact ⟨by first | rfl | (simp; done) | (simp [*]; done), by repeat (first | exact Drawn0.refl _ | apply Drawn0.step)⟩
    ·rw [if_neg c15] at H
     have c15b0 : decide (x6_1 < 3) = false := decide_eq_false c15
     clear c15
     simp only [Option.some.injEq, Prod.mk.injEq] at H
     obtain ⟨rfl, rfl⟩ := H
     go_wp2
     repeat (go_quiet (fail); try go_wp2)
     go_ret2
     exact ⟨by first | rfl | (simp; done) | (simp [*]; done), by repeat (first | exact Drawn0.refl _ | apply Drawn0.step)⟩

/-! ### spec_l2Bits_code: function 51 -/
def spec_l2Bits_codeG (n : Int) : Nat → List Int → Int → Option (List Int × Int)
 | 0, o, m => some (o, m)
 | r + 1, o, m => (spec_l2Bits_bit.f o m (bits .and .i64 (n / 2 ^ r) 1)).bind fun p => spec_l2Bits_codeG n r p.1 p.2
def spec_l2Bits_code.f (out : List Int) (many n cnt : Int) : Option (List Int × Int) := if 0 ≤ cnt ∧ cnt ≤ 62 then spec_l2Bits_codeG n cnt.toNat out many else none
set_option maxHeartbeats 8000000 in
set_option maxRecDepth 100000 in
theorem spec_l2Bits_code.calls (out : List Int) (many n cnt : Int) (out' : List Int) (many' : Int) (base g : Nat) (w0 w : World) (hbase : base ≤ w.heap.size) (hB : Below base w0 w) (hW : W8 67 w base g out many) (h : spec_l2Bits_code.f out many n cnt = some (out', many')) :
  Calls Try.prog 51 #[.pointer (some ⟨g, 0, none⟩), .int .i64 n, .int .i64 cnt] w fun e w' => e = .returned (.tuple #[]) ∧ Below base w0 w' ∧ W8 67 w' base g out' many' ∧ Kept8 w w' g := by
 unfold spec_l2Bits_code.f at h
 by_cases hc : 0 ≤ cnt ∧ cnt ≤ 62
 rotate_left
 ·rw [if_neg hc] at h; cases h
 rw [if_pos hc] at h
 have HB := Aside0.mk hB
 have HW := Aside0.mk hW
 have HH := Aside0.mk h
 have HC := Aside0.mk hc
 have HSZ := Aside0.mk hbase
 have hc0 := hc.1
 have hc62 := hc.2
 clear hB hW h hc hbase
 go_enter Try.func51, Try.ntmps51
 go_wp2
 go_loopg [6] cnt.toNat (fun kq v w' => ∃ (o : List Int) (m : Int), v = .int .i64 ((kq : Int) - 1) ∧ Aside0 (spec_l2Bits_codeG n kq o m = some (out', many')) ∧ Aside0 (kq ≤ cnt.toNat) ∧ Aside0 (base ≤ w'.heap.size) ∧ Aside0 (Below base w0 w') ∧ Aside0 (W8 67 w' base g o m) ∧ Aside0 (Kept8 w w' g))
 case atStart => exact ⟨out, many, by rw [Int.toNat_of_nonneg hc0], HH, ⟨Nat.le_refl _⟩, HSZ, HB, HW, ⟨Kept8.refl w g⟩⟩
 case round =>
  obtain ⟨o, m, rfl, HA, HI, HS, HB2, HW2, HK⟩ := hrel
  cases gk with
  | zero =>
   have H := HA.out
   simp only [spec_l2Bits_codeG, Option.some.injEq, Prod.mk.injEq] at H
   obtain ⟨rfl, rfl⟩ := H
   clear HA HI
   go_wp2
   go_end0
   exact ⟨rfl, HB2.out, HW2.out, HK.out⟩
  | succ r =>
   have H := HA.out
   clear HA
   simp only [spec_l2Bits_codeG] at H
   obtain ⟨⟨o2, m2⟩, hd, H⟩ := Option.bind_eq_some_iff.mp H
   have HD := Aside0.mk hd
   have H' := Aside0.mk H
   have er : ((r + 1 : Nat) : Int) - 1 = (r : Int) := by omega
   rw [er]
   have hk2 : (r : Int) < 64 := by have := HI.out; omega
   have hk3 : decide ((r : Int) ≥ 0) = true := decide_eq_true (by omega)
   clear hd H er
   go_wp2_with (go_at_call 66; (with_reducible refine (spec_l2Bits_bit.calls o m _ o2 m2 base g w0 _ HS.out HB2.out HW2.out HD.out).mono ?_); rintro e w2 ⟨rfl, hb_, hw_, hk_⟩; have X1 := Aside0.mk hb_; have X2 := Aside0.mk hw_; have X3 := Aside0.mk (Kept8.trans HK.out hk_); have X4 := Aside0.mk (Nat.le_trans HS.out hk_.1); clear hb_ hw_ hk_)
   go_roundg r
   case measure => omega
   case rel => exact ⟨o2, m2, rfl, H', ⟨by have := HI.out; omega⟩, X4, X1, X2, X3⟩

/-! ### spec_l2Base: function 52 -/
def spec_l2Base.f (a0 : Int) : Option (Int × Int) := if a0 = 28 then (some (258, 0)) else (if a0 < 8 then (some (wrap64 (3 + a0), 0)) else (if 0 ≤ (IntKind.u64.wrap (wrap64 ((wrap64 (Int.tdiv a0 4)) - 1))) then (some (wrap64 (3 + (shl .i64 (wrap64 (4 + (Int.tmod a0 4))) (IntKind.u64.wrap (wrap64 ((wrap64 (Int.tdiv a0 4)) - 1))))), wrap64 ((wrap64 (Int.tdiv a0 4)) - 1))) else (none)))
set_option maxHeartbeats 8000000 in
set_option maxRecDepth 100000 in
theorem spec_l2Base.calls (a0 : Int) (r1 : Int) (r2 : Int) (w : World) (h : spec_l2Base.f a0 = some (r1, r2)) :
  Calls Try.prog 52 #[.int .i64 a0] w fun e w' => e = .returned (.tuple #[.int .i64 r1, .int .i64 r2]) ∧ Drawn0 w w' := by
 have H : (if a0 = 28 then (some (258, 0)) else (if a0 < 8 then (some (wrap64 (3 + a0), 0)) else (if 0 ≤ (IntKind.u64.wrap (wrap64 ((wrap64 (Int.tdiv a0 4)) - 1))) then (some (wrap64 (3 + (shl .i64 (wrap64 (4 + (Int.tmod a0 4))) (IntKind.u64.wrap (wrap64 ((wrap64 (Int.tdiv a0 4)) - 1))))), wrap64 ((wrap64 (Int.tdiv a0 4)) - 1))) else (none)))) = some (r1, r2) := h
 clear h
 by_cases c2 : a0 = 28
 ·rw [if_pos c2] at H
  have c2b0 : (a0 == 28) = true := beq_iff_eq.mpr c2
  have c2b1 : (a0 != 28) = false := bne_eq_false_iff_eq.mpr c2
  clear c2
  simp only [Option.some.injEq, Prod.mk.injEq] at H
  obtain ⟨rfl, rfl⟩ := H
  go_enter Try.func52, Try.ntmps52
  go_wp2
  go_ret2
  exact ⟨by first | rfl | (simp; done) | (simp [*]; done), by repeat (first | exact Drawn0.refl _ | apply Drawn0.step)⟩
 ·rw [if_neg c2] at H
  have c2b0 : (a0 == 28) = false := beq_eq_false_iff_ne.mpr c2
  have c2b1 : (a0 != 28) = true := bne_iff_ne.mpr c2
  by_cases c3 : a0 < 8
  ·rw [if_pos c3] at H
   have c3b0 : decide (a0 < 8) = true := decide_eq_true c3
   clear c3
   simp only [Option.some.injEq, Prod.mk.injEq] at H
   obtain ⟨rfl, rfl⟩ := H
   go_enter Try.func52, Try.ntmps52
   go_wp2
   go_ret2
   exact ⟨by first | rfl | (simp; done) | (simp [*]; done), by repeat (first | exact Drawn0.refl _ | apply Drawn0.step)⟩
  ·rw [if_neg c3] at H
   have c3b0 : decide (a0 < 8) = false := decide_eq_false c3
   clear c3
   obtain ⟨ji4, hji4⟩ : ∃ j_ : Int, (IntKind.u64.wrap (wrap64 ((wrap64 (Int.tdiv a0 4)) - 1))) = j_ := ⟨_, rfl⟩
   replace H : (if 0 ≤ (ji4) then (some (wrap64 (3 + (shl .i64 (wrap64 (4 + (Int.tmod a0 4))) (ji4))), wrap64 ((wrap64 (Int.tdiv a0 4)) - 1))) else (none)) = some (r1, r2) := by first | (rw [hji4] at H; exact H) | (simp only [hji4] at H ⊢; exact H)
   by_cases c5 : 0 ≤ (ji4)
   ·rw [if_pos c5] at H
    have c5b0 := eq_true c5
    have c5b1 : decide (0 ≤ (ji4)) = true := decide_eq_true c5
    clear c5
    obtain ⟨ji6, hji6⟩ : ∃ j_ : Int, (shl .i64 (wrap64 (4 + (Int.tmod a0 4))) (ji4)) = j_ := ⟨_, rfl⟩
    replace H : (some (wrap64 (3 + (ji6)), wrap64 ((wrap64 (Int.tdiv a0 4)) - 1))) = some (r1, r2) := by first | (rw [hji6] at H; exact H) | (simp only [hji6] at H ⊢; exact H)
    have hji6_ : (IntKind.i64.wrap ((wrap64 (4 + (Int.tmod a0 4))) * 2 ^ min (ji4).toNat 64)) = ji6 := hji6
    have hji6z : (ji4) ≤ 64 → (IntKind.i64.wrap ((wrap64 (4 + (Int.tmod a0 4))) * 2 ^ (ji4).toNat)) = ji6 := shl_small hji6
    have hji6y : (wrap64 ((wrap64 (4 + (Int.tmod a0 4))) * 2 ^ min (ji4).toNat 64)) = ji6 := (i64_w _).symm.trans hji6_
    have hji6x : (ji4) ≤ 64 → (wrap64 ((wrap64 (4 + (Int.tmod a0 4))) * 2 ^ (ji4).toNat)) = ji6 := fun h_ => (i64_w _).symm.trans (hji6z h_)
    simp only [Option.some.injEq, Prod.mk.injEq] at H
    obtain ⟨rfl, rfl⟩ := H
    go_enter Try.func52, Try.ntmps52
    go_wp2
    go_ret2
    exact ⟨by first | rfl | (simp; done) | (simp only [← hji4, ← hji6] <;> (first | rfl | simp)) | (simp [*]; done), by repeat (first | exact Drawn0.refl _ | apply Drawn0.step)⟩
   ·rw [if_neg c5] at H
    exact absurd H (by simp)

/-! ### spec_l2Back: function 53 -/
def spec_l2Back.f (a0 : Int) : Option (Int × Int) := if a0 < 4 then (some (wrap64 (1 + a0), 0)) else (if 0 ≤ (IntKind.u64.wrap (wrap64 ((wrap64 (Int.tdiv a0 2)) - 1))) then (some (wrap64 (1 + (shl .i64 (wrap64 (2 + (Int.tmod a0 2))) (IntKind.u64.wrap (wrap64 ((wrap64 (Int.tdiv a0 2)) - 1))))), wrap64 ((wrap64 (Int.tdiv a0 2)) - 1))) else (none))
set_option maxHeartbeats 8000000 in
set_option maxRecDepth 100000 in
theorem spec_l2Back.calls (a0 : Int) (r1 : Int) (r2 : Int) (w : World) (h : spec_l2Back.f a0 = some (r1, r2)) :
  Calls Try.prog 53 #[.int .i64 a0] w fun e w' => e = .returned (.tuple #[.int .i64 r1, .int .i64 r2]) ∧ Drawn0 w w' := by
 have H : (if a0 < 4 then (some (wrap64 (1 + a0), 0)) else (if 0 ≤ (IntKind.u64.wrap (wrap64 ((wrap64 (Int.tdiv a0 2)) - 1))) then (some (wrap64 (1 + (shl .i64 (wrap64 (2 + (Int.tmod a0 2))) (IntKind.u64.wrap (wrap64 ((wrap64 (Int.tdiv a0 2)) - 1))))), wrap64 ((wrap64 (Int.tdiv a0 2)) - 1))) else (none))) = some (r1, r2) := h
 clear h
 by_cases c2 : a0 < 4
 ·rw [if_pos c2] at H
  have c2b0 : decide (a0 < 4) = true := decide_eq_true c2
  clear c2
  simp only [Option.some.injEq, Prod.mk.injEq] at H
  obtain ⟨rfl, rfl⟩ := H
  go_enter Try.func53, Try.ntmps53
  go_wp2
  go_ret2
  exact ⟨by first | rfl | (simp; done) | (simp [*]; done), by repeat (first | exact Drawn0.refl _ | apply Drawn0.step)⟩
 ·rw [if_neg c2] at H
  have c2b0 : decide (a0 < 4) = false := decide_eq_false c2
  clear c2
  obtain ⟨ji3, hji3⟩ : ∃ j_ : Int, (IntKind.u64.wrap (wrap64 ((wrap64 (Int.tdiv a0 2)) - 1))) = j_ := ⟨_, rfl⟩
  replace H : (if 0 ≤ (ji3) then (some (wrap64 (1 + (shl .i64 (wrap64 (2 + (Int.tmod a0 2))) (ji3))), wrap64 ((wrap64 (Int.tdiv a0 2)) - 1))) else (none)) = some (r1, r2) := by first | (rw [hji3] at H; exact H) | (simp only [hji3] at H ⊢; exact H)
  by_cases c4 : 0 ≤ (ji3)
  ·rw [if_pos c4] at H
   have c4b0 := eq_true c4
   have c4b1 : decide (0 ≤ (ji3)) = true := decide_eq_true c4
   clear c4
   obtain ⟨ji5, hji5⟩ : ∃ j_ : Int, (shl .i64 (wrap64 (2 + (Int.tmod a0 2))) (ji3)) = j_ := ⟨_, rfl⟩
   replace H : (some (wrap64 (1 + (ji5)), wrap64 ((wrap64 (Int.tdiv a0 2)) - 1))) = some (r1, r2) := by first | (rw [hji5] at H; exact H) | (simp only [hji5] at H ⊢; exact H)
   have hji5_ : (IntKind.i64.wrap ((wrap64 (2 + (Int.tmod a0 2))) * 2 ^ min (ji3).toNat 64)) = ji5 := hji5
   have hji5z : (ji3) ≤ 64 → (IntKind.i64.wrap ((wrap64 (2 + (Int.tmod a0 2))) * 2 ^ (ji3).toNat)) = ji5 := shl_small hji5
   have hji5y : (wrap64 ((wrap64 (2 + (Int.tmod a0 2))) * 2 ^ min (ji3).toNat 64)) = ji5 := (i64_w _).symm.trans hji5_
   have hji5x : (ji3) ≤ 64 → (wrap64 ((wrap64 (2 + (Int.tmod a0 2))) * 2 ^ (ji3).toNat)) = ji5 := fun h_ => (i64_w _).symm.trans (hji5z h_)
   simp only [Option.some.injEq, Prod.mk.injEq] at H
   obtain ⟨rfl, rfl⟩ := H
   go_enter Try.func53, Try.ntmps53
   go_wp2
   go_ret2
   exact ⟨by first | rfl | (simp; done) | (simp only [← hji3, ← hji5] <;> (first | rfl | simp)) | (simp [*]; done), by repeat (first | exact Drawn0.refl _ | apply Drawn0.step)⟩
  ·rw [if_neg c4] at H
   exact absurd H (by simp)

end Go.Proofs.Ytfogfjmkngoegaa.PFnExactPackBest
