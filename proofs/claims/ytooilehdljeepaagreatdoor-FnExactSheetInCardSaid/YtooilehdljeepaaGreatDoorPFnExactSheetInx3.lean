import Derived.Test.YtooilehdljeepaaGreatDoorPFnExactSheetInx0
import Derived.Test.YtooilehdljeepaaGreatDoorPFnExactSheetInx1
import Derived.Test.YtooilehdljeepaaGreatDoorPFnExactSheetInx2
namespace Go.Proofs.YtooilehdljeepaaGreatDoor.PFnExactSheetIn
open Go.RowKit Go.Proofs.YtooilehdljeepaaGreatDoorW.PrintWords Go.Proofs.YtooilehdljeepaaGreatDoorW.PrintLast Go.Proofs.YtooilehdljeepaaGreatDoorW.PrintMore
attribute [local go_sem] max2_int min2_int max_two min_two max_three min_three max_four min_four   -- for this text's walks alone
set_option maxHeartbeats 8000000
set_option maxRecDepth 100000
set_option linter.unusedVariables false
set_option linter.unusedSimpArgs false
/-! ### laws_markText: function 22 -/
def laws_markText.l0 : Nat → Int → ByteArray → Option (ByteArray)
 | 0, _, _ => none
 | k + 1, x0, x3 => if x0 > 0 then ((some (([(wrap64 (48 + (Int.tmod x0 10))) % 256] : List Int) : List Int)).bind fun y433 => (if (strOfNums y433).size + x3.size ≤ 9223372036854775807 then (laws_markText.l0 k (wrap64 (Int.tdiv x0 10)) ((strOfNums y433) ++ x3)) else (none))) else (if 1 + x3.size ≤ 9223372036854775807 then (some ((⟨#[109]⟩ : ByteArray) ++ x3)) else (none))
def laws_markText.f (k : Nat) (a0 : Int) : Option (ByteArray) := if a0 ≤ 0 then (some (⟨#[109, 48]⟩ : ByteArray)) else (laws_markText.l0 k a0 (⟨#[]⟩ : ByteArray))
theorem laws_markText.calls (k : Nat) (a0 : Int) (r : ByteArray) (w : World) (h : laws_markText.f k a0 = some r) :
  Calls Tryz.prog 22 #[.int .i64 a0] w fun e w' => e = .returned (.string r) ∧ Below w.heap.size w w' := by
 have HB := ak_ (Below.refl w.heap.size w); have H := h; unfold laws_markText.f at H
 clear h; replace H := ied_ H; rcases H with ⟨c2b0, H⟩ | ⟨c2b0, H⟩
 ·obtain rfl := Option.some.inj H
  go_enter Tryz.func22, Tryz.ntmps22
  go_wp2; go_ret
  exact ⟨er_, bel_⟩
 ·have H' := ak_ H; clear H; go_enter Tryz.func22, Tryz.ntmps22
  go_wp2; go_loopg [0, 3] k (fun kq v0 v3 w' => ∃ (x0_1 : Int) (x3_1 : ByteArray), v0 = .int .i64 x0_1 ∧ v3 = .string x3_1 ∧ Aside0 (laws_markText.l0 kq x0_1 x3_1 = some r) ∧ Aside0 (kq ≤ k) ∧ Aside0 (Below w.heap.size w w'))
  case atStart => exact ⟨(a0), ((⟨#[]⟩ : ByteArray)), sv_, sv_, H', ⟨Nat.le_refl _⟩, ⟨bel_⟩⟩
  case round =>
   clear H'; (try clear c2b0)
   obtain ⟨x0_1, x3_1, rfl, rfl, HA, HK1, HB⟩ := hrel; cases gk with
   | zero => exact absurd HA.out (by simp [laws_markText.l0])
   | succ k1 =>
    have H := HA.out; clear HA; simp only [laws_markText.l0] at H
    replace H := ied_ H; rcases H with ⟨c3b0, H⟩ | ⟨c3b0, H⟩
    ·replace H := nams_ H; obtain ⟨y433, Ny433, H⟩ := H; replace H := itn_ H; obtain ⟨c4, H⟩ := H; have c4b0 := eq_true c4; have c4b1 := decide_eq_true c4; try have c4b2 : (9223372036854775807 < (strOfNums y433).size + x3_1.size) = False := eq_false (Nat.not_lt.2 c4)
     have H' := ak_ H; clear H; go_wp2_with (first | ((with_reducible refine gate_dst (N := 12) rfl ?_); refine Kd.R_lit (Kd.int .u8) _ 5 ?hg (N := 12) ?hd (xs := ([(wrap64 (48 + (Int.tmod x0_1 10))) % 256] : List Int)) (inner := [.int .u8 ((wrap64 (48 + (Int.tmod x0_1 10))) % 256)]) (ok := fun _ => True) (okp := fun _ => True) ?hr ?hp (fun _ hk => hk) trivial (Below.refl _ _) (Nat.le_refl _) (by simp) ?_; (case hd => rfl); (case hg => rfl); (case hr => first | (go_simp; done) | (go_simp; rfl)); (case hp => exact (Reps.one (show Kd.M (Kd.int .u8) _ _ _ ((wrap64 (48 + (Int.tmod x0_1 10))) % 256) [.int .u8 ((wrap64 (48 + (Int.tmod x0_1 10))) % 256)] from rfl) (Reps.none _ _))); intro v434 w5 ho6 hb hg_ hnew_; clear hg_ hnew_; (first | rw [← Ny433.out] at ho6 | (simp only [Int.reduceToNat] at ho6; rw [← Ny433.out] at ho6)); have n_ := an2_ (Kd.R_lower ho6 (below_size bel_)) (below_step bel_ hb); clear HB; obtain ⟨HO435, HB⟩ := n_; clear hb ho6; have hcv7 := own_string (P := Tryz.prog) Tryz.underlying74 Tryz.underlying5 Tryz.underlying9 (Kd.own_of_R HO435.out)))
     go_roundg k1
     case measure => have := HK1.out; omega
     case rel => exact ⟨(wrap64 (Int.tdiv x0_1 10)), ((strOfNums y433) ++ x3_1), sv_, sv_, H', ⟨by have := HK1.out; omega⟩, ⟨bel_⟩⟩
    ·replace H := itn_ H; obtain ⟨c8, H⟩ := H; have c8b0 := eq_true c8; have c8b1 := decide_eq_true c8; try have c8b2 : (9223372036854775807 < 1 + x3_1.size) = False := eq_false (Nat.not_lt.2 c8)
     obtain rfl := Option.some.inj H
     go_wp2; go_ret
     exact ⟨er_, bel_⟩

/-! ### laws_markAttrS: function 23 -/
def laws_markAttrS.l0 : Nat → List (S76) → Int → Int → Option (Int × (List (S76)))
 | 0, _, _, _ => none
 | k + 1, x0, x1, x5 => if x5 < (x0.length : Int) then ((laws_markText.f k x1).bind fun t436 => (if 0 ≤ x5 then ((some (x0.set (x5 : Int).toNat (⟨t436, (rd_T76 x0 x5).f1⟩ : S76) : List (S76))).bind fun y437 => ((laws_markText.f k (wrap64 (x1 + 1))).bind fun t438 => (laws_markAttrS.l0 k (y437.set (x5 : Int).toNat (⟨(rd_T76 y437 x5).f0, t438⟩ : S76)) (wrap64 ((wrap64 (x1 + 1)) + 1)) (wrap64 (x5 + 1))))) else (none))) else (some (x1, x0))
def laws_markAttrS.f (k : Nat) (l0 : List (S76)) (a1 : Int) : Option (Int × (List (S76))) := laws_markAttrS.l0 k l0 a1 0
theorem laws_markAttrS.calls (k : Nat) (P0_ : Nat → Prop) (u9000_ : Value) (l0 : List (S76)) (a1 : Int) (r1 : Int) (r2 : List (S76)) (w0 w : World) (hB : Below w0.heap.size w0 w) (ho0 : Kd.R k76 76 w w0.heap.size P0_ u9000_ l0) (h : laws_markAttrS.f k l0 a1 = some (r1, r2)) :
  Calls Tryz.prog 23 #[u9000_, .int .i64 a1] w fun e w' => e = .returned (.int .i64 r1) ∧ Kd.R k76 76 w' w0.heap.size (fun k_ => (P0_ k_ ∨ w.heap.size ≤ k_)) u9000_ r2 ∧ Below w0.heap.size w0 w' ∧ Kept w w' (fun k_ => P0_ k_) := by
 have HO0 := ak_ (show Kd.R k76 76 w w0.heap.size (fun k_ => (P0_ k_ ∨ w.heap.size ≤ k_)) u9000_ l0 from Kd.R_mono ho0 (fun k_ hk => (.inl hk))); have HK := ak_ (Kept.refl w (fun k_ => P0_ k_)); have HW0 := ak_ hB.size; have HB := ak_ hB; clear hB; have H := h; unfold laws_markAttrS.f at H
 clear h; have H' := ak_ H; clear H; go_enter Tryz.func23, Tryz.ntmps23
 go_wp2; go_loopg [1, 5] k (fun kq v1 v5 w' => ∃ (x0_1 : List (S76)) (x1_1 : Int) (x5_1 : Int), v1 = .int .i64 x1_1 ∧ v5 = .int .i64 x5_1 ∧ Aside0 (laws_markAttrS.l0 kq x0_1 x1_1 x5_1 = some (r1, r2)) ∧ Aside0 (kq ≤ k) ∧ Aside0 (Kd.R k76 76 w' w0.heap.size (fun k_ => (P0_ k_ ∨ w.heap.size ≤ k_)) u9000_ x0_1) ∧ Aside0 (Kept w w' (fun k_ => P0_ k_)) ∧ Aside0 (Below w0.heap.size w0 w'))
 case atStart => exact ⟨(l0), (a1), (0), sv_, sv_, H', ⟨Nat.le_refl _⟩, ⟨kdR_ HO0.out⟩, ⟨by repeat (first | (with_reducible first | exact HK.out | apply Kept.alloc | apply Kept.drewN | apply Kept.drew) | exact HK.out)⟩, ⟨bel_⟩⟩
 case round =>
  clear H'; obtain ⟨x0_1, x1_1, x5_1, rfl, rfl, HA, HK1, HO_0, HK, HB⟩ := hrel; cases gk with
  | zero => exact absurd HA.out (by simp [laws_markAttrS.l0])
  | succ k1 =>
   have H := HA.out; clear HA; simp only [laws_markAttrS.l0] at H
   replace H := ied_ H; rcases H with ⟨c3b0, H⟩ | ⟨c3b0, H⟩
   ·replace H := bnd_ H; obtain ⟨t436, A4, H⟩ := H; replace H := itd_ H; obtain ⟨c5b0, H⟩ := H; replace H := nams_ H; obtain ⟨y437, Ny437, H⟩ := H; replace H := bnd_ H; obtain ⟨t438, A7, H⟩ := H; obtain ⟨y439, hy439⟩ : ∃ y_ : List (S76), y_ = (y437.set (x5_1 : Int).toNat (⟨(rd_T76 y437 x5_1).f0, t438⟩ : S76)) := ⟨_, rfl⟩
    replace H : (laws_markAttrS.l0 k1 y439 (wrap64 ((wrap64 (x1_1 + 1)) + 1)) (wrap64 (x5_1 + 1))) = some (r1, r2) := by first | (rw [hy439]; with_reducible exact H) | (have H2_ := (Option.bind_some _ _).symm.trans H; rw [hy439]; with_reducible exact H2_) | (have H2_ := (Option.bind_some _ _).symm.trans H; with_reducible exact H2_) | with_reducible exact H | (rw [hy439]; exact H) | exact H
    have Ny439 := ak_ hy439; clear hy439; have H' := ak_ H; clear H; obtain ⟨Ao9, co9, eo9⟩ := Kd.R_slice HO_0.out; subst eo9; go_wp2_with (first | ((with_reducible refine gate_callee (f := 22) rfl ?_); refine gl_ (some 15) Tryz.func22 #[.int .i64 x1_1] ?_; (with_reducible refine (laws_markText.calls k1 x1_1 t436 _ A4.out).mono ?_); rintro e w10 ⟨rfl, hb⟩; refine ⟨_, rfl, ?_⟩; have n_ := an3_ (Kd.R_below (kdR_ HO_0.out) hb) (Kept.below (S := (fun k_ => P0_ k_)) (by repeat (first | (with_reducible first | exact HK.out | apply Kept.alloc | apply Kept.drewN | apply Kept.drew) | exact HK.out)) hb) (below_step bel_ hb); clear HO_0 HK HB; obtain ⟨HO_0, HK, HB⟩ := n_; (try clear hb);(try clear hb2);(try clear hk);(try clear hi); have p6 : 0 ≤ (x5_1 : Int) := oda_; have q6 : (x5_1 : Int) < ((x0_1.length : Int) : Int) := oda_; obtain ⟨go6, co6, eo6, gb6, gl6, cl6, HG6⟩ := Kd.R_form HO_0.out (by omega); (first | cases eo6 | (injection eo6 with ea_ en_ ec_; (first | subst ea_ | (injection ea_ with ea_; subst ea_)); subst ec_; clear en_)); have GB6 := ak_ gb6; have GG6 := ak_ HG6; clear gb6 gl6 HG6; have HMgo6 := ak_ (show (P0_ go6 ∨ w.heap.size ≤ go6) from (HO_0.out.1 _ rfl)); obtain ⟨ce6, hcl6, hM6, hcc6, hfr6⟩ := Kd.R_elem HO_0.out z76 (x5_1 : Int) p6 q6; obtain rfl := k76_openM hM6; have hx6_0 : w10.cell? ⟨go6, (x5_1 : Int).toNat * 2, none⟩ = some (.string ((rd_T76 x0_1 x5_1).f0)) := hcc6 0 _ rfl; have hx6_1 : w10.cell? ⟨go6, (x5_1 : Int).toNat * 2 + 1, none⟩ = some (.string ((rd_T76 x0_1 x5_1).f1)) := hcc6 1 _ rfl; have hf6_0 : w10.frozen? ⟨go6, (x5_1 : Int).toNat * 2, none⟩ = false := hfr6 0; have hf6_1 : w10.frozen? ⟨go6, (x5_1 : Int).toNat * 2 + 1, none⟩ = false := hfr6 1; (first | clear hcl6 hcc6 hfr6 hM6 | clear hcl6 hcc6 hfr6); replace p6 := eq_true p6; replace q6 := eq_true q6; have HX11 := ak_ (show Kd.R k76 76 w10 w0.heap.size (fun k_ => (P0_ k_ ∨ w.heap.size ≤ k_)) (.slice (some ⟨go6, 0, none⟩) x0_1.length co9) x0_1 from (kdR_ HO_0.out)); obtain ⟨ce11, hcl11, hM11, hcc11, hfr11⟩ := Kd.R_elem HX11.out z76 (x5_1 : Int) (oda_) (by have h_ : (x5_1 : Int) < ((x0_1.length : Int) : Int) := oda_; first | exact h_ | (have e_ := (Kd.R_reads' HO_0.out).1; omega) | simpa using h_); obtain rfl := k76_openM hM11; have HP11 := Kd.R_seg HX11.out (x5_1 : Int) (oda_) (by have h_ : (x5_1 : Int) < ((x0_1.length : Int) : Int) := oda_; first | exact h_ | (have e_ := (Kd.R_reads' HO_0.out).1; omega) | simpa using h_) (seg := [.string t436]) (j := 0) hcl11 hcc11 (show 1 ≤ 2 from by decide) (x' := (⟨t436, (rd_T76 x0_1 x5_1).f1⟩ : S76)) (k76_mkM _ _ _ (⟨t436, (rd_T76 x0_1 x5_1).f1⟩ : S76) ) (fun _ hk => hk); have hx11_0 := hcc11 0 _ rfl; (try simp only [show (k76).sz = 2 from rfl, Nat.mul_one, Nat.add_zero] at hx11_0); have hf11_0 := hfr11 0; (try simp only [show (k76).sz = 2 from rfl, Nat.mul_one, Nat.add_zero] at hf11_0); (first | clear hcl11 hcc11 hfr11 hM11 | clear hcl11 hcc11 hfr11)) | ((with_reducible refine gate_store (t := 9) (p := 17) rfl ?_); refine store_event (t := 9) (p := 17) (v := ?vo_w12) (w1 := (w10.setCell ⟨go6, (x5_1 : Int).toNat * 2, none⟩ (.string t436))) ?hg ?ho ?hn ?hr ?_; (case ho => rfl); (case hg => rfl); (case hn => rfl); (case hr => first | (go_simp; done) | (go_simp; rfl)); intro w12 hw; have hg : w10.grownBy w12 (some go6) := (by rw [hw]; exact HP11.2); have hp_ : Kd.R k76 76 w12 w0.heap.size (fun k_ => (P0_ k_ ∨ w.heap.size ≤ k_)) (.slice (some ⟨go6, 0, none⟩) x0_1.length co9) y437 := (by rw [hw, Ny437.out]; exact HP11.1); clear HP11; have n_ := an3_ (hp_) ((by rw [hw]; exact below_set (HB.out) GB6.out : Below w0.heap.size w0 w12)) (Kept.of_grown (S := (fun k_ => P0_ k_)) hg (by repeat (first | (with_reducible first | exact HK.out | apply Kept.alloc | apply Kept.drewN | apply Kept.drew) | exact HK.out)) (fun k_ e_ => (HO_0.out.1 k_ e_))); clear HO_0 HB HK; obtain ⟨HO_0, HB, HK⟩ := n_; clear hg hw hp_) | ((with_reducible refine gate_callee (f := 22) rfl ?_); refine gl_ (some 23) Tryz.func22 #[.int .i64 (wrap64 (x1_1 + 1))] ?_; (with_reducible refine (laws_markText.calls k1 (wrap64 (x1_1 + 1)) t438 _ A7.out).mono ?_); rintro e w13 ⟨rfl, hb⟩; refine ⟨_, rfl, ?_⟩; have n_ := an3_ (Kd.R_below (kdR_ HO_0.out) hb) (Kept.below (S := (fun k_ => P0_ k_)) (by repeat (first | (with_reducible first | exact HK.out | apply Kept.alloc | apply Kept.drewN | apply Kept.drew) | exact HK.out)) hb) (below_step bel_ hb); clear HO_0 HK HB; obtain ⟨HO_0, HK, HB⟩ := n_; (try clear hb);(try clear hb2);(try clear hk);(try clear hi); have p8 : 0 ≤ (x5_1 : Int) := oda_; have q8 : (x5_1 : Int) < ((x0_1.length : Int) : Int) := oda_; obtain ⟨ce8, hcl8, hM8, hcc8, hfr8⟩ := Kd.R_elem HO_0.out z76 (x5_1 : Int) p8 q8; obtain rfl := k76_openM hM8; have hx8_0 : w13.cell? ⟨go6, (x5_1 : Int).toNat * 2, none⟩ = some (.string ((rd_T76 y437 x5_1).f0)) := hcc8 0 _ rfl; have hx8_1 : w13.cell? ⟨go6, (x5_1 : Int).toNat * 2 + 1, none⟩ = some (.string ((rd_T76 y437 x5_1).f1)) := hcc8 1 _ rfl; have hf8_0 : w13.frozen? ⟨go6, (x5_1 : Int).toNat * 2, none⟩ = false := hfr8 0; have hf8_1 : w13.frozen? ⟨go6, (x5_1 : Int).toNat * 2 + 1, none⟩ = false := hfr8 1; (first | clear hcl8 hcc8 hfr8 hM8 | clear hcl8 hcc8 hfr8); replace p8 := eq_true p8; replace q8 := eq_true q8; have HX14 := ak_ (show Kd.R k76 76 w13 w0.heap.size (fun k_ => (P0_ k_ ∨ w.heap.size ≤ k_)) (.slice (some ⟨go6, 0, none⟩) x0_1.length co9) y437 from (kdR_ HO_0.out)); obtain ⟨ce14, hcl14, hM14, hcc14, hfr14⟩ := Kd.R_elem HX14.out z76 (x5_1 : Int) (oda_) (by have h_ : (x5_1 : Int) < ((x0_1.length : Int) : Int) := oda_; first | exact h_ | (have e_ := (Kd.R_reads' HO_0.out).1; omega) | simpa using h_); obtain rfl := k76_openM hM14; have HP14 := Kd.R_seg HX14.out (x5_1 : Int) (oda_) (by have h_ : (x5_1 : Int) < ((x0_1.length : Int) : Int) := oda_; first | exact h_ | (have e_ := (Kd.R_reads' HO_0.out).1; omega) | simpa using h_) (seg := [.string t438]) (j := 1) hcl14 hcc14 (show 2 ≤ 2 from by decide) (x' := (⟨(rd_T76 y437 x5_1).f0, t438⟩ : S76)) (k76_mkM _ _ _ (⟨(rd_T76 y437 x5_1).f0, t438⟩ : S76) ) (fun _ hk => hk); have hx14_1 := hcc14 1 _ rfl; (try simp only [show (k76).sz = 2 from rfl, Nat.mul_one, Nat.add_zero] at hx14_1); have hf14_1 := hfr14 1; (try simp only [show (k76).sz = 2 from rfl, Nat.mul_one, Nat.add_zero] at hf14_1); (first | clear hcl14 hcc14 hfr14 hM14 | clear hcl14 hcc14 hfr14)) | ((with_reducible refine gate_store (t := 9) (p := 25) rfl ?_); refine store_event (t := 9) (p := 25) (v := ?vo_w15) (w1 := (w13.setCell ⟨go6, (x5_1 : Int).toNat * 2 + 1, none⟩ (.string t438))) ?hg ?ho ?hn ?hr ?_; (case ho => rfl); (case hg => rfl); (case hn => rfl); (case hr => first | (go_simp; done) | (go_simp; rfl)); intro w15 hw; have hg : w13.grownBy w15 (some go6) := (by rw [hw]; exact HP14.2); have hp_ : Kd.R k76 76 w15 w0.heap.size (fun k_ => (P0_ k_ ∨ w.heap.size ≤ k_)) (.slice (some ⟨go6, 0, none⟩) x0_1.length co9) y439 := (by rw [hw, Ny439.out]; exact HP14.1); clear HP14; have n_ := an3_ (hp_) ((by rw [hw]; exact below_set (HB.out) GB6.out : Below w0.heap.size w0 w15)) (Kept.of_grown (S := (fun k_ => P0_ k_)) hg (by repeat (first | (with_reducible first | exact HK.out | apply Kept.alloc | apply Kept.drewN | apply Kept.drew) | exact HK.out)) (fun k_ e_ => (HO_0.out.1 k_ e_))); clear HO_0 HB HK; obtain ⟨HO_0, HB, HK⟩ := n_; clear hg hw hp_))
    go_roundg k1
    case measure => have := HK1.out; omega
    case rel => exact ⟨(y439), (wrap64 ((wrap64 (x1_1 + 1)) + 1)), (wrap64 (x5_1 + 1)), sv_, sv_, H', ⟨by have := HK1.out; omega⟩, ⟨kdR_ HO_0.out⟩, ⟨by repeat (first | (with_reducible first | exact HK.out | apply Kept.alloc | apply Kept.drewN | apply Kept.drew) | exact HK.out)⟩, ⟨bel_⟩⟩
   ·simp only [Option.some.injEq, Prod.mk.injEq] at H
    obtain ⟨rfl, rfl⟩ := H; obtain ⟨Ao16, co16, eo16⟩ := Kd.R_slice HO_0.out; subst eo16; go_wp2; go_ret
    exact ⟨er_, kdR_ HO_0.out, bel_, by repeat (first | (with_reducible first | exact HK.out | apply Kept.alloc | apply Kept.drewN | apply Kept.drew) | exact HK.out)⟩

/-! ### laws_markNodeS: function 10 -/
theorem node_rd_ (xs : List S40) (i : Int) (x : S40) (h0 : 0 ≤ i) (h1 : i < ((xs.set i.toNat x).length : Int)) : rd_T40 (xs.set i.toNat x) i = x := by
 rw [List.length_set] at h1; have h2 : i.toNat < xs.length := by omega
 simp [rd_T40, h2]
theorem node_same_ (xs : List S40) (i : Int) (h0 : 0 ≤ i) (h1 : i < (xs.length : Int)) : xs.set i.toNat (rd_T40 xs i) = xs := by
 have h2 : i.toNat < xs.length := by omega
 unfold rd_T40
 rw [List.getD_eq_getElem?_getD, List.getElem?_eq_getElem h2, Option.getD_some, List.set_getElem_self]
theorem node_store_ {W : World} {base g n cap : Nat} {ok : Nat → Prop} {xs : List S40} {i : Int} {x : S40} (h : Kd.S k40 40 W base ok (.slice (some ⟨g, 0, none⟩) n cap) (xs.set i.toNat x)) (h0 : 0 ≤ i) (h1 : i < n) (y : S40) (j : Nat) (hj : j + 1 ≤ 4) (u : Value)
  (hy : ∀ v : Value, ([.string x.f0, .int .i64 x.f1, v, .string x.f3] : List Value).take j ++ [u] ++ ([.string x.f0, .int .i64 x.f1, v, .string x.f3] : List Value).drop (j + 1) = [.string y.f0, .int .i64 y.f1, v, .string y.f3]) (hy2 : y.f2 = x.f2) :
  Kd.S k40 40 (W.setCell ⟨g, i.toNat * 4 + j, none⟩ u) base ok (.slice (some ⟨g, 0, none⟩) n cap) (xs.set i.toNat y) ∧ W.grownBy (W.setCell ⟨g, i.toNat * 4 + j, none⟩ u) (some g) := by
 have hn := (Kd.S_reads' h).1; have HX : Kd.S k40 40 W base (fun k_ => ok k_ ∧ ¬ (fun _ => False) k_) (.slice (some ⟨g, 0, none⟩) n cap) (xs.set i.toNat x) := Kd.S_mono h (fun k hk => ⟨hk, fun hf => hf⟩)
 obtain ⟨oki, c, hcl, hM, hcc, hfr, hoki, hH⟩ := Kd.S_elem HX z40 i h0 h1; replace hM : k40.M W base oki x c := by
  have e := node_rd_ xs i x h0 (by omega); unfold rd_T40 at e
  rw [e] at hM; exact hM
 obtain ⟨v, rfl, hR⟩ := k40_openM hM; have r := Kd.S_seg (okg := fun _ => False) (okp := oki) hH h0 h1 (seg := [u]) (j := j) (show j + 1 ≤ 4 from hj) (x' := y) (by
  have e := hy v; have m := k40_mkM W base oki y (hy2 ▸ hR); rw [← e] at m; exact m) (fun k hk => .inl hk) (fun k hk => hk.elim)
 rw [List.set_set] at r; exact r
/-- a node's cells; its row of attributes lent, and put back. -/
theorem node_lend_ {W : World} {base g n cap : Nat} {ok : Nat → Prop} {xs : List S40} {i : Int} {x : S40} (h : Kd.S k40 40 W base ok (.slice (some ⟨g, 0, none⟩) n cap) (xs.set i.toNat x)) (h0 : 0 ≤ i) (h1 : i < n) (hok : ∀ k, W.heap.size ≤ k → ok k) :
  ∃ (u : Value) (oki : Nat → Prop), W.cell? ⟨g, i.toNat * 4, none⟩ = some (.string x.f0) ∧ W.cell? ⟨g, i.toNat * 4 + 1, none⟩ = some (.int .i64 x.f1) ∧ W.cell? ⟨g, i.toNat * 4 + 2, none⟩ = some u ∧ W.cell? ⟨g, i.toNat * 4 + 3, none⟩ = some (.string x.f3) ∧
   W.frozen? ⟨g, i.toNat * 4, none⟩ = false ∧ W.frozen? ⟨g, i.toNat * 4 + 1, none⟩ = false ∧ W.frozen? ⟨g, i.toNat * 4 + 2, none⟩ = false ∧ W.frozen? ⟨g, i.toNat * 4 + 3, none⟩ = false ∧
   (∀ k, oki k → ok k) ∧ Kd.R k76 76 W base oki u x.f2 ∧
   ∀ (W' : World) (b : List S76), Kept W W' oki → Kd.R k76 76 W' base (fun k => oki k ∨ W.heap.size ≤ k) u b →
    Kd.S k40 40 W' base ok (.slice (some ⟨g, 0, none⟩) n cap) (xs.set i.toNat ⟨x.f0, x.f1, b, x.f3⟩) := by
 have hn := (Kd.S_reads' h).1; obtain ⟨oki, c, hcl, hM, hcc, hfr, hoki, hH⟩ := Kd.S_elem h z40 i h0 h1; replace hM : k40.M W base oki x c := by
  have e := node_rd_ xs i x h0 (by omega); unfold rd_T40 at e
  rw [e] at hM; exact hM
 obtain ⟨u, rfl, hR⟩ := k40_openM hM; refine ⟨u, oki, hcc 0 _ rfl, hcc 1 _ rfl, hcc 2 _ rfl, hcc 3 _ rfl, hfr 0, hfr 1, hfr 2, hfr 3, fun k hk => (hoki k hk).1, hR, fun W' b hk hb => ?_⟩
 have hW := Kd.H_step (w1 := W') (Kd.H_widen hH) (fun k _ hn hlt => hk.2 k hlt (fun h2 => hn (.inl h2))); have r := Kd.H_back hW (x' := ⟨x.f0, x.f1, b, x.f3⟩) (okp := fun k => oki k ∨ W.heap.size ≤ k) (k40_mkM W' base _ ⟨x.f0, x.f1, b, x.f3⟩ hb) (fun k hk => hk.imp id (fun h2 => ⟨hok k h2, h2⟩)); rw [List.set_set] at r; exact r
def laws_markNodeS.l0 : Nat → List (S40) → Int → Int → Option (Int × List (S40))
| 0, _, _, _ => none
| k + 1, x0, x1, x5 => if x5 < (x0.length : Int) then (if 0 ≤ x5 then ((laws_markText.f k x1).bind fun t1 => ((laws_markAttrS.f k (rd_T40 x0 x5).f2 (wrap64 (wrap64 (x1 + 1) + 1))).bind fun b3 => ((laws_markText.f k b3.1).bind fun t4 => (laws_markNodeS.l0 k (x0.set x5.toNat ⟨t1, wrap64 (x1 + 1), b3.2, t4⟩) (wrap64 (b3.1 + 1)) (wrap64 (x5 + 1)))))) else (none)) else (some (x1, x0))
def laws_markNodeS.f (k : Nat) (l0 : List (S40)) (a1 : Int) : Option (Int × List (S40)) := laws_markNodeS.l0 k l0 a1 0
theorem laws_markNodeS.calls (k : Nat) (P0_ : Nat → Prop) (u9000_ : Value) (l0 : List (S40)) (a1 : Int) (r1 : Int) (r2 : List (S40)) (w0 w : World) (hB : Below w0.heap.size w0 w) (ho0 : Kd.S k40 40 w w0.heap.size P0_ u9000_ l0) (h : laws_markNodeS.f k l0 a1 = some (r1, r2)) :
 Calls Tryz.prog 10 #[u9000_, .int .i64 a1] w fun e w' => e = .returned (.int .i64 r1) ∧ Kd.S k40 40 w' w0.heap.size (fun k_ => (P0_ k_ ∨ w.heap.size ≤ k_)) u9000_ r2 ∧ Below w0.heap.size w0 w' ∧ Kept w w' (fun k_ => P0_ k_) := by
 obtain ⟨A, cap, rfl⟩ := Kd.S_slice ho0; have HO := ak_ (Kd.S_mono ho0 (ok' := fun k_ => (P0_ k_ ∨ w.heap.size ≤ k_)) (fun k_ hk => .inl hk)); have HK := ak_ (Kept.refl w (fun k_ => P0_ k_)); have HB := ak_ hB; have H' := ak_ (show laws_markNodeS.l0 k l0 a1 0 = some (r1, r2) from h); obtain ⟨n, hn⟩ : ∃ n, n = l0.length := ⟨_, rfl⟩
 rw [← hn] at HO ⊢
 have HN := ak_ hn.symm; clear hB ho0 h hn; go_enter Tryz.func10, Tryz.ntmps10
 go_wp2; go_loopg [1, 5] k (fun kq v1 v5 w' => ∃ (x0 : List (S40)) (x1 x5 : Int), v1 = .int .i64 x1 ∧ v5 = .int .i64 x5 ∧ Aside0 (laws_markNodeS.l0 kq x0 x1 x5 = some (r1, r2)) ∧ Aside0 (kq ≤ k) ∧ Aside0 (x0.length = n) ∧ Aside0 (Kd.S k40 40 w' w0.heap.size (fun k_ => (P0_ k_ ∨ w.heap.size ≤ k_)) (.slice A n cap) x0) ∧ Aside0 (Kept w w' (fun k_ => P0_ k_)) ∧ Aside0 (Below w0.heap.size w0 w'))
 case atStart => exact ⟨l0, a1, 0, rfl, rfl, H', ⟨Nat.le_refl _⟩, HN, HO, HK, HB⟩
 case round =>
  clear H' HO HK HB HN; obtain ⟨x0, x1, x5, rfl, rfl, HA, HK1, HN, HO, HK, HB⟩ := hrel; cases gk with
  | zero => exact absurd HA.out (by simp [laws_markNodeS.l0])
  | succ k1 =>
   have H := HA.out; clear HA; simp only [laws_markNodeS.l0] at H
   rw [HN.out] at H; replace H := ite_ H; rcases H with ⟨c3, H⟩ | ⟨c3, H⟩
   ·replace H := itn_ H; obtain ⟨c5, H⟩ := H; obtain ⟨t1, A4, H⟩ := Option.bind_eq_some_iff.mp H; obtain ⟨⟨q3, b3⟩, A5, H⟩ := Option.bind_eq_some_iff.mp H; obtain ⟨t4, A6, H⟩ := Option.bind_eq_some_iff.mp H; have H' := ak_ (show laws_markNodeS.l0 k1 (x0.set x5.toNat ⟨t1, wrap64 (x1 + 1), b3, t4⟩) (wrap64 (q3 + 1)) (wrap64 (x5 + 1)) = some (r1, r2) from H); clear H; replace A4 := ak_ A4; replace A5 := ak_ A5; replace A6 := ak_ A6; obtain ⟨g, cap', eo, hg1, hg2, cells, hcells⟩ := Kd.S_form HO.out (by have := HN.out; omega)
    injection eo with ea_ en_ ec_
    subst ea_; clear ec_ en_ hcells cells cap'; have HG := ak_ hg1; clear hg1 hg2; have HS0 := HO.out; rw [← node_same_ x0 x5 c5 (by rw [HN.out]; exact c3)] at HS0
    obtain ⟨y0, hy0⟩ : ∃ y, y = rd_T40 x0 x5 := ⟨_, rfl⟩
    rw [← hy0] at HS0; have HY := ak_ hy0; have HOs := ak_ HS0; clear HO HS0 hy0; have HO := HOs; clear HOs; have p := c5; have q := c3; have c3b0 := decide_eq_true c3; have P := ak_ c5; have Q := ak_ c3; replace p := eq_true p; replace q := eq_true q; clear c3 c5; have tok1 : True := trivial
    have tok2 : True := trivial
    go_wp2_with (first | (go_at_call 22; have _t := tok1; (with_reducible refine (laws_markText.calls k1 x1 t1 _ A4.out).mono ?_); rintro e w1 ⟨rfl, hb1⟩; have HO1 := ak_ (Kd.S_below HO.out hb1); have HK2 := ak_ (Kept.below HK.out hb1); have HB1 := ak_ (below_step HB.out hb1); clear HO HK HB hb1 tok1 _t; obtain ⟨u1, ok1, ha0, ha1, ha2, ha3, hf0, hf1, hf2, hf3, hq1, hR1, hback1⟩ := node_lend_ HO1.out P.out Q.out (fun k_ h_ => .inr (Nat.le_trans HK2.out.1 h_)); clear hq1 hR1 hback1) | ((with_reducible refine gate_store (t := 9) (p := 17) rfl ?_); refine store_event (t := 9) (p := 17) (v := ?vo_w13) (w1 := (w1.setCell ⟨g, x5.toNat * 4, none⟩ (.string t1))) ?hg ?ho ?hn ?hr ?_; (case ho => rfl); (case hg => rfl); (case hn => rfl); (case hr => first | (go_simp; done) | (go_simp; rfl)); intro w2 hw; have HP := node_store_ HO1.out P.out Q.out ⟨t1, y0.f1, y0.f2, y0.f3⟩ 0 (by decide) (.string t1) (fun _ => rfl) rfl; rw [Nat.add_zero, ← hw] at HP; have HO2 := ak_ HP.1; have HK3 := ak_ (Kept.of_grown HP.2 HK2.out (fun k_ e_ => by injection e_ with e_; subst e_; exact (Kd.S_R HO1.out).1 _ rfl)); have HB2 := ak_ (show Below w0.heap.size w0 w2 by rw [hw]; exact below_set HB1.out HG.out); clear HO1 HK2 HB1 HP hw ha0 ha1 ha2 ha3 hf0 hf1 hf2 hf3; obtain ⟨u2, ok2, ha0, ha1, ha2, ha3, hf0, hf1, hf2, hf3, hq2, hR2, hback2⟩ := node_lend_ HO2.out P.out Q.out (fun k_ h_ => .inr (Nat.le_trans HK3.out.1 h_)); clear hq2 hR2 hback2) | ((with_reducible refine gate_store (t := 3) (p := 24) rfl ?_); refine store_event (t := 3) (p := 24) (v := ?vo_w14) (w1 := (w2.setCell ⟨g, x5.toNat * 4 + 1, none⟩ (.int .i64 (wrap64 (x1 + 1))))) ?hg ?ho ?hn ?hr ?_; (case ho => rfl); (case hg => rfl); (case hn => rfl); (case hr => first | (go_simp; done) | (go_simp; rfl)); intro w3 hw; have HP := node_store_ HO2.out P.out Q.out ⟨t1, wrap64 (x1 + 1), y0.f2, y0.f3⟩ 1 (by decide) (.int .i64 (wrap64 (x1 + 1))) (fun _ => rfl) rfl; rw [← hw] at HP; have HO4 := ak_ HP.1; have HK5 := ak_ (Kept.of_grown HP.2 HK3.out (fun k_ e_ => by injection e_ with e_; subst e_; exact (Kd.S_R HO2.out).1 _ rfl)); have HB4 := ak_ (show Below w0.heap.size w0 w3 by rw [hw]; exact below_set HB2.out HG.out); clear HO2 HK3 HB2 HP hw ha0 ha1 ha2 ha3 hf0 hf1 hf2 hf3; obtain ⟨u5, ok5, ha0, ha1, ha2, ha3, hf0, hf1, hf2, hf3, hq5, hR5, hback5⟩ := node_lend_ HO4.out P.out Q.out (fun k_ h_ => .inr (Nat.le_trans HK5.out.1 h_)); have HQ5 := ak_ hq5; have HR5 := ak_ hR5; have HK5b := ak_ hback5; clear hq5 hR5 hback5) | (go_at_call 23; (with_reducible refine (laws_markAttrS.calls k1 ok5 u5 _ (wrap64 (wrap64 (x1 + 1) + 1)) q3 b3 w0 _ HB4.out HR5.out ?a6).mono ?_); (case a6 => rw [HY.out]; exact A5.out); rintro e w5 ⟨rfl, hr5, hb5, hk5⟩; have HO5 := ak_ (HK5b.out _ _ hk5 hr5); have HK6 := ak_ (Kept.then_ HK5.out hk5 (fun k_ h_ => HQ5.out k_ h_)); have HB5 := ak_ hb5; clear HO4 HK5 HB4 HR5 HK5b HQ5 hr5 hb5 hk5 ha0 ha1 ha2 ha3 hf0 hf1 hf2 hf3) | (go_at_call 22; have _t := tok2; (with_reducible refine (laws_markText.calls k1 q3 t4 _ A6.out).mono ?_); rintro e w6 ⟨rfl, hb6⟩; have HO6 := ak_ (Kd.S_below HO5.out hb6); have HK7 := ak_ (Kept.below HK6.out hb6); have HB6 := ak_ (below_step HB5.out hb6); clear HO5 HK6 HB5 hb6 tok2 _t; obtain ⟨u6, ok6, ha0, ha1, ha2, ha3, hf0, hf1, hf2, hf3, hq6, hR6, hback6⟩ := node_lend_ HO6.out P.out Q.out (fun k_ h_ => .inr (Nat.le_trans HK7.out.1 h_)); clear hq6 hR6 hback6) | ((with_reducible refine gate_store (t := 9) (p := 39) rfl ?_); refine store_event (t := 9) (p := 39) (v := ?vo_w15) (w1 := (w6.setCell ⟨g, x5.toNat * 4 + 3, none⟩ (.string t4))) ?hg ?ho ?hn ?hr ?_; (case ho => rfl); (case hg => rfl); (case hn => rfl); (case hr => first | (go_simp; done) | (go_simp; rfl)); intro w7 hw; have HP := node_store_ HO6.out P.out Q.out ⟨t1, wrap64 (x1 + 1), b3, t4⟩ 3 (by decide) (.string t4) (fun _ => rfl) rfl; rw [← hw] at HP; have HO7 := ak_ HP.1; have HK8 := ak_ (Kept.of_grown HP.2 HK7.out (fun k_ e_ => by injection e_ with e_; subst e_; exact (Kd.S_R HO6.out).1 _ rfl)); have HB7 := ak_ (show Below w0.heap.size w0 w7 by rw [hw]; exact below_set HB6.out HG.out); clear HO6 HK7 HB6 HP hw ha0 ha1 ha2 ha3 hf0 hf1 hf2 hf3))
    go_roundg k1
    case measure => have := HK1.out; omega
    case rel => exact ⟨x0.set x5.toNat ⟨t1, wrap64 (x1 + 1), b3, t4⟩, wrap64 (q3 + 1), wrap64 (x5 + 1), rfl, rfl, H', ⟨by have := HK1.out; omega⟩, ⟨by rw [List.length_set]; exact HN.out⟩, HO7, HK8, HB7⟩
   ·have c3b0 := decide_eq_false c3; clear c3; simp only [Option.some.injEq, Prod.mk.injEq] at H
    obtain ⟨rfl, rfl⟩ := H; go_wp2; go_ret
    exact ⟨rfl, HO.out, HB.out, HK.out⟩

/-! ### laws_markStringS: function 68 -/
def laws_markStringS.l0 : Nat → List ByteArray → Int → Int → Option (Int × List ByteArray)
 | 0, _, _, _ => none
 | k + 1, x0, x1, x5 => if x5 < (x0.length : Int) then ((laws_markText.f k x1).bind fun t440 => (if 0 ≤ x5 then (laws_markStringS.l0 k (x0.set (x5 : Int).toNat t440) (wrap64 (x1 + 1)) (wrap64 (x5 + 1))) else (none))) else (some (x1, x0))
def laws_markStringS.f (k : Nat) (l0 : List ByteArray) (a1 : Int) : Option (Int × List ByteArray) := laws_markStringS.l0 k l0 a1 0
theorem laws_markStringS.calls (k : Nat) (P0_ : Nat → Prop) (u9000_ : Value) (l0 : List ByteArray) (a1 : Int) (r1 : Int) (r2 : List ByteArray) (w0 w : World) (hB : Below w0.heap.size w0 w) (ho0 : Kd.R Kd.string 9 w w0.heap.size P0_ u9000_ l0) (h : laws_markStringS.f k l0 a1 = some (r1, r2)) :
  Calls Tryz.prog 68 #[u9000_, .int .i64 a1] w fun e w' => e = .returned (.int .i64 r1) ∧ Kd.R Kd.string 9 w' w0.heap.size (fun k_ => (P0_ k_ ∨ w.heap.size ≤ k_)) u9000_ r2 ∧ Below w0.heap.size w0 w' ∧ Kept w w' (fun k_ => P0_ k_) := by
 have HO0 := ak_ (show Kd.R Kd.string 9 w w0.heap.size (fun k_ => (P0_ k_ ∨ w.heap.size ≤ k_)) u9000_ l0 from Kd.R_mono ho0 (fun k_ hk => (.inl hk))); have HK := ak_ (Kept.refl w (fun k_ => P0_ k_)); have HW0 := ak_ hB.size; have HB := ak_ hB; clear hB; have H := h; unfold laws_markStringS.f at H
 clear h; have H' := ak_ H; clear H; go_enter Tryz.func68, Tryz.ntmps68
 go_wp2; go_loopg [1, 5] k (fun kq v1 v5 w' => ∃ (x0_1 : List ByteArray) (x1_1 : Int) (x5_1 : Int), v1 = .int .i64 x1_1 ∧ v5 = .int .i64 x5_1 ∧ Aside0 (laws_markStringS.l0 kq x0_1 x1_1 x5_1 = some (r1, r2)) ∧ Aside0 (kq ≤ k) ∧ Aside0 (Kd.R Kd.string 9 w' w0.heap.size (fun k_ => (P0_ k_ ∨ w.heap.size ≤ k_)) u9000_ x0_1) ∧ Aside0 (Kept w w' (fun k_ => P0_ k_)) ∧ Aside0 (Below w0.heap.size w0 w'))
 case atStart => exact ⟨(l0), (a1), (0), sv_, sv_, H', ⟨Nat.le_refl _⟩, ⟨kdR_ HO0.out⟩, ⟨by repeat (first | (with_reducible first | exact HK.out | apply Kept.alloc | apply Kept.drewN | apply Kept.drew) | exact HK.out)⟩, ⟨bel_⟩⟩
 case round =>
  clear H'; (try clear p2)
  obtain ⟨x0_1, x1_1, x5_1, rfl, rfl, HA, HK1, HO_0, HK, HB⟩ := hrel; cases gk with
  | zero => exact absurd HA.out (by simp [laws_markStringS.l0])
  | succ k1 =>
   have H := HA.out; clear HA; simp only [laws_markStringS.l0] at H
   replace H := ied_ H; rcases H with ⟨c3b0, H⟩ | ⟨c3b0, H⟩
   ·replace H := bnd_ H; obtain ⟨t440, A4, H⟩ := H; replace H := itd_ H; obtain ⟨c5b0, H⟩ := H; obtain ⟨y441, hy441⟩ : ∃ y_ : List ByteArray, y_ = (x0_1.set (x5_1 : Int).toNat t440) := ⟨_, rfl⟩
    replace H : (laws_markStringS.l0 k1 y441 (wrap64 (x1_1 + 1)) (wrap64 (x5_1 + 1))) = some (r1, r2) := by first | (rw [hy441]; with_reducible exact H) | (have H2_ := (Option.bind_some _ _).symm.trans H; rw [hy441]; with_reducible exact H2_) | (have H2_ := (Option.bind_some _ _).symm.trans H; with_reducible exact H2_) | with_reducible exact H | (rw [hy441]; exact H) | exact H
    have Ny441 := ak_ hy441; clear hy441; have H' := ak_ H; clear H; obtain ⟨Ao7, co7, eo7⟩ := Kd.R_slice HO_0.out; subst eo7; go_wp2_with (first | ((with_reducible refine gate_callee (f := 22) rfl ?_); refine gl_ (some 15) Tryz.func22 #[.int .i64 x1_1] ?_; (with_reducible refine (laws_markText.calls k1 x1_1 t440 _ A4.out).mono ?_); rintro e w8 ⟨rfl, hb⟩; refine ⟨_, rfl, ?_⟩; have n_ := an3_ (Kd.R_below (kdR_ HO_0.out) hb) (Kept.below (S := (fun k_ => P0_ k_)) (by repeat (first | (with_reducible first | exact HK.out | apply Kept.alloc | apply Kept.drewN | apply Kept.drew) | exact HK.out)) hb) (below_step bel_ hb); clear HO_0 HK HB; obtain ⟨HO_0, HK, HB⟩ := n_; (try clear hb);(try clear hb2);(try clear hk);(try clear hi); have p6 : 0 ≤ (x5_1 : Int) := oda_; have q6 : (x5_1 : Int) < ((x0_1.length : Int) : Int) := oda_; obtain ⟨go6, co6, eo6, gb6, gl6, cl6, HG6⟩ := Kd.R_form HO_0.out (by omega); (first | cases eo6 | (injection eo6 with ea_ en_ ec_; (first | subst ea_ | (injection ea_ with ea_; subst ea_)); subst ec_; clear en_)); have GB6 := ak_ gb6; have GG6 := ak_ HG6; clear gb6 gl6 HG6; have HMgo6 := ak_ (show (P0_ go6 ∨ w.heap.size ≤ go6) from (HO_0.out.1 _ rfl)); obtain ⟨hx6_0, hf6_0⟩ := Kd.R_celln (⟨#[]⟩ : ByteArray) HO_0.out (x5_1 : Int) p6 q6; replace p6 := eq_true p6; replace q6 := eq_true q6; obtain ⟨hy9_, hz9_⟩ := Kd.R_celln (⟨#[]⟩ : ByteArray) HO_0.out (x5_1 : Int) (oda_) (oda_); have HP9 := Kd.R_putg HO_0.out (x5_1 : Int) t440) | ((with_reducible refine gate_store (t := 9) (p := 16) rfl ?_); refine store_event (t := 9) (p := 16) (v := ?vo_w10) (w1 := (w8.setCell ⟨go6, (x5_1 : Int).toNat, none⟩ (.string t440))) ?hg ?ho ?hn ?hr ?_; (case ho => rfl); (case hg => rfl); (case hn => rfl); (case hr => first | (go_simp; done) | (go_simp; rfl)); intro w10 hw; have hg : w8.grownBy w10 (some go6) := (by rw [hw]; exact HP9.2); have hp_ : Kd.R Kd.string 9 w10 w0.heap.size (fun k_ => (P0_ k_ ∨ w.heap.size ≤ k_)) (.slice (some ⟨go6, 0, none⟩) x0_1.length co7) y441 := (by rw [hw, Ny441.out]; exact HP9.1); clear HP9; have n_ := an3_ (hp_) ((by rw [hw]; exact below_set (HB.out) GB6.out : Below w0.heap.size w0 w10)) (Kept.of_grown (S := (fun k_ => P0_ k_)) hg (by repeat (first | (with_reducible first | exact HK.out | apply Kept.alloc | apply Kept.drewN | apply Kept.drew) | exact HK.out)) (fun k_ e_ => (HO_0.out.1 k_ e_))); clear HO_0 HB HK; obtain ⟨HO_0, HB, HK⟩ := n_; clear hg hw hp_))
    go_roundg k1
    case measure => have := HK1.out; omega
    case rel => exact ⟨(y441), (wrap64 (x1_1 + 1)), (wrap64 (x5_1 + 1)), sv_, sv_, H', ⟨by have := HK1.out; omega⟩, ⟨kdR_ HO_0.out⟩, ⟨by repeat (first | (with_reducible first | exact HK.out | apply Kept.alloc | apply Kept.drewN | apply Kept.drew) | exact HK.out)⟩, ⟨bel_⟩⟩
   ·simp only [Option.some.injEq, Prod.mk.injEq] at H
    obtain ⟨rfl, rfl⟩ := H; obtain ⟨Ao11, co11, eo11⟩ := Kd.R_slice HO_0.out; subst eo11; go_wp2; go_ret
    exact ⟨er_, kdR_ HO_0.out, bel_, by repeat (first | (with_reducible first | exact HK.out | apply Kept.alloc | apply Kept.drewN | apply Kept.drew) | exact HK.out)⟩

/-! ### laws_markPartS: function 49 -/
theorem part_store0_ {W : World} {base g n cap : Nat} {ok : Nat → Prop} {xs : List S102} (h : Kd.S k102 102 W base ok (.slice (some ⟨g, 0, none⟩) n cap) xs) (i : Int) (h0 : 0 ≤ i) (h1 : i < n) (t : ByteArray) :
  Kd.S k102 102 (W.setCell ⟨g, i.toNat * 3, none⟩ (.string t)) base ok (.slice (some ⟨g, 0, none⟩) n cap) (xs.set i.toNat ⟨t, (rd_T102 xs i).f1, (rd_T102 xs i).f2⟩) ∧ W.grownBy (W.setCell ⟨g, i.toNat * 3, none⟩ (.string t)) (some g) := by
 have HX : Kd.S k102 102 W base (fun k_ => ok k_ ∧ ¬ (fun _ => False) k_) (.slice (some ⟨g, 0, none⟩) n cap) xs := Kd.S_mono h (fun k hk => ⟨hk, fun hf => hf⟩)
 obtain ⟨oki, c, hcl, hM, hcc, hfr, hoki, hH⟩ := Kd.S_elem HX z102 i h0 h1; obtain ⟨u, rfl, hR⟩ := k102_openM hM; exact Kd.S_seg (okg := fun _ => False) (okp := oki) hH h0 h1 (seg := [.string t]) (j := 0) (show 1 ≤ 3 from by decide) (x' := ⟨t, (rd_T102 xs i).f1, (rd_T102 xs i).f2⟩) (k102_mkM W base oki ⟨t, (rd_T102 xs i).f1, (rd_T102 xs i).f2⟩ hR) (fun k hk => .inl hk) (fun k hk => hk.elim)
theorem part_store1_ {W : World} {base g n cap : Nat} {ok : Nat → Prop} {xs : List S102} (h : Kd.S k102 102 W base ok (.slice (some ⟨g, 0, none⟩) n cap) xs) (i : Int) (h0 : 0 ≤ i) (h1 : i < n) (t : ByteArray) :
  Kd.S k102 102 (W.setCell ⟨g, i.toNat * 3 + 1, none⟩ (.string t)) base ok (.slice (some ⟨g, 0, none⟩) n cap) (xs.set i.toNat ⟨(rd_T102 xs i).f0, t, (rd_T102 xs i).f2⟩) ∧ W.grownBy (W.setCell ⟨g, i.toNat * 3 + 1, none⟩ (.string t)) (some g) := by
 have HX : Kd.S k102 102 W base (fun k_ => ok k_ ∧ ¬ (fun _ => False) k_) (.slice (some ⟨g, 0, none⟩) n cap) xs := Kd.S_mono h (fun k hk => ⟨hk, fun hf => hf⟩)
 obtain ⟨oki, c, hcl, hM, hcc, hfr, hoki, hH⟩ := Kd.S_elem HX z102 i h0 h1; obtain ⟨u, rfl, hR⟩ := k102_openM hM; exact Kd.S_seg (okg := fun _ => False) (okp := oki) hH h0 h1 (seg := [.string t]) (j := 1) (show 1 + 1 ≤ 3 from by decide) (x' := ⟨(rd_T102 xs i).f0, t, (rd_T102 xs i).f2⟩) (k102_mkM W base oki ⟨(rd_T102 xs i).f0, t, (rd_T102 xs i).f2⟩ hR) (fun k hk => .inl hk) (fun k hk => hk.elim)
/-- a part's cells; its row of names lent, and put back. -/
theorem part_lend_ {W : World} {base g n cap : Nat} {ok : Nat → Prop} {xs : List S102} (h : Kd.S k102 102 W base ok (.slice (some ⟨g, 0, none⟩) n cap) xs) (i : Int) (h0 : 0 ≤ i) (h1 : i < n) (hok : ∀ k, W.heap.size ≤ k → ok k) :
  ∃ (u : Value) (oki : Nat → Prop), W.cell? ⟨g, i.toNat * 3, none⟩ = some (.string (rd_T102 xs i).f0) ∧ W.cell? ⟨g, i.toNat * 3 + 1, none⟩ = some (.string (rd_T102 xs i).f1) ∧ W.cell? ⟨g, i.toNat * 3 + 2, none⟩ = some u ∧
   W.frozen? ⟨g, i.toNat * 3, none⟩ = false ∧ W.frozen? ⟨g, i.toNat * 3 + 1, none⟩ = false ∧ W.frozen? ⟨g, i.toNat * 3 + 2, none⟩ = false ∧
   (∀ k, oki k → ok k) ∧ Kd.R Kd.string 9 W base oki u (rd_T102 xs i).f2 ∧
   ∀ (W' : World) (b : List ByteArray), Kept W W' oki → Kd.R Kd.string 9 W' base (fun k => oki k ∨ W.heap.size ≤ k) u b →
    Kd.S k102 102 W' base ok (.slice (some ⟨g, 0, none⟩) n cap) (xs.set i.toNat ⟨(rd_T102 xs i).f0, (rd_T102 xs i).f1, b⟩) := by
 obtain ⟨oki, c, hcl, hM, hcc, hfr, hoki, hH⟩ := Kd.S_elem h z102 i h0 h1; obtain ⟨u, rfl, hR⟩ := k102_openM hM; refine ⟨u, oki, hcc 0 _ rfl, hcc 1 _ rfl, hcc 2 _ rfl, hfr 0, hfr 1, hfr 2, fun k hk => (hoki k hk).1, hR, fun W' b hk hb => ?_⟩
 have hW := Kd.H_step (w1 := W') (Kd.H_widen hH) (fun k _ hn hlt => hk.2 k hlt (fun h2 => hn (.inl h2))); exact Kd.H_back hW (x' := ⟨(rd_T102 xs i).f0, (rd_T102 xs i).f1, b⟩) (okp := fun k => oki k ∨ W.heap.size ≤ k) (k102_mkM W' base _ ⟨(rd_T102 xs i).f0, (rd_T102 xs i).f1, b⟩ hb) (fun k hk => hk.imp id (fun h2 => ⟨hok k h2, h2⟩))
theorem rd_set_part_ (xs : List S102) (i : Int) (x : S102) (h0 : 0 ≤ i) (h1 : i < (xs.length : Int)) : rd_T102 (xs.set i.toNat x) i = x := by
 have h2 : i.toNat < xs.length := by omega
 simp [rd_T102, h2]
theorem part_two_ (xs : List S102) (i : Int) (h0 : 0 ≤ i) (h1 : i < (xs.length : Int)) (a b : ByteArray) (ys zs : List S102) (hy : ys = xs.set i.toNat ⟨a, (rd_T102 xs i).f1, (rd_T102 xs i).f2⟩) (hz : zs = ys.set i.toNat ⟨(rd_T102 ys i).f0, b, (rd_T102 ys i).f2⟩) :
  rd_T102 zs i = ⟨a, b, (rd_T102 xs i).f2⟩ ∧ ∀ c, zs.set i.toNat ⟨(rd_T102 zs i).f0, (rd_T102 zs i).f1, c⟩ = xs.set i.toNat ⟨a, b, c⟩ := by
 have r1 : rd_T102 ys i = ⟨a, (rd_T102 xs i).f1, (rd_T102 xs i).f2⟩ := by rw [hy]; exact rd_set_part_ xs i _ h0 h1
 have hl : i < (ys.length : Int) := by rw [hy, List.length_set]; exact h1
 have r2 : rd_T102 zs i = ⟨a, b, (rd_T102 xs i).f2⟩ := by rw [hz, rd_set_part_ ys i _ h0 hl, r1]
 refine ⟨r2, fun c => ?_⟩
 rw [r2, hz, List.set_set, hy, List.set_set]
def laws_markPartS.l0 : Nat → List (S102) → Int → Int → Option (Int × List (S102))
| 0, _, _, _ => none
| k + 1, x0, x1, x5 => if x5 < (x0.length : Int) then (if 0 ≤ x5 then ((laws_markText.f k x1).bind fun t1 => ((laws_markText.f k (wrap64 (x1 + 1))).bind fun t2 => ((laws_markStringS.f k (rd_T102 x0 x5).f2 (wrap64 (wrap64 (x1 + 1) + 1))).bind fun b3 => (laws_markPartS.l0 k (x0.set x5.toNat ⟨t1, t2, b3.2⟩) b3.1 (wrap64 (x5 + 1)))))) else (none)) else (some (x1, x0))
def laws_markPartS.f (k : Nat) (l0 : List (S102)) (a1 : Int) : Option (Int × List (S102)) := laws_markPartS.l0 k l0 a1 0
theorem laws_markPartS.calls (k : Nat) (P0_ : Nat → Prop) (u9000_ : Value) (l0 : List (S102)) (a1 : Int) (r1 : Int) (r2 : List (S102)) (w0 w : World) (hB : Below w0.heap.size w0 w) (ho0 : Kd.S k102 102 w w0.heap.size P0_ u9000_ l0) (h : laws_markPartS.f k l0 a1 = some (r1, r2)) :
 Calls Tryz.prog 49 #[u9000_, .int .i64 a1] w fun e w' => e = .returned (.int .i64 r1) ∧ Kd.S k102 102 w' w0.heap.size (fun k_ => (P0_ k_ ∨ w.heap.size ≤ k_)) u9000_ r2 ∧ Below w0.heap.size w0 w' ∧ Kept w w' (fun k_ => P0_ k_) := by
 obtain ⟨A, cap, rfl⟩ := Kd.S_slice ho0; have HO := ak_ (Kd.S_mono ho0 (ok' := fun k_ => (P0_ k_ ∨ w.heap.size ≤ k_)) (fun k_ hk => .inl hk)); have HK := ak_ (Kept.refl w (fun k_ => P0_ k_)); have HB := ak_ hB; have H' := ak_ (show laws_markPartS.l0 k l0 a1 0 = some (r1, r2) from h); obtain ⟨n, hn⟩ : ∃ n, n = l0.length := ⟨_, rfl⟩
 rw [← hn] at HO ⊢
 have HN := ak_ hn.symm; clear hB ho0 h hn; go_enter Tryz.func49, Tryz.ntmps49
 go_wp2; go_loopg [1, 5] k (fun kq v1 v5 w' => ∃ (x0 : List (S102)) (x1 x5 : Int), v1 = .int .i64 x1 ∧ v5 = .int .i64 x5 ∧ Aside0 (laws_markPartS.l0 kq x0 x1 x5 = some (r1, r2)) ∧ Aside0 (kq ≤ k) ∧ Aside0 (x0.length = n) ∧ Aside0 (Kd.S k102 102 w' w0.heap.size (fun k_ => (P0_ k_ ∨ w.heap.size ≤ k_)) (.slice A n cap) x0) ∧ Aside0 (Kept w w' (fun k_ => P0_ k_)) ∧ Aside0 (Below w0.heap.size w0 w'))
 case atStart => exact ⟨l0, a1, 0, rfl, rfl, H', ⟨Nat.le_refl _⟩, HN, HO, HK, HB⟩
 case round =>
  clear H' HO HK HB HN; obtain ⟨x0, x1, x5, rfl, rfl, HA, HK1, HN, HO, HK, HB⟩ := hrel; cases gk with
  | zero => exact absurd HA.out (by simp [laws_markPartS.l0])
  | succ k1 =>
   have H := HA.out; clear HA; simp only [laws_markPartS.l0] at H
   rw [HN.out] at H; replace H := ite_ H; rcases H with ⟨c3, H⟩ | ⟨c3, H⟩
   ·replace H := itn_ H; obtain ⟨c5, H⟩ := H; obtain ⟨t1, A4, H⟩ := Option.bind_eq_some_iff.mp H; obtain ⟨t2, A5, H⟩ := Option.bind_eq_some_iff.mp H; obtain ⟨⟨q3, b3⟩, A6, H⟩ := Option.bind_eq_some_iff.mp H; have H' := ak_ (show laws_markPartS.l0 k1 (x0.set x5.toNat ⟨t1, t2, b3⟩) q3 (wrap64 (x5 + 1)) = some (r1, r2) from H); clear H; replace A4 := ak_ A4; replace A5 := ak_ A5; replace A6 := ak_ A6; obtain ⟨g, cap', eo, hg1, hg2, cells, hcells⟩ := Kd.S_form HO.out (by have := HN.out; omega)
    injection eo with ea_ en_ ec_
    subst ea_; clear ec_ en_ hcells cells cap'; have HG := ak_ hg1; clear hg1 hg2; have p := c5; have q := c3; have c3b0 := decide_eq_true c3; have P := ak_ c5; have Q := ak_ c3; replace p := eq_true p; replace q := eq_true q; clear c3 c5; go_wp2_with (first | (go_at_call 22; (with_reducible refine (laws_markText.calls k1 x1 t1 _ A4.out).mono ?_); rintro e w1 ⟨rfl, hb1⟩; have HO1 := ak_ (Kd.S_below HO.out hb1); have HK2 := ak_ (Kept.below HK.out hb1); have HB1 := ak_ (below_step HB.out hb1); clear HO HK HB hb1; obtain ⟨u1, ok1, ha0, ha1, ha2, hf0, hf1, hf2, hq1, hR1, hback1⟩ := part_lend_ HO1.out x5 P.out Q.out (fun k_ h_ => .inr (Nat.le_trans HK2.out.1 h_)); clear hq1 hR1 hback1) | ((with_reducible refine gate_store (t := 9) (p := 17) rfl ?_); refine store_event (t := 9) (p := 17) (v := ?vo_w13) (w1 := (w1.setCell ⟨g, x5.toNat * 3, none⟩ (.string t1))) ?hg ?ho ?hn ?hr ?_; (case ho => rfl); (case hg => rfl); (case hn => rfl); (case hr => first | (go_simp; done) | (go_simp; rfl)); intro w2 hw; have HP := part_store0_ HO1.out x5 P.out Q.out t1; rw [← hw] at HP; have HO2 := ak_ HP.1; have HK3 := ak_ (Kept.of_grown HP.2 HK2.out (fun k_ e_ => by injection e_ with e_; subst e_; exact (Kd.S_R HO1.out).1 _ rfl)); have HB2 := ak_ (show Below w0.heap.size w0 w2 by rw [hw]; exact below_set HB1.out HG.out); clear HO1 HK2 HB1 HP hw ha0 ha1 ha2 hf0 hf1 hf2) | (go_at_call 22; (with_reducible refine (laws_markText.calls k1 (wrap64 (x1 + 1)) t2 _ A5.out).mono ?_); rintro e w3 ⟨rfl, hb3⟩; have HO3 := ak_ (Kd.S_below HO2.out hb3); have HK4 := ak_ (Kept.below HK3.out hb3); have HB3 := ak_ (below_step HB2.out hb3); clear HO2 HK3 HB2 hb3; obtain ⟨u3, ok3, ha0, ha1, ha2, hf0, hf1, hf2, hq3, hR3, hback3⟩ := part_lend_ HO3.out x5 P.out Q.out (fun k_ h_ => .inr (Nat.le_trans HK4.out.1 h_)); clear hq3 hR3 hback3) | ((with_reducible refine gate_store (t := 9) (p := 25) rfl ?_); refine store_event (t := 9) (p := 25) (v := ?vo_w14) (w1 := (w3.setCell ⟨g, x5.toNat * 3 + 1, none⟩ (.string t2))) ?hg ?ho ?hn ?hr ?_; (case ho => rfl); (case hg => rfl); (case hn => rfl); (case hr => first | (go_simp; done) | (go_simp; rfl)); intro w4 hw; have HP := part_store1_ HO3.out x5 P.out Q.out t2; rw [← hw] at HP; have HO4 := ak_ HP.1; have HK5 := ak_ (Kept.of_grown HP.2 HK4.out (fun k_ e_ => by injection e_ with e_; subst e_; exact (Kd.S_R HO3.out).1 _ rfl)); have HB4 := ak_ (show Below w0.heap.size w0 w4 by rw [hw]; exact below_set HB3.out HG.out); clear HO3 HK4 HB3 HP hw ha0 ha1 ha2 hf0 hf1 hf2; obtain ⟨u5, ok5, ha0, ha1, ha2, hf0, hf1, hf2, hq5, hR5, hback5⟩ := part_lend_ HO4.out x5 P.out Q.out (fun k_ h_ => .inr (Nat.le_trans HK5.out.1 h_)); have HQ5 := ak_ hq5; have HR5 := ak_ hR5; have HK5b := ak_ hback5; clear hq5 hR5 hback5) | (go_at_call 68; (with_reducible refine (laws_markStringS.calls k1 ok5 u5 _ (wrap64 (wrap64 (x1 + 1) + 1)) q3 b3 w0 _ HB4.out HR5.out ?a6).mono ?_); (case a6 => rw [(part_two_ x0 x5 P.out (by rw [HN.out]; exact Q.out) t1 t2 _ _ rfl rfl).1]; exact A6.out); rintro e w5 ⟨rfl, hr5, hb5, hk5⟩; have HO5 := ak_ (HK5b.out _ _ hk5 hr5); have HK6 := ak_ (Kept.then_ HK5.out hk5 (fun k_ h_ => HQ5.out k_ h_)); have HB5 := ak_ hb5; clear HO4 HK5 HB4 HR5 HK5b HQ5 hr5 hb5 hk5 ha0 ha1 ha2 hf0 hf1 hf2))
    go_roundg k1
    case measure => have := HK1.out; omega
    case rel =>
     refine ⟨x0.set x5.toNat ⟨t1, t2, b3⟩, q3, wrap64 (x5 + 1), rfl, rfl, H', ⟨by have := HK1.out; omega⟩, ⟨by rw [List.length_set]; exact HN.out⟩, ⟨?_⟩, HK6, HB5⟩
     have h9 := HO5.out; rw [(part_two_ x0 x5 P.out (by rw [HN.out]; exact Q.out) t1 t2 _ _ rfl rfl).2 b3] at h9
     exact h9
   ·have c3b0 := decide_eq_false c3; clear c3; simp only [Option.some.injEq, Prod.mk.injEq] at H
    obtain ⟨rfl, rfl⟩ := H; go_wp2; go_ret
    exact ⟨rfl, HO.out, HB.out, HK.out⟩

/-! ### laws_markPartSS: function 24 -/
def rdL_ (xs : List (List S102)) (i : Int) : List S102 := xs.getD i.toNat ([] : List S102)
/-- a selector's cell; its row lent, and put back. -/
theorem sel_lend_ {W : World} {base g n cap : Nat} {ok : Nat → Prop} {xs : List (List S102)} (h : Kd.S kSel_ 78 W base ok (.slice (some ⟨g, 0, none⟩) n cap) xs) (i : Int) (h0 : 0 ≤ i) (h1 : i < n) (hok : ∀ k, W.heap.size ≤ k → ok k) :
  ∃ (u : Value) (oki : Nat → Prop), W.cell? ⟨g, i.toNat, none⟩ = some u ∧ W.frozen? ⟨g, i.toNat, none⟩ = false ∧
   (∀ k, oki k → ok k) ∧ Kd.S k102 102 W base oki u (rdL_ xs i) ∧
   ∀ (W' : World) (b : List S102), Kept W W' oki → Kd.S k102 102 W' base (fun k => oki k ∨ W.heap.size ≤ k) u b →
    Kd.S kSel_ 78 W' base ok (.slice (some ⟨g, 0, none⟩) n cap) (xs.set i.toNat b) := by
 obtain ⟨oki, c, hcl, hM, hcc, hfr, hoki, hH⟩ := Kd.S_elem h ([] : List S102) i h0 h1; obtain ⟨u, rfl, hR⟩ := hM; have e1 : i.toNat * (kSel_).sz + 0 = i.toNat := Nat.mul_one _
 have hc0 := hcc 0 _ rfl; have hf0 := hfr 0; rw [e1] at hc0 hf0
 refine ⟨u, oki, hc0, hf0, fun k hk => (hoki k hk).1, hR, fun W' b hk hb => ?_⟩
 have hW := Kd.H_step (w1 := W') (Kd.H_widen hH) (fun k _ hn hlt => hk.2 k hlt (fun h2 => hn (.inl h2))); exact Kd.H_back hW (x' := b) (okp := fun k => oki k ∨ W.heap.size ≤ k) ⟨u, rfl, hb⟩ (fun k hk => hk.imp id (fun h2 => ⟨hok k h2, h2⟩))
def laws_markPartSS.l0 : Nat → List (List S102) → Int → Int → Option (Int × List (List S102))
| 0, _, _, _ => none
| k + 1, x0, x1, x5 => if x5 < (x0.length : Int) then (if 0 ≤ x5 then ((laws_markPartS.f k (rdL_ x0 x5) x1).bind fun b3 => (laws_markPartSS.l0 k (x0.set x5.toNat b3.2) b3.1 (wrap64 (x5 + 1)))) else (none)) else (some (x1, x0))
def laws_markPartSS.f (k : Nat) (l0 : List (List S102)) (a1 : Int) : Option (Int × List (List S102)) := laws_markPartSS.l0 k l0 a1 0
theorem laws_markPartSS.calls (k : Nat) (P0_ : Nat → Prop) (u9000_ : Value) (l0 : List (List S102)) (a1 : Int) (r1 : Int) (r2 : List (List S102)) (w0 w : World) (hB : Below w0.heap.size w0 w) (ho0 : Kd.S kSel_ 78 w w0.heap.size P0_ u9000_ l0) (h : laws_markPartSS.f k l0 a1 = some (r1, r2)) :
 Calls Tryz.prog 24 #[u9000_, .int .i64 a1] w fun e w' => e = .returned (.int .i64 r1) ∧ Kd.S kSel_ 78 w' w0.heap.size (fun k_ => (P0_ k_ ∨ w.heap.size ≤ k_)) u9000_ r2 ∧ Below w0.heap.size w0 w' ∧ Kept w w' (fun k_ => P0_ k_) := by
 obtain ⟨A, cap, rfl⟩ := Kd.S_slice ho0; have HO := ak_ (Kd.S_mono ho0 (ok' := fun k_ => (P0_ k_ ∨ w.heap.size ≤ k_)) (fun k_ hk => .inl hk)); have HK := ak_ (Kept.refl w (fun k_ => P0_ k_)); have HB := ak_ hB; have H' := ak_ (show laws_markPartSS.l0 k l0 a1 0 = some (r1, r2) from h); obtain ⟨n, hn⟩ : ∃ n, n = l0.length := ⟨_, rfl⟩
 rw [← hn] at HO ⊢
 have HN := ak_ hn.symm; clear hB ho0 h hn; go_enter Tryz.func24, Tryz.ntmps24
 go_wp2; go_loopg [1, 5] k (fun kq v1 v5 w' => ∃ (x0 : List (List S102)) (x1 x5 : Int), v1 = .int .i64 x1 ∧ v5 = .int .i64 x5 ∧ Aside0 (laws_markPartSS.l0 kq x0 x1 x5 = some (r1, r2)) ∧ Aside0 (kq ≤ k) ∧ Aside0 (x0.length = n) ∧ Aside0 (Kd.S kSel_ 78 w' w0.heap.size (fun k_ => (P0_ k_ ∨ w.heap.size ≤ k_)) (.slice A n cap) x0) ∧ Aside0 (Kept w w' (fun k_ => P0_ k_)) ∧ Aside0 (Below w0.heap.size w0 w'))
 case atStart => exact ⟨l0, a1, 0, rfl, rfl, H', ⟨Nat.le_refl _⟩, HN, HO, HK, HB⟩
 case round =>
  clear H' HO HK HB HN; obtain ⟨x0, x1, x5, rfl, rfl, HA, HK1, HN, HO, HK, HB⟩ := hrel; cases gk with
  | zero => exact absurd HA.out (by simp [laws_markPartSS.l0])
  | succ k1 =>
   have H := HA.out; clear HA; simp only [laws_markPartSS.l0] at H
   rw [HN.out] at H; replace H := ite_ H; rcases H with ⟨c3, H⟩ | ⟨c3, H⟩
   ·replace H := itn_ H; obtain ⟨c5, H⟩ := H; obtain ⟨⟨q3, b3⟩, A6, H⟩ := Option.bind_eq_some_iff.mp H; have H' := ak_ (show laws_markPartSS.l0 k1 (x0.set x5.toNat b3) q3 (wrap64 (x5 + 1)) = some (r1, r2) from H); clear H; replace A6 := ak_ A6; obtain ⟨g, cap', eo, hg1, hg2, cells, hcells⟩ := Kd.S_form HO.out (by have := HN.out; omega)
    injection eo with ea_ en_ ec_
    subst ea_; clear ec_ en_ hcells cells cap'; have HG := ak_ hg1; clear hg1 hg2; have p := c5; have q := c3; have c3b0 := decide_eq_true c3; have P := ak_ c5; have Q := ak_ c3; replace p := eq_true p; replace q := eq_true q; clear c3 c5; obtain ⟨u5, ok5, ha0, hf0, hq5, hR5, hback5⟩ := sel_lend_ HO.out x5 P.out Q.out (fun k_ h_ => .inr (Nat.le_trans HK.out.1 h_)); have HQ5 := ak_ hq5; have HR5 := ak_ hR5; have HK5b := ak_ hback5; clear hq5 hR5 hback5; go_wp2_with (first | (go_at_call 49; (with_reducible refine (laws_markPartS.calls k1 ok5 u5 _ x1 q3 b3 w0 _ bel_ (kdS_ HR5.out) A6.out).mono ?_); rintro e w5 ⟨rfl, hr5, hb5, hk5⟩; have HO5 := ak_ (HK5b.out _ _ hk5 hr5); have HK6 := ak_ (Kept.then_ HK.out hk5 (fun k_ h_ => HQ5.out k_ h_)); have HB5 := ak_ hb5; clear HO HK HB HR5 HK5b HQ5 hr5 hb5 hk5 ha0 hf0))
    go_roundg k1
    case measure => have := HK1.out; omega
    case rel =>
     exact ⟨x0.set x5.toNat b3, q3, wrap64 (x5 + 1), rfl, rfl, H', ⟨by have := HK1.out; omega⟩, ⟨by rw [List.length_set]; exact HN.out⟩, HO5, HK6, HB5⟩
   ·have c3b0 := decide_eq_false c3; clear c3; simp only [Option.some.injEq, Prod.mk.injEq] at H
    obtain ⟨rfl, rfl⟩ := H; go_wp2; go_ret
    exact ⟨rfl, HO.out, HB.out, HK.out⟩

/-! ### laws_markDeclS: function 25 -/
def laws_markDeclS.l0 : Nat → List (S80) → Int → Int → Option (Int × (List (S80)))
 | 0, _, _, _ => none
 | k + 1, x0, x1, x5 => if x5 < (x0.length : Int) then ((laws_markText.f k x1).bind fun t442 => (if 0 ≤ x5 then ((some (x0.set (x5 : Int).toNat (⟨t442, (rd_T80 x0 x5).f1, (rd_T80 x0 x5).f2⟩ : S80) : List (S80))).bind fun y443 => ((laws_markText.f k (wrap64 (x1 + 1))).bind fun t444 => ((some (y443.set (x5 : Int).toNat (⟨(rd_T80 y443 x5).f0, t444, (rd_T80 y443 x5).f2⟩ : S80) : List (S80))).bind fun y445 => (laws_markDeclS.l0 k (y445.set (x5 : Int).toNat (⟨(rd_T80 y445 x5).f0, (rd_T80 y445 x5).f1, ((Int.tmod (wrap64 ((wrap64 (x1 + 1)) + 1)) 3) == 0)⟩ : S80)) (wrap64 ((wrap64 ((wrap64 (x1 + 1)) + 1)) + 1)) (wrap64 (x5 + 1)))))) else (none))) else (some (x1, x0))
def laws_markDeclS.f (k : Nat) (l0 : List (S80)) (a1 : Int) : Option (Int × (List (S80))) := laws_markDeclS.l0 k l0 a1 0
theorem laws_markDeclS.calls (k : Nat) (P0_ : Nat → Prop) (u9000_ : Value) (l0 : List (S80)) (a1 : Int) (r1 : Int) (r2 : List (S80)) (w0 w : World) (hB : Below w0.heap.size w0 w) (ho0 : Kd.R k80 80 w w0.heap.size P0_ u9000_ l0) (h : laws_markDeclS.f k l0 a1 = some (r1, r2)) :
  Calls Tryz.prog 25 #[u9000_, .int .i64 a1] w fun e w' => e = .returned (.int .i64 r1) ∧ Kd.R k80 80 w' w0.heap.size (fun k_ => (P0_ k_ ∨ w.heap.size ≤ k_)) u9000_ r2 ∧ Below w0.heap.size w0 w' ∧ Kept w w' (fun k_ => P0_ k_) := by
 have HO0 := ak_ (show Kd.R k80 80 w w0.heap.size (fun k_ => (P0_ k_ ∨ w.heap.size ≤ k_)) u9000_ l0 from Kd.R_mono ho0 (fun k_ hk => (.inl hk))); have HK := ak_ (Kept.refl w (fun k_ => P0_ k_)); have HW0 := ak_ hB.size; have HB := ak_ hB; clear hB; have H := h; unfold laws_markDeclS.f at H
 clear h; have H' := ak_ H; clear H; go_enter Tryz.func25, Tryz.ntmps25
 go_wp2; go_loopg [1, 5] k (fun kq v1 v5 w' => ∃ (x0_1 : List (S80)) (x1_1 : Int) (x5_1 : Int), v1 = .int .i64 x1_1 ∧ v5 = .int .i64 x5_1 ∧ Aside0 (laws_markDeclS.l0 kq x0_1 x1_1 x5_1 = some (r1, r2)) ∧ Aside0 (kq ≤ k) ∧ Aside0 (Kd.R k80 80 w' w0.heap.size (fun k_ => (P0_ k_ ∨ w.heap.size ≤ k_)) u9000_ x0_1) ∧ Aside0 (Kept w w' (fun k_ => P0_ k_)) ∧ Aside0 (Below w0.heap.size w0 w'))
 case atStart => exact ⟨(l0), (a1), (0), sv_, sv_, H', ⟨Nat.le_refl _⟩, ⟨kdR_ HO0.out⟩, ⟨by repeat (first | (with_reducible first | exact HK.out | apply Kept.alloc | apply Kept.drewN | apply Kept.drew) | exact HK.out)⟩, ⟨bel_⟩⟩
 case round =>
  clear H'; obtain ⟨x0_1, x1_1, x5_1, rfl, rfl, HA, HK1, HO_0, HK, HB⟩ := hrel; cases gk with
  | zero => exact absurd HA.out (by simp [laws_markDeclS.l0])
  | succ k1 =>
   have H := HA.out; clear HA; simp only [laws_markDeclS.l0] at H
   replace H := ied_ H; rcases H with ⟨c3b0, H⟩ | ⟨c3b0, H⟩
   ·replace H := bnd_ H; obtain ⟨t442, A4, H⟩ := H; replace H := itd_ H; obtain ⟨c5b0, H⟩ := H; replace H := nams_ H; obtain ⟨y443, Ny443, H⟩ := H; replace H := bnd_ H; obtain ⟨t444, A7, H⟩ := H; replace H := nams_ H; obtain ⟨y445, Ny445, H⟩ := H; obtain ⟨y446, hy446⟩ : ∃ y_ : List (S80), y_ = (y445.set (x5_1 : Int).toNat (⟨(rd_T80 y445 x5_1).f0, (rd_T80 y445 x5_1).f1, ((Int.tmod (wrap64 ((wrap64 (x1_1 + 1)) + 1)) 3) == 0)⟩ : S80)) := ⟨_, rfl⟩
    replace H : (laws_markDeclS.l0 k1 y446 (wrap64 ((wrap64 ((wrap64 (x1_1 + 1)) + 1)) + 1)) (wrap64 (x5_1 + 1))) = some (r1, r2) := by first | (rw [hy446]; with_reducible exact H) | (have H2_ := (Option.bind_some _ _).symm.trans H; rw [hy446]; with_reducible exact H2_) | (have H2_ := (Option.bind_some _ _).symm.trans H; with_reducible exact H2_) | with_reducible exact H | (rw [hy446]; exact H) | exact H
    have Ny446 := ak_ hy446; clear hy446; have H' := ak_ H; clear H; obtain ⟨Ao10, co10, eo10⟩ := Kd.R_slice HO_0.out; subst eo10; go_wp2_with (first | ((with_reducible refine gate_callee (f := 22) rfl ?_); refine gl_ (some 15) Tryz.func22 #[.int .i64 x1_1] ?_; (with_reducible refine (laws_markText.calls k1 x1_1 t442 _ A4.out).mono ?_); rintro e w11 ⟨rfl, hb⟩; refine ⟨_, rfl, ?_⟩; have n_ := an3_ (Kd.R_below (kdR_ HO_0.out) hb) (Kept.below (S := (fun k_ => P0_ k_)) (by repeat (first | (with_reducible first | exact HK.out | apply Kept.alloc | apply Kept.drewN | apply Kept.drew) | exact HK.out)) hb) (below_step bel_ hb); clear HO_0 HK HB; obtain ⟨HO_0, HK, HB⟩ := n_; (try clear hb);(try clear hb2);(try clear hk);(try clear hi); have p6 : 0 ≤ (x5_1 : Int) := oda_; have q6 : (x5_1 : Int) < ((x0_1.length : Int) : Int) := oda_; obtain ⟨go6, co6, eo6, gb6, gl6, cl6, HG6⟩ := Kd.R_form HO_0.out (by omega); (first | cases eo6 | (injection eo6 with ea_ en_ ec_; (first | subst ea_ | (injection ea_ with ea_; subst ea_)); subst ec_; clear en_)); have GB6 := ak_ gb6; have GG6 := ak_ HG6; clear gb6 gl6 HG6; have HMgo6 := ak_ (show (P0_ go6 ∨ w.heap.size ≤ go6) from (HO_0.out.1 _ rfl)); obtain ⟨ce6, hcl6, hM6, hcc6, hfr6⟩ := Kd.R_elem HO_0.out z80 (x5_1 : Int) p6 q6; obtain rfl := k80_openM hM6; have hx6_0 : w11.cell? ⟨go6, (x5_1 : Int).toNat * 3, none⟩ = some (.string ((rd_T80 x0_1 x5_1).f0)) := hcc6 0 _ rfl; have hx6_1 : w11.cell? ⟨go6, (x5_1 : Int).toNat * 3 + 1, none⟩ = some (.string ((rd_T80 x0_1 x5_1).f1)) := hcc6 1 _ rfl; have hx6_2 : w11.cell? ⟨go6, (x5_1 : Int).toNat * 3 + 2, none⟩ = some (.bool ((rd_T80 x0_1 x5_1).f2)) := hcc6 2 _ rfl; have hf6_0 : w11.frozen? ⟨go6, (x5_1 : Int).toNat * 3, none⟩ = false := hfr6 0; have hf6_1 : w11.frozen? ⟨go6, (x5_1 : Int).toNat * 3 + 1, none⟩ = false := hfr6 1; have hf6_2 : w11.frozen? ⟨go6, (x5_1 : Int).toNat * 3 + 2, none⟩ = false := hfr6 2; (first | clear hcl6 hcc6 hfr6 hM6 | clear hcl6 hcc6 hfr6); replace p6 := eq_true p6; replace q6 := eq_true q6; have HX12 := ak_ (show Kd.R k80 80 w11 w0.heap.size (fun k_ => (P0_ k_ ∨ w.heap.size ≤ k_)) (.slice (some ⟨go6, 0, none⟩) x0_1.length co10) x0_1 from (kdR_ HO_0.out)); obtain ⟨ce12, hcl12, hM12, hcc12, hfr12⟩ := Kd.R_elem HX12.out z80 (x5_1 : Int) (oda_) (by have h_ : (x5_1 : Int) < ((x0_1.length : Int) : Int) := oda_; first | exact h_ | (have e_ := (Kd.R_reads' HO_0.out).1; omega) | simpa using h_); obtain rfl := k80_openM hM12; have HP12 := Kd.R_seg HX12.out (x5_1 : Int) (oda_) (by have h_ : (x5_1 : Int) < ((x0_1.length : Int) : Int) := oda_; first | exact h_ | (have e_ := (Kd.R_reads' HO_0.out).1; omega) | simpa using h_) (seg := [.string t442]) (j := 0) hcl12 hcc12 (show 1 ≤ 3 from by decide) (x' := (⟨t442, (rd_T80 x0_1 x5_1).f1, (rd_T80 x0_1 x5_1).f2⟩ : S80)) (k80_mkM _ _ _ (⟨t442, (rd_T80 x0_1 x5_1).f1, (rd_T80 x0_1 x5_1).f2⟩ : S80) ) (fun _ hk => hk); have hx12_0 := hcc12 0 _ rfl; (try simp only [show (k80).sz = 3 from rfl, Nat.mul_one, Nat.add_zero] at hx12_0); have hf12_0 := hfr12 0; (try simp only [show (k80).sz = 3 from rfl, Nat.mul_one, Nat.add_zero] at hf12_0); (first | clear hcl12 hcc12 hfr12 hM12 | clear hcl12 hcc12 hfr12)) | ((with_reducible refine gate_store (t := 9) (p := 17) rfl ?_); refine store_event (t := 9) (p := 17) (v := ?vo_w13) (w1 := (w11.setCell ⟨go6, (x5_1 : Int).toNat * 3, none⟩ (.string t442))) ?hg ?ho ?hn ?hr ?_; (case ho => rfl); (case hg => rfl); (case hn => rfl); (case hr => first | (go_simp; done) | (go_simp; rfl)); intro w13 hw; have hg : w11.grownBy w13 (some go6) := (by rw [hw]; exact HP12.2); have hp_ : Kd.R k80 80 w13 w0.heap.size (fun k_ => (P0_ k_ ∨ w.heap.size ≤ k_)) (.slice (some ⟨go6, 0, none⟩) x0_1.length co10) y443 := (by rw [hw, Ny443.out]; exact HP12.1); clear HP12; have n_ := an3_ (hp_) ((by rw [hw]; exact below_set (HB.out) GB6.out : Below w0.heap.size w0 w13)) (Kept.of_grown (S := (fun k_ => P0_ k_)) hg (by repeat (first | (with_reducible first | exact HK.out | apply Kept.alloc | apply Kept.drewN | apply Kept.drew) | exact HK.out)) (fun k_ e_ => (HO_0.out.1 k_ e_))); clear HO_0 HB HK; obtain ⟨HO_0, HB, HK⟩ := n_; clear hg hw hp_) | ((with_reducible refine gate_callee (f := 22) rfl ?_); refine gl_ (some 23) Tryz.func22 #[.int .i64 (wrap64 (x1_1 + 1))] ?_; (with_reducible refine (laws_markText.calls k1 (wrap64 (x1_1 + 1)) t444 _ A7.out).mono ?_); rintro e w14 ⟨rfl, hb⟩; refine ⟨_, rfl, ?_⟩; have n_ := an3_ (Kd.R_below (kdR_ HO_0.out) hb) (Kept.below (S := (fun k_ => P0_ k_)) (by repeat (first | (with_reducible first | exact HK.out | apply Kept.alloc | apply Kept.drewN | apply Kept.drew) | exact HK.out)) hb) (below_step bel_ hb); clear HO_0 HK HB; obtain ⟨HO_0, HK, HB⟩ := n_; (try clear hb);(try clear hb2);(try clear hk);(try clear hi); have p8 : 0 ≤ (x5_1 : Int) := oda_; have q8 : (x5_1 : Int) < ((x0_1.length : Int) : Int) := oda_; obtain ⟨ce8, hcl8, hM8, hcc8, hfr8⟩ := Kd.R_elem HO_0.out z80 (x5_1 : Int) p8 q8; obtain rfl := k80_openM hM8; have hx8_0 : w14.cell? ⟨go6, (x5_1 : Int).toNat * 3, none⟩ = some (.string ((rd_T80 y443 x5_1).f0)) := hcc8 0 _ rfl; have hx8_1 : w14.cell? ⟨go6, (x5_1 : Int).toNat * 3 + 1, none⟩ = some (.string ((rd_T80 y443 x5_1).f1)) := hcc8 1 _ rfl; have hx8_2 : w14.cell? ⟨go6, (x5_1 : Int).toNat * 3 + 2, none⟩ = some (.bool ((rd_T80 y443 x5_1).f2)) := hcc8 2 _ rfl; have hf8_0 : w14.frozen? ⟨go6, (x5_1 : Int).toNat * 3, none⟩ = false := hfr8 0; have hf8_1 : w14.frozen? ⟨go6, (x5_1 : Int).toNat * 3 + 1, none⟩ = false := hfr8 1; have hf8_2 : w14.frozen? ⟨go6, (x5_1 : Int).toNat * 3 + 2, none⟩ = false := hfr8 2; (first | clear hcl8 hcc8 hfr8 hM8 | clear hcl8 hcc8 hfr8); replace p8 := eq_true p8; replace q8 := eq_true q8; have HX15 := ak_ (show Kd.R k80 80 w14 w0.heap.size (fun k_ => (P0_ k_ ∨ w.heap.size ≤ k_)) (.slice (some ⟨go6, 0, none⟩) x0_1.length co10) y443 from (kdR_ HO_0.out)); obtain ⟨ce15, hcl15, hM15, hcc15, hfr15⟩ := Kd.R_elem HX15.out z80 (x5_1 : Int) (oda_) (by have h_ : (x5_1 : Int) < ((x0_1.length : Int) : Int) := oda_; first | exact h_ | (have e_ := (Kd.R_reads' HO_0.out).1; omega) | simpa using h_); obtain rfl := k80_openM hM15; have HP15 := Kd.R_seg HX15.out (x5_1 : Int) (oda_) (by have h_ : (x5_1 : Int) < ((x0_1.length : Int) : Int) := oda_; first | exact h_ | (have e_ := (Kd.R_reads' HO_0.out).1; omega) | simpa using h_) (seg := [.string t444]) (j := 1) hcl15 hcc15 (show 2 ≤ 3 from by decide) (x' := (⟨(rd_T80 y443 x5_1).f0, t444, (rd_T80 y443 x5_1).f2⟩ : S80)) (k80_mkM _ _ _ (⟨(rd_T80 y443 x5_1).f0, t444, (rd_T80 y443 x5_1).f2⟩ : S80) ) (fun _ hk => hk); have hx15_1 := hcc15 1 _ rfl; (try simp only [show (k80).sz = 3 from rfl, Nat.mul_one, Nat.add_zero] at hx15_1); have hf15_1 := hfr15 1; (try simp only [show (k80).sz = 3 from rfl, Nat.mul_one, Nat.add_zero] at hf15_1); (first | clear hcl15 hcc15 hfr15 hM15 | clear hcl15 hcc15 hfr15)) | ((with_reducible refine gate_store (t := 9) (p := 25) rfl ?_); refine store_event (t := 9) (p := 25) (v := ?vo_w16) (w1 := (w14.setCell ⟨go6, (x5_1 : Int).toNat * 3 + 1, none⟩ (.string t444))) ?hg ?ho ?hn ?hr ?_; (case ho => rfl); (case hg => rfl); (case hn => rfl); (case hr => first | (go_simp; done) | (go_simp; rfl)); intro w16 hw; have hg : w14.grownBy w16 (some go6) := (by rw [hw]; exact HP15.2); have hp_ : Kd.R k80 80 w16 w0.heap.size (fun k_ => (P0_ k_ ∨ w.heap.size ≤ k_)) (.slice (some ⟨go6, 0, none⟩) x0_1.length co10) y445 := (by rw [hw, Ny445.out]; exact HP15.1); clear HP15; have n_ := an3_ (hp_) ((by rw [hw]; exact below_set (HB.out) GB6.out : Below w0.heap.size w0 w16)) (Kept.of_grown (S := (fun k_ => P0_ k_)) hg (by repeat (first | (with_reducible first | exact HK.out | apply Kept.alloc | apply Kept.drewN | apply Kept.drew) | exact HK.out)) (fun k_ e_ => (HO_0.out.1 k_ e_))); clear HO_0 HB HK; obtain ⟨HO_0, HB, HK⟩ := n_; clear hg hw hp_; have p9 : 0 ≤ (x5_1 : Int) := oda_; have q9 : (x5_1 : Int) < ((x0_1.length : Int) : Int) := oda_; obtain ⟨ce9, hcl9, hM9, hcc9, hfr9⟩ := Kd.R_elem HO_0.out z80 (x5_1 : Int) p9 q9; obtain rfl := k80_openM hM9; have hx9_0 : w16.cell? ⟨go6, (x5_1 : Int).toNat * 3, none⟩ = some (.string ((rd_T80 y445 x5_1).f0)) := hcc9 0 _ rfl; have hx9_1 : w16.cell? ⟨go6, (x5_1 : Int).toNat * 3 + 1, none⟩ = some (.string ((rd_T80 y445 x5_1).f1)) := hcc9 1 _ rfl; have hx9_2 : w16.cell? ⟨go6, (x5_1 : Int).toNat * 3 + 2, none⟩ = some (.bool ((rd_T80 y445 x5_1).f2)) := hcc9 2 _ rfl; have hf9_0 : w16.frozen? ⟨go6, (x5_1 : Int).toNat * 3, none⟩ = false := hfr9 0; have hf9_1 : w16.frozen? ⟨go6, (x5_1 : Int).toNat * 3 + 1, none⟩ = false := hfr9 1; have hf9_2 : w16.frozen? ⟨go6, (x5_1 : Int).toNat * 3 + 2, none⟩ = false := hfr9 2; (first | clear hcl9 hcc9 hfr9 hM9 | clear hcl9 hcc9 hfr9); replace p9 := eq_true p9; replace q9 := eq_true q9; have HX17 := ak_ (show Kd.R k80 80 w16 w0.heap.size (fun k_ => (P0_ k_ ∨ w.heap.size ≤ k_)) (.slice (some ⟨go6, 0, none⟩) x0_1.length co10) y445 from (kdR_ HO_0.out)); obtain ⟨ce17, hcl17, hM17, hcc17, hfr17⟩ := Kd.R_elem HX17.out z80 (x5_1 : Int) (oda_) (by have h_ : (x5_1 : Int) < ((x0_1.length : Int) : Int) := oda_; first | exact h_ | (have e_ := (Kd.R_reads' HO_0.out).1; omega) | simpa using h_); obtain rfl := k80_openM hM17; have HP17 := Kd.R_seg HX17.out (x5_1 : Int) (oda_) (by have h_ : (x5_1 : Int) < ((x0_1.length : Int) : Int) := oda_; first | exact h_ | (have e_ := (Kd.R_reads' HO_0.out).1; omega) | simpa using h_) (seg := [.bool ((Int.tmod (wrap64 ((wrap64 (x1_1 + 1)) + 1)) 3) == 0)]) (j := 2) hcl17 hcc17 (show 3 ≤ 3 from by decide) (x' := (⟨(rd_T80 y445 x5_1).f0, (rd_T80 y445 x5_1).f1, ((Int.tmod (wrap64 ((wrap64 (x1_1 + 1)) + 1)) 3) == 0)⟩ : S80)) (k80_mkM _ _ _ (⟨(rd_T80 y445 x5_1).f0, (rd_T80 y445 x5_1).f1, ((Int.tmod (wrap64 ((wrap64 (x1_1 + 1)) + 1)) 3) == 0)⟩ : S80) ) (fun _ hk => hk); have hx17_2 := hcc17 2 _ rfl; (try simp only [show (k80).sz = 3 from rfl, Nat.mul_one, Nat.add_zero] at hx17_2); have hf17_2 := hfr17 2; (try simp only [show (k80).sz = 3 from rfl, Nat.mul_one, Nat.add_zero] at hf17_2); (first | clear hcl17 hcc17 hfr17 hM17 | clear hcl17 hcc17 hfr17)) | ((with_reducible refine gate_store (t := 4) (p := 34) rfl ?_); refine store_event (t := 4) (p := 34) (v := ?vo_w18) (w1 := (w16.setCell ⟨go6, (x5_1 : Int).toNat * 3 + 2, none⟩ (.bool ((Int.tmod (wrap64 ((wrap64 (x1_1 + 1)) + 1)) 3) == 0)))) ?hg ?ho ?hn ?hr ?_; (case ho => rfl); (case hg => rfl); (case hn => rfl); (case hr => first | (go_simp; done) | (go_simp; rfl)); intro w18 hw; have hg : w16.grownBy w18 (some go6) := (by rw [hw]; exact HP17.2); have hp_ : Kd.R k80 80 w18 w0.heap.size (fun k_ => (P0_ k_ ∨ w.heap.size ≤ k_)) (.slice (some ⟨go6, 0, none⟩) x0_1.length co10) y446 := (by rw [hw, Ny446.out]; exact HP17.1); clear HP17; have n_ := an3_ (hp_) ((by rw [hw]; exact below_set (HB.out) GB6.out : Below w0.heap.size w0 w18)) (Kept.of_grown (S := (fun k_ => P0_ k_)) hg (by repeat (first | (with_reducible first | exact HK.out | apply Kept.alloc | apply Kept.drewN | apply Kept.drew) | exact HK.out)) (fun k_ e_ => (HO_0.out.1 k_ e_))); clear HO_0 HB HK; obtain ⟨HO_0, HB, HK⟩ := n_; clear hg hw hp_))
    go_roundg k1
    case measure => have := HK1.out; omega
    case rel => exact ⟨(y446), (wrap64 ((wrap64 ((wrap64 (x1_1 + 1)) + 1)) + 1)), (wrap64 (x5_1 + 1)), sv_, sv_, H', ⟨by have := HK1.out; omega⟩, ⟨kdR_ HO_0.out⟩, ⟨by repeat (first | (with_reducible first | exact HK.out | apply Kept.alloc | apply Kept.drewN | apply Kept.drew) | exact HK.out)⟩, ⟨bel_⟩⟩
   ·simp only [Option.some.injEq, Prod.mk.injEq] at H
    obtain ⟨rfl, rfl⟩ := H; obtain ⟨Ao19, co19, eo19⟩ := Kd.R_slice HO_0.out; subst eo19; go_wp2; go_ret
    exact ⟨er_, kdR_ HO_0.out, bel_, by repeat (first | (with_reducible first | exact HK.out | apply Kept.alloc | apply Kept.drewN | apply Kept.drew) | exact HK.out)⟩

/-! ### laws_markRuleS: function 11 -/
/-- a rule's cells; its row of selectors lent, and put back. -/
theorem rule_lend0_ {W : World} {base g n cap : Nat} {ok : Nat → Prop} {xs : List S50} (h : Kd.S kRule_ 50 W base ok (.slice (some ⟨g, 0, none⟩) n cap) xs) (i : Int) (h0 : 0 ≤ i) (h1 : i < n) (hok : ∀ k, W.heap.size ≤ k → ok k) :
  ∃ (u : Value) (oki : Nat → Prop), W.cell? ⟨g, i.toNat * 2, none⟩ = some u ∧ W.frozen? ⟨g, i.toNat * 2, none⟩ = false ∧
   (∀ k, oki k → ok k) ∧ Kd.S kSel_ 78 W base oki u (rd_T50 xs i).f0 ∧
   ∀ (W' : World) (b : List (List S102)), Kept W W' oki → Kd.S kSel_ 78 W' base (fun k => oki k ∨ W.heap.size ≤ k) u b →
    Kd.S kRule_ 50 W' base ok (.slice (some ⟨g, 0, none⟩) n cap) (xs.set i.toNat ⟨b, (rd_T50 xs i).f1⟩) := by
 obtain ⟨oki, c, hcl, hM, hcc, hfr, hoki, hH⟩ := Kd.S_elem h z50 i h0 h1; obtain ⟨u, v, rfl, hS, hR⟩ := kRule_openM_ hM; refine ⟨u, _, hcc 0 _ rfl, hfr 0, fun k hk => (hoki k hk.1).1, Kd.S_bound hS, fun W' b hk hb => ?_⟩
 have hW := Kd.H_step (w1 := W') (Kd.H_widen hH) (fun k _ hn hlt => hk.2 k hlt (fun h2 => hn (.inl h2.1))); have hR' : Kd.R k80 80 W' base oki v (rd_T50 xs i).f1 := by
  refine Kd.R_mono (Kd.R_move (Kd.R_bound hR) (fun k h3 => hk.2 k h3.2.2.1 (fun h4 => ?_))) (fun k h3 => h3.1)
  obtain ⟨_, _, _, q, hq, cells, hc⟩ := h3; obtain ⟨_, _, _, q', hq', cells', hc'⟩ := h4; rw [hc] at hc'
  injection hc' with hc'
  injection hc' with _ e
  subst e; revert hq hq'
  show q ∈ [80] → q ∈ [78, 102, 9] → False
  intro hq hq'; simp at hq hq'
  omega
 exact Kd.H_back hW (x' := ⟨b, (rd_T50 xs i).f1⟩) (okp := fun k => oki k ∨ W.heap.size ≤ k) (kRule_mkM_ (Kd.S_mono hb (fun k hk => hk.imp (fun h2 => h2.1) id)) (Kd.R_mono hR' (fun k hk => .inl hk))) (fun k hk => hk.imp id (fun h2 => ⟨hok k h2, h2⟩))
/-- a rule's row of declarations lent, and put back. -/
theorem rule_lend1_ {W : World} {base g n cap : Nat} {ok : Nat → Prop} {xs : List S50} (h : Kd.S kRule_ 50 W base ok (.slice (some ⟨g, 0, none⟩) n cap) xs) (i : Int) (h0 : 0 ≤ i) (h1 : i < n) (hok : ∀ k, W.heap.size ≤ k → ok k) :
  ∃ (u : Value) (oki : Nat → Prop), W.cell? ⟨g, i.toNat * 2 + 1, none⟩ = some u ∧ W.frozen? ⟨g, i.toNat * 2 + 1, none⟩ = false ∧
   (∀ k, oki k → ok k) ∧ Kd.R k80 80 W base oki u (rd_T50 xs i).f1 ∧
   ∀ (W' : World) (b : List S80), Kept W W' oki → Kd.R k80 80 W' base (fun k => oki k ∨ W.heap.size ≤ k) u b →
    Kd.S kRule_ 50 W' base ok (.slice (some ⟨g, 0, none⟩) n cap) (xs.set i.toNat ⟨(rd_T50 xs i).f0, b⟩) := by
 obtain ⟨oki, c, hcl, hM, hcc, hfr, hoki, hH⟩ := Kd.S_elem h z50 i h0 h1; obtain ⟨u, v, rfl, hS, hR⟩ := kRule_openM_ hM; refine ⟨v, _, hcc 1 _ rfl, hfr 1, fun k hk => (hoki k hk.1).1, Kd.R_bound hR, fun W' b hk hb => ?_⟩
 have hW := Kd.H_step (w1 := W') (Kd.H_widen hH) (fun k _ hn hlt => hk.2 k hlt (fun h2 => hn (.inl h2.1))); have hS' : Kd.S kSel_ 78 W' base oki u (rd_T50 xs i).f0 := by
  refine Kd.S_mono (Kd.S_move (Kd.S_bound hS) (fun k h3 => hk.2 k h3.2.2.1 (fun h4 => ?_))) (fun k h3 => h3.1)
  obtain ⟨_, _, _, q', hq', cells', hc'⟩ := h3; obtain ⟨_, _, _, q, hq, cells, hc⟩ := h4; rw [hc] at hc'
  injection hc' with hc'
  injection hc' with _ e
  subst e; revert hq hq'
  show q ∈ [80] → q ∈ [78, 102, 9] → False
  intro hq hq'; simp at hq hq'
  omega
 exact Kd.H_back hW (x' := ⟨(rd_T50 xs i).f0, b⟩) (okp := fun k => oki k ∨ W.heap.size ≤ k) (kRule_mkM_ (Kd.S_mono hS' (fun k hk => .inl hk)) (Kd.R_mono hb (fun k hk => hk.imp (fun h2 => h2.1) id))) (fun k hk => hk.imp id (fun h2 => ⟨hok k h2, h2⟩))
theorem rd_set_rule_ (xs : List S50) (i : Int) (x : S50) (h0 : 0 ≤ i) (h1 : i < (xs.length : Int)) : rd_T50 (xs.set i.toNat x) i = x := by
 have h2 : i.toNat < xs.length := by omega
 simp [rd_T50, h2]
def laws_markRuleS.l0 : Nat → List (S50) → Int → Int → Option (Int × List (S50))
| 0, _, _, _ => none
| k + 1, x0, x1, x5 => if x5 < (x0.length : Int) then (if 0 ≤ x5 then ((laws_markPartSS.f k (rd_T50 x0 x5).f0 x1).bind fun b2 => ((laws_markDeclS.f k (rd_T50 x0 x5).f1 b2.1).bind fun b3 => (laws_markRuleS.l0 k (x0.set x5.toNat ⟨b2.2, b3.2⟩) b3.1 (wrap64 (x5 + 1))))) else (none)) else (some (x1, x0))
def laws_markRuleS.f (k : Nat) (l0 : List (S50)) (a1 : Int) : Option (Int × List (S50)) := laws_markRuleS.l0 k l0 a1 0
theorem laws_markRuleS.calls (k : Nat) (P0_ : Nat → Prop) (u9000_ : Value) (l0 : List (S50)) (a1 : Int) (r1 : Int) (r2 : List (S50)) (w0 w : World) (hB : Below w0.heap.size w0 w) (ho0 : Kd.S kRule_ 50 w w0.heap.size P0_ u9000_ l0) (h : laws_markRuleS.f k l0 a1 = some (r1, r2)) :
 Calls Tryz.prog 11 #[u9000_, .int .i64 a1] w fun e w' => e = .returned (.int .i64 r1) ∧ Kd.S kRule_ 50 w' w0.heap.size (fun k_ => (P0_ k_ ∨ w.heap.size ≤ k_)) u9000_ r2 ∧ Below w0.heap.size w0 w' ∧ Kept w w' (fun k_ => P0_ k_) := by
 obtain ⟨A, cap, rfl⟩ := Kd.S_slice ho0; have HO := ak_ (Kd.S_mono ho0 (ok' := fun k_ => (P0_ k_ ∨ w.heap.size ≤ k_)) (fun k_ hk => .inl hk)); have HK := ak_ (Kept.refl w (fun k_ => P0_ k_)); have HB := ak_ hB; have H' := ak_ (show laws_markRuleS.l0 k l0 a1 0 = some (r1, r2) from h); obtain ⟨n, hn⟩ : ∃ n, n = l0.length := ⟨_, rfl⟩
 rw [← hn] at HO ⊢
 have HN := ak_ hn.symm; clear hB ho0 h hn; go_enter Tryz.func11, Tryz.ntmps11
 go_wp2; go_loopg [1, 5] k (fun kq v1 v5 w' => ∃ (x0 : List (S50)) (x1 x5 : Int), v1 = .int .i64 x1 ∧ v5 = .int .i64 x5 ∧ Aside0 (laws_markRuleS.l0 kq x0 x1 x5 = some (r1, r2)) ∧ Aside0 (kq ≤ k) ∧ Aside0 (x0.length = n) ∧ Aside0 (Kd.S kRule_ 50 w' w0.heap.size (fun k_ => (P0_ k_ ∨ w.heap.size ≤ k_)) (.slice A n cap) x0) ∧ Aside0 (Kept w w' (fun k_ => P0_ k_)) ∧ Aside0 (Below w0.heap.size w0 w'))
 case atStart => exact ⟨l0, a1, 0, rfl, rfl, H', ⟨Nat.le_refl _⟩, HN, HO, HK, HB⟩
 case round =>
  clear H' HO HK HB HN; obtain ⟨x0, x1, x5, rfl, rfl, HA, HK1, HN, HO, HK, HB⟩ := hrel; cases gk with
  | zero => exact absurd HA.out (by simp [laws_markRuleS.l0])
  | succ k1 =>
   have H := HA.out; clear HA; simp only [laws_markRuleS.l0] at H
   rw [HN.out] at H; replace H := ite_ H; rcases H with ⟨c3, H⟩ | ⟨c3, H⟩
   ·replace H := itn_ H; obtain ⟨c5, H⟩ := H; obtain ⟨⟨q2, b2⟩, A5, H⟩ := Option.bind_eq_some_iff.mp H; obtain ⟨⟨q3, b3⟩, A6, H⟩ := Option.bind_eq_some_iff.mp H; have H' := ak_ (show laws_markRuleS.l0 k1 (x0.set x5.toNat ⟨b2, b3⟩) q3 (wrap64 (x5 + 1)) = some (r1, r2) from H); clear H; replace A5 := ak_ A5; replace A6 := ak_ A6; obtain ⟨g, cap', eo, hg1, hg2, cells, hcells⟩ := Kd.S_form HO.out (by have := HN.out; omega)
    injection eo with ea_ en_ ec_
    subst ea_; clear ec_ en_ hcells cells cap'; have HG := ak_ hg1; clear hg1 hg2; have p := c5; have q := c3; have c3b0 := decide_eq_true c3; have P := ak_ c5; have Q := ak_ c3; replace p := eq_true p; replace q := eq_true q; clear c3 c5; obtain ⟨u5, ok5, ha0, hf0, hq5, hR5, hback5⟩ := rule_lend0_ HO.out x5 P.out Q.out (fun k_ h_ => .inr (Nat.le_trans HK.out.1 h_)); have HQ5 := ak_ hq5; have HR5 := ak_ hR5; have HK5b := ak_ hback5; clear hq5 hR5 hback5; go_wp2_with (first | (go_at_call 24; (with_reducible refine (laws_markPartSS.calls k1 ok5 u5 _ x1 q2 b2 w0 _ bel_ (kdS_ HR5.out) A5.out).mono ?_); rintro e w5 ⟨rfl, hr5, hb5, hk5⟩; have HO5 := ak_ (HK5b.out _ _ hk5 hr5); have HK6 := ak_ (Kept.then_ HK.out hk5 (fun k_ h_ => HQ5.out k_ h_)); have HB5 := ak_ hb5; clear HO HK HB HR5 HK5b HQ5 hr5 hb5 hk5 ha0 hf0; obtain ⟨u6, ok6, ha0, hf0, hq6, hR6, hback6⟩ := rule_lend1_ HO5.out x5 P.out Q.out (fun k_ h_ => .inr (Nat.le_trans HK6.out.1 h_)); have HQ6 := ak_ hq6; have HR6 := ak_ hR6; have HK6b := ak_ hback6; clear hq6 hR6 hback6) | (go_at_call 25; (with_reducible refine (laws_markDeclS.calls k1 ok6 u6 _ q2 q3 b3 w0 _ (by repeat (first | (with_reducible first | exact HB5.out | apply below_alloc | apply pw_below_drewN | apply below_drew1) | exact HB5.out)) (kdR_ HR6.out) ?a6).mono ?_); (case a6 => rw [rd_set_rule_ x0 x5 _ P.out (by rw [HN.out]; exact Q.out)]; exact A6.out); rintro e w7 ⟨rfl, hr7, hb7, hk7⟩; have HO7 := ak_ (HK6b.out _ _ hk7 hr7); have HK8 := ak_ (Kept.then_ HK6.out hk7 (fun k_ h_ => HQ6.out k_ h_)); have HB7 := ak_ hb7; clear HO5 HK6 HB5 HR6 HK6b HQ6 hr7 hb7 hk7 ha0 hf0))
    go_roundg k1
    case measure => have := HK1.out; omega
    case rel =>
     refine ⟨x0.set x5.toNat ⟨b2, b3⟩, q3, wrap64 (x5 + 1), rfl, rfl, H', ⟨by have := HK1.out; omega⟩, ⟨by rw [List.length_set]; exact HN.out⟩, ⟨?_⟩, HK8, HB7⟩
     have h9 := HO7.out; rw [rd_set_rule_ x0 x5 _ P.out (by rw [HN.out]; exact Q.out), List.set_set] at h9
     exact h9
   ·have c3b0 := decide_eq_false c3; clear c3; simp only [Option.some.injEq, Prod.mk.injEq] at H
    obtain ⟨rfl, rfl⟩ := H; go_wp2; go_ret
    exact ⟨rfl, HO.out, HB.out, HK.out⟩

/-! ### laws_heldStringS: function 69 -/
def laws_heldStringS.l0 : Nat → List ByteArray → Int → Int → Option (Int)
 | 0, _, _, _ => none
 | k + 1, x0, x1, x5 => if x5 < (x0.length : Int) then (if 0 ≤ x5 then ((laws_markText.f k x1).bind fun t448 => (if (rdOf ByteArray.empty x0 x5).toList = t448.toList then (laws_heldStringS.l0 k x0 (wrap64 (x1 + 1)) (wrap64 (x5 + 1))) else (some (-1)))) else (none)) else (some x1)
def laws_heldStringS.f (k : Nat) (l0 : List ByteArray) (a1 : Int) : Option (Int) := laws_heldStringS.l0 k l0 a1 0
theorem laws_heldStringS.calls (k : Nat) (A0 : Option Addr) (c0 : Nat) (l0 : List ByteArray) (a1 : Int) (r : Int) (w : World) (hr0 : Kd.C Kd.string w A0 l0.length l0) (hc0 : l0.length ≤ c0) (h : laws_heldStringS.f k l0 a1 = some r) :
  Calls Tryz.prog 69 #[.slice A0 l0.length c0, .int .i64 a1] w fun e w' => e = .returned (.int .i64 r) ∧ Below w.heap.size w w' := by
 have HR0 := ak_ hr0; have HC0 := ak_ hc0; clear hr0 hc0; have HB := ak_ (Below.refl w.heap.size w); have H := h; unfold laws_heldStringS.f at H
 clear h; have H' := ak_ H; clear H; go_enter Tryz.func69, Tryz.ntmps69
 go_wp2; go_loopg [1, 5] k (fun kq v1 v5 w' => ∃ (x1_1 : Int) (x5_1 : Int), v1 = .int .i64 x1_1 ∧ v5 = .int .i64 x5_1 ∧ Aside0 (laws_heldStringS.l0 kq l0 x1_1 x5_1 = some r) ∧ Aside0 (kq ≤ k) ∧ Aside0 (Below w.heap.size w w'))
 case atStart => exact ⟨(a1), (0), sv_, sv_, H', ⟨Nat.le_refl _⟩, ⟨bel_⟩⟩
 case round =>
  clear H'; (try clear p2)
  obtain ⟨x1_1, x5_1, rfl, rfl, HA, HK1, HB⟩ := hrel; cases gk with
  | zero => exact absurd HA.out (by simp [laws_heldStringS.l0])
  | succ k1 =>
   have H := HA.out; clear HA; simp only [laws_heldStringS.l0] at H
   replace H := ied_ H; rcases H with ⟨c3b0, H⟩ | ⟨c3b0, H⟩
   ·replace H := itd_ H; obtain ⟨c4b0, H⟩ := H; replace H := bnd_ H; obtain ⟨t448, A5, H⟩ := H; replace H := ite_ H; rcases H with ⟨c6, H⟩ | ⟨c6, H⟩
    ·have c6b0 := beq_iff_eq.mpr c6; have c6b1 := bne_eq_false_iff_eq.mpr c6; clear c6; have H' := ak_ H; clear H; try go_wp2
     replace HB := ak_ (below_drew1 HB.out); have p447 : 0 ≤ (x5_1 : Int) := oda_
     have q447 : x5_1 < (l0.length : Int) := oda_
     obtain ⟨ad447, e447, hx447_0⟩ := Kd.at_string HR0.out x5_1 p447 q447; have hw447_0 := hx447_0; cases e447; replace hx447_0 := pb_ HB hx447_0; replace p447 := eq_true p447; replace q447 := eq_true q447; refine start_ (n := 7) (S := fun w' => w'.cell? (ad447.add (x5_1).toNat) = some (.string (rdOf ByteArray.empty l0 x5_1))) (ds := []) #[false, false, false, false, false, false, false] (by kernel_rfl) rfl rfl ((pb_ HB hw447_0)) (fun hHeld => ?_)
     generalize wr.drew = w7 at HB hx447_0 hHeld ⊢
     refine tkp_ 0 (some 12) #[true, false, false, false, false, false, false] (by kernel_rfl) ?_
     refine tkp_ 1 (some 13) #[true, true, false, false, false, false, false] (by kernel_rfl) ?_
     refine tkp_ 2 (some 14) #[true, true, true, false, false, false, false] (by kernel_rfl) ?_
     refine tkp_ 4 (some 16) #[true, true, true, false, true, false, false] (by kernel_rfl) ?_
     refine take_ (i := 3) (N := some 15) (v := ?_) (a' := ?_) #[true, true, true, true, true, false, false] rfl rfl (by kernel_rfl) (fun _ _ _ h => h) (Or.inl ⟨by rfl, ?_⟩) hHeld ?_ ?_
     rotate_left
     ·intro w' s0; go_simp
      with_reducible rfl
     rotate_left
     ·simp only [Act.put, List.setIfInBounds_toArray, List.set_cons_zero, List.set_cons_succ, i64_w, i32_w]
      rfl
     refine one_ (i := 5) (N := some 17) #[true, true, true, true, true, true, false] rfl rfl (by kernel_rfl) (by decide) (fun K hK => ?_)
     refine goes_ Tryz.func22 (by kernel_rfl) rfl #[.int .i64 x1_1] (by rfl) rfl rfl au_ ?_
     with_reducible refine (laws_markText.calls k1 x1_1 t448 _ A5.out).mono ?_
     rintro e w8 ⟨rfl, hb⟩; refine ⟨_, rfl, ?_⟩
     replace HB := ak_ (below_step bel_ hb); (try clear hb)
     refine hK.out _ _ ((pb_ HB hw447_0)) (fun hHeld => ?_)
     clear hK K; refine norm_ (a' := ?_) ?_ ?_
     rotate_left
     ·show Act.put _ (some 17) _ = _
      simp only [Act.put, List.setIfInBounds_toArray, List.set_cons_zero, List.set_cons_succ, i64_w, i32_w]
      rfl
     refine tkp_ 6 (some 18) #[true, true, true, true, true, true, true] (by kernel_rfl) ?_
     refine done_ (by kernel_rfl) ?_
     try go_wp2
     go_roundg k1
     case measure => have := HK1.out; omega
     case rel => exact ⟨(wrap64 (x1_1 + 1)), (wrap64 (x5_1 + 1)), sv_, sv_, H', ⟨by have := HK1.out; omega⟩, ⟨bel_⟩⟩
    ·have c6b0 := beq_eq_false_iff_ne.mpr c6; have c6b1 := bne_iff_ne.mpr c6; obtain rfl := Option.some.inj H
     try go_wp2
     replace HB := ak_ (below_drew1 HB.out); have p447 : 0 ≤ (x5_1 : Int) := oda_
     have q447 : x5_1 < (l0.length : Int) := oda_
     obtain ⟨ad447, e447, hx447_0⟩ := Kd.at_string HR0.out x5_1 p447 q447; have hw447_0 := hx447_0; cases e447; replace hx447_0 := pb_ HB hx447_0; replace p447 := eq_true p447; replace q447 := eq_true q447; refine start_ (n := 7) (S := fun w' => w'.cell? (ad447.add (x5_1).toNat) = some (.string (rdOf ByteArray.empty l0 x5_1))) (ds := []) #[false, false, false, false, false, false, false] (by kernel_rfl) rfl rfl ((pb_ HB hw447_0)) (fun hHeld => ?_)
     generalize wr.drew = w9 at HB hx447_0 hHeld ⊢
     refine tkp_ 0 (some 12) #[true, false, false, false, false, false, false] (by kernel_rfl) ?_
     refine tkp_ 1 (some 13) #[true, true, false, false, false, false, false] (by kernel_rfl) ?_
     refine tkp_ 2 (some 14) #[true, true, true, false, false, false, false] (by kernel_rfl) ?_
     refine tkp_ 4 (some 16) #[true, true, true, false, true, false, false] (by kernel_rfl) ?_
     refine take_ (i := 3) (N := some 15) (v := ?_) (a' := ?_) #[true, true, true, true, true, false, false] rfl rfl (by kernel_rfl) (fun _ _ _ h => h) (Or.inl ⟨by rfl, ?_⟩) hHeld ?_ ?_
     rotate_left
     ·intro w' s0; go_simp
      with_reducible rfl
     rotate_left
     ·simp only [Act.put, List.setIfInBounds_toArray, List.set_cons_zero, List.set_cons_succ, i64_w, i32_w]
      rfl
     refine one_ (i := 5) (N := some 17) #[true, true, true, true, true, true, false] rfl rfl (by kernel_rfl) (by decide) (fun K hK => ?_)
     refine goes_ Tryz.func22 (by kernel_rfl) rfl #[.int .i64 x1_1] (by rfl) rfl rfl au_ ?_
     with_reducible refine (laws_markText.calls k1 x1_1 t448 _ A5.out).mono ?_
     rintro e w10 ⟨rfl, hb⟩; refine ⟨_, rfl, ?_⟩
     replace HB := ak_ (below_step bel_ hb); (try clear hb)
     refine hK.out _ _ ((pb_ HB hw447_0)) (fun hHeld => ?_)
     clear hK K; refine norm_ (a' := ?_) ?_ ?_
     rotate_left
     ·show Act.put _ (some 17) _ = _
      simp only [Act.put, List.setIfInBounds_toArray, List.set_cons_zero, List.set_cons_succ, i64_w, i32_w]
      rfl
     refine tkp_ 6 (some 18) #[true, true, true, true, true, true, true] (by kernel_rfl) ?_
     refine done_ (by kernel_rfl) ?_
     try go_wp2
     go_ret
     exact ⟨er_, bel_⟩
   ·obtain rfl := Option.some.inj H
    go_wp2; go_ret
    exact ⟨er_, bel_⟩

/-! ### laws_heldPartS: function 50 -/
def laws_heldPartS.l0 : Nat → List (S102) → Int → Int → Option (Int)
 | 0, _, _, _ => none
 | k + 1, x0, x1, x5 => if x5 < (x0.length : Int) then (if 0 ≤ x5 then ((laws_markText.f k x1).bind fun t450 => (if ((rd_T102 x0 x5).f0).toList = t450.toList then ((laws_markText.f k (wrap64 (x1 + 1))).bind fun t452 => (if ((rd_T102 x0 x5).f1).toList = t452.toList then ((laws_heldStringS.f k ((rd_T102 x0 x5).f2) (wrap64 ((wrap64 (x1 + 1)) + 1))).bind fun t454 => (if t454 < 0 then (some (-1)) else (laws_heldPartS.l0 k x0 t454 (wrap64 (x5 + 1))))) else (some (-1)))) else (some (-1)))) else (none)) else (some x1)
def laws_heldPartS.f (k : Nat) (l0 : List (S102)) (a1 : Int) : Option (Int) := laws_heldPartS.l0 k l0 a1 0
def laws_heldPartS.T4 : Bool × List (List Nat × List Nat) := (true, [([], []), ([], []), ([0, 1], [0, 1]), ([2], [2]), ([3], [3]), ([], []), ([5], [5]), ([4, 6], [4, 6])])
def laws_heldPartS.B4 : List Nat := [0, 0, 3, 7, 15, 0, 32, 127]
theorem laws_heldPartS.tab4 : rtab .any (opsOf Tryz.f50 4) = laws_heldPartS.T4 := by kernel_rfl
theorem laws_heldPartS.bits4 : waitsOk laws_heldPartS.T4.2 laws_heldPartS.B4 = true := by kernel_rfl
def laws_heldPartS.T7 : Bool × List (List Nat × List Nat) := (true, [([], []), ([], []), ([0, 1], [0, 1]), ([2], [2]), ([3], [3]), ([], []), ([5], [5]), ([4, 6], [4, 6])])
def laws_heldPartS.B7 : List Nat := [0, 0, 3, 7, 15, 0, 32, 127]
theorem laws_heldPartS.tab7 : rtab .any (opsOf Tryz.f50 7) = laws_heldPartS.T7 := by kernel_rfl
theorem laws_heldPartS.bits7 : waitsOk laws_heldPartS.T7.2 laws_heldPartS.B7 = true := by kernel_rfl
theorem laws_heldPartS.calls (k : Nat) (A0 : Option Addr) (c0 : Nat) (l0 : List (S102)) (a1 : Int) (r : Int) (w : World) (hr0 : Kd.C k102 w A0 l0.length l0) (hc0 : l0.length ≤ c0) (h : laws_heldPartS.f k l0 a1 = some r) :
  Calls Tryz.prog 50 #[.slice A0 l0.length c0, .int .i64 a1] w fun e w' => e = .returned (.int .i64 r) ∧ Below w.heap.size w w' := by
 have HR0 := ak_ hr0; have HC0 := ak_ hc0; clear hr0 hc0; have HB := ak_ (Below.refl w.heap.size w); have H := h; unfold laws_heldPartS.f at H
 clear h; have H' := ak_ H; clear H; go_enter Tryz.func50, Tryz.ntmps50
 go_wp2; go_loopg [1, 5] k (fun kq v1 v5 w' => ∃ (x1_1 : Int) (x5_1 : Int), v1 = .int .i64 x1_1 ∧ v5 = .int .i64 x5_1 ∧ Aside0 (laws_heldPartS.l0 kq l0 x1_1 x5_1 = some r) ∧ Aside0 (kq ≤ k) ∧ Aside0 (Below w.heap.size w w'))
 case atStart => exact ⟨(a1), (0), sv_, sv_, H', ⟨Nat.le_refl _⟩, ⟨bel_⟩⟩
 case round =>
  clear H'; (try clear p2)
  obtain ⟨x1_1, x5_1, rfl, rfl, HA, HK1, HB⟩ := hrel; cases gk with
  | zero => exact absurd HA.out (by simp [laws_heldPartS.l0])
  | succ k1 =>
   have H := HA.out; clear HA; simp only [laws_heldPartS.l0] at H
   replace H := ied_ H; rcases H with ⟨c3b0, H⟩ | ⟨c3b0, H⟩
   ·replace H := itd_ H; obtain ⟨c4b0, H⟩ := H; replace H := bnd_ H; obtain ⟨t450, A5, H⟩ := H; replace H := ite_ H; rcases H with ⟨c6, H⟩ | ⟨c6, H⟩
    ·have c6b0 := beq_iff_eq.mpr c6; have c6b1 := bne_eq_false_iff_eq.mpr c6; clear c6; replace H := bnd_ H; obtain ⟨t452, A7, H⟩ := H; replace H := ite_ H; rcases H with ⟨c8, H⟩ | ⟨c8, H⟩
     ·have c8b0 := beq_iff_eq.mpr c8; have c8b1 := bne_eq_false_iff_eq.mpr c8; clear c8; replace H := bnd_ H; obtain ⟨t454, A9, H⟩ := H; have HHc10 := ak_ H; clear H; try go_wp2
      replace HB := ak_ (below_drew1 HB.out); have p449 : (0 ≤ (x5_1 : Int)) = True := odt_
      have q449 : (x5_1 < (l0.length : Int)) = True := odt_
      obtain ⟨ad449, A449_2, c449_2, e449, hx449_0, hx449_1, hx449_2, hl449_2, hi449_2⟩ := at_T102 HR0.out x5_1 oda_ oda_; have hw449_2 := hx449_2; have hw449_1 := hx449_1; have hw449_0 := hx449_0; cases e449; replace hx449_0 := pb_ HB hx449_0; replace hx449_1 := pb_ HB hx449_1; replace hx449_2 := pb_ HB hx449_2; have HR449_2 := ak_ hi449_2; have HC449_2 := ak_ hl449_2; clear hi449_2 hl449_2; refine start_ (n := 8) (S := fun w' => w'.cell? (ad449.add ((x5_1).toNat * 3)) = some (.string ((rd_T102 l0 x5_1).f0)) ∧ w'.cell? ⟨(ad449.add ((x5_1).toNat * 3)).block, (ad449.add ((x5_1).toNat * 3)).off + 1, none⟩ = some (.string ((rd_T102 l0 x5_1).f1)) ∧ w'.cell? ⟨(ad449.add ((x5_1).toNat * 3)).block, (ad449.add ((x5_1).toNat * 3)).off + 2, none⟩ = some (.slice A449_2 ((rd_T102 l0 x5_1).f2).length c449_2)) (ds := []) #[false, false, false, false, false, false, false, false] (by kernel_rfl) rfl rfl ⟨(pb_ HB hw449_0), (pb_ HB hw449_1), (pb_ HB hw449_2)⟩ (fun hHeld => ?_); refine with_tabW laws_heldPartS.tab4 laws_heldPartS.bits4 (fun HT_ HW_ => ?_)
      generalize wr.drew = w11 at HB HR449_2 hx449_0 hx449_1 hx449_2 hHeld ⊢
      refine tkp_ 0 (some 12) #[true, false, false, false, false, false, false, false] (any_of HT_.out (by kernel_rfl)) ?_
      refine tkp_ 1 (some 13) #[true, true, false, false, false, false, false, false] (any_of HT_.out (by kernel_rfl)) ?_
      refine tkp_ 2 (some 14) #[true, true, true, false, false, false, false, false] (any_of HT_.out (by kernel_rfl)) ?_
      refine tkp_ 3 (some 15) #[true, true, true, true, false, false, false, false] (any_of HT_.out (by kernel_rfl)) ?_
      refine tkp_ 5 (some 17) #[true, true, true, true, false, true, false, false] (any_of HT_.out (by kernel_rfl)) ?_
      refine tkt_ 4 (some 16) #[true, true, true, true, true, true, false, false] (take_ofW HT_.out HW_.out (by kernel_rfl)) hHeld ?_
      refine one_ (i := 6) (N := some 18) #[true, true, true, true, true, true, true, false] rfl rfl (one_of HT_.out (by kernel_rfl)) (by decide) (fun K hK => ?_)
      refine goes_ Tryz.func22 (by kernel_rfl) rfl #[.int .i64 x1_1] (by rfl) rfl rfl au_ ?_
      with_reducible refine (laws_markText.calls k1 x1_1 t450 _ A5.out).mono ?_
      rintro e w12 ⟨rfl, hb⟩; refine ⟨_, rfl, ?_⟩
      replace HB := ak_ (below_step bel_ hb); (try clear hb)
      refine hK.out _ _ ⟨(pb_ HB hw449_0), (pb_ HB hw449_1), (pb_ HB hw449_2)⟩ (fun hHeld => ?_)
      clear hK K; refine norm_ (a' := ?_) ?_ ?_
      rotate_left
      ·show Act.put _ (some 18) _ = _
       simp only [Act.put, List.setIfInBounds_toArray, List.set_cons_zero, List.set_cons_succ, i64_w, i32_w]
       rfl
      refine tkp_ 7 (some 19) #[true, true, true, true, true, true, true, true] (any_of HT_.out (by kernel_rfl)) ?_
      refine done_ (done_of HT_.out (by kernel_rfl)) ?_
      try go_wp2
      replace HB := ak_ (below_drew1 HB.out); have p451 : (0 ≤ (x5_1 : Int)) = True := odt_
      have q451 : (x5_1 < (l0.length : Int)) = True := odt_
      obtain ⟨ad451, A451_2, c451_2, e451, hx451_0, hx451_1, hx451_2, hl451_2, hi451_2⟩ := at_T102 HR0.out x5_1 oda_ oda_; (try (have e9_ := hx451_2.symm.trans hw449_2; simp only [Option.some.injEq, Value.slice.injEq, true_and, and_true] at e9_; obtain ⟨rfl, rfl⟩ := e9_))
      have hw451_2 := hx451_2; have hw451_1 := hx451_1; have hw451_0 := hx451_0; obtain rfl : ad449 = ad451 := (by injection e451)
      replace hx451_0 := pb_ HB hx451_0; replace hx451_1 := pb_ HB hx451_1; replace hx451_2 := pb_ HB hx451_2; have HR451_2 := ak_ hi451_2; have HC451_2 := ak_ hl451_2; clear hi451_2 hl451_2; refine start_ (n := 8) (S := fun w' => w'.cell? (ad449.add ((x5_1).toNat * 3)) = some (.string ((rd_T102 l0 x5_1).f0)) ∧ w'.cell? ⟨(ad449.add ((x5_1).toNat * 3)).block, (ad449.add ((x5_1).toNat * 3)).off + 1, none⟩ = some (.string ((rd_T102 l0 x5_1).f1)) ∧ w'.cell? ⟨(ad449.add ((x5_1).toNat * 3)).block, (ad449.add ((x5_1).toNat * 3)).off + 2, none⟩ = some (.slice A451_2 ((rd_T102 l0 x5_1).f2).length c451_2)) (ds := []) #[false, false, false, false, false, false, false, false] (by kernel_rfl) rfl rfl ⟨(pb_ HB hw451_0), (pb_ HB hw451_1), (pb_ HB hw451_2)⟩ (fun hHeld => ?_); refine with_tabW laws_heldPartS.tab7 laws_heldPartS.bits7 (fun HT_ HW_ => ?_)
      generalize w12.drew = w13 at HB HR451_2 hx451_0 hx451_1 hx451_2 hHeld ⊢
      refine tkp_ 0 (some 22) #[true, false, false, false, false, false, false, false] (any_of HT_.out (by kernel_rfl)) ?_
      refine tkp_ 1 (some 23) #[true, true, false, false, false, false, false, false] (any_of HT_.out (by kernel_rfl)) ?_
      refine tkp_ 2 (some 24) #[true, true, true, false, false, false, false, false] (any_of HT_.out (by kernel_rfl)) ?_
      refine tkp_ 3 (some 25) #[true, true, true, true, false, false, false, false] (any_of HT_.out (by kernel_rfl)) ?_
      refine tkp_ 5 (some 27) #[true, true, true, true, false, true, false, false] (any_of HT_.out (by kernel_rfl)) ?_
      refine tkt_ 4 (some 26) #[true, true, true, true, true, true, false, false] (take_ofW HT_.out HW_.out (by kernel_rfl)) hHeld ?_
      refine one_ (i := 6) (N := some 28) #[true, true, true, true, true, true, true, false] rfl rfl (one_of HT_.out (by kernel_rfl)) (by decide) (fun K hK => ?_)
      refine goes_ Tryz.func22 (by kernel_rfl) rfl #[.int .i64 (wrap64 (x1_1 + 1))] (by rfl) rfl rfl au_ ?_
      with_reducible refine (laws_markText.calls k1 (wrap64 (x1_1 + 1)) t452 _ A7.out).mono ?_
      rintro e w14 ⟨rfl, hb⟩; refine ⟨_, rfl, ?_⟩
      replace HB := ak_ (below_step bel_ hb); (try clear hb)
      refine hK.out _ _ ⟨(pb_ HB hw451_0), (pb_ HB hw451_1), (pb_ HB hw451_2)⟩ (fun hHeld => ?_)
      clear hK K; refine norm_ (a' := ?_) ?_ ?_
      rotate_left
      ·show Act.put _ (some 28) _ = _
       simp only [Act.put, List.setIfInBounds_toArray, List.set_cons_zero, List.set_cons_succ, i64_w, i32_w]
       rfl
      refine tkp_ 7 (some 29) #[true, true, true, true, true, true, true, true] (any_of HT_.out (by kernel_rfl)) ?_
      refine done_ (done_of HT_.out (by kernel_rfl)) ?_
      have p453 : (0 ≤ (x5_1 : Int)) = True := odt_
      have q453 : (x5_1 < (l0.length : Int)) = True := odt_
      obtain ⟨ad453, A453_2, c453_2, e453, hx453_0, hx453_1, hx453_2, hl453_2, hi453_2⟩ := at_T102 HR0.out x5_1 oda_ oda_; obtain rfl : ad449 = ad453 := (by injection e453)
      (try (have e9_ := hx453_2.symm.trans hw451_2; simp only [Option.some.injEq, Value.slice.injEq, true_and, and_true] at e9_; obtain ⟨rfl, rfl⟩ := e9_))
      replace hx453_0 := pb_ HB hx453_0; replace hx453_1 := pb_ HB hx453_1; replace hx453_2 := pb_ HB hx453_2; have HR453_2 := ak_ hi453_2; have HC453_2 := ak_ hl453_2; clear hi453_2 hl453_2; by_cases c10 : t454 < 0
      ·have H := HHc10.out; clear HHc10; rw [if_pos c10] at H; have c10b0 := decide_eq_true c10; clear c10; obtain rfl := Option.some.inj H
       try go_wp2_with (first | ((with_reducible refine gate_callee (f := 69) rfl ?_); refine gl_ (some 38) Tryz.func69 #[.slice A453_2 ((rd_T102 l0 x5_1).f2).length c453_2, .int .i64 (wrap64 ((wrap64 (x1_1 + 1)) + 1))] ?_; (with_reducible refine (laws_heldStringS.calls k1 _ _ ((rd_T102 l0 x5_1).f2) (wrap64 ((wrap64 (x1_1 + 1)) + 1)) t454 _ ?side1 ?side2 A9.out).mono ?_); (case side1 => exact cs_ (Kd.C_below HR453_2.out HB.out)); (case side2 => exact HC453_2.out); rintro e w15 ⟨rfl, hb⟩; refine ⟨_, rfl, ?_⟩; replace HB := ak_ (below_step bel_ hb); (try clear hb);(try clear hb2);(try clear hk);(try clear hi)))
       go_ret
       exact ⟨er_, bel_⟩
      ·have H := HHc10.out; clear HHc10; rw [if_neg c10] at H; have c10b0 := decide_eq_false c10; clear c10; have H' := ak_ H; clear H; try go_wp2_with (first | ((with_reducible refine gate_callee (f := 69) rfl ?_); refine gl_ (some 38) Tryz.func69 #[.slice A453_2 ((rd_T102 l0 x5_1).f2).length c453_2, .int .i64 (wrap64 ((wrap64 (x1_1 + 1)) + 1))] ?_; (with_reducible refine (laws_heldStringS.calls k1 _ _ ((rd_T102 l0 x5_1).f2) (wrap64 ((wrap64 (x1_1 + 1)) + 1)) t454 _ ?side1 ?side2 A9.out).mono ?_); (case side1 => exact cs_ (Kd.C_below HR453_2.out HB.out)); (case side2 => exact HC453_2.out); rintro e w15 ⟨rfl, hb⟩; refine ⟨_, rfl, ?_⟩; replace HB := ak_ (below_step bel_ hb); (try clear hb);(try clear hb2);(try clear hk);(try clear hi)))
       go_roundg k1
       case measure => have := HK1.out; omega
       case rel => exact ⟨(t454), (wrap64 (x5_1 + 1)), sv_, sv_, H', ⟨by have := HK1.out; omega⟩, ⟨bel_⟩⟩
     ·have c8b0 := beq_eq_false_iff_ne.mpr c8; have c8b1 := bne_iff_ne.mpr c8; obtain rfl := Option.some.inj H
      try go_wp2
      replace HB := ak_ (below_drew1 HB.out); have p449 : (0 ≤ (x5_1 : Int)) = True := odt_
      have q449 : (x5_1 < (l0.length : Int)) = True := odt_
      obtain ⟨ad449, A449_2, c449_2, e449, hx449_0, hx449_1, hx449_2, hl449_2, hi449_2⟩ := at_T102 HR0.out x5_1 oda_ oda_; have hw449_2 := hx449_2; have hw449_1 := hx449_1; have hw449_0 := hx449_0; cases e449; replace hx449_0 := pb_ HB hx449_0; replace hx449_1 := pb_ HB hx449_1; replace hx449_2 := pb_ HB hx449_2; have HR449_2 := ak_ hi449_2; have HC449_2 := ak_ hl449_2; clear hi449_2 hl449_2; refine start_ (n := 8) (S := fun w' => w'.cell? (ad449.add ((x5_1).toNat * 3)) = some (.string ((rd_T102 l0 x5_1).f0)) ∧ w'.cell? ⟨(ad449.add ((x5_1).toNat * 3)).block, (ad449.add ((x5_1).toNat * 3)).off + 1, none⟩ = some (.string ((rd_T102 l0 x5_1).f1)) ∧ w'.cell? ⟨(ad449.add ((x5_1).toNat * 3)).block, (ad449.add ((x5_1).toNat * 3)).off + 2, none⟩ = some (.slice A449_2 ((rd_T102 l0 x5_1).f2).length c449_2)) (ds := []) #[false, false, false, false, false, false, false, false] (by kernel_rfl) rfl rfl ⟨(pb_ HB hw449_0), (pb_ HB hw449_1), (pb_ HB hw449_2)⟩ (fun hHeld => ?_); refine with_tabW laws_heldPartS.tab4 laws_heldPartS.bits4 (fun HT_ HW_ => ?_)
      generalize wr.drew = w21 at HB HR449_2 hx449_0 hx449_1 hx449_2 hHeld ⊢
      refine tkp_ 0 (some 12) #[true, false, false, false, false, false, false, false] (any_of HT_.out (by kernel_rfl)) ?_
      refine tkp_ 1 (some 13) #[true, true, false, false, false, false, false, false] (any_of HT_.out (by kernel_rfl)) ?_
      refine tkp_ 2 (some 14) #[true, true, true, false, false, false, false, false] (any_of HT_.out (by kernel_rfl)) ?_
      refine tkp_ 3 (some 15) #[true, true, true, true, false, false, false, false] (any_of HT_.out (by kernel_rfl)) ?_
      refine tkp_ 5 (some 17) #[true, true, true, true, false, true, false, false] (any_of HT_.out (by kernel_rfl)) ?_
      refine tkt_ 4 (some 16) #[true, true, true, true, true, true, false, false] (take_ofW HT_.out HW_.out (by kernel_rfl)) hHeld ?_
      refine one_ (i := 6) (N := some 18) #[true, true, true, true, true, true, true, false] rfl rfl (one_of HT_.out (by kernel_rfl)) (by decide) (fun K hK => ?_)
      refine goes_ Tryz.func22 (by kernel_rfl) rfl #[.int .i64 x1_1] (by rfl) rfl rfl au_ ?_
      with_reducible refine (laws_markText.calls k1 x1_1 t450 _ A5.out).mono ?_
      rintro e w22 ⟨rfl, hb⟩; refine ⟨_, rfl, ?_⟩
      replace HB := ak_ (below_step bel_ hb); (try clear hb)
      refine hK.out _ _ ⟨(pb_ HB hw449_0), (pb_ HB hw449_1), (pb_ HB hw449_2)⟩ (fun hHeld => ?_)
      clear hK K; refine norm_ (a' := ?_) ?_ ?_
      rotate_left
      ·show Act.put _ (some 18) _ = _
       simp only [Act.put, List.setIfInBounds_toArray, List.set_cons_zero, List.set_cons_succ, i64_w, i32_w]
       rfl
      refine tkp_ 7 (some 19) #[true, true, true, true, true, true, true, true] (any_of HT_.out (by kernel_rfl)) ?_
      refine done_ (done_of HT_.out (by kernel_rfl)) ?_
      try go_wp2
      replace HB := ak_ (below_drew1 HB.out); have p451 : (0 ≤ (x5_1 : Int)) = True := odt_
      have q451 : (x5_1 < (l0.length : Int)) = True := odt_
      obtain ⟨ad451, A451_2, c451_2, e451, hx451_0, hx451_1, hx451_2, hl451_2, hi451_2⟩ := at_T102 HR0.out x5_1 oda_ oda_; (try (have e9_ := hx451_2.symm.trans hw449_2; simp only [Option.some.injEq, Value.slice.injEq, true_and, and_true] at e9_; obtain ⟨rfl, rfl⟩ := e9_))
      have hw451_2 := hx451_2; have hw451_1 := hx451_1; have hw451_0 := hx451_0; obtain rfl : ad449 = ad451 := (by injection e451)
      replace hx451_0 := pb_ HB hx451_0; replace hx451_1 := pb_ HB hx451_1; replace hx451_2 := pb_ HB hx451_2; have HR451_2 := ak_ hi451_2; have HC451_2 := ak_ hl451_2; clear hi451_2 hl451_2; refine start_ (n := 8) (S := fun w' => w'.cell? (ad449.add ((x5_1).toNat * 3)) = some (.string ((rd_T102 l0 x5_1).f0)) ∧ w'.cell? ⟨(ad449.add ((x5_1).toNat * 3)).block, (ad449.add ((x5_1).toNat * 3)).off + 1, none⟩ = some (.string ((rd_T102 l0 x5_1).f1)) ∧ w'.cell? ⟨(ad449.add ((x5_1).toNat * 3)).block, (ad449.add ((x5_1).toNat * 3)).off + 2, none⟩ = some (.slice A451_2 ((rd_T102 l0 x5_1).f2).length c451_2)) (ds := []) #[false, false, false, false, false, false, false, false] (by kernel_rfl) rfl rfl ⟨(pb_ HB hw451_0), (pb_ HB hw451_1), (pb_ HB hw451_2)⟩ (fun hHeld => ?_); refine with_tabW laws_heldPartS.tab7 laws_heldPartS.bits7 (fun HT_ HW_ => ?_)
      generalize w22.drew = w23 at HB HR451_2 hx451_0 hx451_1 hx451_2 hHeld ⊢
      refine tkp_ 0 (some 22) #[true, false, false, false, false, false, false, false] (any_of HT_.out (by kernel_rfl)) ?_
      refine tkp_ 1 (some 23) #[true, true, false, false, false, false, false, false] (any_of HT_.out (by kernel_rfl)) ?_
      refine tkp_ 2 (some 24) #[true, true, true, false, false, false, false, false] (any_of HT_.out (by kernel_rfl)) ?_
      refine tkp_ 3 (some 25) #[true, true, true, true, false, false, false, false] (any_of HT_.out (by kernel_rfl)) ?_
      refine tkp_ 5 (some 27) #[true, true, true, true, false, true, false, false] (any_of HT_.out (by kernel_rfl)) ?_
      refine tkt_ 4 (some 26) #[true, true, true, true, true, true, false, false] (take_ofW HT_.out HW_.out (by kernel_rfl)) hHeld ?_
      refine one_ (i := 6) (N := some 28) #[true, true, true, true, true, true, true, false] rfl rfl (one_of HT_.out (by kernel_rfl)) (by decide) (fun K hK => ?_)
      refine goes_ Tryz.func22 (by kernel_rfl) rfl #[.int .i64 (wrap64 (x1_1 + 1))] (by rfl) rfl rfl au_ ?_
      with_reducible refine (laws_markText.calls k1 (wrap64 (x1_1 + 1)) t452 _ A7.out).mono ?_
      rintro e w24 ⟨rfl, hb⟩; refine ⟨_, rfl, ?_⟩
      replace HB := ak_ (below_step bel_ hb); (try clear hb)
      refine hK.out _ _ ⟨(pb_ HB hw451_0), (pb_ HB hw451_1), (pb_ HB hw451_2)⟩ (fun hHeld => ?_)
      clear hK K; refine norm_ (a' := ?_) ?_ ?_
      rotate_left
      ·show Act.put _ (some 28) _ = _
       simp only [Act.put, List.setIfInBounds_toArray, List.set_cons_zero, List.set_cons_succ, i64_w, i32_w]
       rfl
      refine tkp_ 7 (some 29) #[true, true, true, true, true, true, true, true] (any_of HT_.out (by kernel_rfl)) ?_
      refine done_ (done_of HT_.out (by kernel_rfl)) ?_
      try go_wp2
      go_ret
      exact ⟨er_, bel_⟩
    ·have c6b0 := beq_eq_false_iff_ne.mpr c6; have c6b1 := bne_iff_ne.mpr c6; obtain rfl := Option.some.inj H
     try go_wp2
     replace HB := ak_ (below_drew1 HB.out); have p449 : (0 ≤ (x5_1 : Int)) = True := odt_
     have q449 : (x5_1 < (l0.length : Int)) = True := odt_
     obtain ⟨ad449, A449_2, c449_2, e449, hx449_0, hx449_1, hx449_2, hl449_2, hi449_2⟩ := at_T102 HR0.out x5_1 oda_ oda_; have hw449_2 := hx449_2; have hw449_1 := hx449_1; have hw449_0 := hx449_0; cases e449; replace hx449_0 := pb_ HB hx449_0; replace hx449_1 := pb_ HB hx449_1; replace hx449_2 := pb_ HB hx449_2; have HR449_2 := ak_ hi449_2; have HC449_2 := ak_ hl449_2; clear hi449_2 hl449_2; refine start_ (n := 8) (S := fun w' => w'.cell? (ad449.add ((x5_1).toNat * 3)) = some (.string ((rd_T102 l0 x5_1).f0)) ∧ w'.cell? ⟨(ad449.add ((x5_1).toNat * 3)).block, (ad449.add ((x5_1).toNat * 3)).off + 1, none⟩ = some (.string ((rd_T102 l0 x5_1).f1)) ∧ w'.cell? ⟨(ad449.add ((x5_1).toNat * 3)).block, (ad449.add ((x5_1).toNat * 3)).off + 2, none⟩ = some (.slice A449_2 ((rd_T102 l0 x5_1).f2).length c449_2)) (ds := []) #[false, false, false, false, false, false, false, false] (by kernel_rfl) rfl rfl ⟨(pb_ HB hw449_0), (pb_ HB hw449_1), (pb_ HB hw449_2)⟩ (fun hHeld => ?_); refine with_tabW laws_heldPartS.tab4 laws_heldPartS.bits4 (fun HT_ HW_ => ?_)
     generalize wr.drew = w25 at HB HR449_2 hx449_0 hx449_1 hx449_2 hHeld ⊢
     refine tkp_ 0 (some 12) #[true, false, false, false, false, false, false, false] (any_of HT_.out (by kernel_rfl)) ?_
     refine tkp_ 1 (some 13) #[true, true, false, false, false, false, false, false] (any_of HT_.out (by kernel_rfl)) ?_
     refine tkp_ 2 (some 14) #[true, true, true, false, false, false, false, false] (any_of HT_.out (by kernel_rfl)) ?_
     refine tkp_ 3 (some 15) #[true, true, true, true, false, false, false, false] (any_of HT_.out (by kernel_rfl)) ?_
     refine tkp_ 5 (some 17) #[true, true, true, true, false, true, false, false] (any_of HT_.out (by kernel_rfl)) ?_
     refine tkt_ 4 (some 16) #[true, true, true, true, true, true, false, false] (take_ofW HT_.out HW_.out (by kernel_rfl)) hHeld ?_
     refine one_ (i := 6) (N := some 18) #[true, true, true, true, true, true, true, false] rfl rfl (one_of HT_.out (by kernel_rfl)) (by decide) (fun K hK => ?_)
     refine goes_ Tryz.func22 (by kernel_rfl) rfl #[.int .i64 x1_1] (by rfl) rfl rfl au_ ?_
     with_reducible refine (laws_markText.calls k1 x1_1 t450 _ A5.out).mono ?_
     rintro e w26 ⟨rfl, hb⟩; refine ⟨_, rfl, ?_⟩
     replace HB := ak_ (below_step bel_ hb); (try clear hb)
     refine hK.out _ _ ⟨(pb_ HB hw449_0), (pb_ HB hw449_1), (pb_ HB hw449_2)⟩ (fun hHeld => ?_)
     clear hK K; refine norm_ (a' := ?_) ?_ ?_
     rotate_left
     ·show Act.put _ (some 18) _ = _
      simp only [Act.put, List.setIfInBounds_toArray, List.set_cons_zero, List.set_cons_succ, i64_w, i32_w]
      rfl
     refine tkp_ 7 (some 19) #[true, true, true, true, true, true, true, true] (any_of HT_.out (by kernel_rfl)) ?_
     refine done_ (done_of HT_.out (by kernel_rfl)) ?_
     try go_wp2
     go_ret
     exact ⟨er_, bel_⟩
   ·obtain rfl := Option.some.inj H
    go_wp2; go_ret
    exact ⟨er_, bel_⟩

/-! ### laws_heldPartSS: function 26 -/
def laws_heldPartSS.l0 : Nat → List (List (S102)) → Int → Int → Option (Int)
 | 0, _, _, _ => none
 | k + 1, x0, x1, x5 => if x5 < (x0.length : Int) then (if 0 ≤ x5 then ((laws_heldPartS.f k (rd_L12 x0 x5) x1).bind fun t456 => (if t456 < 0 then (some (-1)) else (laws_heldPartSS.l0 k x0 t456 (wrap64 (x5 + 1))))) else (none)) else (some x1)
def laws_heldPartSS.f (k : Nat) (l0 : List (List (S102))) (a1 : Int) : Option (Int) := laws_heldPartSS.l0 k l0 a1 0
theorem laws_heldPartSS.calls (k : Nat) (A0 : Option Addr) (c0 : Nat) (l0 : List (List (S102))) (a1 : Int) (r : Int) (w : World) (hr0 : Kd.C (Kd.slice 102 k102) w A0 l0.length l0) (hc0 : l0.length ≤ c0) (h : laws_heldPartSS.f k l0 a1 = some r) :
  Calls Tryz.prog 26 #[.slice A0 l0.length c0, .int .i64 a1] w fun e w' => e = .returned (.int .i64 r) ∧ Below w.heap.size w w' := by
 have HR0 := ak_ hr0; have HC0 := ak_ hc0; clear hr0 hc0; have HB := ak_ (Below.refl w.heap.size w); have H := h; unfold laws_heldPartSS.f at H
 clear h; have H' := ak_ H; clear H; go_enter Tryz.func26, Tryz.ntmps26
 go_wp2; go_loopg [1, 5] k (fun kq v1 v5 w' => ∃ (x1_1 : Int) (x5_1 : Int), v1 = .int .i64 x1_1 ∧ v5 = .int .i64 x5_1 ∧ Aside0 (laws_heldPartSS.l0 kq l0 x1_1 x5_1 = some r) ∧ Aside0 (kq ≤ k) ∧ Aside0 (Below w.heap.size w w'))
 case atStart => exact ⟨(a1), (0), sv_, sv_, H', ⟨Nat.le_refl _⟩, ⟨bel_⟩⟩
 case round =>
  clear H'; obtain ⟨x1_1, x5_1, rfl, rfl, HA, HK1, HB⟩ := hrel; cases gk with
  | zero => exact absurd HA.out (by simp [laws_heldPartSS.l0])
  | succ k1 =>
   have H := HA.out; clear HA; simp only [laws_heldPartSS.l0] at H
   replace H := ied_ H; rcases H with ⟨c3b0, H⟩ | ⟨c3b0, H⟩
   ·replace H := itd_ H; obtain ⟨c4b0, H⟩ := H; replace H := bnd_ H; obtain ⟨t456, A5, H⟩ := H; replace H := ied_ H; rcases H with ⟨c6b0, H⟩ | ⟨c6b0, H⟩
    ·obtain rfl := Option.some.inj H
     have p455 : (0 ≤ (x5_1 : Int)) = True := odt_
     have q455 : (x5_1 < (l0.length : Int)) = True := odt_
     obtain ⟨ad455, A455_0, c455_0, e455, hx455_0, hl455_0, hi455_0⟩ := at_L12 HR0.out x5_1 oda_ oda_; cases e455; replace hx455_0 := pb_ HB hx455_0; have HR455_0 := ak_ hi455_0; have HC455_0 := ak_ hl455_0; clear hi455_0 hl455_0; go_wp2_with (first | ((with_reducible refine gate_callee (f := 50) rfl ?_); refine gl_ (some 17) Tryz.func50 #[.slice A455_0 (rd_L12 l0 x5_1).length c455_0, .int .i64 x1_1] ?_; (with_reducible refine (laws_heldPartS.calls k1 _ _ (rd_L12 l0 x5_1) x1_1 t456 _ ?side1 ?side2 A5.out).mono ?_); (case side1 => exact cs_ (Kd.C_below HR455_0.out HB.out)); (case side2 => exact HC455_0.out); rintro e w7 ⟨rfl, hb⟩; refine ⟨_, rfl, ?_⟩; replace HB := ak_ (below_step bel_ hb); (try clear hb);(try clear hb2);(try clear hk);(try clear hi)))
     go_ret
     exact ⟨er_, bel_⟩
    ·have H' := ak_ H; clear H; have p455 : (0 ≤ (x5_1 : Int)) = True := odt_
     have q455 : (x5_1 < (l0.length : Int)) = True := odt_
     obtain ⟨ad455, A455_0, c455_0, e455, hx455_0, hl455_0, hi455_0⟩ := at_L12 HR0.out x5_1 oda_ oda_; cases e455; replace hx455_0 := pb_ HB hx455_0; have HR455_0 := ak_ hi455_0; have HC455_0 := ak_ hl455_0; clear hi455_0 hl455_0; go_wp2_with (first | ((with_reducible refine gate_callee (f := 50) rfl ?_); refine gl_ (some 17) Tryz.func50 #[.slice A455_0 (rd_L12 l0 x5_1).length c455_0, .int .i64 x1_1] ?_; (with_reducible refine (laws_heldPartS.calls k1 _ _ (rd_L12 l0 x5_1) x1_1 t456 _ ?side1 ?side2 A5.out).mono ?_); (case side1 => exact cs_ (Kd.C_below HR455_0.out HB.out)); (case side2 => exact HC455_0.out); rintro e w8 ⟨rfl, hb⟩; refine ⟨_, rfl, ?_⟩; replace HB := ak_ (below_step bel_ hb); (try clear hb);(try clear hb2);(try clear hk);(try clear hi)))
     go_roundg k1
     case measure => have := HK1.out; omega
     case rel => exact ⟨(t456), (wrap64 (x5_1 + 1)), sv_, sv_, H', ⟨by have := HK1.out; omega⟩, ⟨bel_⟩⟩
   ·obtain rfl := Option.some.inj H
    go_wp2; go_ret
    exact ⟨er_, bel_⟩

/-! ### laws_heldDeclS: function 27 -/
def laws_heldDeclS.l0 : Nat → List (S80) → Int → Int → Option (Int)
 | 0, _, _, _ => none
 | k + 1, x0, x1, x5 => if x5 < (x0.length : Int) then (if 0 ≤ x5 then ((laws_markText.f k x1).bind fun t458 => (if ((rd_T80 x0 x5).f0).toList = t458.toList then ((laws_markText.f k (wrap64 (x1 + 1))).bind fun t460 => (if ((rd_T80 x0 x5).f1).toList = t460.toList then (if (((rd_T80 x0 x5).f2) != ((Int.tmod (wrap64 ((wrap64 (x1 + 1)) + 1)) 3) == 0)) = true then (some (-1)) else (laws_heldDeclS.l0 k x0 (wrap64 ((wrap64 ((wrap64 (x1 + 1)) + 1)) + 1)) (wrap64 (x5 + 1)))) else (some (-1)))) else (some (-1)))) else (none)) else (some x1)
def laws_heldDeclS.f (k : Nat) (l0 : List (S80)) (a1 : Int) : Option (Int) := laws_heldDeclS.l0 k l0 a1 0
def laws_heldDeclS.T4 : Bool × List (List Nat × List Nat) := (true, [([], []), ([], []), ([0, 1], [0, 1]), ([2], [2]), ([3], [3]), ([], []), ([5], [5]), ([4, 6], [4, 6])])
def laws_heldDeclS.B4 : List Nat := [0, 0, 3, 7, 15, 0, 32, 127]
theorem laws_heldDeclS.tab4 : rtab .any (opsOf Tryz.f27 4) = laws_heldDeclS.T4 := by kernel_rfl
theorem laws_heldDeclS.bits4 : waitsOk laws_heldDeclS.T4.2 laws_heldDeclS.B4 = true := by kernel_rfl
def laws_heldDeclS.T7 : Bool × List (List Nat × List Nat) := (true, [([], []), ([], []), ([0, 1], [0, 1]), ([2], [2]), ([3], [3]), ([], []), ([5], [5]), ([4, 6], [4, 6])])
def laws_heldDeclS.B7 : List Nat := [0, 0, 3, 7, 15, 0, 32, 127]
theorem laws_heldDeclS.tab7 : rtab .any (opsOf Tryz.f27 7) = laws_heldDeclS.T7 := by kernel_rfl
theorem laws_heldDeclS.bits7 : waitsOk laws_heldDeclS.T7.2 laws_heldDeclS.B7 = true := by kernel_rfl
theorem laws_heldDeclS.calls (k : Nat) (A0 : Option Addr) (c0 : Nat) (l0 : List (S80)) (a1 : Int) (r : Int) (w : World) (hr0 : Kd.C k80 w A0 l0.length l0) (hc0 : l0.length ≤ c0) (h : laws_heldDeclS.f k l0 a1 = some r) :
  Calls Tryz.prog 27 #[.slice A0 l0.length c0, .int .i64 a1] w fun e w' => e = .returned (.int .i64 r) ∧ Below w.heap.size w w' := by
 have HR0 := ak_ hr0; have HC0 := ak_ hc0; clear hr0 hc0; have HB := ak_ (Below.refl w.heap.size w); have H := h; unfold laws_heldDeclS.f at H
 clear h; have H' := ak_ H; clear H; go_enter Tryz.func27, Tryz.ntmps27
 go_wp2; go_loopg [1, 5] k (fun kq v1 v5 w' => ∃ (x1_1 : Int) (x5_1 : Int), v1 = .int .i64 x1_1 ∧ v5 = .int .i64 x5_1 ∧ Aside0 (laws_heldDeclS.l0 kq l0 x1_1 x5_1 = some r) ∧ Aside0 (kq ≤ k) ∧ Aside0 (Below w.heap.size w w'))
 case atStart => exact ⟨(a1), (0), sv_, sv_, H', ⟨Nat.le_refl _⟩, ⟨bel_⟩⟩
 case round =>
  clear H'; obtain ⟨x1_1, x5_1, rfl, rfl, HA, HK1, HB⟩ := hrel; cases gk with
  | zero => exact absurd HA.out (by simp [laws_heldDeclS.l0])
  | succ k1 =>
   have H := HA.out; clear HA; simp only [laws_heldDeclS.l0] at H
   replace H := ied_ H; rcases H with ⟨c3b0, H⟩ | ⟨c3b0, H⟩
   ·replace H := itd_ H; obtain ⟨c4b0, H⟩ := H; replace H := bnd_ H; obtain ⟨t458, A5, H⟩ := H; replace H := ite_ H; rcases H with ⟨c6, H⟩ | ⟨c6, H⟩
    ·have c6b0 := beq_iff_eq.mpr c6; have c6b1 := bne_eq_false_iff_eq.mpr c6; clear c6; replace H := bnd_ H; obtain ⟨t460, A7, H⟩ := H; replace H := ite_ H; rcases H with ⟨c8, H⟩ | ⟨c8, H⟩
     ·have c8b0 := beq_iff_eq.mpr c8; have c8b1 := bne_eq_false_iff_eq.mpr c8; clear c8; have HHc9 := ak_ H; clear H; try go_wp2
      replace HB := ak_ (below_drew1 HB.out); have p457 : (0 ≤ (x5_1 : Int)) = True := odt_
      have q457 : (x5_1 < (l0.length : Int)) = True := odt_
      obtain ⟨ad457, e457, hx457_0, hx457_1, hx457_2⟩ := at_T80 HR0.out x5_1 oda_ oda_; have hw457_2 := hx457_2; have hw457_1 := hx457_1; have hw457_0 := hx457_0; cases e457; replace hx457_0 := pb_ HB hx457_0; replace hx457_1 := pb_ HB hx457_1; replace hx457_2 := pb_ HB hx457_2; refine start_ (n := 8) (S := fun w' => w'.cell? (ad457.add ((x5_1).toNat * 3)) = some (.string ((rd_T80 l0 x5_1).f0)) ∧ w'.cell? ⟨(ad457.add ((x5_1).toNat * 3)).block, (ad457.add ((x5_1).toNat * 3)).off + 1, none⟩ = some (.string ((rd_T80 l0 x5_1).f1)) ∧ w'.cell? ⟨(ad457.add ((x5_1).toNat * 3)).block, (ad457.add ((x5_1).toNat * 3)).off + 2, none⟩ = some (.bool ((rd_T80 l0 x5_1).f2))) (ds := []) #[false, false, false, false, false, false, false, false] (by kernel_rfl) rfl rfl ⟨(pb_ HB hw457_0), (pb_ HB hw457_1), (pb_ HB hw457_2)⟩ (fun hHeld => ?_); refine with_tabW laws_heldDeclS.tab4 laws_heldDeclS.bits4 (fun HT_ HW_ => ?_)
      generalize wr.drew = w10 at HB hx457_0 hx457_1 hx457_2 hHeld ⊢
      refine tkp_ 0 (some 12) #[true, false, false, false, false, false, false, false] (any_of HT_.out (by kernel_rfl)) ?_
      refine tkp_ 1 (some 13) #[true, true, false, false, false, false, false, false] (any_of HT_.out (by kernel_rfl)) ?_
      refine tkp_ 2 (some 14) #[true, true, true, false, false, false, false, false] (any_of HT_.out (by kernel_rfl)) ?_
      refine tkp_ 3 (some 15) #[true, true, true, true, false, false, false, false] (any_of HT_.out (by kernel_rfl)) ?_
      refine tkp_ 5 (some 17) #[true, true, true, true, false, true, false, false] (any_of HT_.out (by kernel_rfl)) ?_
      refine tkt_ 4 (some 16) #[true, true, true, true, true, true, false, false] (take_ofW HT_.out HW_.out (by kernel_rfl)) hHeld ?_
      refine one_ (i := 6) (N := some 18) #[true, true, true, true, true, true, true, false] rfl rfl (one_of HT_.out (by kernel_rfl)) (by decide) (fun K hK => ?_)
      refine goes_ Tryz.func22 (by kernel_rfl) rfl #[.int .i64 x1_1] (by rfl) rfl rfl au_ ?_
      with_reducible refine (laws_markText.calls k1 x1_1 t458 _ A5.out).mono ?_
      rintro e w11 ⟨rfl, hb⟩; refine ⟨_, rfl, ?_⟩
      replace HB := ak_ (below_step bel_ hb); (try clear hb)
      refine hK.out _ _ ⟨(pb_ HB hw457_0), (pb_ HB hw457_1), (pb_ HB hw457_2)⟩ (fun hHeld => ?_)
      clear hK K; refine norm_ (a' := ?_) ?_ ?_
      rotate_left
      ·show Act.put _ (some 18) _ = _
       simp only [Act.put, List.setIfInBounds_toArray, List.set_cons_zero, List.set_cons_succ, i64_w, i32_w]
       rfl
      refine tkp_ 7 (some 19) #[true, true, true, true, true, true, true, true] (any_of HT_.out (by kernel_rfl)) ?_
      refine done_ (done_of HT_.out (by kernel_rfl)) ?_
      try go_wp2
      replace HB := ak_ (below_drew1 HB.out); have p459 : (0 ≤ (x5_1 : Int)) = True := odt_
      have q459 : (x5_1 < (l0.length : Int)) = True := odt_
      obtain ⟨ad459, e459, hx459_0, hx459_1, hx459_2⟩ := at_T80 HR0.out x5_1 oda_ oda_; have hw459_2 := hx459_2; have hw459_1 := hx459_1; have hw459_0 := hx459_0; obtain rfl : ad457 = ad459 := (by injection e459)
      replace hx459_0 := pb_ HB hx459_0; replace hx459_1 := pb_ HB hx459_1; replace hx459_2 := pb_ HB hx459_2; refine start_ (n := 8) (S := fun w' => w'.cell? (ad457.add ((x5_1).toNat * 3)) = some (.string ((rd_T80 l0 x5_1).f0)) ∧ w'.cell? ⟨(ad457.add ((x5_1).toNat * 3)).block, (ad457.add ((x5_1).toNat * 3)).off + 1, none⟩ = some (.string ((rd_T80 l0 x5_1).f1)) ∧ w'.cell? ⟨(ad457.add ((x5_1).toNat * 3)).block, (ad457.add ((x5_1).toNat * 3)).off + 2, none⟩ = some (.bool ((rd_T80 l0 x5_1).f2))) (ds := []) #[false, false, false, false, false, false, false, false] (by kernel_rfl) rfl rfl ⟨(pb_ HB hw459_0), (pb_ HB hw459_1), (pb_ HB hw459_2)⟩ (fun hHeld => ?_); refine with_tabW laws_heldDeclS.tab7 laws_heldDeclS.bits7 (fun HT_ HW_ => ?_)
      generalize w11.drew = w12 at HB hx459_0 hx459_1 hx459_2 hHeld ⊢
      refine tkp_ 0 (some 22) #[true, false, false, false, false, false, false, false] (any_of HT_.out (by kernel_rfl)) ?_
      refine tkp_ 1 (some 23) #[true, true, false, false, false, false, false, false] (any_of HT_.out (by kernel_rfl)) ?_
      refine tkp_ 2 (some 24) #[true, true, true, false, false, false, false, false] (any_of HT_.out (by kernel_rfl)) ?_
      refine tkp_ 3 (some 25) #[true, true, true, true, false, false, false, false] (any_of HT_.out (by kernel_rfl)) ?_
      refine tkp_ 5 (some 27) #[true, true, true, true, false, true, false, false] (any_of HT_.out (by kernel_rfl)) ?_
      refine tkt_ 4 (some 26) #[true, true, true, true, true, true, false, false] (take_ofW HT_.out HW_.out (by kernel_rfl)) hHeld ?_
      refine one_ (i := 6) (N := some 28) #[true, true, true, true, true, true, true, false] rfl rfl (one_of HT_.out (by kernel_rfl)) (by decide) (fun K hK => ?_)
      refine goes_ Tryz.func22 (by kernel_rfl) rfl #[.int .i64 (wrap64 (x1_1 + 1))] (by rfl) rfl rfl au_ ?_
      with_reducible refine (laws_markText.calls k1 (wrap64 (x1_1 + 1)) t460 _ A7.out).mono ?_
      rintro e w13 ⟨rfl, hb⟩; refine ⟨_, rfl, ?_⟩
      replace HB := ak_ (below_step bel_ hb); (try clear hb)
      refine hK.out _ _ ⟨(pb_ HB hw459_0), (pb_ HB hw459_1), (pb_ HB hw459_2)⟩ (fun hHeld => ?_)
      clear hK K; refine norm_ (a' := ?_) ?_ ?_
      rotate_left
      ·show Act.put _ (some 28) _ = _
       simp only [Act.put, List.setIfInBounds_toArray, List.set_cons_zero, List.set_cons_succ, i64_w, i32_w]
       rfl
      refine tkp_ 7 (some 29) #[true, true, true, true, true, true, true, true] (any_of HT_.out (by kernel_rfl)) ?_
      refine done_ (done_of HT_.out (by kernel_rfl)) ?_
      have p461 : (0 ≤ (x5_1 : Int)) = True := odt_
      have q461 : (x5_1 < (l0.length : Int)) = True := odt_
      obtain ⟨ad461, e461, hx461_0, hx461_1, hx461_2⟩ := at_T80 HR0.out x5_1 oda_ oda_; obtain rfl : ad457 = ad461 := (by injection e461)
      replace hx461_0 := pb_ HB hx461_0; replace hx461_1 := pb_ HB hx461_1; replace hx461_2 := pb_ HB hx461_2; by_cases c9 : (((rd_T80 l0 x5_1).f2) != ((Int.tmod (wrap64 ((wrap64 (x1_1 + 1)) + 1)) 3) == 0)) = true
      ·have H := HHc9.out; clear HHc9; rw [if_pos c9] at H; have c9b0 : (((rd_T80 l0 x5_1).f2) != ((Int.tmod (wrap64 ((wrap64 (x1_1 + 1)) + 1)) 3) == 0)) = true := c9
       (try (have c9b1 : decide (((rd_T80 l0 x5_1).f2) = ((Int.tmod (wrap64 ((wrap64 (x1_1 + 1)) + 1)) 3) == 0)) = false := by simpa using c9))
       (try (have c9b2 : (((rd_T80 l0 x5_1).f2) == ((Int.tmod (wrap64 ((wrap64 (x1_1 + 1)) + 1)) 3) == 0)) = false := by simpa using c9))
       (try (have c9b3 : ¬ (((rd_T80 l0 x5_1).f2) = ((Int.tmod (wrap64 ((wrap64 (x1_1 + 1)) + 1)) 3) == 0)) := by simpa using c9))
       clear c9; obtain rfl := Option.some.inj H
       try go_wp2
       go_ret
       exact ⟨er_, bel_⟩
      ·have H := HHc9.out; clear HHc9; rw [if_neg c9] at H; have c9b0 : (((rd_T80 l0 x5_1).f2) != ((Int.tmod (wrap64 ((wrap64 (x1_1 + 1)) + 1)) 3) == 0)) = false := by simpa using c9
       (try (have c9b1 : decide (((rd_T80 l0 x5_1).f2) = ((Int.tmod (wrap64 ((wrap64 (x1_1 + 1)) + 1)) 3) == 0)) = true := by simpa using c9))
       (try (have c9b2 : (((rd_T80 l0 x5_1).f2) == ((Int.tmod (wrap64 ((wrap64 (x1_1 + 1)) + 1)) 3) == 0)) = true := by simpa using c9))
       clear c9; have H' := ak_ H; clear H; try go_wp2
       go_roundg k1
       case measure => have := HK1.out; omega
       case rel => exact ⟨(wrap64 ((wrap64 ((wrap64 (x1_1 + 1)) + 1)) + 1)), (wrap64 (x5_1 + 1)), sv_, sv_, H', ⟨by have := HK1.out; omega⟩, ⟨bel_⟩⟩
     ·have c8b0 := beq_eq_false_iff_ne.mpr c8; have c8b1 := bne_iff_ne.mpr c8; obtain rfl := Option.some.inj H
      try go_wp2
      replace HB := ak_ (below_drew1 HB.out); have p457 : (0 ≤ (x5_1 : Int)) = True := odt_
      have q457 : (x5_1 < (l0.length : Int)) = True := odt_
      obtain ⟨ad457, e457, hx457_0, hx457_1, hx457_2⟩ := at_T80 HR0.out x5_1 oda_ oda_; have hw457_2 := hx457_2; have hw457_1 := hx457_1; have hw457_0 := hx457_0; cases e457; replace hx457_0 := pb_ HB hx457_0; replace hx457_1 := pb_ HB hx457_1; replace hx457_2 := pb_ HB hx457_2; refine start_ (n := 8) (S := fun w' => w'.cell? (ad457.add ((x5_1).toNat * 3)) = some (.string ((rd_T80 l0 x5_1).f0)) ∧ w'.cell? ⟨(ad457.add ((x5_1).toNat * 3)).block, (ad457.add ((x5_1).toNat * 3)).off + 1, none⟩ = some (.string ((rd_T80 l0 x5_1).f1)) ∧ w'.cell? ⟨(ad457.add ((x5_1).toNat * 3)).block, (ad457.add ((x5_1).toNat * 3)).off + 2, none⟩ = some (.bool ((rd_T80 l0 x5_1).f2))) (ds := []) #[false, false, false, false, false, false, false, false] (by kernel_rfl) rfl rfl ⟨(pb_ HB hw457_0), (pb_ HB hw457_1), (pb_ HB hw457_2)⟩ (fun hHeld => ?_); refine with_tabW laws_heldDeclS.tab4 laws_heldDeclS.bits4 (fun HT_ HW_ => ?_)
      generalize wr.drew = w18 at HB hx457_0 hx457_1 hx457_2 hHeld ⊢
      refine tkp_ 0 (some 12) #[true, false, false, false, false, false, false, false] (any_of HT_.out (by kernel_rfl)) ?_
      refine tkp_ 1 (some 13) #[true, true, false, false, false, false, false, false] (any_of HT_.out (by kernel_rfl)) ?_
      refine tkp_ 2 (some 14) #[true, true, true, false, false, false, false, false] (any_of HT_.out (by kernel_rfl)) ?_
      refine tkp_ 3 (some 15) #[true, true, true, true, false, false, false, false] (any_of HT_.out (by kernel_rfl)) ?_
      refine tkp_ 5 (some 17) #[true, true, true, true, false, true, false, false] (any_of HT_.out (by kernel_rfl)) ?_
      refine tkt_ 4 (some 16) #[true, true, true, true, true, true, false, false] (take_ofW HT_.out HW_.out (by kernel_rfl)) hHeld ?_
      refine one_ (i := 6) (N := some 18) #[true, true, true, true, true, true, true, false] rfl rfl (one_of HT_.out (by kernel_rfl)) (by decide) (fun K hK => ?_)
      refine goes_ Tryz.func22 (by kernel_rfl) rfl #[.int .i64 x1_1] (by rfl) rfl rfl au_ ?_
      with_reducible refine (laws_markText.calls k1 x1_1 t458 _ A5.out).mono ?_
      rintro e w19 ⟨rfl, hb⟩; refine ⟨_, rfl, ?_⟩
      replace HB := ak_ (below_step bel_ hb); (try clear hb)
      refine hK.out _ _ ⟨(pb_ HB hw457_0), (pb_ HB hw457_1), (pb_ HB hw457_2)⟩ (fun hHeld => ?_)
      clear hK K; refine norm_ (a' := ?_) ?_ ?_
      rotate_left
      ·show Act.put _ (some 18) _ = _
       simp only [Act.put, List.setIfInBounds_toArray, List.set_cons_zero, List.set_cons_succ, i64_w, i32_w]
       rfl
      refine tkp_ 7 (some 19) #[true, true, true, true, true, true, true, true] (any_of HT_.out (by kernel_rfl)) ?_
      refine done_ (done_of HT_.out (by kernel_rfl)) ?_
      try go_wp2
      replace HB := ak_ (below_drew1 HB.out); have p459 : (0 ≤ (x5_1 : Int)) = True := odt_
      have q459 : (x5_1 < (l0.length : Int)) = True := odt_
      obtain ⟨ad459, e459, hx459_0, hx459_1, hx459_2⟩ := at_T80 HR0.out x5_1 oda_ oda_; have hw459_2 := hx459_2; have hw459_1 := hx459_1; have hw459_0 := hx459_0; obtain rfl : ad457 = ad459 := (by injection e459)
      replace hx459_0 := pb_ HB hx459_0; replace hx459_1 := pb_ HB hx459_1; replace hx459_2 := pb_ HB hx459_2; refine start_ (n := 8) (S := fun w' => w'.cell? (ad457.add ((x5_1).toNat * 3)) = some (.string ((rd_T80 l0 x5_1).f0)) ∧ w'.cell? ⟨(ad457.add ((x5_1).toNat * 3)).block, (ad457.add ((x5_1).toNat * 3)).off + 1, none⟩ = some (.string ((rd_T80 l0 x5_1).f1)) ∧ w'.cell? ⟨(ad457.add ((x5_1).toNat * 3)).block, (ad457.add ((x5_1).toNat * 3)).off + 2, none⟩ = some (.bool ((rd_T80 l0 x5_1).f2))) (ds := []) #[false, false, false, false, false, false, false, false] (by kernel_rfl) rfl rfl ⟨(pb_ HB hw459_0), (pb_ HB hw459_1), (pb_ HB hw459_2)⟩ (fun hHeld => ?_); refine with_tabW laws_heldDeclS.tab7 laws_heldDeclS.bits7 (fun HT_ HW_ => ?_)
      generalize w19.drew = w20 at HB hx459_0 hx459_1 hx459_2 hHeld ⊢
      refine tkp_ 0 (some 22) #[true, false, false, false, false, false, false, false] (any_of HT_.out (by kernel_rfl)) ?_
      refine tkp_ 1 (some 23) #[true, true, false, false, false, false, false, false] (any_of HT_.out (by kernel_rfl)) ?_
      refine tkp_ 2 (some 24) #[true, true, true, false, false, false, false, false] (any_of HT_.out (by kernel_rfl)) ?_
      refine tkp_ 3 (some 25) #[true, true, true, true, false, false, false, false] (any_of HT_.out (by kernel_rfl)) ?_
      refine tkp_ 5 (some 27) #[true, true, true, true, false, true, false, false] (any_of HT_.out (by kernel_rfl)) ?_
      refine tkt_ 4 (some 26) #[true, true, true, true, true, true, false, false] (take_ofW HT_.out HW_.out (by kernel_rfl)) hHeld ?_
      refine one_ (i := 6) (N := some 28) #[true, true, true, true, true, true, true, false] rfl rfl (one_of HT_.out (by kernel_rfl)) (by decide) (fun K hK => ?_)
      refine goes_ Tryz.func22 (by kernel_rfl) rfl #[.int .i64 (wrap64 (x1_1 + 1))] (by rfl) rfl rfl au_ ?_
      with_reducible refine (laws_markText.calls k1 (wrap64 (x1_1 + 1)) t460 _ A7.out).mono ?_
      rintro e w21 ⟨rfl, hb⟩; refine ⟨_, rfl, ?_⟩
      replace HB := ak_ (below_step bel_ hb); (try clear hb)
      refine hK.out _ _ ⟨(pb_ HB hw459_0), (pb_ HB hw459_1), (pb_ HB hw459_2)⟩ (fun hHeld => ?_)
      clear hK K; refine norm_ (a' := ?_) ?_ ?_
      rotate_left
      ·show Act.put _ (some 28) _ = _
       simp only [Act.put, List.setIfInBounds_toArray, List.set_cons_zero, List.set_cons_succ, i64_w, i32_w]
       rfl
      refine tkp_ 7 (some 29) #[true, true, true, true, true, true, true, true] (any_of HT_.out (by kernel_rfl)) ?_
      refine done_ (done_of HT_.out (by kernel_rfl)) ?_
      try go_wp2
      go_ret
      exact ⟨er_, bel_⟩
    ·have c6b0 := beq_eq_false_iff_ne.mpr c6; have c6b1 := bne_iff_ne.mpr c6; obtain rfl := Option.some.inj H
     try go_wp2
     replace HB := ak_ (below_drew1 HB.out); have p457 : (0 ≤ (x5_1 : Int)) = True := odt_
     have q457 : (x5_1 < (l0.length : Int)) = True := odt_
     obtain ⟨ad457, e457, hx457_0, hx457_1, hx457_2⟩ := at_T80 HR0.out x5_1 oda_ oda_; have hw457_2 := hx457_2; have hw457_1 := hx457_1; have hw457_0 := hx457_0; cases e457; replace hx457_0 := pb_ HB hx457_0; replace hx457_1 := pb_ HB hx457_1; replace hx457_2 := pb_ HB hx457_2; refine start_ (n := 8) (S := fun w' => w'.cell? (ad457.add ((x5_1).toNat * 3)) = some (.string ((rd_T80 l0 x5_1).f0)) ∧ w'.cell? ⟨(ad457.add ((x5_1).toNat * 3)).block, (ad457.add ((x5_1).toNat * 3)).off + 1, none⟩ = some (.string ((rd_T80 l0 x5_1).f1)) ∧ w'.cell? ⟨(ad457.add ((x5_1).toNat * 3)).block, (ad457.add ((x5_1).toNat * 3)).off + 2, none⟩ = some (.bool ((rd_T80 l0 x5_1).f2))) (ds := []) #[false, false, false, false, false, false, false, false] (by kernel_rfl) rfl rfl ⟨(pb_ HB hw457_0), (pb_ HB hw457_1), (pb_ HB hw457_2)⟩ (fun hHeld => ?_); refine with_tabW laws_heldDeclS.tab4 laws_heldDeclS.bits4 (fun HT_ HW_ => ?_)
     generalize wr.drew = w22 at HB hx457_0 hx457_1 hx457_2 hHeld ⊢
     refine tkp_ 0 (some 12) #[true, false, false, false, false, false, false, false] (any_of HT_.out (by kernel_rfl)) ?_
     refine tkp_ 1 (some 13) #[true, true, false, false, false, false, false, false] (any_of HT_.out (by kernel_rfl)) ?_
     refine tkp_ 2 (some 14) #[true, true, true, false, false, false, false, false] (any_of HT_.out (by kernel_rfl)) ?_
     refine tkp_ 3 (some 15) #[true, true, true, true, false, false, false, false] (any_of HT_.out (by kernel_rfl)) ?_
     refine tkp_ 5 (some 17) #[true, true, true, true, false, true, false, false] (any_of HT_.out (by kernel_rfl)) ?_
     refine tkt_ 4 (some 16) #[true, true, true, true, true, true, false, false] (take_ofW HT_.out HW_.out (by kernel_rfl)) hHeld ?_
     refine one_ (i := 6) (N := some 18) #[true, true, true, true, true, true, true, false] rfl rfl (one_of HT_.out (by kernel_rfl)) (by decide) (fun K hK => ?_)
     refine goes_ Tryz.func22 (by kernel_rfl) rfl #[.int .i64 x1_1] (by rfl) rfl rfl au_ ?_
     with_reducible refine (laws_markText.calls k1 x1_1 t458 _ A5.out).mono ?_
     rintro e w23 ⟨rfl, hb⟩; refine ⟨_, rfl, ?_⟩
     replace HB := ak_ (below_step bel_ hb); (try clear hb)
     refine hK.out _ _ ⟨(pb_ HB hw457_0), (pb_ HB hw457_1), (pb_ HB hw457_2)⟩ (fun hHeld => ?_)
     clear hK K; refine norm_ (a' := ?_) ?_ ?_
     rotate_left
     ·show Act.put _ (some 18) _ = _
      simp only [Act.put, List.setIfInBounds_toArray, List.set_cons_zero, List.set_cons_succ, i64_w, i32_w]
      rfl
     refine tkp_ 7 (some 19) #[true, true, true, true, true, true, true, true] (any_of HT_.out (by kernel_rfl)) ?_
     refine done_ (done_of HT_.out (by kernel_rfl)) ?_
     try go_wp2
     go_ret
     exact ⟨er_, bel_⟩
   ·obtain rfl := Option.some.inj H
    go_wp2; go_ret
    exact ⟨er_, bel_⟩

/-! ### laws_heldRuleS: function 12 -/
def laws_heldRuleS.l0 : Nat → List (S50) → Int → Int → Option (Int)
 | 0, _, _, _ => none
 | k + 1, x0, x1, x5 => if x5 < (x0.length : Int) then (if 0 ≤ x5 then ((laws_heldPartSS.f k ((rd_T50 x0 x5).f0) x1).bind fun t463 => (if t463 < 0 then (some (-1)) else ((laws_heldDeclS.f k ((rd_T50 x0 x5).f1) t463).bind fun t465 => (if t465 < 0 then (some (-1)) else (laws_heldRuleS.l0 k x0 t465 (wrap64 (x5 + 1))))))) else (none)) else (some x1)
def laws_heldRuleS.f (k : Nat) (l0 : List (S50)) (a1 : Int) : Option (Int) := laws_heldRuleS.l0 k l0 a1 0
theorem laws_heldRuleS.calls (k : Nat) (A0 : Option Addr) (c0 : Nat) (l0 : List (S50)) (a1 : Int) (r : Int) (w : World) (hr0 : Kd.C k50 w A0 l0.length l0) (hc0 : l0.length ≤ c0) (h : laws_heldRuleS.f k l0 a1 = some r) :
  Calls Tryz.prog 12 #[.slice A0 l0.length c0, .int .i64 a1] w fun e w' => e = .returned (.int .i64 r) ∧ Below w.heap.size w w' := by
 have HR0 := ak_ hr0; have HC0 := ak_ hc0; clear hr0 hc0; have HB := ak_ (Below.refl w.heap.size w); have H := h; unfold laws_heldRuleS.f at H
 clear h; have H' := ak_ H; clear H; go_enter Tryz.func12, Tryz.ntmps12
 go_wp2; go_loopg [1, 5] k (fun kq v1 v5 w' => ∃ (x1_1 : Int) (x5_1 : Int), v1 = .int .i64 x1_1 ∧ v5 = .int .i64 x5_1 ∧ Aside0 (laws_heldRuleS.l0 kq l0 x1_1 x5_1 = some r) ∧ Aside0 (kq ≤ k) ∧ Aside0 (Below w.heap.size w w'))
 case atStart => exact ⟨(a1), (0), sv_, sv_, H', ⟨Nat.le_refl _⟩, ⟨bel_⟩⟩
 case round =>
  clear H'; obtain ⟨x1_1, x5_1, rfl, rfl, HA, HK1, HB⟩ := hrel; cases gk with
  | zero => exact absurd HA.out (by simp [laws_heldRuleS.l0])
  | succ k1 =>
   have H := HA.out; clear HA; simp only [laws_heldRuleS.l0] at H
   replace H := ied_ H; rcases H with ⟨c3b0, H⟩ | ⟨c3b0, H⟩
   ·replace H := itd_ H; obtain ⟨c4b0, H⟩ := H; replace H := bnd_ H; obtain ⟨t463, A5, H⟩ := H; replace H := ied_ H; rcases H with ⟨c6b0, H⟩ | ⟨c6b0, H⟩
    ·obtain rfl := Option.some.inj H
     have p462 : (0 ≤ (x5_1 : Int)) = True := odt_
     have q462 : (x5_1 < (l0.length : Int)) = True := odt_
     obtain ⟨ad462, A462_0, c462_0, A462_1, c462_1, e462, hx462_0, hx462_1, hl462_0, hi462_0, hl462_1, hi462_1⟩ := at_T50 HR0.out x5_1 oda_ oda_; cases e462; replace hx462_0 := pb_ HB hx462_0; replace hx462_1 := pb_ HB hx462_1; have HR462_0 := ak_ hi462_0; have HC462_0 := ak_ hl462_0; clear hi462_0 hl462_0; have HR462_1 := ak_ hi462_1; have HC462_1 := ak_ hl462_1; clear hi462_1 hl462_1; go_wp2_with (first | ((with_reducible refine gate_callee (f := 26) rfl ?_); refine gl_ (some 18) Tryz.func26 #[.slice A462_0 ((rd_T50 l0 x5_1).f0).length c462_0, .int .i64 x1_1] ?_; (with_reducible refine (laws_heldPartSS.calls k1 _ _ ((rd_T50 l0 x5_1).f0) x1_1 t463 _ ?side1 ?side2 A5.out).mono ?_); (case side1 => exact cs_ (Kd.C_below HR462_0.out HB.out)); (case side2 => exact HC462_0.out); rintro e w7 ⟨rfl, hb⟩; refine ⟨_, rfl, ?_⟩; replace HB := ak_ (below_step bel_ hb); (try clear hb);(try clear hb2);(try clear hk);(try clear hi)))
     go_ret
     exact ⟨er_, bel_⟩
    ·replace H := bnd_ H; obtain ⟨t465, A8, H⟩ := H; replace H := ied_ H; rcases H with ⟨c9b0, H⟩ | ⟨c9b0, H⟩
     ·obtain rfl := Option.some.inj H
      have p462 : (0 ≤ (x5_1 : Int)) = True := odt_
      have q462 : (x5_1 < (l0.length : Int)) = True := odt_
      obtain ⟨ad462, A462_0, c462_0, A462_1, c462_1, e462, hx462_0, hx462_1, hl462_0, hi462_0, hl462_1, hi462_1⟩ := at_T50 HR0.out x5_1 oda_ oda_; cases e462; replace hx462_0 := pb_ HB hx462_0; replace hx462_1 := pb_ HB hx462_1; have HR462_0 := ak_ hi462_0; have HC462_0 := ak_ hl462_0; clear hi462_0 hl462_0; have HR462_1 := ak_ hi462_1; have HC462_1 := ak_ hl462_1; clear hi462_1 hl462_1; go_wp2_with (first | ((with_reducible refine gate_callee (f := 26) rfl ?_); refine gl_ (some 18) Tryz.func26 #[.slice A462_0 ((rd_T50 l0 x5_1).f0).length c462_0, .int .i64 x1_1] ?_; (with_reducible refine (laws_heldPartSS.calls k1 _ _ ((rd_T50 l0 x5_1).f0) x1_1 t463 _ ?side1 ?side2 A5.out).mono ?_); (case side1 => exact cs_ (Kd.C_below HR462_0.out HB.out)); (case side2 => exact HC462_0.out); rintro e w10 ⟨rfl, hb⟩; refine ⟨_, rfl, ?_⟩; replace HB := ak_ (below_step bel_ hb); (try clear hb);(try clear hb2);(try clear hk);(try clear hi); have p464 : (0 ≤ (x5_1 : Int)) = True := odt_; have q464 : x5_1 < (l0.length : Int) := oda_; obtain ⟨ad464, A464_0, c464_0, A464_1, c464_1, e464, hx464_0, hx464_1, hl464_0, hi464_0, hl464_1, hi464_1⟩ := at_T50 HR0.out x5_1 oda_ q464; obtain rfl : ad462 = ad464 := (by injection e464); replace hx464_0 := pb_ HB hx464_0; replace hx464_1 := pb_ HB hx464_1; have HR464_0 := ak_ hi464_0; have HC464_0 := ak_ hl464_0; clear hi464_0 hl464_0; have HR464_1 := ak_ hi464_1; have HC464_1 := ak_ hl464_1; clear hi464_1 hl464_1; replace q464 := eq_true q464) | ((with_reducible refine gate_callee (f := 27) rfl ?_); refine gl_ (some 27) Tryz.func27 #[.slice A464_1 ((rd_T50 l0 x5_1).f1).length c464_1, .int .i64 t463] ?_; (with_reducible refine (laws_heldDeclS.calls k1 _ _ ((rd_T50 l0 x5_1).f1) t463 t465 _ ?side1 ?side2 A8.out).mono ?_); (case side1 => exact cs_ (Kd.C_below HR464_1.out HB.out)); (case side2 => exact HC464_1.out); rintro e w11 ⟨rfl, hb⟩; refine ⟨_, rfl, ?_⟩; replace HB := ak_ (below_step bel_ hb); (try clear hb);(try clear hb2);(try clear hk);(try clear hi)))
      go_ret
      exact ⟨er_, bel_⟩
     ·have H' := ak_ H; clear H; have p462 : (0 ≤ (x5_1 : Int)) = True := odt_
      have q462 : (x5_1 < (l0.length : Int)) = True := odt_
      obtain ⟨ad462, A462_0, c462_0, A462_1, c462_1, e462, hx462_0, hx462_1, hl462_0, hi462_0, hl462_1, hi462_1⟩ := at_T50 HR0.out x5_1 oda_ oda_; cases e462; replace hx462_0 := pb_ HB hx462_0; replace hx462_1 := pb_ HB hx462_1; have HR462_0 := ak_ hi462_0; have HC462_0 := ak_ hl462_0; clear hi462_0 hl462_0; have HR462_1 := ak_ hi462_1; have HC462_1 := ak_ hl462_1; clear hi462_1 hl462_1; go_wp2_with (first | ((with_reducible refine gate_callee (f := 26) rfl ?_); refine gl_ (some 18) Tryz.func26 #[.slice A462_0 ((rd_T50 l0 x5_1).f0).length c462_0, .int .i64 x1_1] ?_; (with_reducible refine (laws_heldPartSS.calls k1 _ _ ((rd_T50 l0 x5_1).f0) x1_1 t463 _ ?side1 ?side2 A5.out).mono ?_); (case side1 => exact cs_ (Kd.C_below HR462_0.out HB.out)); (case side2 => exact HC462_0.out); rintro e w12 ⟨rfl, hb⟩; refine ⟨_, rfl, ?_⟩; replace HB := ak_ (below_step bel_ hb); (try clear hb);(try clear hb2);(try clear hk);(try clear hi); have p464 : (0 ≤ (x5_1 : Int)) = True := odt_; have q464 : x5_1 < (l0.length : Int) := oda_; obtain ⟨ad464, A464_0, c464_0, A464_1, c464_1, e464, hx464_0, hx464_1, hl464_0, hi464_0, hl464_1, hi464_1⟩ := at_T50 HR0.out x5_1 oda_ q464; obtain rfl : ad462 = ad464 := (by injection e464); replace hx464_0 := pb_ HB hx464_0; replace hx464_1 := pb_ HB hx464_1; have HR464_0 := ak_ hi464_0; have HC464_0 := ak_ hl464_0; clear hi464_0 hl464_0; have HR464_1 := ak_ hi464_1; have HC464_1 := ak_ hl464_1; clear hi464_1 hl464_1; replace q464 := eq_true q464) | ((with_reducible refine gate_callee (f := 27) rfl ?_); refine gl_ (some 27) Tryz.func27 #[.slice A464_1 ((rd_T50 l0 x5_1).f1).length c464_1, .int .i64 t463] ?_; (with_reducible refine (laws_heldDeclS.calls k1 _ _ ((rd_T50 l0 x5_1).f1) t463 t465 _ ?side1 ?side2 A8.out).mono ?_); (case side1 => exact cs_ (Kd.C_below HR464_1.out HB.out)); (case side2 => exact HC464_1.out); rintro e w13 ⟨rfl, hb⟩; refine ⟨_, rfl, ?_⟩; replace HB := ak_ (below_step bel_ hb); (try clear hb);(try clear hb2);(try clear hk);(try clear hi)))
      go_roundg k1
      case measure => have := HK1.out; omega
      case rel => exact ⟨(t465), (wrap64 (x5_1 + 1)), sv_, sv_, H', ⟨by have := HK1.out; omega⟩, ⟨bel_⟩⟩
   ·obtain rfl := Option.some.inj H
    go_wp2; go_ret
    exact ⟨er_, bel_⟩

/-! ### laws_FnExactSheetIn: function 3 -/
theorem eqRulesN_ {W : World} {b1 b2 : Nat} {ok1 ok2 : Nat → Prop} {v1 v2 : Value} {l1 l2 : List S50} {r : Bool} (k : Nat) (h1 : Kd.S kRule_ 50 W b1 ok1 v1 l1) (h2 : Kd.N k50 50 W b2 ok2 v2 l2) (h : laws_eqRuleS.f k l1 l2 = some r) :
  Calls Tryz.prog 8 #[v1, v2] W fun e w' => e = .returned (.bool r) ∧ Below W.heap.size W w' := by
 obtain ⟨A1, c1, rfl⟩ := Kd.S_slice h1; obtain ⟨A2, c2, rfl⟩ := Kd.N_slice h2; exact laws_eqRuleS.calls k A1 c1 l1 A2 c2 l2 r W (Kd.S_reads' h1).2.2 (Kd.S_reads' h1).2.1 (Kd.N_reads' h2).2.2 (Kd.N_reads' h2).2.1 h
theorem heldRules_ {W : World} {b1 : Nat} {ok1 : Nat → Prop} {v1 : Value} {l1 : List S50} {a r : Int} (k : Nat) (h1 : Kd.S kRule_ 50 W b1 ok1 v1 l1) (h : laws_heldRuleS.f k l1 a = some r) :
  Calls Tryz.prog 12 #[v1, .int .i64 a] W fun e w' => e = .returned (.int .i64 r) ∧ Below W.heap.size W w' := by
 obtain ⟨A1, c1, rfl⟩ := Kd.S_slice h1; exact laws_heldRuleS.calls k A1 c1 l1 a r W (Kd.S_reads' h1).2.2 (Kd.S_reads' h1).2.1 h
theorem eqNodes_ {W : World} {b1 b2 : Nat} {ok1 ok2 : Nat → Prop} {v1 v2 : Value} {l1 l2 : List S40} {r : Bool} (k : Nat) (h1 : Kd.S k40 40 W b1 ok1 v1 l1) (h2 : Kd.S k40 40 W b2 ok2 v2 l2) (h : laws_eqNodeS.f k l1 l2 = some r) :
  Calls Tryz.prog 9 #[v1, v2] W fun e w' => e = .returned (.bool r) ∧ Below W.heap.size W w' := by
 obtain ⟨A1, c1, rfl⟩ := Kd.S_slice h1; obtain ⟨A2, c2, rfl⟩ := Kd.S_slice h2; exact laws_eqNodeS.calls k A1 c1 l1 A2 c2 l2 r W (Kd.S_reads' h1).2.2 (Kd.S_reads' h1).2.1 (Kd.S_reads' h2).2.2 (Kd.S_reads' h2).2.1 h
theorem specIn_ {W : World} {b1 : Nat} {ok1 : Nat → Prop} {v1 : Value} {l1 : List S40} {r : List S50} (k : Nat) (h1 : Kd.S k40 40 W b1 ok1 v1 l1) (h : spec_SheetIn.f k l1 = some r) :
  Calls Tryz.prog 5 #[v1] W fun e w' => ∃ v0_ : Value, e = .returned (v0_) ∧ Kd.N k50 50 w' W.heap.size (fun k_ => (W.heap.size ≤ k_)) v0_ r ∧ Below W.heap.size W w' := by
 obtain ⟨A1, c1, rfl⟩ := Kd.S_slice h1; exact spec_SheetIn.calls k A1 c1 l1 r W (Kd.S_reads' h1).2.2 (Kd.S_reads' h1).2.1 h
theorem implIn_ {W : World} {b1 : Nat} {ok1 : Nat → Prop} {v1 : Value} {l1 : List S40} {r : List S50} (k : Nat) (h1 : Kd.S k40 40 W b1 ok1 v1 l1) (h : impl_SheetIn.f k l1 = some r) (hT_ : U8Tabs_ W) :
  Calls Tryz.prog 7 #[v1] W fun e w' => ∃ v0_ : Value, e = .returned (v0_) ∧ Kd.S kRule_ 50 w' W.heap.size (fun k_ => (W.heap.size ≤ k_)) v0_ r ∧ Below W.heap.size W w' := by
 obtain ⟨A1, c1, rfl⟩ := Kd.S_slice h1; exact impl_SheetIn.calls k A1 c1 l1 r W (Kd.S_reads' h1).2.2 (Kd.S_reads' h1).2.1 h hT_
def laws_FnExactSheetIn.f (k : Nat) (l0 : List (S36)) : Option (Bool) := (laws_szNodeS.f k l0 1048576).bind fun z => (if z < 0 then (some true) else ((laws_toNodeS.f k l0).bind fun x => ((spec_SheetIn.f k x).bind fun s => ((impl_SheetIn.f k x).bind fun g => ((laws_eqRuleS.f k g s).bind fun t => ((laws_eqNodeS.f k x x).bind fun u => (if t = true ∧ u = true then ((laws_markNodeS.f k x 1).bind fun m0 => (if 0 ≤ m0.1 then ((laws_markRuleS.f k g 1).bind fun m => ((laws_heldRuleS.f k m.2 1).bind fun q => (if 0 ≤ q ∧ q = m.1 then (some true) else (none)))) else (none))) else (none))))))))
theorem laws_FnExactSheetIn.calls (k : Nat) (A0 : Option Addr) (c0 : Nat) (l0 : List (S36)) (r : Bool) (w : World) (hr0 : Kd.C k36 w A0 l0.length l0) (hc0 : l0.length ≤ c0) (h : laws_FnExactSheetIn.f k l0 = some r) (hT_ : U8Tabs_ w) :
 Calls Tryz.prog 3 #[.slice A0 l0.length c0] w fun e w' => e = .returned (.bool r) ∧ Below w.heap.size w w' := by
 unfold laws_FnExactSheetIn.f at h
 obtain ⟨z, A1, h⟩ := Option.bind_eq_some_iff.mp h; replace A1 := ak_ A1; by_cases c0' : z < 0
 ·rw [if_pos c0'] at h; obtain rfl := Option.some.inj h
  have c2b0 : decide (z < 0) = true := decide_eq_true c0'
  clear c0' h; go_enter Tryz.func3, Tryz.ntmps3
  go_wp2_with (first | (go_at_call 4; (with_reducible refine (laws_szNodeS.calls k A0 c0 l0 1048576 z _ hr0 hc0 A1.out).mono ?_); rintro e w1 ⟨rfl, hb⟩; have HB := ak_ hb; clear hb))
  go_ret
  exact ⟨rfl, HB.out⟩
 ·rw [if_neg c0'] at h; have c2b0 : decide (z < 0) = false := decide_eq_false c0'
  clear c0'; obtain ⟨x, A2, h⟩ := Option.bind_eq_some_iff.mp h; obtain ⟨s, A3, h⟩ := Option.bind_eq_some_iff.mp h; obtain ⟨g, A4, h⟩ := Option.bind_eq_some_iff.mp h; obtain ⟨t, A5, h⟩ := Option.bind_eq_some_iff.mp h; obtain ⟨u, A6, h⟩ := Option.bind_eq_some_iff.mp h; by_cases c1 : t = true ∧ u = true
  ·rw [if_pos c1] at h; obtain ⟨⟨m0, x9⟩, A7, h⟩ := Option.bind_eq_some_iff.mp h; by_cases c3 : 0 ≤ m0
   ·rw [if_pos c3] at h; obtain ⟨⟨m, g9⟩, A8, h⟩ := Option.bind_eq_some_iff.mp h; obtain ⟨q, A9, h⟩ := Option.bind_eq_some_iff.mp h; by_cases c4 : 0 ≤ q ∧ q = m
    ·rw [if_pos c4] at h; obtain rfl := Option.some.inj h
     clear h; obtain ⟨rfl, rfl⟩ := c1; obtain ⟨c5, rfl⟩ := c4; have d0 : decide (m0 < 0) = false := decide_eq_false (by omega)
     have d1 : decide (q < 0) = false := decide_eq_false (by omega)
     have d2 : (q == q) = true := beq_iff_eq.mpr rfl
     have d3 : (q != q) = false := bne_eq_false_iff_eq.mpr rfl
     replace A2 := ak_ A2; replace A3 := ak_ A3; replace A4 := ak_ A4; replace A5 := ak_ A5; replace A6 := ak_ A6; replace A7 := ak_ A7; replace A8 := ak_ A8; replace A9 := ak_ A9; have tokA : True := trivial
     have tokB : True := trivial
     have tokC : True := trivial
     have tokD : True := trivial
     have tok1 : True := trivial
     have tok2 : True := trivial
     have tok3 : True := trivial
     have tok4 : True := trivial
     clear c5 c3; go_enter Tryz.func3, Tryz.ntmps3
     go_wp2_with (first | (go_at_call 4; (with_reducible refine (laws_szNodeS.calls k A0 c0 l0 1048576 z _ hr0 hc0 A1.out).mono ?_); rintro e w1 ⟨rfl, hb⟩; have HB := ak_ hb; clear hb) | (go_at_call 6; have _t := tokA; (with_reducible refine (laws_toNodeS.calls k A0 c0 l0 x _ (Kd.C_below hr0 HB.out) hc0 A2.out).mono ?_); rintro e w2 ⟨va, rfl, hva, hb⟩; have HV := ak_ hva; clear hva; replace HB := ak_ (below_step HB.out hb); clear hb; clear tokA _t) | (go_at_call 5; (with_reducible refine (specIn_ k HV.out A3.out).mono ?_); rintro e w3 ⟨vs, rfl, hs, hb⟩; have HN := ak_ hs; clear hs HV; replace HB := ak_ (below_step HB.out hb); have HX := ak_ (Below.refl w3.heap.size w3); clear hb) | (go_at_call 6; have _t := tokB; (with_reducible refine (laws_toNodeS.calls k A0 c0 l0 x _ (Kd.C_below hr0 (below_step HB.out HX.out)) hc0 A2.out).mono ?_); rintro e w4 ⟨vx, rfl, hvx, hb⟩; have HV := ak_ (Kd.S_lower (Kd.S_mono (ok' := fun k_ => k_ < w4.heap.size) (Kd.S_bound hvx) (fun _ hk => hk.2.2.1)) HX.out.size); clear hvx; replace HX := ak_ (below_step HX.out hb); have HX4 := ak_ (Below.refl w4.heap.size w4); clear hb; clear tokB _t) | (go_at_call 7; have _t := tok1; (with_reducible refine (implIn_ k HV.out A4.out (utf8_keep_ hT_ (by repeat (first | (with_reducible first | exact (below_step HB.out HX.out) | apply below_alloc | apply pw_below_drewN | apply below_drew1) | exact (below_step HB.out HX.out))))).mono ?_); rintro e w5 ⟨vg, rfl, hg, hb⟩; have HG := ak_ (Kd.S_lower (Kd.S_mono (ok' := fun k_ => w4.heap.size ≤ k_) (Kd.S_bound hg) (fun _ hk => Nat.le_trans HX4.out.size hk.2.1)) HX.out.size); clear hg; have n_ := an2_ (Kd.S_below HV.out hb) (below_step HX.out hb); clear HV HX; obtain ⟨HV, HX⟩ := n_; clear HX4 hb; clear tok1 _t) | (go_at_call 8; have _t := tok2; (with_reducible refine (eqRulesN_ k HG.out (Kd.N_below HN.out HX.out) A5.out).mono ?_); rintro e w6 ⟨rfl, hb⟩; have n_ := an3_ (Kd.S_below HG.out hb) (Kd.S_below HV.out hb) (below_step HX.out hb); clear HG HV HX; obtain ⟨HG, HV, HX⟩ := n_; clear hb; clear tok2 _t) | (go_at_call 6; have _t := tokC; (with_reducible refine (laws_toNodeS.calls k A0 c0 l0 x _ (Kd.C_below hr0 (below_step HB.out HX.out)) hc0 A2.out).mono ?_); rintro e w7 ⟨vy, rfl, hvy, hb⟩; have HY := ak_ hvy; clear hvy; have n_ := an3_ (Kd.S_below HG.out hb) (Kd.S_below HV.out hb) (below_step HX.out hb); clear HG HV HX; obtain ⟨HG, HV, HX⟩ := n_; clear hb; clear tokC _t) | (go_at_call 9; (with_reducible refine (eqNodes_ k HV.out HY.out A6.out).mono ?_); rintro e w8 ⟨rfl, hb⟩; clear HY; have n_ := an3_ (Kd.S_below HG.out hb) (Kd.S_below HV.out hb) (below_step HX.out hb); clear HG HV HX; obtain ⟨HG, HV, HX⟩ := n_; clear hb) | (go_at_call 10; (with_reducible refine (laws_markNodeS.calls k (fun k_ => k_ < w4.heap.size) vx x 1 m0 x9 w3 _ HX.out HV.out A7.out).mono ?_); rintro e w9 ⟨rfl, hvx, hb, hk⟩; have n0_ := ak_ (Kd.S_kept HG.out hk (fun _ hk_ => Nat.not_lt.2 hk_)); clear HG HV HX hvx hk; have HG := n0_; have HX := ak_ hb; clear hb n0_) | (go_at_call 8; have _t := tok3; (with_reducible refine (eqRulesN_ k HG.out (Kd.N_below HN.out HX.out) A5.out).mono ?_); rintro e w10 ⟨rfl, hb⟩; have n_ := an2_ (Kd.S_below HG.out hb) (below_step HX.out hb); clear HG HX; obtain ⟨HG, HX⟩ := n_; clear hb; clear tok3 _t) | (go_at_call 11; (with_reducible refine (laws_markRuleS.calls k (fun _ => True) vg g 1 q g9 w3 _ HX.out (Kd.S_mono HG.out (fun _ _ => trivial)) A8.out).mono ?_); rintro e w11 ⟨rfl, hg, hb, hk⟩; clear HG HX; have HG := ak_ hg; have HX := ak_ hb; clear hg hb hk) | (go_at_call 12; have _t := tok4; (with_reducible refine (heldRules_ k HG.out A9.out).mono ?_); rintro e w12 ⟨rfl, hb⟩; have n_ := an2_ (Kd.S_below HG.out hb) (below_step HX.out hb); clear HG HX; obtain ⟨HG, HX⟩ := n_; clear hb; clear tok4 _t) | (go_at_call 6; have _t := tokD; (with_reducible refine (laws_toNodeS.calls k A0 c0 l0 x _ (Kd.C_below hr0 (below_step HB.out HX.out)) hc0 A2.out).mono ?_); rintro e w13 ⟨vz, rfl, hvz, hb⟩; have HV := ak_ hvz; clear hvz; have n_ := an2_ (Kd.S_below HG.out hb) (below_step HX.out hb); clear HG HX; obtain ⟨HG, HX⟩ := n_; clear hb; clear tokD _t) | (go_at_call 7; (with_reducible refine (implIn_ k HV.out A4.out (utf8_keep_ hT_ (by repeat (first | (with_reducible first | exact (below_step HB.out HX.out) | apply below_alloc | apply pw_below_drewN | apply below_drew1) | exact (below_step HB.out HX.out))))).mono ?_); rintro e w14 ⟨vh, rfl, hh, hb⟩; have HH := ak_ hh; clear hh HV; have n_ := an2_ (Kd.S_below HG.out hb) (below_step HX.out hb); clear HG HX; obtain ⟨HG, HX⟩ := n_; clear hb) | (go_at_call 8; (with_reducible refine (eqRulesN_ k HH.out (Kd.N_below HN.out HX.out) A5.out).mono ?_); rintro e w15 ⟨rfl, hb⟩; clear HH; have n_ := an2_ (Kd.S_below HG.out hb) (below_step HX.out hb); clear HG HX; obtain ⟨HG, HX⟩ := n_; clear hb) | (go_at_call 12; (with_reducible refine (heldRules_ k HG.out A9.out).mono ?_); rintro e w16 ⟨rfl, hb⟩; have n_ := an2_ (Kd.S_below HG.out hb) (below_step HX.out hb); clear HG HX; obtain ⟨HG, HX⟩ := n_; clear hb))
     go_ret
     exact ⟨rfl, below_step HB.out HX.out⟩
    ·rw [if_neg c4] at h; cases h
   ·rw [if_neg c3] at h; cases h
  ·rw [if_neg c1] at h; cases h

end Go.Proofs.YtooilehdljeepaaGreatDoor.PFnExactSheetIn
