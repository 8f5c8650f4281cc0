import Derived.Test.YtooilehdljeepaaGreatDoorPFnExactSheetInx0
namespace Go.Proofs.YtooilehdljeepaaGreatDoor.PFnExactSheetIn
open Go.RowKit Go.Proofs.YtooilehdljeepaaGreatDoorW.PrintWords Go.Proofs.YtooilehdljeepaaGreatDoorW.PrintLast Go.Proofs.YtooilehdljeepaaGreatDoorW.PrintMore
attribute [local go_sem] max2_int min2_int max_two min_two max_three min_three max_four min_four   -- for this text's walks alone
set_option maxHeartbeats 8000000
set_option maxRecDepth 100000
set_option linter.unusedVariables false
set_option linter.unusedSimpArgs false
/-! ### spec_l5Selector: function 75 -/
mutual
def spec_l5Selector.l0 : Nat → ByteArray → List (S102) → ByteArray → Int → Option ((List (S102)) × Bool)
 | 0, _, _, _, _ => none
 | k + 1, x0, x4, x5, x6 => if x6 ≤ (x0.size : Int) then (if x6 < (x0.size : Int) then (if 0 ≤ x6 then ((spec_l4Blank.f (bt x0 x6)).bind fun t187 => (spec_l5Selector.j1 k x0 x4 x5 x6 (!t187))) else (none)) else (spec_l5Selector.j1 k x0 x4 x5 x6 false)) else (some (x4, decide ((x4.length : Int) > 0)))
def spec_l5Selector.j1 : Nat → ByteArray → List (S102) → ByteArray → Int → Bool → Option ((List (S102)) × Bool)
 | 0, _, _, _, _, _ => none
 | k + 1, x0, x4, x5, x6, x25 => if x25 = true then (if 0 ≤ x6 then (if x6 ≤ (wrap64 (x6 + 1)) then (if (wrap64 (x6 + 1)) ≤ (x0.size : Int) then (if x5.size + (x0.extract (x6 : Int).toNat ((wrap64 (x6 + 1)) : Int).toNat).size ≤ 9223372036854775807 then (spec_l5Selector.l0 k x0 x4 (x5 ++ (x0.extract (x6 : Int).toNat ((wrap64 (x6 + 1)) : Int).toNat)) (wrap64 (x6 + 1))) else (none)) else (none)) else (none)) else (none)) else (if x5.toList = ([] : List UInt8) then (spec_l5Selector.l0 k x0 x4 x5 (wrap64 (x6 + 1))) else ((spec_l5Part.f k x5).bind fun bt188 => (if bt188.2.2.2 = true then (if (x4.length : Int) = 5 then (some (([] : List (S102)), false)) else (if x4.length < 2513169434916 then (spec_l5Selector.l0 k x0 (x4 ++ [(⟨bt188.1, bt188.2.1, bt188.2.2.1⟩ : S102)]) (⟨#[]⟩ : ByteArray) (wrap64 (x6 + 1))) else (none))) else (some (([] : List (S102)), false)))))
end
def spec_l5Selector.f (k : Nat) (a0 : ByteArray) : Option ((List (S102)) × Bool) := spec_l5Selector.l0 k a0 ([] : List (S102)) (⟨#[]⟩ : ByteArray) 0
theorem spec_l5Selector.calls (k : Nat) (a0 : ByteArray) (r1 : List (S102)) (r2 : Bool) (w : World) (h : spec_l5Selector.f k a0 = some (r1, r2)) :
  Calls Tryz.prog 75 #[.string a0] w fun e w' => ∃ v0_ : Value, e = .returned (.tuple #[v0_, .bool r2]) ∧ Kd.S k102 102 w' w.heap.size (fun _ => True) v0_ r1 ∧ Below w.heap.size w w' := by
 have hu102 := Tryz.underlying102; have HB := ak_ (Below.refl w.heap.size w); have H := h; unfold spec_l5Selector.f at H
 clear h; have H' := ak_ H; clear H; go_enter Tryz.func75, Tryz.ntmps75
 go_wp2; go_loopg [4, 5, 6] k (fun kq v4 v5 v6 w' => ∃ (x4_1 : List (S102)) (x5_1 : ByteArray) (x6_1 : Int), v5 = .string x5_1 ∧ v6 = .int .i64 x6_1 ∧ Aside0 (spec_l5Selector.l0 kq a0 x4_1 x5_1 x6_1 = some (r1, r2)) ∧ Aside0 (kq ≤ k) ∧ Aside0 (Kd.S k102 102 w' w.heap.size (fun _ => True) v4 x4_1) ∧ Aside0 (Below w.heap.size w w'))
 case atStart => exact ⟨(([] : List (S102))), ((⟨#[]⟩ : ByteArray)), (0), sv_, sv_, H', ⟨Nat.le_refl _⟩, ⟨by first | exact Kd.S_nil _ _ _ _ _ | exact Kd.N_nil _ _ _ _ _ | exact Kd.V_nil _ _ _ _ _ | exact Kd.Q_nil _ _ _ _ _ | exact Kd.R_nil _ _ _ _ _⟩, ⟨bel_⟩⟩
 case round =>
  clear H'; obtain ⟨x4_1, x5_1, x6_1, rfl, rfl, HA, HK1, HO_4, HB⟩ := hrel; cases gk with
  | zero => exact absurd HA.out (by simp [spec_l5Selector.l0])
  | succ k1 =>
   have H := HA.out; clear HA; simp only [spec_l5Selector.l0] at H
   replace H := ied_ H; rcases H with ⟨c2b0, H⟩ | ⟨c2b0, H⟩
   ·have HC3 := ak_ H; clear H; go_upto_region 6 with (fail)
    go_cut [25] (fun v25 wc => ∃ (kq : Nat) (x25_2 : Bool), v25 = .bool x25_2 ∧ Aside0 (spec_l5Selector.j1 kq a0 x4_1 x5_1 x6_1 x25_2 = some (r1, r2)) ∧ Aside0 (kq ≤ k1) ∧ Aside0 (Kd.S k102 102 wc w.heap.size (fun _ => True) u4 x4_1) ∧ Aside0 (Below w.heap.size w wc))
    case first =>
     have H := HC3.out; clear HC3; replace H := ied_ H; rcases H with ⟨c4b0, H⟩ | ⟨c4b0, H⟩
     ·(first | rw [c4b0] | (simp only [i64_w, i32_w]; rw [c4b0]) | skip)
      replace H := itd_ H; obtain ⟨c5b0, H⟩ := H; replace H := bnd_ H; obtain ⟨t187, A7, H⟩ := H; have H' := ak_ H; clear H; have p6 : 0 ≤ (x6_1 : Int) := oda_
      have q6 : x6_1 < (a0.size : Int) := oda_
      have hx6 := bt_at a0 x6_1; replace p6 := eq_true p6; replace q6 := eq_true q6; go_wp2_with (first | (go_at_call 90; (with_reducible refine (spec_l4Blank.calls (bt a0 x6_1) t187 _ A7.out).mono ?_); rintro e w' ⟨rfl, ⟨nd, rfl⟩⟩))
      go_meet
      case rel => exact ⟨_, (!t187), sv_, H', ⟨by have := HK1.out; first | omega | exact Nat.le_refl _⟩, ⟨kdS_ HO_4.out⟩, ⟨bel_⟩⟩
     ·(first | rw [c4b0] | (simp only [i64_w, i32_w]; rw [c4b0]) | skip)
      have H' := ak_ H; clear H; go_wp2; go_meet
      case rel => exact ⟨_, (false), sv_, H', ⟨by have := HK1.out; first | omega | exact Nat.le_refl _⟩, ⟨kdS_ HO_4.out⟩, ⟨bel_⟩⟩
    case rest =>
     clear HC3; (try clear c2b0)
     obtain ⟨kq, x25_2, rfl, HA, HJ2, HO_4, HB⟩ := hcut; cases kq with
     | zero => exact absurd HA.out (by simp [spec_l5Selector.j1])
     | succ kj2 =>
      have H := HA.out; clear HA; simp only [spec_l5Selector.j1] at H
      replace H := itb_ H; rcases H with ⟨rfl, H⟩ | ⟨rfl, H⟩
      ·replace H := itn_ H; obtain ⟨c9, H⟩ := H; have c9b0 := eq_true c9; have c9b1 := decide_eq_true c9; clear c9; replace H := itn_ H; obtain ⟨c10, H⟩ := H; have c10b0 := eq_true c10; have c10b1 := decide_eq_true c10; replace H := itn_ H; obtain ⟨c11, H⟩ := H; have c11b0 := eq_true c11; have c11b1 := decide_eq_true c11; replace H := itn_ H; obtain ⟨c12, H⟩ := H; have c12b0 := eq_true c12; have c12b1 := decide_eq_true c12; try have c12b2 : (9223372036854775807 < x5_1.size + (a0.extract (x6_1 : Int).toNat ((wrap64 (x6_1 + 1)) : Int).toNat).size) = False := eq_false (Nat.not_lt.2 c12)
       have H' := ak_ H; clear H; go_wp2; go_roundg kj2
       case measure => have := HK1.out; have := HJ2.out; omega
       case rel => exact ⟨(x4_1), (x5_1 ++ (a0.extract (x6_1 : Int).toNat ((wrap64 (x6_1 + 1)) : Int).toNat)), (wrap64 (x6_1 + 1)), sv_, sv_, H', ⟨by have := HK1.out; have := HJ2.out; omega⟩, ⟨kdS_ HO_4.out⟩, ⟨bel_⟩⟩
      ·replace H := ite_ H; rcases H with ⟨c13, H⟩ | ⟨c13, H⟩
       ·obtain ⟨c13b0, c13b7, c13b8, c13b1⟩ := emp1_ c13; clear c13; have H' := ak_ H; clear H; go_wp2; go_roundg kj2
        case measure => have := HK1.out; have := HJ2.out; omega
        case rel => exact ⟨(x4_1), (x5_1), (wrap64 (x6_1 + 1)), sv_, sv_, H', ⟨by have := HK1.out; have := HJ2.out; omega⟩, ⟨kdS_ HO_4.out⟩, ⟨bel_⟩⟩
       ·obtain ⟨c13b0, c13b7, c13b8, c13b1⟩ := emp0_ c13; replace H := bnd_ H; obtain ⟨⟨t188, t189, t190, t193⟩, A14, H⟩ := H; (try dsimp only at H); replace H := itb_ H; rcases H with ⟨rfl, H⟩ | ⟨rfl, H⟩
        ·replace H := ite_ H; rcases H with ⟨c16, H⟩ | ⟨c16, H⟩
         ·have c16b0 := beq_iff_eq.mpr c16; have c16b1 := bne_eq_false_iff_eq.mpr c16; clear c16; simp only [Option.some.injEq, Prod.mk.injEq] at H
          obtain ⟨rfl, rfl⟩ := H; go_wp2_with (first | ((with_reducible refine gate_callee (f := 91) rfl ?_); refine gl_ (some 37) Tryz.func91 #[.string x5_1] ?_; (with_reducible refine (spec_l5Part.calls kj2 x5_1 t188 t189 t190 true _ A14.out).mono ?_); rintro e w17 ⟨v191, rfl, ho0, hb⟩; refine ⟨_, rfl, ?_⟩; have n_ := an3_ (Kd.S_elder' (kdS_ HO_4.out) (Kd.R_base ho0) hb) (Kd.R_lower ho0 (below_size bel_)) (below_step bel_ hb); clear HO_4 HB; obtain ⟨HO_4, HO192, HB⟩ := n_; (try clear hb);(try clear hb2);(try clear hk);(try clear hi);(try clear ho0)) | ((with_reducible refine gate_dst (N := 7) rfl ?_); (try (refine gate_guard (by rfl) ?_; dsimp only)); refine bx_ (N := 7) (cs := #[.string (⟨#[]⟩ : ByteArray), .string (⟨#[]⟩ : ByteArray), .slice none 0 0]) (t := 102) ?_; intro gb194 hg w18 hbox hb; have n_ := an6_ (Kd.S_below (Kd.S_elderB (kdS_ HO_4.out) gb194 (Nat.le_of_eq hg.symm)) hb) (Kd.R_below (kdR_ HO192.out) hb) (below_step bel_ hb) (hbox) (gsl_ hg HB.out) (gsl_ hg HB.out); clear HO_4 HO192 HB; obtain ⟨HO_4, HO192, HB, BK194, GW194, GE194⟩ := n_; clear hb hbox hg; obtain ⟨z19_0, z19_1, z19_2, y19_0, y19_1, y19_2⟩ := bcz3 BK194.out; obtain ⟨Ao20, co20, eo20⟩ := Kd.R_slice HO192.out; subst eo20; obtain ⟨Ao21, co21, eo21⟩ := Kd.S_slice HO_4.out; subst eo21))
          go_ret2
          exact ⟨_, er_, by first | exact Kd.S_nil _ _ _ _ _ | exact Kd.N_nil _ _ _ _ _ | exact Kd.V_nil _ _ _ _ _ | exact Kd.Q_nil _ _ _ _ _ | exact Kd.R_nil _ _ _ _ _, bes_⟩
         ·have c16b0 := beq_eq_false_iff_ne.mpr c16; have c16b1 := bne_iff_ne.mpr c16; replace H := itn_ H; obtain ⟨c22, H⟩ := H; have LMc22 := ak_ c22; clear c22; obtain ⟨y195, hy195⟩ : ∃ y_ : List (S102), y_ = (x4_1 ++ [(⟨t188, t189, t190⟩ : S102)]) := ⟨_, rfl⟩
          replace H : (spec_l5Selector.l0 kj2 a0 y195 (⟨#[]⟩ : ByteArray) (wrap64 (x6_1 + 1))) = some (r1, r2) := by first | (rw [hy195]; with_reducible exact H) | (have H2_ := (Option.bind_some _ _).symm.trans H; rw [hy195]; with_reducible exact H2_) | (have H2_ := (Option.bind_some _ _).symm.trans H; with_reducible exact H2_) | with_reducible exact H | (rw [hy195]; exact H) | exact H
          have Ny195 := ak_ hy195; clear hy195; have H' := ak_ H; clear H; go_wp2_with (first | ((with_reducible refine gate_callee (f := 91) rfl ?_); refine gl_ (some 37) Tryz.func91 #[.string x5_1] ?_; (with_reducible refine (spec_l5Part.calls kj2 x5_1 t188 t189 t190 true _ A14.out).mono ?_); rintro e w23 ⟨v191, rfl, ho0, hb⟩; refine ⟨_, rfl, ?_⟩; have n_ := an3_ (Kd.S_elder' (kdS_ HO_4.out) (Kd.R_base ho0) hb) (Kd.R_lower ho0 (below_size bel_)) (below_step bel_ hb); clear HO_4 HB; obtain ⟨HO_4, HO192, HB⟩ := n_; (try clear hb);(try clear hb2);(try clear hk);(try clear hi);(try clear ho0)) | ((with_reducible refine gate_dst (N := 7) rfl ?_); (try (refine gate_guard (by rfl) ?_; dsimp only)); refine bx_ (N := 7) (cs := #[.string (⟨#[]⟩ : ByteArray), .string (⟨#[]⟩ : ByteArray), .slice none 0 0]) (t := 102) ?_; intro gb194 hg w24 hbox hb; have n_ := an6_ (Kd.S_below (Kd.S_elderB (kdS_ HO_4.out) gb194 (Nat.le_of_eq hg.symm)) hb) (Kd.R_below (kdR_ HO192.out) hb) (below_step bel_ hb) (hbox) (gsl_ hg HB.out) (gsl_ hg HB.out); clear HO_4 HO192 HB; obtain ⟨HO_4, HO192, HB, BK194, GW194, GE194⟩ := n_; clear hb hbox hg; obtain ⟨z25_0, z25_1, z25_2, y25_0, y25_1, y25_2⟩ := bcz3 BK194.out; obtain ⟨Ao26, co26, eo26⟩ := Kd.R_slice HO192.out; subst eo26) | ((with_reducible refine gate_store (t := 102) (p := 7) rfl ?_); refine store_event (t := 102) (p := 7) (v := ?vo_w27) (w1 := (((w24.setCell ⟨gb194, 0, none⟩ (.string t188)).setCell ⟨gb194, 1, none⟩ (.string t189)).setCell ⟨gb194, 2, none⟩ (.slice Ao26 t190.length co26))) ?hg ?ho ?hn ?hr ?_; (case ho => rfl); (case hg => rfl); (case hn => rfl); (case hr => first | (go_simp; done) | (go_simp; rfl)); intro w27 hw; have n0_ : Aside0 (Kd.S k102 102 w27 w.heap.size (fun k_ => some k_ ≠ (.slice Ao26 t190.length co26 : Value).ownBlock ∧ k_ ≠ gb194) u4 x4_1) := ⟨(by rw [hw]; exact (by (with_reducible repeat (first | apply Kd.S_alloc | apply Kd.S_drewN | apply Kd.S_drew)); exact Kd.S_mono (Kd.S_far (Kd.S_far (Kd.S_far (Kd.S_mono HO_4.out (fun k_ hk => (⟨hk, hk.2⟩ : _ ∧ k_ ≠ gb194))) (fun _ hk => hk.2) _) (fun _ hk => hk.2) _) (fun _ hk => hk.2) _) (fun _ hk => ⟨hk.1.1.2, hk.1.2⟩)))⟩; have n1_ : Aside0 (Kd.R Kd.string 9 w27 w.heap.size (fun _ => True) (.slice Ao26 t190.length co26) t190) := ⟨(by rw [hw]; exact (by (with_reducible repeat (first | apply Kd.R_alloc | apply Kd.R_drewN | apply Kd.R_drew)); exact Kd.R_mono (Kd.R_far (Kd.R_far (Kd.R_far (Kd.R_types HO192.out BK194.out (by decide)) (fun _ hk => hk.2) _) (fun _ hk => hk.2) _) (fun _ hk => hk.2) _) (fun _ hk => trivial)))⟩; have n2_ : Aside0 (w27.heap[gb194]? = some (.cells #[.string t188, .string t189, .slice Ao26 t190.length co26] 102 (0, 0))) := ⟨(by rw [hw]; exact (bp_ BK194.out))⟩; have n3_ : Aside0 (Below w.heap.size w w27) := ⟨(by rw [hw]; exact bes_)⟩; clear hw; clear HO_4; clear HO192; clear BK194; clear HB; have HO_4 := n0_; have HO192 := n1_; have BK194 := n2_; have HB := n3_; clear n0_ n1_ n2_ n3_; obtain ⟨Ao28, co28, eo28⟩ := Kd.S_slice HO_4.out; subst eo28; obtain ⟨z29_0, z29_1, z29_2, y29_0, y29_1, y29_2⟩ := bcz3 BK194.out) | ((with_reducible refine gate_builtin (b := .append) (xs := #[.tmp 47, .tmp 49]) rfl ?_); (try (refine gate_guard (by rfl) ?_; dsimp only)); at_builtin; refine Kd.S_append k102 (w0 := w) w.heap.size rfl (.tmp 47) (.tmp 49) 78 102 (.agg #[(.string ⟨#[]⟩), (.string ⟨#[]⟩), (.slice none 0 0)]) 56 rfl Tryz.underlying78 info102 rfl (by decide) (by omega) (.slice Ao28 x4_1.length co28) x4_1 (⟨t188, t189, t190⟩ : S102) [.string t188, .string t189, .slice Ao26 t190.length co26] (fun k_ => k_ ≠ gb194) (fun k_ => some k_ = (.slice Ao26 t190.length co26 : Value).ownBlock) rfl rfl ?aP (fun k_ hk_ => ((Kd.R_mono (ok' := fun k_ => ((fun k_ => k_ ≠ gb194)) k_ ∧ some k_ ≠ (.slice Ao28 x4_1.length co28 : Value).ownBlock) (Kd.R_types (Kd.R_apart' (HO192.out) (Kd.S_typed HO_4.out) (by decide)) BK194.out (by decide)) (fun k_ hk => ⟨hk.2, hk.1.2⟩))).1 k_ hk_.symm) ?aF ?aO ?aB ?aS ?aL ?_; (case aP => exact k102_mkM _ _ _ (⟨t188, t189, t190⟩ : S102) (Kd.R_mono (Kd.R_tight rfl (Kd.R_mono (ok' := fun k_ => ((fun k_ => k_ ≠ gb194)) k_ ∧ some k_ ≠ (.slice Ao28 x4_1.length co28 : Value).ownBlock) (Kd.R_types (Kd.R_apart' (HO192.out) (Kd.S_typed HO_4.out) (by decide)) BK194.out (by decide)) (fun k_ hk => ⟨hk.2, hk.1.2⟩))) (fun _ h_ => h_))); (case aB => exact bes_); (case aF => exact (fun k_ hk => Kd.freshB (g := gb194) (o := .cells #[.string t188, .string t189, .slice Ao26 t190.length co26] 102 (0, 0)) (bk_ BK194.out) k_ hk)); (case aO => exact (by (with_reducible repeat (first | apply Kd.S_alloc | apply Kd.S_drewN | apply Kd.S_drew)); exact Kd.S_mono HO_4.out (fun k_ hk => ⟨hk.2, fun e_ => hk.1 e_⟩))); (case aS => exact (below_size bes_)); (case aL => have := LMc22.out; omega); intro v196 w30 ho hb hg hat; rw [← Ny195.out] at ho; have n_ := an3_ (blk_grown (g := gb194) (o := .cells #[.string t188, .string t189, .slice Ao26 t190.length co26] 102 (0, 0)) (bk_ BK194.out) hg (Kd.S_away HO_4.out (fun _ hk => hk.2))) (hb) (ho); clear BK194 HB HO_4 HO192; obtain ⟨BK194, HB, HO197⟩ := n_; clear ho hb hg hat))
          go_roundg kj2
          case measure => have := HK1.out; have := HJ2.out; omega
          case rel => exact ⟨(y195), ((⟨#[]⟩ : ByteArray)), (wrap64 (x6_1 + 1)), sv_, sv_, H', ⟨by have := HK1.out; have := HJ2.out; omega⟩, ⟨by (with_reducible repeat (first | apply Kd.S_alloc | apply Kd.S_drewN | apply Kd.S_drew)); exact Kd.S_mono HO197.out (fun _ hk => trivial)⟩, ⟨bes_⟩⟩
        ·simp only [Option.some.injEq, Prod.mk.injEq] at H
         obtain ⟨rfl, rfl⟩ := H; go_wp2_with (first | ((with_reducible refine gate_callee (f := 91) rfl ?_); refine gl_ (some 37) Tryz.func91 #[.string x5_1] ?_; (with_reducible refine (spec_l5Part.calls kj2 x5_1 t188 t189 t190 false _ A14.out).mono ?_); rintro e w31 ⟨v191, rfl, ho0, hb⟩; refine ⟨_, rfl, ?_⟩; have n_ := an3_ (Kd.S_elder' (kdS_ HO_4.out) (Kd.R_base ho0) hb) (Kd.R_lower ho0 (below_size bel_)) (below_step bel_ hb); clear HO_4 HB; obtain ⟨HO_4, HO192, HB⟩ := n_; (try clear hb);(try clear hb2);(try clear hk);(try clear hi);(try clear ho0)) | ((with_reducible refine gate_dst (N := 7) rfl ?_); (try (refine gate_guard (by rfl) ?_; dsimp only)); refine bx_ (N := 7) (cs := #[.string (⟨#[]⟩ : ByteArray), .string (⟨#[]⟩ : ByteArray), .slice none 0 0]) (t := 102) ?_; intro gb194 hg w32 hbox hb; have n_ := an6_ (Kd.S_below (Kd.S_elderB (kdS_ HO_4.out) gb194 (Nat.le_of_eq hg.symm)) hb) (Kd.R_below (kdR_ HO192.out) hb) (below_step bel_ hb) (hbox) (gsl_ hg HB.out) (gsl_ hg HB.out); clear HO_4 HO192 HB; obtain ⟨HO_4, HO192, HB, BK194, GW194, GE194⟩ := n_; clear hb hbox hg; obtain ⟨z33_0, z33_1, z33_2, y33_0, y33_1, y33_2⟩ := bcz3 BK194.out; obtain ⟨Ao34, co34, eo34⟩ := Kd.R_slice HO192.out; subst eo34))
         go_ret2
         exact ⟨_, er_, by first | exact Kd.S_nil _ _ _ _ _ | exact Kd.N_nil _ _ _ _ _ | exact Kd.V_nil _ _ _ _ _ | exact Kd.Q_nil _ _ _ _ _ | exact Kd.R_nil _ _ _ _ _, bes_⟩
   ·simp only [Option.some.injEq, Prod.mk.injEq] at H
    obtain ⟨rfl, rfl⟩ := H; obtain ⟨Ao35, co35, eo35⟩ := Kd.S_slice HO_4.out; subst eo35; go_wp2; go_ret2
    exact ⟨_, er_, kdS_ HO_4.out, bel_⟩

/-! ### spec_l5Sheet: function 56 -/
mutual
def spec_l5Sheet.l0 : Nat → ByteArray → List (S50) → Int → Option ((List (S50)))
 | 0, _, _, _ => none
 | k + 1, x0, x3, x4 => if x4 < (x0.size : Int) then ((spec_l5Find.f k x0 x4 123).bind fun t199 => (if t199 = (x0.size : Int) then (some x3) else ((spec_l5Find.f k x0 t199 125).bind fun t200 => (if 0 ≤ (wrap64 (t199 + 1)) then (if (wrap64 (t199 + 1)) ≤ t200 then (if t200 ≤ (x0.size : Int) then ((spec_l5Decls.f k (x0.extract ((wrap64 (t199 + 1)) : Int).toNat (t200 : Int).toNat)).bind fun t201 => (if 0 ≤ x4 then (if x4 ≤ t199 then (if t199 ≤ (x0.size : Int) then ((spec_l1Split.f k (x0.extract (x4 : Int).toNat (t199 : Int).toNat) 44).bind fun t205 => (spec_l5Sheet.l1 k x0 x3 t200 true t205 (t205.length : Int) 0 ([] : List (List (S102))) t201)) else (none)) else (none)) else (none))) else (none)) else (none)) else (none))))) else (some x3)
def spec_l5Sheet.l1 : Nat → ByteArray → List (S50) → Int → Bool → List ByteArray → Int → Int → List (List (S102)) → List (S80) → Option ((List (S50)))
 | 0, _, _, _, _, _, _, _, _, _ => none
 | k + 1, x0, x3, x6, x8, x40, x41, x42, x205000, x205001 => if x42 < x41 then (if 0 ≤ x42 then (if x42 < (x40.length : Int) then ((spec_l5Selector.f k (rdOf ByteArray.empty x40 x42)).bind fun bt209 => (if x8 = true then (if x205000.length < 5864062014805 then (spec_l5Sheet.l1 k x0 x3 x6 bt209.2 x40 x41 (wrap64 (x42 + 1)) (x205000 ++ [bt209.1]) x205001) else (none)) else (if x205000.length < 5864062014805 then (spec_l5Sheet.l1 k x0 x3 x6 false x40 x41 (wrap64 (x42 + 1)) (x205000 ++ [bt209.1]) x205001) else (none)))) else (none)) else (none)) else (if x8 = true then (if (x3.length : Int) < 30 then (if x3.length < 2932031007402 then (spec_l5Sheet.l0 k x0 (x3 ++ [(⟨x205000, x205001⟩ : S50)]) (wrap64 (x6 + 1))) else (none)) else (spec_l5Sheet.l0 k x0 x3 (wrap64 (x6 + 1)))) else (spec_l5Sheet.l0 k x0 x3 (wrap64 (x6 + 1))))
end
def spec_l5Sheet.f (k : Nat) (a0 : ByteArray) : Option ((List (S50))) := (spec_l5Bare.f k a0).bind fun t198 => (spec_l5Sheet.l0 k t198 ([] : List (S50)) 0)
theorem spec_l5Sheet.calls (k : Nat) (a0 : ByteArray) (r : List (S50)) (w : World) (h : spec_l5Sheet.f k a0 = some r) :
  Calls Tryz.prog 56 #[.string a0] w fun e w' => ∃ v0_ : Value, e = .returned (v0_) ∧ Kd.R k50 50 w' w.heap.size (fun _ => True) v0_ r ∧ Below w.heap.size w w' := by
 have hu50 := Tryz.underlying50; have HB := ak_ (Below.refl w.heap.size w); have H := h; unfold spec_l5Sheet.f at H
 clear h; replace H := bnd_ H; obtain ⟨t198, A2, H⟩ := H; have H' := ak_ H; clear H; go_enter Tryz.func56, Tryz.ntmps56
 go_wp2_with (first | ((with_reducible refine gate_callee (f := 71) rfl ?_); refine gl_ (some 14) Tryz.func71 #[.string a0] ?_; (with_reducible refine (spec_l5Bare.calls k a0 t198 _ A2.out).mono ?_); rintro e w' ⟨rfl, ⟨nd, rfl⟩⟩; refine ⟨_, rfl, ?_⟩))
 go_loopg [3, 4] k (fun kq v3 v4 w' => ∃ (x3_1 : List (S50)) (x4_1 : Int), v4 = .int .i64 x4_1 ∧ Aside0 (spec_l5Sheet.l0 kq t198 x3_1 x4_1 = some r) ∧ Aside0 (kq ≤ k) ∧ Aside0 (Kd.R k50 50 w' w.heap.size (fun _ => True) v3 x3_1) ∧ Aside0 (Below w.heap.size w w'))
 case atStart => exact ⟨(([] : List (S50))), (0), sv_, H', ⟨Nat.le_refl _⟩, ⟨by first | exact Kd.R_nil _ _ _ _ _ | exact Kd.N_nil _ _ _ _ _ | exact Kd.V_nil _ _ _ _ _ | exact Kd.Q_nil _ _ _ _ _ | exact Kd.S_nil _ _ _ _ _⟩, ⟨bel_⟩⟩
 case round =>
  clear H'; (try clear p2)
  obtain ⟨x3_1, x4_1, rfl, HA, HK1, HO_3, HB⟩ := hrel; cases gk with
  | zero => exact absurd HA.out (by simp [spec_l5Sheet.l0])
  | succ k1 =>
   have H := HA.out; clear HA; simp only [spec_l5Sheet.l0] at H
   replace H := ied_ H; rcases H with ⟨c3b0, H⟩ | ⟨c3b0, H⟩
   ·replace H := bnd_ H; obtain ⟨t199, A4, H⟩ := H; replace H := ite_ H; rcases H with ⟨c5, H⟩ | ⟨c5, H⟩
    ·have c5b0 := beq_iff_eq.mpr c5; have c5b1 := bne_eq_false_iff_eq.mpr c5; clear c5; obtain rfl := Option.some.inj H
     go_wp2_with (first | ((with_reducible refine gate_callee (f := 72) rfl ?_); refine gl_ (some 21) Tryz.func72 #[.string t198, .int .i64 x4_1, .int .u8 123] ?_; (with_reducible refine (spec_l5Find.calls k1 t198 x4_1 123 t199 _ A4.out).mono ?_); rintro e w' ⟨rfl, ⟨nd, rfl⟩⟩; refine ⟨_, rfl, ?_⟩))
     go_ret
     exact ⟨_, er_, kdR_ HO_3.out, bel_⟩
    ·have c5b0 := beq_eq_false_iff_ne.mpr c5; have c5b1 := bne_iff_ne.mpr c5; replace H := bnd_ H; obtain ⟨t200, A6, H⟩ := H; obtain ⟨ji7, hji7⟩ : ∃ j_ : Int, (wrap64 (t199 + 1)) = j_ := ⟨_, rfl⟩
     replace H : (if 0 ≤ (ji7) then (if (ji7) ≤ t200 then (if t200 ≤ (t198.size : Int) then ((spec_l5Decls.f k1 (t198.extract ((ji7) : Int).toNat (t200 : Int).toNat)).bind fun t201 => (if 0 ≤ x4_1 then (if x4_1 ≤ t199 then (if t199 ≤ (t198.size : Int) then ((spec_l1Split.f k1 (t198.extract (x4_1 : Int).toNat (t199 : Int).toNat) 44).bind fun t205 => (spec_l5Sheet.l1 k1 t198 x3_1 t200 true t205 (t205.length : Int) 0 ([] : List (List (S102))) t201)) else (none)) else (none)) else (none))) else (none)) else (none)) else (none)) = some r := by first | (rw [hji7] at H; exact H) | (simp only [hji7] at H ⊢; exact H)
     (try rw [hji7] at A4)
     (try rw [hji7] at A6)
     have hji7w : (IntKind.i64.wrap (t199 + 1)) = ji7 := (i64_w _).trans hji7
     replace H := itn_ H; obtain ⟨c8, H⟩ := H; have c8b0 := eq_true c8; have c8b1 := decide_eq_true c8; clear c8; replace H := itn_ H; obtain ⟨c9, H⟩ := H; have c9b0 := eq_true c9; have c9b1 := decide_eq_true c9; clear c9; replace H := itn_ H; obtain ⟨c10, H⟩ := H; have c10b0 := eq_true c10; have c10b1 := decide_eq_true c10; clear c10; replace H := bnd_ H; obtain ⟨t201, A11, H⟩ := H; replace H := itn_ H; obtain ⟨c12, H⟩ := H; have c12b0 := eq_true c12; have c12b1 := decide_eq_true c12; clear c12; replace H := itn_ H; obtain ⟨c13, H⟩ := H; have c13b0 := eq_true c13; have c13b1 := decide_eq_true c13; clear c13; replace H := itn_ H; obtain ⟨c14, H⟩ := H; have c14b0 := eq_true c14; have c14b1 := decide_eq_true c14; clear c14; replace H := bnd_ H; obtain ⟨t205, A15, H⟩ := H; have H' := ak_ H; clear H; go_wp2_with (first | ((with_reducible refine gate_callee (f := 72) rfl ?_); refine gl_ (some 21) Tryz.func72 #[.string t198, .int .i64 x4_1, .int .u8 123] ?_; (with_reducible refine (spec_l5Find.calls k1 t198 x4_1 123 t199 _ A4.out).mono ?_); rintro e w' ⟨rfl, ⟨nd, rfl⟩⟩; refine ⟨_, rfl, ?_⟩; (try (rw [drewN_self wr]; generalize hq_ : World.drewN wr _ = wr; have n0_ : Aside0 (Kd.R k50 50 wr w.heap.size (fun _ => True) u3 x3_1) := ⟨by rw [← hq_]; exact (kdR_ HO_3.out)⟩; have n1_ : Aside0 (Below w.heap.size w wr) := ⟨by rw [← hq_]; exact bel_⟩; clear HO_3 HB hq_; have HO_3 := n0_; have HB := n1_; clear n0_ n1_))) | ((with_reducible refine gate_callee (f := 72) rfl ?_); refine gl_ (some 28) Tryz.func72 #[.string t198, .int .i64 t199, .int .u8 125] ?_; (with_reducible refine (spec_l5Find.calls k1 t198 t199 125 t200 _ A6.out).mono ?_); rintro e w' ⟨rfl, ⟨nd, rfl⟩⟩; refine ⟨_, rfl, ?_⟩; (try (rw [drewN_self wr]; generalize hq_ : World.drewN wr _ = wr; have n0_ : Aside0 (Kd.R k50 50 wr w.heap.size (fun _ => True) u3 x3_1) := ⟨by rw [← hq_]; exact (kdR_ HO_3.out)⟩; have n1_ : Aside0 (Below w.heap.size w wr) := ⟨by rw [← hq_]; exact bel_⟩; clear HO_3 HB hq_; have HO_3 := n0_; have HB := n1_; clear n0_ n1_))) | ((with_reducible refine gate_callee (f := 73) rfl ?_); refine goesL_ (some 34) rfl rfl Tryz.func73 (by kernel_rfl) rfl #[.string (t198.extract ((ji7) : Int).toNat (t200 : Int).toNat)] rfl (by (try simp only [List.map_toArray, List.map_cons, List.map_nil]); first | done | (simp only [hji7]; rfl) | rfl | (simp only [List.length_drop, List.length_take]; rfl)) ?_; (with_reducible refine (spec_l5Decls.calls k1 (t198.extract ((ji7) : Int).toNat (t200 : Int).toNat) t201 _ A11.out).mono ?_); rintro e w16 ⟨v202, rfl, ho0, hb⟩; refine ⟨_, rfl, ?_⟩; have n_ := an3_ (Kd.R_elder' (kdR_ HO_3.out) (Kd.R_base ho0) hb) (Kd.R_lower ho0 (below_size bel_)) (below_step bel_ hb); clear HO_3 HB; obtain ⟨HO_3, HO203, HB⟩ := n_; (try clear hb);(try clear hb2);(try clear hk);(try clear hi);(try clear ho0); obtain ⟨Ao17, co17, eo17⟩ := Kd.R_slice HO203.out; subst eo17) | ((with_reducible refine gate_dst (N := 7) rfl ?_); (try (refine gate_guard (by rfl) ?_; dsimp only)); refine bx_ (N := 7) (cs := #[.slice none 0 0, .slice none 0 0]) (t := 50) ?_; intro gb204 hg w18 hbox hb; have n_ := an6_ (Kd.R_below (Kd.R_elderB (kdR_ HO_3.out) gb204 (Nat.le_of_eq hg.symm)) hb) (Kd.R_below (kdR_ HO203.out) hb) (below_step bel_ hb) (hbox) (gsl_ hg HB.out) (gsl_ hg HB.out); clear HO_3 HO203 HB; obtain ⟨HO_3, HO203, HB, BK204, GW204, GE204⟩ := n_; clear hb hbox hg; obtain ⟨z19_0, z19_1, y19_0, y19_1⟩ := bcz2 BK204.out) | ((with_reducible refine gate_callee (f := 74) rfl ?_); refine gl_ (some 40) Tryz.func74 #[.string (t198.extract (x4_1 : Int).toNat (t199 : Int).toNat), .int .u8 44] ?_; (with_reducible refine (spec_l1Split.calls k1 (t198.extract (x4_1 : Int).toNat (t199 : Int).toNat) 44 t205 _ A15.out).mono ?_); rintro e w20 ⟨v206, rfl, ho0, hb⟩; refine ⟨_, rfl, ?_⟩; have n_ := an5_ (Kd.R_elder' (by (with_reducible repeat (first | apply Kd.R_alloc | apply Kd.R_drewN | apply Kd.R_drew)); exact (Kd.R_mono (Kd.R_far (Kd.R_far (Kd.R_mono HO_3.out (fun k_ hk => (⟨hk, hk.2⟩ : _ ∧ k_ ≠ gb204))) (fun _ hk => hk.2) _) (fun _ hk => hk.2) _) (fun _ h_ => h_.1))) (Kd.R_base ho0) hb) (Kd.R_below (by (with_reducible repeat (first | apply Kd.R_alloc | apply Kd.R_drewN | apply Kd.R_drew)); exact (Kd.R_mono (Kd.R_far (Kd.R_far (Kd.R_types HO203.out BK204.out (by decide)) (fun _ hk => hk.2) _) (fun _ hk => hk.2) _) (fun _ h_ => h_.1))) hb) (Kd.R_lower ho0 (below_size bes_)) (blk_below (g := gb204) (o := .cells #[.slice none 0 0, .slice Ao17 t201.length co17] 50 (0, 0)) (bp_ BK204.out) hb) (below_step bes_ hb); clear HO_3 HO203 BK204 HB; obtain ⟨HO_3, HO203, HO207, BK204, HB⟩ := n_; (try clear hb);(try clear hb2);(try clear hk);(try clear hi);(try clear ho0); obtain ⟨Ao21, co21, eo21⟩ := Kd.R_slice HO207.out; subst eo21))
     go_loopg [8, 42] k1 (fun kq v8 v42 w' => ∃ (x8_2 : Bool) (x42_2 : Int) (x205000_2 : List (List (S102))) (u205000 : Value), v8 = .bool x8_2 ∧ v42 = .int .i64 x42_2 ∧ Aside0 (spec_l5Sheet.l1 kq t198 x3_1 t200 x8_2 t205 (t205.length : Int) x42_2 x205000_2 t201 = some r) ∧ Aside0 (kq ≤ k1) ∧ Aside0 (Kd.R k50 50 w' w.heap.size (fun k_ => some k_ ≠ ((.slice Ao21 t205.length co21) : Value).ownBlock ∧ some k_ ≠ (u205000 : Value).ownBlock ∧ some k_ ≠ ((.slice Ao17 t201.length co17) : Value).ownBlock ∧ k_ ≠ gb204) u3 x3_1) ∧ Aside0 (Kd.R Kd.string 9 w' w.heap.size (fun _ => True) (.slice Ao21 t205.length co21) t205) ∧ Aside0 (Kd.R (Kd.slice 102 k102) 78 w' w.heap.size (fun k_ => some k_ ≠ ((.slice Ao21 t205.length co21) : Value).ownBlock) u205000 x205000_2) ∧ Aside0 (Kd.R k80 80 w' w.heap.size (fun _ => True) (.slice Ao17 t201.length co17) t201) ∧ Aside0 (w'.heap[gb204]? = some (.cells #[u205000, (.slice Ao17 t201.length co17)] 50 (0, 0))) ∧ Aside0 (Below w.heap.size w w'))
     case atStart => exact ⟨(true), (0), (([] : List (List (S102)))), (.slice none 0 0), sv_, sv_, H', ⟨Nat.le_refl _⟩, ⟨by (with_reducible repeat (first | apply Kd.R_alloc | apply Kd.R_drewN | apply Kd.R_drew)); exact Kd.R_mono HO_3.out (fun _ hk => ⟨hk.2, ⟨(by simp [Value.ownBlock]), ⟨hk.1.1.2, hk.1.2⟩⟩⟩)⟩, ⟨kdR_ HO207.out⟩, ⟨by first | exact Kd.R_nil _ _ _ _ _ | exact Kd.N_nil _ _ _ _ _ | exact Kd.V_nil _ _ _ _ _ | exact Kd.Q_nil _ _ _ _ _ | exact Kd.S_nil _ _ _ _ _⟩, ⟨kdR_ HO203.out⟩, ⟨bp_ BK204.out⟩, ⟨bes_⟩⟩
     case round =>
      clear H'; (try clear c3b0);(try clear c5);(try clear c5b0);(try clear c5b1);(try clear c8b0);(try clear c8b1);(try clear c9b0);(try clear c9b1);(try clear c10b0);(try clear c10b1);(try clear c12b0);(try clear c12b1);(try clear c13b0);(try clear c13b1);(try clear c14b0);(try clear c14b1);(try clear z19_0);(try clear z19_1);(try clear y19_0);(try clear y19_1)
      obtain ⟨x8_2, x42_2, x205000_2, u205000, rfl, rfl, HA, HK2, HO_3, HO_40, HO_205000, HO_205001, BK204, HB⟩ := hrel; cases gk with
      | zero => exact absurd HA.out (by simp [spec_l5Sheet.l1])
      | succ k2 =>
       have H := HA.out; clear HA; simp only [spec_l5Sheet.l1] at H
       replace H := ied_ H; rcases H with ⟨c22b0, H⟩ | ⟨c22b0, H⟩
       ·replace H := itd_ H; obtain ⟨c23b0, H⟩ := H; replace H := itd_ H; obtain ⟨c24b0, H⟩ := H; replace H := bnd_ H; obtain ⟨⟨t209, t210⟩, A25, H⟩ := H; (try dsimp only at H); replace H := itb_ H; rcases H with ⟨rfl, H⟩ | ⟨rfl, H⟩
        ·replace H := itn_ H; obtain ⟨c27, H⟩ := H; have LMc27 := ak_ c27; clear c27; obtain ⟨y213, hy213⟩ : ∃ y_ : List (List (S102)), y_ = (x205000_2 ++ [t209]) := ⟨_, rfl⟩
         replace H : (spec_l5Sheet.l1 k2 t198 x3_1 t200 t210 t205 (t205.length : Int) (wrap64 (x42_2 + 1)) y213 t201) = some r := by first | (rw [hy213]; with_reducible exact H) | (have H2_ := (Option.bind_some _ _).symm.trans H; rw [hy213]; with_reducible exact H2_) | (have H2_ := (Option.bind_some _ _).symm.trans H; with_reducible exact H2_) | with_reducible exact H | (rw [hy213]; exact H) | exact H
         have Ny213 := ak_ hy213; clear hy213; have H' := ak_ H; clear H; have p208 : 0 ≤ (x42_2 : Int) := oda_
         have q208 : x42_2 < (t205.length : Int) := oda_
         obtain ⟨ad208, e208, hx208_0⟩ := Kd.at_string (Kd.R_reads' HO_40.out).2.2 x42_2 p208 q208; cases e208; replace p208 := eq_true p208; replace q208 := eq_true q208; go_wp2_with (first | ((with_reducible refine gate_callee (f := 75) rfl ?_); refine gl_ (some 48) Tryz.func75 #[.string (rdOf ByteArray.empty t205 x42_2)] ?_; (with_reducible refine (spec_l5Selector.calls k2 (rdOf ByteArray.empty t205 x42_2) t209 t210 _ A25.out).mono ?_); rintro e w28 ⟨v211, rfl, ho0, hb⟩; refine ⟨_, rfl, ?_⟩; have n_ := an7_ (Kd.R_elder' (kdR_ HO_3.out) (Kd.S_base ho0) hb) (Kd.R_below (kdR_ HO_40.out) hb) (Kd.R_elder' (kdR_ HO_205000.out) (Kd.S_base ho0) hb) (Kd.R_below (kdR_ HO_205001.out) hb) (Kd.S_lower (Kd.S_new' ho0 (Kd.R_lt (kdR_ HO_40.out))) (below_size bes_)) (blk_below (g := gb204) (o := .cells #[u205000, .slice Ao17 t201.length co17] 50 (0, 0)) (bk_ BK204.out) hb) (below_step bes_ hb); clear HO_3 HO_40 HO_205000 HO_205001 BK204 HB; obtain ⟨HO_3, HO_40, HO_205000, HO_205001, HO212, BK204, HB⟩ := n_; (try clear hb);(try clear hb2);(try clear hk);(try clear hi);(try clear ho0); obtain ⟨z29_0, z29_1, y29_0, y29_1⟩ := bcz2 BK204.out; obtain ⟨Ao31, co31, eo31⟩ := Kd.S_slice HO212.out; subst eo31) | ((with_reducible refine gate_builtin (b := .append) (xs := #[.tmp 56, .tmp 58]) rfl ?_); (try (refine gate_guard (by rfl) ?_; dsimp only)); at_builtin; refine Kd.R_append (Kd.slice 102 k102) (w0 := w) w.heap.size rfl (.tmp 56) (.tmp 58) 47 78 (.slice none 0 0) 24 rfl Tryz.underlying47 info78 rfl (by decide) (by omega) u205000 x205000_2 t209 [.slice Ao31 t209.length co31] (fun k_ => some k_ ≠ (.slice (some ad208) t205.length co21 : Value).ownBlock) (fun k_ => ((fun k_ => some k_ ≠ (.slice (some ad208) t205.length co21 : Value).ownBlock)) k_ ∧ some k_ ≠ (u205000 : Value).ownBlock) rfl rfl ?aP (fun _ hk => hk) ?aF ?aO ?aB ?aS ?aL ?_; (case aP => exact Kd.M_row (Kd.R_mono (Kd.R_apart' ((Kd.S_R HO212.out)) (Kd.R_typed HO_205000.out) (by decide)) (fun k_ hk => ⟨hk.1.2, hk.2⟩))); (case aB => exact bes_); (case aF => exact (fun k_ hk => Kd.fresh' (Kd.R_lt (kdR_ HO_40.out)) k_ hk)); (case aO => exact (by (with_reducible repeat (first | apply Kd.R_alloc | apply Kd.R_drewN | apply Kd.R_drew)); exact Kd.R_mono HO_205000.out (fun _ hk => hk.1))); (case aS => exact (below_size bes_)); (case aL => have := LMc27.out; omega); intro v214 w30 ho hb hg hat; rw [← Ny213.out] at ho; have n_ := an6_ (Kd.R_after (ok := (fun k_ => some k_ ≠ (.slice (some ad208) t205.length co21 : Value).ownBlock ∧ some k_ ≠ (.slice Ao17 t201.length co17 : Value).ownBlock ∧ some k_ ≠ (.slice Ao31 t209.length co31 : Value).ownBlock ∧ k_ ≠ gb204)) (by (with_reducible repeat (first | apply Kd.R_alloc | apply Kd.R_drewN | apply Kd.R_drew)); exact Kd.R_mono HO_3.out (fun _ hk => ⟨⟨hk.1.1, ⟨hk.1.2.2.1, ⟨hk.2, hk.1.2.2.2⟩⟩⟩, hk.1.2.1⟩)) hg hat) (Kd.R_over' (kdR_ HO_40.out) (Kd.R_typed (kdR_ HO_205000.out)) (by decide) hg) (Kd.R_over' (kdR_ HO_205001.out) (Kd.R_typed (kdR_ HO_205000.out)) (by decide) hg) (blk_grown (g := gb204) (o := .cells #[u205000, .slice Ao17 t201.length co17] 50 (0, 0)) (bk_ BK204.out) hg (Kd.R_ne HO_205000.out BK204.out (by decide))) (hb) (ho); clear HO_3 HO_40 HO_205001 BK204 HB HO_205000 HO212; obtain ⟨HO_3, HO_40, HO_205001, BK204, HB, HO215⟩ := n_; clear ho hb hg hat; obtain ⟨Ao32, co32, eo32⟩ := Kd.R_slice HO215.out; subst eo32; obtain ⟨z33_0, z33_1, y33_0, y33_1⟩ := bcz2 BK204.out))
         go_roundg k2
         case measure => have := HK1.out; have := HK2.out; omega
         case rel => exact ⟨(t210), (wrap64 (x42_2 + 1)), (y213), (.slice Ao32 y213.length co32), sv_, sv_, H', ⟨by have := HK1.out; have := HK2.out; omega⟩, ⟨by (with_reducible repeat (first | apply Kd.R_alloc | apply Kd.R_drewN | apply Kd.R_drew)); exact Kd.R_mono (Kd.R_far (Kd.R_mono HO_3.out (fun k_ hk => (⟨hk, hk.1.2.2.2⟩ : _ ∧ k_ ≠ gb204))) (fun _ hk => hk.2) _) (fun _ hk => ⟨hk.1.1.1, ⟨hk.1.2, ⟨hk.1.1.2.1, hk.1.1.2.2.2⟩⟩⟩)⟩, ⟨by (with_reducible repeat (first | apply Kd.R_alloc | apply Kd.R_drewN | apply Kd.R_drew)); exact Kd.R_mono (Kd.R_far (Kd.R_types HO_40.out BK204.out (by decide)) (fun _ hk => hk.2) _) (fun _ hk => trivial)⟩, ⟨by (with_reducible repeat (first | apply Kd.R_alloc | apply Kd.R_drewN | apply Kd.R_drew)); exact Kd.R_mono (Kd.R_far (Kd.R_types HO215.out BK204.out (by decide)) (fun _ hk => hk.2) _) (fun _ hk => hk.1)⟩, ⟨by (with_reducible repeat (first | apply Kd.R_alloc | apply Kd.R_drewN | apply Kd.R_drew)); exact Kd.R_mono (Kd.R_far (Kd.R_types HO_205001.out BK204.out (by decide)) (fun _ hk => hk.2) _) (fun _ hk => trivial)⟩, ⟨bp_ BK204.out⟩, ⟨bes_⟩⟩
        ·replace H := itn_ H; obtain ⟨c34, H⟩ := H; have LMc34 := ak_ c34; clear c34; obtain ⟨y216, hy216⟩ : ∃ y_ : List (List (S102)), y_ = (x205000_2 ++ [t209]) := ⟨_, rfl⟩
         replace H : (spec_l5Sheet.l1 k2 t198 x3_1 t200 false t205 (t205.length : Int) (wrap64 (x42_2 + 1)) y216 t201) = some r := by first | (rw [hy216]; with_reducible exact H) | (have H2_ := (Option.bind_some _ _).symm.trans H; rw [hy216]; with_reducible exact H2_) | (have H2_ := (Option.bind_some _ _).symm.trans H; with_reducible exact H2_) | with_reducible exact H | (rw [hy216]; exact H) | exact H
         have Ny216 := ak_ hy216; clear hy216; have H' := ak_ H; clear H; have p208 : 0 ≤ (x42_2 : Int) := oda_
         have q208 : x42_2 < (t205.length : Int) := oda_
         obtain ⟨ad208, e208, hx208_0⟩ := Kd.at_string (Kd.R_reads' HO_40.out).2.2 x42_2 p208 q208; cases e208; replace p208 := eq_true p208; replace q208 := eq_true q208; go_wp2_with (first | ((with_reducible refine gate_callee (f := 75) rfl ?_); refine gl_ (some 48) Tryz.func75 #[.string (rdOf ByteArray.empty t205 x42_2)] ?_; (with_reducible refine (spec_l5Selector.calls k2 (rdOf ByteArray.empty t205 x42_2) t209 t210 _ A25.out).mono ?_); rintro e w35 ⟨v211, rfl, ho0, hb⟩; refine ⟨_, rfl, ?_⟩; have n_ := an7_ (Kd.R_elder' (kdR_ HO_3.out) (Kd.S_base ho0) hb) (Kd.R_below (kdR_ HO_40.out) hb) (Kd.R_elder' (kdR_ HO_205000.out) (Kd.S_base ho0) hb) (Kd.R_below (kdR_ HO_205001.out) hb) (Kd.S_lower (Kd.S_new' ho0 (Kd.R_lt (kdR_ HO_40.out))) (below_size bes_)) (blk_below (g := gb204) (o := .cells #[u205000, .slice Ao17 t201.length co17] 50 (0, 0)) (bk_ BK204.out) hb) (below_step bes_ hb); clear HO_3 HO_40 HO_205000 HO_205001 BK204 HB; obtain ⟨HO_3, HO_40, HO_205000, HO_205001, HO212, BK204, HB⟩ := n_; (try clear hb);(try clear hb2);(try clear hk);(try clear hi);(try clear ho0); obtain ⟨z36_0, z36_1, y36_0, y36_1⟩ := bcz2 BK204.out; obtain ⟨Ao38, co38, eo38⟩ := Kd.S_slice HO212.out; subst eo38) | ((with_reducible refine gate_builtin (b := .append) (xs := #[.tmp 56, .tmp 58]) rfl ?_); (try (refine gate_guard (by rfl) ?_; dsimp only)); at_builtin; refine Kd.R_append (Kd.slice 102 k102) (w0 := w) w.heap.size rfl (.tmp 56) (.tmp 58) 47 78 (.slice none 0 0) 24 rfl Tryz.underlying47 info78 rfl (by decide) (by omega) u205000 x205000_2 t209 [.slice Ao38 t209.length co38] (fun k_ => some k_ ≠ (.slice (some ad208) t205.length co21 : Value).ownBlock) (fun k_ => ((fun k_ => some k_ ≠ (.slice (some ad208) t205.length co21 : Value).ownBlock)) k_ ∧ some k_ ≠ (u205000 : Value).ownBlock) rfl rfl ?aP (fun _ hk => hk) ?aF ?aO ?aB ?aS ?aL ?_; (case aP => exact Kd.M_row (Kd.R_mono (Kd.R_apart' ((Kd.S_R HO212.out)) (Kd.R_typed HO_205000.out) (by decide)) (fun k_ hk => ⟨hk.1.2, hk.2⟩))); (case aB => exact bes_); (case aF => exact (fun k_ hk => Kd.fresh' (Kd.R_lt (kdR_ HO_40.out)) k_ hk)); (case aO => exact (by (with_reducible repeat (first | apply Kd.R_alloc | apply Kd.R_drewN | apply Kd.R_drew)); exact Kd.R_mono HO_205000.out (fun _ hk => hk.1))); (case aS => exact (below_size bes_)); (case aL => have := LMc34.out; omega); intro v217 w37 ho hb hg hat; rw [← Ny216.out] at ho; have n_ := an6_ (Kd.R_after (ok := (fun k_ => some k_ ≠ (.slice (some ad208) t205.length co21 : Value).ownBlock ∧ some k_ ≠ (.slice Ao17 t201.length co17 : Value).ownBlock ∧ some k_ ≠ (.slice Ao38 t209.length co38 : Value).ownBlock ∧ k_ ≠ gb204)) (by (with_reducible repeat (first | apply Kd.R_alloc | apply Kd.R_drewN | apply Kd.R_drew)); exact Kd.R_mono HO_3.out (fun _ hk => ⟨⟨hk.1.1, ⟨hk.1.2.2.1, ⟨hk.2, hk.1.2.2.2⟩⟩⟩, hk.1.2.1⟩)) hg hat) (Kd.R_over' (kdR_ HO_40.out) (Kd.R_typed (kdR_ HO_205000.out)) (by decide) hg) (Kd.R_over' (kdR_ HO_205001.out) (Kd.R_typed (kdR_ HO_205000.out)) (by decide) hg) (blk_grown (g := gb204) (o := .cells #[u205000, .slice Ao17 t201.length co17] 50 (0, 0)) (bk_ BK204.out) hg (Kd.R_ne HO_205000.out BK204.out (by decide))) (hb) (ho); clear HO_3 HO_40 HO_205001 BK204 HB HO_205000 HO212; obtain ⟨HO_3, HO_40, HO_205001, BK204, HB, HO218⟩ := n_; clear ho hb hg hat; obtain ⟨Ao39, co39, eo39⟩ := Kd.R_slice HO218.out; subst eo39; obtain ⟨z40_0, z40_1, y40_0, y40_1⟩ := bcz2 BK204.out))
         go_roundg k2
         case measure => have := HK1.out; have := HK2.out; omega
         case rel => exact ⟨(false), (wrap64 (x42_2 + 1)), (y216), (.slice Ao39 y216.length co39), sv_, sv_, H', ⟨by have := HK1.out; have := HK2.out; omega⟩, ⟨by (with_reducible repeat (first | apply Kd.R_alloc | apply Kd.R_drewN | apply Kd.R_drew)); exact Kd.R_mono (Kd.R_far (Kd.R_mono HO_3.out (fun k_ hk => (⟨hk, hk.1.2.2.2⟩ : _ ∧ k_ ≠ gb204))) (fun _ hk => hk.2) _) (fun _ hk => ⟨hk.1.1.1, ⟨hk.1.2, ⟨hk.1.1.2.1, hk.1.1.2.2.2⟩⟩⟩)⟩, ⟨by (with_reducible repeat (first | apply Kd.R_alloc | apply Kd.R_drewN | apply Kd.R_drew)); exact Kd.R_mono (Kd.R_far (Kd.R_types HO_40.out BK204.out (by decide)) (fun _ hk => hk.2) _) (fun _ hk => trivial)⟩, ⟨by (with_reducible repeat (first | apply Kd.R_alloc | apply Kd.R_drewN | apply Kd.R_drew)); exact Kd.R_mono (Kd.R_far (Kd.R_types HO218.out BK204.out (by decide)) (fun _ hk => hk.2) _) (fun _ hk => hk.1)⟩, ⟨by (with_reducible repeat (first | apply Kd.R_alloc | apply Kd.R_drewN | apply Kd.R_drew)); exact Kd.R_mono (Kd.R_far (Kd.R_types HO_205001.out BK204.out (by decide)) (fun _ hk => hk.2) _) (fun _ hk => trivial)⟩, ⟨bp_ BK204.out⟩, ⟨bes_⟩⟩
       ·replace H := itb_ H; rcases H with ⟨rfl, H⟩ | ⟨rfl, H⟩
        ·replace H := ite_ H; rcases H with ⟨c42, H⟩ | ⟨c42, H⟩
         ·have c42b0 := decide_eq_true c42; have c42b1 : decide (x3_1.length < 30) = true := decide_eq_true (by omega)
          clear c42; replace H := itn_ H; obtain ⟨c43, H⟩ := H; have LMc43 := ak_ c43; clear c43; obtain ⟨y219, hy219⟩ : ∃ y_ : List (S50), y_ = (x3_1 ++ [(⟨x205000_2, t201⟩ : S50)]) := ⟨_, rfl⟩
          replace H : (spec_l5Sheet.l0 k2 t198 y219 (wrap64 (t200 + 1))) = some r := by first | (rw [hy219]; with_reducible exact H) | (have H2_ := (Option.bind_some _ _).symm.trans H; rw [hy219]; with_reducible exact H2_) | (have H2_ := (Option.bind_some _ _).symm.trans H; with_reducible exact H2_) | with_reducible exact H | (rw [hy219]; exact H) | exact H
          have Ny219 := ak_ hy219; clear hy219; have H' := ak_ H; clear H; obtain ⟨Ao44, co44, eo44⟩ := Kd.R_slice HO_3.out; subst eo44; obtain ⟨z45_0, z45_1, y45_0, y45_1⟩ := bcz2 BK204.out; obtain ⟨Ao47, co47, eo47⟩ := Kd.R_slice HO_205000.out; subst eo47; go_wp2_with (first | ((with_reducible refine gate_builtin (b := .append) (xs := #[.tmp 68, .tmp 70]) rfl ?_); (try (refine gate_guard (by rfl) ?_; dsimp only)); at_builtin; refine Kd.R_append k50 (w0 := w) w.heap.size rfl (.tmp 68) (.tmp 70) 24 50 (.agg #[(.slice none 0 0), (.slice none 0 0)]) 48 rfl Tryz.underlying24 info50 rfl (by decide) (by omega) (.slice Ao44 x3_1.length co44) x3_1 (⟨x205000_2, t201⟩ : S50) [.slice Ao47 x205000_2.length co47, .slice Ao17 t201.length co17] (fun k_ => some k_ ≠ (.slice Ao21 t205.length co21 : Value).ownBlock ∧ k_ ≠ gb204) (fun k_ => ((fun k_ => some k_ ≠ (.slice Ao21 t205.length co21 : Value).ownBlock ∧ k_ ≠ gb204)) k_ ∧ some k_ ≠ (.slice Ao44 x3_1.length co44 : Value).ownBlock) rfl rfl ?aP (fun _ hk => hk) ?aF ?aO ?aB ?aS ?aL ?_; (case aP => exact k50_mkM _ _ _ (⟨x205000_2, t201⟩ : S50) (Kd.R_mono (Kd.R_types (Kd.R_apart' (HO_205000.out) (Kd.R_typed HO_3.out) (by decide)) BK204.out (by decide)) (fun k_ hk => ⟨⟨hk.1.1, hk.2⟩, hk.1.2⟩)) (Kd.R_mono (Kd.R_types (Kd.R_apart' (Kd.R_apart' (HO_205001.out) (Kd.R_typed HO_40.out) (by decide)) (Kd.R_typed HO_3.out) (by decide)) BK204.out (by decide)) (fun k_ hk => ⟨⟨hk.1.1.2, hk.2⟩, hk.1.2⟩))); (case aB => exact bes_); (case aF => exact (fun k_ hk => ⟨Kd.fresh' (Kd.R_lt (kdR_ HO_40.out)) k_ hk, Kd.freshB (g := gb204) (o := .cells #[.slice Ao47 x205000_2.length co47, .slice Ao17 t201.length co17] 50 (0, 0)) (bk_ BK204.out) k_ hk⟩)); (case aO => exact (by (with_reducible repeat (first | apply Kd.R_alloc | apply Kd.R_drewN | apply Kd.R_drew)); exact Kd.R_mono HO_3.out (fun _ hk => ⟨hk.1, hk.2.2.2⟩))); (case aS => exact (below_size bes_)); (case aL => have := LMc43.out; omega); intro v220 w46 ho hb hg hat; rw [← Ny219.out] at ho; have n_ := an4_ (Kd.R_over' (kdR_ HO_40.out) (Kd.R_typed (kdR_ HO_3.out)) (by decide) hg) (blk_grown (g := gb204) (o := .cells #[.slice Ao47 x205000_2.length co47, .slice Ao17 t201.length co17] 50 (0, 0)) (bk_ BK204.out) hg (Kd.R_away HO_3.out (fun _ hk => hk.2.2.2))) (hb) (ho); clear HO_40 BK204 HB HO_3 HO_205000 HO_205001; obtain ⟨HO_40, BK204, HB, HO221⟩ := n_; clear ho hb hg hat))
          go_roundg k2
          case measure => have := HK1.out; have := HK2.out; omega
          case rel => exact ⟨(y219), (wrap64 (t200 + 1)), sv_, H', ⟨by have := HK1.out; have := HK2.out; omega⟩, ⟨by (with_reducible repeat (first | apply Kd.R_alloc | apply Kd.R_drewN | apply Kd.R_drew)); exact Kd.R_mono HO221.out (fun _ hk => trivial)⟩, ⟨bes_⟩⟩
         ·have c42b0 := decide_eq_false c42; have c42b1 : decide (x3_1.length < 30) = false := decide_eq_false (by omega)
          clear c42; have H' := ak_ H; clear H; obtain ⟨Ao48, co48, eo48⟩ := Kd.R_slice HO_3.out; subst eo48; go_wp2; go_roundg k2
          case measure => have := HK1.out; have := HK2.out; omega
          case rel => exact ⟨(x3_1), (wrap64 (t200 + 1)), sv_, H', ⟨by have := HK1.out; have := HK2.out; omega⟩, ⟨by (with_reducible repeat (first | apply Kd.R_alloc | apply Kd.R_drewN | apply Kd.R_drew)); exact Kd.R_mono HO_3.out (fun _ hk => trivial)⟩, ⟨bes_⟩⟩
        ·have H' := ak_ H; clear H; go_wp2; go_roundg k2
         case measure => have := HK1.out; have := HK2.out; omega
         case rel => exact ⟨(x3_1), (wrap64 (t200 + 1)), sv_, H', ⟨by have := HK1.out; have := HK2.out; omega⟩, ⟨by (with_reducible repeat (first | apply Kd.R_alloc | apply Kd.R_drewN | apply Kd.R_drew)); exact Kd.R_mono HO_3.out (fun _ hk => trivial)⟩, ⟨bes_⟩⟩
   ·obtain rfl := Option.some.inj H
    go_wp2; go_ret
    exact ⟨_, er_, kdR_ HO_3.out, bel_⟩

/-! ### spec_ReadSheet: function 34 -/
def spec_ReadSheet.f (k : Nat) (a0 : ByteArray) : Option ((List (S50)) × Bool) := if (a0.size : Int) > 1500 then (some (([] : List (S50)), false)) else ((spec_l5Sheet.f k a0).bind fun t222 => (some (t222, true)))
theorem spec_ReadSheet.calls (k : Nat) (a0 : ByteArray) (r1 : List (S50)) (r2 : Bool) (w : World) (h : spec_ReadSheet.f k a0 = some (r1, r2)) :
  Calls Tryz.prog 34 #[.string a0] w fun e w' => ∃ v0_ : Value, e = .returned (.tuple #[v0_, .bool r2]) ∧ Kd.R k50 50 w' w.heap.size (fun _ => True) v0_ r1 ∧ Below w.heap.size w w' := by
 have HB := ak_ (Below.refl w.heap.size w); have H := h; unfold spec_ReadSheet.f at H
 clear h; replace H := ite_ H; rcases H with ⟨c2, H⟩ | ⟨c2, H⟩
 ·have c2b0 := decide_eq_true c2; have c2b1 : decide (1500 < a0.size) = true := decide_eq_true (by omega)
  clear c2; simp only [Option.some.injEq, Prod.mk.injEq] at H
  obtain ⟨rfl, rfl⟩ := H; go_enter Tryz.func34, Tryz.ntmps34
  go_wp2; go_ret2
  exact ⟨_, er_, by first | exact Kd.R_nil _ _ _ _ _ | exact Kd.N_nil _ _ _ _ _ | exact Kd.V_nil _ _ _ _ _ | exact Kd.Q_nil _ _ _ _ _ | exact Kd.S_nil _ _ _ _ _, bel_⟩
 ·have c2b0 := decide_eq_false c2; have c2b1 : decide (1500 < a0.size) = false := decide_eq_false (by omega)
  clear c2; replace H := bnd_ H; obtain ⟨t222, A3, H⟩ := H; simp only [Option.some.injEq, Prod.mk.injEq] at H
  obtain ⟨rfl, rfl⟩ := H; go_enter Tryz.func34, Tryz.ntmps34
  go_wp2_with (first | ((with_reducible refine gate_callee (f := 56) rfl ?_); refine gl_ (some 8) Tryz.func56 #[.string a0] ?_; (with_reducible refine (spec_l5Sheet.calls k a0 t222 _ A3.out).mono ?_); rintro e w4 ⟨v223, rfl, ho0, hb⟩; refine ⟨_, rfl, ?_⟩; have n_ := an2_ (Kd.R_lower ho0 (below_size bel_)) (below_step bel_ hb); clear HB; obtain ⟨HO224, HB⟩ := n_; (try clear hb);(try clear hb2);(try clear hk);(try clear hi);(try clear ho0)))
  go_ret2
  exact ⟨_, er_, kdR_ HO224.out, bel_⟩

/-! ### spec_l4Under: function 35 -/
mutual
def spec_l4Under.l0 : Nat → List (S40) → Int → ByteArray → Int → Option (ByteArray)
 | 0, _, _, _, _ => none
 | k + 1, x0, x1, x5, x6 => if x6 < (x0.length : Int) then (spec_l4Under.l1 k x0 x1 x5 x6 x6) else (some x5)
def spec_l4Under.l1 : Nat → List (S40) → Int → ByteArray → Int → Int → Option (ByteArray)
 | 0, _, _, _, _, _ => none
 | k + 1, x0, x1, x5, x6, x7 => if x7 > x1 then (if 0 ≤ x7 then (if x7 < (x0.length : Int) then (spec_l4Under.l1 k x0 x1 x5 x6 ((rd_T40 x0 x7).f1)) else (none)) else (none)) else (if x7 = x1 then (if 0 ≤ x6 then (if x6 < (x0.length : Int) then (if x5.size + ((rd_T40 x0 x6).f3).size ≤ 9223372036854775807 then (spec_l4Under.l0 k x0 x1 (x5 ++ ((rd_T40 x0 x6).f3)) (wrap64 (x6 + 1))) else (none)) else (none)) else (none)) else (spec_l4Under.l0 k x0 x1 x5 (wrap64 (x6 + 1))))
end
def spec_l4Under.f (k : Nat) (l0 : List (S40)) (a1 : Int) : Option (ByteArray) := if 0 ≤ a1 then (if a1 < (l0.length : Int) then (spec_l4Under.l0 k l0 a1 ((rd_T40 l0 a1).f3) (wrap64 (a1 + 1))) else (none)) else (none)
theorem spec_l4Under.calls (k : Nat) (A0 : Option Addr) (c0 : Nat) (l0 : List (S40)) (a1 : Int) (r : ByteArray) (w : World) (hr0 : Kd.C k40 w A0 l0.length l0) (hc0 : l0.length ≤ c0) (h : spec_l4Under.f k l0 a1 = some r) :
  Calls Tryz.prog 35 #[.slice A0 l0.length c0, .int .i64 a1] w fun e w' => e = .returned (.string r) ∧ Drawn0 w w' := by
 have HR0 := ak_ hr0; have HC0 := ak_ hc0; clear hr0 hc0; have H := h; unfold spec_l4Under.f at H
 clear h; replace H := itd_ H; obtain ⟨c3b0, H⟩ := H; replace H := itd_ H; obtain ⟨c4b0, H⟩ := H; have H' := ak_ H; clear H; have p225 : (0 ≤ (a1 : Int)) = True := odt_
 have q225 : (a1 < (l0.length : Int)) = True := odt_
 obtain ⟨ad225, A225_2, c225_2, e225, hx225_0, hx225_1, hx225_2, hx225_3, hl225_2, hi225_2⟩ := at_T40 HR0.out a1 oda_ oda_; cases e225; have HR225_2 := ak_ hi225_2; have HC225_2 := ak_ hl225_2; clear hi225_2 hl225_2; go_enter Tryz.func35, Tryz.ntmps35
 go_wp2; go_loopg [5, 6] k (fun kq v5 v6 w' => ∃ (x5_1 : ByteArray) (x6_1 : Int), v5 = .string x5_1 ∧ v6 = .int .i64 x6_1 ∧ Aside0 (spec_l4Under.l0 kq l0 a1 x5_1 x6_1 = some r) ∧ Aside0 (kq ≤ k) ∧ Drawn0 w w')
 case atStart => exact ⟨((rd_T40 l0 a1).f3), (wrap64 (a1 + 1)), sv_, sv_, H', ⟨Nat.le_refl _⟩, by repeat (first | exact Drawn0.refl _ | apply Drawn0.step)⟩
 case round =>
  clear H'; (try clear c3b0);(try clear c4b0);(try clear hx225_0);(try clear hx225_1);(try clear hx225_2);(try clear hx225_3);(try clear p225);(try clear q225)
  obtain ⟨x5_1, x6_1, rfl, rfl, HA, HK1, ⟨m1, rfl⟩⟩ := hrel; cases gk with
  | zero => exact absurd HA.out (by simp [spec_l4Under.l0])
  | succ k1 =>
   have H := HA.out; clear HA; simp only [spec_l4Under.l0] at H
   replace H := ied_ H; rcases H with ⟨c5b0, H⟩ | ⟨c5b0, H⟩
   ·have H' := ak_ H; clear H; go_wp2; go_loopg [7] k1 (fun kq v7 w' => ∃ (x7_2 : Int), v7 = .int .i64 x7_2 ∧ Aside0 (spec_l4Under.l1 kq l0 a1 x5_1 x6_1 x7_2 = some r) ∧ Aside0 (kq ≤ k1) ∧ Drawn0 w w')
    case atStart => exact ⟨(x6_1), sv_, H', ⟨Nat.le_refl _⟩, by repeat (first | exact Drawn0.refl _ | apply Drawn0.step)⟩
    case round =>
     clear H'; (try clear c3b0);(try clear c4b0);(try clear c5b0);(try clear hx225_0);(try clear hx225_1);(try clear hx225_2);(try clear hx225_3);(try clear p225);(try clear q225)
     obtain ⟨x7_2, rfl, HA, HK2, ⟨m2, rfl⟩⟩ := hrel; cases gk with
     | zero => exact absurd HA.out (by simp [spec_l4Under.l1])
     | succ k2 =>
      have H := HA.out; clear HA; simp only [spec_l4Under.l1] at H
      replace H := ied_ H; rcases H with ⟨c6b0, H⟩ | ⟨c6b0, H⟩
      ·replace H := itd_ H; obtain ⟨c7b0, H⟩ := H; replace H := itd_ H; obtain ⟨c8b0, H⟩ := H; have H' := ak_ H; clear H; have p226 : (0 ≤ (x7_2 : Int)) = True := odt_
       have q226 : (x7_2 < (l0.length : Int)) = True := odt_
       obtain ⟨ad226, A226_2, c226_2, e226, hx226_0, hx226_1, hx226_2, hx226_3, hl226_2, hi226_2⟩ := at_T40 HR0.out x7_2 oda_ oda_; obtain rfl : ad225 = ad226 := (by injection e226)
       have HR226_2 := ak_ hi226_2; have HC226_2 := ak_ hl226_2; clear hi226_2 hl226_2; go_wp2; go_roundg k2
       case measure => have := HK1.out; have := HK2.out; omega
       case rel => exact ⟨((rd_T40 l0 x7_2).f1), sv_, H', ⟨by have := HK1.out; have := HK2.out; omega⟩, by repeat (first | exact Drawn0.refl _ | apply Drawn0.step)⟩
      ·replace H := ite_ H; rcases H with ⟨c9, H⟩ | ⟨c9, H⟩
       ·have c9b0 := beq_iff_eq.mpr c9; have c9b1 := bne_eq_false_iff_eq.mpr c9; clear c9; replace H := itd_ H; obtain ⟨c10b0, H⟩ := H; replace H := itd_ H; obtain ⟨c11b0, H⟩ := H; replace H := itn_ H; obtain ⟨c12, H⟩ := H; have c12b0 := eq_true c12; have c12b1 := decide_eq_true c12; try have c12b2 : (9223372036854775807 < x5_1.size + ((rd_T40 l0 x6_1).f3).size) = False := eq_false (Nat.not_lt.2 c12)
        have H' := ak_ H; clear H; have p227 : (0 ≤ (x6_1 : Int)) = True := odt_
        have q227 : (x6_1 < (l0.length : Int)) = True := odt_
        obtain ⟨ad227, A227_2, c227_2, e227, hx227_0, hx227_1, hx227_2, hx227_3, hl227_2, hi227_2⟩ := at_T40 HR0.out x6_1 oda_ oda_; obtain rfl : ad225 = ad227 := (by injection e227)
        have HR227_2 := ak_ hi227_2; have HC227_2 := ak_ hl227_2; clear hi227_2 hl227_2; go_wp2; go_roundg k2
        case measure => have := HK1.out; have := HK2.out; omega
        case rel => exact ⟨(x5_1 ++ ((rd_T40 l0 x6_1).f3)), (wrap64 (x6_1 + 1)), sv_, sv_, H', ⟨by have := HK1.out; have := HK2.out; omega⟩, by repeat (first | exact Drawn0.refl _ | apply Drawn0.step)⟩
       ·have c9b0 := beq_eq_false_iff_ne.mpr c9; have c9b1 := bne_iff_ne.mpr c9; have H' := ak_ H; clear H; go_wp2; go_roundg k2
        case measure => have := HK1.out; have := HK2.out; omega
        case rel => exact ⟨(x5_1), (wrap64 (x6_1 + 1)), sv_, sv_, H', ⟨by have := HK1.out; have := HK2.out; omega⟩, by repeat (first | exact Drawn0.refl _ | apply Drawn0.step)⟩
   ·obtain rfl := Option.some.inj H
    go_wp2; go_ret
    exact dn_

/-! ### spec_l6In: function 15 -/
mutual
def spec_l6In.l0 : Nat → List (S40) → List (S50) → List (S40) → Int → Int → Option ((List (S50)))
 | 0, _, _, _, _, _ => none
 | k + 1, x0, x3, x10, x11, x12 => if x12 < x11 then (if 0 ≤ x12 then (if x12 < (x10.length : Int) then (if ((rd_T40 x10 x12).f0).toList = ([115, 116, 121, 108, 101] : List UInt8) then ((spec_l4Under.f k x0 x12).bind fun t230 => ((spec_ReadSheet.f k t230).bind fun bt231 => (spec_l6In.l1 k x0 x3 x10 x11 x12 bt231.1 (bt231.1.length : Int) 0))) else (spec_l6In.l0 k x0 x3 x10 x11 (wrap64 (x12 + 1)))) else (none)) else (none)) else (some x3)
def spec_l6In.l1 : Nat → List (S40) → List (S50) → List (S40) → Int → Int → List (S50) → Int → Int → Option ((List (S50)))
 | 0, _, _, _, _, _, _, _, _ => none
 | k + 1, x0, x3, x10, x11, x12, x27, x28, x29 => if x29 < x28 then (if 0 ≤ x29 then (if x29 < (x27.length : Int) then (if (x3.length : Int) < 30 then (if x3.length < 2932031007402 then (spec_l6In.l1 k x0 (x3 ++ [(⟨(rd_T50 x27 x29).f0, (rd_T50 x27 x29).f1⟩ : S50)]) x10 x11 x12 x27 x28 (wrap64 (x29 + 1))) else (none)) else (spec_l6In.l1 k x0 x3 x10 x11 x12 x27 x28 (wrap64 (x29 + 1)))) else (none)) else (none)) else (spec_l6In.l0 k x0 x3 x10 x11 (wrap64 (x12 + 1)))
end
def spec_l6In.f (k : Nat) (l0 : List (S40)) : Option ((List (S50))) := spec_l6In.l0 k l0 ([] : List (S50)) l0 (l0.length : Int) 0
theorem spec_l6In.calls (k : Nat) (A0 : Option Addr) (c0 : Nat) (l0 : List (S40)) (r : List (S50)) (w : World) (hr0 : Kd.C k40 w A0 l0.length l0) (hc0 : l0.length ≤ c0) (h : spec_l6In.f k l0 = some r) :
  Calls Tryz.prog 15 #[.slice A0 l0.length c0] w fun e w' => ∃ v0_ : Value, e = .returned (v0_) ∧ Kd.N k50 50 w' w.heap.size (fun k_ => (w.heap.size ≤ k_)) v0_ r ∧ Below w.heap.size w w' := by
 have hu40 := Tryz.underlying40; have hu50 := Tryz.underlying50; have HR0 := ak_ hr0; have HC0 := ak_ hc0; clear hr0 hc0; have HB := ak_ (Below.refl w.heap.size w); have H := h; unfold spec_l6In.f at H
 clear h; have H' := ak_ H; clear H; go_enter Tryz.func15, Tryz.ntmps15
 go_wp2; go_loopg [3, 12] k (fun kq v3 v12 w' => ∃ (x3_1 : List (S50)) (x12_1 : Int), v12 = .int .i64 x12_1 ∧ Aside0 (spec_l6In.l0 kq l0 x3_1 l0 (l0.length : Int) x12_1 = some r) ∧ Aside0 (kq ≤ k) ∧ Aside0 (Kd.N k50 50 w' w.heap.size (fun k_ => (w.heap.size ≤ k_)) v3 x3_1) ∧ Aside0 (Below w.heap.size w w'))
 case atStart => exact ⟨(([] : List (S50))), (0), sv_, H', ⟨Nat.le_refl _⟩, ⟨by first | exact Kd.R_nil _ _ _ _ _ | exact Kd.N_nil _ _ _ _ _ | exact Kd.V_nil _ _ _ _ _ | exact Kd.Q_nil _ _ _ _ _ | exact Kd.S_nil _ _ _ _ _⟩, ⟨bel_⟩⟩
 case round =>
  clear H'; obtain ⟨x3_1, x12_1, rfl, HA, HK1, HO_3, HB⟩ := hrel; cases gk with
  | zero => exact absurd HA.out (by simp [spec_l6In.l0])
  | succ k1 =>
   have H := HA.out; clear HA; simp only [spec_l6In.l0] at H
   replace H := ied_ H; rcases H with ⟨c2b0, H⟩ | ⟨c2b0, H⟩
   ·replace H := itd_ H; obtain ⟨c3b0, H⟩ := H; replace H := itd_ H; obtain ⟨c4b0, H⟩ := H; replace H := ite_ H; rcases H with ⟨c5, H⟩ | ⟨c5, H⟩
    ·have c5b0 := beq_iff_eq.mpr c5; have c5b1 := bne_eq_false_iff_eq.mpr c5; clear c5; replace H := bnd_ H; obtain ⟨t230, A6, H⟩ := H; replace H := bnd_ H; obtain ⟨⟨t231, t232⟩, A7, H⟩ := H; (try dsimp only at H); have H' := ak_ H; clear H; have p228 : (0 ≤ (x12_1 : Int)) = True := odt_
     have q228 : (x12_1 < (l0.length : Int)) = True := odt_
     obtain ⟨ad228, A228_2, c228_2, e228, hx228_0, hx228_1, hx228_2, hx228_3, hl228_2, hi228_2⟩ := at_T40 HR0.out x12_1 oda_ oda_; cases e228; replace hx228_0 := pb_ HB hx228_0; replace hx228_1 := pb_ HB hx228_1; replace hx228_2 := pb_ HB hx228_2; replace hx228_3 := pb_ HB hx228_3; have HR228_2 := ak_ hi228_2; have HC228_2 := ak_ hl228_2; clear hi228_2 hl228_2; go_wp2_with (first | ((with_reducible refine gate_dst (N := 5) rfl ?_); refine bx_ (N := 5) (cs := #[.string (⟨#[]⟩ : ByteArray), .int .i64 0, .slice none 0 0, .string (⟨#[]⟩ : ByteArray)]) (t := 40) ?_; intro gb229 hg w8 hbox hb; have n_ := an5_ (Kd.N_below (Kd.N_elderB (by (with_reducible repeat (first | apply Kd.N_alloc | apply Kd.N_drewN | apply Kd.N_drew)); exact HO_3.out) gb229 (Nat.le_of_eq hg.symm)) hb) (below_step bel_ hb) (hbox) (gsl_ hg HB.out) (gsl_ hg HB.out); clear HO_3 HB; obtain ⟨HO_3, HB, BK229, GW229, GE229⟩ := n_; clear hb hbox hg; obtain ⟨z9_0, z9_1, z9_2, z9_3, y9_0, y9_1, y9_2, y9_3⟩ := bcz4 BK229.out) | ((with_reducible refine gate_callee (f := 35) rfl ?_); refine gl_ (some 23) Tryz.func35 #[.slice (some ad228) l0.length c0, .int .i64 x12_1] ?_; (with_reducible refine (spec_l4Under.calls k1 _ _ l0 x12_1 t230 _ ?side1 ?side2 A6.out).mono ?_); (case side1 => exact Kd.C_below HR0.out bes_); (case side2 => exact HC0.out); rintro e w' ⟨rfl, ⟨nd, rfl⟩⟩; refine ⟨_, rfl, ?_⟩) | ((with_reducible refine gate_callee (f := 34) rfl ?_); refine gl_ (some 24) Tryz.func34 #[.string t230] ?_; (with_reducible refine (spec_ReadSheet.calls k1 t230 t231 t232 _ A7.out).mono ?_); rintro e w10 ⟨v233, rfl, ho0, hb⟩; refine ⟨_, rfl, ?_⟩; have n_ := an4_ (Kd.N_elder' (by (with_reducible repeat (first | apply Kd.N_alloc | apply Kd.N_drewN | apply Kd.N_drew)); exact (Kd.N_mono (Kd.N_far (Kd.N_far (Kd.N_far (Kd.N_far (Kd.N_mono HO_3.out (fun k_ hk => (⟨hk, hk.2⟩ : _ ∧ k_ ≠ gb229))) (fun _ hk => hk.2) _) (fun _ hk => hk.2) _) (fun _ hk => hk.2) _) (fun _ hk => hk.2) _) (fun _ h_ => h_.1))) (Kd.R_base ho0) hb) (Kd.N_lower (Kd.N_mono (ok' := fun k_ => (w.heap.size ≤ k_) ∧ some k_ ≠ (u3 : Value).ownBlock ∧ k_ ≠ gb229) (Kd.R_N (Kd.R_bound ho0)) (fun k_ hk_ => ⟨(Nat.le_trans (below_size bes_) hk_.2.1), (Kd.fresh' (Kd.N_lt (by (with_reducible repeat (first | apply Kd.N_alloc | apply Kd.N_drewN | apply Kd.N_drew)); exact (Kd.N_mono (Kd.N_far (Kd.N_far (Kd.N_far (Kd.N_far (Kd.N_mono HO_3.out (fun k_ hk => (⟨hk, hk.2⟩ : _ ∧ k_ ≠ gb229))) (fun _ hk => hk.2) _) (fun _ hk => hk.2) _) (fun _ hk => hk.2) _) (fun _ hk => hk.2) _) (fun _ h_ => h_.1)))) k_ hk_.2.1), (Kd.freshB (g := gb229) (o := .cells #[.string ((rd_T40 l0 x12_1).f0), .int .i64 ((rd_T40 l0 x12_1).f1), .slice A228_2 ((rd_T40 l0 x12_1).f2).length c228_2, .string ((rd_T40 l0 x12_1).f3)] 40 (0, 0)) (bp_ BK229.out) k_ hk_.2.1)⟩)) (below_size bes_)) (blk_below (g := gb229) (o := .cells #[.string ((rd_T40 l0 x12_1).f0), .int .i64 ((rd_T40 l0 x12_1).f1), .slice A228_2 ((rd_T40 l0 x12_1).f2).length c228_2, .string ((rd_T40 l0 x12_1).f3)] 40 (0, 0)) (bp_ BK229.out) hb) (below_step bes_ hb); clear HO_3 BK229 HB; obtain ⟨HO_3, HO234, BK229, HB⟩ := n_; (try clear hb);(try clear hb2);(try clear hk);(try clear hi);(try clear ho0); obtain ⟨Ao11, co11, eo11⟩ := Kd.N_slice HO234.out; subst eo11))
     go_loopg [3, 29] k1 (fun kq v3 v29 w' => ∃ (x3_2 : List (S50)) (x29_2 : Int), v29 = .int .i64 x29_2 ∧ Aside0 (spec_l6In.l1 kq l0 x3_2 l0 (l0.length : Int) x12_1 t231 (t231.length : Int) x29_2 = some r) ∧ Aside0 (kq ≤ k1) ∧ Aside0 (Kd.N k50 50 w' w.heap.size (fun k_ => (w.heap.size ≤ k_) ∧ some k_ ≠ ((.slice Ao11 t231.length co11) : Value).ownBlock ∧ k_ ≠ gb229) v3 x3_2) ∧ Aside0 (Kd.N k50 50 w' w.heap.size (fun k_ => (w.heap.size ≤ k_) ∧ some k_ ≠ (v3 : Value).ownBlock ∧ k_ ≠ gb229) (.slice Ao11 t231.length co11) t231) ∧ Aside0 (w'.heap[gb229]? = some (.cells #[.string ((rd_T40 l0 x12_1).f0), .int .i64 ((rd_T40 l0 x12_1).f1), (.slice A228_2 ((rd_T40 l0 x12_1).f2).length c228_2), .string ((rd_T40 l0 x12_1).f3)] 40 (0, 0))) ∧ Aside0 (Below w.heap.size w w'))
     case atStart => exact ⟨(x3_1), (0), sv_, H', ⟨Nat.le_refl _⟩, ⟨by (with_reducible repeat (first | apply Kd.N_alloc | apply Kd.N_drewN | apply Kd.N_drew)); exact Kd.N_mono HO_3.out (fun _ hk => ⟨hk.1.1, ⟨hk.2, hk.1.2⟩⟩)⟩, ⟨by (with_reducible repeat (first | apply Kd.N_alloc | apply Kd.N_drewN | apply Kd.N_drew)); exact HO234.out⟩, ⟨bp_ BK229.out⟩, ⟨bes_⟩⟩
     case round =>
      clear H'; (try clear c2b0);(try clear c3b0);(try clear c4b0);(try clear c5b0);(try clear c5b1);(try clear z9_0);(try clear z9_1);(try clear z9_2);(try clear z9_3);(try clear y9_0);(try clear y9_1);(try clear y9_2);(try clear y9_3);(try clear hx228_0);(try clear hx228_1);(try clear hx228_2);(try clear hx228_3);(try clear p228);(try clear q228)
      obtain ⟨x3_2, x29_2, rfl, HA, HK2, HO_3, HO_27, BK229, HB⟩ := hrel; cases gk with
      | zero => exact absurd HA.out (by simp [spec_l6In.l1])
      | succ k2 =>
       have H := HA.out; clear HA; simp only [spec_l6In.l1] at H
       replace H := ied_ H; rcases H with ⟨c12b0, H⟩ | ⟨c12b0, H⟩
       ·replace H := itd_ H; obtain ⟨c13b0, H⟩ := H; replace H := itd_ H; obtain ⟨c14b0, H⟩ := H; replace H := ite_ H; rcases H with ⟨c15, H⟩ | ⟨c15, H⟩
        ·have c15b0 := decide_eq_true c15; have c15b1 : decide (x3_2.length < 30) = true := decide_eq_true (by omega)
         clear c15; replace H := itn_ H; obtain ⟨c16, H⟩ := H; have LMc16 := ak_ c16; clear c16; obtain ⟨y237, hy237⟩ : ∃ y_ : List (S50), y_ = (x3_2 ++ [(⟨(rd_T50 t231 x29_2).f0, (rd_T50 t231 x29_2).f1⟩ : S50)]) := ⟨_, rfl⟩
         replace H : (spec_l6In.l1 k2 l0 y237 l0 (l0.length : Int) x12_1 t231 (t231.length : Int) (wrap64 (x29_2 + 1))) = some r := by first | (rw [hy237]; with_reducible exact H) | (have H2_ := (Option.bind_some _ _).symm.trans H; rw [hy237]; with_reducible exact H2_) | (have H2_ := (Option.bind_some _ _).symm.trans H; with_reducible exact H2_) | with_reducible exact H | (rw [hy237]; exact H) | exact H
         have Ny237 := ak_ hy237; clear hy237; have H' := ak_ H; clear H; have p235 : 0 ≤ (x29_2 : Int) := oda_
         have q235 : x29_2 < (t231.length : Int) := oda_
         obtain ⟨ad235, A235_0, c235_0, A235_1, c235_1, e235, hx235_0, hx235_1, hl235_0, hi235_0, hl235_1, hi235_1⟩ := at_T50 (Kd.N_reads' HO_27.out).2.2 x29_2 p235 q235; cases e235; obtain ⟨ce235, hce235, hMe235, hcc235⟩ := Kd.N_get HO_27.out z50 x29_2 p235 (by first | exact q235 | exact oda_ | (have e_ := (Kd.N_reads' HO_27.out).1; omega))
         obtain ⟨ua235_0, uc235_0, ua235_1, uc235_1, rfl, ul235_0, ge235_0, ul235_1, ge235_1⟩ := k50_openF hMe235; have hv235_0 := hcc235 0 _ rfl; rw [Nat.add_zero] at hv235_0; replace hv235_0 := Option.some.inj (hv235_0.symm.trans hx235_0); injection hv235_0 with hva_ hvn_ hvc_
         rw [hva_] at ge235_0; rw [hvc_] at ul235_0; have HL235_0 := ak_ (show Kd.V (Kd.slice 102 k102) 78 _ w.heap.size _ _ ((rd_T50 t231 x29_2).f0) from Kd.V_mk ul235_0 ge235_0); clear hva_ hvn_ hvc_ ge235_0 ul235_0; have hv235_1 := hcc235 1 _ rfl; rw [add_field _ _ 1 (by omega)] at hv235_1; replace hv235_1 := Option.some.inj (hv235_1.symm.trans hx235_1); injection hv235_1 with hva_ hvn_ hvc_
         rw [hva_] at ge235_1; rw [hvc_] at ul235_1; have HL235_1 := ak_ (show Kd.V k80 80 _ w.heap.size _ _ ((rd_T50 t231 x29_2).f1) from Kd.V_mk ul235_1 ge235_1); clear hva_ hvn_ hvc_ ge235_1 ul235_1 hcc235 hce235; have HR235_0 := ak_ hi235_0; have HC235_0 := ak_ hl235_0; clear hi235_0 hl235_0; have HR235_1 := ak_ hi235_1; have HC235_1 := ak_ hl235_1; clear hi235_1 hl235_1; replace p235 := eq_true p235; replace q235 := eq_true q235; go_wp2_with (first | ((with_reducible refine gate_dst (N := 9) rfl ?_); refine bx_ (N := 9) (cs := #[.slice none 0 0, .slice none 0 0]) (t := 50) ?_; intro gb236 hg w17 hbox hb; have n0_ := ak_ (Kd.N_below (Kd.N_elderB (by (with_reducible repeat (first | apply Kd.N_alloc | apply Kd.N_drewN | apply Kd.N_drew)); exact HO_3.out) gb236 (Nat.le_of_eq hg.symm)) hb); have n1_ := ak_ (Kd.N_below (Kd.N_elderB (by (with_reducible repeat (first | apply Kd.N_alloc | apply Kd.N_drewN | apply Kd.N_drew)); exact HO_27.out) gb236 (Nat.le_of_eq hg.symm)) hb); have n2_ := ak_ (Kd.V_below (Kd.V_elderB (by (with_reducible repeat (first | apply Kd.V_alloc | apply Kd.V_drewN | apply Kd.V_drew)); exact HL235_0.out) gb236 (Nat.le_of_eq hg.symm)) hb); have n3_ := ak_ (Kd.V_below (Kd.V_elderB (by (with_reducible repeat (first | apply Kd.V_alloc | apply Kd.V_drewN | apply Kd.V_drew)); exact HL235_1.out) gb236 (Nat.le_of_eq hg.symm)) hb); have n4_ := ak_ (blk_below (g := gb229) (o := .cells #[.string ((rd_T40 l0 x12_1).f0), .int .i64 ((rd_T40 l0 x12_1).f1), .slice A228_2 ((rd_T40 l0 x12_1).f2).length c228_2, .string ((rd_T40 l0 x12_1).f3)] 40 (0, 0)) (bk_ BK229.out) hb); have n5_ := ak_ (Kd.C_below (by repeat (first | (with_reducible exact HR235_0.out) | (with_reducible refine Kd.C_alloc ?_ _) | (with_reducible refine Kd.C_drewN ?_ _) | (with_reducible refine Kd.C_drew ?_) | exact HR235_0.out)) hb); have n6_ := ak_ (Kd.C_below (by repeat (first | (with_reducible exact HR235_1.out) | (with_reducible refine Kd.C_alloc ?_ _) | (with_reducible refine Kd.C_drewN ?_ _) | (with_reducible refine Kd.C_drew ?_) | exact HR235_1.out)) hb); have n7_ := ak_ (below_step bes_ hb); have n8_ := ak_ (hbox); have n9_ := ak_ (gsl_ hg HB.out); have n10_ := ak_ (gsl_ hg HB.out); have n11_ := ak_ ((by rw [hg]; exact Nat.ne_of_lt (blk_lt (g := gb229) (o := .cells #[.string ((rd_T40 l0 x12_1).f0), .int .i64 ((rd_T40 l0 x12_1).f1), .slice A228_2 ((rd_T40 l0 x12_1).f2).length c228_2, .string ((rd_T40 l0 x12_1).f3)] 40 (0, 0)) (bk_ BK229.out)) : gb229 ≠ gb236)); have n12_ := ak_ ((by rw [hg]; exact Nat.ne_of_gt (blk_lt (g := gb229) (o := .cells #[.string ((rd_T40 l0 x12_1).f0), .int .i64 ((rd_T40 l0 x12_1).f1), .slice A228_2 ((rd_T40 l0 x12_1).f2).length c228_2, .string ((rd_T40 l0 x12_1).f3)] 40 (0, 0)) (bk_ BK229.out)) : gb236 ≠ gb229)); clear HO_3; clear HO_27; clear HL235_0; clear HL235_1; clear BK229; clear HR235_0; clear HR235_1; clear HB; have HO_3 := n0_; have HO_27 := n1_; have HL235_0 := n2_; have HL235_1 := n3_; have BK229 := n4_; have HR235_0 := n5_; have HR235_1 := n6_; have HB := n7_; have BK236 := n8_; have GW236 := n9_; have GE236 := n10_; have NB229_236 := n11_; have NB236_229 := n12_; clear n0_ n1_ n2_ n3_ n4_ n5_ n6_ n7_ n8_ n9_ n10_ n11_ n12_; clear hb hbox hg; have hnb18 := NB236_229.out; have hnc18 := NB229_236.out; obtain ⟨z19_0, z19_1, y19_0, y19_1⟩ := bcz2 BK236.out) | ((with_reducible refine gate_store (t := 50) (p := 9) rfl ?_); refine store_event (t := 50) (p := 9) (v := ?vo_w20) (w1 := ((w17.setCell ⟨gb236, 0, none⟩ (.slice A235_0 ((rd_T50 t231 x29_2).f0).length c235_0)).setCell ⟨gb236, 1, none⟩ (.slice A235_1 ((rd_T50 t231 x29_2).f1).length c235_1))) ?hg ?ho ?hn ?hr ?_; (case ho => rfl); (case hg => rfl); (case hn => rfl); (case hr => first | (go_simp; done) | (go_simp; rfl)); intro w20 hw; have n0_ : Aside0 (Kd.N k50 50 w20 w.heap.size (fun k_ => (w.heap.size ≤ k_) ∧ some k_ ≠ (.slice (some ad235) t231.length co11 : Value).ownBlock ∧ k_ ≠ gb229 ∧ k_ ≠ gb236) u3 x3_2) := ⟨(by rw [hw]; exact (by (with_reducible repeat (first | apply Kd.N_alloc | apply Kd.N_drewN | apply Kd.N_drew)); exact Kd.N_mono (Kd.N_far (Kd.N_far (Kd.N_mono HO_3.out (fun k_ hk => (⟨hk, hk.2⟩ : _ ∧ k_ ≠ gb236))) (fun _ hk => hk.2) _) (fun _ hk => hk.2) _) (fun _ hk => ⟨hk.1.1.1, ⟨hk.1.1.2.1, ⟨hk.1.1.2.2, hk.1.2⟩⟩⟩)))⟩; have n1_ : Aside0 (Kd.N k50 50 w20 w.heap.size (fun k_ => (w.heap.size ≤ k_) ∧ some k_ ≠ (u3 : Value).ownBlock ∧ k_ ≠ gb229 ∧ k_ ≠ gb236) (.slice (some ad235) t231.length co11) t231) := ⟨(by rw [hw]; exact (by (with_reducible repeat (first | apply Kd.N_alloc | apply Kd.N_drewN | apply Kd.N_drew)); exact Kd.N_mono (Kd.N_far (Kd.N_far (Kd.N_mono HO_27.out (fun k_ hk => (⟨hk, hk.2⟩ : _ ∧ k_ ≠ gb236))) (fun _ hk => hk.2) _) (fun _ hk => hk.2) _) (fun _ hk => ⟨hk.1.1.1, ⟨hk.1.1.2.1, ⟨hk.1.1.2.2, hk.1.2⟩⟩⟩)))⟩; have n2_ : Aside0 (Kd.V (Kd.slice 102 k102) 78 w20 w.heap.size (fun k_ => (w.heap.size ≤ k_) ∧ some k_ ≠ (u3 : Value).ownBlock ∧ some k_ ≠ (.slice (some ad235) t231.length co11 : Value).ownBlock ∧ k_ ≠ gb229 ∧ k_ ≠ gb236) (.slice A235_0 ((rd_T50 t231 x29_2).f0).length c235_0) ((rd_T50 t231 x29_2).f0)) := ⟨(by rw [hw]; exact (by (with_reducible repeat (first | apply Kd.V_alloc | apply Kd.V_drewN | apply Kd.V_drew)); exact Kd.V_mono (Kd.V_far (Kd.V_far (Kd.V_mono HL235_0.out (fun k_ hk => (⟨hk, hk.2⟩ : _ ∧ k_ ≠ gb236))) (fun _ hk => hk.2) _) (fun _ hk => hk.2) _) (fun _ hk => ⟨hk.1.1.1.1, ⟨hk.1.1.1.2.1, ⟨hk.1.1.2, ⟨hk.1.1.1.2.2, hk.1.2⟩⟩⟩⟩)))⟩; have n3_ : Aside0 (Kd.V k80 80 w20 w.heap.size (fun k_ => (w.heap.size ≤ k_) ∧ some k_ ≠ (u3 : Value).ownBlock ∧ some k_ ≠ (.slice (some ad235) t231.length co11 : Value).ownBlock ∧ k_ ≠ gb229 ∧ k_ ≠ gb236) (.slice A235_1 ((rd_T50 t231 x29_2).f1).length c235_1) ((rd_T50 t231 x29_2).f1)) := ⟨(by rw [hw]; exact (by (with_reducible repeat (first | apply Kd.V_alloc | apply Kd.V_drewN | apply Kd.V_drew)); exact Kd.V_mono (Kd.V_far (Kd.V_far (Kd.V_mono HL235_1.out (fun k_ hk => (⟨hk, hk.2⟩ : _ ∧ k_ ≠ gb236))) (fun _ hk => hk.2) _) (fun _ hk => hk.2) _) (fun _ hk => ⟨hk.1.1.1.1, ⟨hk.1.1.1.2.1, ⟨hk.1.1.2, ⟨hk.1.1.1.2.2, hk.1.2⟩⟩⟩⟩)))⟩; have n4_ : Aside0 (w20.heap[gb229]? = some (.cells #[.string ((rd_T40 l0 x12_1).f0), .int .i64 ((rd_T40 l0 x12_1).f1), .slice A228_2 ((rd_T40 l0 x12_1).f2).length c228_2, .string ((rd_T40 l0 x12_1).f3)] 40 (0, 0))) := ⟨(by rw [hw]; exact (bp_ BK229.out))⟩; have n5_ : Aside0 (w20.heap[gb236]? = some (.cells #[.slice A235_0 ((rd_T50 t231 x29_2).f0).length c235_0, .slice A235_1 ((rd_T50 t231 x29_2).f1).length c235_1] 50 (0, 0))) := ⟨(by rw [hw]; exact (bp_ BK236.out))⟩; have n6_ : Aside0 (Below w.heap.size w w20) := ⟨(by rw [hw]; exact bes_)⟩; clear hw; clear HO_3; clear HO_27; clear HL235_0; clear HL235_1; clear BK229; clear BK236; clear HB; have HO_3 := n0_; have HO_27 := n1_; have HL235_0 := n2_; have HL235_1 := n3_; have BK229 := n4_; have BK236 := n5_; have HB := n6_; clear n0_ n1_ n2_ n3_ n4_ n5_ n6_; obtain ⟨Ao21, co21, eo21⟩ := Kd.N_slice HO_3.out; subst eo21; obtain ⟨z22_0, z22_1, y22_0, y22_1⟩ := bcz2 BK236.out) | ((with_reducible refine gate_builtin (b := .append) (xs := #[.tmp 36, .tmp 38]) rfl ?_); at_builtin; refine Kd.N_append k50 (w0 := w) w.heap.size rfl (.tmp 36) (.tmp 38) 24 50 (.agg #[(.slice none 0 0), (.slice none 0 0)]) 48 rfl Tryz.underlying24 info50 rfl (by decide) (by omega) (.slice Ao21 x3_2.length co21) x3_2 (⟨(rd_T50 t231 x29_2).f0, (rd_T50 t231 x29_2).f1⟩ : S50) [.slice A235_0 ((rd_T50 t231 x29_2).f0).length c235_0, .slice A235_1 ((rd_T50 t231 x29_2).f1).length c235_1] (fun k_ => (w.heap.size ≤ k_) ∧ some k_ ≠ (.slice (some ad235) t231.length co11 : Value).ownBlock ∧ k_ ≠ gb229 ∧ k_ ≠ gb236) (fun k_ => ((fun k_ => (w.heap.size ≤ k_) ∧ some k_ ≠ (.slice (some ad235) t231.length co11 : Value).ownBlock ∧ k_ ≠ gb229 ∧ k_ ≠ gb236)) k_ ∧ some k_ ≠ (.slice Ao21 x3_2.length co21 : Value).ownBlock) rfl rfl ?aP (fun _ hk => hk) ?aF ?aO ?aB ?aS ?aL ?_; (case aP => exact (k50_mkF _ _ (⟨(rd_T50 t231 x29_2).f0, (rd_T50 t231 x29_2).f1⟩ : S50) (Kd.V_reads' (Kd.V_mono (ok' := (fun k_ => ((fun k_ => (w.heap.size ≤ k_) ∧ some k_ ≠ (.slice (some ad235) t231.length co11 : Value).ownBlock ∧ k_ ≠ gb229 ∧ k_ ≠ gb236)) k_ ∧ some k_ ≠ (.slice Ao21 x3_2.length co21 : Value).ownBlock)) (HL235_0.out) (fun k_ hk => ⟨⟨hk.1, ⟨hk.2.2.1, ⟨hk.2.2.2.1, hk.2.2.2.2⟩⟩⟩, hk.2.1⟩))).2.1 (Kd.V_F (Kd.V_mono (ok' := (fun k_ => ((fun k_ => (w.heap.size ≤ k_) ∧ some k_ ≠ (.slice (some ad235) t231.length co11 : Value).ownBlock ∧ k_ ≠ gb229 ∧ k_ ≠ gb236)) k_ ∧ some k_ ≠ (.slice Ao21 x3_2.length co21 : Value).ownBlock)) (HL235_0.out) (fun k_ hk => ⟨⟨hk.1, ⟨hk.2.2.1, ⟨hk.2.2.2.1, hk.2.2.2.2⟩⟩⟩, hk.2.1⟩))) (Kd.V_reads' (Kd.V_mono (ok' := (fun k_ => ((fun k_ => (w.heap.size ≤ k_) ∧ some k_ ≠ (.slice (some ad235) t231.length co11 : Value).ownBlock ∧ k_ ≠ gb229 ∧ k_ ≠ gb236)) k_ ∧ some k_ ≠ (.slice Ao21 x3_2.length co21 : Value).ownBlock)) (HL235_1.out) (fun k_ hk => ⟨⟨hk.1, ⟨hk.2.2.1, ⟨hk.2.2.2.1, hk.2.2.2.2⟩⟩⟩, hk.2.1⟩))).2.1 (Kd.V_F (Kd.V_mono (ok' := (fun k_ => ((fun k_ => (w.heap.size ≤ k_) ∧ some k_ ≠ (.slice (some ad235) t231.length co11 : Value).ownBlock ∧ k_ ≠ gb229 ∧ k_ ≠ gb236)) k_ ∧ some k_ ≠ (.slice Ao21 x3_2.length co21 : Value).ownBlock)) (HL235_1.out) (fun k_ hk => ⟨⟨hk.1, ⟨hk.2.2.1, ⟨hk.2.2.2.1, hk.2.2.2.2⟩⟩⟩, hk.2.1⟩))))); (case aB => exact bes_); (case aF => exact (fun k_ hk => ⟨(Nat.le_trans (below_size bes_) hk), Kd.fresh' (Kd.N_lt (by (with_reducible repeat (first | apply Kd.N_alloc | apply Kd.N_drewN | apply Kd.N_drew)); exact HO_27.out)) k_ hk, Kd.freshB (g := gb229) (o := .cells #[.string ((rd_T40 l0 x12_1).f0), .int .i64 ((rd_T40 l0 x12_1).f1), .slice A228_2 ((rd_T40 l0 x12_1).f2).length c228_2, .string ((rd_T40 l0 x12_1).f3)] 40 (0, 0)) (bk_ BK229.out) k_ hk, Kd.freshB (g := gb236) (o := .cells #[.slice A235_0 ((rd_T50 t231 x29_2).f0).length c235_0, .slice A235_1 ((rd_T50 t231 x29_2).f1).length c235_1] 50 (0, 0)) (bk_ BK236.out) k_ hk⟩)); (case aO => exact (by (with_reducible repeat (first | apply Kd.N_alloc | apply Kd.N_drewN | apply Kd.N_drew)); exact HO_3.out)); (case aS => exact (below_size bes_)); (case aL => have := LMc16.out; omega); intro v238 w23 ho hb hg hat; rw [← Ny237.out] at ho; have n_ := an7_ (Kd.N_afterv (ok := (fun k_ => (w.heap.size ≤ k_) ∧ k_ ≠ gb229 ∧ k_ ≠ gb236)) (by (with_reducible repeat (first | apply Kd.N_alloc | apply Kd.N_drewN | apply Kd.N_drew)); exact Kd.N_mono HO_27.out (fun _ hk => ⟨⟨hk.1, ⟨hk.2.2.1, hk.2.2.2⟩⟩, hk.2.1⟩)) hg hat) (blk_grown (g := gb229) (o := .cells #[.string ((rd_T40 l0 x12_1).f0), .int .i64 ((rd_T40 l0 x12_1).f1), .slice A228_2 ((rd_T40 l0 x12_1).f2).length c228_2, .string ((rd_T40 l0 x12_1).f3)] 40 (0, 0)) (bk_ BK229.out) hg (Kd.N_ne HO_3.out BK229.out (by decide))) (Kd.V_afterv (ok := (fun k_ => (w.heap.size ≤ k_) ∧ some k_ ≠ (.slice (some ad235) t231.length co11 : Value).ownBlock ∧ k_ ≠ gb229 ∧ k_ ≠ gb236)) (by (with_reducible repeat (first | apply Kd.V_alloc | apply Kd.V_drewN | apply Kd.V_drew)); exact Kd.V_mono HL235_0.out (fun _ hk => ⟨⟨hk.1, ⟨hk.2.2.1, ⟨hk.2.2.2.1, hk.2.2.2.2⟩⟩⟩, hk.2.1⟩)) hg hat) (Kd.V_afterv (ok := (fun k_ => (w.heap.size ≤ k_) ∧ some k_ ≠ (.slice (some ad235) t231.length co11 : Value).ownBlock ∧ k_ ≠ gb229 ∧ k_ ≠ gb236)) (by (with_reducible repeat (first | apply Kd.V_alloc | apply Kd.V_drewN | apply Kd.V_drew)); exact Kd.V_mono HL235_1.out (fun _ hk => ⟨⟨hk.1, ⟨hk.2.2.1, ⟨hk.2.2.2.1, hk.2.2.2.2⟩⟩⟩, hk.2.1⟩)) hg hat) (blk_grown (g := gb236) (o := .cells #[.slice A235_0 ((rd_T50 t231 x29_2).f0).length c235_0, .slice A235_1 ((rd_T50 t231 x29_2).f1).length c235_1] 50 (0, 0)) (bk_ BK236.out) hg (Kd.N_away HO_3.out (fun _ hk => hk.2.2.2))) (hb) (ho); clear HO_27 BK229 HL235_0 HL235_1 BK236 HB HO_3; obtain ⟨HO_27, BK229, HL235_0, HL235_1, BK236, HB, HO239⟩ := n_; clear ho hb hg hat))
         go_roundg k2
         case measure => have := HK1.out; have := HK2.out; omega
         case rel => exact ⟨(y237), (wrap64 (x29_2 + 1)), sv_, H', ⟨by have := HK1.out; have := HK2.out; omega⟩, ⟨by (with_reducible repeat (first | apply Kd.N_alloc | apply Kd.N_drewN | apply Kd.N_drew)); exact Kd.N_mono HO239.out (fun _ hk => ⟨hk.1, ⟨hk.2.1, hk.2.2.1⟩⟩)⟩, ⟨by (with_reducible repeat (first | apply Kd.N_alloc | apply Kd.N_drewN | apply Kd.N_drew)); exact Kd.N_mono HO_27.out (fun _ hk => ⟨hk.1.1, ⟨hk.2, hk.1.2.1⟩⟩)⟩, ⟨bp_ BK229.out⟩, ⟨bes_⟩⟩
        ·have c15b0 := decide_eq_false c15; have c15b1 : decide (x3_2.length < 30) = false := decide_eq_false (by omega)
         clear c15; have H' := ak_ H; clear H; have p235 : 0 ≤ (x29_2 : Int) := oda_
         have q235 : x29_2 < (t231.length : Int) := oda_
         obtain ⟨ad235, A235_0, c235_0, A235_1, c235_1, e235, hx235_0, hx235_1, hl235_0, hi235_0, hl235_1, hi235_1⟩ := at_T50 (Kd.N_reads' HO_27.out).2.2 x29_2 p235 q235; cases e235; obtain ⟨ce235, hce235, hMe235, hcc235⟩ := Kd.N_get HO_27.out z50 x29_2 p235 (by first | exact q235 | exact oda_ | (have e_ := (Kd.N_reads' HO_27.out).1; omega))
         obtain ⟨ua235_0, uc235_0, ua235_1, uc235_1, rfl, ul235_0, ge235_0, ul235_1, ge235_1⟩ := k50_openF hMe235; have hv235_0 := hcc235 0 _ rfl; rw [Nat.add_zero] at hv235_0; replace hv235_0 := Option.some.inj (hv235_0.symm.trans hx235_0); injection hv235_0 with hva_ hvn_ hvc_
         rw [hva_] at ge235_0; rw [hvc_] at ul235_0; have HL235_0 := ak_ (show Kd.V (Kd.slice 102 k102) 78 _ w.heap.size _ _ ((rd_T50 t231 x29_2).f0) from Kd.V_mk ul235_0 ge235_0); clear hva_ hvn_ hvc_ ge235_0 ul235_0; have hv235_1 := hcc235 1 _ rfl; rw [add_field _ _ 1 (by omega)] at hv235_1; replace hv235_1 := Option.some.inj (hv235_1.symm.trans hx235_1); injection hv235_1 with hva_ hvn_ hvc_
         rw [hva_] at ge235_1; rw [hvc_] at ul235_1; have HL235_1 := ak_ (show Kd.V k80 80 _ w.heap.size _ _ ((rd_T50 t231 x29_2).f1) from Kd.V_mk ul235_1 ge235_1); clear hva_ hvn_ hvc_ ge235_1 ul235_1 hcc235 hce235; have HR235_0 := ak_ hi235_0; have HC235_0 := ak_ hl235_0; clear hi235_0 hl235_0; have HR235_1 := ak_ hi235_1; have HC235_1 := ak_ hl235_1; clear hi235_1 hl235_1; replace p235 := eq_true p235; replace q235 := eq_true q235; go_wp2_with (first | ((with_reducible refine gate_dst (N := 9) rfl ?_); refine bx_ (N := 9) (cs := #[.slice none 0 0, .slice none 0 0]) (t := 50) ?_; intro gb236 hg w24 hbox hb; have n0_ := ak_ (Kd.N_below (Kd.N_elderB (by (with_reducible repeat (first | apply Kd.N_alloc | apply Kd.N_drewN | apply Kd.N_drew)); exact HO_3.out) gb236 (Nat.le_of_eq hg.symm)) hb); have n1_ := ak_ (Kd.N_below (Kd.N_elderB (by (with_reducible repeat (first | apply Kd.N_alloc | apply Kd.N_drewN | apply Kd.N_drew)); exact HO_27.out) gb236 (Nat.le_of_eq hg.symm)) hb); have n2_ := ak_ (Kd.V_below (Kd.V_elderB (by (with_reducible repeat (first | apply Kd.V_alloc | apply Kd.V_drewN | apply Kd.V_drew)); exact HL235_0.out) gb236 (Nat.le_of_eq hg.symm)) hb); have n3_ := ak_ (Kd.V_below (Kd.V_elderB (by (with_reducible repeat (first | apply Kd.V_alloc | apply Kd.V_drewN | apply Kd.V_drew)); exact HL235_1.out) gb236 (Nat.le_of_eq hg.symm)) hb); have n4_ := ak_ (blk_below (g := gb229) (o := .cells #[.string ((rd_T40 l0 x12_1).f0), .int .i64 ((rd_T40 l0 x12_1).f1), .slice A228_2 ((rd_T40 l0 x12_1).f2).length c228_2, .string ((rd_T40 l0 x12_1).f3)] 40 (0, 0)) (bk_ BK229.out) hb); have n5_ := ak_ (Kd.C_below (by repeat (first | (with_reducible exact HR235_0.out) | (with_reducible refine Kd.C_alloc ?_ _) | (with_reducible refine Kd.C_drewN ?_ _) | (with_reducible refine Kd.C_drew ?_) | exact HR235_0.out)) hb); have n6_ := ak_ (Kd.C_below (by repeat (first | (with_reducible exact HR235_1.out) | (with_reducible refine Kd.C_alloc ?_ _) | (with_reducible refine Kd.C_drewN ?_ _) | (with_reducible refine Kd.C_drew ?_) | exact HR235_1.out)) hb); have n7_ := ak_ (below_step bes_ hb); have n8_ := ak_ (hbox); have n9_ := ak_ (gsl_ hg HB.out); have n10_ := ak_ (gsl_ hg HB.out); have n11_ := ak_ ((by rw [hg]; exact Nat.ne_of_lt (blk_lt (g := gb229) (o := .cells #[.string ((rd_T40 l0 x12_1).f0), .int .i64 ((rd_T40 l0 x12_1).f1), .slice A228_2 ((rd_T40 l0 x12_1).f2).length c228_2, .string ((rd_T40 l0 x12_1).f3)] 40 (0, 0)) (bk_ BK229.out)) : gb229 ≠ gb236)); have n12_ := ak_ ((by rw [hg]; exact Nat.ne_of_gt (blk_lt (g := gb229) (o := .cells #[.string ((rd_T40 l0 x12_1).f0), .int .i64 ((rd_T40 l0 x12_1).f1), .slice A228_2 ((rd_T40 l0 x12_1).f2).length c228_2, .string ((rd_T40 l0 x12_1).f3)] 40 (0, 0)) (bk_ BK229.out)) : gb236 ≠ gb229)); clear HO_3; clear HO_27; clear HL235_0; clear HL235_1; clear BK229; clear HR235_0; clear HR235_1; clear HB; have HO_3 := n0_; have HO_27 := n1_; have HL235_0 := n2_; have HL235_1 := n3_; have BK229 := n4_; have HR235_0 := n5_; have HR235_1 := n6_; have HB := n7_; have BK236 := n8_; have GW236 := n9_; have GE236 := n10_; have NB229_236 := n11_; have NB236_229 := n12_; clear n0_ n1_ n2_ n3_ n4_ n5_ n6_ n7_ n8_ n9_ n10_ n11_ n12_; clear hb hbox hg; have hnb25 := NB236_229.out; have hnc25 := NB229_236.out; obtain ⟨z26_0, z26_1, y26_0, y26_1⟩ := bcz2 BK236.out; obtain ⟨Ao27, co27, eo27⟩ := Kd.N_slice HO_3.out; subst eo27))
         go_roundg k2
         case measure => have := HK1.out; have := HK2.out; omega
         case rel => exact ⟨(x3_2), (wrap64 (x29_2 + 1)), sv_, H', ⟨by have := HK1.out; have := HK2.out; omega⟩, ⟨by (with_reducible repeat (first | apply Kd.N_alloc | apply Kd.N_drewN | apply Kd.N_drew)); exact Kd.N_mono (Kd.N_far (Kd.N_far (Kd.N_mono HO_3.out (fun k_ hk => (⟨hk, hk.2⟩ : _ ∧ k_ ≠ gb236))) (fun _ hk => hk.2) _) (fun _ hk => hk.2) _) (fun _ hk => ⟨hk.1.1.1, ⟨hk.1.1.2.1, hk.1.1.2.2⟩⟩)⟩, ⟨by (with_reducible repeat (first | apply Kd.N_alloc | apply Kd.N_drewN | apply Kd.N_drew)); exact Kd.N_mono (Kd.N_far (Kd.N_far (Kd.N_mono HO_27.out (fun k_ hk => (⟨hk, hk.2⟩ : _ ∧ k_ ≠ gb236))) (fun _ hk => hk.2) _) (fun _ hk => hk.2) _) (fun _ hk => ⟨hk.1.1.1, ⟨hk.1.1.2.1, hk.1.1.2.2⟩⟩)⟩, ⟨bp_ BK229.out⟩, ⟨bes_⟩⟩
       ·have H' := ak_ H; clear H; go_wp2; go_roundg k2
        case measure => have := HK1.out; have := HK2.out; omega
        case rel => exact ⟨(x3_2), (wrap64 (x12_1 + 1)), sv_, H', ⟨by have := HK1.out; have := HK2.out; omega⟩, ⟨by (with_reducible repeat (first | apply Kd.N_alloc | apply Kd.N_drewN | apply Kd.N_drew)); exact Kd.N_mono HO_3.out (fun _ hk => hk.1)⟩, ⟨bes_⟩⟩
    ·have c5b0 := beq_eq_false_iff_ne.mpr c5; have c5b1 := bne_iff_ne.mpr c5; have H' := ak_ H; clear H; have p228 : (0 ≤ (x12_1 : Int)) = True := odt_
     have q228 : (x12_1 < (l0.length : Int)) = True := odt_
     obtain ⟨ad228, A228_2, c228_2, e228, hx228_0, hx228_1, hx228_2, hx228_3, hl228_2, hi228_2⟩ := at_T40 HR0.out x12_1 oda_ oda_; cases e228; replace hx228_0 := pb_ HB hx228_0; replace hx228_1 := pb_ HB hx228_1; replace hx228_2 := pb_ HB hx228_2; replace hx228_3 := pb_ HB hx228_3; have HR228_2 := ak_ hi228_2; have HC228_2 := ak_ hl228_2; clear hi228_2 hl228_2; go_wp2_with (first | ((with_reducible refine gate_dst (N := 5) rfl ?_); refine bx_ (N := 5) (cs := #[.string (⟨#[]⟩ : ByteArray), .int .i64 0, .slice none 0 0, .string (⟨#[]⟩ : ByteArray)]) (t := 40) ?_; intro gb229 hg w28 hbox hb; have n_ := an5_ (Kd.N_below (Kd.N_elderB (by (with_reducible repeat (first | apply Kd.N_alloc | apply Kd.N_drewN | apply Kd.N_drew)); exact HO_3.out) gb229 (Nat.le_of_eq hg.symm)) hb) (below_step bel_ hb) (hbox) (gsl_ hg HB.out) (gsl_ hg HB.out); clear HO_3 HB; obtain ⟨HO_3, HB, BK229, GW229, GE229⟩ := n_; clear hb hbox hg; obtain ⟨z29_0, z29_1, z29_2, z29_3, y29_0, y29_1, y29_2, y29_3⟩ := bcz4 BK229.out))
     go_roundg k1
     case measure => have := HK1.out; omega
     case rel => exact ⟨(x3_1), (wrap64 (x12_1 + 1)), sv_, H', ⟨by have := HK1.out; omega⟩, ⟨by (with_reducible repeat (first | apply Kd.N_alloc | apply Kd.N_drewN | apply Kd.N_drew)); exact Kd.N_mono (Kd.N_far (Kd.N_far (Kd.N_far (Kd.N_far (Kd.N_mono HO_3.out (fun k_ hk => (⟨hk, hk.2⟩ : _ ∧ k_ ≠ gb229))) (fun _ hk => hk.2) _) (fun _ hk => hk.2) _) (fun _ hk => hk.2) _) (fun _ hk => hk.2) _) (fun _ hk => hk.1.1)⟩, ⟨bes_⟩⟩
   ·obtain rfl := Option.some.inj H
    go_wp2; go_ret
    exact ⟨_, er_, by (with_reducible repeat (first | apply Kd.N_alloc | apply Kd.N_drewN | apply Kd.N_drew)); exact HO_3.out, bel_⟩

/-! ### spec_SheetIn: function 5 -/
def spec_SheetIn.f (k : Nat) (l0 : List (S40)) : Option ((List (S50))) := (spec_GoodNodes.f k l0).bind fun t240 => (if t240 = true then ((spec_l6In.f k l0).bind fun t241 => (some t241)) else (some ([] : List (S50))))
theorem spec_SheetIn.calls (k : Nat) (A0 : Option Addr) (c0 : Nat) (l0 : List (S40)) (r : List (S50)) (w : World) (hr0 : Kd.C k40 w A0 l0.length l0) (hc0 : l0.length ≤ c0) (h : spec_SheetIn.f k l0 = some r) :
  Calls Tryz.prog 5 #[.slice A0 l0.length c0] w fun e w' => ∃ v0_ : Value, e = .returned (v0_) ∧ Kd.N k50 50 w' w.heap.size (fun k_ => (w.heap.size ≤ k_)) v0_ r ∧ Below w.heap.size w w' := by
 have HR0 := ak_ hr0; have HC0 := ak_ hc0; clear hr0 hc0; have HB := ak_ (Below.refl w.heap.size w); have H := h; unfold spec_SheetIn.f at H
 clear h; replace H := bnd_ H; obtain ⟨t240, A2, H⟩ := H; replace H := itb_ H; rcases H with ⟨rfl, H⟩ | ⟨rfl, H⟩
 ·replace H := bnd_ H; obtain ⟨t241, A4, H⟩ := H; obtain rfl := Option.some.inj H
  go_enter Tryz.func5, Tryz.ntmps5
  go_wp2_with (first | ((with_reducible refine gate_callee (f := 14) rfl ?_); refine gl_ (some 4) Tryz.func14 #[.slice A0 l0.length c0] ?_; (with_reducible refine (spec_GoodNodes.calls k _ _ l0 true _ ?side1 ?side2 A2.out).mono ?_); (case side1 => exact cs_ HR0.out); (case side2 => exact HC0.out); rintro e w5 ⟨rfl, hb⟩; refine ⟨_, rfl, ?_⟩; replace HB := ak_ (below_step bel_ hb); (try clear hb);(try clear hb2);(try clear hk);(try clear hi)) | ((with_reducible refine gate_callee (f := 15) rfl ?_); refine gl_ (some 7) Tryz.func15 #[.slice A0 l0.length c0] ?_; (with_reducible refine (spec_l6In.calls k _ _ l0 t241 _ ?side1 ?side2 A4.out).mono ?_); (case side1 => exact cs_ (Kd.C_below HR0.out HB.out)); (case side2 => exact HC0.out); rintro e w6 ⟨v242, rfl, ho0, hb⟩; refine ⟨_, rfl, ?_⟩; have n_ := an2_ (Kd.N_lower (Kd.N_mono (ok' := fun k_ => (w.heap.size ≤ k_)) ho0 (fun k_ hk_ => (Nat.le_trans (below_size bel_) hk_))) (below_size bel_)) (below_step bel_ hb); clear HB; obtain ⟨HO243, HB⟩ := n_; (try clear hb);(try clear hb2);(try clear hk);(try clear hi);(try clear ho0)))
  go_ret
  exact ⟨_, er_, by (with_reducible repeat (first | apply Kd.N_alloc | apply Kd.N_drewN | apply Kd.N_drew)); exact HO243.out, bel_⟩
 ·obtain rfl := Option.some.inj H
  go_enter Tryz.func5, Tryz.ntmps5
  go_wp2_with (first | ((with_reducible refine gate_callee (f := 14) rfl ?_); refine gl_ (some 4) Tryz.func14 #[.slice A0 l0.length c0] ?_; (with_reducible refine (spec_GoodNodes.calls k _ _ l0 false _ ?side1 ?side2 A2.out).mono ?_); (case side1 => exact cs_ HR0.out); (case side2 => exact HC0.out); rintro e w7 ⟨rfl, hb⟩; refine ⟨_, rfl, ?_⟩; replace HB := ak_ (below_step bel_ hb); (try clear hb);(try clear hb2);(try clear hk);(try clear hi)))
  go_ret
  exact ⟨_, er_, by first | exact Kd.R_nil _ _ _ _ _ | exact Kd.N_nil _ _ _ _ _ | exact Kd.V_nil _ _ _ _ _ | exact Kd.Q_nil _ _ _ _ _ | exact Kd.S_nil _ _ _ _ _, bel_⟩

/-! ### laws_toAttr: function 57 -/
def laws_toAttr.f (a0_0 : ByteArray) (a0_1 : ByteArray) : Option (ByteArray × ByteArray) := some (a0_0, a0_1)
theorem laws_toAttr.calls (a0_0 : ByteArray) (a0_1 : ByteArray) (r1 : ByteArray) (r2 : ByteArray) (w : World) (h : laws_toAttr.f a0_0 a0_1 = some (r1, r2)) :
  Calls Tryz.prog 57 #[.agg #[.string a0_0, .string a0_1]] w fun e w' => e = .returned (.agg #[.string r1, .string r2]) ∧ Below w.heap.size w w' := by
 have hu82 := Tryz.underlying82; have hu76 := Tryz.underlying76; have HB := ak_ (Below.refl w.heap.size w); have H := h; unfold laws_toAttr.f at H
 clear h; simp only [Option.some.injEq, Prod.mk.injEq] at H
 obtain ⟨rfl, rfl⟩ := H; go_enter Tryz.func57, Tryz.ntmps57
 go_wp2_with (first | ((with_reducible refine gate_dst (N := 1) rfl ?_); refine bx_ (N := 1) (cs := #[.string a0_0, .string a0_1]) (t := 82) ?_; intro gb244 hg w2 hbox hb; have n_ := an4_ (below_step bel_ hb) (hbox) (gsl_ hg HB.out) (gsl_ hg HB.out); clear HB; obtain ⟨HB, BK244, GW244, GE244⟩ := n_; clear hb hbox hg) | ((with_reducible refine gate_dst (N := 2) rfl ?_); refine bx_ (N := 2) (cs := #[.string (⟨#[]⟩ : ByteArray), .string (⟨#[]⟩ : ByteArray)]) (t := 76) ?_; intro gb245 hg w3 hbox hb; have n_ := an7_ (blk_below (g := gb244) (o := .cells #[.string a0_0, .string a0_1] 82 (0, 0)) (bk_ BK244.out) hb) (below_step bes_ hb) (hbox) (gsl_ hg HB.out) (gsl_ hg HB.out) ((by rw [hg]; exact Nat.ne_of_lt (blk_lt (g := gb244) (o := .cells #[.string a0_0, .string a0_1] 82 (0, 0)) (bk_ BK244.out)) : gb244 ≠ gb245)) ((by rw [hg]; exact Nat.ne_of_gt (blk_lt (g := gb244) (o := .cells #[.string a0_0, .string a0_1] 82 (0, 0)) (bk_ BK244.out)) : gb245 ≠ gb244)); clear BK244 HB; obtain ⟨BK244, HB, BK245, GW245, GE245, NB244_245, NB245_244⟩ := n_; clear hb hbox hg) | ((with_reducible refine gate_dst (N := 3) rfl ?_); refine bx_ (N := 3) (cs := #[.string (⟨#[]⟩ : ByteArray), .string (⟨#[]⟩ : ByteArray)]) (t := 76) ?_; intro gb246 hg w4 hbox hb; have n_ := an10_ (blk_below (g := gb244) (o := .cells #[.string a0_0, .string a0_1] 82 (0, 0)) (bk_ BK244.out) hb) (blk_below (g := gb245) (o := .cells #[.string (⟨#[]⟩ : ByteArray), .string (⟨#[]⟩ : ByteArray)] 76 (0, 0)) (bk_ BK245.out) hb) (below_step bes_ hb) (hbox) (gsl_ hg HB.out) (gsl_ hg HB.out) ((by rw [hg]; exact Nat.ne_of_lt (blk_lt (g := gb244) (o := .cells #[.string a0_0, .string a0_1] 82 (0, 0)) (bk_ BK244.out)) : gb244 ≠ gb246)) ((by rw [hg]; exact Nat.ne_of_gt (blk_lt (g := gb244) (o := .cells #[.string a0_0, .string a0_1] 82 (0, 0)) (bk_ BK244.out)) : gb246 ≠ gb244)) ((by rw [hg]; exact Nat.ne_of_lt (blk_lt (g := gb245) (o := .cells #[.string (⟨#[]⟩ : ByteArray), .string (⟨#[]⟩ : ByteArray)] 76 (0, 0)) (bk_ BK245.out)) : gb245 ≠ gb246)) ((by rw [hg]; exact Nat.ne_of_gt (blk_lt (g := gb245) (o := .cells #[.string (⟨#[]⟩ : ByteArray), .string (⟨#[]⟩ : ByteArray)] 76 (0, 0)) (bk_ BK245.out)) : gb246 ≠ gb245)); clear BK244 BK245 HB; obtain ⟨BK244, BK245, HB, BK246, GW246, GE246, NB244_246, NB246_244, NB245_246, NB246_245⟩ := n_; clear hb hbox hg; have hnb5 := NB244_245.out; have hnc5 := NB245_244.out; have hnb6 := NB244_246.out; have hnc6 := NB246_244.out; obtain ⟨z7_0, z7_1, y7_0, y7_1⟩ := bcz2 BK244.out; have hnb8 := NB246_245.out; have hnc8 := NB245_246.out; obtain ⟨z9_0, z9_1, y9_0, y9_1⟩ := bcz2 BK246.out; obtain ⟨z10_0, z10_1, y10_0, y10_1⟩ := bcz2 BK245.out))
 refine bodyPost_ret (results_cell_row rfl _ _ gb245 76 #[.string a0_0, .string a0_1] (0, 0) _ rfl (bp_ BK245.out) Tryz.underlying76 rfl (by kernel_rfl)) rfl ?_
 exact ⟨er_, bes_⟩

/-! ### laws_toAttrS: function 36 -/
def laws_toAttrS.l0 : Nat → List (S82) → List (S76) → Int → Option ((List (S76)))
 | 0, _, _, _ => none
 | k + 1, x0, x3, x4 => if x4 < (x0.length : Int) then (if 0 ≤ x4 then ((laws_toAttr.f ((rd_T82 x0 x4).f0) ((rd_T82 x0 x4).f1)).bind fun bt251 => (if x4 < (x3.length : Int) then (laws_toAttrS.l0 k x0 (x3.set (x4 : Int).toNat (⟨bt251.1, bt251.2⟩ : S76)) (wrap64 (x4 + 1))) else (none))) else (none)) else (some x3)
def laws_toAttrS.f (k : Nat) (l0 : List (S82)) : Option ((List (S76))) := if 0 ≤ (l0.length : Int) then (if ((l0.length : Int) : Int).toNat ≤ 8796093022208 then (laws_toAttrS.l0 k l0 (List.replicate ((l0.length : Int) : Int).toNat z76) 0) else (none)) else (none)
theorem laws_toAttrS.calls (k : Nat) (A0 : Option Addr) (c0 : Nat) (l0 : List (S82)) (r : List (S76)) (w : World) (hr0 : Kd.C k82 w A0 l0.length l0) (hc0 : l0.length ≤ c0) (h : laws_toAttrS.f k l0 = some r) :
  Calls Tryz.prog 36 #[.slice A0 l0.length c0] w fun e w' => ∃ v0_ : Value, e = .returned (v0_) ∧ Kd.R k76 76 w' w.heap.size (fun _ => True) v0_ r ∧ Below w.heap.size w w' := by
 have hu82 := Tryz.underlying82; have hu76 := Tryz.underlying76; have HR0 := ak_ hr0; have HC0 := ak_ hc0; clear hr0 hc0; have HB := ak_ (Below.refl w.heap.size w); have H := h; unfold laws_toAttrS.f at H
 clear h; replace H := itn_ H; obtain ⟨c2, H⟩ := H; have c2b0 := eq_true c2; have c2b1 := decide_eq_true c2; clear c2; replace H := itn_ H; obtain ⟨c3, H⟩ := H; have c3b0 := eq_true c3; have c3b1 := decide_eq_true c3; clear c3; obtain ⟨y247, hy247⟩ : ∃ y_ : List (S76), y_ = (List.replicate ((l0.length : Int) : Int).toNat z76) := ⟨_, rfl⟩
 replace H : (laws_toAttrS.l0 k l0 y247 0) = some r := by first | (rw [hy247]; with_reducible exact H) | (have H2_ := (Option.bind_some _ _).symm.trans H; rw [hy247]; with_reducible exact H2_) | (have H2_ := (Option.bind_some _ _).symm.trans H; with_reducible exact H2_) | with_reducible exact H | (rw [hy247]; exact H) | exact H
 have Ny247 := ak_ hy247; clear hy247; have H' := ak_ H; clear H; go_enter Tryz.func36, Tryz.ntmps36
 go_wp2_with (first | ((with_reducible refine gate_dst (N := 7) rfl ?_); refine Kd.R_make k76 _ 76 rfl (N := 7) rfl 38 _ _ rfl (l0.length : Int) rfl rfl Tryz.underlying38 (.agg #[(.string ⟨#[]⟩), (.string ⟨#[]⟩)]) 32 info76 rfl (by decide) (by omega) z76 (ok := fun _ => True) (okp := fun _ => True) (k76_mkM _ _ _ z76 ) (fun _ hk => hk) trivial (oda_) (Nat.le_trans (Nat.mul_le_mul_right _ (oda_ : (l0.length : Int).toNat ≤ 8796093022208)) (by omega)) (Below.refl _ _) (Nat.le_refl _) ?_; intro v248 w4 ho5 hb hg_ hnew_; clear hg_ hnew_; (first | rw [← Ny247.out] at ho5 | (simp only [Int.reduceToNat] at ho5; rw [← Ny247.out] at ho5)); have n_ := an2_ (Kd.R_lower ho5 (below_size bel_)) (below_step bel_ hb); clear HB; obtain ⟨HO249, HB⟩ := n_; clear hb ho5))
 go_loopg [4] k (fun kq v4 w' => ∃ (x3_1 : List (S76)) (x4_1 : Int), v4 = .int .i64 x4_1 ∧ Aside0 (laws_toAttrS.l0 kq l0 x3_1 x4_1 = some r) ∧ Aside0 (kq ≤ k) ∧ Aside0 (Kd.R k76 76 w' w.heap.size (fun _ => True) v248 x3_1) ∧ Aside0 (Below w.heap.size w w'))
 case atStart => exact ⟨(y247), (0), sv_, H', ⟨Nat.le_refl _⟩, ⟨kdR_ HO249.out⟩, ⟨bel_⟩⟩
 case round =>
  clear H'; (try clear c2b0);(try clear c2b1);(try clear c3b0);(try clear c3b1)
  obtain ⟨x3_1, x4_1, rfl, HA, HK1, HO_3, HB⟩ := hrel; cases gk with
  | zero => exact absurd HA.out (by simp [laws_toAttrS.l0])
  | succ k1 =>
   have H := HA.out; clear HA; simp only [laws_toAttrS.l0] at H
   replace H := ied_ H; rcases H with ⟨c6b0, H⟩ | ⟨c6b0, H⟩
   ·replace H := itd_ H; obtain ⟨c7b0, H⟩ := H; replace H := bnd_ H; obtain ⟨⟨t251, t252⟩, A8, H⟩ := H; (try dsimp only at H); replace H := itd_ H; obtain ⟨c9b0, H⟩ := H; obtain ⟨y253, hy253⟩ : ∃ y_ : List (S76), y_ = (x3_1.set (x4_1 : Int).toNat (⟨t251, t252⟩ : S76)) := ⟨_, rfl⟩
    replace H : (laws_toAttrS.l0 k1 l0 y253 (wrap64 (x4_1 + 1))) = some r := by first | (rw [hy253]; with_reducible exact H) | (have H2_ := (Option.bind_some _ _).symm.trans H; rw [hy253]; with_reducible exact H2_) | (have H2_ := (Option.bind_some _ _).symm.trans H; with_reducible exact H2_) | with_reducible exact H | (rw [hy253]; exact H) | exact H
    have Ny253 := ak_ hy253; clear hy253; have H' := ak_ H; clear H; have p250 : (0 ≤ (x4_1 : Int)) = True := odt_
    have q250 : (x4_1 < (l0.length : Int)) = True := odt_
    obtain ⟨ad250, e250, hx250_0, hx250_1⟩ := at_T82 HR0.out x4_1 oda_ oda_; cases e250; replace hx250_0 := pb_ HB hx250_0; replace hx250_1 := pb_ HB hx250_1; go_wp2_with (first | ((with_reducible refine gate_callee (f := 57) rfl ?_); refine gl_ (some 20) Tryz.func57 #[.agg #[.string ((rd_T82 l0 x4_1).f0), .string ((rd_T82 l0 x4_1).f1)]] ?_; (with_reducible refine (laws_toAttr.calls ((rd_T82 l0 x4_1).f0) ((rd_T82 l0 x4_1).f1) t251 t252 _ A8.out).mono ?_); rintro e w11 ⟨rfl, hb⟩; refine ⟨_, rfl, ?_⟩; have n_ := an2_ (Kd.R_below (kdR_ HO_3.out) hb) (below_step bel_ hb); clear HO_3 HB; obtain ⟨HO_3, HB⟩ := n_; (try clear hb);(try clear hb2);(try clear hk);(try clear hi); have p10 : 0 ≤ (x4_1 : Int) := oda_; have q10 : (x4_1 : Int) < ((x3_1.length : Int) : Int) := oda_; obtain ⟨go10, co10, eo10, gb10, gl10, cl10, HG10⟩ := Kd.R_form HO_3.out (by omega); (first | cases eo10 | (injection eo10 with ea_ en_ ec_; (first | subst ea_ | (injection ea_ with ea_; subst ea_)); subst ec_; clear en_)); have GB10 := ak_ gb10; have GG10 := ak_ HG10; clear gb10 gl10 HG10; obtain ⟨ce10, hcl10, hM10, hcc10, hfr10⟩ := Kd.R_elem HO_3.out z76 (x4_1 : Int) p10 q10; obtain rfl := k76_openM hM10; have hx10_0 : w11.cell? ⟨go10, (x4_1 : Int).toNat * 2, none⟩ = some (.string ((rd_T76 x3_1 x4_1).f0)) := hcc10 0 _ rfl; have hx10_1 : w11.cell? ⟨go10, (x4_1 : Int).toNat * 2 + 1, none⟩ = some (.string ((rd_T76 x3_1 x4_1).f1)) := hcc10 1 _ rfl; have hf10_0 : w11.frozen? ⟨go10, (x4_1 : Int).toNat * 2, none⟩ = false := hfr10 0; have hf10_1 : w11.frozen? ⟨go10, (x4_1 : Int).toNat * 2 + 1, none⟩ = false := hfr10 1; (first | clear hcl10 hcc10 hfr10 hM10 | clear hcl10 hcc10 hfr10); replace p10 := eq_true p10; replace q10 := eq_true q10; have HX12 := ak_ (show Kd.R k76 76 w11 w.heap.size (fun _ => True) (.slice (some ⟨go10, 0, none⟩) x3_1.length co10) x3_1 from (kdR_ HO_3.out)); obtain ⟨ce12, hcl12, hM12, hcc12, hfr12⟩ := Kd.R_elem HX12.out z76 (x4_1 : Int) (oda_) (by have h_ : (x4_1 : Int) < ((x3_1.length : Int) : Int) := oda_; first | exact h_ | (have e_ := (Kd.R_reads' HO_3.out).1; omega) | simpa using h_); obtain rfl := k76_openM hM12; have HP12 := Kd.R_seg HX12.out (x4_1 : Int) (oda_) (by have h_ : (x4_1 : Int) < ((x3_1.length : Int) : Int) := oda_; first | exact h_ | (have e_ := (Kd.R_reads' HO_3.out).1; omega) | simpa using h_) (seg := [.string t251, .string t252]) (j := 0) hcl12 hcc12 (show 2 ≤ 2 from by decide) (x' := (⟨t251, t252⟩ : S76)) (k76_mkM _ _ _ (⟨t251, t252⟩ : S76) ) (fun _ hk => hk); have hx12_0 := hcc12 0 _ rfl; (try simp only [show (k76).sz = 2 from rfl, Nat.mul_one, Nat.add_zero] at hx12_0); have hf12_0 := hfr12 0; (try simp only [show (k76).sz = 2 from rfl, Nat.mul_one, Nat.add_zero] at hf12_0); have hx12_1 := hcc12 1 _ rfl; (try simp only [show (k76).sz = 2 from rfl, Nat.mul_one, Nat.add_zero] at hx12_1); have hf12_1 := hfr12 1; (try simp only [show (k76).sz = 2 from rfl, Nat.mul_one, Nat.add_zero] at hf12_1); (first | clear hcl12 hcc12 hfr12 hM12 | clear hcl12 hcc12 hfr12)) | ((with_reducible refine gate_store (t := 76) (p := 21) rfl ?_); refine store_event (t := 76) (p := 21) (v := ?vo_w13) (w1 := ((w11.setCell ⟨go10, (x4_1 : Int).toNat * 2, none⟩ (.string t251)).setCell ⟨go10, (x4_1 : Int).toNat * 2 + 1, none⟩ (.string t252))) ?hg ?ho ?hn ?hr ?_; (case ho => rfl); (case hg => rfl); (case hn => rfl); (case hr => first | (go_simp; done) | (go_simp; rfl)); intro w13 hw; have hg : w11.grownBy w13 (some go10) := (by rw [hw]; exact HP12.2); have hp_ : Kd.R k76 76 w13 w.heap.size (fun _ => True) (.slice (some ⟨go10, 0, none⟩) x3_1.length co10) y253 := (by rw [hw, Ny253.out]; exact HP12.1); clear HP12; have n_ := an2_ (hp_) ((by rw [hw]; exact below_set (below_set (HB.out) GB10.out) GB10.out : Below w.heap.size w w13)); clear HO_3 HB; obtain ⟨HO_3, HB⟩ := n_; clear hg hw hp_))
    go_roundg k1
    case measure => have := HK1.out; omega
    case rel => exact ⟨(y253), (wrap64 (x4_1 + 1)), sv_, H', ⟨by have := HK1.out; omega⟩, ⟨kdR_ HO_3.out⟩, ⟨bel_⟩⟩
   ·obtain rfl := Option.some.inj H
    go_wp2; go_ret
    exact ⟨_, er_, kdR_ HO_3.out, bel_⟩

/-! ### laws_toNode: function 16 -/
def laws_toNode.f (k : Nat) (a0_0 : ByteArray) (a0_1 : Int) (l0_2 : List (S82)) (a0_3 : ByteArray) : Option (ByteArray × Int × (List (S76)) × ByteArray) := (laws_toAttrS.f k l0_2).bind fun t257 => (some (a0_0, a0_1, t257, a0_3))
theorem laws_toNode.calls (k : Nat) (a0_0 : ByteArray) (a0_1 : Int) (A0_2 : Option Addr) (c0_2 : Nat) (l0_2 : List (S82)) (a0_3 : ByteArray) (r1 : ByteArray) (r2 : Int) (r3 : List (S76)) (r4 : ByteArray) (w : World) (hr0_2 : Kd.C k82 w A0_2 l0_2.length l0_2) (hc0_2 : l0_2.length ≤ c0_2) (h : laws_toNode.f k a0_0 a0_1 l0_2 a0_3 = some (r1, r2, r3, r4)) :
  Calls Tryz.prog 16 #[.agg #[.string a0_0, .int .i64 a0_1, .slice A0_2 l0_2.length c0_2, .string a0_3]] w fun e w' => ∃ v2_ : Value, e = .returned (.agg #[.string r1, .int .i64 r2, v2_, .string r4]) ∧ Kd.R k76 76 w' w.heap.size (fun _ => True) v2_ r3 ∧ Below w.heap.size w w' := by
 have hu36 := Tryz.underlying36; have hu40 := Tryz.underlying40; have HR0_2 := ak_ hr0_2; have HC0_2 := ak_ hc0_2; clear hr0_2 hc0_2; have HB := ak_ (Below.refl w.heap.size w); have H := h; unfold laws_toNode.f at H
 clear h; replace H := bnd_ H; obtain ⟨t257, A2, H⟩ := H; simp only [Option.some.injEq, Prod.mk.injEq] at H
 obtain ⟨rfl, rfl, rfl, rfl⟩ := H; go_enter Tryz.func16, Tryz.ntmps16
 go_wp2_with (first | ((with_reducible refine gate_dst (N := 1) rfl ?_); refine bx_ (N := 1) (cs := #[.string a0_0, .int .i64 a0_1, .slice A0_2 l0_2.length c0_2, .string a0_3]) (t := 36) ?_; intro gb254 hg w3 hbox hb; have n_ := an4_ (below_step bel_ hb) (hbox) (gsl_ hg HB.out) (gsl_ hg HB.out); clear HB; obtain ⟨HB, BK254, GW254, GE254⟩ := n_; clear hb hbox hg) | ((with_reducible refine gate_dst (N := 2) rfl ?_); refine bx_ (N := 2) (cs := #[.string (⟨#[]⟩ : ByteArray), .int .i64 0, .slice none 0 0, .string (⟨#[]⟩ : ByteArray)]) (t := 40) ?_; intro gb255 hg w4 hbox hb; have n_ := an7_ (blk_below (g := gb254) (o := .cells #[.string a0_0, .int .i64 a0_1, .slice A0_2 l0_2.length c0_2, .string a0_3] 36 (0, 0)) (bk_ BK254.out) hb) (below_step bes_ hb) (hbox) (gsl_ hg HB.out) (gsl_ hg HB.out) ((by rw [hg]; exact Nat.ne_of_lt (blk_lt (g := gb254) (o := .cells #[.string a0_0, .int .i64 a0_1, .slice A0_2 l0_2.length c0_2, .string a0_3] 36 (0, 0)) (bk_ BK254.out)) : gb254 ≠ gb255)) ((by rw [hg]; exact Nat.ne_of_gt (blk_lt (g := gb254) (o := .cells #[.string a0_0, .int .i64 a0_1, .slice A0_2 l0_2.length c0_2, .string a0_3] 36 (0, 0)) (bk_ BK254.out)) : gb255 ≠ gb254)); clear BK254 HB; obtain ⟨BK254, HB, BK255, GW255, GE255, NB254_255, NB255_254⟩ := n_; clear hb hbox hg) | ((with_reducible refine gate_dst (N := 3) rfl ?_); refine bx_ (N := 3) (cs := #[.string (⟨#[]⟩ : ByteArray), .int .i64 0, .slice none 0 0, .string (⟨#[]⟩ : ByteArray)]) (t := 40) ?_; intro gb256 hg w5 hbox hb; have n_ := an10_ (blk_below (g := gb254) (o := .cells #[.string a0_0, .int .i64 a0_1, .slice A0_2 l0_2.length c0_2, .string a0_3] 36 (0, 0)) (bk_ BK254.out) hb) (blk_below (g := gb255) (o := .cells #[.string (⟨#[]⟩ : ByteArray), .int .i64 0, .slice none 0 0, .string (⟨#[]⟩ : ByteArray)] 40 (0, 0)) (bk_ BK255.out) hb) (below_step bes_ hb) (hbox) (gsl_ hg HB.out) (gsl_ hg HB.out) ((by rw [hg]; exact Nat.ne_of_lt (blk_lt (g := gb254) (o := .cells #[.string a0_0, .int .i64 a0_1, .slice A0_2 l0_2.length c0_2, .string a0_3] 36 (0, 0)) (bk_ BK254.out)) : gb254 ≠ gb256)) ((by rw [hg]; exact Nat.ne_of_gt (blk_lt (g := gb254) (o := .cells #[.string a0_0, .int .i64 a0_1, .slice A0_2 l0_2.length c0_2, .string a0_3] 36 (0, 0)) (bk_ BK254.out)) : gb256 ≠ gb254)) ((by rw [hg]; exact Nat.ne_of_lt (blk_lt (g := gb255) (o := .cells #[.string (⟨#[]⟩ : ByteArray), .int .i64 0, .slice none 0 0, .string (⟨#[]⟩ : ByteArray)] 40 (0, 0)) (bk_ BK255.out)) : gb255 ≠ gb256)) ((by rw [hg]; exact Nat.ne_of_gt (blk_lt (g := gb255) (o := .cells #[.string (⟨#[]⟩ : ByteArray), .int .i64 0, .slice none 0 0, .string (⟨#[]⟩ : ByteArray)] 40 (0, 0)) (bk_ BK255.out)) : gb256 ≠ gb255)); clear BK254 BK255 HB; obtain ⟨BK254, BK255, HB, BK256, GW256, GE256, NB254_256, NB256_254, NB255_256, NB256_255⟩ := n_; clear hb hbox hg; have hnb6 := NB254_255.out; have hnc6 := NB255_254.out; have hnb7 := NB254_256.out; have hnc7 := NB256_254.out; obtain ⟨z8_0, z8_1, z8_2, z8_3, y8_0, y8_1, y8_2, y8_3⟩ := bcz4 BK254.out; have hnb9 := NB256_255.out; have hnc9 := NB255_256.out; obtain ⟨z10_0, z10_1, z10_2, z10_3, y10_0, y10_1, y10_2, y10_3⟩ := bcz4 BK256.out) | ((with_reducible refine gate_callee (f := 36) rfl ?_); refine gl_ (some 12) Tryz.func36 #[.slice A0_2 l0_2.length c0_2] ?_; (with_reducible refine (laws_toAttrS.calls k _ _ l0_2 t257 _ ?side1 ?side2 A2.out).mono ?_); (case side1 => exact Kd.C_below HR0_2.out bes_); (case side2 => exact HC0_2.out); rintro e w11 ⟨v258, rfl, ho0, hb⟩; refine ⟨_, rfl, ?_⟩; have n_ := an5_ (Kd.R_lower ho0 (below_size bes_)) (blk_below (g := gb254) (o := .cells #[.string a0_0, .int .i64 a0_1, .slice A0_2 l0_2.length c0_2, .string a0_3] 36 (0, 0)) (bp_ BK254.out) hb) (blk_below (g := gb255) (o := .cells #[.string (⟨#[]⟩ : ByteArray), .int .i64 0, .slice none 0 0, .string (⟨#[]⟩ : ByteArray)] 40 (0, 0)) (bp_ BK255.out) hb) (blk_below (g := gb256) (o := .cells #[.string a0_0, .int .i64 a0_1, .slice none 0 0, .string (⟨#[]⟩ : ByteArray)] 40 (0, 0)) (bp_ BK256.out) hb) (below_step bes_ hb); clear BK254 BK255 BK256 HB; obtain ⟨HO259, BK254, BK255, BK256, HB⟩ := n_; (try clear hb);(try clear hb2);(try clear hk);(try clear hi);(try clear ho0); obtain ⟨Ao12, co12, eo12⟩ := Kd.R_slice HO259.out; subst eo12; obtain ⟨z13_0, z13_1, z13_2, z13_3, y13_0, y13_1, y13_2, y13_3⟩ := bcz4 BK256.out; obtain ⟨z14_0, z14_1, z14_2, z14_3, y14_0, y14_1, y14_2, y14_3⟩ := bcz4 BK254.out; obtain ⟨z15_0, z15_1, z15_2, z15_3, y15_0, y15_1, y15_2, y15_3⟩ := bcz4 BK255.out))
 refine bodyPost_ret (results_cell_row rfl _ _ gb255 40 #[.string a0_0, .int .i64 a0_1, .slice Ao12 t257.length co12, .string a0_3] (0, 0) _ rfl (bp_ BK255.out) Tryz.underlying40 rfl (by kernel_rfl)) rfl ?_
 exact ⟨_, er_, by (with_reducible repeat (first | apply Kd.R_alloc | apply Kd.R_drewN | apply Kd.R_drew)); exact Kd.R_mono (Kd.R_far (Kd.R_far (Kd.R_far (Kd.R_far (Kd.R_far (Kd.R_far (Kd.R_types (Kd.R_types HO259.out BK256.out (by decide)) BK255.out (by decide)) (fun _ hk => hk.1.2) _) (fun _ hk => hk.1.2) _) (fun _ hk => hk.2) _) (fun _ hk => hk.2) _) (fun _ hk => hk.2) _) (fun _ hk => hk.2) _) (fun _ hk => trivial), bes_⟩

/-! ### laws_toNodeS: function 6 -/
def laws_toNodeS.l0 : Nat → List (S36) → List (S40) → Int → Option ((List (S40)))
 | 0, _, _, _ => none
 | k + 1, x0, x3, x4 => if x4 < (x0.length : Int) then (if 0 ≤ x4 then ((laws_toNode.f k ((rd_T36 x0 x4).f0) ((rd_T36 x0 x4).f1) ((rd_T36 x0 x4).f2) ((rd_T36 x0 x4).f3)).bind fun bt264 => (if x4 < (x3.length : Int) then (laws_toNodeS.l0 k x0 (x3.set (x4 : Int).toNat (⟨bt264.1, bt264.2.1, bt264.2.2.1, bt264.2.2.2⟩ : S40)) (wrap64 (x4 + 1))) else (none))) else (none)) else (some x3)
def laws_toNodeS.f (k : Nat) (l0 : List (S36)) : Option ((List (S40))) := if 0 ≤ (l0.length : Int) then (if ((l0.length : Int) : Int).toNat ≤ 4398046511104 then (laws_toNodeS.l0 k l0 (List.replicate ((l0.length : Int) : Int).toNat z40) 0) else (none)) else (none)
theorem laws_toNodeS.calls (k : Nat) (A0 : Option Addr) (c0 : Nat) (l0 : List (S36)) (r : List (S40)) (w : World) (hr0 : Kd.C k36 w A0 l0.length l0) (hc0 : l0.length ≤ c0) (h : laws_toNodeS.f k l0 = some r) :
  Calls Tryz.prog 6 #[.slice A0 l0.length c0] w fun e w' => ∃ v0_ : Value, e = .returned (v0_) ∧ Kd.S k40 40 w' w.heap.size (fun _ => True) v0_ r ∧ Below w.heap.size w w' := by
 have hu36 := Tryz.underlying36; have hu40 := Tryz.underlying40; have HR0 := ak_ hr0; have HC0 := ak_ hc0; clear hr0 hc0; have HB := ak_ (Below.refl w.heap.size w); have H := h; unfold laws_toNodeS.f at H
 clear h; replace H := itn_ H; obtain ⟨c2, H⟩ := H; have c2b0 := eq_true c2; have c2b1 := decide_eq_true c2; clear c2; replace H := itn_ H; obtain ⟨c3, H⟩ := H; have c3b0 := eq_true c3; have c3b1 := decide_eq_true c3; clear c3; obtain ⟨y260, hy260⟩ : ∃ y_ : List (S40), y_ = (List.replicate ((l0.length : Int) : Int).toNat z40) := ⟨_, rfl⟩
 replace H : (laws_toNodeS.l0 k l0 y260 0) = some r := by first | (rw [hy260]; with_reducible exact H) | (have H2_ := (Option.bind_some _ _).symm.trans H; rw [hy260]; with_reducible exact H2_) | (have H2_ := (Option.bind_some _ _).symm.trans H; with_reducible exact H2_) | with_reducible exact H | (rw [hy260]; exact H) | exact H
 have Ny260 := ak_ hy260; clear hy260; have H' := ak_ H; clear H; go_enter Tryz.func6, Tryz.ntmps6
 go_wp2_with (first | ((with_reducible refine gate_dst (N := 7) rfl ?_); refine Kd.S_make k40 _ 40 rfl (N := 7) rfl 26 _ _ rfl (l0.length : Int) rfl rfl Tryz.underlying26 (.agg #[(.string ⟨#[]⟩), (.int .i64 0), (.slice none 0 0), (.string ⟨#[]⟩)]) 64 info40 rfl (by decide) (by omega) z40 (ok := fun _ => True) (okp := fun _ => True) (k40_mkM _ _ _ z40 (Kd.R_nil _ _ _ _ _)) (fun _ hk => hk) trivial (oda_) (Nat.le_trans (Nat.mul_le_mul_right _ (oda_ : (l0.length : Int).toNat ≤ 4398046511104)) (by omega)) (Below.refl _ _) (Nat.le_refl _) ?_; intro v261 w4 ho5 hb hg_ hnew_; clear hg_ hnew_; (first | rw [← Ny260.out] at ho5 | (simp only [Int.reduceToNat] at ho5; rw [← Ny260.out] at ho5)); have n_ := an2_ (Kd.S_lower ho5 (below_size bel_)) (below_step bel_ hb); clear HB; obtain ⟨HO262, HB⟩ := n_; clear hb ho5))
 go_loopg [4] k (fun kq v4 w' => ∃ (x3_1 : List (S40)) (x4_1 : Int), v4 = .int .i64 x4_1 ∧ Aside0 (laws_toNodeS.l0 kq l0 x3_1 x4_1 = some r) ∧ Aside0 (kq ≤ k) ∧ Aside0 (Kd.S k40 40 w' w.heap.size (fun _ => True) v261 x3_1) ∧ Aside0 (Below w.heap.size w w'))
 case atStart => exact ⟨(y260), (0), sv_, H', ⟨Nat.le_refl _⟩, ⟨kdS_ HO262.out⟩, ⟨bel_⟩⟩
 case round =>
  clear H'; (try clear c2b0);(try clear c2b1);(try clear c3b0);(try clear c3b1)
  obtain ⟨x3_1, x4_1, rfl, HA, HK1, HO_3, HB⟩ := hrel; cases gk with
  | zero => exact absurd HA.out (by simp [laws_toNodeS.l0])
  | succ k1 =>
   have H := HA.out; clear HA; simp only [laws_toNodeS.l0] at H
   replace H := ied_ H; rcases H with ⟨c6b0, H⟩ | ⟨c6b0, H⟩
   ·replace H := itd_ H; obtain ⟨c7b0, H⟩ := H; replace H := bnd_ H; obtain ⟨⟨t264, t265, t266, t269⟩, A8, H⟩ := H; (try dsimp only at H); replace H := itd_ H; obtain ⟨c9b0, H⟩ := H; obtain ⟨y270, hy270⟩ : ∃ y_ : List (S40), y_ = (x3_1.set (x4_1 : Int).toNat (⟨t264, t265, t266, t269⟩ : S40)) := ⟨_, rfl⟩
    replace H : (laws_toNodeS.l0 k1 l0 y270 (wrap64 (x4_1 + 1))) = some r := by first | (rw [hy270]; with_reducible exact H) | (have H2_ := (Option.bind_some _ _).symm.trans H; rw [hy270]; with_reducible exact H2_) | (have H2_ := (Option.bind_some _ _).symm.trans H; with_reducible exact H2_) | with_reducible exact H | (rw [hy270]; exact H) | exact H
    have Ny270 := ak_ hy270; clear hy270; have H' := ak_ H; clear H; have p263 : (0 ≤ (x4_1 : Int)) = True := odt_
    have q263 : (x4_1 < (l0.length : Int)) = True := odt_
    obtain ⟨ad263, A263_2, c263_2, e263, hx263_0, hx263_1, hx263_2, hx263_3, hl263_2, hi263_2⟩ := at_T36 HR0.out x4_1 oda_ oda_; cases e263; replace hx263_0 := pb_ HB hx263_0; replace hx263_1 := pb_ HB hx263_1; replace hx263_2 := pb_ HB hx263_2; replace hx263_3 := pb_ HB hx263_3; have HR263_2 := ak_ hi263_2; have HC263_2 := ak_ hl263_2; clear hi263_2 hl263_2; go_wp2_with (first | ((with_reducible refine gate_callee (f := 16) rfl ?_); refine gl_ (some 20) Tryz.func16 #[.agg #[.string ((rd_T36 l0 x4_1).f0), .int .i64 ((rd_T36 l0 x4_1).f1), .slice A263_2 ((rd_T36 l0 x4_1).f2).length c263_2, .string ((rd_T36 l0 x4_1).f3)]] ?_; (with_reducible refine (laws_toNode.calls k1 ((rd_T36 l0 x4_1).f0) ((rd_T36 l0 x4_1).f1) _ _ ((rd_T36 l0 x4_1).f2) ((rd_T36 l0 x4_1).f3) t264 t265 t266 t269 _ ?side1 ?side2 A8.out).mono ?_); (case side1 => exact cs_ (Kd.C_below HR263_2.out HB.out)); (case side2 => exact HC263_2.out); rintro e w11 ⟨v267, rfl, ho0, hb⟩; refine ⟨_, rfl, ?_⟩; have n_ := an3_ (Kd.S_elder' (kdS_ HO_3.out) (Kd.R_base ho0) hb) (Kd.R_lower ho0 (below_size bel_)) (below_step bel_ hb); clear HO_3 HB; obtain ⟨HO_3, HO268, HB⟩ := n_; (try clear hb);(try clear hb2);(try clear hk);(try clear hi);(try clear ho0); have p10 : 0 ≤ (x4_1 : Int) := oda_; have q10 : (x4_1 : Int) < ((x3_1.length : Int) : Int) := oda_; obtain ⟨go10, co10, eo10, gb10, gl10, cl10, HG10⟩ := Kd.S_form HO_3.out (by omega); (first | cases eo10 | (injection eo10 with ea_ en_ ec_; (first | subst ea_ | (injection ea_ with ea_; subst ea_)); subst ec_; clear en_)); have GB10 := ak_ gb10; have GG10 := ak_ HG10; clear gb10 gl10 HG10; obtain ⟨_, ce10, hcl10, hM10, hcc10, hfr10, _, _⟩ := Kd.S_elem HO_3.out z40 (x4_1 : Int) p10 q10; obtain ⟨ve10_2, rfl, ge10_2⟩ := k40_openM hM10; have hx10_0 : w11.cell? ⟨go10, (x4_1 : Int).toNat * 4, none⟩ = some (.string ((rd_T40 x3_1 x4_1).f0)) := hcc10 0 _ rfl; have hx10_1 : w11.cell? ⟨go10, (x4_1 : Int).toNat * 4 + 1, none⟩ = some (.int .i64 ((rd_T40 x3_1 x4_1).f1)) := hcc10 1 _ rfl; have hx10_2 : w11.cell? ⟨go10, (x4_1 : Int).toNat * 4 + 2, none⟩ = some (ve10_2) := hcc10 2 _ rfl; have hx10_3 : w11.cell? ⟨go10, (x4_1 : Int).toNat * 4 + 3, none⟩ = some (.string ((rd_T40 x3_1 x4_1).f3)) := hcc10 3 _ rfl; have hf10_0 : w11.frozen? ⟨go10, (x4_1 : Int).toNat * 4, none⟩ = false := hfr10 0; have hf10_1 : w11.frozen? ⟨go10, (x4_1 : Int).toNat * 4 + 1, none⟩ = false := hfr10 1; have hf10_2 : w11.frozen? ⟨go10, (x4_1 : Int).toNat * 4 + 2, none⟩ = false := hfr10 2; have hf10_3 : w11.frozen? ⟨go10, (x4_1 : Int).toNat * 4 + 3, none⟩ = false := hfr10 3; (first | clear hcl10 hcc10 hfr10 hM10 | clear hcl10 hcc10 hfr10); replace p10 := eq_true p10; replace q10 := eq_true q10; have n_ := ak_ (Kd.S_mono (ok' := (fun k_ => some k_ ≠ (v267 : Value).ownBlock)) HO_3.out (fun k_ hk => hk.2)); clear HO_3; have HO_3 := n_; clear n_; have HX12 := ak_ (show Kd.S k40 40 w11 w.heap.size (fun k_ => ((fun _ => True)) k_ ∧ ¬ ((fun k_ => some k_ = (v267 : Value).ownBlock)) k_) (.slice (some ⟨go10, 0, none⟩) x3_1.length co10) x3_1 from (by (with_reducible repeat (first | apply Kd.S_alloc | apply Kd.S_drewN | apply Kd.S_drew)); exact Kd.S_mono HO_3.out (fun k_ hk => ⟨trivial, fun e_ => hk e_⟩))); obtain ⟨oki12, ce12, hcl12, hM12, hcc12, hfr12, hoki12, hH12⟩ := Kd.S_elem HX12.out z40 (x4_1 : Int) (oda_) (by have h_ : (x4_1 : Int) < ((x3_1.length : Int) : Int) := oda_; first | exact h_ | (have e_ := (Kd.S_reads' HO_3.out).1; omega) | simpa using h_); obtain ⟨ve12_2, rfl, ge12_2⟩ := k40_openM hM12; have HP12 := Kd.S_seg hH12 (oda_) (by have h_ : (x4_1 : Int) < ((x3_1.length : Int) : Int) := oda_; first | exact h_ | (have e_ := (Kd.S_reads' HO_3.out).1; omega) | simpa using h_) (seg := [.string t264, .int .i64 t265, v267, .string t269]) (j := 0) (show 4 ≤ 4 from by decide) (x' := (⟨t264, t265, t266, t269⟩ : S40)) (k40_mkM _ _ _ (⟨t264, t265, t266, t269⟩ : S40) (Kd.R_mono (Kd.R_tight rfl (Kd.R_mono (ok' := fun k_ => ((fun _ => True)) k_ ∧ k_ ≠ go10) (Kd.R_apart' (HO268.out) (Kd.S_typed HO_3.out) (by decide)) (fun k_ hk => ⟨trivial, fun e_ => (hk.2) (by rw [e_]; rfl)⟩))) (fun _ h_ => Or.inr (h_)))) (fun _ hk => hk) (fun k_ hk_ => ((Kd.R_mono (ok' := fun k_ => ((fun _ => True)) k_ ∧ k_ ≠ go10) (Kd.R_apart' (HO268.out) (Kd.S_typed HO_3.out) (by decide)) (fun k_ hk => ⟨trivial, fun e_ => (hk.2) (by rw [e_]; rfl)⟩))).1 k_ hk_.symm); have hx12_0 := hcc12 0 _ rfl; (try simp only [show (k40).sz = 4 from rfl, Nat.mul_one, Nat.add_zero] at hx12_0); have hf12_0 := hfr12 0; (try simp only [show (k40).sz = 4 from rfl, Nat.mul_one, Nat.add_zero] at hf12_0); have hx12_1 := hcc12 1 _ rfl; (try simp only [show (k40).sz = 4 from rfl, Nat.mul_one, Nat.add_zero] at hx12_1); have hf12_1 := hfr12 1; (try simp only [show (k40).sz = 4 from rfl, Nat.mul_one, Nat.add_zero] at hf12_1); have hx12_2 := hcc12 2 _ rfl; (try simp only [show (k40).sz = 4 from rfl, Nat.mul_one, Nat.add_zero] at hx12_2); have hf12_2 := hfr12 2; (try simp only [show (k40).sz = 4 from rfl, Nat.mul_one, Nat.add_zero] at hf12_2); have hx12_3 := hcc12 3 _ rfl; (try simp only [show (k40).sz = 4 from rfl, Nat.mul_one, Nat.add_zero] at hx12_3); have hf12_3 := hfr12 3; (try simp only [show (k40).sz = 4 from rfl, Nat.mul_one, Nat.add_zero] at hf12_3); (first | clear hcl12 hcc12 hfr12 hM12 hoki12 hH12 | clear hcl12 hcc12 hfr12 hoki12 hH12)) | ((with_reducible refine gate_store (t := 40) (p := 21) rfl ?_); refine store_event (t := 40) (p := 21) (v := ?vo_w13) (w1 := ((((w11.setCell ⟨go10, (x4_1 : Int).toNat * 4, none⟩ (.string t264)).setCell ⟨go10, (x4_1 : Int).toNat * 4 + 1, none⟩ (.int .i64 t265)).setCell ⟨go10, (x4_1 : Int).toNat * 4 + 2, none⟩ (v267)).setCell ⟨go10, (x4_1 : Int).toNat * 4 + 3, none⟩ (.string t269))) ?hg ?ho ?hn ?hr ?_; (case ho => rfl); (case hg => rfl); (case hn => rfl); (case hr => first | (go_simp; done) | (go_simp; rfl) | (obtain ⟨_, _, rfl⟩ := Kd.R_slice (v := v267) (Aside0.out (by assumption)); first | (go_simp; done) | (go_simp; rfl))); intro w13 hw; have hg : w11.grownBy w13 (some go10) := (by rw [hw]; exact HP12.2); have hp_ : Kd.S k40 40 w13 w.heap.size (fun _ => True) (.slice (some ⟨go10, 0, none⟩) x3_1.length co10) y270 := (by rw [hw, Ny270.out]; exact HP12.1); clear HP12; have n_ := an2_ (hp_) ((by rw [hw]; exact below_set (below_set (below_set (below_set (HB.out) GB10.out) GB10.out) GB10.out) GB10.out : Below w.heap.size w w13)); clear HO_3 HB HO268; obtain ⟨HO_3, HB⟩ := n_; clear hg hw hp_))
    go_roundg k1
    case measure => have := HK1.out; omega
    case rel => exact ⟨(y270), (wrap64 (x4_1 + 1)), sv_, H', ⟨by have := HK1.out; omega⟩, ⟨kdS_ HO_3.out⟩, ⟨bel_⟩⟩
   ·obtain rfl := Option.some.inj H
    go_wp2; go_ret
    exact ⟨_, er_, kdS_ HO_3.out, bel_⟩

/-! ### impl_within: function 37 -/
def impl_within.f (a0 : Int) (a1 : Int) (a2 : Int) : Option (Bool) := if a1 ≤ a0 then (some (decide (a0 ≤ a2))) else (some false)
theorem impl_within.calls (a0 : Int) (a1 : Int) (a2 : Int) (r : Bool) (w : World) (h : impl_within.f a0 a1 a2 = some r) :
  Calls Tryz.prog 37 #[.int .i64 a0, .int .i64 a1, .int .i64 a2] w fun e w' => e = .returned (.bool r) ∧ Drawn0 w w' := by
 have H := h; unfold impl_within.f at H
 clear h; replace H := ied_ H; rcases H with ⟨c4b0, H⟩ | ⟨c4b0, H⟩
 ·obtain rfl := Option.some.inj H
  go_enter Tryz.func37, Tryz.ntmps37
  go_wp2; go_ret
  exact dn_
 ·obtain rfl := Option.some.inj H
  go_enter Tryz.func37, Tryz.ntmps37
  go_wp2; go_ret
  exact dn_


/-! ### utf8_DecodeRuneInString: function 58 -/
def laid197_ren_ : Go.Shelf.Ren := ⟨fun | 197 => 58 | 260 => 76 | n => n, fun | 46 => 115 | 105 => 89 | 119 => 114 | 138 => 117 | 139 => 118 | n => n, fun | 1 => 2 | 3 => 0 | 4 => 1 | n => n⟩
theorem laid197_ : Go.Proofs.Lays.n197 Tryz.prog laid197_ren_ := {
 mixed := by kernel_rfl
 f197 := Tryz.func58.trans (congrArg some (by kernel_rfl))
 f260 := Tryz.func76.trans (congrArg some (by kernel_rfl))
 t0 := Tryz.underlying0
 a0 := Tryz.isAgg0
 z0 := Tryz.sizeOf0
 v0 := Tryz.zeroValue0
 t3 := Tryz.underlying3
 a3 := Tryz.isAgg3
 z3 := Tryz.sizeOf3
 v3 := Tryz.zeroValue3
 t4 := Tryz.underlying4
 a4 := Tryz.isAgg4
 z4 := Tryz.sizeOf4
 v4 := Tryz.zeroValue4
 t5 := Tryz.underlying5
 a5 := Tryz.isAgg5
 z5 := Tryz.sizeOf5
 v5 := Tryz.zeroValue5
 t9 := Tryz.underlying9
 a9 := Tryz.isAgg9
 z9 := Tryz.sizeOf9
 v9 := Tryz.zeroValue9
 t21 := Tryz.underlying21
 a21 := Tryz.isAgg21
 z21 := Tryz.sizeOf21
 v21 := Tryz.zeroValue21
 t46 := Tryz.underlying115
 a46 := Tryz.isAgg115
 z46 := Tryz.sizeOf115
 v46 := Tryz.zeroValue115
 t105 := Tryz.underlying89
 a105 := Tryz.isAgg89
 z105 := Tryz.sizeOf89
 v105 := Tryz.zeroValue89
 t119 := Tryz.underlying114
 a119 := Tryz.isAgg114
 z119 := Tryz.sizeOf114
 t138 := Tryz.underlying117
 a138 := Tryz.isAgg117
 z138 := Tryz.sizeOf117
 v138 := Tryz.zeroValue117
 t139 := Tryz.underlying118
 a139 := Tryz.isAgg118
 z139 := Tryz.sizeOf118
 v139 := Tryz.zeroValue118
 g3 := by kernel_rfl
 g4 := by kernel_rfl }

def laid146_ren_ : Go.Shelf.Ren := ⟨fun | 138 => 98 | 143 => 99 | 146 => 62 | 195 => 114 | 197 => 58 | 217 => 93 | 218 => 115 | 219 => 79 | 221 => 80 | 224 => 95 | 225 => 94 | 260 => 76 | 266 => 112 | 267 => 96 | 268 => 97 | 314 => 113 | n => n, fun | 31 => 92 | 46 => 115 | 51 => 128 | 105 => 89 | 119 => 114 | 138 => 117 | 139 => 118 | 146 => 129 | n => n, fun | 1 => 2 | 3 => 0 | 4 => 1 | n => n⟩
theorem laid146_ : Go.Proofs.Lays.n146 Tryz.prog laid146_ren_ := {
 mixed := by kernel_rfl
 f138 := Tryz.func98.trans (congrArg some (by kernel_rfl))
 f143 := Tryz.func99.trans (congrArg some (by kernel_rfl))
 f146 := Tryz.func62.trans (congrArg some (by kernel_rfl))
 f195 := Tryz.func114.trans (congrArg some (by kernel_rfl))
 f197 := Tryz.func58.trans (congrArg some (by kernel_rfl))
 f217 := Tryz.func93.trans (congrArg some (by kernel_rfl))
 f218 := Tryz.func115.trans (congrArg some (by kernel_rfl))
 f219 := Tryz.func79.trans (congrArg some (by kernel_rfl))
 f221 := Tryz.func80.trans (congrArg some (by kernel_rfl))
 f224 := Tryz.func95.trans (congrArg some (by kernel_rfl))
 f225 := Tryz.func94.trans (congrArg some (by kernel_rfl))
 f260 := Tryz.func76.trans (congrArg some (by kernel_rfl))
 f266 := Tryz.func112.trans (congrArg some (by kernel_rfl))
 f267 := Tryz.func96.trans (congrArg some (by kernel_rfl))
 f268 := Tryz.func97.trans (congrArg some (by kernel_rfl))
 f314 := Tryz.func113.trans (congrArg some (by kernel_rfl))
 t0 := Tryz.underlying0
 a0 := Tryz.isAgg0
 z0 := Tryz.sizeOf0
 v0 := Tryz.zeroValue0
 t3 := Tryz.underlying3
 a3 := Tryz.isAgg3
 z3 := Tryz.sizeOf3
 v3 := Tryz.zeroValue3
 t4 := Tryz.underlying4
 a4 := Tryz.isAgg4
 z4 := Tryz.sizeOf4
 v4 := Tryz.zeroValue4
 t5 := Tryz.underlying5
 a5 := Tryz.isAgg5
 z5 := Tryz.sizeOf5
 v5 := Tryz.zeroValue5
 t9 := Tryz.underlying9
 a9 := Tryz.isAgg9
 z9 := Tryz.sizeOf9
 v9 := Tryz.zeroValue9
 t21 := Tryz.underlying21
 a21 := Tryz.isAgg21
 z21 := Tryz.sizeOf21
 v21 := Tryz.zeroValue21
 t31 := Tryz.underlying92
 a31 := Tryz.isAgg92
 z31 := Tryz.sizeOf92
 v31 := Tryz.zeroValue92
 t46 := Tryz.underlying115
 a46 := Tryz.isAgg115
 z46 := Tryz.sizeOf115
 v46 := Tryz.zeroValue115
 t51 := Tryz.underlying128
 a51 := Tryz.isAgg128
 z51 := Tryz.sizeOf128
 v51 := Tryz.zeroValue128
 t105 := Tryz.underlying89
 a105 := Tryz.isAgg89
 z105 := Tryz.sizeOf89
 v105 := Tryz.zeroValue89
 t119 := Tryz.underlying114
 a119 := Tryz.isAgg114
 z119 := Tryz.sizeOf114
 t138 := Tryz.underlying117
 a138 := Tryz.isAgg117
 z138 := Tryz.sizeOf117
 v138 := Tryz.zeroValue117
 t139 := Tryz.underlying118
 a139 := Tryz.isAgg118
 z139 := Tryz.sizeOf118
 v139 := Tryz.zeroValue118
 t146 := Tryz.underlying129
 a146 := Tryz.isAgg129
 z146 := Tryz.sizeOf129
 v146 := Tryz.zeroValue129
 g1 := by kernel_rfl
 g3 := by kernel_rfl
 g4 := by kernel_rfl }

theorem laid260_ : Go.Proofs.Lays.n260 Tryz.prog laid197_ren_ := { laid197_ with }
/-- the two tables of unicode/utf8 and the library's own number of internal/bytealg lie in this world. -/
def U8Tabs_ (w : World) : Prop := Lib.Utf8Tabs (laid197_ren_.g 3) (laid197_ren_.g 4) w ∧ ∃ m : Int, w.cell? ⟨laid146_ren_.g 1, 0, none⟩ = some (.int .i64 m)
theorem utf8_keep_ {w w' : World} (h : U8Tabs_ w) (hb : Below w.heap.size w w') : U8Tabs_ w' := by
 have key : ∀ (g i : Nat) (v : Value), w.cell? ⟨g, i, none⟩ = some v → w'.cell? ⟨g, i, none⟩ = some v := by
  intro g i v hc; exact (hb.cell (World.block_lt_of_cell? w _ hc)).trans hc
 obtain ⟨h, m, hm⟩ := h; exact ⟨⟨fun c hc => key _ _ _ (h.1 c hc), fun i hi => ⟨key _ _ _ (h.2 i hi).1, key _ _ _ (h.2 i hi).2⟩⟩, m, key _ _ _ hm⟩
theorem utf8_drawn_ {w w' : World} (h : U8Tabs_ w) (hb : Drawn0 w w') : U8Tabs_ w' := by
 obtain ⟨n, rfl⟩ := hb; exact utf8_keep_ h (pw_below_drewN (Below.refl _ _) n)
def utf8_DecodeRuneInString.f (a0 : ByteArray) : Option (Int × Int) := some (((Lib.decodeGo a0).1 : Int), ((Lib.decodeGo a0).2 : Int))
theorem utf8_DecodeRuneInString.calls (a0 : ByteArray) (r1 : Int) (r2 : Int) (w : World) (h : utf8_DecodeRuneInString.f a0 = some (r1, r2)) (hT_ : U8Tabs_ w) :
  Calls Tryz.prog 58 #[.string a0] w fun e w' => e = .returned (.tuple #[.int .i32 r1, .int .i64 r2]) ∧ Below w.heap.size w w' := by
 unfold utf8_DecodeRuneInString.f at h
 simp only [Option.some.injEq, Prod.mk.injEq] at h
 obtain ⟨rfl, rfl⟩ := h; exact Any.utf8_DecodeRuneInString laid197_ a0 w hT_.1

/-! ### impl_mayRune: function 59 -/
def impl_mayRune.f (a0 : Int) : Option (Bool) := if a0 = 9 then (some true) else (if a0 = 10 then (some true) else (if a0 = 13 then (some true) else ((impl_within.f a0 32 1114111).bind fun t271 => (if t271 = true then ((impl_within.f a0 55296 57343).bind fun t272 => (some (!t272))) else (some false)))))
theorem impl_mayRune.calls (a0 : Int) (r : Bool) (w : World) (h : impl_mayRune.f a0 = some r) :
  Calls Tryz.prog 59 #[.int .i64 a0] w fun e w' => e = .returned (.bool r) ∧ Drawn0 w w' := by
 have H := h; unfold impl_mayRune.f at H
 clear h; replace H := ite_ H; rcases H with ⟨c2, H⟩ | ⟨c2, H⟩
 ·have c2b0 := beq_iff_eq.mpr c2; have c2b1 := bne_eq_false_iff_eq.mpr c2; clear c2; obtain rfl := Option.some.inj H
  go_enter Tryz.func59, Tryz.ntmps59
  go_wp2; go_ret
  exact dn_
 ·have c2b0 := beq_eq_false_iff_ne.mpr c2; have c2b1 := bne_iff_ne.mpr c2; replace H := ite_ H; rcases H with ⟨c3, H⟩ | ⟨c3, H⟩
  ·have c3b0 := beq_iff_eq.mpr c3; have c3b1 := bne_eq_false_iff_eq.mpr c3; clear c3; obtain rfl := Option.some.inj H
   go_enter Tryz.func59, Tryz.ntmps59
   go_wp2; go_ret
   exact dn_
  ·have c3b0 := beq_eq_false_iff_ne.mpr c3; have c3b1 := bne_iff_ne.mpr c3; replace H := ite_ H; rcases H with ⟨c4, H⟩ | ⟨c4, H⟩
   ·have c4b0 := beq_iff_eq.mpr c4; have c4b1 := bne_eq_false_iff_eq.mpr c4; clear c4; obtain rfl := Option.some.inj H
    go_enter Tryz.func59, Tryz.ntmps59
    go_wp2; go_ret
    exact dn_
   ·have c4b0 := beq_eq_false_iff_ne.mpr c4; have c4b1 := bne_iff_ne.mpr c4; replace H := bnd_ H; obtain ⟨t271, A5, H⟩ := H; replace H := itb_ H; rcases H with ⟨rfl, H⟩ | ⟨rfl, H⟩
    ·replace H := bnd_ H; obtain ⟨t272, A7, H⟩ := H; obtain rfl := Option.some.inj H
     go_enter Tryz.func59, Tryz.ntmps59
     go_wp2_with (first | (go_at_call 37; (with_reducible refine (impl_within.calls a0 32 1114111 true _ A5.out).mono ?_); rintro e w' ⟨rfl, ⟨nd, rfl⟩⟩) | (go_at_call 37; (with_reducible refine (impl_within.calls a0 55296 57343 t272 _ A7.out).mono ?_); rintro e w' ⟨rfl, ⟨nd, rfl⟩⟩))
     go_ret
     exact dn_
    ·obtain rfl := Option.some.inj H
     go_enter Tryz.func59, Tryz.ntmps59
     go_wp2_with (first | (go_at_call 37; (with_reducible refine (impl_within.calls a0 32 1114111 false _ A5.out).mono ?_); rintro e w' ⟨rfl, ⟨nd, rfl⟩⟩))
     go_ret
     exact dn_

/-! ### impl_badByte: function 38 -/
def impl_badByte.l0 : Nat → ByteArray → Int → Option (Int)
 | 0, _, _ => none
 | k + 1, x0, x3 => if x3 < (x0.size : Int) then (if 0 ≤ x3 then (if x3 ≤ (x0.size : Int) then ((utf8_DecodeRuneInString.f (x0.extract (x3 : Int).toNat x0.size)).bind fun bt273 => (if bt273.1 = 65533 then (if bt273.2 = 1 then (some x3) else ((impl_mayRune.f (wrap64 (bt273.1))).bind fun t275 => (if t275 = true then (impl_badByte.l0 k x0 (wrap64 (x3 + bt273.2))) else (some x3)))) else ((impl_mayRune.f (wrap64 (bt273.1))).bind fun t276 => (if t276 = true then (impl_badByte.l0 k x0 (wrap64 (x3 + bt273.2))) else (some x3))))) else (none)) else (none)) else (some (-1))
def impl_badByte.f (k : Nat) (a0 : ByteArray) : Option (Int) := impl_badByte.l0 k a0 0
theorem impl_badByte.calls (k : Nat) (a0 : ByteArray) (r : Int) (w : World) (h : impl_badByte.f k a0 = some r) (hT_ : U8Tabs_ w) :
  Calls Tryz.prog 38 #[.string a0] w fun e w' => e = .returned (.int .i64 r) ∧ Below w.heap.size w w' := by
 have HB := ak_ (Below.refl w.heap.size w); have H := h; unfold impl_badByte.f at H
 clear h; have H' := ak_ H; clear H; go_enter Tryz.func38, Tryz.ntmps38
 go_wp2; go_loopg [3] k (fun kq v3 w' => ∃ (x3_1 : Int), v3 = .int .i64 x3_1 ∧ Aside0 (impl_badByte.l0 kq a0 x3_1 = some r) ∧ Aside0 (kq ≤ k) ∧ Aside0 (Below w.heap.size w w'))
 case atStart => exact ⟨(0), sv_, H', ⟨Nat.le_refl _⟩, ⟨bel_⟩⟩
 case round =>
  clear H'; obtain ⟨x3_1, rfl, HA, HK1, HB⟩ := hrel; cases gk with
  | zero => exact absurd HA.out (by simp [impl_badByte.l0])
  | succ k1 =>
   have H := HA.out; clear HA; simp only [impl_badByte.l0] at H
   replace H := ied_ H; rcases H with ⟨c2b0, H⟩ | ⟨c2b0, H⟩
   ·replace H := itn_ H; obtain ⟨c3, H⟩ := H; have c3b0 := eq_true c3; have c3b1 := decide_eq_true c3; clear c3; replace H := itn_ H; obtain ⟨c4, H⟩ := H; have c4b0 := eq_true c4; have c4b1 := decide_eq_true c4; clear c4; replace H := bnd_ H; obtain ⟨⟨t273, t274⟩, A5, H⟩ := H; (try dsimp only at H); replace H := ite_ H; rcases H with ⟨c6, H⟩ | ⟨c6, H⟩
    ·have c6b0 := beq_iff_eq.mpr c6; have c6b1 := bne_eq_false_iff_eq.mpr c6; clear c6; replace H := ite_ H; rcases H with ⟨c7, H⟩ | ⟨c7, H⟩
     ·have c7b0 := beq_iff_eq.mpr c7; have c7b1 := bne_eq_false_iff_eq.mpr c7; clear c7; obtain rfl := Option.some.inj H
      go_wp2_with (first | ((with_reducible refine gate_callee (f := 58) rfl ?_); refine gl_ (some 14) Tryz.func58 #[.string (a0.extract (x3_1 : Int).toNat a0.size)] ?_; (with_reducible refine (utf8_DecodeRuneInString.calls (a0.extract (x3_1 : Int).toNat a0.size) t273 t274 _ A5.out ?hT_).mono ?_); (case hT_ => exact utf8_keep_ hT_ bel_); rintro e w8 ⟨rfl, hb⟩; refine ⟨_, rfl, ?_⟩; replace HB := ak_ (below_step bel_ hb); (try clear hb);(try clear hb2);(try clear hk);(try clear hi)))
      go_ret
      exact ⟨er_, bel_⟩
     ·have c7b0 := beq_eq_false_iff_ne.mpr c7; have c7b1 := bne_iff_ne.mpr c7; replace H := bnd_ H; obtain ⟨t275, A9, H⟩ := H; replace H := itb_ H; rcases H with ⟨rfl, H⟩ | ⟨rfl, H⟩
      ·have H' := ak_ H; clear H; go_wp2_with (first | ((with_reducible refine gate_callee (f := 58) rfl ?_); refine gl_ (some 14) Tryz.func58 #[.string (a0.extract (x3_1 : Int).toNat a0.size)] ?_; (with_reducible refine (utf8_DecodeRuneInString.calls (a0.extract (x3_1 : Int).toNat a0.size) t273 t274 _ A5.out ?hT_).mono ?_); (case hT_ => exact utf8_keep_ hT_ bel_); rintro e w11 ⟨rfl, hb⟩; refine ⟨_, rfl, ?_⟩; replace HB := ak_ (below_step bel_ hb); (try clear hb);(try clear hb2);(try clear hk);(try clear hi)) | (go_at_call 59; (with_reducible refine (impl_mayRune.calls (wrap64 (t273)) true _ A9.out).mono ?_); rintro e w' ⟨rfl, ⟨nd, rfl⟩⟩))
       go_roundg k1
       case measure => have := HK1.out; omega
       case rel => exact ⟨(wrap64 (x3_1 + t274)), sv_, H', ⟨by have := HK1.out; omega⟩, ⟨bel_⟩⟩
      ·obtain rfl := Option.some.inj H
       go_wp2_with (first | ((with_reducible refine gate_callee (f := 58) rfl ?_); refine gl_ (some 14) Tryz.func58 #[.string (a0.extract (x3_1 : Int).toNat a0.size)] ?_; (with_reducible refine (utf8_DecodeRuneInString.calls (a0.extract (x3_1 : Int).toNat a0.size) t273 t274 _ A5.out ?hT_).mono ?_); (case hT_ => exact utf8_keep_ hT_ bel_); rintro e w12 ⟨rfl, hb⟩; refine ⟨_, rfl, ?_⟩; replace HB := ak_ (below_step bel_ hb); (try clear hb);(try clear hb2);(try clear hk);(try clear hi)) | (go_at_call 59; (with_reducible refine (impl_mayRune.calls (wrap64 (t273)) false _ A9.out).mono ?_); rintro e w' ⟨rfl, ⟨nd, rfl⟩⟩))
       go_ret
       exact ⟨er_, bel_⟩
    ·have c6b0 := beq_eq_false_iff_ne.mpr c6; have c6b1 := bne_iff_ne.mpr c6; replace H := bnd_ H; obtain ⟨t276, A13, H⟩ := H; replace H := itb_ H; rcases H with ⟨rfl, H⟩ | ⟨rfl, H⟩
     ·have H' := ak_ H; clear H; go_wp2_with (first | ((with_reducible refine gate_callee (f := 58) rfl ?_); refine gl_ (some 14) Tryz.func58 #[.string (a0.extract (x3_1 : Int).toNat a0.size)] ?_; (with_reducible refine (utf8_DecodeRuneInString.calls (a0.extract (x3_1 : Int).toNat a0.size) t273 t274 _ A5.out ?hT_).mono ?_); (case hT_ => exact utf8_keep_ hT_ bel_); rintro e w15 ⟨rfl, hb⟩; refine ⟨_, rfl, ?_⟩; replace HB := ak_ (below_step bel_ hb); (try clear hb);(try clear hb2);(try clear hk);(try clear hi)) | (go_at_call 59; (with_reducible refine (impl_mayRune.calls (wrap64 (t273)) true _ A13.out).mono ?_); rintro e w' ⟨rfl, ⟨nd, rfl⟩⟩))
      go_roundg k1
      case measure => have := HK1.out; omega
      case rel => exact ⟨(wrap64 (x3_1 + t274)), sv_, H', ⟨by have := HK1.out; omega⟩, ⟨bel_⟩⟩
     ·obtain rfl := Option.some.inj H
      go_wp2_with (first | ((with_reducible refine gate_callee (f := 58) rfl ?_); refine gl_ (some 14) Tryz.func58 #[.string (a0.extract (x3_1 : Int).toNat a0.size)] ?_; (with_reducible refine (utf8_DecodeRuneInString.calls (a0.extract (x3_1 : Int).toNat a0.size) t273 t274 _ A5.out ?hT_).mono ?_); (case hT_ => exact utf8_keep_ hT_ bel_); rintro e w16 ⟨rfl, hb⟩; refine ⟨_, rfl, ?_⟩; replace HB := ak_ (below_step bel_ hb); (try clear hb);(try clear hb2);(try clear hk);(try clear hi)) | (go_at_call 59; (with_reducible refine (impl_mayRune.calls (wrap64 (t273)) false _ A13.out).mono ?_); rintro e w' ⟨rfl, ⟨nd, rfl⟩⟩))
      go_ret
      exact ⟨er_, bel_⟩
   ·obtain rfl := Option.some.inj H
    go_wp2; go_ret
    exact ⟨er_, bel_⟩

/-! ### impl_isLetter: function 92 -/
def impl_isLetter.f (a0 : Int) : Option (Bool) := if a0 ≥ 97 then (if a0 ≤ 122 then (some true) else (if a0 ≥ 65 then (some (decide (a0 ≤ 90))) else (some false))) else (if a0 ≥ 65 then (some (decide (a0 ≤ 90))) else (some false))
theorem impl_isLetter.calls (a0 : Int) (r : Bool) (w : World) (h : impl_isLetter.f a0 = some r) :
  Calls Tryz.prog 92 #[.int .u8 a0] w fun e w' => e = .returned (.bool r) ∧ Drawn0 w w' := by
 have H := h; unfold impl_isLetter.f at H
 clear h; replace H := ied_ H; rcases H with ⟨c2b0, H⟩ | ⟨c2b0, H⟩
 ·replace H := ied_ H; rcases H with ⟨c3b0, H⟩ | ⟨c3b0, H⟩
  ·obtain rfl := Option.some.inj H
   go_enter Tryz.func92, Tryz.ntmps92
   go_wp2; go_ret
   exact dn_
  ·replace H := ied_ H; rcases H with ⟨c4b0, H⟩ | ⟨c4b0, H⟩
   ·obtain rfl := Option.some.inj H
    go_enter Tryz.func92, Tryz.ntmps92
    go_wp2; go_ret
    exact dn_
   ·obtain rfl := Option.some.inj H
    go_enter Tryz.func92, Tryz.ntmps92
    go_wp2; go_ret
    exact dn_
 ·replace H := ied_ H; rcases H with ⟨c5b0, H⟩ | ⟨c5b0, H⟩
  ·obtain rfl := Option.some.inj H
   go_enter Tryz.func92, Tryz.ntmps92
   go_wp2; go_ret
   exact dn_
  ·obtain rfl := Option.some.inj H
   go_enter Tryz.func92, Tryz.ntmps92
   go_wp2; go_ret
   exact dn_

/-! ### impl_mayBegin: function 77 -/
def impl_mayBegin.f (a0 : Int) : Option (Bool) := (impl_isLetter.f a0).bind fun t277 => (if t277 = true then (some true) else (some (a0 == 95)))
theorem impl_mayBegin.calls (a0 : Int) (r : Bool) (w : World) (h : impl_mayBegin.f a0 = some r) :
  Calls Tryz.prog 77 #[.int .u8 a0] w fun e w' => e = .returned (.bool r) ∧ Drawn0 w w' := by
 have H := h; unfold impl_mayBegin.f at H
 clear h; replace H := bnd_ H; obtain ⟨t277, A2, H⟩ := H; replace H := itb_ H; rcases H with ⟨rfl, H⟩ | ⟨rfl, H⟩
 ·obtain rfl := Option.some.inj H
  go_enter Tryz.func77, Tryz.ntmps77
  go_wp2_with (first | ((with_reducible refine gate_callee (f := 92) rfl ?_); refine gl_ (some 4) Tryz.func92 #[.int .u8 a0] ?_; (with_reducible refine (impl_isLetter.calls a0 true _ A2.out).mono ?_); rintro e w' ⟨rfl, ⟨nd, rfl⟩⟩; refine ⟨_, rfl, ?_⟩))
  go_ret
  exact dn_
 ·obtain rfl := Option.some.inj H
  go_enter Tryz.func77, Tryz.ntmps77
  go_wp2_with (first | ((with_reducible refine gate_callee (f := 92) rfl ?_); refine gl_ (some 4) Tryz.func92 #[.int .u8 a0] ?_; (with_reducible refine (impl_isLetter.calls a0 false _ A2.out).mono ?_); rintro e w' ⟨rfl, ⟨nd, rfl⟩⟩; refine ⟨_, rfl, ?_⟩))
  go_ret
  exact dn_

/-! ### impl_isDigit: function 78 -/
def impl_isDigit.f (a0 : Int) : Option (Bool) := if a0 ≥ 48 then (some (decide (a0 ≤ 57))) else (some false)
theorem impl_isDigit.calls (a0 : Int) (r : Bool) (w : World) (h : impl_isDigit.f a0 = some r) :
  Calls Tryz.prog 78 #[.int .u8 a0] w fun e w' => e = .returned (.bool r) ∧ Drawn0 w w' := by
 have H := h; unfold impl_isDigit.f at H
 clear h; replace H := ied_ H; rcases H with ⟨c2b0, H⟩ | ⟨c2b0, H⟩
 ·obtain rfl := Option.some.inj H
  go_enter Tryz.func78, Tryz.ntmps78
  go_wp2; go_ret
  exact dn_
 ·obtain rfl := Option.some.inj H
  go_enter Tryz.func78, Tryz.ntmps78
  go_wp2; go_ret
  exact dn_

/-! ### impl_nameEnd: function 60 -/
mutual
def impl_nameEnd.j0 : Nat → ByteArray → Int → Bool → Option (Int)
 | 0, _, _, _ => none
 | k + 1, x0, x1, x15 => if x15 = true then (some x1) else (impl_nameEnd.l0 k x0 x1)
def impl_nameEnd.l0 : Nat → ByteArray → Int → Option (Int)
 | 0, _, _ => none
 | k + 1, x0, x1 => if x1 < (x0.size : Int) then (if 0 ≤ x1 then ((impl_mayBegin.f (bt x0 x1)).bind fun t279 => (if t279 = true then (impl_nameEnd.l0 k x0 (wrap64 (x1 + 1))) else ((impl_isDigit.f (bt x0 x1)).bind fun t280 => (if t280 = true then (impl_nameEnd.l0 k x0 (wrap64 (x1 + 1))) else (if (bt x0 x1) = 45 then (impl_nameEnd.l0 k x0 (wrap64 (x1 + 1))) else (if (bt x0 x1) = 58 then (impl_nameEnd.l0 k x0 (wrap64 (x1 + 1))) else (if (bt x0 x1) = 46 then (impl_nameEnd.l0 k x0 (wrap64 (x1 + 1))) else (some x1)))))))) else (none)) else (some x1)
end
def impl_nameEnd.f (k : Nat) (a0 : ByteArray) (a1 : Int) : Option (Int) := if a1 ≥ (a0.size : Int) then (impl_nameEnd.j0 k a0 a1 true) else (if 0 ≤ a1 then (if a1 < (a0.size : Int) then ((impl_mayBegin.f (bt a0 a1)).bind fun t278 => (impl_nameEnd.j0 k a0 a1 (!t278))) else (none)) else (none))
theorem impl_nameEnd.calls (k : Nat) (a0 : ByteArray) (a1 : Int) (r : Int) (w : World) (h : impl_nameEnd.f k a0 a1 = some r) :
  Calls Tryz.prog 60 #[.string a0, .int .i64 a1] w fun e w' => e = .returned (.int .i64 r) ∧ Drawn0 w w' := by
 have H := h; unfold impl_nameEnd.f at H
 clear h; have HC3 := ak_ H; clear H; go_enter Tryz.func60, Tryz.ntmps60
 go_upto_region 1 with (fail)
 go_cut [15] (fun v15 wc => ∃ (kq : Nat) (x15_2 : Bool), v15 = .bool x15_2 ∧ Aside0 (impl_nameEnd.j0 kq a0 a1 x15_2 = some r) ∧ Aside0 (kq ≤ k) ∧ Drawn0 w wc)
 case first =>
  have H := HC3.out; clear HC3; replace H := ied_ H; rcases H with ⟨c4b0, H⟩ | ⟨c4b0, H⟩
  ·(first | rw [c4b0] | (simp only [i64_w, i32_w]; rw [c4b0]) | skip)
   have H' := ak_ H; clear H; go_wp2; go_meet
   case rel => exact ⟨_, (true), sv_, H', ⟨by first | omega | exact Nat.le_refl _⟩, by repeat (first | exact Drawn0.refl _ | apply Drawn0.step)⟩
  ·(first | rw [c4b0] | (simp only [i64_w, i32_w]; rw [c4b0]) | skip)
   replace H := itd_ H; obtain ⟨c5b0, H⟩ := H; replace H := itd_ H; obtain ⟨c6b0, H⟩ := H; replace H := bnd_ H; obtain ⟨t278, A8, H⟩ := H; have H' := ak_ H; clear H; have p7 : 0 ≤ (a1 : Int) := oda_
   have q7 : a1 < (a0.size : Int) := oda_
   have hx7 := bt_at a0 a1; replace p7 := eq_true p7; replace q7 := eq_true q7; go_wp2_with (first | (go_at_call 77; (with_reducible refine (impl_mayBegin.calls (bt a0 a1) t278 _ A8.out).mono ?_); rintro e w' ⟨rfl, ⟨nd, rfl⟩⟩))
   go_meet
   case rel => exact ⟨_, (!t278), sv_, H', ⟨by first | omega | exact Nat.le_refl _⟩, by repeat (first | exact Drawn0.refl _ | apply Drawn0.step)⟩
 case rest =>
  clear HC3; (try clear p2);(try clear c4);(try clear c4b0);(try clear c5);(try clear c5b0);(try clear c6);(try clear c6b0);(try clear p7);(try clear q7);(try clear hx7);(try clear p7);(try clear q7)
  obtain ⟨kq, x15_2, rfl, HA, HJ2, ⟨mc2, rfl⟩⟩ := hcut; cases kq with
  | zero => exact absurd HA.out (by simp [impl_nameEnd.j0])
  | succ kj2 =>
   have H := HA.out; clear HA; simp only [impl_nameEnd.j0] at H
   replace H := itb_ H; rcases H with ⟨rfl, H⟩ | ⟨rfl, H⟩
   ·obtain rfl := Option.some.inj H
    go_wp2; go_ret
    exact dn_
   ·have H' := ak_ H; clear H; go_wp2; go_loopg [1] kj2 (fun kq v1 w' => ∃ (x1_2 : Int), v1 = .int .i64 x1_2 ∧ Aside0 (impl_nameEnd.l0 kq a0 x1_2 = some r) ∧ Aside0 (kq ≤ kj2) ∧ Drawn0 w w')
    case atStart => exact ⟨(a1), sv_, H', ⟨Nat.le_refl _⟩, by repeat (first | exact Drawn0.refl _ | apply Drawn0.step)⟩
    case round =>
     clear H'; obtain ⟨x1_2, rfl, HA, HK2, ⟨m2, rfl⟩⟩ := hrel; cases gk with
     | zero => exact absurd HA.out (by simp [impl_nameEnd.l0])
     | succ k2 =>
      have H := HA.out; clear HA; simp only [impl_nameEnd.l0] at H
      replace H := ied_ H; rcases H with ⟨c10b0, H⟩ | ⟨c10b0, H⟩
      ·replace H := itd_ H; obtain ⟨c11b0, H⟩ := H; replace H := bnd_ H; obtain ⟨t279, A13, H⟩ := H; replace H := itb_ H; rcases H with ⟨rfl, H⟩ | ⟨rfl, H⟩
       ·have H' := ak_ H; clear H; have p12 : 0 ≤ (x1_2 : Int) := oda_
        have q12 : x1_2 < (a0.size : Int) := oda_
        have hx12 := bt_at a0 x1_2; replace p12 := eq_true p12; replace q12 := eq_true q12; go_wp2_with (first | (go_at_call 77; (with_reducible refine (impl_mayBegin.calls (bt a0 x1_2) true _ A13.out).mono ?_); rintro e w' ⟨rfl, ⟨nd, rfl⟩⟩))
        go_roundg k2
        case measure => have := HJ2.out; have := HK2.out; omega
        case rel => exact ⟨(wrap64 (x1_2 + 1)), sv_, H', ⟨by have := HJ2.out; have := HK2.out; omega⟩, by repeat (first | exact Drawn0.refl _ | apply Drawn0.step)⟩
       ·replace H := bnd_ H; obtain ⟨t280, A16, H⟩ := H; replace H := itb_ H; rcases H with ⟨rfl, H⟩ | ⟨rfl, H⟩
        ·have H' := ak_ H; clear H; have p12 : 0 ≤ (x1_2 : Int) := oda_
         have q12 : x1_2 < (a0.size : Int) := oda_
         have hx12 := bt_at a0 x1_2; replace p12 := eq_true p12; replace q12 := eq_true q12; go_wp2_with (first | (go_at_call 77; (with_reducible refine (impl_mayBegin.calls (bt a0 x1_2) false _ A13.out).mono ?_); rintro e w' ⟨rfl, ⟨nd, rfl⟩⟩; have p15 : 0 ≤ (x1_2 : Int) := oda_; have q15 : x1_2 < (a0.size : Int) := oda_; have hx15 := bt_at a0 x1_2; replace p15 := eq_true p15; replace q15 := eq_true q15) | (go_at_call 78; (with_reducible refine (impl_isDigit.calls (bt a0 x1_2) true _ A16.out).mono ?_); rintro e w' ⟨rfl, ⟨nd, rfl⟩⟩))
         go_roundg k2
         case measure => have := HJ2.out; have := HK2.out; omega
         case rel => exact ⟨(wrap64 (x1_2 + 1)), sv_, H', ⟨by have := HJ2.out; have := HK2.out; omega⟩, by repeat (first | exact Drawn0.refl _ | apply Drawn0.step)⟩
        ·replace H := ite_ H; rcases H with ⟨c19, H⟩ | ⟨c19, H⟩
         ·have c19b0 := beq_iff_eq.mpr c19; have c19b1 := bne_eq_false_iff_eq.mpr c19; clear c19; have H' := ak_ H; clear H; have p12 : 0 ≤ (x1_2 : Int) := oda_
          have q12 : x1_2 < (a0.size : Int) := oda_
          have hx12 := bt_at a0 x1_2; replace p12 := eq_true p12; replace q12 := eq_true q12; go_wp2_with (first | (go_at_call 77; (with_reducible refine (impl_mayBegin.calls (bt a0 x1_2) false _ A13.out).mono ?_); rintro e w' ⟨rfl, ⟨nd, rfl⟩⟩; have p15 : 0 ≤ (x1_2 : Int) := oda_; have q15 : x1_2 < (a0.size : Int) := oda_; have hx15 := bt_at a0 x1_2; replace p15 := eq_true p15; replace q15 := eq_true q15) | (go_at_call 78; (with_reducible refine (impl_isDigit.calls (bt a0 x1_2) false _ A16.out).mono ?_); rintro e w' ⟨rfl, ⟨nd, rfl⟩⟩; have p18 : 0 ≤ (x1_2 : Int) := oda_; have q18 : x1_2 < (a0.size : Int) := oda_; have hx18 := bt_at a0 x1_2; replace p18 := eq_true p18; replace q18 := eq_true q18))
          go_roundg k2
          case measure => have := HJ2.out; have := HK2.out; omega
          case rel => exact ⟨(wrap64 (x1_2 + 1)), sv_, H', ⟨by have := HJ2.out; have := HK2.out; omega⟩, by repeat (first | exact Drawn0.refl _ | apply Drawn0.step)⟩
         ·have c19b0 := beq_eq_false_iff_ne.mpr c19; have c19b1 := bne_iff_ne.mpr c19; replace H := ite_ H; rcases H with ⟨c21, H⟩ | ⟨c21, H⟩
          ·have c21b0 := beq_iff_eq.mpr c21; have c21b1 := bne_eq_false_iff_eq.mpr c21; clear c21; have H' := ak_ H; clear H; have p12 : 0 ≤ (x1_2 : Int) := oda_
           have q12 : x1_2 < (a0.size : Int) := oda_
           have hx12 := bt_at a0 x1_2; replace p12 := eq_true p12; replace q12 := eq_true q12; go_wp2_with (first | (go_at_call 77; (with_reducible refine (impl_mayBegin.calls (bt a0 x1_2) false _ A13.out).mono ?_); rintro e w' ⟨rfl, ⟨nd, rfl⟩⟩; have p15 : 0 ≤ (x1_2 : Int) := oda_; have q15 : x1_2 < (a0.size : Int) := oda_; have hx15 := bt_at a0 x1_2; replace p15 := eq_true p15; replace q15 := eq_true q15) | (go_at_call 78; (with_reducible refine (impl_isDigit.calls (bt a0 x1_2) false _ A16.out).mono ?_); rintro e w' ⟨rfl, ⟨nd, rfl⟩⟩; have p18 : 0 ≤ (x1_2 : Int) := oda_; have q18 : x1_2 < (a0.size : Int) := oda_; have hx18 := bt_at a0 x1_2; replace p18 := eq_true p18; replace q18 := eq_true q18; have p20 : 0 ≤ (x1_2 : Int) := oda_; have q20 : x1_2 < (a0.size : Int) := oda_; have hx20 := bt_at a0 x1_2; replace p20 := eq_true p20; replace q20 := eq_true q20))
           go_roundg k2
           case measure => have := HJ2.out; have := HK2.out; omega
           case rel => exact ⟨(wrap64 (x1_2 + 1)), sv_, H', ⟨by have := HJ2.out; have := HK2.out; omega⟩, by repeat (first | exact Drawn0.refl _ | apply Drawn0.step)⟩
          ·have c21b0 := beq_eq_false_iff_ne.mpr c21; have c21b1 := bne_iff_ne.mpr c21; replace H := ite_ H; rcases H with ⟨c23, H⟩ | ⟨c23, H⟩
           ·have c23b0 := beq_iff_eq.mpr c23; have c23b1 := bne_eq_false_iff_eq.mpr c23; clear c23; have H' := ak_ H; clear H; have p12 : 0 ≤ (x1_2 : Int) := oda_
            have q12 : x1_2 < (a0.size : Int) := oda_
            have hx12 := bt_at a0 x1_2; replace p12 := eq_true p12; replace q12 := eq_true q12; go_wp2_with (first | (go_at_call 77; (with_reducible refine (impl_mayBegin.calls (bt a0 x1_2) false _ A13.out).mono ?_); rintro e w' ⟨rfl, ⟨nd, rfl⟩⟩; have p15 : 0 ≤ (x1_2 : Int) := oda_; have q15 : x1_2 < (a0.size : Int) := oda_; have hx15 := bt_at a0 x1_2; replace p15 := eq_true p15; replace q15 := eq_true q15) | (go_at_call 78; (with_reducible refine (impl_isDigit.calls (bt a0 x1_2) false _ A16.out).mono ?_); rintro e w' ⟨rfl, ⟨nd, rfl⟩⟩; have p18 : 0 ≤ (x1_2 : Int) := oda_; have q18 : x1_2 < (a0.size : Int) := oda_; have hx18 := bt_at a0 x1_2; replace p18 := eq_true p18; replace q18 := eq_true q18; have p20 : 0 ≤ (x1_2 : Int) := oda_; have q20 : x1_2 < (a0.size : Int) := oda_; have hx20 := bt_at a0 x1_2; replace p20 := eq_true p20; replace q20 := eq_true q20; have p22 : 0 ≤ (x1_2 : Int) := oda_; have q22 : x1_2 < (a0.size : Int) := oda_; have hx22 := bt_at a0 x1_2; replace p22 := eq_true p22; replace q22 := eq_true q22))
            go_roundg k2
            case measure => have := HJ2.out; have := HK2.out; omega
            case rel => exact ⟨(wrap64 (x1_2 + 1)), sv_, H', ⟨by have := HJ2.out; have := HK2.out; omega⟩, by repeat (first | exact Drawn0.refl _ | apply Drawn0.step)⟩
           ·have c23b0 := beq_eq_false_iff_ne.mpr c23; have c23b1 := bne_iff_ne.mpr c23; obtain rfl := Option.some.inj H
            have p12 : 0 ≤ (x1_2 : Int) := oda_
            have q12 : x1_2 < (a0.size : Int) := oda_
            have hx12 := bt_at a0 x1_2; replace p12 := eq_true p12; replace q12 := eq_true q12; go_wp2_with (first | (go_at_call 77; (with_reducible refine (impl_mayBegin.calls (bt a0 x1_2) false _ A13.out).mono ?_); rintro e w' ⟨rfl, ⟨nd, rfl⟩⟩; have p15 : 0 ≤ (x1_2 : Int) := oda_; have q15 : x1_2 < (a0.size : Int) := oda_; have hx15 := bt_at a0 x1_2; replace p15 := eq_true p15; replace q15 := eq_true q15) | (go_at_call 78; (with_reducible refine (impl_isDigit.calls (bt a0 x1_2) false _ A16.out).mono ?_); rintro e w' ⟨rfl, ⟨nd, rfl⟩⟩; have p18 : 0 ≤ (x1_2 : Int) := oda_; have q18 : x1_2 < (a0.size : Int) := oda_; have hx18 := bt_at a0 x1_2; replace p18 := eq_true p18; replace q18 := eq_true q18; have p20 : 0 ≤ (x1_2 : Int) := oda_; have q20 : x1_2 < (a0.size : Int) := oda_; have hx20 := bt_at a0 x1_2; replace p20 := eq_true p20; replace q20 := eq_true q20; have p22 : 0 ≤ (x1_2 : Int) := oda_; have q22 : x1_2 < (a0.size : Int) := oda_; have hx22 := bt_at a0 x1_2; replace p22 := eq_true p22; replace q22 := eq_true q22))
            go_ret
            exact dn_
      ·obtain rfl := Option.some.inj H
       go_wp2; go_ret
       exact dn_

/-! ### impl_isName: function 39 -/
def impl_isName.f (k : Nat) (a0 : ByteArray) : Option (Bool) := (impl_within.f (a0.size : Int) 1 30).bind fun t281 => (if t281 = true then ((impl_nameEnd.f k a0 0).bind fun t282 => (some (t282 == (a0.size : Int)))) else (some false))
theorem impl_isName.calls (k : Nat) (a0 : ByteArray) (r : Bool) (w : World) (h : impl_isName.f k a0 = some r) :
  Calls Tryz.prog 39 #[.string a0] w fun e w' => e = .returned (.bool r) ∧ Drawn0 w w' := by
 have H := h; unfold impl_isName.f at H
 clear h; replace H := bnd_ H; obtain ⟨t281, A2, H⟩ := H; replace H := itb_ H; rcases H with ⟨rfl, H⟩ | ⟨rfl, H⟩
 ·replace H := bnd_ H; obtain ⟨t282, A4, H⟩ := H; obtain rfl := Option.some.inj H
  go_enter Tryz.func39, Tryz.ntmps39
  go_wp2_with (first | ((with_reducible refine gate_callee (f := 37) rfl ?_); refine gl_ (some 5) Tryz.func37 #[.int .i64 (a0.size : Int), .int .i64 1, .int .i64 30] ?_; (with_reducible refine (impl_within.calls (a0.size : Int) 1 30 true _ A2.out).mono ?_); rintro e w' ⟨rfl, ⟨nd, rfl⟩⟩; refine ⟨_, rfl, ?_⟩) | (go_at_call 60; (with_reducible refine (impl_nameEnd.calls k a0 0 t282 _ A4.out).mono ?_); rintro e w' ⟨rfl, ⟨nd, rfl⟩⟩))
  go_ret
  exact dn_
 ·obtain rfl := Option.some.inj H
  go_enter Tryz.func39, Tryz.ntmps39
  go_wp2_with (first | ((with_reducible refine gate_callee (f := 37) rfl ?_); refine gl_ (some 5) Tryz.func37 #[.int .i64 (a0.size : Int), .int .i64 1, .int .i64 30] ?_; (with_reducible refine (impl_within.calls (a0.size : Int) 1 30 false _ A2.out).mono ?_); rintro e w' ⟨rfl, ⟨nd, rfl⟩⟩; refine ⟨_, rfl, ?_⟩))
  go_ret
  exact dn_

/-! ### impl_areAttrs: function 40 -/
mutual
def impl_areAttrs.l0 : Nat → List (S76) → List (S76) → Int → Int → Option (Bool)
 | 0, _, _, _, _ => none
 | k + 1, x0, x7, x8, x9 => if x9 < x8 then (if 0 ≤ x9 then (if x9 < (x7.length : Int) then ((impl_isName.f k ((rd_T76 x7 x9).f0)).bind fun t285 => (if t285 = true then ((impl_badByte.f k ((rd_T76 x7 x9).f1)).bind fun t286 => (impl_areAttrs.j1 k x0 x9 x7 x8 x9 (decide (t286 ≥ 0)) ((rd_T76 x7 x9).f0) ((rd_T76 x7 x9).f1))) else (impl_areAttrs.j1 k x0 x9 x7 x8 x9 true ((rd_T76 x7 x9).f0) ((rd_T76 x7 x9).f1)))) else (none)) else (none)) else (some (decide ((x0.length : Int) ≤ 12)))
def impl_areAttrs.j1 : Nat → List (S76) → Int → List (S76) → Int → Int → Bool → ByteArray → ByteArray → Option (Bool)
 | 0, _, _, _, _, _, _, _, _ => none
 | k + 1, x0, x3, x7, x8, x9, x23, x285000, x285001 => if x23 = true then (some false) else (if 0 ≤ x3 then (if x3 ≤ (x0.length : Int) then ((some (x0.take (x3 : Int).toNat : List (S76))).bind fun y287 => (impl_areAttrs.l1 k x0 x7 x8 x9 y287 (y287.length : Int) 0 x285000 x285001)) else (none)) else (none))
def impl_areAttrs.l1 : Nat → List (S76) → List (S76) → Int → Int → List (S76) → Int → Int → ByteArray → ByteArray → Option (Bool)
 | 0, _, _, _, _, _, _, _, _, _ => none
 | k + 1, x0, x7, x8, x9, x26, x27, x28, x285000, x285001 => if x28 < x27 then (if 0 ≤ x28 then (if x28 < (x26.length : Int) then (if x285000.toList = ((rd_T76 x26 x28).f0).toList then (some false) else (impl_areAttrs.l1 k x0 x7 x8 x9 x26 x27 (wrap64 (x28 + 1)) x285000 x285001)) else (none)) else (none)) else (impl_areAttrs.l0 k x0 x7 x8 (wrap64 (x9 + 1)))
end
def impl_areAttrs.f (k : Nat) (l0 : List (S76)) : Option (Bool) := impl_areAttrs.l0 k l0 l0 (l0.length : Int) 0
theorem impl_areAttrs.calls (k : Nat) (A0 : Option Addr) (c0 : Nat) (l0 : List (S76)) (r : Bool) (w : World) (hr0 : Kd.C k76 w A0 l0.length l0) (hc0 : l0.length ≤ c0) (h : impl_areAttrs.f k l0 = some r) (hT_ : U8Tabs_ w) :
  Calls Tryz.prog 40 #[.slice A0 l0.length c0] w fun e w' => e = .returned (.bool r) ∧ Below w.heap.size w w' := by
 have hu76 := Tryz.underlying76; have HR0 := ak_ hr0; have HC0 := ak_ hc0; clear hr0 hc0; have HB := ak_ (Below.refl w.heap.size w); have H := h; unfold impl_areAttrs.f at H
 clear h; have H' := ak_ H; clear H; go_enter Tryz.func40, Tryz.ntmps40
 go_wp2; go_loopg [9] k (fun kq v9 w' => ∃ (x9_1 : Int), v9 = .int .i64 x9_1 ∧ Aside0 (impl_areAttrs.l0 kq l0 l0 (l0.length : Int) x9_1 = some r) ∧ Aside0 (kq ≤ k) ∧ Aside0 (Below w.heap.size w w'))
 case atStart => exact ⟨(0), sv_, H', ⟨Nat.le_refl _⟩, ⟨bel_⟩⟩
 case round =>
  clear H'; obtain ⟨x9_1, rfl, HA, HK1, HB⟩ := hrel; cases gk with
  | zero => exact absurd HA.out (by simp [impl_areAttrs.l0])
  | succ k1 =>
   have H := HA.out; clear HA; simp only [impl_areAttrs.l0] at H
   replace H := ied_ H; rcases H with ⟨c2b0, H⟩ | ⟨c2b0, H⟩
   ·replace H := itd_ H; obtain ⟨c3b0, H⟩ := H; replace H := itd_ H; obtain ⟨c4b0, H⟩ := H; have HC5 := ak_ H; clear H; have p283 : (0 ≤ (x9_1 : Int)) = True := odt_
    have q283 : (x9_1 < (l0.length : Int)) = True := odt_
    obtain ⟨ad283, e283, hx283_0, hx283_1⟩ := at_T76 HR0.out x9_1 oda_ oda_; cases e283; replace hx283_0 := pb_ HB hx283_0; replace hx283_1 := pb_ HB hx283_1; go_upto_region 4 with (first | ((with_reducible refine gate_dst (N := 4) rfl ?_); refine bx_ (N := 4) (cs := #[.string (⟨#[]⟩ : ByteArray), .string (⟨#[]⟩ : ByteArray)]) (t := 76) ?_; intro gb284 hg w6 hbox hb; have n_ := an4_ (below_step bel_ hb) (hbox) (gsl_ hg HB.out) (gsl_ hg HB.out); clear HB; obtain ⟨HB, BK284, GW284, GE284⟩ := n_; clear hb hbox hg; obtain ⟨z7_0, z7_1, y7_0, y7_1⟩ := bcz2 BK284.out))
    (try simp only [Act.put, List.setIfInBounds_toArray, List.set_cons_zero, List.set_cons_succ])
    go_cut [23] (fun v23 wc => ∃ (kq : Nat) (x23_4 : Bool), v23 = .bool x23_4 ∧ Aside0 (impl_areAttrs.j1 kq l0 x9_1 l0 (l0.length : Int) x9_1 x23_4 ((rd_T76 l0 x9_1).f0) ((rd_T76 l0 x9_1).f1) = some r) ∧ Aside0 (kq ≤ k1) ∧ Aside0 (wc.heap[gb284]? = some (.cells #[.string ((rd_T76 l0 x9_1).f0), .string ((rd_T76 l0 x9_1).f1)] 76 (0, 0))) ∧ Aside0 (Below w.heap.size w wc))
    case first =>
     have H := HC5.out; clear HC5; replace H := bnd_ H; obtain ⟨t285, A8, H⟩ := H; replace H := itb_ H; rcases H with ⟨rfl, H⟩ | ⟨rfl, H⟩
     ·replace H := bnd_ H; obtain ⟨t286, A10, H⟩ := H; have H' := ak_ H; clear H; obtain ⟨z11_0, z11_1, y11_0, y11_1⟩ := bcz2 BK284.out; go_wp2_with (first | ((with_reducible refine gate_callee (f := 39) rfl ?_); refine gl_ (some 16) Tryz.func39 #[.string ((rd_T76 l0 x9_1).f0)] ?_; (with_reducible refine (impl_isName.calls k1 ((rd_T76 l0 x9_1).f0) true _ A8.out).mono ?_); rintro e w' ⟨rfl, ⟨nd, rfl⟩⟩; refine ⟨_, rfl, ?_⟩) | (go_at_call 38; (with_reducible refine (impl_badByte.calls k1 ((rd_T76 l0 x9_1).f1) t286 _ A10.out ?hT_).mono ?_); (case hT_ => exact utf8_keep_ hT_ bes_); rintro e w12 ⟨rfl, hb⟩; have n_ := an2_ (blk_below (g := gb284) (o := .cells #[.string ((rd_T76 l0 x9_1).f0), .string ((rd_T76 l0 x9_1).f1)] 76 (0, 0)) (bp_ BK284.out) hb) (below_step bes_ hb); clear BK284 HB; obtain ⟨BK284, HB⟩ := n_; (try clear hb);(try clear hb2);(try clear hk);(try clear hi)))
      go_meet
      case rel => exact ⟨_, (decide (t286 ≥ 0)), sv_, H', ⟨by have := HK1.out; first | omega | exact Nat.le_refl _⟩, ⟨bp_ BK284.out⟩, ⟨bes_⟩⟩
     ·have H' := ak_ H; clear H; obtain ⟨z13_0, z13_1, y13_0, y13_1⟩ := bcz2 BK284.out; go_wp2_with (first | ((with_reducible refine gate_callee (f := 39) rfl ?_); refine gl_ (some 16) Tryz.func39 #[.string ((rd_T76 l0 x9_1).f0)] ?_; (with_reducible refine (impl_isName.calls k1 ((rd_T76 l0 x9_1).f0) false _ A8.out).mono ?_); rintro e w' ⟨rfl, ⟨nd, rfl⟩⟩; refine ⟨_, rfl, ?_⟩))
      go_meet
      case rel => exact ⟨_, (true), sv_, H', ⟨by have := HK1.out; first | omega | exact Nat.le_refl _⟩, ⟨bp_ BK284.out⟩, ⟨bes_⟩⟩
    case rest =>
     clear HC5; (try clear c2b0);(try clear c3b0);(try clear c4b0);(try clear z7_0);(try clear z7_1);(try clear y7_0);(try clear y7_1);(try clear hx283_0);(try clear hx283_1);(try clear p283);(try clear q283)
     obtain ⟨kq, x23_4, rfl, HA, HJ4, BK284, HB⟩ := hcut; cases kq with
     | zero => exact absurd HA.out (by simp [impl_areAttrs.j1])
     | succ kj4 =>
      have H := HA.out; clear HA; simp only [impl_areAttrs.j1] at H
      replace H := itb_ H; rcases H with ⟨rfl, H⟩ | ⟨rfl, H⟩
      ·obtain rfl := Option.some.inj H
       go_wp2; go_ret
       exact ⟨er_, bes_⟩
      ·replace H := itn_ H; obtain ⟨c15, H⟩ := H; have c15b0 := eq_true c15; have c15b1 := decide_eq_true c15; clear c15; replace H := itn_ H; obtain ⟨c16, H⟩ := H; have c16b0 := eq_true c16; have c16b1 := decide_eq_true c16; clear c16; replace H := nams_ H; obtain ⟨y287, Ny287, H⟩ := H; have H' := ak_ H; clear H; have q17 : (x9_1 : Int) ≤ ((l0.length : Int) : Int) := oda_
       obtain ⟨i017, hi017, _, hsz17, _⟩ := info_parts info76; have hroom17 : l0.length ≤ c0 := HC0.out
       have hC17 : Kd.C k76 _ (some ad283) l0.length l0 := HR0.out
       have hcut17 := cut_to (P := Tryz.prog) 38 76 .i64 Tryz.underlying38 hi017 (some ad283) l0.length c0 x9_1 (oda_) q17 hroom17; have hr17 := Kd.C_take (m := (x9_1 : Int).toNat) hC17 (by omega); have hy17 : y287.length = (x9_1 : Int).toNat := (by rw [Ny287.out, List.length_take]; omega)
       rw [← Ny287.out] at hr17; rw [← hy17] at hcut17; have HR290 := ak_ hr17; have HC290 := ak_ (show y287.length ≤ c0 from by omega); clear hr17 hC17 hroom17 hi017 hsz17; have KY17 := ak_ hy17; clear hy17; replace q17 := eq_true q17; go_wp2; go_loopg [28] kj4 (fun kq v28 w' => ∃ (x28_3 : Int), v28 = .int .i64 x28_3 ∧ Aside0 (impl_areAttrs.l1 kq l0 l0 (l0.length : Int) x9_1 y287 (y287.length : Int) x28_3 ((rd_T76 l0 x9_1).f0) ((rd_T76 l0 x9_1).f1) = some r) ∧ Aside0 (kq ≤ kj4) ∧ Aside0 (w'.heap[gb284]? = some (.cells #[.string ((rd_T76 l0 x9_1).f0), .string ((rd_T76 l0 x9_1).f1)] 76 (0, 0))) ∧ Aside0 (Below w.heap.size w w'))
       case atStart => exact ⟨(0), sv_, H', ⟨Nat.le_refl _⟩, ⟨bp_ BK284.out⟩, ⟨bes_⟩⟩
       case round =>
        clear H'; (try clear c2b0);(try clear c3b0);(try clear c4b0);(try clear c15b0);(try clear c15b1);(try clear c16b0);(try clear c16b1);(try clear q17);(try clear z7_0);(try clear z7_1);(try clear y7_0);(try clear y7_1);(try clear hx283_0);(try clear hx283_1);(try clear p283);(try clear q17);(try clear q283)
        obtain ⟨x28_3, rfl, HA, HK3, BK284, HB⟩ := hrel; cases gk with
        | zero => exact absurd HA.out (by simp [impl_areAttrs.l1])
        | succ k3 =>
         have H := HA.out; clear HA; simp only [impl_areAttrs.l1] at H
         replace H := ied_ H; rcases H with ⟨c18b0, H⟩ | ⟨c18b0, H⟩
         ·replace H := itd_ H; obtain ⟨c19b0, H⟩ := H; replace H := itd_ H; obtain ⟨c20b0, H⟩ := H; replace H := ite_ H; rcases H with ⟨c21, H⟩ | ⟨c21, H⟩
          ·have c21b0 := beq_iff_eq.mpr c21; have c21b1 := bne_eq_false_iff_eq.mpr c21; clear c21; obtain rfl := Option.some.inj H
           have p291 : (0 ≤ (x28_3 : Int)) = True := odt_
           have q291 : (x28_3 < (y287.length : Int)) = True := odt_
           obtain ⟨ad291, e291, hx291_0, hx291_1⟩ := at_T76 HR290.out x28_3 oda_ oda_; obtain rfl : ad283 = ad291 := (by injection e291)
           replace hx291_0 := pb_ HB hx291_0; replace hx291_1 := pb_ HB hx291_1; go_wp2_with (first | ((with_reducible refine gate_dst (N := 6) rfl ?_); refine bx_ (N := 6) (cs := #[.string (⟨#[]⟩ : ByteArray), .string (⟨#[]⟩ : ByteArray)]) (t := 76) ?_; intro gb292 hg w22 hbox hb; have n_ := an7_ (blk_below (g := gb284) (o := .cells #[.string ((rd_T76 l0 x9_1).f0), .string ((rd_T76 l0 x9_1).f1)] 76 (0, 0)) (bk_ BK284.out) hb) (below_step bes_ hb) (hbox) (gsl_ hg HB.out) (gsl_ hg HB.out) ((by rw [hg]; exact Nat.ne_of_lt (blk_lt (g := gb284) (o := .cells #[.string ((rd_T76 l0 x9_1).f0), .string ((rd_T76 l0 x9_1).f1)] 76 (0, 0)) (bk_ BK284.out)) : gb284 ≠ gb292)) ((by rw [hg]; exact Nat.ne_of_gt (blk_lt (g := gb284) (o := .cells #[.string ((rd_T76 l0 x9_1).f0), .string ((rd_T76 l0 x9_1).f1)] 76 (0, 0)) (bk_ BK284.out)) : gb292 ≠ gb284)); clear BK284 HB; obtain ⟨BK284, HB, BK292, GW292, GE292, NB284_292, NB292_284⟩ := n_; clear hb hbox hg; have hnb23 := NB292_284.out; have hnc23 := NB284_292.out; obtain ⟨z24_0, z24_1, y24_0, y24_1⟩ := bcz2 BK292.out; obtain ⟨z25_0, z25_1, y25_0, y25_1⟩ := bcz2 BK284.out))
           go_ret
           exact ⟨er_, bes_⟩
          ·have c21b0 := beq_eq_false_iff_ne.mpr c21; have c21b1 := bne_iff_ne.mpr c21; have H' := ak_ H; clear H; have p291 : (0 ≤ (x28_3 : Int)) = True := odt_
           have q291 : (x28_3 < (y287.length : Int)) = True := odt_
           obtain ⟨ad291, e291, hx291_0, hx291_1⟩ := at_T76 HR290.out x28_3 oda_ oda_; obtain rfl : ad283 = ad291 := (by injection e291)
           replace hx291_0 := pb_ HB hx291_0; replace hx291_1 := pb_ HB hx291_1; go_wp2_with (first | ((with_reducible refine gate_dst (N := 6) rfl ?_); refine bx_ (N := 6) (cs := #[.string (⟨#[]⟩ : ByteArray), .string (⟨#[]⟩ : ByteArray)]) (t := 76) ?_; intro gb292 hg w26 hbox hb; have n_ := an7_ (blk_below (g := gb284) (o := .cells #[.string ((rd_T76 l0 x9_1).f0), .string ((rd_T76 l0 x9_1).f1)] 76 (0, 0)) (bk_ BK284.out) hb) (below_step bes_ hb) (hbox) (gsl_ hg HB.out) (gsl_ hg HB.out) ((by rw [hg]; exact Nat.ne_of_lt (blk_lt (g := gb284) (o := .cells #[.string ((rd_T76 l0 x9_1).f0), .string ((rd_T76 l0 x9_1).f1)] 76 (0, 0)) (bk_ BK284.out)) : gb284 ≠ gb292)) ((by rw [hg]; exact Nat.ne_of_gt (blk_lt (g := gb284) (o := .cells #[.string ((rd_T76 l0 x9_1).f0), .string ((rd_T76 l0 x9_1).f1)] 76 (0, 0)) (bk_ BK284.out)) : gb292 ≠ gb284)); clear BK284 HB; obtain ⟨BK284, HB, BK292, GW292, GE292, NB284_292, NB292_284⟩ := n_; clear hb hbox hg; have hnb27 := NB292_284.out; have hnc27 := NB284_292.out; obtain ⟨z28_0, z28_1, y28_0, y28_1⟩ := bcz2 BK292.out; obtain ⟨z29_0, z29_1, y29_0, y29_1⟩ := bcz2 BK284.out))
           go_roundg k3
           case measure => have := HK1.out; have := HJ4.out; have := HK3.out; omega
           case rel => exact ⟨(wrap64 (x28_3 + 1)), sv_, H', ⟨by have := HK1.out; have := HJ4.out; have := HK3.out; omega⟩, ⟨bp_ BK284.out⟩, ⟨bes_⟩⟩
         ·have H' := ak_ H; clear H; go_wp2; go_roundg k3
          case measure => have := HK1.out; have := HJ4.out; have := HK3.out; omega
          case rel => exact ⟨(wrap64 (x9_1 + 1)), sv_, H', ⟨by have := HK1.out; have := HJ4.out; have := HK3.out; omega⟩, ⟨bes_⟩⟩
   ·obtain rfl := Option.some.inj H
    go_wp2; go_ret
    exact ⟨er_, bel_⟩

/-! ### impl_isAround: function 41 -/
def impl_isAround.l0 : Nat → List (S40) → Int → Int → Option (Bool)
 | 0, _, _, _ => none
 | k + 1, x0, x1, x2 => if x2 ≥ 0 then (if x2 = x1 then (some true) else (if 0 ≤ x2 then (if x2 < (x0.length : Int) then (impl_isAround.l0 k x0 x1 ((rd_T40 x0 x2).f1)) else (none)) else (none))) else (some false)
def impl_isAround.f (k : Nat) (l0 : List (S40)) (a1 : Int) (a2 : Int) : Option (Bool) := impl_isAround.l0 k l0 a1 a2
theorem impl_isAround.calls (k : Nat) (A0 : Option Addr) (c0 : Nat) (l0 : List (S40)) (a1 : Int) (a2 : Int) (r : Bool) (w : World) (hr0 : Kd.C k40 w A0 l0.length l0) (hc0 : l0.length ≤ c0) (h : impl_isAround.f k l0 a1 a2 = some r) :
  Calls Tryz.prog 41 #[.slice A0 l0.length c0, .int .i64 a1, .int .i64 a2] w fun e w' => e = .returned (.bool r) ∧ Drawn0 w w' := by
 have HR0 := ak_ hr0; have HC0 := ak_ hc0; clear hr0 hc0; have H := h; unfold impl_isAround.f at H
 clear h; have H' := ak_ H; clear H; go_enter Tryz.func41, Tryz.ntmps41
 go_wp2; go_loopg [2] k (fun kq v2 w' => ∃ (x2_1 : Int), v2 = .int .i64 x2_1 ∧ Aside0 (impl_isAround.l0 kq l0 a1 x2_1 = some r) ∧ Aside0 (kq ≤ k) ∧ Drawn0 w w')
 case atStart => exact ⟨(a2), sv_, H', ⟨Nat.le_refl _⟩, by repeat (first | exact Drawn0.refl _ | apply Drawn0.step)⟩
 case round =>
  clear H'; (try clear p2)
  obtain ⟨x2_1, rfl, HA, HK1, ⟨m1, rfl⟩⟩ := hrel; cases gk with
  | zero => exact absurd HA.out (by simp [impl_isAround.l0])
  | succ k1 =>
   have H := HA.out; clear HA; simp only [impl_isAround.l0] at H
   replace H := ied_ H; rcases H with ⟨c4b0, H⟩ | ⟨c4b0, H⟩
   ·replace H := ite_ H; rcases H with ⟨c5, H⟩ | ⟨c5, H⟩
    ·have c5b0 := beq_iff_eq.mpr c5; have c5b1 := bne_eq_false_iff_eq.mpr c5; clear c5; obtain rfl := Option.some.inj H
     go_wp2; go_ret
     exact dn_
    ·have c5b0 := beq_eq_false_iff_ne.mpr c5; have c5b1 := bne_iff_ne.mpr c5; replace H := itd_ H; obtain ⟨c6b0, H⟩ := H; replace H := itd_ H; obtain ⟨c7b0, H⟩ := H; have H' := ak_ H; clear H; have p293 : (0 ≤ (x2_1 : Int)) = True := odt_
     have q293 : (x2_1 < (l0.length : Int)) = True := odt_
     obtain ⟨ad293, A293_2, c293_2, e293, hx293_0, hx293_1, hx293_2, hx293_3, hl293_2, hi293_2⟩ := at_T40 HR0.out x2_1 oda_ oda_; cases e293; have HR293_2 := ak_ hi293_2; have HC293_2 := ak_ hl293_2; clear hi293_2 hl293_2; go_wp2; go_roundg k1
     case measure => have := HK1.out; omega
     case rel => exact ⟨((rd_T40 l0 x2_1).f1), sv_, H', ⟨by have := HK1.out; omega⟩, by repeat (first | exact Drawn0.refl _ | apply Drawn0.step)⟩
   ·obtain rfl := Option.some.inj H
    go_wp2; go_ret
    exact dn_

/-! ### impl_GoodNodes: function 17 -/
mutual
def impl_GoodNodes.l0 : Nat → List (S40) → List Int → List (S40) → Int → Int → Option (Bool)
 | 0, _, _, _, _, _ => none
 | k + 1, x0, x3, x13, x14, x15 => if x15 < x14 then (if 0 ≤ x15 then (if x15 < (x13.length : Int) then (if ((rd_T40 x13 x15).f0).toList = ([] : List UInt8) then (if ((rd_T40 x13 x15).f3).toList = ([] : List UInt8) then (impl_GoodNodes.j1 k x0 x3 x15 x13 x14 x15 true ((rd_T40 x13 x15).f0) ((rd_T40 x13 x15).f1) ((rd_T40 x13 x15).f2) ((rd_T40 x13 x15).f3)) else (if (((rd_T40 x13 x15).f2).length : Int) > 0 then (impl_GoodNodes.j1 k x0 x3 x15 x13 x14 x15 true ((rd_T40 x13 x15).f0) ((rd_T40 x13 x15).f1) ((rd_T40 x13 x15).f2) ((rd_T40 x13 x15).f3)) else ((impl_badByte.f k ((rd_T40 x13 x15).f3)).bind fun t300 => (impl_GoodNodes.j1 k x0 x3 x15 x13 x14 x15 (decide (t300 ≥ 0)) ((rd_T40 x13 x15).f0) ((rd_T40 x13 x15).f1) ((rd_T40 x13 x15).f2) ((rd_T40 x13 x15).f3))))) else (impl_GoodNodes.j1 k x0 x3 x15 x13 x14 x15 false ((rd_T40 x13 x15).f0) ((rd_T40 x13 x15).f1) ((rd_T40 x13 x15).f2) ((rd_T40 x13 x15).f3))) else (none)) else (none)) else (some true)
def impl_GoodNodes.j2 : Nat → List (S40) → List Int → Int → List (S40) → Int → Int → ByteArray → Int → List (S76) → ByteArray → Option (Bool)
 | 0, _, _, _, _, _, _, _, _, _, _ => none
 | k + 1, x0, x3, x4, x13, x14, x15, x300000, x300001, x300002, x300003 => if x4 = 0 then (if x300000.toList = ([] : List UInt8) then (some false) else (if x300001 = (-1) then (if 0 < (x3.length : Int) then (impl_GoodNodes.l0 k x0 (x3.set (0 : Int).toNat 1) x13 x14 (wrap64 (x15 + 1))) else (none)) else (some false))) else ((impl_within.f x300001 0 (wrap64 (x4 - 1))).bind fun t304 => (if t304 = true then (if 0 ≤ x300001 then (if x300001 < (x0.length : Int) then (if ((rd_T40 x0 x300001).f0).toList = ([] : List UInt8) then (impl_GoodNodes.j3 k x0 x3 x4 x13 x14 x15 true x300000 x300001 x300002 x300003) else ((impl_isAround.f k x0 x300001 (wrap64 (x4 - 1))).bind fun t306 => (impl_GoodNodes.j3 k x0 x3 x4 x13 x14 x15 (!t306) x300000 x300001 x300002 x300003))) else (none)) else (none)) else (impl_GoodNodes.j3 k x0 x3 x4 x13 x14 x15 true x300000 x300001 x300002 x300003)))
def impl_GoodNodes.j3 : Nat → List (S40) → List Int → Int → List (S40) → Int → Int → Bool → ByteArray → Int → List (S76) → ByteArray → Option (Bool)
 | 0, _, _, _, _, _, _, _, _, _, _, _ => none
 | k + 1, x0, x3, x4, x13, x14, x15, x97, x300000, x300001, x300002, x300003 => if x97 = true then (some false) else (if x300000.toList = ([] : List UInt8) then (if 0 ≤ (wrap64 (x4 - 1)) then (if (wrap64 (x4 - 1)) < (x0.length : Int) then (if ((rd_T40 x0 (wrap64 (x4 - 1))).f0).toList = ([] : List UInt8) then (impl_GoodNodes.j4 k x0 x3 x4 x13 x14 x15 (((rd_T40 x0 (wrap64 (x4 - 1))).f1) == x300001) x300000 x300001 x300002 x300003) else (impl_GoodNodes.j4 k x0 x3 x4 x13 x14 x15 false x300000 x300001 x300002 x300003)) else (none)) else (none)) else (impl_GoodNodes.j4 k x0 x3 x4 x13 x14 x15 false x300000 x300001 x300002 x300003))
def impl_GoodNodes.j4 : Nat → List (S40) → List Int → Int → List (S40) → Int → Int → Bool → ByteArray → Int → List (S76) → ByteArray → Option (Bool)
 | 0, _, _, _, _, _, _, _, _, _, _, _ => none
 | k + 1, x0, x3, x4, x13, x14, x15, x120, x300000, x300001, x300002, x300003 => if x120 = true then (some false) else (if 0 ≤ x300001 then (if x300001 < (x3.length : Int) then (if 0 ≤ x4 then (if x4 < (x3.length : Int) then ((some (x3.set (x4 : Int).toNat (wrap64 ((rd x3 x300001) + 1)) : List Int)).bind fun y310 => (if x300000.toList = ([] : List UInt8) then (impl_GoodNodes.l0 k x0 y310 x13 x14 (wrap64 (x15 + 1))) else (if (rd y310 x4) > 10 then (some false) else (impl_GoodNodes.l0 k x0 y310 x13 x14 (wrap64 (x15 + 1)))))) else (none)) else (none)) else (none)) else (none))
def impl_GoodNodes.j1 : Nat → List (S40) → List Int → Int → List (S40) → Int → Int → Bool → ByteArray → Int → List (S76) → ByteArray → Option (Bool)
 | 0, _, _, _, _, _, _, _, _, _, _, _ => none
 | k + 1, x0, x3, x4, x13, x14, x15, x20, x300000, x300001, x300002, x300003 => if x20 = true then (some false) else (if x300000.toList = ([] : List UInt8) then (impl_GoodNodes.j2 k x0 x3 x4 x13 x14 x15 x300000 x300001 x300002 x300003) else ((impl_isName.f k x300000).bind fun t301 => (if t301 = true then (if x300003.toList = ([] : List UInt8) then ((impl_areAttrs.f k x300002).bind fun t302 => (if t302 = true then (impl_GoodNodes.j2 k x0 x3 x4 x13 x14 x15 x300000 x300001 x300002 x300003) else (some false))) else (some false)) else (some false))))
end
def impl_GoodNodes.f (k : Nat) (l0 : List (S40)) : Option (Bool) := (impl_within.f (l0.length : Int) 1 60).bind fun t294 => (if t294 = true then (if 0 ≤ (l0.length : Int) then (if ((l0.length : Int) : Int).toNat ≤ 35184372088832 then (impl_GoodNodes.l0 k l0 (List.replicate ((l0.length : Int) : Int).toNat 0) l0 (l0.length : Int) 0) else (none)) else (none)) else (some false))
theorem impl_GoodNodes.calls (k : Nat) (A0 : Option Addr) (c0 : Nat) (l0 : List (S40)) (r : Bool) (w : World) (hr0 : Kd.C k40 w A0 l0.length l0) (hc0 : l0.length ≤ c0) (h : impl_GoodNodes.f k l0 = some r) (hT_ : U8Tabs_ w) :
  Calls Tryz.prog 17 #[.slice A0 l0.length c0] w fun e w' => e = .returned (.bool r) ∧ Below w.heap.size w w' := by
 have hu40 := Tryz.underlying40; have HR0 := ak_ hr0; have HC0 := ak_ hc0; clear hr0 hc0; have HB := ak_ (Below.refl w.heap.size w); have H := h; unfold impl_GoodNodes.f at H
 clear h; replace H := bnd_ H; obtain ⟨t294, A2, H⟩ := H; replace H := itb_ H; rcases H with ⟨rfl, H⟩ | ⟨rfl, H⟩
 ·replace H := itn_ H; obtain ⟨c4, H⟩ := H; have c4b0 := eq_true c4; have c4b1 := decide_eq_true c4; clear c4; replace H := itn_ H; obtain ⟨c5, H⟩ := H; have c5b0 := eq_true c5; have c5b1 := decide_eq_true c5; clear c5; obtain ⟨y295, hy295⟩ : ∃ y_ : List Int, y_ = (List.replicate ((l0.length : Int) : Int).toNat 0) := ⟨_, rfl⟩
  replace H : (impl_GoodNodes.l0 k l0 y295 l0 (l0.length : Int) 0) = some r := by first | (rw [hy295]; with_reducible exact H) | (have H2_ := (Option.bind_some _ _).symm.trans H; rw [hy295]; with_reducible exact H2_) | (have H2_ := (Option.bind_some _ _).symm.trans H; with_reducible exact H2_) | with_reducible exact H | (rw [hy295]; exact H) | exact H
  have Ny295 := ak_ hy295; clear hy295; have H' := ak_ H; clear H; go_enter Tryz.func17, Tryz.ntmps17
  go_wp2_with (first | (go_at_call 37; (with_reducible refine (impl_within.calls (l0.length : Int) 1 60 true _ A2.out).mono ?_); rintro e w' ⟨rfl, ⟨nd, rfl⟩⟩; (try exact dd_)) | ((with_reducible refine gate_dst (N := 12) rfl ?_); (try (refine gate_guard (by rfl) ?_; dsimp only)); refine Kd.R_make (Kd.int .i64) _ 3 rfl (N := 12) rfl 63 _ _ rfl (l0.length : Int) rfl rfl Tryz.underlying63 (.int .i64 0) 8 info3 rfl (by decide) (by omega) 0 (ok := fun _ => True) (okp := fun _ => True) rfl (fun _ hk => hk) trivial (oda_) (Nat.le_trans (Nat.mul_le_mul_right _ (oda_ : (l0.length : Int).toNat ≤ 35184372088832)) (by omega)) (Below.refl _ _) (Nat.le_refl _) ?_; intro v296 w6 ho7 hb hg_ hnew_; clear hg_ hnew_; (first | rw [← Ny295.out] at ho7 | (simp only [Int.reduceToNat] at ho7; rw [← Ny295.out] at ho7)); have n_ := an2_ (Kd.R_lower ho7 (below_size bel_)) (below_step bel_ hb); clear HB; obtain ⟨HO297, HB⟩ := n_; clear hb ho7))
  repeat (go_quiet (fail); try go_wp2)
  go_loopg [15] k (fun kq v15 w' => ∃ (x3_1 : List Int) (x15_1 : Int), v15 = .int .i64 x15_1 ∧ Aside0 (impl_GoodNodes.l0 kq l0 x3_1 l0 (l0.length : Int) x15_1 = some r) ∧ Aside0 (kq ≤ k) ∧ Aside0 (Kd.R (Kd.int .i64) 3 w' w.heap.size (fun _ => True) v296 x3_1) ∧ Aside0 (Below w.heap.size w w'))
  case atStart => exact ⟨(y295), (0), sv_, H', ⟨Nat.le_refl _⟩, ⟨kdR_ HO297.out⟩, ⟨bel_⟩⟩
  case round =>
   clear H'; (try clear c4b0);(try clear c4b1);(try clear c5b0);(try clear c5b1)
   obtain ⟨x3_1, x15_1, rfl, HA, HK1, HO_3, HB⟩ := hrel; cases gk with
   | zero => exact absurd HA.out (by simp [impl_GoodNodes.l0])
   | succ k1 =>
    have H := HA.out; clear HA; simp only [impl_GoodNodes.l0] at H
    replace H := ied_ H; rcases H with ⟨c8b0, H⟩ | ⟨c8b0, H⟩
    ·replace H := itd_ H; obtain ⟨c9b0, H⟩ := H; replace H := itd_ H; obtain ⟨c10b0, H⟩ := H; have HC11 := ak_ H; clear H; have p298 : (0 ≤ (x15_1 : Int)) = True := odt_
     have q298 : (x15_1 < (l0.length : Int)) = True := odt_
     obtain ⟨ad298, A298_2, c298_2, e298, hx298_0, hx298_1, hx298_2, hx298_3, hl298_2, hi298_2⟩ := at_T40 HR0.out x15_1 oda_ oda_; cases e298; replace hx298_0 := pb_ HB hx298_0; replace hx298_1 := pb_ HB hx298_1; replace hx298_2 := pb_ HB hx298_2; replace hx298_3 := pb_ HB hx298_3; have HR298_2 := ak_ hi298_2; have HC298_2 := ak_ hl298_2; clear hi298_2 hl298_2; go_upto_block 2 with (first | ((with_reducible refine gate_dst (N := 5) rfl ?_); (try (refine gate_guard (by rfl) ?_; dsimp only)); refine bx_ (N := 5) (cs := #[.string (⟨#[]⟩ : ByteArray), .int .i64 0, .slice none 0 0, .string (⟨#[]⟩ : ByteArray)]) (t := 40) ?_; intro gb299 hg w12 hbox hb; have n_ := an5_ (Kd.R_below (kdR_ HO_3.out) hb) (below_step bel_ hb) (hbox) (gsl_ hg HB.out) (gsl_ hg HB.out); clear HO_3 HB; obtain ⟨HO_3, HB, BK299, GW299, GE299⟩ := n_; clear hb hbox hg; obtain ⟨z13_0, z13_1, z13_2, z13_3, y13_0, y13_1, y13_2, y13_3⟩ := bcz4 BK299.out))
     repeat (go_quiet (first | ((with_reducible refine gate_dst (N := 5) rfl ?_); (try (refine gate_guard (by rfl) ?_; dsimp only)); refine bx_ (N := 5) (cs := #[.string (⟨#[]⟩ : ByteArray), .int .i64 0, .slice none 0 0, .string (⟨#[]⟩ : ByteArray)]) (t := 40) ?_; intro gb299 hg w12 hbox hb; have n_ := an5_ (Kd.R_below (kdR_ HO_3.out) hb) (below_step bel_ hb) (hbox) (gsl_ hg HB.out) (gsl_ hg HB.out); clear HO_3 HB; obtain ⟨HO_3, HB, BK299, GW299, GE299⟩ := n_; clear hb hbox hg; obtain ⟨z13_0, z13_1, z13_2, z13_3, y13_0, y13_1, y13_2, y13_3⟩ := bcz4 BK299.out)); go_upto_block 2 with (first | ((with_reducible refine gate_dst (N := 5) rfl ?_); (try (refine gate_guard (by rfl) ?_; dsimp only)); refine bx_ (N := 5) (cs := #[.string (⟨#[]⟩ : ByteArray), .int .i64 0, .slice none 0 0, .string (⟨#[]⟩ : ByteArray)]) (t := 40) ?_; intro gb299 hg w12 hbox hb; have n_ := an5_ (Kd.R_below (kdR_ HO_3.out) hb) (below_step bel_ hb) (hbox) (gsl_ hg HB.out) (gsl_ hg HB.out); clear HO_3 HB; obtain ⟨HO_3, HB, BK299, GW299, GE299⟩ := n_; clear hb hbox hg; obtain ⟨z13_0, z13_1, z13_2, z13_3, y13_0, y13_1, y13_2, y13_3⟩ := bcz4 BK299.out)))
     (try simp only [Act.put, List.setIfInBounds_toArray, List.set_cons_zero, List.set_cons_succ])
     go_cut [] (fun wc => ∃ (kq : Nat), Aside0 (impl_GoodNodes.j2 kq l0 x3_1 x15_1 l0 (l0.length : Int) x15_1 ((rd_T40 l0 x15_1).f0) ((rd_T40 l0 x15_1).f1) ((rd_T40 l0 x15_1).f2) ((rd_T40 l0 x15_1).f3) = some r) ∧ Aside0 (kq ≤ k1) ∧ Aside0 (Kd.R (Kd.int .i64) 3 wc w.heap.size (fun _ => True) v296 x3_1) ∧ Aside0 (wc.heap[gb299]? = some (.cells #[.string ((rd_T40 l0 x15_1).f0), .int .i64 ((rd_T40 l0 x15_1).f1), (.slice A298_2 ((rd_T40 l0 x15_1).f2).length c298_2), .string ((rd_T40 l0 x15_1).f3)] 40 (0, 0))) ∧ Aside0 (Below w.heap.size w wc))
     case first =>
      have H := HC11.out; clear HC11; have HC14 := ak_ H; clear H; go_upto_region 7 with (fail)
      repeat (go_quiet (fail); go_upto_region 7 with (fail))
      go_cut [20] (fun v20 wc => ∃ (kq : Nat) (x20_13 : Bool), v20 = .bool x20_13 ∧ Aside0 (impl_GoodNodes.j1 kq l0 x3_1 x15_1 l0 (l0.length : Int) x15_1 x20_13 ((rd_T40 l0 x15_1).f0) ((rd_T40 l0 x15_1).f1) ((rd_T40 l0 x15_1).f2) ((rd_T40 l0 x15_1).f3) = some r) ∧ Aside0 (kq ≤ k1) ∧ Aside0 (Kd.R (Kd.int .i64) 3 wc w.heap.size (fun _ => True) v296 x3_1) ∧ Aside0 (wc.heap[gb299]? = some (.cells #[.string ((rd_T40 l0 x15_1).f0), .int .i64 ((rd_T40 l0 x15_1).f1), (.slice A298_2 ((rd_T40 l0 x15_1).f2).length c298_2), .string ((rd_T40 l0 x15_1).f3)] 40 (0, 0))) ∧ Aside0 (Below w.heap.size w wc))
      case first =>
       have H := HC14.out; clear HC14; replace H := ite_ H; rcases H with ⟨c15, H⟩ | ⟨c15, H⟩
       ·obtain ⟨c15b0, c15b7, c15b8, c15b1⟩ := emp1_ c15; clear c15; (first | rw [c15b0] | simp only [c15b7, Bool.not_true, Bool.not_false] | (simp only [i64_w, i32_w]; rw [c15b0]) | skip)
        replace H := ite_ H; rcases H with ⟨c16, H⟩ | ⟨c16, H⟩
        ·obtain ⟨c16b0, c16b7, c16b8, c16b1⟩ := emp1_ c16; clear c16; have H' := ak_ H; clear H; obtain ⟨z17_0, z17_1, z17_2, z17_3, y17_0, y17_1, y17_2, y17_3⟩ := bcz4 BK299.out; go_wp2; repeat (go_quiet (fail); try go_wp2)
         go_meet
         case rel => exact ⟨_, (true), sv_, H', ⟨by have := HK1.out; first | omega | exact Nat.le_refl _⟩, ⟨by (with_reducible repeat (first | apply Kd.R_alloc | apply Kd.R_drewN | apply Kd.R_drew)); exact Kd.R_mono (Kd.R_far (Kd.R_far (Kd.R_far (Kd.R_far (Kd.R_types HO_3.out BK299.out (by decide)) (fun _ hk => hk.2) _) (fun _ hk => hk.2) _) (fun _ hk => hk.2) _) (fun _ hk => hk.2) _) (fun _ hk => trivial)⟩, ⟨bp_ BK299.out⟩, ⟨bes_⟩⟩
        ·obtain ⟨c16b0, c16b7, c16b8, c16b1⟩ := emp0_ c16; replace H := ite_ H; rcases H with ⟨c18, H⟩ | ⟨c18, H⟩
         ·have c18b0 := decide_eq_true c18; have c18b1 : decide (0 < ((rd_T40 l0 x15_1).f2).length) = true := decide_eq_true (by omega)
          clear c18; have H' := ak_ H; clear H; obtain ⟨z19_0, z19_1, z19_2, z19_3, y19_0, y19_1, y19_2, y19_3⟩ := bcz4 BK299.out; go_wp2; repeat (go_quiet (fail); try go_wp2)
          go_meet
          case rel => exact ⟨_, (true), sv_, H', ⟨by have := HK1.out; first | omega | exact Nat.le_refl _⟩, ⟨by (with_reducible repeat (first | apply Kd.R_alloc | apply Kd.R_drewN | apply Kd.R_drew)); exact Kd.R_mono (Kd.R_far (Kd.R_far (Kd.R_far (Kd.R_far (Kd.R_types HO_3.out BK299.out (by decide)) (fun _ hk => hk.2) _) (fun _ hk => hk.2) _) (fun _ hk => hk.2) _) (fun _ hk => hk.2) _) (fun _ hk => trivial)⟩, ⟨bp_ BK299.out⟩, ⟨bes_⟩⟩
         ·have c18b0 := decide_eq_false c18; have c18b1 : decide (0 < ((rd_T40 l0 x15_1).f2).length) = false := decide_eq_false (by omega)
          clear c18; replace H := bnd_ H; obtain ⟨t300, A20, H⟩ := H; have H' := ak_ H; clear H; obtain ⟨z21_0, z21_1, z21_2, z21_3, y21_0, y21_1, y21_2, y21_3⟩ := bcz4 BK299.out; go_wp2_with (first | (go_at_call 38; (with_reducible refine (impl_badByte.calls k1 ((rd_T40 l0 x15_1).f3) t300 _ A20.out ?hT_).mono ?_); (case hT_ => exact utf8_keep_ hT_ bes_); rintro e w22 ⟨rfl, hb⟩; have n_ := an3_ (Kd.R_below (by (with_reducible repeat (first | apply Kd.R_alloc | apply Kd.R_drewN | apply Kd.R_drew)); exact (Kd.R_mono (Kd.R_far (Kd.R_far (Kd.R_far (Kd.R_far (Kd.R_types HO_3.out BK299.out (by decide)) (fun _ hk => hk.2) _) (fun _ hk => hk.2) _) (fun _ hk => hk.2) _) (fun _ hk => hk.2) _) (fun _ h_ => h_.1))) hb) (blk_below (g := gb299) (o := .cells #[.string ((rd_T40 l0 x15_1).f0), .int .i64 ((rd_T40 l0 x15_1).f1), .slice A298_2 ((rd_T40 l0 x15_1).f2).length c298_2, .string ((rd_T40 l0 x15_1).f3)] 40 (0, 0)) (bp_ BK299.out) hb) (below_step bes_ hb); clear HO_3 BK299 HB; obtain ⟨HO_3, BK299, HB⟩ := n_; (try clear hb);(try clear hb2);(try clear hk);(try clear hi)))
          repeat (go_quiet (fail); try go_wp2)
          go_meet
          case rel => exact ⟨_, (decide (t300 ≥ 0)), sv_, H', ⟨by have := HK1.out; first | omega | exact Nat.le_refl _⟩, ⟨kdR_ HO_3.out⟩, ⟨bp_ BK299.out⟩, ⟨bes_⟩⟩
       ·obtain ⟨c15b0, c15b7, c15b8, c15b1⟩ := emp0_ c15; (first | rw [c15b0] | simp only [c15b7, Bool.not_true, Bool.not_false] | (simp only [i64_w, i32_w]; rw [c15b0]) | skip)
        have H' := ak_ H; clear H; obtain ⟨z23_0, z23_1, z23_2, z23_3, y23_0, y23_1, y23_2, y23_3⟩ := bcz4 BK299.out; go_wp2; repeat (go_quiet (fail); try go_wp2)
        go_meet
        case rel => exact ⟨_, (false), sv_, H', ⟨by have := HK1.out; first | omega | exact Nat.le_refl _⟩, ⟨by (with_reducible repeat (first | apply Kd.R_alloc | apply Kd.R_drewN | apply Kd.R_drew)); exact Kd.R_mono (Kd.R_far (Kd.R_far (Kd.R_far (Kd.R_far (Kd.R_types HO_3.out BK299.out (by decide)) (fun _ hk => hk.2) _) (fun _ hk => hk.2) _) (fun _ hk => hk.2) _) (fun _ hk => hk.2) _) (fun _ hk => trivial)⟩, ⟨bp_ BK299.out⟩, ⟨bes_⟩⟩
      case rest =>
       clear HC14; (try clear c4b0);(try clear c4b1);(try clear c5b0);(try clear c5b1);(try clear c8b0);(try clear c9b0);(try clear c10b0);(try clear z13_0);(try clear z13_1);(try clear z13_2);(try clear z13_3);(try clear y13_0);(try clear y13_1);(try clear y13_2)
       (try clear y13_3);(try clear hx298_0);(try clear hx298_1);(try clear hx298_2);(try clear hx298_3);(try clear p298);(try clear q298)
       obtain ⟨kq, x20_13, rfl, HA, HJ13, HO_3, BK299, HB⟩ := hcut; cases kq with
       | zero => exact absurd HA.out (by simp [impl_GoodNodes.j1])
       | succ kj13 =>
        have H := HA.out; clear HA; simp only [impl_GoodNodes.j1] at H
        replace H := itb_ H; rcases H with ⟨rfl, H⟩ | ⟨rfl, H⟩
        ·obtain rfl := Option.some.inj H
         go_wp2; repeat (go_quiet (fail); try go_wp2)
         go_ret
         exact ⟨er_, bes_⟩
        ·replace H := ite_ H; rcases H with ⟨c25, H⟩ | ⟨c25, H⟩
         ·obtain ⟨c25b0, c25b7, c25b8, c25b1⟩ := emp1_ c25; clear c25; have H' := ak_ H; clear H; obtain ⟨z26_0, z26_1, z26_2, z26_3, y26_0, y26_1, y26_2, y26_3⟩ := bcz4 BK299.out; go_wp2; repeat (go_quiet (fail); try go_wp2)
          go_meet
          case rel => exact ⟨_, H', ⟨by have := HK1.out; have := HJ13.out; first | omega | exact Nat.le_refl _⟩, ⟨kdR_ HO_3.out⟩, ⟨bp_ BK299.out⟩, ⟨bes_⟩⟩
         ·obtain ⟨c25b0, c25b7, c25b8, c25b1⟩ := emp0_ c25; replace H := bnd_ H; obtain ⟨t301, A27, H⟩ := H; replace H := itb_ H; rcases H with ⟨rfl, H⟩ | ⟨rfl, H⟩
          ·replace H := ite_ H; rcases H with ⟨c29, H⟩ | ⟨c29, H⟩
           ·obtain ⟨c29b0, c29b7, c29b8, c29b1⟩ := emp1_ c29; clear c29; replace H := bnd_ H; obtain ⟨t302, A30, H⟩ := H; replace H := itb_ H; rcases H with ⟨rfl, H⟩ | ⟨rfl, H⟩
            ·have H' := ak_ H; clear H; obtain ⟨z32_0, z32_1, z32_2, z32_3, y32_0, y32_1, y32_2, y32_3⟩ := bcz4 BK299.out; go_wp2_with (first | (go_at_call 39; (with_reducible refine (impl_isName.calls kj13 ((rd_T40 l0 x15_1).f0) true _ A27.out).mono ?_); rintro e w' ⟨rfl, ⟨nd, rfl⟩⟩; (try exact dd_)) | (go_at_call 40; (with_reducible refine (impl_areAttrs.calls kj13 _ _ ((rd_T40 l0 x15_1).f2) true _ ?side1 ?side2 A30.out ?hT_).mono ?_); (case hT_ => exact utf8_keep_ hT_ bes_); (case side1 => repeat (first | exact (Kd.C_below HR298_2.out bes_) | (with_reducible refine Kd.C_alloc ?_ _) | (with_reducible refine Kd.C_drewN ?_ _) | (with_reducible refine Kd.C_drew ?_))); (case side2 => exact HC298_2.out); rintro e w33 ⟨rfl, hb⟩; have n_ := an3_ (Kd.R_below (kdR_ HO_3.out) hb) (blk_below (g := gb299) (o := .cells #[.string ((rd_T40 l0 x15_1).f0), .int .i64 ((rd_T40 l0 x15_1).f1), .slice A298_2 ((rd_T40 l0 x15_1).f2).length c298_2, .string ((rd_T40 l0 x15_1).f3)] 40 (0, 0)) (bk_ BK299.out) hb) (below_step bes_ hb); clear HO_3 BK299 HB; obtain ⟨HO_3, BK299, HB⟩ := n_; (try clear hb);(try clear hb2);(try clear hk);(try clear hi)))
             repeat (go_quiet (fail); try go_wp2)
             go_meet
             case rel => exact ⟨_, H', ⟨by have := HK1.out; have := HJ13.out; first | omega | exact Nat.le_refl _⟩, ⟨kdR_ HO_3.out⟩, ⟨bp_ BK299.out⟩, ⟨bes_⟩⟩
            ·obtain rfl := Option.some.inj H
             obtain ⟨z34_0, z34_1, z34_2, z34_3, y34_0, y34_1, y34_2, y34_3⟩ := bcz4 BK299.out; go_wp2_with (first | (go_at_call 39; (with_reducible refine (impl_isName.calls kj13 ((rd_T40 l0 x15_1).f0) true _ A27.out).mono ?_); rintro e w' ⟨rfl, ⟨nd, rfl⟩⟩; (try exact dd_)) | (go_at_call 40; (with_reducible refine (impl_areAttrs.calls kj13 _ _ ((rd_T40 l0 x15_1).f2) false _ ?side1 ?side2 A30.out ?hT_).mono ?_); (case hT_ => exact utf8_keep_ hT_ bes_); (case side1 => repeat (first | exact (Kd.C_below HR298_2.out bes_) | (with_reducible refine Kd.C_alloc ?_ _) | (with_reducible refine Kd.C_drewN ?_ _) | (with_reducible refine Kd.C_drew ?_))); (case side2 => exact HC298_2.out); rintro e w35 ⟨rfl, hb⟩; have n_ := an3_ (Kd.R_below (kdR_ HO_3.out) hb) (blk_below (g := gb299) (o := .cells #[.string ((rd_T40 l0 x15_1).f0), .int .i64 ((rd_T40 l0 x15_1).f1), .slice A298_2 ((rd_T40 l0 x15_1).f2).length c298_2, .string ((rd_T40 l0 x15_1).f3)] 40 (0, 0)) (bk_ BK299.out) hb) (below_step bes_ hb); clear HO_3 BK299 HB; obtain ⟨HO_3, BK299, HB⟩ := n_; (try clear hb);(try clear hb2);(try clear hk);(try clear hi)))
             repeat (go_quiet (fail); try go_wp2)
             go_ret
             exact ⟨er_, bes_⟩
           ·obtain ⟨c29b0, c29b7, c29b8, c29b1⟩ := emp0_ c29; obtain rfl := Option.some.inj H
            obtain ⟨z36_0, z36_1, z36_2, z36_3, y36_0, y36_1, y36_2, y36_3⟩ := bcz4 BK299.out; go_wp2_with (first | (go_at_call 39; (with_reducible refine (impl_isName.calls kj13 ((rd_T40 l0 x15_1).f0) true _ A27.out).mono ?_); rintro e w' ⟨rfl, ⟨nd, rfl⟩⟩; (try exact dd_)))
            repeat (go_quiet (fail); try go_wp2)
            go_ret
            exact ⟨er_, bes_⟩
          ·obtain rfl := Option.some.inj H
           obtain ⟨z37_0, z37_1, z37_2, z37_3, y37_0, y37_1, y37_2, y37_3⟩ := bcz4 BK299.out; go_wp2_with (first | (go_at_call 39; (with_reducible refine (impl_isName.calls kj13 ((rd_T40 l0 x15_1).f0) false _ A27.out).mono ?_); rintro e w' ⟨rfl, ⟨nd, rfl⟩⟩; (try exact dd_)))
           repeat (go_quiet (fail); try go_wp2)
           go_ret
           exact ⟨er_, bes_⟩
     case rest =>
      clear HC11; (try clear c4b0);(try clear c4b1);(try clear c5b0);(try clear c5b1);(try clear c8b0);(try clear c9b0);(try clear c10b0);(try clear z13_0);(try clear z13_1);(try clear z13_2);(try clear z13_3)
      (try clear y13_0);(try clear y13_1);(try clear y13_2);(try clear y13_3)
      (try clear hx298_0);(try clear hx298_1);(try clear hx298_2);(try clear hx298_3);(try clear p298);(try clear q298)
      obtain ⟨kq, HA, HJ10, HO_3, BK299, HB⟩ := hcut; cases kq with
      | zero => exact absurd HA.out (by simp [impl_GoodNodes.j2])
      | succ kj10 =>
       have H := HA.out; clear HA; simp only [impl_GoodNodes.j2] at H
       replace H := ite_ H; rcases H with ⟨c38, H⟩ | ⟨c38, H⟩
       ·have c38b0 := beq_iff_eq.mpr c38; have c38b1 := bne_eq_false_iff_eq.mpr c38; clear c38; replace H := ite_ H; rcases H with ⟨c39, H⟩ | ⟨c39, H⟩
        ·obtain ⟨c39b0, c39b7, c39b8, c39b1⟩ := emp1_ c39; clear c39; obtain rfl := Option.some.inj H
         obtain ⟨z40_0, z40_1, z40_2, z40_3, y40_0, y40_1, y40_2, y40_3⟩ := bcz4 BK299.out; go_wp2; repeat (go_quiet (fail); try go_wp2)
         go_ret
         exact ⟨er_, bes_⟩
        ·obtain ⟨c39b0, c39b7, c39b8, c39b1⟩ := emp0_ c39; replace H := ite_ H; rcases H with ⟨c41, H⟩ | ⟨c41, H⟩
         ·have c41b0 := beq_iff_eq.mpr c41; have c41b1 := bne_eq_false_iff_eq.mpr c41; clear c41; replace H := itn_ H; obtain ⟨c42, H⟩ := H; have c42b0 := decide_eq_true c42; have c42b1 : decide (0 < x3_1.length) = true := decide_eq_true (by omega)
          clear c42; obtain ⟨y303, hy303⟩ : ∃ y_ : List Int, y_ = (x3_1.set (0 : Int).toNat 1) := ⟨_, rfl⟩
          replace H : (impl_GoodNodes.l0 kj10 l0 y303 l0 (l0.length : Int) (wrap64 (x15_1 + 1))) = some r := by first | (rw [hy303]; with_reducible exact H) | (have H2_ := (Option.bind_some _ _).symm.trans H; rw [hy303]; with_reducible exact H2_) | (have H2_ := (Option.bind_some _ _).symm.trans H; with_reducible exact H2_) | with_reducible exact H | (rw [hy303]; exact H) | exact H
          have Ny303 := ak_ hy303; clear hy303; have H' := ak_ H; clear H; obtain ⟨z44_0, z44_1, z44_2, z44_3, y44_0, y44_1, y44_2, y44_3⟩ := bcz4 BK299.out; have p43 : 0 ≤ (0 : Int) := (by omega)
          have q43 : (0 : Int) < ((x3_1.length : Int) : Int) := oda_
          have qi43 : (0 < x3_1.length) = True := eq_true (by omega)
          obtain ⟨go43, co43, eo43, gb43, gl43, cl43, HG43⟩ := Kd.R_form HO_3.out (by omega); (first | cases eo43 | (injection eo43 with ea_ en_ ec_; (first | subst ea_ | (injection ea_ with ea_; subst ea_)); subst ec_; clear en_))
          have GB43 := ak_ gb43; have GG43 := ak_ HG43; clear gb43 gl43 HG43; obtain ⟨hx43_0, hf43_0⟩ := Kd.R_celln 0 HO_3.out (0 : Int) p43 q43; (try rw [show ((0 : Int)).toNat = 0 from rfl] at hx43_0)
          (try simp only [Nat.reduceMul, Nat.zero_mul, Nat.zero_add, Nat.reduceAdd] at hx43_0)
          (try rw [show ((0 : Int)).toNat = 0 from rfl] at hf43_0)
          (try simp only [Nat.reduceMul, Nat.zero_mul, Nat.zero_add, Nat.reduceAdd] at hf43_0)
          replace p43 := eq_true p43; replace q43 := eq_true q43; have HP45 := Kd.R_putg HO_3.out (0 : Int) 1; go_wp2_with (first | ((with_reducible refine gate_store (t := 3) (p := 73) rfl ?_); (try (rw [drewN_self wc]; generalize hq_ : World.drewN wc _ = wc; have n_ := an3_ (Kd.R_at hq_ HO_3.out) (blk_at hq_ BK299.out) (below_at hq_ HB.out); clear hq_ HO_3 BK299 HB; obtain ⟨HO_3, BK299, HB⟩ := n_; (try (have HP45 := Kd.R_putg HO_3.out (0 : Int) 1)))); refine store_event (t := 3) (p := 73) (v := ?vo_w46) (w1 := (wc.setCell ⟨go43, (0 : Int).toNat, none⟩ (.int .i64 1))) ?hg ?ho ?hn ?hr ?_; (case ho => rfl); (case hg => rfl); (case hn => rfl); (case hr => first | (go_simp; done) | (go_simp; rfl)); intro w46 hw; have hg : wc.grownBy w46 (some go43) := (by rw [hw]; exact HP45.2); have hp_ : Kd.R (Kd.int .i64) 3 w46 w.heap.size (fun _ => True) (.slice (some ⟨go43, 0, none⟩) x3_1.length co43) y303 := (by rw [hw, Ny303.out]; exact HP45.1); clear HP45; have n_ := an3_ (hp_) (blk_grown (g := gb299) (o := .cells #[.string ((rd_T40 l0 x15_1).f0), .int .i64 ((rd_T40 l0 x15_1).f1), .slice A298_2 ((rd_T40 l0 x15_1).f2).length c298_2, .string ((rd_T40 l0 x15_1).f3)] 40 (0, 0)) (bk_ BK299.out) hg (Kd.R_ne HO_3.out BK299.out (by decide))) ((by rw [hw]; exact below_set (HB.out) GB43.out : Below w.heap.size w w46)); clear HO_3 BK299 HB; obtain ⟨HO_3, BK299, HB⟩ := n_; clear hg hw hp_))
          repeat (go_quiet (fail); try go_wp2)
          go_roundg kj10
          case measure => have := HK1.out; have := HJ10.out; omega
          case rel => exact ⟨(y303), (wrap64 (x15_1 + 1)), sv_, H', ⟨by have := HK1.out; have := HJ10.out; omega⟩, ⟨kdR_ HO_3.out⟩, ⟨bes_⟩⟩
         ·have c41b0 := beq_eq_false_iff_ne.mpr c41; have c41b1 := bne_iff_ne.mpr c41; obtain rfl := Option.some.inj H
          obtain ⟨z47_0, z47_1, z47_2, z47_3, y47_0, y47_1, y47_2, y47_3⟩ := bcz4 BK299.out; go_wp2; repeat (go_quiet (fail); try go_wp2)
          go_ret
          exact ⟨er_, bes_⟩
       ·have c38b0 := beq_eq_false_iff_ne.mpr c38; have c38b1 := bne_iff_ne.mpr c38; have HC48 := ak_ H; clear H; go_upto_region 15 with (fail)
        repeat (go_quiet (fail); go_upto_region 15 with (fail))
        go_cut [97] (fun v97 wc => ∃ (kq : Nat) (x97_47 : Bool), v97 = .bool x97_47 ∧ Aside0 (impl_GoodNodes.j3 kq l0 x3_1 x15_1 l0 (l0.length : Int) x15_1 x97_47 ((rd_T40 l0 x15_1).f0) ((rd_T40 l0 x15_1).f1) ((rd_T40 l0 x15_1).f2) ((rd_T40 l0 x15_1).f3) = some r) ∧ Aside0 (kq ≤ kj10) ∧ Aside0 (Kd.R (Kd.int .i64) 3 wc w.heap.size (fun _ => True) v296 x3_1) ∧ Aside0 (wc.heap[gb299]? = some (.cells #[.string ((rd_T40 l0 x15_1).f0), .int .i64 ((rd_T40 l0 x15_1).f1), (.slice A298_2 ((rd_T40 l0 x15_1).f2).length c298_2), .string ((rd_T40 l0 x15_1).f3)] 40 (0, 0))) ∧ Aside0 (Below w.heap.size w wc))
        case first =>
         have H := HC48.out; clear HC48; replace H := bnd_ H; obtain ⟨t304, A49, H⟩ := H; replace H := itb_ H; rcases H with ⟨rfl, H⟩ | ⟨rfl, H⟩
         ·replace H := itd_ H; obtain ⟨c51b0, H⟩ := H; (first | rw [c51b0] | (simp only [i64_w, i32_w]; rw [c51b0]) | skip)
          replace H := itd_ H; obtain ⟨c52b0, H⟩ := H; replace H := ite_ H; rcases H with ⟨c53, H⟩ | ⟨c53, H⟩
          ·obtain ⟨c53b0, c53b7, c53b8, c53b1⟩ := emp1_ c53; clear c53; have H' := ak_ H; clear H; obtain ⟨z54_0, z54_1, z54_2, z54_3, y54_0, y54_1, y54_2, y54_3⟩ := bcz4 BK299.out; go_wp2_with (first | (go_at_call 37; (with_reducible refine (impl_within.calls ((rd_T40 l0 x15_1).f1) 0 (wrap64 (x15_1 - 1)) true _ A49.out).mono ?_); rintro e w' ⟨rfl, ⟨nd, rfl⟩⟩; (try exact dd_); have p305 : 0 ≤ (((rd_T40 l0 x15_1).f1) : Int) := oda_; have q305 : ((rd_T40 l0 x15_1).f1) < (l0.length : Int) := oda_; obtain ⟨ad305, A305_2, c305_2, e305, hx305_0, hx305_1, hx305_2, hx305_3, hl305_2, hi305_2⟩ := at_T40 HR0.out ((rd_T40 l0 x15_1).f1) p305 q305; obtain rfl : ad298 = ad305 := (by injection e305); replace hx305_0 := pb_ HB hx305_0; replace hx305_1 := pb_ HB hx305_1; replace hx305_2 := pb_ HB hx305_2; replace hx305_3 := pb_ HB hx305_3; have HR305_2 := ak_ hi305_2; have HC305_2 := ak_ hl305_2; clear hi305_2 hl305_2; replace p305 := eq_true p305; replace q305 := eq_true q305))
           repeat (go_quiet (fail); try go_wp2)
           go_meet
           case rel => exact ⟨_, (true), sv_, H', ⟨by have := HK1.out; have := HJ10.out; first | omega | exact Nat.le_refl _⟩, ⟨kdR_ HO_3.out⟩, ⟨bp_ BK299.out⟩, ⟨bes_⟩⟩
          ·obtain ⟨c53b0, c53b7, c53b8, c53b1⟩ := emp0_ c53; replace H := bnd_ H; obtain ⟨t306, A55, H⟩ := H; have H' := ak_ H; clear H; obtain ⟨z56_0, z56_1, z56_2, z56_3, y56_0, y56_1, y56_2, y56_3⟩ := bcz4 BK299.out; go_wp2_with (first | (go_at_call 37; (with_reducible refine (impl_within.calls ((rd_T40 l0 x15_1).f1) 0 (wrap64 (x15_1 - 1)) true _ A49.out).mono ?_); rintro e w' ⟨rfl, ⟨nd, rfl⟩⟩; (try exact dd_); have p305 : 0 ≤ (((rd_T40 l0 x15_1).f1) : Int) := oda_; have q305 : ((rd_T40 l0 x15_1).f1) < (l0.length : Int) := oda_; obtain ⟨ad305, A305_2, c305_2, e305, hx305_0, hx305_1, hx305_2, hx305_3, hl305_2, hi305_2⟩ := at_T40 HR0.out ((rd_T40 l0 x15_1).f1) p305 q305; obtain rfl : ad298 = ad305 := (by injection e305); replace hx305_0 := pb_ HB hx305_0; replace hx305_1 := pb_ HB hx305_1; replace hx305_2 := pb_ HB hx305_2; replace hx305_3 := pb_ HB hx305_3; have HR305_2 := ak_ hi305_2; have HC305_2 := ak_ hl305_2; clear hi305_2 hl305_2; replace p305 := eq_true p305; replace q305 := eq_true q305) | (go_at_call 41; (with_reducible refine (impl_isAround.calls kj10 _ _ l0 ((rd_T40 l0 x15_1).f1) (wrap64 (x15_1 - 1)) t306 _ ?side1 ?side2 A55.out).mono ?_); (case side1 => repeat (first | exact (Kd.C_below HR0.out bes_) | (with_reducible refine Kd.C_alloc ?_ _) | (with_reducible refine Kd.C_drewN ?_ _) | (with_reducible refine Kd.C_drew ?_))); (case side2 => exact HC0.out); rintro e w' ⟨rfl, ⟨nd, rfl⟩⟩; (try exact dd_)))
           repeat (go_quiet (fail); try go_wp2)
           go_meet
           case rel => exact ⟨_, (!t306), sv_, H', ⟨by have := HK1.out; have := HJ10.out; first | omega | exact Nat.le_refl _⟩, ⟨kdR_ HO_3.out⟩, ⟨bp_ BK299.out⟩, ⟨bes_⟩⟩
         ·have H' := ak_ H; clear H; obtain ⟨z57_0, z57_1, z57_2, z57_3, y57_0, y57_1, y57_2, y57_3⟩ := bcz4 BK299.out; go_wp2_with (first | (go_at_call 37; (with_reducible refine (impl_within.calls ((rd_T40 l0 x15_1).f1) 0 (wrap64 (x15_1 - 1)) false _ A49.out).mono ?_); rintro e w' ⟨rfl, ⟨nd, rfl⟩⟩; (try exact dd_)))
          repeat (go_quiet (fail); try go_wp2)
          go_meet
          case rel => exact ⟨_, (true), sv_, H', ⟨by have := HK1.out; have := HJ10.out; first | omega | exact Nat.le_refl _⟩, ⟨kdR_ HO_3.out⟩, ⟨bp_ BK299.out⟩, ⟨bes_⟩⟩
        case rest =>
         clear HC48; (try clear c4b0);(try clear c4b1);(try clear c5b0);(try clear c5b1);(try clear c8b0);(try clear c9b0);(try clear c10b0);(try clear c38);(try clear c38b0);(try clear c38b1)
         (try clear z13_0);(try clear z13_1);(try clear z13_2);(try clear z13_3)
         (try clear y13_0);(try clear y13_1);(try clear y13_2);(try clear y13_3)
         (try clear hx298_0);(try clear hx298_1);(try clear hx298_2);(try clear hx298_3);(try clear p298);(try clear q298)
         obtain ⟨kq, x97_47, rfl, HA, HJ47, HO_3, BK299, HB⟩ := hcut; cases kq with
         | zero => exact absurd HA.out (by simp [impl_GoodNodes.j3])
         | succ kj47 =>
          have H := HA.out; clear HA; simp only [impl_GoodNodes.j3] at H
          replace H := itb_ H; rcases H with ⟨rfl, H⟩ | ⟨rfl, H⟩
          ·obtain rfl := Option.some.inj H
           go_wp2; repeat (go_quiet (fail); try go_wp2)
           go_ret
           exact ⟨er_, bes_⟩
          ·have HC59 := ak_ H; clear H; go_upto_region 17 with (fail)
           repeat (go_quiet (fail); go_upto_region 17 with (fail))
           go_cut [120] (fun v120 wc => ∃ (kq : Nat) (x120_58 : Bool), v120 = .bool x120_58 ∧ Aside0 (impl_GoodNodes.j4 kq l0 x3_1 x15_1 l0 (l0.length : Int) x15_1 x120_58 ((rd_T40 l0 x15_1).f0) ((rd_T40 l0 x15_1).f1) ((rd_T40 l0 x15_1).f2) ((rd_T40 l0 x15_1).f3) = some r) ∧ Aside0 (kq ≤ kj47) ∧ Aside0 (Kd.R (Kd.int .i64) 3 wc w.heap.size (fun _ => True) v296 x3_1) ∧ Aside0 (wc.heap[gb299]? = some (.cells #[.string ((rd_T40 l0 x15_1).f0), .int .i64 ((rd_T40 l0 x15_1).f1), (.slice A298_2 ((rd_T40 l0 x15_1).f2).length c298_2), .string ((rd_T40 l0 x15_1).f3)] 40 (0, 0))) ∧ Aside0 (Below w.heap.size w wc))
           case first =>
            have H := HC59.out; clear HC59; replace H := ite_ H; rcases H with ⟨c60, H⟩ | ⟨c60, H⟩
            ·obtain ⟨c60b0, c60b7, c60b8, c60b1⟩ := emp1_ c60; clear c60; (first | rw [c60b0] | simp only [c60b7, Bool.not_true, Bool.not_false] | (simp only [i64_w, i32_w]; rw [c60b0]) | skip)
             obtain ⟨ji61, hji61⟩ : ∃ j_ : Int, (wrap64 (x15_1 - 1)) = j_ := ⟨_, rfl⟩
             replace H : (if 0 ≤ (ji61) then (if (ji61) < (l0.length : Int) then (if ((rd_T40 l0 (ji61)).f0).toList = ([] : List UInt8) then (impl_GoodNodes.j4 kj47 l0 x3_1 x15_1 l0 (l0.length : Int) x15_1 (((rd_T40 l0 (ji61)).f1) == ((rd_T40 l0 x15_1).f1)) ((rd_T40 l0 x15_1).f0) ((rd_T40 l0 x15_1).f1) ((rd_T40 l0 x15_1).f2) ((rd_T40 l0 x15_1).f3)) else (impl_GoodNodes.j4 kj47 l0 x3_1 x15_1 l0 (l0.length : Int) x15_1 false ((rd_T40 l0 x15_1).f0) ((rd_T40 l0 x15_1).f1) ((rd_T40 l0 x15_1).f2) ((rd_T40 l0 x15_1).f3))) else (none)) else (none)) = some r := by first | (rw [hji61] at H; exact H) | (simp only [hji61] at H ⊢; exact H)
             have hji61w : (IntKind.i64.wrap (x15_1 - 1)) = ji61 := (i64_w _).trans hji61
             replace H := itd_ H; obtain ⟨c62b0, H⟩ := H; replace H := itd_ H; obtain ⟨c63b0, H⟩ := H; replace H := ite_ H; rcases H with ⟨c64, H⟩ | ⟨c64, H⟩
             ·obtain ⟨c64b0, c64b7, c64b8, c64b1⟩ := emp1_ c64; clear c64; have H' := ak_ H; clear H; obtain ⟨z65_0, z65_1, z65_2, z65_3, y65_0, y65_1, y65_2, y65_3⟩ := bcz4 BK299.out; have p307 : (0 ≤ ((ji61) : Int)) = True := odt_
              have q307 : ((ji61) < (l0.length : Int)) = True := odt_
              obtain ⟨ad307, A307_2, c307_2, e307, hx307_0, hx307_1, hx307_2, hx307_3, hl307_2, hi307_2⟩ := at_T40 HR0.out (ji61) oda_ oda_; obtain rfl : ad298 = ad307 := (by injection e307)
              replace hx307_0 := pb_ HB hx307_0; replace hx307_1 := pb_ HB hx307_1; replace hx307_2 := pb_ HB hx307_2; replace hx307_3 := pb_ HB hx307_3; have HR307_2 := ak_ hi307_2; have HC307_2 := ak_ hl307_2; clear hi307_2 hl307_2; have p308 : (0 ≤ ((ji61) : Int)) = True := odt_
              have q308 : ((ji61) < (l0.length : Int)) = True := odt_
              obtain ⟨ad308, A308_2, c308_2, e308, hx308_0, hx308_1, hx308_2, hx308_3, hl308_2, hi308_2⟩ := at_T40 HR0.out (ji61) oda_ oda_; obtain rfl : ad298 = ad308 := (by injection e308)
              (try (have e9_ := hx308_2.symm.trans hw307_2; simp only [Option.some.injEq, Value.slice.injEq, true_and, and_true] at e9_; obtain ⟨rfl, rfl⟩ := e9_))
              replace hx308_0 := pb_ HB hx308_0; replace hx308_1 := pb_ HB hx308_1; replace hx308_2 := pb_ HB hx308_2; replace hx308_3 := pb_ HB hx308_3; have HR308_2 := ak_ hi308_2; have HC308_2 := ak_ hl308_2; clear hi308_2 hl308_2; have ea_ := Option.some.inj (hx307_2.symm.trans hx308_2); injection ea_ with ea_ en_ ec_
              subst ea_; subst ec_; clear en_; go_wp2; repeat (go_quiet (fail); try go_wp2)
              go_meet
              case rel => exact ⟨_, ((((rd_T40 l0 (ji61)).f1) == ((rd_T40 l0 x15_1).f1))), (by first | rfl | (simp; done) | (simp only [← hji61] <;> (first | rfl | simp)) | (simp [*]; done)), H', ⟨by have := HK1.out; have := HJ10.out; have := HJ47.out; first | omega | exact Nat.le_refl _⟩, ⟨kdR_ HO_3.out⟩, ⟨bp_ BK299.out⟩, ⟨bes_⟩⟩
             ·obtain ⟨c64b0, c64b7, c64b8, c64b1⟩ := emp0_ c64; have H' := ak_ H; clear H; obtain ⟨z66_0, z66_1, z66_2, z66_3, y66_0, y66_1, y66_2, y66_3⟩ := bcz4 BK299.out; have p307 : (0 ≤ ((ji61) : Int)) = True := odt_
              have q307 : ((ji61) < (l0.length : Int)) = True := odt_
              obtain ⟨ad307, A307_2, c307_2, e307, hx307_0, hx307_1, hx307_2, hx307_3, hl307_2, hi307_2⟩ := at_T40 HR0.out (ji61) oda_ oda_; obtain rfl : ad298 = ad307 := (by injection e307)
              replace hx307_0 := pb_ HB hx307_0; replace hx307_1 := pb_ HB hx307_1; replace hx307_2 := pb_ HB hx307_2; replace hx307_3 := pb_ HB hx307_3; have HR307_2 := ak_ hi307_2; have HC307_2 := ak_ hl307_2; clear hi307_2 hl307_2; go_wp2; repeat (go_quiet (fail); try go_wp2)
              go_meet
              case rel => exact ⟨_, (false), sv_, H', ⟨by have := HK1.out; have := HJ10.out; have := HJ47.out; first | omega | exact Nat.le_refl _⟩, ⟨kdR_ HO_3.out⟩, ⟨bp_ BK299.out⟩, ⟨bes_⟩⟩
            ·obtain ⟨c60b0, c60b7, c60b8, c60b1⟩ := emp0_ c60; (first | rw [c60b0] | simp only [c60b7, Bool.not_true, Bool.not_false] | (simp only [i64_w, i32_w]; rw [c60b0]) | skip)
             have H' := ak_ H; clear H; obtain ⟨z67_0, z67_1, z67_2, z67_3, y67_0, y67_1, y67_2, y67_3⟩ := bcz4 BK299.out; go_wp2; repeat (go_quiet (fail); try go_wp2)
             go_meet
             case rel => exact ⟨_, (false), sv_, H', ⟨by have := HK1.out; have := HJ10.out; have := HJ47.out; first | omega | exact Nat.le_refl _⟩, ⟨kdR_ HO_3.out⟩, ⟨bp_ BK299.out⟩, ⟨bes_⟩⟩
           case rest =>
            clear HC59; (try clear c4b0);(try clear c4b1);(try clear c5b0);(try clear c5b1);(try clear c8b0);(try clear c9b0);(try clear c10b0);(try clear c38);(try clear c38b0)
            (try clear c38b1);(try clear z13_0);(try clear z13_1);(try clear z13_2);(try clear z13_3)
            (try clear y13_0);(try clear y13_1);(try clear y13_2);(try clear y13_3)
            (try clear hx298_0);(try clear hx298_1)
            (try clear hx298_2);(try clear hx298_3);(try clear p298);(try clear q298)
            obtain ⟨kq, x120_58, rfl, HA, HJ58, HO_3, BK299, HB⟩ := hcut; cases kq with
            | zero => exact absurd HA.out (by simp [impl_GoodNodes.j4])
            | succ kj58 =>
             have H := HA.out; clear HA; simp only [impl_GoodNodes.j4] at H
             replace H := itb_ H; rcases H with ⟨rfl, H⟩ | ⟨rfl, H⟩
             ·obtain rfl := Option.some.inj H
              go_wp2; repeat (go_quiet (fail); try go_wp2)
              go_ret
              exact ⟨er_, bes_⟩
             ·replace H := itd_ H; obtain ⟨c69b0, H⟩ := H; replace H := itd_ H; obtain ⟨c70b0, H⟩ := H; replace H := itd_ H; obtain ⟨c71b0, H⟩ := H; replace H := itd_ H; obtain ⟨c72b0, H⟩ := H; replace H := nams_ H; obtain ⟨y310, Ny310, H⟩ := H; replace H := ite_ H; rcases H with ⟨c74, H⟩ | ⟨c74, H⟩
              ·obtain ⟨c74b0, c74b7, c74b8, c74b1⟩ := emp1_ c74; clear c74; have H' := ak_ H; clear H; obtain ⟨z75_0, z75_1, z75_2, z75_3, y75_0, y75_1, y75_2, y75_3⟩ := bcz4 BK299.out; obtain ⟨Ao76, co76, eo76⟩ := Kd.R_slice HO_3.out; subst eo76; have p309 : 0 ≤ (((rd_T40 l0 x15_1).f1) : Int) := oda_
               have q309 : ((rd_T40 l0 x15_1).f1) < (x3_1.length : Int) := oda_
               obtain ⟨ad309, e309, hx309_0⟩ := Kd.at_int (Kd.R_reads' HO_3.out).2.2 ((rd_T40 l0 x15_1).f1) p309 q309; cases e309; replace p309 := eq_true p309; replace q309 := eq_true q309; have p73 : 0 ≤ (x15_1 : Int) := oda_
               have q73 : (x15_1 : Int) < ((x3_1.length : Int) : Int) := oda_
               obtain ⟨go73, co73, eo73, gb73, gl73, cl73, HG73⟩ := Kd.R_form HO_3.out (by omega); (first | cases eo73 | (injection eo73 with ea_ en_ ec_; (first | subst ea_ | (injection ea_ with ea_; subst ea_)); subst ec_; clear en_))
               have GB73 := ak_ gb73; have GG73 := ak_ HG73; clear gb73 gl73 HG73; (first | simp only [add_plain] at hx309_0 | skip)
               obtain ⟨hx73_0, hf73_0⟩ := Kd.R_celln 0 HO_3.out (x15_1 : Int) p73 q73; replace p73 := eq_true p73; replace q73 := eq_true q73; have HP77 := Kd.R_putg HO_3.out (x15_1 : Int) (wrap64 ((rd x3_1 ((rd_T40 l0 x15_1).f1)) + 1)); go_wp2_with (first | ((with_reducible refine gate_store (t := 3) (p := 129) rfl ?_); (try (rw [drewN_self wc]; generalize hq_ : World.drewN wc _ = wc; have n_ := an3_ (Kd.R_at hq_ HO_3.out) (blk_at hq_ BK299.out) (below_at hq_ HB.out); clear hq_ HO_3 BK299 HB; obtain ⟨HO_3, BK299, HB⟩ := n_; (try (have HP77 := Kd.R_putg HO_3.out (x15_1 : Int) (wrap64 ((rd x3_1 ((rd_T40 l0 x15_1).f1)) + 1)))))); refine store_event (t := 3) (p := 129) (v := ?vo_w78) (w1 := (wc.setCell ⟨go73, (x15_1 : Int).toNat, none⟩ (.int .i64 (wrap64 ((rd x3_1 ((rd_T40 l0 x15_1).f1)) + 1))))) ?hg ?ho ?hn ?hr ?_; (case ho => rfl); (case hg => rfl); (case hn => rfl); (case hr => first | (go_simp; done) | (go_simp; rfl)); intro w78 hw; have hg : wc.grownBy w78 (some go73) := (by rw [hw]; exact HP77.2); have hp_ : Kd.R (Kd.int .i64) 3 w78 w.heap.size (fun _ => True) (.slice (some ⟨go73, 0, none⟩) x3_1.length co76) y310 := (by rw [hw, Ny310.out]; exact HP77.1); clear HP77; have n_ := an3_ (hp_) (blk_grown (g := gb299) (o := .cells #[.string ((rd_T40 l0 x15_1).f0), .int .i64 ((rd_T40 l0 x15_1).f1), .slice A298_2 ((rd_T40 l0 x15_1).f2).length c298_2, .string ((rd_T40 l0 x15_1).f3)] 40 (0, 0)) (bk_ BK299.out) hg (Kd.R_ne HO_3.out BK299.out (by decide))) ((by rw [hw]; exact below_set (HB.out) GB73.out : Below w.heap.size w w78)); clear HO_3 BK299 HB; obtain ⟨HO_3, BK299, HB⟩ := n_; clear hg hw hp_; obtain ⟨z79_0, z79_1, z79_2, z79_3, y79_0, y79_1, y79_2, y79_3⟩ := bcz4 BK299.out))
               repeat (go_quiet (fail); try go_wp2)
               go_roundg kj58
               case measure => have := HK1.out; have := HJ10.out; have := HJ47.out; have := HJ58.out; omega
               case rel => exact ⟨(y310), (wrap64 (x15_1 + 1)), sv_, H', ⟨by have := HK1.out; have := HJ10.out; have := HJ47.out; have := HJ58.out; omega⟩, ⟨kdR_ HO_3.out⟩, ⟨bes_⟩⟩
              ·obtain ⟨c74b0, c74b7, c74b8, c74b1⟩ := emp0_ c74; replace H := ied_ H; rcases H with ⟨c80b0, H⟩ | ⟨c80b0, H⟩
               ·obtain rfl := Option.some.inj H
                obtain ⟨z81_0, z81_1, z81_2, z81_3, y81_0, y81_1, y81_2, y81_3⟩ := bcz4 BK299.out; obtain ⟨Ao82, co82, eo82⟩ := Kd.R_slice HO_3.out; subst eo82; have p309 : 0 ≤ (((rd_T40 l0 x15_1).f1) : Int) := oda_
                have q309 : ((rd_T40 l0 x15_1).f1) < (x3_1.length : Int) := oda_
                obtain ⟨ad309, e309, hx309_0⟩ := Kd.at_int (Kd.R_reads' HO_3.out).2.2 ((rd_T40 l0 x15_1).f1) p309 q309; cases e309; replace p309 := eq_true p309; replace q309 := eq_true q309; have p73 : 0 ≤ (x15_1 : Int) := oda_
                have q73 : (x15_1 : Int) < ((x3_1.length : Int) : Int) := oda_
                obtain ⟨go73, co73, eo73, gb73, gl73, cl73, HG73⟩ := Kd.R_form HO_3.out (by omega); (first | cases eo73 | (injection eo73 with ea_ en_ ec_; (first | subst ea_ | (injection ea_ with ea_; subst ea_)); subst ec_; clear en_))
                have GB73 := ak_ gb73; have GG73 := ak_ HG73; clear gb73 gl73 HG73; (first | simp only [add_plain] at hx309_0 | skip)
                obtain ⟨hx73_0, hf73_0⟩ := Kd.R_celln 0 HO_3.out (x15_1 : Int) p73 q73; replace p73 := eq_true p73; replace q73 := eq_true q73; have HP83 := Kd.R_putg HO_3.out (x15_1 : Int) (wrap64 ((rd x3_1 ((rd_T40 l0 x15_1).f1)) + 1)); go_wp2_with (first | ((with_reducible refine gate_store (t := 3) (p := 129) rfl ?_); (try (rw [drewN_self wc]; generalize hq_ : World.drewN wc _ = wc; have n_ := an3_ (Kd.R_at hq_ HO_3.out) (blk_at hq_ BK299.out) (below_at hq_ HB.out); clear hq_ HO_3 BK299 HB; obtain ⟨HO_3, BK299, HB⟩ := n_; (try (have HP83 := Kd.R_putg HO_3.out (x15_1 : Int) (wrap64 ((rd x3_1 ((rd_T40 l0 x15_1).f1)) + 1)))))); refine store_event (t := 3) (p := 129) (v := ?vo_w84) (w1 := (wc.setCell ⟨go73, (x15_1 : Int).toNat, none⟩ (.int .i64 (wrap64 ((rd x3_1 ((rd_T40 l0 x15_1).f1)) + 1))))) ?hg ?ho ?hn ?hr ?_; (case ho => rfl); (case hg => rfl); (case hn => rfl); (case hr => first | (go_simp; done) | (go_simp; rfl)); intro w84 hw; have hg : wc.grownBy w84 (some go73) := (by rw [hw]; exact HP83.2); have hp_ : Kd.R (Kd.int .i64) 3 w84 w.heap.size (fun _ => True) (.slice (some ⟨go73, 0, none⟩) x3_1.length co82) y310 := (by rw [hw, Ny310.out]; exact HP83.1); clear HP83; have n_ := an3_ (hp_) (blk_grown (g := gb299) (o := .cells #[.string ((rd_T40 l0 x15_1).f0), .int .i64 ((rd_T40 l0 x15_1).f1), .slice A298_2 ((rd_T40 l0 x15_1).f2).length c298_2, .string ((rd_T40 l0 x15_1).f3)] 40 (0, 0)) (bk_ BK299.out) hg (Kd.R_ne HO_3.out BK299.out (by decide))) ((by rw [hw]; exact below_set (HB.out) GB73.out : Below w.heap.size w w84)); clear HO_3 BK299 HB; obtain ⟨HO_3, BK299, HB⟩ := n_; clear hg hw hp_; obtain ⟨z85_0, z85_1, z85_2, z85_3, y85_0, y85_1, y85_2, y85_3⟩ := bcz4 BK299.out; have p311 : 0 ≤ (x15_1 : Int) := oda_; have q311 : x15_1 < (y310.length : Int) := (by have h_ : (x15_1 : Int) < ((x3_1.length : Int) : Int) := oda_; first | (have e_ := (Kd.R_reads' HO_3.out).1; omega) | simpa only [Ny310.out, List.length_set] using h_); have ql311 : ((x15_1 : Int) < ((x3_1.length : Int) : Int)) = True := eq_true (oda_); obtain ⟨ad311, e311, hx311_0⟩ := Kd.at_int (Kd.R_reads' HO_3.out).2.2 x15_1 p311 q311; obtain rfl : (⟨go73, 0, none⟩ : Addr) = ad311 := (by injection e311); (first | simp only [add_plain] at hx311_0 | simp only [add_at] at hx311_0 | simp only [Addr.add, Nat.zero_add] at hx311_0 | skip); replace p311 := eq_true p311; replace q311 := eq_true q311))
                repeat (go_quiet (fail); try go_wp2)
                go_ret
                exact ⟨er_, bes_⟩
               ·have H' := ak_ H; clear H; obtain ⟨z86_0, z86_1, z86_2, z86_3, y86_0, y86_1, y86_2, y86_3⟩ := bcz4 BK299.out; obtain ⟨Ao87, co87, eo87⟩ := Kd.R_slice HO_3.out; subst eo87; have p309 : 0 ≤ (((rd_T40 l0 x15_1).f1) : Int) := oda_
                have q309 : ((rd_T40 l0 x15_1).f1) < (x3_1.length : Int) := oda_
                obtain ⟨ad309, e309, hx309_0⟩ := Kd.at_int (Kd.R_reads' HO_3.out).2.2 ((rd_T40 l0 x15_1).f1) p309 q309; cases e309; replace p309 := eq_true p309; replace q309 := eq_true q309; have p73 : 0 ≤ (x15_1 : Int) := oda_
                have q73 : (x15_1 : Int) < ((x3_1.length : Int) : Int) := oda_
                obtain ⟨go73, co73, eo73, gb73, gl73, cl73, HG73⟩ := Kd.R_form HO_3.out (by omega); (first | cases eo73 | (injection eo73 with ea_ en_ ec_; (first | subst ea_ | (injection ea_ with ea_; subst ea_)); subst ec_; clear en_))
                have GB73 := ak_ gb73; have GG73 := ak_ HG73; clear gb73 gl73 HG73; (first | simp only [add_plain] at hx309_0 | skip)
                obtain ⟨hx73_0, hf73_0⟩ := Kd.R_celln 0 HO_3.out (x15_1 : Int) p73 q73; replace p73 := eq_true p73; replace q73 := eq_true q73; have HP88 := Kd.R_putg HO_3.out (x15_1 : Int) (wrap64 ((rd x3_1 ((rd_T40 l0 x15_1).f1)) + 1)); go_wp2_with (first | ((with_reducible refine gate_store (t := 3) (p := 129) rfl ?_); (try (rw [drewN_self wc]; generalize hq_ : World.drewN wc _ = wc; have n_ := an3_ (Kd.R_at hq_ HO_3.out) (blk_at hq_ BK299.out) (below_at hq_ HB.out); clear hq_ HO_3 BK299 HB; obtain ⟨HO_3, BK299, HB⟩ := n_; (try (have HP88 := Kd.R_putg HO_3.out (x15_1 : Int) (wrap64 ((rd x3_1 ((rd_T40 l0 x15_1).f1)) + 1)))))); refine store_event (t := 3) (p := 129) (v := ?vo_w89) (w1 := (wc.setCell ⟨go73, (x15_1 : Int).toNat, none⟩ (.int .i64 (wrap64 ((rd x3_1 ((rd_T40 l0 x15_1).f1)) + 1))))) ?hg ?ho ?hn ?hr ?_; (case ho => rfl); (case hg => rfl); (case hn => rfl); (case hr => first | (go_simp; done) | (go_simp; rfl)); intro w89 hw; have hg : wc.grownBy w89 (some go73) := (by rw [hw]; exact HP88.2); have hp_ : Kd.R (Kd.int .i64) 3 w89 w.heap.size (fun _ => True) (.slice (some ⟨go73, 0, none⟩) x3_1.length co87) y310 := (by rw [hw, Ny310.out]; exact HP88.1); clear HP88; have n_ := an3_ (hp_) (blk_grown (g := gb299) (o := .cells #[.string ((rd_T40 l0 x15_1).f0), .int .i64 ((rd_T40 l0 x15_1).f1), .slice A298_2 ((rd_T40 l0 x15_1).f2).length c298_2, .string ((rd_T40 l0 x15_1).f3)] 40 (0, 0)) (bk_ BK299.out) hg (Kd.R_ne HO_3.out BK299.out (by decide))) ((by rw [hw]; exact below_set (HB.out) GB73.out : Below w.heap.size w w89)); clear HO_3 BK299 HB; obtain ⟨HO_3, BK299, HB⟩ := n_; clear hg hw hp_; obtain ⟨z90_0, z90_1, z90_2, z90_3, y90_0, y90_1, y90_2, y90_3⟩ := bcz4 BK299.out; have p311 : 0 ≤ (x15_1 : Int) := oda_; have q311 : x15_1 < (y310.length : Int) := (by have h_ : (x15_1 : Int) < ((x3_1.length : Int) : Int) := oda_; first | (have e_ := (Kd.R_reads' HO_3.out).1; omega) | simpa only [Ny310.out, List.length_set] using h_); have ql311 : ((x15_1 : Int) < ((x3_1.length : Int) : Int)) = True := eq_true (oda_); obtain ⟨ad311, e311, hx311_0⟩ := Kd.at_int (Kd.R_reads' HO_3.out).2.2 x15_1 p311 q311; obtain rfl : (⟨go73, 0, none⟩ : Addr) = ad311 := (by injection e311); (first | simp only [add_plain] at hx311_0 | simp only [add_at] at hx311_0 | simp only [Addr.add, Nat.zero_add] at hx311_0 | skip); replace p311 := eq_true p311; replace q311 := eq_true q311))
                repeat (go_quiet (fail); try go_wp2)
                go_roundg kj58
                case measure => have := HK1.out; have := HJ10.out; have := HJ47.out; have := HJ58.out; omega
                case rel => exact ⟨(y310), (wrap64 (x15_1 + 1)), sv_, H', ⟨by have := HK1.out; have := HJ10.out; have := HJ47.out; have := HJ58.out; omega⟩, ⟨kdR_ HO_3.out⟩, ⟨bes_⟩⟩
    ·obtain rfl := Option.some.inj H
     go_wp2; repeat (go_quiet (fail); try go_wp2)
     go_ret
     exact ⟨er_, bel_⟩
 ·obtain rfl := Option.some.inj H
  go_enter Tryz.func17, Tryz.ntmps17
  go_wp2_with (first | (go_at_call 37; (with_reducible refine (impl_within.calls (l0.length : Int) 1 60 false _ A2.out).mono ?_); rintro e w' ⟨rfl, ⟨nd, rfl⟩⟩; (try exact dd_)))
  repeat (go_quiet (fail); try go_wp2)
  go_ret
  exact ⟨er_, bel_⟩

/-! ### impl_TextUnder: function 18 -/
mutual
def impl_TextUnder.j0 : Nat → List (S40) → Int → Bool → Option (ByteArray × Bool)
 | 0, _, _, _ => none
 | k + 1, x0, x1, x19 => if x19 = true then (some ((⟨#[]⟩ : ByteArray), false)) else (impl_TextUnder.l0 k x0 x1 (⟨#[]⟩ : ByteArray) x0 (x0.length : Int) 0)
def impl_TextUnder.l0 : Nat → List (S40) → Int → ByteArray → List (S40) → Int → Int → Option (ByteArray × Bool)
 | 0, _, _, _, _, _, _ => none
 | k + 1, x0, x1, x6, x20, x21, x22 => if x22 < x21 then (if 0 ≤ x22 then (if x22 < (x20.length : Int) then ((impl_isAround.f k x0 x1 x22).bind fun t316 => (if t316 = true then (if x6.size + ((rd_T40 x20 x22).f3).size ≤ 9223372036854775807 then (impl_TextUnder.l0 k x0 x1 (x6 ++ ((rd_T40 x20 x22).f3)) x20 x21 (wrap64 (x22 + 1))) else (none)) else (impl_TextUnder.l0 k x0 x1 x6 x20 x21 (wrap64 (x22 + 1))))) else (none)) else (none)) else (some (x6, true))
end
def impl_TextUnder.f (k : Nat) (l0 : List (S40)) (a1 : Int) : Option (ByteArray × Bool) := (impl_GoodNodes.f k l0).bind fun t312 => (if t312 = true then ((impl_within.f a1 0 (wrap64 ((l0.length : Int) - 1))).bind fun t313 => (impl_TextUnder.j0 k l0 a1 (!t313))) else (impl_TextUnder.j0 k l0 a1 true))
theorem impl_TextUnder.calls (k : Nat) (A0 : Option Addr) (c0 : Nat) (l0 : List (S40)) (a1 : Int) (r1 : ByteArray) (r2 : Bool) (w : World) (hr0 : Kd.C k40 w A0 l0.length l0) (hc0 : l0.length ≤ c0) (h : impl_TextUnder.f k l0 a1 = some (r1, r2)) (hT_ : U8Tabs_ w) :
  Calls Tryz.prog 18 #[.slice A0 l0.length c0, .int .i64 a1] w fun e w' => e = .returned (.tuple #[.string r1, .bool r2]) ∧ Below w.heap.size w w' := by
 have hu40 := Tryz.underlying40; have HR0 := ak_ hr0; have HC0 := ak_ hc0; clear hr0 hc0; have HB := ak_ (Below.refl w.heap.size w); have H := h; unfold impl_TextUnder.f at H
 clear h; have HC3 := ak_ H; clear H; go_enter Tryz.func18, Tryz.ntmps18
 go_upto_region 1 with (fail)
 go_cut [19] (fun v19 wc => ∃ (kq : Nat) (x19_2 : Bool), v19 = .bool x19_2 ∧ Aside0 (impl_TextUnder.j0 kq l0 a1 x19_2 = some (r1, r2)) ∧ Aside0 (kq ≤ k) ∧ Aside0 (Below w.heap.size w wc))
 case first =>
  have H := HC3.out; clear HC3; replace H := bnd_ H; obtain ⟨t312, A4, H⟩ := H; replace H := itb_ H; rcases H with ⟨rfl, H⟩ | ⟨rfl, H⟩
  ·replace H := bnd_ H; obtain ⟨t313, A6, H⟩ := H; have H' := ak_ H; clear H; go_wp2_with (first | ((with_reducible refine gate_callee (f := 17) rfl ?_); refine gl_ (some 10) Tryz.func17 #[.slice A0 l0.length c0] ?_; (with_reducible refine (impl_GoodNodes.calls k _ _ l0 true _ ?side1 ?side2 A4.out ?hT_).mono ?_); (case hT_ => exact utf8_keep_ hT_ bel_); (case side1 => exact cs_ (Kd.C_below HR0.out HB.out)); (case side2 => exact HC0.out); rintro e w7 ⟨rfl, hb⟩; refine ⟨_, rfl, ?_⟩; replace HB := ak_ (below_step bel_ hb); (try clear hb);(try clear hb2);(try clear hk);(try clear hi)) | (go_at_call 37; (with_reducible refine (impl_within.calls a1 0 (wrap64 ((l0.length : Int) - 1)) t313 _ A6.out).mono ?_); rintro e w' ⟨rfl, ⟨nd, rfl⟩⟩))
   go_meet
   case rel => exact ⟨_, (!t313), sv_, H', ⟨by first | omega | exact Nat.le_refl _⟩, ⟨bel_⟩⟩
  ·have H' := ak_ H; clear H; go_wp2_with (first | ((with_reducible refine gate_callee (f := 17) rfl ?_); refine gl_ (some 10) Tryz.func17 #[.slice A0 l0.length c0] ?_; (with_reducible refine (impl_GoodNodes.calls k _ _ l0 false _ ?side1 ?side2 A4.out ?hT_).mono ?_); (case hT_ => exact utf8_keep_ hT_ bel_); (case side1 => exact cs_ (Kd.C_below HR0.out HB.out)); (case side2 => exact HC0.out); rintro e w8 ⟨rfl, hb⟩; refine ⟨_, rfl, ?_⟩; replace HB := ak_ (below_step bel_ hb); (try clear hb);(try clear hb2);(try clear hk);(try clear hi)))
   go_meet
   case rel => exact ⟨_, (true), sv_, H', ⟨by first | omega | exact Nat.le_refl _⟩, ⟨bel_⟩⟩
 case rest =>
  clear HC3; obtain ⟨kq, x19_2, rfl, HA, HJ2, HB⟩ := hcut; cases kq with
  | zero => exact absurd HA.out (by simp [impl_TextUnder.j0])
  | succ kj2 =>
   have H := HA.out; clear HA; simp only [impl_TextUnder.j0] at H
   replace H := itb_ H; rcases H with ⟨rfl, H⟩ | ⟨rfl, H⟩
   ·simp only [Option.some.injEq, Prod.mk.injEq] at H
    obtain ⟨rfl, rfl⟩ := H; go_wp2; go_ret2
    exact ⟨er_, bel_⟩
   ·have H' := ak_ H; clear H; go_wp2; go_loopg [6, 22] kj2 (fun kq v6 v22 w' => ∃ (x6_2 : ByteArray) (x22_2 : Int), v6 = .string x6_2 ∧ v22 = .int .i64 x22_2 ∧ Aside0 (impl_TextUnder.l0 kq l0 a1 x6_2 l0 (l0.length : Int) x22_2 = some (r1, r2)) ∧ Aside0 (kq ≤ kj2) ∧ Aside0 (Below w.heap.size w w'))
    case atStart => exact ⟨((⟨#[]⟩ : ByteArray)), (0), sv_, sv_, H', ⟨Nat.le_refl _⟩, ⟨bel_⟩⟩
    case round =>
     clear H'; obtain ⟨x6_2, x22_2, rfl, rfl, HA, HK2, HB⟩ := hrel; cases gk with
     | zero => exact absurd HA.out (by simp [impl_TextUnder.l0])
     | succ k2 =>
      have H := HA.out; clear HA; simp only [impl_TextUnder.l0] at H
      replace H := ied_ H; rcases H with ⟨c10b0, H⟩ | ⟨c10b0, H⟩
      ·replace H := itd_ H; obtain ⟨c11b0, H⟩ := H; replace H := itd_ H; obtain ⟨c12b0, H⟩ := H; replace H := bnd_ H; obtain ⟨t316, A13, H⟩ := H; replace H := itb_ H; rcases H with ⟨rfl, H⟩ | ⟨rfl, H⟩
       ·replace H := itn_ H; obtain ⟨c15, H⟩ := H; have c15b0 := eq_true c15; have c15b1 := decide_eq_true c15; try have c15b2 : (9223372036854775807 < x6_2.size + ((rd_T40 l0 x22_2).f3).size) = False := eq_false (Nat.not_lt.2 c15)
        have H' := ak_ H; clear H; have p314 : (0 ≤ (x22_2 : Int)) = True := odt_
        have q314 : (x22_2 < (l0.length : Int)) = True := odt_
        obtain ⟨ad314, A314_2, c314_2, e314, hx314_0, hx314_1, hx314_2, hx314_3, hl314_2, hi314_2⟩ := at_T40 HR0.out x22_2 oda_ oda_; cases e314; replace hx314_0 := pb_ HB hx314_0; replace hx314_1 := pb_ HB hx314_1; replace hx314_2 := pb_ HB hx314_2; replace hx314_3 := pb_ HB hx314_3; have HR314_2 := ak_ hi314_2; have HC314_2 := ak_ hl314_2; clear hi314_2 hl314_2; go_wp2_with (first | ((with_reducible refine gate_dst (N := 8) rfl ?_); (try (refine gate_guard (by rfl) ?_; dsimp only)); refine bx_ (N := 8) (cs := #[.string (⟨#[]⟩ : ByteArray), .int .i64 0, .slice none 0 0, .string (⟨#[]⟩ : ByteArray)]) (t := 40) ?_; intro gb315 hg w16 hbox hb; have n_ := an4_ (below_step bel_ hb) (hbox) (gsl_ hg HB.out) (gsl_ hg HB.out); clear HB; obtain ⟨HB, BK315, GW315, GE315⟩ := n_; clear hb hbox hg; obtain ⟨z17_0, z17_1, z17_2, z17_3, y17_0, y17_1, y17_2, y17_3⟩ := bcz4 BK315.out) | ((with_reducible refine gate_callee (f := 41) rfl ?_); refine gl_ (some 30) Tryz.func41 #[.slice (some ad314) l0.length c0, .int .i64 a1, .int .i64 x22_2] ?_; (with_reducible refine (impl_isAround.calls k2 _ _ l0 a1 x22_2 true _ ?side1 ?side2 A13.out).mono ?_); (case side1 => exact Kd.C_below HR0.out bes_); (case side2 => exact HC0.out); rintro e w' ⟨rfl, ⟨nd, rfl⟩⟩; refine ⟨_, rfl, ?_⟩))
        go_roundg k2
        case measure => have := HJ2.out; have := HK2.out; omega
        case rel => exact ⟨(x6_2 ++ ((rd_T40 l0 x22_2).f3)), (wrap64 (x22_2 + 1)), sv_, sv_, H', ⟨by have := HJ2.out; have := HK2.out; omega⟩, ⟨bes_⟩⟩
       ·have H' := ak_ H; clear H; have p314 : (0 ≤ (x22_2 : Int)) = True := odt_
        have q314 : (x22_2 < (l0.length : Int)) = True := odt_
        obtain ⟨ad314, A314_2, c314_2, e314, hx314_0, hx314_1, hx314_2, hx314_3, hl314_2, hi314_2⟩ := at_T40 HR0.out x22_2 oda_ oda_; cases e314; replace hx314_0 := pb_ HB hx314_0; replace hx314_1 := pb_ HB hx314_1; replace hx314_2 := pb_ HB hx314_2; replace hx314_3 := pb_ HB hx314_3; have HR314_2 := ak_ hi314_2; have HC314_2 := ak_ hl314_2; clear hi314_2 hl314_2; go_wp2_with (first | ((with_reducible refine gate_dst (N := 8) rfl ?_); (try (refine gate_guard (by rfl) ?_; dsimp only)); refine bx_ (N := 8) (cs := #[.string (⟨#[]⟩ : ByteArray), .int .i64 0, .slice none 0 0, .string (⟨#[]⟩ : ByteArray)]) (t := 40) ?_; intro gb315 hg w18 hbox hb; have n_ := an4_ (below_step bel_ hb) (hbox) (gsl_ hg HB.out) (gsl_ hg HB.out); clear HB; obtain ⟨HB, BK315, GW315, GE315⟩ := n_; clear hb hbox hg; obtain ⟨z19_0, z19_1, z19_2, z19_3, y19_0, y19_1, y19_2, y19_3⟩ := bcz4 BK315.out) | ((with_reducible refine gate_callee (f := 41) rfl ?_); refine gl_ (some 30) Tryz.func41 #[.slice (some ad314) l0.length c0, .int .i64 a1, .int .i64 x22_2] ?_; (with_reducible refine (impl_isAround.calls k2 _ _ l0 a1 x22_2 false _ ?side1 ?side2 A13.out).mono ?_); (case side1 => exact Kd.C_below HR0.out bes_); (case side2 => exact HC0.out); rintro e w' ⟨rfl, ⟨nd, rfl⟩⟩; refine ⟨_, rfl, ?_⟩))
        go_roundg k2
        case measure => have := HJ2.out; have := HK2.out; omega
        case rel => exact ⟨(x6_2), (wrap64 (x22_2 + 1)), sv_, sv_, H', ⟨by have := HJ2.out; have := HK2.out; omega⟩, ⟨bes_⟩⟩
      ·simp only [Option.some.injEq, Prod.mk.injEq] at H
       obtain ⟨rfl, rfl⟩ := H; go_wp2; go_ret2
       exact ⟨er_, bel_⟩









/-! ### strings_Cut: function 43 -/
def laid145_ren_ : Go.Shelf.Ren := ⟨fun | 145 => 43 | 217 => 93 | 219 => 79 | 220 => 61 | 224 => 95 | 225 => 94 | 266 => 112 | 267 => 96 | 314 => 113 | n => n, fun | 46 => 115 | 51 => 128 | 59 => 66 | 146 => 129 | n => n, fun | 1 => 2 | 3 => 0 | 4 => 1 | n => n⟩
theorem laid145_ : Go.Proofs.Lays.n145 Tryz.prog laid145_ren_ := {
 mixed := by kernel_rfl
 f145 := Tryz.func43.trans (congrArg some (by kernel_rfl))
 f217 := Tryz.func93.trans (congrArg some (by kernel_rfl))
 f219 := Tryz.func79.trans (congrArg some (by kernel_rfl))
 f220 := Tryz.func61.trans (congrArg some (by kernel_rfl))
 f224 := Tryz.func95.trans (congrArg some (by kernel_rfl))
 f225 := Tryz.func94.trans (congrArg some (by kernel_rfl))
 f266 := Tryz.func112.trans (congrArg some (by kernel_rfl))
 f267 := Tryz.func96.trans (congrArg some (by kernel_rfl))
 f314 := Tryz.func113.trans (congrArg some (by kernel_rfl))
 t3 := Tryz.underlying3
 a3 := Tryz.isAgg3
 z3 := Tryz.sizeOf3
 v3 := Tryz.zeroValue3
 t4 := Tryz.underlying4
 a4 := Tryz.isAgg4
 z4 := Tryz.sizeOf4
 v4 := Tryz.zeroValue4
 t5 := Tryz.underlying5
 a5 := Tryz.isAgg5
 z5 := Tryz.sizeOf5
 v5 := Tryz.zeroValue5
 t9 := Tryz.underlying9
 a9 := Tryz.isAgg9
 z9 := Tryz.sizeOf9
 v9 := Tryz.zeroValue9
 t46 := Tryz.underlying115
 a46 := Tryz.isAgg115
 z46 := Tryz.sizeOf115
 v46 := Tryz.zeroValue115
 t51 := Tryz.underlying128
 a51 := Tryz.isAgg128
 z51 := Tryz.sizeOf128
 v51 := Tryz.zeroValue128
 t59 := Tryz.underlying66
 a59 := Tryz.isAgg66
 z59 := Tryz.sizeOf66
 v59 := Tryz.zeroValue66
 t146 := Tryz.underlying129
 a146 := Tryz.isAgg129
 z146 := Tryz.sizeOf129
 v146 := Tryz.zeroValue129
 g1 := by kernel_rfl }

def cutB (s sep : ByteArray) : ByteArray × ByteArray × Bool := (⟨(Lib.cut s.data.toList sep.data.toList).1.toArray⟩, ⟨(Lib.cut s.data.toList sep.data.toList).2.1.toArray⟩, (Lib.cut s.data.toList sep.data.toList).2.2)
def strings_Cut.f (a0 : ByteArray) (a1 : ByteArray) : Option (ByteArray × ByteArray × Bool) := if a0.size < 4294967281 then some (cutB a0 a1) else none
theorem strings_Cut.calls (a0 : ByteArray) (a1 : ByteArray) (r1 : ByteArray) (r2 : ByteArray) (r3 : Bool) (w : World) (h : strings_Cut.f a0 a1 = some (r1, r2, r3)) (hT_ : U8Tabs_ w) :
  Calls Tryz.prog 43 #[.string a0, .string a1] w fun e w' => e = .returned (.tuple #[.string r1, .string r2, .bool r3]) ∧ Drawn0 w w' := by
 unfold strings_Cut.f at h
 by_cases hs : a0.size < 4294967281
 ·rw [if_pos hs] at h; have e := Option.some.inj h; unfold cutB at e
  simp only [Prod.mk.injEq] at e
  obtain ⟨rfl, rfl, rfl⟩ := e; obtain ⟨m, hm⟩ := hT_.2; exact (Any.strings_Cut laid145_ a0 a1 m w hs (show w.cell? ⟨laid145_ren_.g 1, 0, none⟩ = _ from hm)).mono fun e w' ⟨he, hw⟩ => ⟨he, ⟨hw⟩⟩
 ·rw [if_neg hs] at h; cases h

/-! ### impl_withoutComments: function 42 -/
def impl_withoutComments.l0 : Nat → ByteArray → ByteArray → Option (ByteArray)
 | 0, _, _ => none
 | k + 1, x0, x3 => (strings_Cut.f x0 (⟨#[47, 42]⟩ : ByteArray)).bind fun bt317 => (if x3.size + bt317.1.size ≤ 9223372036854775807 then (if bt317.2.2 = true then (if (x3 ++ bt317.1).size + 1 ≤ 9223372036854775807 then ((strings_Cut.f bt317.2.1 (⟨#[42, 47]⟩ : ByteArray)).bind fun bt320 => (impl_withoutComments.l0 k bt320.2.1 ((x3 ++ bt317.1) ++ (⟨#[32]⟩ : ByteArray)))) else (none)) else (some (x3 ++ bt317.1))) else (none))
def impl_withoutComments.f (k : Nat) (a0 : ByteArray) : Option (ByteArray) := impl_withoutComments.l0 k a0 (⟨#[]⟩ : ByteArray)
theorem impl_withoutComments.calls (k : Nat) (a0 : ByteArray) (r : ByteArray) (w : World) (h : impl_withoutComments.f k a0 = some r) (hT_ : U8Tabs_ w) :
  Calls Tryz.prog 42 #[.string a0] w fun e w' => e = .returned (.string r) ∧ Drawn0 w w' := by
 have H := h; unfold impl_withoutComments.f at H
 clear h; have H' := ak_ H; clear H; go_enter Tryz.func42, Tryz.ntmps42
 go_wp2; go_loopg [0, 3] k (fun kq v0 v3 w' => ∃ (x0_1 : ByteArray) (x3_1 : ByteArray), v0 = .string x0_1 ∧ v3 = .string x3_1 ∧ Aside0 (impl_withoutComments.l0 kq x0_1 x3_1 = some r) ∧ Aside0 (kq ≤ k) ∧ Drawn0 w w')
 case atStart => exact ⟨(a0), ((⟨#[]⟩ : ByteArray)), sv_, sv_, H', ⟨Nat.le_refl _⟩, by repeat (first | exact Drawn0.refl _ | apply Drawn0.step)⟩
 case round =>
  clear H'; obtain ⟨x0_1, x3_1, rfl, rfl, HA, HK1, ⟨m1, rfl⟩⟩ := hrel; cases gk with
  | zero => exact absurd HA.out (by simp [impl_withoutComments.l0])
  | succ k1 =>
   have H := HA.out; clear HA; simp only [impl_withoutComments.l0] at H
   replace H := bnd_ H; obtain ⟨⟨t317, t318, t319⟩, A2, H⟩ := H; (try dsimp only at H); replace H := itn_ H; obtain ⟨c3, H⟩ := H; have c3b0 := eq_true c3; have c3b1 := decide_eq_true c3; try have c3b2 : (9223372036854775807 < x3_1.size + t317.size) = False := eq_false (Nat.not_lt.2 c3)
   replace H := itb_ H; rcases H with ⟨rfl, H⟩ | ⟨rfl, H⟩
   ·replace H := itn_ H; obtain ⟨c5, H⟩ := H; have c5b0 := eq_true c5; have c5b1 := decide_eq_true c5; try have c5b2 : (9223372036854775807 < (x3_1 ++ t317).size + 1) = False := eq_false (Nat.not_lt.2 c5)
    try have c5b3 : (9223372036854775807 < (x3_1.size + t317.size) + 1) = False := by have h9_ := c5b2; simp only [ByteArray.size_append] at h9_; exact h9_
    try have c5b7 : (9223372036854775807 < (x3_1.size + t317.size) + 1) = False := by have h9_ := c5b2; simp only [ByteArray.size_append] at h9_; exact h9_
    replace H := bnd_ H; obtain ⟨⟨t320, t321, t322⟩, A6, H⟩ := H; (try dsimp only at H); have H' := ak_ H; clear H; go_wp2_with (first | ((with_reducible refine gate_callee (f := 43) rfl ?_); refine gl_ (some 9) Tryz.func43 #[.string x0_1, .string (⟨#[47, 42]⟩ : ByteArray)] ?_; (with_reducible refine (strings_Cut.calls x0_1 (⟨#[47, 42]⟩ : ByteArray) t317 t318 true _ A2.out ?hT_).mono ?_); (case hT_ => first | exact hT_ | exact utf8_keep_ hT_ bel_ | exact utf8_drawn_ hT_ (by repeat (first | exact Drawn0.refl _ | apply Drawn0.step)) | exact utf8_keep_ hT_ (by repeat (first | exact Below.refl _ _ | apply below_alloc | apply pw_below_drewN | apply below_drew1))); rintro e w' ⟨rfl, ⟨nd, rfl⟩⟩; refine ⟨_, rfl, ?_⟩) | ((with_reducible refine gate_callee (f := 43) rfl ?_); refine gl_ (some 23) Tryz.func43 #[.string t318, .string (⟨#[42, 47]⟩ : ByteArray)] ?_; (with_reducible refine (strings_Cut.calls t318 (⟨#[42, 47]⟩ : ByteArray) t320 t321 t322 _ A6.out ?hT_).mono ?_); (case hT_ => first | exact hT_ | exact utf8_keep_ hT_ bel_ | exact utf8_drawn_ hT_ (by repeat (first | exact Drawn0.refl _ | apply Drawn0.step)) | exact utf8_keep_ hT_ (by repeat (first | exact Below.refl _ _ | apply below_alloc | apply pw_below_drewN | apply below_drew1))); rintro e w' ⟨rfl, ⟨nd, rfl⟩⟩; refine ⟨_, rfl, ?_⟩))
    go_roundg k1
    case measure => have := HK1.out; omega
    case rel => exact ⟨(t321), ((x3_1 ++ t317) ++ (⟨#[32]⟩ : ByteArray)), sv_, sv_, H', ⟨by have := HK1.out; omega⟩, by repeat (first | exact Drawn0.refl _ | apply Drawn0.step)⟩
   ·obtain rfl := Option.some.inj H
    go_wp2_with (first | ((with_reducible refine gate_callee (f := 43) rfl ?_); refine gl_ (some 9) Tryz.func43 #[.string x0_1, .string (⟨#[47, 42]⟩ : ByteArray)] ?_; (with_reducible refine (strings_Cut.calls x0_1 (⟨#[47, 42]⟩ : ByteArray) t317 t318 false _ A2.out ?hT_).mono ?_); (case hT_ => first | exact hT_ | exact utf8_keep_ hT_ bel_ | exact utf8_drawn_ hT_ (by repeat (first | exact Drawn0.refl _ | apply Drawn0.step)) | exact utf8_keep_ hT_ (by repeat (first | exact Below.refl _ _ | apply below_alloc | apply pw_below_drewN | apply below_drew1))); rintro e w' ⟨rfl, ⟨nd, rfl⟩⟩; refine ⟨_, rfl, ?_⟩))
    go_ret
    exact dn_







/-! ### strings_Split: function 62 -/
def strings_Split.f (a0 : ByteArray) (a1 : ByteArray) : Option (List ByteArray) := if a0.size < 4294967281 ∧ 1 ≤ a1.size then some (Lib.splitB a1 0 (Lib.countB a0 a1) a0) else none
theorem strings_Split.calls (a0 : ByteArray) (a1 : ByteArray) (r : List ByteArray) (w : World) (h : strings_Split.f a0 a1 = some r) (hT_ : U8Tabs_ w) :
  Calls Tryz.prog 62 #[.string a0, .string a1] w fun e w' => ∃ v0_ : Value, e = .returned (v0_) ∧ Kd.R Kd.string 9 w' w.heap.size (fun _ => True) v0_ r ∧ Below w.heap.size w w' := by
 unfold strings_Split.f at h
 by_cases hs : a0.size < 4294967281 ∧ 1 ≤ a1.size
 ·rw [if_pos hs] at h; obtain rfl := Option.some.inj h
  obtain ⟨m, hm⟩ := hT_.2; have hle := Lib.countB_le a1 hs.2 a0.size a0 (Nat.le_refl _); have hlen := Lib.splitB_all a1 hs.2 0 _ a0 rfl; have hs1 := hs.1; refine (Any.strings_Split laid146_ (by kernel_rfl) a0 a1 m w hs.1 hm hs.2).mono fun e w' ⟨he, hw⟩ => ⟨_, he, ?_, by rw [hw]; exact below_alloc (Below.refl _ _) _⟩
  subst hw; refine Kd.R_of_own ?_ (fun _ _ => trivial)
  refine ⟨by simp [encs], .inr ⟨w.heap.size, Lib.countB a0 a1 + 1, ((Lib.splitB a1 0 (Lib.countB a0 a1) a0).map Value.string).toArray, by rw [hlen], Nat.le_refl _, blk_new _ _, by omega, by unfold maxLen; omega, by simp [hlen], ?_⟩⟩
  rw [List.toList_toArray, List.take_of_length_le (by simp)]
  rfl
 ·rw [if_neg hs] at h; cases h


/-! ### impl_fields: function 81 -/
def laid229_ren_ : Go.Shelf.Ren := ⟨fun | 229 => 100 | n => n, fun | 31 => 92 | 40 => 123 | 152 => 131 | 154 => 133 | n => n, fun | 1 => 2 | 3 => 0 | 4 => 1 | n => n⟩
theorem laid229_ : Go.Proofs.Lays.n229 Tryz.prog laid229_ren_ := {
 mixed := by kernel_rfl
 f229 := Tryz.func100.trans (congrArg some (by kernel_rfl))
 t0 := Tryz.underlying0
 a0 := Tryz.isAgg0
 z0 := Tryz.sizeOf0
 v0 := Tryz.zeroValue0
 t3 := Tryz.underlying3
 a3 := Tryz.isAgg3
 z3 := Tryz.sizeOf3
 v3 := Tryz.zeroValue3
 t4 := Tryz.underlying4
 a4 := Tryz.isAgg4
 z4 := Tryz.sizeOf4
 v4 := Tryz.zeroValue4
 t9 := Tryz.underlying9
 a9 := Tryz.isAgg9
 z9 := Tryz.sizeOf9
 v9 := Tryz.zeroValue9
 t21 := Tryz.underlying21
 a21 := Tryz.isAgg21
 z21 := Tryz.sizeOf21
 v21 := Tryz.zeroValue21
 t31 := Tryz.underlying92
 a31 := Tryz.isAgg92
 z31 := Tryz.sizeOf92
 v31 := Tryz.zeroValue92
 t40 := Tryz.underlying123
 a40 := Tryz.isAgg123
 z40 := Tryz.sizeOf123
 v40 := Tryz.zeroValue123
 t152 := Tryz.underlying131
 a152 := Tryz.isAgg131
 z152 := Tryz.sizeOf131
 v152 := Tryz.zeroValue131
 t154 := Tryz.underlying133
 a154 := Tryz.isAgg133
 z154 := Tryz.sizeOf133
 v154 := Tryz.zeroValue133 }

/-- a blank, as a rune. -/
def blankR (x : Nat) : Bool := x == 9 || x == 10 || x == 13 || x == 32
set_option maxHeartbeats 1000000 in
set_option maxRecDepth 100000 in
theorem blank_call_ (x : Nat) (W : World) : Calls Tryz.prog 102 #[.int .u8 (x : Int)] W fun e w' => e = .returned (.bool (blankR x)) ∧ Drawn0 W w' := by
 by_cases h1 : x = 9
 ·subst h1; go_enter Tryz.func102, Tryz.ntmps102
  go_wp2; go_ret
  exact ⟨rfl, by repeat (first | exact Drawn0.refl _ | apply Drawn0.step)⟩
 by_cases h2 : x = 10
 ·subst h2; go_enter Tryz.func102, Tryz.ntmps102
  go_wp2; go_ret
  exact ⟨rfl, by repeat (first | exact Drawn0.refl _ | apply Drawn0.step)⟩
 by_cases h3 : x = 13
 ·subst h3; go_enter Tryz.func102, Tryz.ntmps102
  go_wp2; go_ret
  exact ⟨rfl, by repeat (first | exact Drawn0.refl _ | apply Drawn0.step)⟩
 by_cases h4 : x = 32
 ·subst h4; go_enter Tryz.func102, Tryz.ntmps102
  go_wp2; go_ret
  exact ⟨rfl, by repeat (first | exact Drawn0.refl _ | apply Drawn0.step)⟩
 have hf : blankR x = false := by
  unfold blankR
  rw [beq_eq_false_iff_ne.mpr h1, beq_eq_false_iff_ne.mpr h2, beq_eq_false_iff_ne.mpr h3, beq_eq_false_iff_ne.mpr h4]
  rfl
 rw [hf]
 have b1 : ((x : Int) == 9) = false := beq_eq_false_iff_ne.mpr (by omega)
 have b2 : ((x : Int) == 10) = false := beq_eq_false_iff_ne.mpr (by omega)
 have b3 : ((x : Int) == 13) = false := beq_eq_false_iff_ne.mpr (by omega)
 have b4 : ((x : Int) == 32) = false := beq_eq_false_iff_ne.mpr (by omega)
 clear hf h1 h2 h3 h4; go_enter Tryz.func102, Tryz.ntmps102
 go_wp2; go_ret
 exact ⟨by first | rfl | (simp [*]; done), by repeat (first | exact Drawn0.refl _ | apply Drawn0.step)⟩
set_option maxHeartbeats 1000000 in
set_option maxRecDepth 100000 in
theorem fields_pred_ (w : World) : PredAtRunes Tryz.prog 101 #[] blankR w := by
 intro W x hx hb; show Calls Tryz.prog 101 #[.int .i32 (x : Int)] W _
 by_cases h128 : x < 128
 ·have c : ∀ W' : World, Calls Tryz.prog 102 #[.int .u8 (x : Int)] W' fun e w' => e = .returned (.bool (blankR x)) ∧ Drawn0 W' w' := fun W' => blank_call_ x W'
  generalize blankR x = b at c ⊢
  have q1 : decide ((x : Int) < 128) = true := decide_eq_true (by omega)
  have q2 : IntKind.u8.wrap (x : Int) = (x : Int) := by show (x : Int) % 256 = x; omega
  have q3 : (x : Int) % 256 = (x : Int) := by omega
  clear hb hx h128; go_enter Tryz.func101, Tryz.ntmps101
  go_wp2_with (first | (go_at_call 102; (with_reducible refine (c _).mono ?_); rintro e w' ⟨rfl, ⟨nd, rfl⟩⟩))
  go_ret
  exact ⟨rfl, _, rfl⟩
 ·have hf : blankR x = false := by
   unfold blankR
   rw [beq_eq_false_iff_ne.mpr (by omega : x ≠ 9), beq_eq_false_iff_ne.mpr (by omega : x ≠ 10), beq_eq_false_iff_ne.mpr (by omega : x ≠ 13), beq_eq_false_iff_ne.mpr (by omega : x ≠ 32)]
   rfl
  rw [hf]
  have q1 : decide ((x : Int) < 128) = false := decide_eq_false (by omega)
  clear hf hb; go_enter Tryz.func101, Tryz.ntmps101
  go_wp2; go_ret
  exact ⟨rfl, 0, rfl⟩
def impl_fields.f (a0 : ByteArray) : Option (List ByteArray) := if a0.size ≤ 4294967296 then some (Lib.goFieldsP blankR a0) else none
set_option maxHeartbeats 1000000 in
set_option maxRecDepth 100000 in
theorem impl_fields.calls (a0 : ByteArray) (r : List ByteArray) (w : World) (h : impl_fields.f a0 = some r) :
  Calls Tryz.prog 81 #[.string a0] w fun e w' => ∃ v0_ : Value, e = .returned (v0_) ∧ Kd.R Kd.string 9 w' w.heap.size (fun _ => True) v0_ r ∧ Below w.heap.size w w' := by
 unfold impl_fields.f at h
 by_cases hs : a0.size ≤ 4294967296
 ·rw [if_pos hs] at h; obtain rfl := Option.some.inj h
  clear h; have cF : Calls Tryz.prog 100 #[.string a0, .func (.func 101) #[] #[]] w _ := Any.strings_FieldsFunc_runes laid229_ 101 #[] (enters_of Tryz.func101 (by kernel_rfl) rfl) blankR a0 w hs (fields_pred_ w) (by kernel_rfl) (by kernel_rfl)
  generalize Lib.goFieldsP blankR a0 = FS at cF ⊢
  go_enter Tryz.func81, Tryz.ntmps81
  go_wp2_with (go_at_call 100; refine cF.mono ?_; rintro e w' ⟨A, rfl, hA, hown, hb⟩)
  go_ret
  exact ⟨_, rfl, Kd.R_of_own hown (fun _ _ => trivial), hb⟩
 ·rw [if_neg hs] at h; cases h

/-! ### impl_wordEnd: function 104 -/
mutual
def impl_wordEnd.j0 : Nat → ByteArray → Int → Bool → Option (Int)
 | 0, _, _, _ => none
 | k + 1, x0, x1, x14 => if x14 = true then (some x1) else (impl_wordEnd.l0 k x0 x1)
def impl_wordEnd.l0 : Nat → ByteArray → Int → Option (Int)
 | 0, _, _ => none
 | k + 1, x0, x1 => if x1 < (x0.size : Int) then (if 0 ≤ x1 then ((impl_isLetter.f (bt x0 x1)).bind fun t324 => (if t324 = true then (impl_wordEnd.l0 k x0 (wrap64 (x1 + 1))) else ((impl_isDigit.f (bt x0 x1)).bind fun t325 => (if t325 = true then (impl_wordEnd.l0 k x0 (wrap64 (x1 + 1))) else (if (bt x0 x1) = 95 then (impl_wordEnd.l0 k x0 (wrap64 (x1 + 1))) else (if (bt x0 x1) = 45 then (impl_wordEnd.l0 k x0 (wrap64 (x1 + 1))) else (some x1))))))) else (none)) else (some x1)
end
def impl_wordEnd.f (k : Nat) (a0 : ByteArray) (a1 : Int) : Option (Int) := if a1 < (a0.size : Int) then (if 0 ≤ a1 then ((impl_isDigit.f (bt a0 a1)).bind fun t323 => (impl_wordEnd.j0 k a0 a1 t323)) else (none)) else (impl_wordEnd.j0 k a0 a1 false)
theorem impl_wordEnd.calls (k : Nat) (a0 : ByteArray) (a1 : Int) (r : Int) (w : World) (h : impl_wordEnd.f k a0 a1 = some r) :
  Calls Tryz.prog 104 #[.string a0, .int .i64 a1] w fun e w' => e = .returned (.int .i64 r) ∧ Drawn0 w w' := by
 have H := h; unfold impl_wordEnd.f at H
 clear h; have HC3 := ak_ H; clear H; go_enter Tryz.func104, Tryz.ntmps104
 go_upto_region 1 with (fail)
 go_cut [14] (fun v14 wc => ∃ (kq : Nat) (x14_2 : Bool), v14 = .bool x14_2 ∧ Aside0 (impl_wordEnd.j0 kq a0 a1 x14_2 = some r) ∧ Aside0 (kq ≤ k) ∧ Drawn0 w wc)
 case first =>
  have H := HC3.out; clear HC3; replace H := ied_ H; rcases H with ⟨c4b0, H⟩ | ⟨c4b0, H⟩
  ·(first | rw [c4b0] | (simp only [i64_w, i32_w]; rw [c4b0]) | skip)
   replace H := itd_ H; obtain ⟨c5b0, H⟩ := H; replace H := bnd_ H; obtain ⟨t323, A7, H⟩ := H; have H' := ak_ H; clear H; have p6 : 0 ≤ (a1 : Int) := oda_
   have q6 : a1 < (a0.size : Int) := oda_
   have hx6 := bt_at a0 a1; replace p6 := eq_true p6; replace q6 := eq_true q6; go_wp2_with (first | (go_at_call 78; (with_reducible refine (impl_isDigit.calls (bt a0 a1) t323 _ A7.out).mono ?_); rintro e w' ⟨rfl, ⟨nd, rfl⟩⟩))
   go_meet
   case rel => exact ⟨_, (t323), sv_, H', ⟨by first | omega | exact Nat.le_refl _⟩, by repeat (first | exact Drawn0.refl _ | apply Drawn0.step)⟩
  ·(first | rw [c4b0] | (simp only [i64_w, i32_w]; rw [c4b0]) | skip)
   have H' := ak_ H; clear H; go_wp2; go_meet
   case rel => exact ⟨_, (false), sv_, H', ⟨by first | omega | exact Nat.le_refl _⟩, by repeat (first | exact Drawn0.refl _ | apply Drawn0.step)⟩
 case rest =>
  clear HC3; obtain ⟨kq, x14_2, rfl, HA, HJ2, ⟨mc2, rfl⟩⟩ := hcut; cases kq with
  | zero => exact absurd HA.out (by simp [impl_wordEnd.j0])
  | succ kj2 =>
   have H := HA.out; clear HA; simp only [impl_wordEnd.j0] at H
   replace H := itb_ H; rcases H with ⟨rfl, H⟩ | ⟨rfl, H⟩
   ·obtain rfl := Option.some.inj H
    go_wp2; go_ret
    exact dn_
   ·have H' := ak_ H; clear H; go_wp2; go_loopg [1] kj2 (fun kq v1 w' => ∃ (x1_2 : Int), v1 = .int .i64 x1_2 ∧ Aside0 (impl_wordEnd.l0 kq a0 x1_2 = some r) ∧ Aside0 (kq ≤ kj2) ∧ Drawn0 w w')
    case atStart => exact ⟨(a1), sv_, H', ⟨Nat.le_refl _⟩, by repeat (first | exact Drawn0.refl _ | apply Drawn0.step)⟩
    case round =>
     clear H'; obtain ⟨x1_2, rfl, HA, HK2, ⟨m2, rfl⟩⟩ := hrel; cases gk with
     | zero => exact absurd HA.out (by simp [impl_wordEnd.l0])
     | succ k2 =>
      have H := HA.out; clear HA; simp only [impl_wordEnd.l0] at H
      replace H := ied_ H; rcases H with ⟨c9b0, H⟩ | ⟨c9b0, H⟩
      ·replace H := itd_ H; obtain ⟨c10b0, H⟩ := H; replace H := bnd_ H; obtain ⟨t324, A12, H⟩ := H; replace H := itb_ H; rcases H with ⟨rfl, H⟩ | ⟨rfl, H⟩
       ·have H' := ak_ H; clear H; have p11 : 0 ≤ (x1_2 : Int) := oda_
        have q11 : x1_2 < (a0.size : Int) := oda_
        have hx11 := bt_at a0 x1_2; replace p11 := eq_true p11; replace q11 := eq_true q11; go_wp2_with (first | (go_at_call 92; (with_reducible refine (impl_isLetter.calls (bt a0 x1_2) true _ A12.out).mono ?_); rintro e w' ⟨rfl, ⟨nd, rfl⟩⟩))
        go_roundg k2
        case measure => have := HJ2.out; have := HK2.out; omega
        case rel => exact ⟨(wrap64 (x1_2 + 1)), sv_, H', ⟨by have := HJ2.out; have := HK2.out; omega⟩, by repeat (first | exact Drawn0.refl _ | apply Drawn0.step)⟩
       ·replace H := bnd_ H; obtain ⟨t325, A15, H⟩ := H; replace H := itb_ H; rcases H with ⟨rfl, H⟩ | ⟨rfl, H⟩
        ·have H' := ak_ H; clear H; have p11 : 0 ≤ (x1_2 : Int) := oda_
         have q11 : x1_2 < (a0.size : Int) := oda_
         have hx11 := bt_at a0 x1_2; replace p11 := eq_true p11; replace q11 := eq_true q11; go_wp2_with (first | (go_at_call 92; (with_reducible refine (impl_isLetter.calls (bt a0 x1_2) false _ A12.out).mono ?_); rintro e w' ⟨rfl, ⟨nd, rfl⟩⟩; have p14 : 0 ≤ (x1_2 : Int) := oda_; have q14 : x1_2 < (a0.size : Int) := oda_; have hx14 := bt_at a0 x1_2; replace p14 := eq_true p14; replace q14 := eq_true q14) | (go_at_call 78; (with_reducible refine (impl_isDigit.calls (bt a0 x1_2) true _ A15.out).mono ?_); rintro e w' ⟨rfl, ⟨nd, rfl⟩⟩))
         go_roundg k2
         case measure => have := HJ2.out; have := HK2.out; omega
         case rel => exact ⟨(wrap64 (x1_2 + 1)), sv_, H', ⟨by have := HJ2.out; have := HK2.out; omega⟩, by repeat (first | exact Drawn0.refl _ | apply Drawn0.step)⟩
        ·replace H := ite_ H; rcases H with ⟨c18, H⟩ | ⟨c18, H⟩
         ·have c18b0 := beq_iff_eq.mpr c18; have c18b1 := bne_eq_false_iff_eq.mpr c18; clear c18; have H' := ak_ H; clear H; have p11 : 0 ≤ (x1_2 : Int) := oda_
          have q11 : x1_2 < (a0.size : Int) := oda_
          have hx11 := bt_at a0 x1_2; replace p11 := eq_true p11; replace q11 := eq_true q11; go_wp2_with (first | (go_at_call 92; (with_reducible refine (impl_isLetter.calls (bt a0 x1_2) false _ A12.out).mono ?_); rintro e w' ⟨rfl, ⟨nd, rfl⟩⟩; have p14 : 0 ≤ (x1_2 : Int) := oda_; have q14 : x1_2 < (a0.size : Int) := oda_; have hx14 := bt_at a0 x1_2; replace p14 := eq_true p14; replace q14 := eq_true q14) | (go_at_call 78; (with_reducible refine (impl_isDigit.calls (bt a0 x1_2) false _ A15.out).mono ?_); rintro e w' ⟨rfl, ⟨nd, rfl⟩⟩; have p17 : 0 ≤ (x1_2 : Int) := oda_; have q17 : x1_2 < (a0.size : Int) := oda_; have hx17 := bt_at a0 x1_2; replace p17 := eq_true p17; replace q17 := eq_true q17))
          go_roundg k2
          case measure => have := HJ2.out; have := HK2.out; omega
          case rel => exact ⟨(wrap64 (x1_2 + 1)), sv_, H', ⟨by have := HJ2.out; have := HK2.out; omega⟩, by repeat (first | exact Drawn0.refl _ | apply Drawn0.step)⟩
         ·have c18b0 := beq_eq_false_iff_ne.mpr c18; have c18b1 := bne_iff_ne.mpr c18; replace H := ite_ H; rcases H with ⟨c20, H⟩ | ⟨c20, H⟩
          ·have c20b0 := beq_iff_eq.mpr c20; have c20b1 := bne_eq_false_iff_eq.mpr c20; clear c20; have H' := ak_ H; clear H; have p11 : 0 ≤ (x1_2 : Int) := oda_
           have q11 : x1_2 < (a0.size : Int) := oda_
           have hx11 := bt_at a0 x1_2; replace p11 := eq_true p11; replace q11 := eq_true q11; go_wp2_with (first | (go_at_call 92; (with_reducible refine (impl_isLetter.calls (bt a0 x1_2) false _ A12.out).mono ?_); rintro e w' ⟨rfl, ⟨nd, rfl⟩⟩; have p14 : 0 ≤ (x1_2 : Int) := oda_; have q14 : x1_2 < (a0.size : Int) := oda_; have hx14 := bt_at a0 x1_2; replace p14 := eq_true p14; replace q14 := eq_true q14) | (go_at_call 78; (with_reducible refine (impl_isDigit.calls (bt a0 x1_2) false _ A15.out).mono ?_); rintro e w' ⟨rfl, ⟨nd, rfl⟩⟩; have p17 : 0 ≤ (x1_2 : Int) := oda_; have q17 : x1_2 < (a0.size : Int) := oda_; have hx17 := bt_at a0 x1_2; replace p17 := eq_true p17; replace q17 := eq_true q17; have p19 : 0 ≤ (x1_2 : Int) := oda_; have q19 : x1_2 < (a0.size : Int) := oda_; have hx19 := bt_at a0 x1_2; replace p19 := eq_true p19; replace q19 := eq_true q19))
           go_roundg k2
           case measure => have := HJ2.out; have := HK2.out; omega
           case rel => exact ⟨(wrap64 (x1_2 + 1)), sv_, H', ⟨by have := HJ2.out; have := HK2.out; omega⟩, by repeat (first | exact Drawn0.refl _ | apply Drawn0.step)⟩
          ·have c20b0 := beq_eq_false_iff_ne.mpr c20; have c20b1 := bne_iff_ne.mpr c20; obtain rfl := Option.some.inj H
           have p11 : 0 ≤ (x1_2 : Int) := oda_
           have q11 : x1_2 < (a0.size : Int) := oda_
           have hx11 := bt_at a0 x1_2; replace p11 := eq_true p11; replace q11 := eq_true q11; go_wp2_with (first | (go_at_call 92; (with_reducible refine (impl_isLetter.calls (bt a0 x1_2) false _ A12.out).mono ?_); rintro e w' ⟨rfl, ⟨nd, rfl⟩⟩; have p14 : 0 ≤ (x1_2 : Int) := oda_; have q14 : x1_2 < (a0.size : Int) := oda_; have hx14 := bt_at a0 x1_2; replace p14 := eq_true p14; replace q14 := eq_true q14) | (go_at_call 78; (with_reducible refine (impl_isDigit.calls (bt a0 x1_2) false _ A15.out).mono ?_); rintro e w' ⟨rfl, ⟨nd, rfl⟩⟩; have p17 : 0 ≤ (x1_2 : Int) := oda_; have q17 : x1_2 < (a0.size : Int) := oda_; have hx17 := bt_at a0 x1_2; replace p17 := eq_true p17; replace q17 := eq_true q17; have p19 : 0 ≤ (x1_2 : Int) := oda_; have q19 : x1_2 < (a0.size : Int) := oda_; have hx19 := bt_at a0 x1_2; replace p19 := eq_true p19; replace q19 := eq_true q19))
           go_ret
           exact dn_
      ·obtain rfl := Option.some.inj H
       go_wp2; go_ret
       exact dn_

/-! ### impl_isWord: function 87 -/
def impl_isWord.f (k : Nat) (a0 : ByteArray) : Option (Bool) := (impl_within.f (a0.size : Int) 1 30).bind fun t326 => (if t326 = true then ((impl_wordEnd.f k a0 0).bind fun t327 => (some (t327 == (a0.size : Int)))) else (some false))
theorem impl_isWord.calls (k : Nat) (a0 : ByteArray) (r : Bool) (w : World) (h : impl_isWord.f k a0 = some r) :
  Calls Tryz.prog 87 #[.string a0] w fun e w' => e = .returned (.bool r) ∧ Drawn0 w w' := by
 have H := h; unfold impl_isWord.f at H
 clear h; replace H := bnd_ H; obtain ⟨t326, A2, H⟩ := H; replace H := itb_ H; rcases H with ⟨rfl, H⟩ | ⟨rfl, H⟩
 ·replace H := bnd_ H; obtain ⟨t327, A4, H⟩ := H; obtain rfl := Option.some.inj H
  go_enter Tryz.func87, Tryz.ntmps87
  go_wp2_with (first | ((with_reducible refine gate_callee (f := 37) rfl ?_); refine gl_ (some 5) Tryz.func37 #[.int .i64 (a0.size : Int), .int .i64 1, .int .i64 30] ?_; (with_reducible refine (impl_within.calls (a0.size : Int) 1 30 true _ A2.out).mono ?_); rintro e w' ⟨rfl, ⟨nd, rfl⟩⟩; refine ⟨_, rfl, ?_⟩) | (go_at_call 104; (with_reducible refine (impl_wordEnd.calls k a0 0 t327 _ A4.out).mono ?_); rintro e w' ⟨rfl, ⟨nd, rfl⟩⟩))
  go_ret
  exact dn_
 ·obtain rfl := Option.some.inj H
  go_enter Tryz.func87, Tryz.ntmps87
  go_wp2_with (first | ((with_reducible refine gate_callee (f := 37) rfl ?_); refine gl_ (some 5) Tryz.func37 #[.int .i64 (a0.size : Int), .int .i64 1, .int .i64 30] ?_; (with_reducible refine (impl_within.calls (a0.size : Int) 1 30 false _ A2.out).mono ?_); rintro e w' ⟨rfl, ⟨nd, rfl⟩⟩; refine ⟨_, rfl, ?_⟩))
  go_ret
  exact dn_

/-! ### stringslite_HasPrefix: function 116 -/
def stringslite_HasPrefix.f (a0 : ByteArray) (a1 : ByteArray) : Option (Bool) := if (a0.size : Int) ≥ (a1.size : Int) then (if 0 ≤ (a1.size : Int) then (if (a1.size : Int) ≤ (a0.size : Int) then (some ((a0.extract 0 ((a1.size : Int) : Int).toNat).toList == a1.toList)) else (none)) else (none)) else (some false)
theorem stringslite_HasPrefix.calls (a0 : ByteArray) (a1 : ByteArray) (r : Bool) (w : World) (h : stringslite_HasPrefix.f a0 a1 = some r) :
  Calls Tryz.prog 116 #[.string a0, .string a1] w fun e w' => e = .returned (.bool r) ∧ Drawn0 w w' := by
 have H := h; unfold stringslite_HasPrefix.f at H
 clear h; replace H := ite_ H; rcases H with ⟨c3, H⟩ | ⟨c3, H⟩
 ·have c3b0 := decide_eq_true c3; have c3b1 : decide (a1.size ≤ a0.size) = true := decide_eq_true (Int.ofNat_le.mp c3)
  clear c3; replace H := itn_ H; obtain ⟨c4, H⟩ := H; have c4b0 := eq_true c4; have c4b1 := decide_eq_true c4; clear c4; replace H := itn_ H; obtain ⟨c5, H⟩ := H; have c5b0 := eq_true c5; have c5b1 := decide_eq_true c5; clear c5; obtain rfl := Option.some.inj H
  go_enter Tryz.func116, Tryz.ntmps116
  go_wp2; go_ret
  exact dn_
 ·have c3b0 := decide_eq_false c3; have c3b1 : decide (a1.size ≤ a0.size) = false := decide_eq_false (fun h => c3 (Int.ofNat_le.mpr h))
  clear c3; obtain rfl := Option.some.inj H
  go_enter Tryz.func116, Tryz.ntmps116
  go_wp2; go_ret
  exact dn_

/-! ### strings_HasPrefix: function 103 -/
def strings_HasPrefix.f (a0 : ByteArray) (a1 : ByteArray) : Option (Bool) := (stringslite_HasPrefix.f a0 a1).bind fun t328 => (some t328)
theorem strings_HasPrefix.calls (a0 : ByteArray) (a1 : ByteArray) (r : Bool) (w : World) (h : strings_HasPrefix.f a0 a1 = some r) :
  Calls Tryz.prog 103 #[.string a0, .string a1] w fun e w' => e = .returned (.bool r) ∧ Drawn0 w w' := by
 have H := h; unfold strings_HasPrefix.f at H
 clear h; replace H := bnd_ H; obtain ⟨t328, A3, H⟩ := H; obtain rfl := Option.some.inj H
 go_enter Tryz.func103, Tryz.ntmps103
 go_wp2_with (first | ((with_reducible refine gate_callee (f := 116) rfl ?_); refine gl_ (some 7) Tryz.func116 #[.string a0, .string a1] ?_; (with_reducible refine (stringslite_HasPrefix.calls a0 a1 t328 _ A3.out).mono ?_); rintro e w' ⟨rfl, ⟨nd, rfl⟩⟩; refine ⟨_, rfl, ?_⟩))
 go_ret
 exact dn_

/-! ### impl_isPart: function 105 -/
mutual
def impl_isPart.l0 : Nat → List ByteArray → Int → Int → ByteArray → ByteArray → List ByteArray → Option (Bool)
 | 0, _, _, _, _, _, _ => none
 | k + 1, x6, x7, x8, x330000, x330001, x330002 => if x8 < x7 then (if 0 ≤ x8 then (if x8 < (x6.length : Int) then ((impl_isWord.f k (rdOf ByteArray.empty x6 x8)).bind fun t331 => (if t331 = true then (impl_isPart.l0 k x6 x7 (wrap64 (x8 + 1)) x330000 x330001 x330002) else (some false))) else (none)) else (none)) else (if x330000.toList = ([] : List UInt8) then (if x330001.toList = ([] : List UInt8) then (if (x330002.length : Int) = 0 then (impl_isPart.j1 k true x330000 x330001 x330002) else (impl_isPart.j1 k (decide ((x330002.length : Int) > 4)) x330000 x330001 x330002)) else (impl_isPart.j1 k (decide ((x330002.length : Int) > 4)) x330000 x330001 x330002)) else (impl_isPart.j1 k (decide ((x330002.length : Int) > 4)) x330000 x330001 x330002))
def impl_isPart.j1 : Nat → Bool → ByteArray → ByteArray → List ByteArray → Option (Bool)
 | 0, _, _, _, _ => none
 | k + 1, x35, x330000, x330001, x330002 => if x35 = true then (some false) else (if x330000.toList = ([] : List UInt8) then (if x330001.toList = ([] : List UInt8) then (some true) else ((impl_isWord.f k x330001).bind fun t332 => (some t332))) else (if x330000.toList = ([42] : List UInt8) then (if x330001.toList = ([] : List UInt8) then (some true) else ((impl_isWord.f k x330001).bind fun t333 => (some t333))) else ((impl_isWord.f k x330000).bind fun t334 => (if t334 = true then (if x330001.toList = ([] : List UInt8) then (some true) else ((impl_isWord.f k x330001).bind fun t335 => (some t335))) else (some false)))))
end
def impl_isPart.f (k : Nat) (a0_0 : ByteArray) (a0_1 : ByteArray) (l0_2 : List ByteArray) : Option (Bool) := impl_isPart.l0 k l0_2 (l0_2.length : Int) 0 a0_0 a0_1 l0_2
theorem impl_isPart.calls (k : Nat) (a0_0 : ByteArray) (a0_1 : ByteArray) (A0_2 : Option Addr) (c0_2 : Nat) (l0_2 : List ByteArray) (r : Bool) (w : World) (hr0_2 : Kd.C Kd.string w A0_2 l0_2.length l0_2) (hc0_2 : l0_2.length ≤ c0_2) (h : impl_isPart.f k a0_0 a0_1 l0_2 = some r) :
  Calls Tryz.prog 105 #[.agg #[.string a0_0, .string a0_1, .slice A0_2 l0_2.length c0_2]] w fun e w' => e = .returned (.bool r) ∧ Below w.heap.size w w' := by
 have hu102 := Tryz.underlying102; have HR0_2 := ak_ hr0_2; have HC0_2 := ak_ hc0_2; clear hr0_2 hc0_2; have HB := ak_ (Below.refl w.heap.size w); have H := h; unfold impl_isPart.f at H
 clear h; have H' := ak_ H; clear H; go_enter Tryz.func105, Tryz.ntmps105
 go_wp2_with (first | ((with_reducible refine gate_dst (N := 1) rfl ?_); (try (refine gate_guard (by rfl) ?_; dsimp only)); refine bx_ (N := 1) (cs := #[.string a0_0, .string a0_1, .slice A0_2 l0_2.length c0_2]) (t := 102) ?_; intro gb329 hg w2 hbox hb; have n_ := an4_ (below_step bel_ hb) (hbox) (gsl_ hg HB.out) (gsl_ hg HB.out); clear HB; obtain ⟨HB, BK329, GW329, GE329⟩ := n_; clear hb hbox hg; obtain ⟨z3_0, z3_1, z3_2, y3_0, y3_1, y3_2⟩ := bcz3 BK329.out))
 go_loopg [8] k (fun kq v8 w' => ∃ (x8_1 : Int), v8 = .int .i64 x8_1 ∧ Aside0 (impl_isPart.l0 kq l0_2 (l0_2.length : Int) x8_1 a0_0 a0_1 l0_2 = some r) ∧ Aside0 (kq ≤ k) ∧ Aside0 (w'.heap[gb329]? = some (.cells #[.string a0_0, .string a0_1, (.slice A0_2 l0_2.length c0_2)] 102 (0, 0))) ∧ Aside0 (Below w.heap.size w w'))
 case atStart => exact ⟨(0), sv_, H', ⟨Nat.le_refl _⟩, ⟨bp_ BK329.out⟩, ⟨bes_⟩⟩
 case round =>
  clear H'; (try clear z3_0);(try clear z3_1);(try clear z3_2);(try clear y3_0);(try clear y3_1);(try clear y3_2)
  obtain ⟨x8_1, rfl, HA, HK1, BK329, HB⟩ := hrel; cases gk with
  | zero => exact absurd HA.out (by simp [impl_isPart.l0])
  | succ k1 =>
   have H := HA.out; clear HA; simp only [impl_isPart.l0] at H
   replace H := ied_ H; rcases H with ⟨c4b0, H⟩ | ⟨c4b0, H⟩
   ·replace H := itd_ H; obtain ⟨c5b0, H⟩ := H; replace H := itd_ H; obtain ⟨c6b0, H⟩ := H; replace H := bnd_ H; obtain ⟨t331, A7, H⟩ := H; replace H := itb_ H; rcases H with ⟨rfl, H⟩ | ⟨rfl, H⟩
    ·have H' := ak_ H; clear H; have p330 : 0 ≤ (x8_1 : Int) := oda_
     have q330 : x8_1 < (l0_2.length : Int) := oda_
     obtain ⟨ad330, e330, hx330_0⟩ := Kd.at_string HR0_2.out x8_1 p330 q330; cases e330; replace hx330_0 := pb_ HB hx330_0; replace p330 := eq_true p330; replace q330 := eq_true q330; go_wp2_with (first | ((with_reducible refine gate_callee (f := 87) rfl ?_); refine gl_ (some 13) Tryz.func87 #[.string (rdOf ByteArray.empty l0_2 x8_1)] ?_; (with_reducible refine (impl_isWord.calls k1 (rdOf ByteArray.empty l0_2 x8_1) true _ A7.out).mono ?_); rintro e w' ⟨rfl, ⟨nd, rfl⟩⟩; refine ⟨_, rfl, ?_⟩))
     go_roundg k1
     case measure => have := HK1.out; omega
     case rel => exact ⟨(wrap64 (x8_1 + 1)), sv_, H', ⟨by have := HK1.out; omega⟩, ⟨bp_ BK329.out⟩, ⟨bes_⟩⟩
    ·obtain rfl := Option.some.inj H
     have p330 : 0 ≤ (x8_1 : Int) := oda_
     have q330 : x8_1 < (l0_2.length : Int) := oda_
     obtain ⟨ad330, e330, hx330_0⟩ := Kd.at_string HR0_2.out x8_1 p330 q330; cases e330; replace hx330_0 := pb_ HB hx330_0; replace p330 := eq_true p330; replace q330 := eq_true q330; go_wp2_with (first | ((with_reducible refine gate_callee (f := 87) rfl ?_); refine gl_ (some 13) Tryz.func87 #[.string (rdOf ByteArray.empty l0_2 x8_1)] ?_; (with_reducible refine (impl_isWord.calls k1 (rdOf ByteArray.empty l0_2 x8_1) false _ A7.out).mono ?_); rintro e w' ⟨rfl, ⟨nd, rfl⟩⟩; refine ⟨_, rfl, ?_⟩))
     go_ret
     exact ⟨er_, bes_⟩
   ·have HC9 := ak_ H; clear H; go_upto_region 7 with (fail)
    go_cut [35] (fun v35 wc => ∃ (kq : Nat) (x35_8 : Bool), v35 = .bool x35_8 ∧ Aside0 (impl_isPart.j1 kq x35_8 a0_0 a0_1 l0_2 = some r) ∧ Aside0 (kq ≤ k1) ∧ Aside0 (wc.heap[gb329]? = some (.cells #[.string a0_0, .string a0_1, (.slice A0_2 l0_2.length c0_2)] 102 (0, 0))) ∧ Aside0 (Below w.heap.size w wc))
    case first =>
     have H := HC9.out; clear HC9; replace H := ite_ H; rcases H with ⟨c10, H⟩ | ⟨c10, H⟩
     ·obtain ⟨c10b0, c10b7, c10b8, c10b1⟩ := emp1_ c10; clear c10; (first | rw [c10b0] | simp only [c10b7, Bool.not_true, Bool.not_false] | (simp only [i64_w, i32_w]; rw [c10b0]) | skip)
      replace H := ite_ H; rcases H with ⟨c11, H⟩ | ⟨c11, H⟩
      ·obtain ⟨c11b0, c11b7, c11b8, c11b1⟩ := emp1_ c11; clear c11; replace H := ite_ H; rcases H with ⟨c12, H⟩ | ⟨c12, H⟩
       ·have c12b0 := beq_iff_eq.mpr c12; have c12b1 := bne_eq_false_iff_eq.mpr c12; clear c12; have H' := ak_ H; clear H; obtain ⟨z13_0, z13_1, z13_2, y13_0, y13_1, y13_2⟩ := bcz3 BK329.out; go_wp2; go_meet
        case rel => exact ⟨_, (true), sv_, H', ⟨by have := HK1.out; first | omega | exact Nat.le_refl _⟩, ⟨bp_ BK329.out⟩, ⟨bes_⟩⟩
       ·have c12b0 := beq_eq_false_iff_ne.mpr c12; have c12b1 := bne_iff_ne.mpr c12; have c12b2 : ¬ (l0_2 = []) := fun h_ => c12 (by rw [h_]; rfl)
        have H' := ak_ H; clear H; obtain ⟨z14_0, z14_1, z14_2, y14_0, y14_1, y14_2⟩ := bcz3 BK329.out; go_wp2; go_meet
        case rel => exact ⟨_, (decide ((l0_2.length : Int) > 4)), sv_, H', ⟨by have := HK1.out; first | omega | exact Nat.le_refl _⟩, ⟨bp_ BK329.out⟩, ⟨bes_⟩⟩
      ·obtain ⟨c11b0, c11b7, c11b8, c11b1⟩ := emp0_ c11; have H' := ak_ H; clear H; obtain ⟨z15_0, z15_1, z15_2, y15_0, y15_1, y15_2⟩ := bcz3 BK329.out; go_wp2; go_meet
       case rel => exact ⟨_, (decide ((l0_2.length : Int) > 4)), sv_, H', ⟨by have := HK1.out; first | omega | exact Nat.le_refl _⟩, ⟨bp_ BK329.out⟩, ⟨bes_⟩⟩
     ·obtain ⟨c10b0, c10b7, c10b8, c10b1⟩ := emp0_ c10; (first | rw [c10b0] | simp only [c10b7, Bool.not_true, Bool.not_false] | (simp only [i64_w, i32_w]; rw [c10b0]) | skip)
      have H' := ak_ H; clear H; obtain ⟨z16_0, z16_1, z16_2, y16_0, y16_1, y16_2⟩ := bcz3 BK329.out; go_wp2; go_meet
      case rel => exact ⟨_, (decide ((l0_2.length : Int) > 4)), sv_, H', ⟨by have := HK1.out; first | omega | exact Nat.le_refl _⟩, ⟨bp_ BK329.out⟩, ⟨bes_⟩⟩
    case rest =>
     clear HC9; (try clear c4b0);(try clear z3_0);(try clear z3_1);(try clear z3_2)
     (try clear y3_0);(try clear y3_1);(try clear y3_2)
     obtain ⟨kq, x35_8, rfl, HA, HJ8, BK329, HB⟩ := hcut; cases kq with
     | zero => exact absurd HA.out (by simp [impl_isPart.j1])
     | succ kj8 =>
      have H := HA.out; clear HA; simp only [impl_isPart.j1] at H
      replace H := itb_ H; rcases H with ⟨rfl, H⟩ | ⟨rfl, H⟩
      ·obtain rfl := Option.some.inj H
       go_wp2; go_ret
       exact ⟨er_, bes_⟩
      ·replace H := ite_ H; rcases H with ⟨c18, H⟩ | ⟨c18, H⟩
       ·obtain ⟨c18b0, c18b7, c18b8, c18b1⟩ := emp1_ c18; clear c18; replace H := ite_ H; rcases H with ⟨c19, H⟩ | ⟨c19, H⟩
        ·obtain ⟨c19b0, c19b7, c19b8, c19b1⟩ := emp1_ c19; clear c19; obtain rfl := Option.some.inj H
         obtain ⟨z20_0, z20_1, z20_2, y20_0, y20_1, y20_2⟩ := bcz3 BK329.out; go_wp2; go_ret
         exact ⟨er_, bes_⟩
        ·obtain ⟨c19b0, c19b7, c19b8, c19b1⟩ := emp0_ c19; replace H := bnd_ H; obtain ⟨t332, A21, H⟩ := H; obtain rfl := Option.some.inj H
         obtain ⟨z22_0, z22_1, z22_2, y22_0, y22_1, y22_2⟩ := bcz3 BK329.out; go_wp2_with (first | (go_at_call 87; (with_reducible refine (impl_isWord.calls kj8 a0_1 t332 _ A21.out).mono ?_); rintro e w' ⟨rfl, ⟨nd, rfl⟩⟩))
         go_ret
         exact ⟨er_, bes_⟩
       ·obtain ⟨c18b0, c18b7, c18b8, c18b1⟩ := emp0_ c18; replace H := ite_ H; rcases H with ⟨c23, H⟩ | ⟨c23, H⟩
        ·have c23b0 := beq_iff_eq.mpr c23; have c23b1 := bne_eq_false_iff_eq.mpr c23; clear c23; replace H := ite_ H; rcases H with ⟨c24, H⟩ | ⟨c24, H⟩
         ·obtain ⟨c24b0, c24b7, c24b8, c24b1⟩ := emp1_ c24; clear c24; obtain rfl := Option.some.inj H
          obtain ⟨z25_0, z25_1, z25_2, y25_0, y25_1, y25_2⟩ := bcz3 BK329.out; go_wp2; go_ret
          exact ⟨er_, bes_⟩
         ·obtain ⟨c24b0, c24b7, c24b8, c24b1⟩ := emp0_ c24; replace H := bnd_ H; obtain ⟨t333, A26, H⟩ := H; obtain rfl := Option.some.inj H
          obtain ⟨z27_0, z27_1, z27_2, y27_0, y27_1, y27_2⟩ := bcz3 BK329.out; go_wp2_with (first | (go_at_call 87; (with_reducible refine (impl_isWord.calls kj8 a0_1 t333 _ A26.out).mono ?_); rintro e w' ⟨rfl, ⟨nd, rfl⟩⟩))
          go_ret
          exact ⟨er_, bes_⟩
        ·have c23b0 := beq_eq_false_iff_ne.mpr c23; have c23b1 := bne_iff_ne.mpr c23; replace H := bnd_ H; obtain ⟨t334, A28, H⟩ := H; replace H := itb_ H; rcases H with ⟨rfl, H⟩ | ⟨rfl, H⟩
         ·replace H := ite_ H; rcases H with ⟨c30, H⟩ | ⟨c30, H⟩
          ·obtain ⟨c30b0, c30b7, c30b8, c30b1⟩ := emp1_ c30; clear c30; obtain rfl := Option.some.inj H
           obtain ⟨z31_0, z31_1, z31_2, y31_0, y31_1, y31_2⟩ := bcz3 BK329.out; go_wp2_with (first | (go_at_call 87; (with_reducible refine (impl_isWord.calls kj8 a0_0 true _ A28.out).mono ?_); rintro e w' ⟨rfl, ⟨nd, rfl⟩⟩))
           go_ret
           exact ⟨er_, bes_⟩
          ·obtain ⟨c30b0, c30b7, c30b8, c30b1⟩ := emp0_ c30; replace H := bnd_ H; obtain ⟨t335, A32, H⟩ := H; obtain rfl := Option.some.inj H
           obtain ⟨z33_0, z33_1, z33_2, y33_0, y33_1, y33_2⟩ := bcz3 BK329.out; go_wp2_with (first | (go_at_call 87; (with_reducible refine (impl_isWord.calls kj8 a0_0 true _ A28.out).mono ?_); rintro e w' ⟨rfl, ⟨nd, rfl⟩⟩) | (go_at_call 87; (with_reducible refine (impl_isWord.calls kj8 a0_1 t335 _ A32.out).mono ?_); rintro e w' ⟨rfl, ⟨nd, rfl⟩⟩))
           go_ret
           exact ⟨er_, bes_⟩
         ·obtain rfl := Option.some.inj H
          obtain ⟨z34_0, z34_1, z34_2, y34_0, y34_1, y34_2⟩ := bcz3 BK329.out; go_wp2_with (first | (go_at_call 87; (with_reducible refine (impl_isWord.calls kj8 a0_0 false _ A28.out).mono ?_); rintro e w' ⟨rfl, ⟨nd, rfl⟩⟩))
          go_ret
          exact ⟨er_, bes_⟩

end Go.Proofs.YtooilehdljeepaaGreatDoor.PFnExactSheetIn
