-- Laid by a program of this session out of the translation (its own run of the print). Lean checks it.
import Derived.Test.YtooilehdljeepaaDoorPFnExactHasCyclex0
import Derived.Test.YtooilehdljeepaaDoorPFnExactHasCyclex1
import Derived.Test.YtooilehdljeepaaDoorPFnExactHasCyclex2
import Derived.Test.YtooilehdljeepaaDoorPFnExactHasCyclex9
import Derived.Test.YtooilehdljeepaaDoorPFnExactHasCyclex12
import Derived.Test.YtooilehdljeepaaDoorPFnExactHasCyclex14
namespace Go.Proofs.YtooilehdljeepaaDoor.PFnExactHasCycle
open Go.RowKit Go.Proofs.YtooilehdljeepaaDoorW.PrintWords Go.Proofs.YtooilehdljeepaaDoorW.PrintLast Go.Proofs.YtooilehdljeepaaDoorW.PrintMore
attribute [local go_sem] max2_int min2_int max_two min_two max_three min_three max_four min_four   -- for this text's walks alone
set_option linter.unusedVariables false
set_option linter.unusedSimpArgs false

/-! ### impl_HasCycle: function 19 -/
mutual
def impl_HasCycle.l0 : Nat → List (S69) → Int → Int → Option (Bool × Bool)
 | 0, _, _, _ => none
 | k + 1, x0, x15, x16 => if x16 < x15 then (if 0 ≤ (x0.length : Int) then (if ((x0.length : Int) : Int).toNat ≤ 281474976710656 then ((impl_UsesOf.f k x0 x16).bind fun bt314 => (impl_HasCycle.l1 k x0 x16 (List.replicate ((x0.length : Int) : Int).toNat false) bt314.1 x15 x16)) else (none)) else (none)) else (some (false, true))
def impl_HasCycle.l1 : Nat → List (S69) → Int → List Bool → List Int → Int → Int → Option (Bool × Bool)
 | 0, _, _, _, _, _, _ => none
 | k + 1, x0, x4, x5, x6, x15, x16 => if (x6.length : Int) > 0 then (if 0 < (x6.length : Int) then (if 1 ≤ (x6.length : Int) then ((some (x6.drop (1 : Int).toNat : List Int)).bind fun y319 => (if (rd x6 0) = x4 then (some (true, true)) else (if 0 ≤ (rd x6 0) then (if (rd x6 0) < (x5.length : Int) then (if (rdOf false x5 (rd x6 0) = true) then (impl_HasCycle.l1 k x0 x4 x5 y319 x15 x16) else ((impl_UsesOf.f k x0 (rd x6 0)).bind fun bt324 => (if y319.length + bt324.1.length < 17592186044416 then (impl_HasCycle.l1 k x0 x4 (x5.set ((rd x6 0) : Int).toNat true) (y319 ++ bt324.1) x15 x16) else (none)))) else (none)) else (none)))) else (none)) else (none)) else (impl_HasCycle.l0 k x0 x15 (wrap64 (x16 + 1)))
end
def impl_HasCycle.f (k : Nat) (l0 : List (S69)) : Option (Bool × Bool) := (impl_GoodNodes.f k l0).bind fun t310 => (if t310 = true then (impl_HasCycle.l0 k l0 (l0.length : Int) 0) else (some (false, false)))
set_option maxHeartbeats 8000000 in
set_option maxRecDepth 100000 in
theorem impl_HasCycle.calls (k : Nat) (A0 : Option Addr) (c0 : Nat) (l0 : List (S69)) (r1 : Bool) (r2 : Bool) (w : World) (hr0 : Kd.C k69 w A0 l0.length l0) (hc0 : l0.length ≤ c0) (h : impl_HasCycle.f k l0 = some (r1, r2)) (hT_ : U8Tabs_ w) :
  Calls Tryd.prog 19 #[.slice A0 l0.length c0] w fun e w' => e = .returned (.tuple #[.bool r1, .bool r2]) ∧ Below w.heap.size w w' := by
 have HR0 := Aside0.mk hr0
 have HC0 := Aside0.mk hc0
 clear hr0 hc0
 have HB := Aside0.mk (Below.refl w.heap.size w)
 have H : ((impl_GoodNodes.f k l0).bind fun t310 => (if t310 = true then (impl_HasCycle.l0 k l0 (l0.length : Int) 0) else (some (false, false)))) = some (r1, r2) := h
 clear h
 replace H := Option.bind_eq_some_iff.mp H
 obtain ⟨t310, A20, H⟩ := H
 replace H : (if t310 = true then (impl_HasCycle.l0 k l0 (l0.length : Int) 0) else (some (false, false))) = some (r1, r2) := H
 have A2 := Aside0.mk A20
 clear A20
 by_cases c3 : t310 = true
 ·subst c3
  have H1 : (impl_HasCycle.l0 k l0 (l0.length : Int) 0) = some (r1, r2) := by rw [if_pos rfl] at H; exact H
  clear H
  have H := H1
  clear H1
  have H' := Aside0.mk H
  clear H
  go_enter Tryd.func19, Tryd.ntmps19
  go_wp2_with (first | ((with_reducible refine gate_callee (f := 43) rfl ?_); refine goesL_ (some 12) rfl rfl Tryd.func43 (by kernel_rfl) rfl #[.slice A0 l0.length c0] rfl au_ ?_; (with_reducible refine (impl_GoodNodes.calls k _ _ l0 true _ ?side1 ?side2 A2.out ?hT_).mono ?_); (case hT_ => exact utf8_keep_ hT_ bel_); (case side1 => exact cs_ HR0.out); (case side2 => exact HC0.out); rintro e w4 ⟨rfl, hb⟩; refine ⟨_, rfl, ?_⟩; have n0_ := Aside0.mk (below_step bel_ hb); clear HB; have HB := n0_; clear n0_; (try clear hb);(try clear hb2);(try clear hk);(try clear hi)))
  go_loopg [16] k (fun kq v16 w' => ∃ (x16_1 : Int), v16 = .int .i64 x16_1 ∧ Aside0 (impl_HasCycle.l0 kq l0 (l0.length : Int) x16_1 = some (r1, r2)) ∧ Aside0 (kq ≤ k) ∧ Aside0 (Below w.heap.size w w'))
  case atStart => exact ⟨(0), sv_, H', ⟨Nat.le_refl _⟩, ⟨bel_⟩⟩
  case round =>
   clear H'
   (try clear c1);(try clear p2);(try clear c3);(try clear c4)
   obtain ⟨x16_1, rfl, HA, HK1, HB⟩ := hrel
   cases gk with
   | zero => exact absurd HA.out (by simp [impl_HasCycle.l0])
   | succ k1 =>
    have H := HA.out
    clear HA
    simp only [impl_HasCycle.l0] at H
    by_cases c5 : x16_1 < (l0.length : Int)
    ·rw [if_pos c5] at H
     have c5b0 : decide (x16_1 < (l0.length : Int)) = true := decide_eq_true c5
     clear c5
     by_cases c6 : 0 ≤ (l0.length : Int)
     ·rw [if_pos c6] at H
      have c6b0 := eq_true c6
      have c6b1 : decide (0 ≤ (l0.length : Int)) = true := decide_eq_true c6
      clear c6
      by_cases c7 : ((l0.length : Int) : Int).toNat ≤ 281474976710656
      ·rw [if_pos c7] at H
       have c7b0 := eq_true c7
       have c7b1 : decide (((l0.length : Int) : Int).toNat ≤ 281474976710656) = true := decide_eq_true c7
       clear c7
       obtain ⟨y311, hy311⟩ : ∃ y_ : List Bool, y_ = (List.replicate ((l0.length : Int) : Int).toNat false) := ⟨_, rfl⟩
       replace H : ((impl_UsesOf.f k1 l0 x16_1).bind fun bt314 => (impl_HasCycle.l1 k1 l0 x16_1 y311 bt314.1 (l0.length : Int) x16_1)) = some (r1, r2) := by first | (rw [hy311]; with_reducible exact H) | (have H2_ := (Option.bind_some _ _).symm.trans H; rw [hy311]; with_reducible exact H2_) | (have H2_ := (Option.bind_some _ _).symm.trans H; with_reducible exact H2_) | with_reducible exact H | (rw [hy311]; exact H) | exact H
       have Ny311 := Aside0.mk hy311
       clear hy311
       replace H := Option.bind_eq_some_iff.mp H
       obtain ⟨⟨t314, t315⟩, A80, H⟩ := H
       replace H : (impl_HasCycle.l1 k1 l0 x16_1 y311 t314 (l0.length : Int) x16_1) = some (r1, r2) := H
       have A8 := Aside0.mk A80
       clear A80
       have H' := Aside0.mk H
       clear H
       go_wp2_with (first | ((with_reducible refine gate_dst (N := 21) rfl ?_); refine Kd.R_make Kd.bool _ 4 rfl (N := 21) rfl 76 _ _ rfl (l0.length : Int) rfl rfl Tryd.underlying76 (.bool false) 1 info4 rfl (by decide) (by omega) false (ok := fun _ => True) (okp := fun _ => True) rfl (fun _ hk => hk) trivial (of_decide_eq_true am_) (Nat.le_trans (Nat.mul_le_mul_right _ (of_decide_eq_true am_ : (l0.length : Int).toNat ≤ 281474976710656)) (by omega)) (Below.refl _ _) (Nat.le_refl _) ?_; intro v312 w9 ho10 hb hg_ hnew_; clear hg_ hnew_; (first | rw [← Ny311.out] at ho10 | (simp only [Int.reduceToNat] at ho10; rw [← Ny311.out] at ho10)); have n0_ := Aside0.mk (Kd.R_lower ho10 (below_size bel_)); have n1_ := Aside0.mk (below_step bel_ hb); clear HB; have HO313 := n0_; have HB := n1_; clear n0_ n1_; clear hb ho10) | ((with_reducible refine gate_callee (f := 50) rfl ?_); refine goesL_ (some 25) rfl rfl Tryd.func50 (by kernel_rfl) rfl #[.slice A0 l0.length c0, .int .i64 x16_1] rfl au_ ?_; (with_reducible refine (impl_UsesOf.calls k1 _ _ l0 x16_1 t314 t315 _ ?side1 ?side2 A8.out ?hT_).mono ?_); (case hT_ => exact utf8_keep_ hT_ bel_); (case side1 => exact cs_ (Kd.C_below HR0.out HB.out)); (case side2 => exact HC0.out); rintro e w11 ⟨v316, rfl, ho0, hb⟩; refine ⟨_, rfl, ?_⟩; have n0_ := Aside0.mk (Kd.R_below (kdR_ HO313.out) hb); have n1_ := Aside0.mk (Kd.R_lower ho0 (below_size bel_)); have n2_ := Aside0.mk (below_step bel_ hb); clear HO313; clear HB; have HO313 := n0_; have HO317 := n1_; have HB := n2_; clear n0_ n1_ n2_; (try clear hb);(try clear hb2);(try clear hk);(try clear hi);(try clear ho0)))
       go_loopg [6] k1 (fun kq v6 w' => ∃ (x5_2 : List Bool) (x6_2 : List Int), Aside0 (impl_HasCycle.l1 kq l0 x16_1 x5_2 x6_2 (l0.length : Int) x16_1 = some (r1, r2)) ∧ Aside0 (kq ≤ k1) ∧ Aside0 (Kd.R Kd.bool 4 w' w.heap.size (fun _ => True) v312 x5_2) ∧ Aside0 (Kd.Q (Kd.int .i64) 3 w' w.heap.size (fun _ => True) v6 x6_2) ∧ Aside0 (Below w.heap.size w w'))
       case atStart => exact ⟨(y311), (t314), H', ⟨Nat.le_refl _⟩, ⟨by (with_reducible repeat (first | apply Kd.R_alloc | apply Kd.R_drewN | apply Kd.R_drew)); exact HO313.out⟩, ⟨Kd.Q_of_R (kdR_ HO317.out)⟩, ⟨bel_⟩⟩
       case round =>
        clear H'
        (try clear c1);(try clear p2);(try clear c3);(try clear c4);(try clear c5);(try clear c5b0);(try clear c6);(try clear c6b0 c6b1);(try clear c7);(try clear c7b0 c7b1);(try clear p2)
        obtain ⟨x5_2, x6_2, HA, HK2, HO_5, HO_6, HB⟩ := hrel
        cases gk with
        | zero => exact absurd HA.out (by simp [impl_HasCycle.l1])
        | succ k2 =>
         have H := HA.out
         clear HA
         simp only [impl_HasCycle.l1] at H
         by_cases c12 : (x6_2.length : Int) > 0
         ·rw [if_pos c12] at H
          have c12b0 : decide (0 < (x6_2.length : Int)) = true := decide_eq_true c12
          have c12b1 : decide (0 < x6_2.length) = true := decide_eq_true (by omega)
          clear c12
          by_cases c13 : 0 < (x6_2.length : Int)
          ·rw [if_pos c13] at H
           have c13b0 : decide (0 < (x6_2.length : Int)) = true := decide_eq_true c13
           have c13b1 : decide (0 < x6_2.length) = true := decide_eq_true (by omega)
           clear c13
           by_cases c14 : 1 ≤ (x6_2.length : Int)
           ·rw [if_pos c14] at H
            have c14b0 := eq_true c14
            have c14b1 : decide (1 ≤ (x6_2.length : Int)) = true := decide_eq_true c14
            clear c14
            obtain ⟨y319, hy319⟩ : ∃ y_ : List Int, y_ = (x6_2.drop (1 : Int).toNat) := ⟨_, rfl⟩
            replace H : (if (rd x6_2 0) = x16_1 then (some (true, true)) else (if 0 ≤ (rd x6_2 0) then (if (rd x6_2 0) < (x5_2.length : Int) then (if (rdOf false x5_2 (rd x6_2 0) = true) then (impl_HasCycle.l1 k2 l0 x16_1 x5_2 y319 (l0.length : Int) x16_1) else ((impl_UsesOf.f k2 l0 (rd x6_2 0)).bind fun bt324 => (if y319.length + bt324.1.length < 17592186044416 then (impl_HasCycle.l1 k2 l0 x16_1 (x5_2.set ((rd x6_2 0) : Int).toNat true) (y319 ++ bt324.1) (l0.length : Int) x16_1) else (none)))) else (none)) else (none))) = some (r1, r2) := by first | (rw [hy319]; with_reducible exact H) | (have H2_ := (Option.bind_some _ _).symm.trans H; rw [hy319]; with_reducible exact H2_) | (have H2_ := (Option.bind_some _ _).symm.trans H; with_reducible exact H2_) | with_reducible exact H | (rw [hy319]; exact H) | exact H
            have Ny319 := Aside0.mk hy319
            clear hy319
            by_cases c15 : (rd x6_2 0) = x16_1
            ·rw [if_pos c15] at H
             have c15b0 : ((rd x6_2 0) == x16_1) = true := beq_iff_eq.mpr c15
             have c15b1 : ((rd x6_2 0) != x16_1) = false := bne_eq_false_iff_eq.mpr c15
             clear c15
             simp only [Option.some.injEq, Prod.mk.injEq] at H
             obtain ⟨rfl, rfl⟩ := H
             obtain ⟨Ao16, co16, eo16, _⟩ := Kd.Q_slice HO_6.out
             subst eo16
             have p318 : 0 ≤ (0 : Int) := (by omega)
             have q318 : 0 < (x6_2.length : Int) := of_decide_eq_true am_
             obtain ⟨ad318, e318, hx318_0⟩ := Kd.at_int (Kd.Q_reads' HO_6.out).2.2 0 p318 q318
             cases e318
             have qi318 : (0 < x6_2.length) = True := eq_true (by omega)
             (try rw [show ((0 : Int)).toNat = 0 from rfl] at hx318_0)
             (try rw [Addr.add_zero'] at hx318_0)
             replace p318 := eq_true p318
             replace q318 := eq_true q318
             have q17 : (1 : Int) ≤ ((x6_2.length : Int) : Int) := of_decide_eq_true am_
             obtain ⟨i017, hi017, _, hsz17, _⟩ := info_parts info3
             have hcut17 := cut_from (P := Tryd.prog) 77 3 .i64 Tryd.underlying77 hi017 1 hsz17 (some ad318) x6_2.length co16 1 (by omega) q17
             have hr17 := Kd.Q_drop (k := (1 : Int).toNat) HO_6.out (by omega)
             obtain ⟨A17, hA17⟩ : ∃ A1, A1 = (if co16 = (1 : Int).toNat then (some ad318) else ((some ad318) : Option Addr).map (·.add ((1 : Int).toNat * 1))) := ⟨_, rfl⟩
             obtain ⟨c17, hc17⟩ : ∃ c1, c1 = co16 - (1 : Int).toNat := ⟨_, rfl⟩
             have hy17 : y319.length = x6_2.length - (1 : Int).toNat := (by rw [Ny319.out, List.length_drop])
             rw [← Ny319.out] at hr17
             rw [← hy17, ← hA17, ← hc17] at hcut17
             replace hr17 : Kd.Q (Kd.int .i64) 3 wr w.heap.size (fun _ => True) (.slice A17 y319.length c17) y319 := (by rw [hA17, hc17, hy17]; exact hr17)
             have HE17 : Aside0 ((Value.slice A17 y319.length c17).ownBlock = (.slice (some ad318) x6_2.length co16 : Value).ownBlock) := ⟨by rw [hA17]; split <;> (cases ((some ad318) : Option Addr) <;> rfl)⟩
             clear hy17 hi017 hsz17 HO_6 hA17 hc17
             have HO321 := Aside0.mk hr17
             clear hr17
             replace q17 := eq_true q17
             go_wp2
             go_ret2
             exact ⟨er_, bel_⟩
            ·rw [if_neg c15] at H
             have c15b0 : ((rd x6_2 0) == x16_1) = false := beq_eq_false_iff_ne.mpr c15
             have c15b1 : ((rd x6_2 0) != x16_1) = true := bne_iff_ne.mpr c15
             by_cases c18 : 0 ≤ (rd x6_2 0)
             ·rw [if_pos c18] at H
              have c18b0 : decide (0 ≤ (rd x6_2 0)) = true := decide_eq_true c18
              clear c18
              by_cases c19 : (rd x6_2 0) < (x5_2.length : Int)
              ·rw [if_pos c19] at H
               have c19b0 : decide ((rd x6_2 0) < (x5_2.length : Int)) = true := decide_eq_true c19
               clear c19
               obtain ⟨bq20, hbq20⟩ : ∃ b_ : Bool, b_ = (rdOf false x5_2 (rd x6_2 0)) := ⟨_, rfl⟩
               replace H : (if (bq20 = true) then (impl_HasCycle.l1 k2 l0 x16_1 x5_2 y319 (l0.length : Int) x16_1) else ((impl_UsesOf.f k2 l0 (rd x6_2 0)).bind fun bt324 => (if y319.length + bt324.1.length < 17592186044416 then (impl_HasCycle.l1 k2 l0 x16_1 (x5_2.set ((rd x6_2 0) : Int).toNat true) (y319 ++ bt324.1) (l0.length : Int) x16_1) else (none)))) = some (r1, r2) := by rw [← hbq20] at H; exact H
               have Nbq20 := Aside0.mk hbq20
               clear hbq20
               by_cases c21 : (bq20 = true)
               ·subst c21
                have H1 : (impl_HasCycle.l1 k2 l0 x16_1 x5_2 y319 (l0.length : Int) x16_1) = some (r1, r2) := by rw [if_pos rfl] at H; exact H
                clear H
                have H := H1
                clear H1
                have H' := Aside0.mk H
                clear H
                obtain ⟨Ao22, co22, eo22, _⟩ := Kd.Q_slice HO_6.out
                subst eo22
                have p318 : 0 ≤ (0 : Int) := (by omega)
                have q318 : 0 < (x6_2.length : Int) := of_decide_eq_true am_
                obtain ⟨ad318, e318, hx318_0⟩ := Kd.at_int (Kd.Q_reads' HO_6.out).2.2 0 p318 q318
                cases e318
                have qi318 : (0 < x6_2.length) = True := eq_true (by omega)
                (try rw [show ((0 : Int)).toNat = 0 from rfl] at hx318_0)
                (try rw [Addr.add_zero'] at hx318_0)
                replace p318 := eq_true p318
                replace q318 := eq_true q318
                have q23 : (1 : Int) ≤ ((x6_2.length : Int) : Int) := of_decide_eq_true am_
                obtain ⟨i023, hi023, _, hsz23, _⟩ := info_parts info3
                have hcut23 := cut_from (P := Tryd.prog) 77 3 .i64 Tryd.underlying77 hi023 1 hsz23 (some ad318) x6_2.length co22 1 (by omega) q23
                have hr23 := Kd.Q_drop (k := (1 : Int).toNat) HO_6.out (by omega)
                obtain ⟨A23, hA23⟩ : ∃ A1, A1 = (if co22 = (1 : Int).toNat then (some ad318) else ((some ad318) : Option Addr).map (·.add ((1 : Int).toNat * 1))) := ⟨_, rfl⟩
                obtain ⟨c23, hc23⟩ : ∃ c1, c1 = co22 - (1 : Int).toNat := ⟨_, rfl⟩
                have hy23 : y319.length = x6_2.length - (1 : Int).toNat := (by rw [Ny319.out, List.length_drop])
                rw [← Ny319.out] at hr23
                rw [← hy23, ← hA23, ← hc23] at hcut23
                replace hr23 : Kd.Q (Kd.int .i64) 3 wr w.heap.size (fun _ => True) (.slice A23 y319.length c23) y319 := (by rw [hA23, hc23, hy23]; exact hr23)
                have HE23 : Aside0 ((Value.slice A23 y319.length c23).ownBlock = (.slice (some ad318) x6_2.length co22 : Value).ownBlock) := ⟨by rw [hA23]; split <;> (cases ((some ad318) : Option Addr) <;> rfl)⟩
                clear hy23 hi023 hsz23 HO_6 hA23 hc23
                have HO321 := Aside0.mk hr23
                clear hr23
                replace q23 := eq_true q23
                obtain ⟨Ao24, co24, eo24⟩ := Kd.R_slice HO_5.out
                subst eo24
                have p322 : 0 ≤ ((rd x6_2 0) : Int) := of_decide_eq_true am_
                have q322 : (rd x6_2 0) < (x5_2.length : Int) := of_decide_eq_true am_
                obtain ⟨ad322, e322, hx322_0⟩ := Kd.at_bool (Kd.R_reads' HO_5.out).2.2 (rd x6_2 0) p322 q322
                (try rw [← Nbq20.out] at hx322_0)
                cases e322
                replace p322 := eq_true p322
                replace q322 := eq_true q322
                go_wp2
                go_roundg k2
                case measure => have := HK1.out; have := HK2.out; omega
                case rel => exact ⟨(x5_2), (y319), H', ⟨by have := HK1.out; have := HK2.out; omega⟩, ⟨by (with_reducible repeat (first | apply Kd.R_alloc | apply Kd.R_drewN | apply Kd.R_drew)); exact HO_5.out⟩, ⟨by (with_reducible repeat (first | apply Kd.Q_alloc | apply Kd.Q_drewN | apply Kd.Q_drew)); exact HO321.out⟩, ⟨bel_⟩⟩
               ·replace c21 := Bool.eq_false_iff.mpr c21
                subst c21
                have H1 : ((impl_UsesOf.f k2 l0 (rd x6_2 0)).bind fun bt324 => (if y319.length + bt324.1.length < 17592186044416 then (impl_HasCycle.l1 k2 l0 x16_1 (x5_2.set ((rd x6_2 0) : Int).toNat true) (y319 ++ bt324.1) (l0.length : Int) x16_1) else (none))) = some (r1, r2) := by rw [if_neg (show ¬ (false = true) by decide)] at H; exact H
                clear H
                have H := H1
                clear H1
                obtain ⟨y323, hy323⟩ : ∃ y_ : List Bool, y_ = (x5_2.set ((rd x6_2 0) : Int).toNat true) := ⟨_, rfl⟩
                replace H : ((impl_UsesOf.f k2 l0 (rd x6_2 0)).bind fun bt324 => (if y319.length + bt324.1.length < 17592186044416 then (impl_HasCycle.l1 k2 l0 x16_1 y323 (y319 ++ bt324.1) (l0.length : Int) x16_1) else (none))) = some (r1, r2) := by first | (rw [hy323]; with_reducible exact H) | (have H2_ := (Option.bind_some _ _).symm.trans H; rw [hy323]; with_reducible exact H2_) | (have H2_ := (Option.bind_some _ _).symm.trans H; with_reducible exact H2_) | with_reducible exact H | (rw [hy323]; exact H) | exact H
                have Ny323 := Aside0.mk hy323
                clear hy323
                replace H := Option.bind_eq_some_iff.mp H
                obtain ⟨⟨t324, t325⟩, A260, H⟩ := H
                replace H : (if y319.length + t324.length < 17592186044416 then (impl_HasCycle.l1 k2 l0 x16_1 y323 (y319 ++ t324) (l0.length : Int) x16_1) else (none)) = some (r1, r2) := H
                have A26 := Aside0.mk A260
                clear A260
                by_cases c27 : y319.length + t324.length < 17592186044416
                ·rw [if_pos c27] at H
                 have LMc27 := Aside0.mk c27
                 clear c27
                 obtain ⟨y328, hy328⟩ : ∃ y_ : List Int, y_ = (y319 ++ t324) := ⟨_, rfl⟩
                 replace H : (impl_HasCycle.l1 k2 l0 x16_1 y323 y328 (l0.length : Int) x16_1) = some (r1, r2) := by first | (rw [hy328]; with_reducible exact H) | (have H2_ := (Option.bind_some _ _).symm.trans H; rw [hy328]; with_reducible exact H2_) | (have H2_ := (Option.bind_some _ _).symm.trans H; with_reducible exact H2_) | with_reducible exact H | (rw [hy328]; exact H) | exact H
                 have Ny328 := Aside0.mk hy328
                 clear hy328
                 have H' := Aside0.mk H
                 clear H
                 obtain ⟨Ao28, co28, eo28, _⟩ := Kd.Q_slice HO_6.out
                 subst eo28
                 have p318 : 0 ≤ (0 : Int) := (by omega)
                 have q318 : 0 < (x6_2.length : Int) := of_decide_eq_true am_
                 obtain ⟨ad318, e318, hx318_0⟩ := Kd.at_int (Kd.Q_reads' HO_6.out).2.2 0 p318 q318
                 cases e318
                 have qi318 : (0 < x6_2.length) = True := eq_true (by omega)
                 (try rw [show ((0 : Int)).toNat = 0 from rfl] at hx318_0)
                 (try rw [Addr.add_zero'] at hx318_0)
                 replace p318 := eq_true p318
                 replace q318 := eq_true q318
                 have q29 : (1 : Int) ≤ ((x6_2.length : Int) : Int) := of_decide_eq_true am_
                 obtain ⟨i029, hi029, _, hsz29, _⟩ := info_parts info3
                 have hcut29 := cut_from (P := Tryd.prog) 77 3 .i64 Tryd.underlying77 hi029 1 hsz29 (some ad318) x6_2.length co28 1 (by omega) q29
                 have hr29 := Kd.Q_drop (k := (1 : Int).toNat) HO_6.out (by omega)
                 obtain ⟨A29, hA29⟩ : ∃ A1, A1 = (if co28 = (1 : Int).toNat then (some ad318) else ((some ad318) : Option Addr).map (·.add ((1 : Int).toNat * 1))) := ⟨_, rfl⟩
                 obtain ⟨c29, hc29⟩ : ∃ c1, c1 = co28 - (1 : Int).toNat := ⟨_, rfl⟩
                 have hy29 : y319.length = x6_2.length - (1 : Int).toNat := (by rw [Ny319.out, List.length_drop])
                 rw [← Ny319.out] at hr29
                 rw [← hy29, ← hA29, ← hc29] at hcut29
                 replace hr29 : Kd.Q (Kd.int .i64) 3 wr w.heap.size (fun _ => True) (.slice A29 y319.length c29) y319 := (by rw [hA29, hc29, hy29]; exact hr29)
                 have HE29 : Aside0 ((Value.slice A29 y319.length c29).ownBlock = (.slice (some ad318) x6_2.length co28 : Value).ownBlock) := ⟨by rw [hA29]; split <;> (cases ((some ad318) : Option Addr) <;> rfl)⟩
                 clear hy29 hi029 hsz29 HO_6 hA29 hc29
                 have HO321 := Aside0.mk hr29
                 clear hr29
                 replace q29 := eq_true q29
                 obtain ⟨Ao30, co30, eo30⟩ := Kd.R_slice HO_5.out
                 subst eo30
                 have p322 : 0 ≤ ((rd x6_2 0) : Int) := of_decide_eq_true am_
                 have q322 : (rd x6_2 0) < (x5_2.length : Int) := of_decide_eq_true am_
                 obtain ⟨ad322, e322, hx322_0⟩ := Kd.at_bool (Kd.R_reads' HO_5.out).2.2 (rd x6_2 0) p322 q322
                 (try rw [← Nbq20.out] at hx322_0)
                 (try rw [← Nbq20.out] at A26)
                 cases e322
                 replace p322 := eq_true p322
                 replace q322 := eq_true q322
                 have p25 : 0 ≤ ((rd x6_2 0) : Int) := of_decide_eq_true am_
                 have q25 : ((rd x6_2 0) : Int) < ((x5_2.length : Int) : Int) := of_decide_eq_true am_
                 obtain ⟨go25, co25, eo25, gb25, gl25, cl25, HG25⟩ := Kd.R_form HO_5.out (by omega)
                 (first | cases eo25 | (injection eo25 with ea_ en_ ec_; (first | subst ea_ | (injection ea_ with ea_; subst ea_)); subst ec_; clear en_))
                 have GB25 := Aside0.mk gb25
                 have GG25 := Aside0.mk HG25
                 clear gb25 gl25 HG25
                 (first | simp only [add_plain] at hx322_0 | skip)
                 obtain ⟨hx25_0, hf25_0⟩ := Kd.R_celln false HO_5.out ((rd x6_2 0) : Int) p25 q25
                 replace p25 := eq_true p25
                 replace q25 := eq_true q25
                 have HP31 := Kd.R_putg HO_5.out ((rd x6_2 0) : Int) true
                 go_wp2_with (first | ((with_reducible refine gate_store (t := 4) (p := 46) rfl ?_); refine store_event (t := 4) (p := 46) (v := ?vo_w32) (w1 := (wr.setCell ⟨go25, ((rd x6_2 0) : Int).toNat, none⟩ (.bool true))) ?hg ?ho ?hn ?hr ?_; (case ho => rfl); (case hg => rfl); (case hn => rfl); (case hr => first | (go_simp; done) | (go_simp; rfl)); intro w32 hw; have hg : wr.grownBy w32 (some go25) := (by rw [hw]; exact HP31.2); have hp_ : Kd.R Kd.bool 4 w32 w.heap.size (fun _ => True) (.slice (some ⟨go25, 0, none⟩) x5_2.length co30) y323 := (by rw [hw, Ny323.out]; exact HP31.1); clear HP31; have n0_ := Aside0.mk (hp_); have n1_ := Aside0.mk (Kd.Q_over' (v := (.slice (some ⟨go25, 0, none⟩) x5_2.length co30)) (by (with_reducible repeat (first | apply Kd.Q_alloc | apply Kd.Q_drewN | apply Kd.Q_drew)); exact HO321.out) (Kd.R_typed HO_5.out) (by decide) hg); have n2_ := Aside0.mk ((by rw [hw]; exact below_set (HB.out) GB25.out : Below w.heap.size w w32)); clear HO_5; clear HO321; clear HB; have HO_5 := n0_; have HO321 := n1_; have HB := n2_; clear n0_ n1_ n2_; clear hg hw hp_) | ((with_reducible refine gate_callee (f := 50) rfl ?_); refine goesL_ (some 50) rfl rfl Tryd.func50 (by kernel_rfl) rfl #[.slice A0 l0.length c0, .int .i64 (rd x6_2 0)] rfl au_ ?_; (with_reducible refine (impl_UsesOf.calls k2 _ _ l0 (rd x6_2 0) t324 t325 _ ?side1 ?side2 A26.out ?hT_).mono ?_); (case hT_ => exact utf8_keep_ hT_ bel_); (case side1 => exact cs_ (Kd.C_below HR0.out HB.out)); (case side2 => exact HC0.out); rintro e w33 ⟨v326, rfl, ho0, hb⟩; refine ⟨_, rfl, ?_⟩; have n0_ := Aside0.mk (Kd.R_below (kdR_ HO_5.out) hb); have n1_ := Aside0.mk (Kd.Q_elder' (by (with_reducible repeat (first | apply Kd.Q_alloc | apply Kd.Q_drewN | apply Kd.Q_drew)); exact HO321.out) (Kd.R_base ho0) hb); have n2_ := Aside0.mk (Kd.R_lower (Kd.R_new' ho0 (Kd.Q_lt (by (with_reducible repeat (first | apply Kd.Q_alloc | apply Kd.Q_drewN | apply Kd.Q_drew)); exact HO321.out))) (below_size bel_)); have n3_ := Aside0.mk (below_step bel_ hb); clear HO_5; clear HO321; clear HB; have HO_5 := n0_; have HO321 := n1_; have HO327 := n2_; have HB := n3_; clear n0_ n1_ n2_ n3_; (try clear hb);(try clear hb2);(try clear hk);(try clear hi);(try clear ho0); obtain ⟨Ao35, co35, eo35⟩ := Kd.R_slice HO327.out; subst eo35) | ((with_reducible refine gate_builtin (b := .append) (xs := #[.tmp 53, .tmp 54]) rfl ?_); at_builtin; refine Q_append_rows_ (Kd.int .i64) (w0 := w) w.heap.size rfl (.tmp 53) (.tmp 54) 77 3 (.int .i64 0) 8 rfl Tryd.underlying77 info3 rfl (by decide) (by omega) (.slice A29 y319.length c29) y319 t324 _ _ _ (fun k_ => some k_ ≠ (.slice Ao35 t324.length co35 : Value).ownBlock) (fun _ => False) rfl rfl ?aO ?aR (fun _ _ h => h) (fun _ h => h.elim) ?aF ?aB ?aS ?aL ?_; (case aR => exact cs_ (Kd.R_reads' HO327.out).2.2); (case aB => exact bel_); (case aF => exact (fun k_ hk => Kd.fresh' (Kd.R_lt (kdR_ HO327.out)) k_ hk)); (case aO => exact (by (with_reducible repeat (first | apply Kd.Q_alloc | apply Kd.Q_drewN | apply Kd.Q_drew)); exact Kd.Q_mono HO321.out (fun _ hk => hk.2))); (case aS => exact (below_size bel_)); (case aL => have := LMc27.out; omega); intro v329 w34 ho hb hg hat; rw [← Ny328.out] at ho; have n0_ := Aside0.mk (Kd.R_over' (kdR_ HO_5.out) (Kd.Q_typed (by (with_reducible repeat (first | apply Kd.Q_alloc | apply Kd.Q_drewN | apply Kd.Q_drew)); exact HO321.out)) (by decide) hg); have n1_ := Aside0.mk (Kd.R_after (ok := (fun _ => True)) (kdR_ HO327.out) hg hat); have n2_ := Aside0.mk (hb); have n3_ := Aside0.mk (ho); clear HO_5; clear HO327; clear HB; clear HO321; have HO_5 := n0_; have HO327 := n1_; have HB := n2_; have HO330 := n3_; clear n0_ n1_ n2_ n3_; clear ho hb hg hat))
                 go_roundg k2
                 case measure => have := HK1.out; have := HK2.out; omega
                 case rel => exact ⟨(y323), (y328), H', ⟨by have := HK1.out; have := HK2.out; omega⟩, ⟨by (with_reducible repeat (first | apply Kd.R_alloc | apply Kd.R_drewN | apply Kd.R_drew)); exact HO_5.out⟩, ⟨by (with_reducible repeat (first | apply Kd.Q_alloc | apply Kd.Q_drewN | apply Kd.Q_drew)); exact Kd.Q_mono HO330.out (fun _ hk => trivial)⟩, ⟨bel_⟩⟩
                ·rw [if_neg c27] at H
                 exact absurd H (by simp)
              ·rw [if_neg c19] at H
               exact absurd H (by simp)
             ·rw [if_neg c18] at H
              exact absurd H (by simp)
           ·rw [if_neg c14] at H
            exact absurd H (by simp)
          ·rw [if_neg c13] at H
           exact absurd H (by simp)
         ·rw [if_neg c12] at H
          have c12b0 : decide (0 < (x6_2.length : Int)) = false := decide_eq_false c12
          have c12b1 : decide (0 < x6_2.length) = false := decide_eq_false (by omega)
          clear c12
          have H' := Aside0.mk H
          clear H
          obtain ⟨Ao36, co36, eo36, _⟩ := Kd.Q_slice HO_6.out
          subst eo36
          go_wp2
          go_roundg k2
          case measure => have := HK1.out; have := HK2.out; omega
          case rel => exact ⟨(wrap64 (x16_1 + 1)), sv_, H', ⟨by have := HK1.out; have := HK2.out; omega⟩, ⟨bel_⟩⟩
      ·rw [if_neg c7] at H
       exact absurd H (by simp)
     ·rw [if_neg c6] at H
      exact absurd H (by simp)
    ·rw [if_neg c5] at H
     have c5b0 : decide (x16_1 < (l0.length : Int)) = false := decide_eq_false c5
     clear c5
     simp only [Option.some.injEq, Prod.mk.injEq] at H
     obtain ⟨rfl, rfl⟩ := H
     go_wp2
     go_ret2
     exact ⟨er_, bel_⟩
 ·replace c3 := Bool.eq_false_iff.mpr c3
  subst c3
  have H1 : (some (false, false)) = some (r1, r2) := by rw [if_neg (show ¬ (false = true) by decide)] at H; exact H
  clear H
  have H := H1
  clear H1
  simp only [Option.some.injEq, Prod.mk.injEq] at H
  obtain ⟨rfl, rfl⟩ := H
  go_enter Tryd.func19, Tryd.ntmps19
  go_wp2_with (first | ((with_reducible refine gate_callee (f := 43) rfl ?_); refine goesL_ (some 12) rfl rfl Tryd.func43 (by kernel_rfl) rfl #[.slice A0 l0.length c0] rfl au_ ?_; (with_reducible refine (impl_GoodNodes.calls k _ _ l0 false _ ?side1 ?side2 A2.out ?hT_).mono ?_); (case hT_ => exact utf8_keep_ hT_ bel_); (case side1 => exact cs_ HR0.out); (case side2 => exact HC0.out); rintro e w37 ⟨rfl, hb⟩; refine ⟨_, rfl, ?_⟩; have n0_ := Aside0.mk (below_step bel_ hb); clear HB; have HB := n0_; clear n0_; (try clear hb);(try clear hb2);(try clear hk);(try clear hi)))
  go_ret2
  exact ⟨er_, bel_⟩

/-! ### laws_FnExactHasCycle: function 5 -/
def laws_FnExactHasCycle.j0 : Nat → List (S60) → List (S69) → Bool → Option (Bool)
 | 0, _, _, _ => none
 | k + 1, x0, x6, x34 => if x34 = true then (some false) else ((laws_toNodeS.f k x0).bind fun t342 => ((laws_eqNodeS.f k x6 t342).bind fun t345 => (if t345 = true then (some true) else (some false))))
def laws_FnExactHasCycle.f (k : Nat) (l0 : List (S60)) : Option (Bool) := (laws_szNodeS.f k l0 1048576).bind fun t331 => (if t331 < 0 then (some true) else ((laws_toNodeS.f k l0).bind fun t332 => ((spec_HasCycle.f k t332).bind fun bt335 => ((laws_toNodeS.f k l0).bind fun t337 => ((impl_HasCycle.f k t337).bind fun bt340 => (if (bt340.1 != bt335.1) = true then (laws_FnExactHasCycle.j0 k l0 t337 true) else (laws_FnExactHasCycle.j0 k l0 t337 (bt340.2 != bt335.2))))))))
set_option maxHeartbeats 8000000 in
set_option maxRecDepth 100000 in
theorem laws_FnExactHasCycle.calls (k : Nat) (A0 : Option Addr) (c0 : Nat) (l0 : List (S60)) (r : Bool) (w : World) (hr0 : Kd.C k60 w A0 l0.length l0) (hc0 : l0.length ≤ c0) (h : laws_FnExactHasCycle.f k l0 = some r) (hT_ : U8Tabs_ w) :
  Calls Tryd.prog 5 #[.slice A0 l0.length c0] w fun e w' => e = .returned (.bool r) ∧ Below w.heap.size w w' := by
 have HR0 := Aside0.mk hr0
 have HC0 := Aside0.mk hc0
 clear hr0 hc0
 have HB := Aside0.mk (Below.refl w.heap.size w)
 have H : ((laws_szNodeS.f k l0 1048576).bind fun t331 => (if t331 < 0 then (some true) else ((laws_toNodeS.f k l0).bind fun t332 => ((spec_HasCycle.f k t332).bind fun bt335 => ((laws_toNodeS.f k l0).bind fun t337 => ((impl_HasCycle.f k t337).bind fun bt340 => (if (bt340.1 != bt335.1) = true then (laws_FnExactHasCycle.j0 k l0 t337 true) else (laws_FnExactHasCycle.j0 k l0 t337 (bt340.2 != bt335.2))))))))) = some r := h
 clear h
 replace H := Option.bind_eq_some_iff.mp H
 obtain ⟨t331, A20, H⟩ := H
 replace H : (if t331 < 0 then (some true) else ((laws_toNodeS.f k l0).bind fun t332 => ((spec_HasCycle.f k t332).bind fun bt335 => ((laws_toNodeS.f k l0).bind fun t337 => ((impl_HasCycle.f k t337).bind fun bt340 => (if (bt340.1 != bt335.1) = true then (laws_FnExactHasCycle.j0 k l0 t337 true) else (laws_FnExactHasCycle.j0 k l0 t337 (bt340.2 != bt335.2)))))))) = some r := H
 have A2 := Aside0.mk A20
 clear A20
 by_cases c3 : t331 < 0
 ·rw [if_pos c3] at H
  have c3b0 : decide (t331 < 0) = true := decide_eq_true c3
  clear c3
  obtain rfl := Option.some.inj H
  go_enter Tryd.func5, Tryd.ntmps5
  go_wp2_with (first | ((with_reducible refine gate_callee (f := 10) rfl ?_); refine goesL_ (some 11) rfl rfl Tryd.func10 (by kernel_rfl) rfl #[.slice A0 l0.length c0, .int .i64 1048576] rfl au_ ?_; (with_reducible refine (laws_szNodeS.calls k _ _ l0 1048576 t331 _ ?side1 ?side2 A2.out).mono ?_); (case side1 => exact cs_ HR0.out); (case side2 => exact HC0.out); rintro e w4 ⟨rfl, hb⟩; refine ⟨_, rfl, ?_⟩; have n0_ := Aside0.mk (below_step bel_ hb); clear HB; have HB := n0_; clear n0_; (try clear hb);(try clear hb2);(try clear hk);(try clear hi)))
  go_ret
  exact ⟨er_, bel_⟩
 ·rw [if_neg c3] at H
  have c3b0 : decide (t331 < 0) = false := decide_eq_false c3
  clear c3
  replace H := Option.bind_eq_some_iff.mp H
  obtain ⟨t332, A50, H⟩ := H
  replace H : ((spec_HasCycle.f k t332).bind fun bt335 => ((laws_toNodeS.f k l0).bind fun t337 => ((impl_HasCycle.f k t337).bind fun bt340 => (if (bt340.1 != bt335.1) = true then (laws_FnExactHasCycle.j0 k l0 t337 true) else (laws_FnExactHasCycle.j0 k l0 t337 (bt340.2 != bt335.2)))))) = some r := H
  have A5 := Aside0.mk A50
  clear A50
  replace H := Option.bind_eq_some_iff.mp H
  obtain ⟨⟨t335, t336⟩, A60, H⟩ := H
  replace H : ((laws_toNodeS.f k l0).bind fun t337 => ((impl_HasCycle.f k t337).bind fun bt340 => (if (bt340.1 != t335) = true then (laws_FnExactHasCycle.j0 k l0 t337 true) else (laws_FnExactHasCycle.j0 k l0 t337 (bt340.2 != t336))))) = some r := H
  have A6 := Aside0.mk A60
  clear A60
  replace H := Option.bind_eq_some_iff.mp H
  obtain ⟨t337, A70, H⟩ := H
  replace H : ((impl_HasCycle.f k t337).bind fun bt340 => (if (bt340.1 != t335) = true then (laws_FnExactHasCycle.j0 k l0 t337 true) else (laws_FnExactHasCycle.j0 k l0 t337 (bt340.2 != t336)))) = some r := H
  have A7 := Aside0.mk A70
  clear A70
  replace H := Option.bind_eq_some_iff.mp H
  obtain ⟨⟨t340, t341⟩, A80, H⟩ := H
  replace H : (if (t340 != t335) = true then (laws_FnExactHasCycle.j0 k l0 t337 true) else (laws_FnExactHasCycle.j0 k l0 t337 (t341 != t336))) = some r := H
  have A8 := Aside0.mk A80
  clear A80
  have HC9 := Aside0.mk H
  clear H
  go_enter Tryd.func5, Tryd.ntmps5
  go_upto_region 8 with (first | ((with_reducible refine gate_callee (f := 10) rfl ?_); refine goesL_ (some 11) rfl rfl Tryd.func10 (by kernel_rfl) rfl #[.slice A0 l0.length c0, .int .i64 1048576] rfl au_ ?_; (with_reducible refine (laws_szNodeS.calls k _ _ l0 1048576 t331 _ ?side1 ?side2 A2.out).mono ?_); (case side1 => exact cs_ HR0.out); (case side2 => exact HC0.out); rintro e w10 ⟨rfl, hb⟩; refine ⟨_, rfl, ?_⟩; have n0_ := Aside0.mk (below_step bel_ hb); clear HB; have HB := n0_; clear n0_; (try clear hb);(try clear hb2);(try clear hk);(try clear hi)) | ((with_reducible refine gate_callee (f := 13) rfl ?_); refine goesL_ (some 16) rfl rfl Tryd.func13 (by kernel_rfl) rfl #[.slice A0 l0.length c0] rfl au_ ?_; (with_reducible refine (laws_toNodeS.calls k _ _ l0 t332 _ ?side1 ?side2 A5.out).mono ?_); (case side1 => exact cs_ (Kd.C_below HR0.out HB.out)); (case side2 => exact HC0.out); rintro e w11 ⟨v333, rfl, ho0, hb⟩; refine ⟨_, rfl, ?_⟩; have n0_ := Aside0.mk (Kd.S_lower ho0 (below_size bel_)); have n1_ := Aside0.mk (below_step bel_ hb); clear HB; have HO334 := n0_; have HB := n1_; clear n0_ n1_; (try clear hb);(try clear hb2);(try clear hk);(try clear hi);(try clear ho0); obtain ⟨Ao12, co12, eo12⟩ := Kd.S_slice HO334.out; subst eo12) | ((with_reducible refine gate_callee (f := 18) rfl ?_); refine goesL_ (some 17) rfl rfl Tryd.func18 (by kernel_rfl) rfl #[.slice Ao12 t332.length co12] rfl au_ ?_; (with_reducible refine (spec_HasCycle.calls k _ _ t332 t335 t336 _ ?side1 ?side2 A6.out).mono ?_); (case side1 => exact cs_ (Kd.S_reads' HO334.out).2.2); (case side2 => exact (Kd.S_reads' HO334.out).2.1); rintro e w13 ⟨rfl, hb⟩; refine ⟨_, rfl, ?_⟩; have n0_ := Aside0.mk (Kd.S_below (kdS_ HO334.out) hb); have n1_ := Aside0.mk (below_step bel_ hb); clear HO334; clear HB; have HO334 := n0_; have HB := n1_; clear n0_ n1_; (try clear hb);(try clear hb2);(try clear hk);(try clear hi)) | ((with_reducible refine gate_callee (f := 13) rfl ?_); refine goesL_ (some 21) rfl rfl Tryd.func13 (by kernel_rfl) rfl #[.slice A0 l0.length c0] rfl au_ ?_; (with_reducible refine (laws_toNodeS.calls k _ _ l0 t337 _ ?side1 ?side2 A7.out).mono ?_); (case side1 => exact cs_ (Kd.C_below HR0.out HB.out)); (case side2 => exact HC0.out); rintro e w14 ⟨v338, rfl, ho0, hb⟩; refine ⟨_, rfl, ?_⟩; have n0_ := Aside0.mk (Kd.S_elder' (kdS_ HO334.out) (Kd.S_base ho0) hb); have n1_ := Aside0.mk (Kd.S_lower (Kd.S_new' ho0 (Kd.S_lt (kdS_ HO334.out))) (below_size bel_)); have n2_ := Aside0.mk (below_step bel_ hb); clear HO334; clear HB; have HO334 := n0_; have HO339 := n1_; have HB := n2_; clear n0_ n1_ n2_; (try clear hb);(try clear hb2);(try clear hk);(try clear hi);(try clear ho0); obtain ⟨Ao15, co15, eo15⟩ := Kd.S_slice HO339.out; subst eo15) | ((with_reducible refine gate_callee (f := 19) rfl ?_); refine goesL_ (some 24) rfl rfl Tryd.func19 (by kernel_rfl) rfl #[.slice Ao15 t337.length co15] rfl au_ ?_; (with_reducible refine (impl_HasCycle.calls k _ _ t337 t340 t341 _ ?side1 ?side2 A8.out ?hT_).mono ?_); (case hT_ => exact utf8_keep_ hT_ bel_); (case side1 => exact cs_ (Kd.S_reads' HO339.out).2.2); (case side2 => exact (Kd.S_reads' HO339.out).2.1); rintro e w16 ⟨rfl, hb⟩; refine ⟨_, rfl, ?_⟩; have n0_ := Aside0.mk (Kd.S_below (kdS_ HO334.out) hb); have n1_ := Aside0.mk (Kd.S_below (kdS_ HO339.out) hb); have n2_ := Aside0.mk (below_step bel_ hb); clear HO334; clear HO339; clear HB; have HO334 := n0_; have HO339 := n1_; have HB := n2_; clear n0_ n1_ n2_; (try clear hb);(try clear hb2);(try clear hk);(try clear hi)))
  (try simp only [Act.put, List.setIfInBounds_toArray, List.set_cons_zero, List.set_cons_succ])
  go_cut [34] (fun v34 wc => ∃ (kq : Nat) (x34_8 : Bool), v34 = .bool x34_8 ∧ Aside0 (laws_FnExactHasCycle.j0 kq l0 t337 x34_8 = some r) ∧ Aside0 (kq ≤ k) ∧ Aside0 (Kd.S k69 69 wc w.heap.size (fun _ => True) (.slice Ao15 t337.length co15) t337) ∧ Aside0 (Below w.heap.size w wc))
  case first =>
   have H := HC9.out
   clear HC9
   by_cases c17 : (t340 != t335) = true
   ·rw [if_pos c17] at H
    have c17b0 : (t340 != t335) = true := c17
    (try (have c17b1 : decide (t340 = t335) = false := by simpa using c17))
    (try (have c17b2 : (t340 == t335) = false := by simpa using c17))
    (try (have c17b3 : ¬ (t340 = t335) := by simpa using c17))
    clear c17
    (first | rw [c17b0] | (simp only [i64_w, i32_w]; rw [c17b0]) | skip)
    have H' := Aside0.mk H
    clear H
    go_wp2
    go_meet
    case rel => exact ⟨_, (true), sv_, H', ⟨by first | omega | exact Nat.le_refl _⟩, ⟨by (with_reducible repeat (first | apply Kd.S_alloc | apply Kd.S_drewN | apply Kd.S_drew)); exact Kd.S_mono HO339.out (fun _ hk => trivial)⟩, ⟨bel_⟩⟩
   ·rw [if_neg c17] at H
    have c17b0 : (t340 != t335) = false := by simpa using c17
    (try (have c17b1 : decide (t340 = t335) = true := by simpa using c17))
    (try (have c17b2 : (t340 == t335) = true := by simpa using c17))
    clear c17
    (first | rw [c17b0] | (simp only [i64_w, i32_w]; rw [c17b0]) | skip)
    have H' := Aside0.mk H
    clear H
    go_wp2
    go_meet
    case rel => exact ⟨_, ((t341 != t336)), sv_, H', ⟨by first | omega | exact Nat.le_refl _⟩, ⟨by (with_reducible repeat (first | apply Kd.S_alloc | apply Kd.S_drewN | apply Kd.S_drew)); exact Kd.S_mono HO339.out (fun _ hk => trivial)⟩, ⟨bel_⟩⟩
  case rest =>
   clear HC9
   (try clear c1);(try clear p2);(try clear c3);(try clear c3b0);(try clear c5);(try clear c10);(try clear c13);(try clear c17);(try clear c17b0 c17b1 c17b2)
   obtain ⟨kq, x34_8, rfl, HA, HJ8, HO_6, HB⟩ := hcut
   cases kq with
   | zero => exact absurd HA.out (by simp [laws_FnExactHasCycle.j0])
   | succ kj8 =>
    have H := HA.out
    clear HA
    simp only [laws_FnExactHasCycle.j0] at H
    by_cases c18 : x34_8 = true
    ·subst c18
     have H1 : (some false) = some r := by rw [if_pos rfl] at H; exact H
     clear H
     have H := H1
     clear H1
     obtain rfl := Option.some.inj H
     go_wp2
     go_ret
     exact ⟨er_, bel_⟩
    ·replace c18 := Bool.eq_false_iff.mpr c18
     subst c18
     have H1 : ((laws_toNodeS.f kj8 l0).bind fun t342 => ((laws_eqNodeS.f kj8 t337 t342).bind fun t345 => (if t345 = true then (some true) else (some false)))) = some r := by rw [if_neg (show ¬ (false = true) by decide)] at H; exact H
     clear H
     have H := H1
     clear H1
     replace H := Option.bind_eq_some_iff.mp H
     obtain ⟨t342, A190, H⟩ := H
     replace H : ((laws_eqNodeS.f kj8 t337 t342).bind fun t345 => (if t345 = true then (some true) else (some false))) = some r := H
     have A19 := Aside0.mk A190
     clear A190
     replace H := Option.bind_eq_some_iff.mp H
     obtain ⟨t345, A200, H⟩ := H
     replace H : (if t345 = true then (some true) else (some false)) = some r := H
     have A20 := Aside0.mk A200
     clear A200
     by_cases c21 : t345 = true
     ·subst c21
      have H1 : (some true) = some r := by rw [if_pos rfl] at H; exact H
      clear H
      have H := H1
      clear H1
      obtain rfl := Option.some.inj H
      go_wp2_with (first | ((with_reducible refine gate_callee (f := 13) rfl ?_); refine goesL_ (some 37) rfl rfl Tryd.func13 (by kernel_rfl) rfl #[.slice A0 l0.length c0] rfl au_ ?_; (with_reducible refine (laws_toNodeS.calls kj8 _ _ l0 t342 _ ?side1 ?side2 A19.out).mono ?_); (case side1 => exact cs_ (Kd.C_below HR0.out HB.out)); (case side2 => exact HC0.out); rintro e w22 ⟨v343, rfl, ho0, hb⟩; refine ⟨_, rfl, ?_⟩; have n0_ := Aside0.mk (Kd.S_elder' (kdS_ HO_6.out) (Kd.S_base ho0) hb); have n1_ := Aside0.mk (Kd.S_lower (Kd.S_new' ho0 (Kd.S_lt (kdS_ HO_6.out))) (below_size bel_)); have n2_ := Aside0.mk (below_step bel_ hb); clear HO_6; clear HB; have HO_6 := n0_; have HO344 := n1_; have HB := n2_; clear n0_ n1_ n2_; (try clear hb);(try clear hb2);(try clear hk);(try clear hi);(try clear ho0); obtain ⟨Ao23, co23, eo23⟩ := Kd.S_slice HO344.out; subst eo23) | ((with_reducible refine gate_callee (f := 16) rfl ?_); refine goesL_ (some 38) rfl rfl Tryd.func16 (by kernel_rfl) rfl #[.slice Ao15 t337.length co15, .slice Ao23 t342.length co23] rfl au_ ?_; (with_reducible refine (laws_eqNodeS.calls kj8 _ _ t337 _ _ t342 true _ ?side1 ?side2 ?side3 ?side4 A20.out).mono ?_); (case side1 => exact cs_ (Kd.S_reads' HO_6.out).2.2); (case side2 => exact (Kd.S_reads' HO_6.out).2.1); (case side3 => exact cs_ (Kd.S_reads' HO344.out).2.2); (case side4 => exact (Kd.S_reads' HO344.out).2.1); rintro e w24 ⟨rfl, hb⟩; refine ⟨_, rfl, ?_⟩; have n0_ := Aside0.mk (Kd.S_below (kdS_ HO_6.out) hb); have n1_ := Aside0.mk (Kd.S_below (kdS_ HO344.out) hb); have n2_ := Aside0.mk (below_step bel_ hb); clear HO_6; clear HO344; clear HB; have HO_6 := n0_; have HO344 := n1_; have HB := n2_; clear n0_ n1_ n2_; (try clear hb);(try clear hb2);(try clear hk);(try clear hi)))
      go_ret
      exact ⟨er_, bel_⟩
     ·replace c21 := Bool.eq_false_iff.mpr c21
      subst c21
      have H1 : (some false) = some r := by rw [if_neg (show ¬ (false = true) by decide)] at H; exact H
      clear H
      have H := H1
      clear H1
      obtain rfl := Option.some.inj H
      go_wp2_with (first | ((with_reducible refine gate_callee (f := 13) rfl ?_); refine goesL_ (some 37) rfl rfl Tryd.func13 (by kernel_rfl) rfl #[.slice A0 l0.length c0] rfl au_ ?_; (with_reducible refine (laws_toNodeS.calls kj8 _ _ l0 t342 _ ?side1 ?side2 A19.out).mono ?_); (case side1 => exact cs_ (Kd.C_below HR0.out HB.out)); (case side2 => exact HC0.out); rintro e w25 ⟨v343, rfl, ho0, hb⟩; refine ⟨_, rfl, ?_⟩; have n0_ := Aside0.mk (Kd.S_elder' (kdS_ HO_6.out) (Kd.S_base ho0) hb); have n1_ := Aside0.mk (Kd.S_lower (Kd.S_new' ho0 (Kd.S_lt (kdS_ HO_6.out))) (below_size bel_)); have n2_ := Aside0.mk (below_step bel_ hb); clear HO_6; clear HB; have HO_6 := n0_; have HO344 := n1_; have HB := n2_; clear n0_ n1_ n2_; (try clear hb);(try clear hb2);(try clear hk);(try clear hi);(try clear ho0); obtain ⟨Ao26, co26, eo26⟩ := Kd.S_slice HO344.out; subst eo26) | ((with_reducible refine gate_callee (f := 16) rfl ?_); refine goesL_ (some 38) rfl rfl Tryd.func16 (by kernel_rfl) rfl #[.slice Ao15 t337.length co15, .slice Ao26 t342.length co26] rfl au_ ?_; (with_reducible refine (laws_eqNodeS.calls kj8 _ _ t337 _ _ t342 false _ ?side1 ?side2 ?side3 ?side4 A20.out).mono ?_); (case side1 => exact cs_ (Kd.S_reads' HO_6.out).2.2); (case side2 => exact (Kd.S_reads' HO_6.out).2.1); (case side3 => exact cs_ (Kd.S_reads' HO344.out).2.2); (case side4 => exact (Kd.S_reads' HO344.out).2.1); rintro e w27 ⟨rfl, hb⟩; refine ⟨_, rfl, ?_⟩; have n0_ := Aside0.mk (Kd.S_below (kdS_ HO_6.out) hb); have n1_ := Aside0.mk (Kd.S_below (kdS_ HO344.out) hb); have n2_ := Aside0.mk (below_step bel_ hb); clear HO_6; clear HO344; clear HB; have HO_6 := n0_; have HO344 := n1_; have HB := n2_; clear n0_ n1_ n2_; (try clear hb);(try clear hb2);(try clear hk);(try clear hi)))
      go_ret
      exact ⟨er_, bel_⟩

end Go.Proofs.YtooilehdljeepaaDoor.PFnExactHasCycle
