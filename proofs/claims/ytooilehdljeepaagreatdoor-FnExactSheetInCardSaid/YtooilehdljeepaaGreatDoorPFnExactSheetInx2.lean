import Derived.Test.YtooilehdljeepaaGreatDoorPFnExactSheetInx0
import Derived.Test.YtooilehdljeepaaGreatDoorPFnExactSheetInx1
namespace Go.Proofs.YtooilehdljeepaaGreatDoor.PFnExactSheetIn
open Go.RowKit Go.Proofs.YtooilehdljeepaaGreatDoorW.PrintWords Go.Proofs.YtooilehdljeepaaGreatDoorW.PrintLast Go.Proofs.YtooilehdljeepaaGreatDoorW.PrintMore
attribute [local go_sem] max2_int min2_int max_two min_two max_three min_three max_four min_four   -- for this text's walks alone
set_option maxHeartbeats 8000000
set_option maxRecDepth 100000
set_option linter.unusedVariables false
set_option linter.unusedSimpArgs false
/-! ### impl_readPart: function 82 -/
mutual
def impl_readPart.j0 : Nat → ByteArray → Int → ByteArray → ByteArray → Option (ByteArray × ByteArray × List ByteArray × Bool)
 | 0, _, _, _, _ => none
 | k + 1, x0, x5, x338000, x338001 => impl_readPart.l0 k x0 x5 x338000 x338001 ([] : List ByteArray)
def impl_readPart.l0 : Nat → ByteArray → Int → ByteArray → ByteArray → List ByteArray → Option (ByteArray × ByteArray × List ByteArray × Bool)
 | 0, _, _, _, _, _ => none
 | k + 1, x0, x5, x338000, x338001, x338002 => if x5 < (x0.size : Int) then ((impl_wordEnd.f k x0 (wrap64 (x5 + 1))).bind fun t341 => (if 0 ≤ (wrap64 (x5 + 1)) then (if (wrap64 (x5 + 1)) ≤ t341 then (if t341 ≤ (x0.size : Int) then ((impl_isWord.f k (x0.extract ((wrap64 (x5 + 1)) : Int).toNat (t341 : Int).toNat)).bind fun t342 => (if t342 = true then (if 0 ≤ x5 then (if (bt x0 x5) = 35 then (if x338001.toList = ([] : List UInt8) then (impl_readPart.j2 k x0 x5 t341 (x0.extract ((wrap64 (x5 + 1)) : Int).toNat (t341 : Int).toNat) ((x338002.length : Int) == 0) x338000 x338001 x338002) else (impl_readPart.j2 k x0 x5 t341 (x0.extract ((wrap64 (x5 + 1)) : Int).toNat (t341 : Int).toNat) false x338000 x338001 x338002)) else (impl_readPart.j2 k x0 x5 t341 (x0.extract ((wrap64 (x5 + 1)) : Int).toNat (t341 : Int).toNat) false x338000 x338001 x338002)) else (none)) else (some ((⟨#[]⟩ : ByteArray), (⟨#[]⟩ : ByteArray), ([] : List ByteArray), false)))) else (none)) else (none)) else (none))) else ((impl_isPart.f k x338000 x338001 x338002).bind fun t340 => (some (x338000, x338001, x338002, t340)))
def impl_readPart.j2 : Nat → ByteArray → Int → Int → ByteArray → Bool → ByteArray → ByteArray → List ByteArray → Option (ByteArray × ByteArray × List ByteArray × Bool)
 | 0, _, _, _, _, _, _, _, _ => none
 | k + 1, x0, x5, x6, x7, x37, x338000, x338001, x338002 => if x37 = true then (impl_readPart.l0 k x0 x6 x338000 x7 x338002) else (if 0 ≤ x5 then (if x5 < (x0.size : Int) then (if (bt x0 x5) = 46 then (if x338002.length < 8796093022208 then (impl_readPart.l0 k x0 x6 x338000 x338001 (x338002 ++ [x7])) else (none)) else (some ((⟨#[]⟩ : ByteArray), (⟨#[]⟩ : ByteArray), ([] : List ByteArray), false))) else (none)) else (none))
end
def impl_readPart.f (k : Nat) (a0 : ByteArray) : Option (ByteArray × ByteArray × List ByteArray × Bool) := (strings_HasPrefix.f a0 (⟨#[42]⟩ : ByteArray)).bind fun t338 => (if t338 = true then (impl_readPart.j0 k a0 1 (⟨#[42]⟩ : ByteArray) (⟨#[]⟩ : ByteArray)) else ((impl_wordEnd.f k a0 0).bind fun t339 => (if 0 ≤ t339 then (if t339 ≤ (a0.size : Int) then (impl_readPart.j0 k a0 t339 (a0.extract 0 (t339 : Int).toNat) (⟨#[]⟩ : ByteArray)) else (none)) else (none))))
theorem impl_readPart.calls (k : Nat) (a0 : ByteArray) (r1 : ByteArray) (r2 : ByteArray) (r3 : List ByteArray) (r4 : Bool) (w : World) (h : impl_readPart.f k a0 = some (r1, r2, r3, r4)) :
  Calls Tryz.prog 82 #[.string a0] w fun e w' => ∃ v2_ : Value, e = .returned (.tuple #[.agg #[.string r1, .string r2, v2_], .bool r4]) ∧ Kd.R Kd.string 9 w' w.heap.size (fun _ => True) v2_ r3 ∧ Below w.heap.size w w' := by
 have hu102 := Tryz.underlying102; have HB := ak_ (Below.refl w.heap.size w); have H := h; unfold impl_readPart.f at H
 clear h; replace H := bnd_ H; obtain ⟨t338, A2, H⟩ := H; have HC3 := ak_ H; clear H; go_enter Tryz.func82, Tryz.ntmps82
 go_upto_if 10 with (first | ((with_reducible refine gate_dst (N := 2) rfl ?_); (try (refine gate_guard (by rfl) ?_; dsimp only)); refine bx_ (N := 2) (cs := #[.string (⟨#[]⟩ : ByteArray), .string (⟨#[]⟩ : ByteArray), .slice none 0 0]) (t := 102) ?_; intro gb336 hg w4 hbox hb; have n_ := an4_ (below_step bel_ hb) (hbox) (gsl_ hg HB.out) (gsl_ hg HB.out); clear HB; obtain ⟨HB, BK336, GW336, GE336⟩ := n_; clear hb hbox hg) | ((with_reducible refine gate_dst (N := 4) rfl ?_); (try (refine gate_guard (by rfl) ?_; dsimp only)); refine bx_ (N := 4) (cs := #[.string (⟨#[]⟩ : ByteArray), .string (⟨#[]⟩ : ByteArray), .slice none 0 0]) (t := 102) ?_; intro gb337 hg w5 hbox hb; have n_ := an7_ (blk_below (g := gb336) (o := .cells #[.string (⟨#[]⟩ : ByteArray), .string (⟨#[]⟩ : ByteArray), .slice none 0 0] 102 (0, 0)) (bk_ BK336.out) hb) (below_step bes_ hb) (hbox) (gsl_ hg HB.out) (gsl_ hg HB.out) ((by rw [hg]; exact Nat.ne_of_lt (blk_lt (g := gb336) (o := .cells #[.string (⟨#[]⟩ : ByteArray), .string (⟨#[]⟩ : ByteArray), .slice none 0 0] 102 (0, 0)) (bk_ BK336.out)) : gb336 ≠ gb337)) ((by rw [hg]; exact Nat.ne_of_gt (blk_lt (g := gb336) (o := .cells #[.string (⟨#[]⟩ : ByteArray), .string (⟨#[]⟩ : ByteArray), .slice none 0 0] 102 (0, 0)) (bk_ BK336.out)) : gb337 ≠ gb336)); clear BK336 HB; obtain ⟨BK336, HB, BK337, GW337, GE337, NB336_337, NB337_336⟩ := n_; clear hb hbox hg; have hnb6 := NB337_336.out; have hnc6 := NB336_337.out; obtain ⟨z7_0, z7_1, z7_2, y7_0, y7_1, y7_2⟩ := bcz3 BK337.out) | ((with_reducible refine gate_callee (f := 103) rfl ?_); refine gl_ (some 10) Tryz.func103 #[.string a0, .string (⟨#[42]⟩ : ByteArray)] ?_; (with_reducible refine (strings_HasPrefix.calls a0 (⟨#[42]⟩ : ByteArray) t338 _ A2.out).mono ?_); rintro e w' ⟨rfl, ⟨nd, rfl⟩⟩; refine ⟨_, rfl, ?_⟩))
 (try simp only [Act.put, List.setIfInBounds_toArray, List.set_cons_zero, List.set_cons_succ])
 go_cut [5] (fun v5 wc => ∃ (kq : Nat) (x5_2 : Int) (x338000_2 : ByteArray), v5 = .int .i64 x5_2 ∧ Aside0 (impl_readPart.j0 kq a0 x5_2 x338000_2 (⟨#[]⟩ : ByteArray) = some (r1, r2, r3, r4)) ∧ Aside0 (kq ≤ k) ∧ Aside0 (wc.heap[gb336]? = some (.cells #[.string (⟨#[]⟩ : ByteArray), .string (⟨#[]⟩ : ByteArray), (.slice none 0 0)] 102 (0, 0))) ∧ Aside0 (wc.heap[gb337]? = some (.cells #[.string x338000_2, .string (⟨#[]⟩ : ByteArray), (.slice none 0 0)] 102 (0, 0))) ∧ Aside0 (Below w.heap.size w wc))
 case first =>
  have H := HC3.out; clear HC3; replace H := itb_ H; rcases H with ⟨rfl, H⟩ | ⟨rfl, H⟩
  ·have H' := ak_ H; clear H; have hnb9 := NB337_336.out; have hnc9 := NB336_337.out; obtain ⟨z10_0, z10_1, z10_2, y10_0, y10_1, y10_2⟩ := bcz3 BK337.out; go_wp2; go_meet
   case rel => exact ⟨_, (1), ((⟨#[42]⟩ : ByteArray)), sv_, H', ⟨by first | omega | exact Nat.le_refl _⟩, ⟨bp_ BK336.out⟩, ⟨bp_ BK337.out⟩, ⟨bes_⟩⟩
  ·replace H := bnd_ H; obtain ⟨t339, A11, H⟩ := H; replace H := itn_ H; obtain ⟨c12, H⟩ := H; have c12b0 := eq_true c12; have c12b1 := decide_eq_true c12; clear c12; replace H := itn_ H; obtain ⟨c13, H⟩ := H; have c13b0 := eq_true c13; have c13b1 := decide_eq_true c13; clear c13; have H' := ak_ H; clear H; go_wp2_with (first | ((with_reducible refine gate_callee (f := 104) rfl ?_); refine gl_ (some 13) Tryz.func104 #[.string a0, .int .i64 0] ?_; (with_reducible refine (impl_wordEnd.calls k a0 0 t339 _ A11.out).mono ?_); rintro e w' ⟨rfl, ⟨nd, rfl⟩⟩; refine ⟨_, rfl, ?_⟩; have hnb14 := NB337_336.out; have hnc14 := NB336_337.out; obtain ⟨z15_0, z15_1, z15_2, y15_0, y15_1, y15_2⟩ := bcz3 BK337.out))
   go_meet
   case rel => exact ⟨_, (t339), (a0.extract 0 (t339 : Int).toNat), sv_, H', ⟨by first | omega | exact Nat.le_refl _⟩, ⟨bp_ BK336.out⟩, ⟨bp_ BK337.out⟩, ⟨bes_⟩⟩
 case rest =>
  clear HC3; (try clear z7_0);(try clear z7_1);(try clear z7_2);(try clear y7_0);(try clear y7_1);(try clear y7_2)
  obtain ⟨kq, x5_2, x338000_2, rfl, HA, HJ2, BK336, BK337, HB⟩ := hcut; cases kq with
  | zero => exact absurd HA.out (by simp [impl_readPart.j0])
  | succ kj2 =>
   have H := HA.out; clear HA; simp only [impl_readPart.j0] at H
   have H' := ak_ H; clear H; go_wp2; go_loopg [5] kj2 (fun kq v5 w' => ∃ (x5_2 : Int) (x337000_2 : ByteArray) (x337001_2 : ByteArray) (x338001_2 : ByteArray) (x338002_2 : List ByteArray) (u338002 : Value), v5 = .int .i64 x5_2 ∧ Aside0 (impl_readPart.l0 kq a0 x5_2 x338000_2 x338001_2 x338002_2 = some (r1, r2, r3, r4)) ∧ Aside0 (kq ≤ kj2) ∧ Aside0 (Kd.R Kd.string 9 w' w.heap.size (fun _ => True) u338002 x338002_2) ∧ Aside0 (w'.heap[gb336]? = some (.cells #[.string x337000_2, .string x337001_2, (.slice none 0 0)] 102 (0, 0))) ∧ Aside0 (w'.heap[gb337]? = some (.cells #[.string x338000_2, .string x338001_2, u338002] 102 (0, 0))) ∧ Aside0 (Below w.heap.size w w'))
   case atStart => exact ⟨(x5_2), ((⟨#[]⟩ : ByteArray)), ((⟨#[]⟩ : ByteArray)), ((⟨#[]⟩ : ByteArray)), (([] : List ByteArray)), (.slice none 0 0), sv_, H', ⟨Nat.le_refl _⟩, ⟨by first | exact Kd.R_nil _ _ _ _ _ | exact Kd.N_nil _ _ _ _ _ | exact Kd.V_nil _ _ _ _ _ | exact Kd.Q_nil _ _ _ _ _ | exact Kd.S_nil _ _ _ _ _⟩, ⟨bp_ BK336.out⟩, ⟨bp_ BK337.out⟩, ⟨bes_⟩⟩
   case round =>
    clear H'; (try clear z7_0);(try clear z7_1);(try clear z7_2);(try clear y7_0);(try clear y7_1);(try clear y7_2)
    obtain ⟨x5_2, x337000_2, x337001_2, x338001_2, x338002_2, u338002, rfl, HA, HK2, HO_338002, BK336, BK337, HB⟩ := hrel; cases gk with
    | zero => exact absurd HA.out (by simp [impl_readPart.l0])
    | succ k2 =>
     have H := HA.out; clear HA; simp only [impl_readPart.l0] at H
     replace H := ied_ H; rcases H with ⟨c16b0, H⟩ | ⟨c16b0, H⟩
     ·replace H := bnd_ H; obtain ⟨t341, A17, H⟩ := H; obtain ⟨ji18, hji18⟩ : ∃ j_ : Int, (wrap64 (x5_2 + 1)) = j_ := ⟨_, rfl⟩
      replace H : (if 0 ≤ (ji18) then (if (ji18) ≤ t341 then (if t341 ≤ (a0.size : Int) then ((impl_isWord.f k2 (a0.extract ((ji18) : Int).toNat (t341 : Int).toNat)).bind fun t342 => (if t342 = true then (if 0 ≤ x5_2 then (if (bt a0 x5_2) = 35 then (if x338001_2.toList = ([] : List UInt8) then (impl_readPart.j2 k2 a0 x5_2 t341 (a0.extract ((ji18) : Int).toNat (t341 : Int).toNat) ((x338002_2.length : Int) == 0) x338000_2 x338001_2 x338002_2) else (impl_readPart.j2 k2 a0 x5_2 t341 (a0.extract ((ji18) : Int).toNat (t341 : Int).toNat) false x338000_2 x338001_2 x338002_2)) else (impl_readPart.j2 k2 a0 x5_2 t341 (a0.extract ((ji18) : Int).toNat (t341 : Int).toNat) false x338000_2 x338001_2 x338002_2)) else (none)) else (some ((⟨#[]⟩ : ByteArray), (⟨#[]⟩ : ByteArray), ([] : List ByteArray), false)))) else (none)) else (none)) else (none)) = some (r1, r2, r3, r4) := by first | (rw [hji18] at H; exact H) | (simp only [hji18] at H ⊢; exact H)
      (try rw [hji18] at A17)
      have hji18w : (IntKind.i64.wrap (x5_2 + 1)) = ji18 := (i64_w _).trans hji18
      replace H := itn_ H; obtain ⟨c19, H⟩ := H; have c19b0 := eq_true c19; have c19b1 := decide_eq_true c19; clear c19; replace H := itn_ H; obtain ⟨c20, H⟩ := H; have c20b0 := eq_true c20; have c20b1 := decide_eq_true c20; clear c20; replace H := itn_ H; obtain ⟨c21, H⟩ := H; have c21b0 := eq_true c21; have c21b1 := decide_eq_true c21; clear c21; replace H := bnd_ H; obtain ⟨t342, A22, H⟩ := H; replace H := itb_ H; rcases H with ⟨rfl, H⟩ | ⟨rfl, H⟩
      ·have HC24 := ak_ H; clear H; go_upto_region 12 with (first | ((with_reducible refine gate_callee (f := 104) rfl ?_); refine goesL_ (some 25) rfl rfl Tryz.func104 (by kernel_rfl) rfl #[.string a0, .int .i64 ji18] rfl (by (try simp only [List.map_toArray, List.map_cons, List.map_nil]); first | done | (simp only [hji18]; rfl) | rfl | (simp only [List.length_drop, List.length_take]; rfl)) ?_; (with_reducible refine (impl_wordEnd.calls k2 a0 ji18 t341 _ A17.out).mono ?_); rintro e w' ⟨rfl, ⟨nd, rfl⟩⟩; refine ⟨_, rfl, ?_⟩) | ((with_reducible refine gate_callee (f := 87) rfl ?_); refine goesL_ (some 34) rfl rfl Tryz.func87 (by kernel_rfl) rfl #[.string (a0.extract ((ji18) : Int).toNat (t341 : Int).toNat)] rfl (by (try simp only [List.map_toArray, List.map_cons, List.map_nil]); first | done | (simp only [hji18]; rfl) | rfl | (simp only [List.length_drop, List.length_take]; rfl)) ?_; (with_reducible refine (impl_isWord.calls k2 (a0.extract ((ji18) : Int).toNat (t341 : Int).toNat) true _ A22.out).mono ?_); rintro e w' ⟨rfl, ⟨nd, rfl⟩⟩; refine ⟨_, rfl, ?_⟩))
       (try simp only [Act.put, List.setIfInBounds_toArray, List.set_cons_zero, List.set_cons_succ])
       go_cut [37] (fun v37 wc => ∃ (kq : Nat) (x37_23 : Bool), v37 = .bool x37_23 ∧ Aside0 (impl_readPart.j2 kq a0 x5_2 t341 (a0.extract ((ji18) : Int).toNat (t341 : Int).toNat) x37_23 x338000_2 x338001_2 x338002_2 = some (r1, r2, r3, r4)) ∧ Aside0 (kq ≤ k2) ∧ Aside0 (Kd.R Kd.string 9 wc w.heap.size (fun _ => True) u338002 x338002_2) ∧ Aside0 (wc.heap[gb336]? = some (.cells #[.string x337000_2, .string x337001_2, (.slice none 0 0)] 102 (0, 0))) ∧ Aside0 (wc.heap[gb337]? = some (.cells #[.string x338000_2, .string x338001_2, u338002] 102 (0, 0))) ∧ Aside0 (Below w.heap.size w wc))
       case first =>
        have H := HC24.out; clear HC24; replace H := itd_ H; obtain ⟨c25b0, H⟩ := H; (first | rw [c25b0] | (simp only [i64_w, i32_w]; rw [c25b0]) | skip)
        replace H := ite_ H; rcases H with ⟨c27, H⟩ | ⟨c27, H⟩
        ·have c27b0 := beq_iff_eq.mpr c27; have c27b1 := bne_eq_false_iff_eq.mpr c27; clear c27; replace H := ite_ H; rcases H with ⟨c28, H⟩ | ⟨c28, H⟩
         ·obtain ⟨c28b0, c28b7, c28b8, c28b1⟩ := emp1_ c28; clear c28; have H' := ak_ H; clear H; have p26 : 0 ≤ (x5_2 : Int) := oda_
          have q26 : x5_2 < (a0.size : Int) := oda_
          have hx26 := bt_at a0 x5_2; replace p26 := eq_true p26; replace q26 := eq_true q26; have hnb29 := NB337_336.out; have hnc29 := NB336_337.out; obtain ⟨z30_0, z30_1, z30_2, y30_0, y30_1, y30_2⟩ := bcz3 BK337.out; obtain ⟨Ao31, co31, eo31⟩ := Kd.R_slice HO_338002.out; subst eo31; go_wp2; go_meet
          case rel => exact ⟨_, (((x338002_2.length : Int) == 0)), sv_, H', ⟨by have := HJ2.out; have := HK2.out; first | omega | exact Nat.le_refl _⟩, ⟨kdR_ HO_338002.out⟩, ⟨bp_ BK336.out⟩, ⟨bp_ BK337.out⟩, ⟨bes_⟩⟩
         ·obtain ⟨c28b0, c28b7, c28b8, c28b1⟩ := emp0_ c28; have H' := ak_ H; clear H; have p26 : 0 ≤ (x5_2 : Int) := oda_
          have q26 : x5_2 < (a0.size : Int) := oda_
          have hx26 := bt_at a0 x5_2; replace p26 := eq_true p26; replace q26 := eq_true q26; have hnb32 := NB337_336.out; have hnc32 := NB336_337.out; obtain ⟨z33_0, z33_1, z33_2, y33_0, y33_1, y33_2⟩ := bcz3 BK337.out; go_wp2; go_meet
          case rel => exact ⟨_, (false), sv_, H', ⟨by have := HJ2.out; have := HK2.out; first | omega | exact Nat.le_refl _⟩, ⟨kdR_ HO_338002.out⟩, ⟨bp_ BK336.out⟩, ⟨bp_ BK337.out⟩, ⟨bes_⟩⟩
        ·have c27b0 := beq_eq_false_iff_ne.mpr c27; have c27b1 := bne_iff_ne.mpr c27; have H' := ak_ H; clear H; have p26 : 0 ≤ (x5_2 : Int) := oda_
         have q26 : x5_2 < (a0.size : Int) := oda_
         have hx26 := bt_at a0 x5_2; replace p26 := eq_true p26; replace q26 := eq_true q26; go_wp2; go_meet
         case rel => exact ⟨_, (false), sv_, H', ⟨by have := HJ2.out; have := HK2.out; first | omega | exact Nat.le_refl _⟩, ⟨kdR_ HO_338002.out⟩, ⟨bp_ BK336.out⟩, ⟨bp_ BK337.out⟩, ⟨bes_⟩⟩
       case rest =>
        clear HC24; (try clear c16b0);(try clear c19b0);(try clear c19b1);(try clear c20b0);(try clear c20b1);(try clear c21b0);(try clear c21b1)
        (try clear z7_0);(try clear z7_1);(try clear z7_2);(try clear y7_0);(try clear y7_1);(try clear y7_2)
        obtain ⟨kq, x37_23, rfl, HA, HJ23, HO_338002, BK336, BK337, HB⟩ := hcut; cases kq with
        | zero => exact absurd HA.out (by simp [impl_readPart.j2])
        | succ kj23 =>
         have H := HA.out; clear HA; simp only [impl_readPart.j2] at H
         replace H := itb_ H; rcases H with ⟨rfl, H⟩ | ⟨rfl, H⟩
         ·have H' := ak_ H; clear H; have hnb35 := NB337_336.out; have hnc35 := NB336_337.out; obtain ⟨z36_0, z36_1, z36_2, y36_0, y36_1, y36_2⟩ := bcz3 BK337.out; go_wp2; go_roundg kj23
          case measure => have := HJ2.out; have := HK2.out; have := HJ23.out; omega
          case rel => exact ⟨(t341), (x337000_2), (x337001_2), ((a0.extract ((ji18) : Int).toNat (t341 : Int).toNat)), (x338002_2), (u338002), sv_, H', ⟨by have := HJ2.out; have := HK2.out; have := HJ23.out; omega⟩, ⟨by (with_reducible repeat (first | apply Kd.R_alloc | apply Kd.R_drewN | apply Kd.R_drew)); exact Kd.R_mono (Kd.R_far (Kd.R_types HO_338002.out BK337.out (by decide)) (fun _ hk => hk.2) _) (fun _ hk => trivial)⟩, ⟨bp_ BK336.out⟩, ⟨bp_ BK337.out⟩, ⟨bes_⟩⟩
         ·replace H := itd_ H; obtain ⟨c37b0, H⟩ := H; replace H := itd_ H; obtain ⟨c38b0, H⟩ := H; replace H := ite_ H; rcases H with ⟨c40, H⟩ | ⟨c40, H⟩
          ·have c40b0 := beq_iff_eq.mpr c40; have c40b1 := bne_eq_false_iff_eq.mpr c40; clear c40; replace H := itn_ H; obtain ⟨c41, H⟩ := H; have LMc41 := ak_ c41; clear c41; obtain ⟨y343, hy343⟩ : ∃ y_ : List ByteArray, y_ = (x338002_2 ++ [(a0.extract ((ji18) : Int).toNat (t341 : Int).toNat)]) := ⟨_, rfl⟩
           replace H : (impl_readPart.l0 kj23 a0 t341 x338000_2 x338001_2 y343) = some (r1, r2, r3, r4) := by first | (rw [hy343]; with_reducible exact H) | (have H2_ := (Option.bind_some _ _).symm.trans H; rw [hy343]; with_reducible exact H2_) | (have H2_ := (Option.bind_some _ _).symm.trans H; with_reducible exact H2_) | with_reducible exact H | (rw [hy343]; exact H) | exact H
           have Ny343 := ak_ hy343; clear hy343; have H' := ak_ H; clear H; have p39 : 0 ≤ (x5_2 : Int) := oda_
           have q39 : x5_2 < (a0.size : Int) := oda_
           have hx39 := bt_at a0 x5_2; replace p39 := eq_true p39; replace q39 := eq_true q39; have hnb42 := NB337_336.out; have hnc42 := NB336_337.out; obtain ⟨z43_0, z43_1, z43_2, y43_0, y43_1, y43_2⟩ := bcz3 BK337.out; go_wp2_with (first | ((with_reducible refine gate_builtin (b := .append) (xs := #[.tmp 61, .tmp 63]) rfl ?_); (try (refine gate_guard (by rfl) ?_; dsimp only)); at_builtin; refine Kd.R_append Kd.string (w0 := w) w.heap.size rfl (.tmp 61) (.tmp 63) 92 9 (.string ⟨#[]⟩) 16 rfl Tryz.underlying92 info9 rfl (by decide) (by omega) u338002 x338002_2 (a0.extract ((ji18) : Int).toNat (t341 : Int).toNat) [.string (a0.extract ((ji18) : Int).toNat (t341 : Int).toNat)] (fun _ => True) (fun _ => False) rfl rfl ?aP (fun _ hk => hk.elim) ?aF ?aO ?aB ?aS ?aL ?_; (case aP => exact rfl); (case aB => exact bes_); (case aF => exact (fun _ _ => trivial)); (case aO => exact (kdR_ HO_338002.out)); (case aS => exact (below_size bes_)); (case aL => have := LMc41.out; omega); intro v344 w44 ho hb hg hat; rw [← Ny343.out] at ho; have n_ := an4_ (blk_grown (g := gb336) (o := .cells #[.string x337000_2, .string x337001_2, .slice none 0 0] 102 (0, 0)) (bk_ BK336.out) hg (Kd.R_ne HO_338002.out BK336.out (by decide))) (blk_grown (g := gb337) (o := .cells #[.string x338000_2, .string x338001_2, u338002] 102 (0, 0)) (bk_ BK337.out) hg (Kd.R_ne HO_338002.out BK337.out (by decide))) (hb) (ho); clear BK336 BK337 HB HO_338002; obtain ⟨BK336, BK337, HB, HO345⟩ := n_; clear ho hb hg hat; obtain ⟨Ao45, co45, eo45⟩ := Kd.R_slice HO345.out; subst eo45; obtain ⟨z46_0, z46_1, z46_2, y46_0, y46_1, y46_2⟩ := bcz3 BK337.out))
           go_roundg kj23
           case measure => have := HJ2.out; have := HK2.out; have := HJ23.out; omega
           case rel => exact ⟨(t341), (x337000_2), (x337001_2), (x338001_2), (y343), (.slice Ao45 y343.length co45), sv_, H', ⟨by have := HJ2.out; have := HK2.out; have := HJ23.out; omega⟩, ⟨by (with_reducible repeat (first | apply Kd.R_alloc | apply Kd.R_drewN | apply Kd.R_drew)); exact Kd.R_mono (Kd.R_far (Kd.R_types HO345.out BK337.out (by decide)) (fun _ hk => hk.2) _) (fun _ hk => trivial)⟩, ⟨bp_ BK336.out⟩, ⟨bp_ BK337.out⟩, ⟨bes_⟩⟩
          ·have c40b0 := beq_eq_false_iff_ne.mpr c40; have c40b1 := bne_iff_ne.mpr c40; simp only [Option.some.injEq, Prod.mk.injEq] at H
           obtain ⟨rfl, rfl, rfl, rfl⟩ := H; have p39 : 0 ≤ (x5_2 : Int) := oda_
           have q39 : x5_2 < (a0.size : Int) := oda_
           have hx39 := bt_at a0 x5_2; replace p39 := eq_true p39; replace q39 := eq_true q39; have hnb47 := NB336_337.out; have hnc47 := NB337_336.out; obtain ⟨z48_0, z48_1, z48_2, y48_0, y48_1, y48_2⟩ := bcz3 BK336.out; go_wp2; refine bodyPost_ret (results_ct rfl _ _ gb336 102 #[.string (⟨#[]⟩ : ByteArray), .string (⟨#[]⟩ : ByteArray), .slice none 0 0] (0, 0) _ rfl (bp_ BK336.out) Tryz.underlying102 rfl (by kernel_rfl)) rfl ?_
           exact ⟨_, by first | rfl | (simp [errW_none, errW_some] <;> rfl) | (simp only [← hji18]; first | rfl | (simp [errW_none, errW_some] <;> rfl)) | (simp [*, errW_none, errW_some] <;> rfl), by first | exact Kd.R_nil _ _ _ _ _ | exact Kd.N_nil _ _ _ _ _ | exact Kd.V_nil _ _ _ _ _ | exact Kd.Q_nil _ _ _ _ _ | exact Kd.S_nil _ _ _ _ _, bes_⟩
      ·simp only [Option.some.injEq, Prod.mk.injEq] at H
       obtain ⟨rfl, rfl, rfl, rfl⟩ := H; go_wp2_with (first | ((with_reducible refine gate_callee (f := 104) rfl ?_); refine goesL_ (some 25) rfl rfl Tryz.func104 (by kernel_rfl) rfl #[.string a0, .int .i64 ji18] rfl (by (try simp only [List.map_toArray, List.map_cons, List.map_nil]); first | done | (simp only [hji18]; rfl) | rfl | (simp only [List.length_drop, List.length_take]; rfl)) ?_; (with_reducible refine (impl_wordEnd.calls k2 a0 ji18 t341 _ A17.out).mono ?_); rintro e w' ⟨rfl, ⟨nd, rfl⟩⟩; refine ⟨_, rfl, ?_⟩; (try (rw [drewN_self wr]; generalize hq_ : World.drewN wr _ = wr; have n0_ : Aside0 (Kd.R Kd.string 9 wr w.heap.size (fun _ => True) u338002 x338002_2) := ⟨by rw [← hq_]; exact (kdR_ HO_338002.out)⟩; have n1_ : Aside0 (wr.heap[gb336]? = some (.cells #[.string x337000_2, .string x337001_2, .slice none 0 0] 102 (0, 0))) := ⟨by rw [← hq_]; exact (bk_ BK336.out)⟩; have n2_ : Aside0 (wr.heap[gb337]? = some (.cells #[.string x338000_2, .string x338001_2, u338002] 102 (0, 0))) := ⟨by rw [← hq_]; exact (bk_ BK337.out)⟩; have n3_ : Aside0 (Below w.heap.size w wr) := ⟨by rw [← hq_]; exact bes_⟩; clear HO_338002 BK336 BK337 HB hq_; have HO_338002 := n0_; have BK336 := n1_; have BK337 := n2_; have HB := n3_; clear n0_ n1_ n2_ n3_))) | ((with_reducible refine gate_callee (f := 87) rfl ?_); refine goesL_ (some 34) rfl rfl Tryz.func87 (by kernel_rfl) rfl #[.string (a0.extract ((ji18) : Int).toNat (t341 : Int).toNat)] rfl (by (try simp only [List.map_toArray, List.map_cons, List.map_nil]); first | done | (simp only [hji18]; rfl) | rfl | (simp only [List.length_drop, List.length_take]; rfl)) ?_; (with_reducible refine (impl_isWord.calls k2 (a0.extract ((ji18) : Int).toNat (t341 : Int).toNat) false _ A22.out).mono ?_); rintro e w' ⟨rfl, ⟨nd, rfl⟩⟩; refine ⟨_, rfl, ?_⟩; (try (rw [drewN_self wr]; generalize hq_ : World.drewN wr _ = wr; have n0_ : Aside0 (Kd.R Kd.string 9 wr w.heap.size (fun _ => True) u338002 x338002_2) := ⟨by rw [← hq_]; exact (kdR_ HO_338002.out)⟩; have n1_ : Aside0 (wr.heap[gb336]? = some (.cells #[.string x337000_2, .string x337001_2, .slice none 0 0] 102 (0, 0))) := ⟨by rw [← hq_]; exact (bk_ BK336.out)⟩; have n2_ : Aside0 (wr.heap[gb337]? = some (.cells #[.string x338000_2, .string x338001_2, u338002] 102 (0, 0))) := ⟨by rw [← hq_]; exact (bk_ BK337.out)⟩; have n3_ : Aside0 (Below w.heap.size w wr) := ⟨by rw [← hq_]; exact bes_⟩; clear HO_338002 BK336 BK337 HB hq_; have HO_338002 := n0_; have BK336 := n1_; have BK337 := n2_; have HB := n3_; clear n0_ n1_ n2_ n3_)); have hnb49 := NB336_337.out; have hnc49 := NB337_336.out; obtain ⟨z50_0, z50_1, z50_2, y50_0, y50_1, y50_2⟩ := bcz3 BK336.out))
       refine bodyPost_ret (results_ct rfl _ _ gb336 102 #[.string (⟨#[]⟩ : ByteArray), .string (⟨#[]⟩ : ByteArray), .slice none 0 0] (0, 0) _ rfl (bp_ BK336.out) Tryz.underlying102 rfl (by kernel_rfl)) rfl ?_
       exact ⟨_, by first | rfl | (simp [errW_none, errW_some] <;> rfl) | (simp only [← hji18]; first | rfl | (simp [errW_none, errW_some] <;> rfl)) | (simp [*, errW_none, errW_some] <;> rfl), by first | exact Kd.R_nil _ _ _ _ _ | exact Kd.N_nil _ _ _ _ _ | exact Kd.V_nil _ _ _ _ _ | exact Kd.Q_nil _ _ _ _ _ | exact Kd.S_nil _ _ _ _ _, bes_⟩
     ·replace H := bnd_ H; obtain ⟨t340, A51, H⟩ := H; simp only [Option.some.injEq, Prod.mk.injEq] at H
      obtain ⟨rfl, rfl, rfl, rfl⟩ := H; try go_wp2
      have n_ := an4_ (Kd.R_drew HO_338002.out) (blk_drew BK336.out) (blk_drew BK337.out) (below_drew1 HB.out); clear HO_338002 BK336 BK337 HB; obtain ⟨HO_338002, BK336, BK337, HB⟩ := n_; obtain ⟨Ao53, co53, eo53⟩ := Kd.R_slice HO_338002.out; (first | subst eo53 | (injection eo53 with f1_ f2_ f3_; have f4_ := f1_.symm; have f5_ := f3_.symm; clear f1_ f2_ f3_; subst f4_; subst f5_))
      refine start_ (n := 5) (S := fun w' => w'.cell? ⟨gb337, 0, none⟩ = some (.string x338000_2) ∧ w'.cell? ⟨gb337, 1, none⟩ = some (.string x338001_2) ∧ w'.cell? ⟨gb337, 2, none⟩ = some (.slice Ao53 x338002_2.length co53)) (ds := []) #[false, false, false, false, false] (by kernel_rfl) rfl rfl ⟨(blk_cell BK337.out 0).trans rfl, (blk_cell BK337.out 1).trans rfl, (blk_cell BK337.out 2).trans rfl⟩ (fun hHeld => ?_)
      generalize wr.drew = w52 at HO_338002 BK336 BK337 HB hHeld ⊢
      refine tkt_ 0 (some 67) #[true, false, false, false, false] (by kernel_rfl) hHeld ?_
      refine tkt_ 1 (some 68) #[true, true, false, false, false] (by kernel_rfl) hHeld ?_
      refine one_ (i := 2) (N := some 69) #[true, true, true, false, false] rfl rfl (by kernel_rfl) (by decide) (fun K hK => ?_)
      refine goes_ Tryz.func105 (by kernel_rfl) rfl #[.agg #[.string x338000_2, .string x338001_2, .slice Ao53 x338002_2.length co53]] (by rfl) rfl rfl au_ ?_
      with_reducible refine (impl_isPart.calls k2 x338000_2 x338001_2 _ _ x338002_2 t340 _ ?side1 ?side2 A51.out).mono ?_
      (case side1 => exact cs_ (Kd.R_reads' HO_338002.out).2.2)
      (case side2 => exact (Kd.R_reads' HO_338002.out).2.1)
      rintro e w54 ⟨rfl, hb⟩; refine ⟨_, rfl, ?_⟩
      have n_ := an4_ (Kd.R_below (kdR_ HO_338002.out) hb) (blk_below (g := gb336) (o := .cells #[.string x337000_2, .string x337001_2, .slice none 0 0] 102 (0, 0)) (bk_ BK336.out) hb) (blk_below (g := gb337) (o := .cells #[.string x338000_2, .string x338001_2, .slice Ao53 x338002_2.length co53] 102 (0, 0)) (bk_ BK337.out) hb) (below_step bes_ hb); clear HO_338002 BK336 BK337 HB; obtain ⟨HO_338002, BK336, BK337, HB⟩ := n_; (try clear hb)
      refine hK.out _ _ ⟨(blk_cell BK337.out 0).trans rfl, (blk_cell BK337.out 1).trans rfl, (blk_cell BK337.out 2).trans rfl⟩ (fun hHeld => ?_)
      clear hK K; refine norm_ (a' := ?_) ?_ ?_
      rotate_left
      ·show Act.put _ (some 69) _ = _
       simp only [Act.put, List.setIfInBounds_toArray, List.set_cons_zero, List.set_cons_succ, i64_w, i32_w]
       rfl
      refine one_ (i := 3) (N := none) #[true, true, true, true, false] rfl rfl (by kernel_rfl) (by decide) (fun K hK => ?_)
      have hs55 : w54.cell? ⟨gb336, 0, none⟩ = some (.string x337000_2) := (blk_cell BK336.out 0).trans rfl
      have hfs55 := blk_frozen BK336.out 0; have hns55_1 := NB337_336.out; have hms55_1 := NB336_337.out; have hs56 : w54.cell? ⟨gb336, 1, none⟩ = some (.string x337001_2) := (blk_cell BK336.out 1).trans rfl
      have hfs56 := blk_frozen BK336.out 1; have hns56_1 := NB337_336.out; have hms56_1 := NB336_337.out; have hs57 : w54.cell? ⟨gb336, 2, none⟩ = some (.slice none 0 0) := (blk_cell BK336.out 2).trans rfl
      have hfs57 := blk_frozen BK336.out 2; have hns57_1 := NB337_336.out; have hms57_1 := NB336_337.out; refine skip_ (w1 := ?_) (by rfl) rfl ?_ ?_
      rotate_left
      ·go_simp
       rfl
      refine hK.out _ _ ⟨((cell_far (p := ⟨gb336, _, none⟩) NB337_336.out _).trans (((cell_far (p := ⟨gb336, _, none⟩) NB337_336.out _).trans (((cell_far (p := ⟨gb336, _, none⟩) NB337_336.out _).trans (hHeld.1)))))), ((cell_far (p := ⟨gb336, _, none⟩) NB337_336.out _).trans (((cell_far (p := ⟨gb336, _, none⟩) NB337_336.out _).trans (((cell_far (p := ⟨gb336, _, none⟩) NB337_336.out _).trans (hHeld.2.1)))))), ((cell_far (p := ⟨gb336, _, none⟩) NB337_336.out _).trans (((cell_far (p := ⟨gb336, _, none⟩) NB337_336.out _).trans (((cell_far (p := ⟨gb336, _, none⟩) NB337_336.out _).trans (hHeld.2.2))))))⟩ (fun hHeld => ?_)
      clear hK K; refine tkp_ 4 (some 3) #[true, true, true, true, true] (by kernel_rfl) ?_
      refine done_ (by kernel_rfl) ?_
      try go_wp2
      refine bodyPost_ret (results_ct rfl _ _ gb336 102 #[.string x338000_2, .string x338001_2, .slice Ao53 x338002_2.length co53] (0, 0) _ rfl (bp_ BK336.out) Tryz.underlying102 rfl (by kernel_rfl)) rfl ?_
      exact ⟨_, er_, by (with_reducible repeat (first | apply Kd.R_alloc | apply Kd.R_drewN | apply Kd.R_drew)); exact Kd.R_mono (Kd.R_far (Kd.R_far (Kd.R_far (Kd.R_types HO_338002.out BK336.out (by decide)) (fun _ hk => hk.2) _) (fun _ hk => hk.2) _) (fun _ hk => hk.2) _) (fun _ hk => trivial), bes_⟩

/-! ### impl_isSelector: function 83 -/
def impl_isSelector.l0 : Nat → List (S102) → List (S102) → Int → Int → Option (Bool)
 | 0, _, _, _, _ => none
 | k + 1, x0, x5, x6, x7 => if x7 < x6 then (if 0 ≤ x7 then (if x7 < (x5.length : Int) then ((impl_isPart.f k ((rd_T102 x5 x7).f0) ((rd_T102 x5 x7).f1) ((rd_T102 x5 x7).f2)).bind fun t348 => (if t348 = true then (impl_isSelector.l0 k x0 x5 x6 (wrap64 (x7 + 1))) else (some false))) else (none)) else (none)) else ((impl_within.f (x0.length : Int) 1 5).bind fun t349 => (some t349))
def impl_isSelector.f (k : Nat) (l0 : List (S102)) : Option (Bool) := impl_isSelector.l0 k l0 l0 (l0.length : Int) 0
theorem impl_isSelector.calls (k : Nat) (A0 : Option Addr) (c0 : Nat) (l0 : List (S102)) (r : Bool) (w : World) (hr0 : Kd.C k102 w A0 l0.length l0) (hc0 : l0.length ≤ c0) (h : impl_isSelector.f k l0 = some r) :
  Calls Tryz.prog 83 #[.slice A0 l0.length c0] w fun e w' => e = .returned (.bool r) ∧ Below w.heap.size w w' := by
 have hu102 := Tryz.underlying102; have HR0 := ak_ hr0; have HC0 := ak_ hc0; clear hr0 hc0; have HB := ak_ (Below.refl w.heap.size w); have H := h; unfold impl_isSelector.f at H
 clear h; have H' := ak_ H; clear H; go_enter Tryz.func83, Tryz.ntmps83
 go_wp2; go_loopg [7] k (fun kq v7 w' => ∃ (x7_1 : Int), v7 = .int .i64 x7_1 ∧ Aside0 (impl_isSelector.l0 kq l0 l0 (l0.length : Int) x7_1 = some r) ∧ Aside0 (kq ≤ k) ∧ Aside0 (Below w.heap.size w w'))
 case atStart => exact ⟨(0), sv_, H', ⟨Nat.le_refl _⟩, ⟨bel_⟩⟩
 case round =>
  clear H'; obtain ⟨x7_1, rfl, HA, HK1, HB⟩ := hrel; cases gk with
  | zero => exact absurd HA.out (by simp [impl_isSelector.l0])
  | succ k1 =>
   have H := HA.out; clear HA; simp only [impl_isSelector.l0] at H
   replace H := ied_ H; rcases H with ⟨c2b0, H⟩ | ⟨c2b0, H⟩
   ·replace H := itd_ H; obtain ⟨c3b0, H⟩ := H; replace H := itd_ H; obtain ⟨c4b0, H⟩ := H; replace H := bnd_ H; obtain ⟨t348, A5, H⟩ := H; replace H := itb_ H; rcases H with ⟨rfl, H⟩ | ⟨rfl, H⟩
    ·have H' := ak_ H; clear H; have p346 : (0 ≤ (x7_1 : Int)) = True := odt_
     have q346 : (x7_1 < (l0.length : Int)) = True := odt_
     obtain ⟨ad346, A346_2, c346_2, e346, hx346_0, hx346_1, hx346_2, hl346_2, hi346_2⟩ := at_T102 HR0.out x7_1 oda_ oda_; cases e346; replace hx346_0 := pb_ HB hx346_0; replace hx346_1 := pb_ HB hx346_1; replace hx346_2 := pb_ HB hx346_2; have HR346_2 := ak_ hi346_2; have HC346_2 := ak_ hl346_2; clear hi346_2 hl346_2; go_wp2_with (first | ((with_reducible refine gate_dst (N := 4) rfl ?_); refine bx_ (N := 4) (cs := #[.string (⟨#[]⟩ : ByteArray), .string (⟨#[]⟩ : ByteArray), .slice none 0 0]) (t := 102) ?_; intro gb347 hg w7 hbox hb; have n_ := an4_ (below_step bel_ hb) (hbox) (gsl_ hg HB.out) (gsl_ hg HB.out); clear HB; obtain ⟨HB, BK347, GW347, GE347⟩ := n_; clear hb hbox hg; obtain ⟨z8_0, z8_1, z8_2, y8_0, y8_1, y8_2⟩ := bcz3 BK347.out) | ((with_reducible refine gate_callee (f := 105) rfl ?_); refine gl_ (some 12) Tryz.func105 #[.agg #[.string ((rd_T102 l0 x7_1).f0), .string ((rd_T102 l0 x7_1).f1), .slice A346_2 ((rd_T102 l0 x7_1).f2).length c346_2]] ?_; (with_reducible refine (impl_isPart.calls k1 ((rd_T102 l0 x7_1).f0) ((rd_T102 l0 x7_1).f1) _ _ ((rd_T102 l0 x7_1).f2) true _ ?side1 ?side2 A5.out).mono ?_); (case side1 => exact Kd.C_below HR346_2.out bes_); (case side2 => exact HC346_2.out); rintro e w9 ⟨rfl, hb⟩; refine ⟨_, rfl, ?_⟩; have n_ := an2_ (blk_below (g := gb347) (o := .cells #[.string ((rd_T102 l0 x7_1).f0), .string ((rd_T102 l0 x7_1).f1), .slice A346_2 ((rd_T102 l0 x7_1).f2).length c346_2] 102 (0, 0)) (bp_ BK347.out) hb) (below_step bes_ hb); clear BK347 HB; obtain ⟨BK347, HB⟩ := n_; (try clear hb);(try clear hb2);(try clear hk);(try clear hi)))
     go_roundg k1
     case measure => have := HK1.out; omega
     case rel => exact ⟨(wrap64 (x7_1 + 1)), sv_, H', ⟨by have := HK1.out; omega⟩, ⟨bes_⟩⟩
    ·obtain rfl := Option.some.inj H
     have p346 : (0 ≤ (x7_1 : Int)) = True := odt_
     have q346 : (x7_1 < (l0.length : Int)) = True := odt_
     obtain ⟨ad346, A346_2, c346_2, e346, hx346_0, hx346_1, hx346_2, hl346_2, hi346_2⟩ := at_T102 HR0.out x7_1 oda_ oda_; cases e346; replace hx346_0 := pb_ HB hx346_0; replace hx346_1 := pb_ HB hx346_1; replace hx346_2 := pb_ HB hx346_2; have HR346_2 := ak_ hi346_2; have HC346_2 := ak_ hl346_2; clear hi346_2 hl346_2; go_wp2_with (first | ((with_reducible refine gate_dst (N := 4) rfl ?_); refine bx_ (N := 4) (cs := #[.string (⟨#[]⟩ : ByteArray), .string (⟨#[]⟩ : ByteArray), .slice none 0 0]) (t := 102) ?_; intro gb347 hg w10 hbox hb; have n_ := an4_ (below_step bel_ hb) (hbox) (gsl_ hg HB.out) (gsl_ hg HB.out); clear HB; obtain ⟨HB, BK347, GW347, GE347⟩ := n_; clear hb hbox hg; obtain ⟨z11_0, z11_1, z11_2, y11_0, y11_1, y11_2⟩ := bcz3 BK347.out) | ((with_reducible refine gate_callee (f := 105) rfl ?_); refine gl_ (some 12) Tryz.func105 #[.agg #[.string ((rd_T102 l0 x7_1).f0), .string ((rd_T102 l0 x7_1).f1), .slice A346_2 ((rd_T102 l0 x7_1).f2).length c346_2]] ?_; (with_reducible refine (impl_isPart.calls k1 ((rd_T102 l0 x7_1).f0) ((rd_T102 l0 x7_1).f1) _ _ ((rd_T102 l0 x7_1).f2) false _ ?side1 ?side2 A5.out).mono ?_); (case side1 => exact Kd.C_below HR346_2.out bes_); (case side2 => exact HC346_2.out); rintro e w12 ⟨rfl, hb⟩; refine ⟨_, rfl, ?_⟩; have n_ := an2_ (blk_below (g := gb347) (o := .cells #[.string ((rd_T102 l0 x7_1).f0), .string ((rd_T102 l0 x7_1).f1), .slice A346_2 ((rd_T102 l0 x7_1).f2).length c346_2] 102 (0, 0)) (bp_ BK347.out) hb) (below_step bes_ hb); clear BK347 HB; obtain ⟨BK347, HB⟩ := n_; (try clear hb);(try clear hb2);(try clear hk);(try clear hi)))
     go_ret
     exact ⟨er_, bes_⟩
   ·replace H := bnd_ H; obtain ⟨t349, A13, H⟩ := H; obtain rfl := Option.some.inj H
    go_wp2_with (first | ((with_reducible refine gate_callee (f := 37) rfl ?_); refine gl_ (some 17) Tryz.func37 #[.int .i64 (l0.length : Int), .int .i64 1, .int .i64 5] ?_; (with_reducible refine (impl_within.calls (l0.length : Int) 1 5 t349 _ A13.out).mono ?_); rintro e w' ⟨rfl, ⟨nd, rfl⟩⟩; refine ⟨_, rfl, ?_⟩))
    go_ret
    exact ⟨er_, bel_⟩

/-! ### impl_ReadSelector: function 63 -/
def impl_ReadSelector.l0 : Nat → List (S102) → List ByteArray → Int → Int → Option ((List (S102)) × Bool)
 | 0, _, _, _, _ => none
 | k + 1, x4, x11, x12, x13 => if x13 < x12 then (if 0 ≤ x13 then (if x13 < (x11.length : Int) then ((impl_readPart.f k (rdOf ByteArray.empty x11 x13)).bind fun bt357 => (if bt357.2.2.2 = true then (if x4.length < 2513169434916 then (impl_ReadSelector.l0 k (x4 ++ [(⟨bt357.1, bt357.2.1, bt357.2.2.1⟩ : S102)]) x11 x12 (wrap64 (x13 + 1))) else (none)) else (some (([] : List (S102)), false)))) else (none)) else (none)) else ((impl_isSelector.f k x4).bind fun t367 => (if t367 = true then (some (x4, true)) else (some (([] : List (S102)), false))))
def impl_ReadSelector.f (k : Nat) (a0 : ByteArray) : Option ((List (S102)) × Bool) := (impl_fields.f a0).bind fun t353 => (impl_ReadSelector.l0 k (([] : List (S102))) t353 (t353.length : Int) 0)
theorem impl_ReadSelector.calls (k : Nat) (a0 : ByteArray) (r1 : List (S102)) (r2 : Bool) (w : World) (h : impl_ReadSelector.f k a0 = some (r1, r2)) :
  Calls Tryz.prog 63 #[.string a0] w fun e w' => ∃ v0_ : Value, e = .returned (.tuple #[v0_, .bool r2]) ∧ Kd.S k102 102 w' w.heap.size (fun _ => True) v0_ r1 ∧ Below w.heap.size w w' := by
 have hu102 := Tryz.underlying102; have HB := ak_ (Below.refl w.heap.size w); have H := h; unfold impl_ReadSelector.f at H
 clear h; obtain ⟨y350, hy350⟩ : ∃ y_ : List (S102), y_ = (([] : List (S102))) := ⟨_, rfl⟩
 replace H : ((impl_fields.f a0).bind fun t353 => (impl_ReadSelector.l0 k y350 t353 (t353.length : Int) 0)) = some (r1, r2) := by first | (rw [hy350]; with_reducible exact H) | (have H2_ := (Option.bind_some _ _).symm.trans H; rw [hy350]; with_reducible exact H2_) | (have H2_ := (Option.bind_some _ _).symm.trans H; with_reducible exact H2_) | with_reducible exact H | (rw [hy350]; exact H) | exact H
 have Ny350 := ak_ hy350; clear hy350; replace H := bnd_ H; obtain ⟨t353, A2, H⟩ := H; have H' := ak_ H; clear H; go_enter Tryz.func63, Tryz.ntmps63
 go_wp2_with (first | ((with_reducible refine gate_dst (N := 9) rfl ?_); refine Kd.S_lit k102 _ 102 ?hg (N := 9) ?hd (xs := ([] : List (S102))) (inner := []) (ok := fun _ => True) (okp := fun _ => True) ?hr ?hp (fun _ hk => hk) trivial (Below.refl _ _) (Nat.le_refl _) (by simp) ?_; (case hd => rfl); (case hg => rfl); (case hr => first | (go_simp; done) | (go_simp; rfl)); (case hp => exact (Reps.none _ _)); intro v351 w3 ho4 hb hg_ hnew_; clear hg_ hnew_; (first | rw [← Ny350.out] at ho4 | (simp only [Int.reduceToNat] at ho4; rw [← Ny350.out] at ho4)); have n_ := an2_ (Kd.S_lower ho4 (below_size bel_)) (below_step bel_ hb); clear HB; obtain ⟨HO352, HB⟩ := n_; clear hb ho4) | ((with_reducible refine gate_callee (f := 81) rfl ?_); refine gl_ (some 11) Tryz.func81 #[.string a0] ?_; (with_reducible refine (impl_fields.calls a0 t353 _ A2.out).mono ?_); rintro e w5 ⟨v354, rfl, ho0, hb⟩; refine ⟨_, rfl, ?_⟩; have n_ := an3_ (Kd.S_elder' (kdS_ HO352.out) (Kd.R_base ho0) hb) (Kd.R_lower ho0 (below_size bel_)) (below_step bel_ hb); clear HO352 HB; obtain ⟨HO352, HO355, HB⟩ := n_; (try clear hb);(try clear hb2);(try clear hk);(try clear hi);(try clear ho0); obtain ⟨Ao6, co6, eo6⟩ := Kd.R_slice HO355.out; subst eo6))
 go_loopg [4, 13] k (fun kq v4 v13 w' => ∃ (x4_1 : List (S102)) (x13_1 : Int), v13 = .int .i64 x13_1 ∧ Aside0 (impl_ReadSelector.l0 kq x4_1 t353 (t353.length : Int) x13_1 = some (r1, r2)) ∧ Aside0 (kq ≤ k) ∧ Aside0 (Kd.S k102 102 w' w.heap.size (fun k_ => some k_ ≠ ((.slice Ao6 t353.length co6) : Value).ownBlock) v4 x4_1) ∧ Aside0 (Kd.R Kd.string 9 w' w.heap.size (fun _ => True) (.slice Ao6 t353.length co6) t353) ∧ Aside0 (Below w.heap.size w w'))
 case atStart => exact ⟨(y350), (0), sv_, H', ⟨Nat.le_refl _⟩, ⟨by (with_reducible repeat (first | apply Kd.S_alloc | apply Kd.S_drewN | apply Kd.S_drew)); exact Kd.S_mono HO352.out (fun _ hk => hk.2)⟩, ⟨kdR_ HO355.out⟩, ⟨bel_⟩⟩
 case round =>
  clear H'; (try clear p2);(try clear c6)
  obtain ⟨x4_1, x13_1, rfl, HA, HK1, HO_4, HO_11, HB⟩ := hrel; cases gk with
  | zero => exact absurd HA.out (by simp [impl_ReadSelector.l0])
  | succ k1 =>
   have H := HA.out; clear HA; simp only [impl_ReadSelector.l0] at H
   replace H := ied_ H; rcases H with ⟨c7b0, H⟩ | ⟨c7b0, H⟩
   ·replace H := itd_ H; obtain ⟨c8b0, H⟩ := H; replace H := itd_ H; obtain ⟨c9b0, H⟩ := H; replace H := bnd_ H; obtain ⟨⟨t357, t358, t359, t362⟩, A10, H⟩ := H; (try dsimp only at H); replace H := itb_ H; rcases H with ⟨rfl, H⟩ | ⟨rfl, H⟩
    ·replace H := itn_ H; obtain ⟨c12, H⟩ := H; have LMc12 := ak_ c12; clear c12; obtain ⟨y364, hy364⟩ : ∃ y_ : List (S102), y_ = (x4_1 ++ [(⟨t357, t358, t359⟩ : S102)]) := ⟨_, rfl⟩
     replace H : (impl_ReadSelector.l0 k1 y364 t353 (t353.length : Int) (wrap64 (x13_1 + 1))) = some (r1, r2) := by first | (rw [hy364]; with_reducible exact H) | (have H2_ := (Option.bind_some _ _).symm.trans H; rw [hy364]; with_reducible exact H2_) | (have H2_ := (Option.bind_some _ _).symm.trans H; with_reducible exact H2_) | with_reducible exact H | (rw [hy364]; exact H) | exact H
     have Ny364 := ak_ hy364; clear hy364; have H' := ak_ H; clear H; have p356 : 0 ≤ (x13_1 : Int) := oda_
     have q356 : x13_1 < (t353.length : Int) := oda_
     obtain ⟨ad356, e356, hx356_0⟩ := Kd.at_string (Kd.R_reads' HO_11.out).2.2 x13_1 p356 q356; cases e356; replace p356 := eq_true p356; replace q356 := eq_true q356; go_wp2_with (first | ((with_reducible refine gate_callee (f := 82) rfl ?_); refine gl_ (some 19) Tryz.func82 #[.string (rdOf ByteArray.empty t353 x13_1)] ?_; (with_reducible refine (impl_readPart.calls k1 (rdOf ByteArray.empty t353 x13_1) t357 t358 t359 true _ A10.out).mono ?_); rintro e w13 ⟨v360, rfl, ho0, hb⟩; refine ⟨_, rfl, ?_⟩; have n_ := an4_ (Kd.S_elder' (kdS_ HO_4.out) (Kd.R_base ho0) hb) (Kd.R_elder' (kdR_ HO_11.out) (Kd.R_base ho0) hb) (Kd.R_lower (Kd.R_new' ho0 (Kd.R_lt (kdR_ HO_11.out))) (below_size bel_)) (below_step bel_ hb); clear HO_4 HO_11 HB; obtain ⟨HO_4, HO_11, HO361, HB⟩ := n_; (try clear hb);(try clear hb2);(try clear hk);(try clear hi);(try clear ho0)) | ((with_reducible refine gate_dst (N := 7) rfl ?_); refine bx_ (N := 7) (cs := #[.string (⟨#[]⟩ : ByteArray), .string (⟨#[]⟩ : ByteArray), .slice none 0 0]) (t := 102) ?_; intro gb363 hg w14 hbox hb; have n_ := an7_ (Kd.S_below (Kd.S_elderB (kdS_ HO_4.out) gb363 (Nat.le_of_eq hg.symm)) hb) (Kd.R_below (kdR_ HO_11.out) hb) (Kd.R_below (kdR_ HO361.out) hb) (below_step bel_ hb) (hbox) (gsl_ hg HB.out) (gsl_ hg HB.out); clear HO_4 HO_11 HO361 HB; obtain ⟨HO_4, HO_11, HO361, HB, BK363, GW363, GE363⟩ := n_; clear hb hbox hg; obtain ⟨z15_0, z15_1, z15_2, y15_0, y15_1, y15_2⟩ := bcz3 BK363.out; obtain ⟨Ao16, co16, eo16⟩ := Kd.R_slice HO361.out; subst eo16) | ((with_reducible refine gate_store (t := 102) (p := 7) rfl ?_); refine store_event (t := 102) (p := 7) (v := ?vo_w17) (w1 := (((w14.setCell ⟨gb363, 0, none⟩ (.string t357)).setCell ⟨gb363, 1, none⟩ (.string t358)).setCell ⟨gb363, 2, none⟩ (.slice Ao16 t359.length co16))) ?hg ?ho ?hn ?hr ?_; (case ho => rfl); (case hg => rfl); (case hn => rfl); (case hr => first | (go_simp; done) | (go_simp; rfl)); intro w17 hw; have n0_ : Aside0 (Kd.S k102 102 w17 w.heap.size (fun k_ => some k_ ≠ (.slice (some ad356) t353.length co6 : Value).ownBlock ∧ some k_ ≠ (.slice Ao16 t359.length co16 : Value).ownBlock ∧ k_ ≠ gb363) u4 x4_1) := ⟨(by rw [hw]; exact (by (with_reducible repeat (first | apply Kd.S_alloc | apply Kd.S_drewN | apply Kd.S_drew)); exact Kd.S_mono (Kd.S_far (Kd.S_far (Kd.S_far (Kd.S_mono HO_4.out (fun k_ hk => (⟨hk, hk.2⟩ : _ ∧ k_ ≠ gb363))) (fun _ hk => hk.2) _) (fun _ hk => hk.2) _) (fun _ hk => hk.2) _) (fun _ hk => ⟨hk.1.1.1, ⟨hk.1.1.2, hk.1.2⟩⟩)))⟩; have n1_ : Aside0 (Kd.R Kd.string 9 w17 w.heap.size (fun k_ => some k_ ≠ (.slice Ao16 t359.length co16 : Value).ownBlock) (.slice (some ad356) t353.length co6) t353) := ⟨(by rw [hw]; exact (by (with_reducible repeat (first | apply Kd.R_alloc | apply Kd.R_drewN | apply Kd.R_drew)); exact Kd.R_mono (Kd.R_far (Kd.R_far (Kd.R_far (Kd.R_types HO_11.out BK363.out (by decide)) (fun _ hk => hk.2) _) (fun _ hk => hk.2) _) (fun _ hk => hk.2) _) (fun _ hk => hk.1.2)))⟩; have n2_ : Aside0 (Kd.R Kd.string 9 w17 w.heap.size (fun k_ => some k_ ≠ (.slice (some ad356) t353.length co6 : Value).ownBlock) (.slice Ao16 t359.length co16) t359) := ⟨(by rw [hw]; exact (by (with_reducible repeat (first | apply Kd.R_alloc | apply Kd.R_drewN | apply Kd.R_drew)); exact Kd.R_mono (Kd.R_far (Kd.R_far (Kd.R_far (Kd.R_types HO361.out BK363.out (by decide)) (fun _ hk => hk.2) _) (fun _ hk => hk.2) _) (fun _ hk => hk.2) _) (fun _ hk => hk.1.2)))⟩; have n3_ : Aside0 (w17.heap[gb363]? = some (.cells #[.string t357, .string t358, .slice Ao16 t359.length co16] 102 (0, 0))) := ⟨(by rw [hw]; exact (bp_ BK363.out))⟩; have n4_ : Aside0 (Below w.heap.size w w17) := ⟨(by rw [hw]; exact bes_)⟩; clear hw; clear HO_4; clear HO_11; clear HO361; clear BK363; clear HB; have HO_4 := n0_; have HO_11 := n1_; have HO361 := n2_; have BK363 := n3_; have HB := n4_; clear n0_ n1_ n2_ n3_ n4_; obtain ⟨z18_0, z18_1, z18_2, y18_0, y18_1, y18_2⟩ := bcz3 BK363.out) | ((with_reducible refine gate_builtin (b := .append) (xs := #[.tmp 24, .tmp 26]) rfl ?_); at_builtin; refine Kd.S_append k102 (w0 := w) w.heap.size rfl (.tmp 24) (.tmp 26) 78 102 (.agg #[(.string ⟨#[]⟩), (.string ⟨#[]⟩), (.slice none 0 0)]) 56 rfl Tryz.underlying78 info102 rfl (by decide) (by omega) u4 x4_1 (⟨t357, t358, t359⟩ : S102) [.string t357, .string t358, .slice Ao16 t359.length co16] (fun k_ => some k_ ≠ (.slice (some ad356) t353.length co6 : Value).ownBlock ∧ k_ ≠ gb363) (fun k_ => some k_ = (.slice Ao16 t359.length co16 : Value).ownBlock) rfl rfl ?aP (fun k_ hk_ => ((Kd.R_mono (ok' := fun k_ => ((fun k_ => some k_ ≠ (.slice (some ad356) t353.length co6 : Value).ownBlock ∧ k_ ≠ gb363)) k_ ∧ some k_ ≠ (u4 : Value).ownBlock) (Kd.R_types (Kd.R_apart' (HO361.out) (Kd.S_typed HO_4.out) (by decide)) BK363.out (by decide)) (fun k_ hk => ⟨⟨hk.1.1, hk.2⟩, hk.1.2⟩))).1 k_ hk_.symm) ?aF ?aO ?aB ?aS ?aL ?_; (case aP => exact k102_mkM _ _ _ (⟨t357, t358, t359⟩ : S102) (Kd.R_mono (Kd.R_tight rfl (Kd.R_mono (ok' := fun k_ => ((fun k_ => some k_ ≠ (.slice (some ad356) t353.length co6 : Value).ownBlock ∧ k_ ≠ gb363)) k_ ∧ some k_ ≠ (u4 : Value).ownBlock) (Kd.R_types (Kd.R_apart' (HO361.out) (Kd.S_typed HO_4.out) (by decide)) BK363.out (by decide)) (fun k_ hk => ⟨⟨hk.1.1, hk.2⟩, hk.1.2⟩))) (fun _ h_ => h_))); (case aB => exact bes_); (case aF => exact (fun k_ hk => ⟨Kd.fresh' (Kd.R_lt (kdR_ HO_11.out)) k_ hk, Kd.freshB (g := gb363) (o := .cells #[.string t357, .string t358, .slice Ao16 t359.length co16] 102 (0, 0)) (bk_ BK363.out) k_ hk⟩)); (case aO => exact (by (with_reducible repeat (first | apply Kd.S_alloc | apply Kd.S_drewN | apply Kd.S_drew)); exact Kd.S_mono HO_4.out (fun k_ hk => ⟨⟨hk.1, hk.2.2⟩, fun e_ => hk.2.1 e_⟩))); (case aS => exact (below_size bes_)); (case aL => have := LMc12.out; omega); intro v365 w19 ho hb hg hat; rw [← Ny364.out] at ho; have n_ := an4_ (Kd.R_over' (kdR_ HO_11.out) (Kd.S_typed (kdS_ HO_4.out)) (by decide) hg) (blk_grown (g := gb363) (o := .cells #[.string t357, .string t358, .slice Ao16 t359.length co16] 102 (0, 0)) (bk_ BK363.out) hg (Kd.S_away HO_4.out (fun _ hk => hk.2.2))) (hb) (ho); clear HO_11 BK363 HB HO_4 HO361; obtain ⟨HO_11, BK363, HB, HO366⟩ := n_; clear ho hb hg hat))
     go_roundg k1
     case measure => have := HK1.out; omega
     case rel => exact ⟨(y364), (wrap64 (x13_1 + 1)), sv_, H', ⟨by have := HK1.out; omega⟩, ⟨by (with_reducible repeat (first | apply Kd.S_alloc | apply Kd.S_drewN | apply Kd.S_drew)); exact Kd.S_mono HO366.out (fun _ hk => hk.1)⟩, ⟨by (with_reducible repeat (first | apply Kd.R_alloc | apply Kd.R_drewN | apply Kd.R_drew)); exact Kd.R_mono HO_11.out (fun _ hk => trivial)⟩, ⟨bes_⟩⟩
    ·simp only [Option.some.injEq, Prod.mk.injEq] at H
     obtain ⟨rfl, rfl⟩ := H; have p356 : 0 ≤ (x13_1 : Int) := oda_
     have q356 : x13_1 < (t353.length : Int) := oda_
     obtain ⟨ad356, e356, hx356_0⟩ := Kd.at_string (Kd.R_reads' HO_11.out).2.2 x13_1 p356 q356; cases e356; replace p356 := eq_true p356; replace q356 := eq_true q356; go_wp2_with (first | ((with_reducible refine gate_callee (f := 82) rfl ?_); refine gl_ (some 19) Tryz.func82 #[.string (rdOf ByteArray.empty t353 x13_1)] ?_; (with_reducible refine (impl_readPart.calls k1 (rdOf ByteArray.empty t353 x13_1) t357 t358 t359 false _ A10.out).mono ?_); rintro e w20 ⟨v360, rfl, ho0, hb⟩; refine ⟨_, rfl, ?_⟩; have n_ := an4_ (Kd.S_elder' (kdS_ HO_4.out) (Kd.R_base ho0) hb) (Kd.R_elder' (kdR_ HO_11.out) (Kd.R_base ho0) hb) (Kd.R_lower (Kd.R_new' ho0 (Kd.R_lt (kdR_ HO_11.out))) (below_size bel_)) (below_step bel_ hb); clear HO_4 HO_11 HB; obtain ⟨HO_4, HO_11, HO361, HB⟩ := n_; (try clear hb);(try clear hb2);(try clear hk);(try clear hi);(try clear ho0)) | ((with_reducible refine gate_dst (N := 7) rfl ?_); refine bx_ (N := 7) (cs := #[.string (⟨#[]⟩ : ByteArray), .string (⟨#[]⟩ : ByteArray), .slice none 0 0]) (t := 102) ?_; intro gb363 hg w21 hbox hb; have n_ := an7_ (Kd.S_below (Kd.S_elderB (kdS_ HO_4.out) gb363 (Nat.le_of_eq hg.symm)) hb) (Kd.R_below (kdR_ HO_11.out) hb) (Kd.R_below (kdR_ HO361.out) hb) (below_step bel_ hb) (hbox) (gsl_ hg HB.out) (gsl_ hg HB.out); clear HO_4 HO_11 HO361 HB; obtain ⟨HO_4, HO_11, HO361, HB, BK363, GW363, GE363⟩ := n_; clear hb hbox hg; obtain ⟨z22_0, z22_1, z22_2, y22_0, y22_1, y22_2⟩ := bcz3 BK363.out; obtain ⟨Ao23, co23, eo23⟩ := Kd.R_slice HO361.out; subst eo23))
     go_ret2
     exact ⟨_, er_, by first | exact Kd.S_nil _ _ _ _ _ | exact Kd.N_nil _ _ _ _ _ | exact Kd.V_nil _ _ _ _ _ | exact Kd.Q_nil _ _ _ _ _ | exact Kd.R_nil _ _ _ _ _, bes_⟩
   ·replace H := bnd_ H; obtain ⟨t367, A24, H⟩ := H; replace H := itb_ H; rcases H with ⟨rfl, H⟩ | ⟨rfl, H⟩
    ·simp only [Option.some.injEq, Prod.mk.injEq] at H
     obtain ⟨rfl, rfl⟩ := H; obtain ⟨Ao26, co26, eo26⟩ := Kd.S_slice HO_4.out; subst eo26; go_wp2_with (first | ((with_reducible refine gate_callee (f := 83) rfl ?_); refine gl_ (some 30) Tryz.func83 #[.slice Ao26 x4_1.length co26] ?_; (with_reducible refine (impl_isSelector.calls k1 _ _ x4_1 true _ ?side1 ?side2 A24.out).mono ?_); (case side1 => exact cs_ (Kd.S_reads' HO_4.out).2.2); (case side2 => exact (Kd.S_reads' HO_4.out).2.1); rintro e w27 ⟨rfl, hb⟩; refine ⟨_, rfl, ?_⟩; have n_ := an3_ (Kd.S_below (kdS_ HO_4.out) hb) (Kd.R_below (kdR_ HO_11.out) hb) (below_step bel_ hb); clear HO_4 HO_11 HB; obtain ⟨HO_4, HO_11, HB⟩ := n_; (try clear hb);(try clear hb2);(try clear hk);(try clear hi)))
     go_ret2
     exact ⟨_, er_, by (with_reducible repeat (first | apply Kd.S_alloc | apply Kd.S_drewN | apply Kd.S_drew)); exact Kd.S_mono HO_4.out (fun _ hk => trivial), bel_⟩
    ·simp only [Option.some.injEq, Prod.mk.injEq] at H
     obtain ⟨rfl, rfl⟩ := H; obtain ⟨Ao28, co28, eo28⟩ := Kd.S_slice HO_4.out; subst eo28; go_wp2_with (first | ((with_reducible refine gate_callee (f := 83) rfl ?_); refine gl_ (some 30) Tryz.func83 #[.slice Ao28 x4_1.length co28] ?_; (with_reducible refine (impl_isSelector.calls k1 _ _ x4_1 false _ ?side1 ?side2 A24.out).mono ?_); (case side1 => exact cs_ (Kd.S_reads' HO_4.out).2.2); (case side2 => exact (Kd.S_reads' HO_4.out).2.1); rintro e w29 ⟨rfl, hb⟩; refine ⟨_, rfl, ?_⟩; have n_ := an3_ (Kd.S_below (kdS_ HO_4.out) hb) (Kd.R_below (kdR_ HO_11.out) hb) (below_step bel_ hb); clear HO_4 HO_11 HB; obtain ⟨HO_4, HO_11, HB⟩ := n_; (try clear hb);(try clear hb2);(try clear hk);(try clear hi)))
     go_ret2
     exact ⟨_, er_, by first | exact Kd.S_nil _ _ _ _ _ | exact Kd.N_nil _ _ _ _ _ | exact Kd.V_nil _ _ _ _ _ | exact Kd.Q_nil _ _ _ _ _ | exact Kd.R_nil _ _ _ _ _, bel_⟩

/-! ### impl_readSelectors: function 44 -/
/-- a row of rows that are told apart (Kd.S), as an element. -/
def sliceS_ {α : Type} (e : Nat) (d : Kd α) : Kd (List α) where
 sz := 1
 E := e :: d.E
 K := (Kd.slice e d).K
 M := fun w base ok xs cs => ∃ v, cs = [v] ∧ Kd.S d e w base ok v xs
 K_len := (Kd.slice e d).K_len
 K_one := (Kd.slice e d).K_one
 K_below := (Kd.slice e d).K_below
 K_of_M := by
  rintro w base ok x cs ⟨v, rfl, h⟩; obtain ⟨A, c, rfl, hl, hr⟩ := Kd.S_reads h; exact ⟨A, c, rfl, hl, hr⟩
 M_mono := by
  rintro w base ok ok' x cs hok ⟨v, rfl, h⟩; exact ⟨v, rfl, Kd.S_mono h hok⟩
 M_bound := by
  rintro w base ok x cs ⟨v, rfl, h⟩; exact ⟨v, rfl, Kd.S_bound h⟩
 M_move := by
  rintro w w1 base ok x cs hm ⟨v, rfl, h⟩; exact ⟨v, rfl, Kd.S_move h hm⟩
 M_lower := by
  rintro w base base' ok x cs hb ⟨v, rfl, h⟩; exact ⟨v, rfl, Kd.S_lower h hb⟩
def kSel_ : Kd (List S102) := sliceS_ 102 k102
def kRule_ : Kd S50 := Kd.iso (Kd.pair (sliceS_ 78 kSel_) (Kd.slice 80 k80)) (fun x : S50 => (x.f0, x.f1))
theorem kRule_mkM_ {w : World} {base : Nat} {ok : Nat → Prop} {x : S50} {v0 v1 : Value} (g0 : Kd.S kSel_ 78 w base ok v0 x.f0) (g1 : Kd.R k80 80 w base ok v1 x.f1) : kRule_.M w base ok x [v0, v1] := ⟨[v0], [v1], rfl, ⟨v0, rfl, g0⟩, ⟨v1, rfl, g1⟩⟩
theorem kRule_openM_ {w : World} {base : Nat} {ok : Nat → Prop} {x : S50} {cs : List Value} (h : kRule_.M w base ok x cs) : ∃ v0 v1, cs = [v0, v1] ∧ Kd.S kSel_ 78 w base ok v0 x.f0 ∧ Kd.R k80 80 w base ok v1 x.f1 := by
 obtain ⟨c0, c1, rfl, ⟨v0, rfl, g0⟩, ⟨v1, rfl, g1⟩⟩ := h; exact ⟨v0, v1, rfl, g0, g1⟩
theorem S_empty_ {α : Type} {d : Kd α} {e : Nat} {w : World} {base : Nat} {ok : Nat → Prop} {v : Value} {y : List α} (h : Kd.R d e w base ok v y) (hy : y = []) : Kd.S d e w base ok v y := by
 subst hy; obtain ⟨h0, inner, ho, hr⟩ := h; exact ⟨fun _ => 0, h0, inner, ho, by have := hr.1; simpa using this, fun j p hj => by simp at hj⟩
/-- what is elder and what was made since: one bound tells them apart. -/
theorem oldnew_ {α β : Type} {d : Kd α} {d' : Kd β} {e e' base : Nat} {ok ok' : Nat → Prop} {W w1 : World} {u v : Value} {xs : List α} {ys : List β} (h4 : Kd.S d e W base ok u xs) (ho : Kd.S d' e' w1 W.heap.size ok' v ys) (hb : Below W.heap.size W w1) :
  ∃ W0 : World, Below W0.heap.size W0 w1 ∧ Kd.S d e w1 base (fun k => ok k ∧ k < W0.heap.size) u xs ∧ Kd.S d' e' w1 W.heap.size (fun k => W0.heap.size ≤ k) v ys :=
 ⟨W, hb, Kd.S_old h4 hb, Kd.S_mono (Kd.S_bound ho) (fun _ hk => hk.2.1)⟩
theorem R_mine_ {α : Type} {d : Kd α} {e N : Nat} {ok : Nat → Prop} {W w1 : World} {v : Value} {xs : List α} (ho : Kd.R d e w1 W.heap.size ok v xs) (hn : N ≤ W.heap.size) : Kd.R d e w1 W.heap.size (fun k => N ≤ k) v xs :=
 Kd.R_mono (Kd.R_bound ho) (fun _ hk => Nat.le_trans hn hk.2.1)
def impl_readSelectors.l0 : Nat → List (List (S102)) → List ByteArray → Int → Int → Option ((List (List (S102))) × Bool)
 | 0, _, _, _, _ => none
 | k + 1, x4, x11, x12, x13 => if x13 < x12 then (if 0 ≤ x13 then (if x13 < (x11.length : Int) then ((impl_ReadSelector.f k (rdOf ByteArray.empty x11 x13)).bind fun bt375 => (if bt375.2 = true then (if x4.length < 5864062014805 then (impl_readSelectors.l0 k (x4 ++ [bt375.1]) x11 x12 (wrap64 (x13 + 1))) else (none)) else (some (([] : List (List (S102))), false)))) else (none)) else (none)) else (some (x4, true))
def impl_readSelectors.f (k : Nat) (a0 : ByteArray) : Option ((List (List (S102))) × Bool) := (strings_Split.f a0 (⟨#[44]⟩ : ByteArray)).bind fun t371 => (impl_readSelectors.l0 k (([] : List (List (S102)))) t371 (t371.length : Int) 0)
theorem impl_readSelectors.calls (k : Nat) (a0 : ByteArray) (r1 : List (List (S102))) (r2 : Bool) (w : World) (h : impl_readSelectors.f k a0 = some (r1, r2)) (hT_ : U8Tabs_ w) :
  Calls Tryz.prog 44 #[.string a0] w fun e w' => ∃ v0_ : Value, e = .returned (.tuple #[v0_, .bool r2]) ∧ Kd.S kSel_ 78 w' w.heap.size (fun _ => True) v0_ r1 ∧ Below w.heap.size w w' := by
 have HB := ak_ (Below.refl w.heap.size w); have H := h; unfold impl_readSelectors.f at H
 clear h; obtain ⟨y368, hy368⟩ : ∃ y_ : List (List (S102)), y_ = (([] : List (List (S102)))) := ⟨_, rfl⟩
 replace H : ((strings_Split.f a0 (⟨#[44]⟩ : ByteArray)).bind fun t371 => (impl_readSelectors.l0 k y368 t371 (t371.length : Int) 0)) = some (r1, r2) := by first | (rw [hy368]; with_reducible exact H) | (have H2_ := (Option.bind_some _ _).symm.trans H; rw [hy368]; with_reducible exact H2_) | (have H2_ := (Option.bind_some _ _).symm.trans H; with_reducible exact H2_) | with_reducible exact H | (rw [hy368]; exact H) | exact H
 have Ny368 := ak_ hy368; clear hy368; replace H := bnd_ H; obtain ⟨t371, A2, H⟩ := H; have H' := ak_ H; clear H; go_enter Tryz.func44, Tryz.ntmps44
 go_wp2_with (first | ((with_reducible refine gate_dst (N := 9) rfl ?_); refine Kd.R_lit kSel_ _ 78 ?hg (N := 9) ?hd (xs := ([] : List (List (S102)))) (inner := []) (ok := fun _ => True) (okp := fun _ => True) ?hr ?hp (fun _ hk => hk) trivial (Below.refl _ _) (Nat.le_refl _) (by simp) ?_; (case hd => rfl); (case hg => rfl); (case hr => first | (go_simp; done) | (go_simp; rfl)); (case hp => exact (Reps.none _ _)); intro v369 w3 ho4 hb hg_ hnew_; clear hg_ hnew_; (first | rw [← Ny368.out] at ho4 | (simp only [Int.reduceToNat] at ho4; rw [← Ny368.out] at ho4)); have n_ := an2_ (Kd.S_lower (S_empty_ ho4 Ny368.out) (below_size bel_)) (below_step bel_ hb); clear HB; obtain ⟨HO370, HB⟩ := n_; clear hb ho4) | ((with_reducible refine gate_callee (f := 62) rfl ?_); refine gl_ (some 11) Tryz.func62 #[.string a0, .string (⟨#[44]⟩ : ByteArray)] ?_; (with_reducible refine (strings_Split.calls a0 (⟨#[44]⟩ : ByteArray) t371 _ A2.out ?hT_).mono ?_); (case hT_ => exact utf8_keep_ hT_ bel_); rintro e w5 ⟨v372, rfl, ho0, hb⟩; refine ⟨_, rfl, ?_⟩; have n_ := an3_ (Kd.S_below (kdS_ HO370.out) hb) (Kd.R_lower ho0 (below_size bel_)) (below_step bel_ hb); clear HO370 HB; obtain ⟨HO370, HO373, HB⟩ := n_; (try clear hb);(try clear hb2);(try clear hk);(try clear hi);(try clear ho0); obtain ⟨Ao6, co6, eo6⟩ := Kd.R_slice HO373.out; subst eo6))
 go_loopg [4, 13] k (fun kq v4 v13 w' => ∃ (x4_1 : List (List (S102))) (x13_1 : Int), v13 = .int .i64 x13_1 ∧ Aside0 (impl_readSelectors.l0 kq x4_1 t371 (t371.length : Int) x13_1 = some (r1, r2)) ∧ Aside0 (kq ≤ k) ∧ Aside0 (Kd.S kSel_ 78 w' w.heap.size (fun _ => True) v4 x4_1) ∧ Aside0 (Kd.R Kd.string 9 w' w.heap.size (fun _ => True) (.slice Ao6 t371.length co6) t371) ∧ Aside0 (Below w.heap.size w w'))
 case atStart => exact ⟨(y368), (0), sv_, H', ⟨Nat.le_refl _⟩, ⟨kdS_ HO370.out⟩, ⟨kdR_ HO373.out⟩, ⟨bel_⟩⟩
 case round =>
  clear H'; (try clear p2);(try clear c4);(try clear c6)
  obtain ⟨x4_1, x13_1, rfl, HA, HK1, HO_4, HO_11, HB⟩ := hrel; cases gk with
  | zero => exact absurd HA.out (by simp [impl_readSelectors.l0])
  | succ k1 =>
   have H := HA.out; clear HA; simp only [impl_readSelectors.l0] at H
   replace H := ied_ H; rcases H with ⟨c7b0, H⟩ | ⟨c7b0, H⟩
   ·replace H := itd_ H; obtain ⟨c8b0, H⟩ := H; replace H := itd_ H; obtain ⟨c9b0, H⟩ := H; replace H := bnd_ H; obtain ⟨⟨t375, t376⟩, A10, H⟩ := H; (try dsimp only at H); replace H := itb_ H; rcases H with ⟨rfl, H⟩ | ⟨rfl, H⟩
    ·replace H := itn_ H; obtain ⟨c12, H⟩ := H; have LMc12 := ak_ c12; clear c12; obtain ⟨y379, hy379⟩ : ∃ y_ : List (List (S102)), y_ = (x4_1 ++ [t375]) := ⟨_, rfl⟩
     replace H : (impl_readSelectors.l0 k1 y379 t371 (t371.length : Int) (wrap64 (x13_1 + 1))) = some (r1, r2) := by first | (rw [hy379]; with_reducible exact H) | (have H2_ := (Option.bind_some _ _).symm.trans H; rw [hy379]; with_reducible exact H2_) | (have H2_ := (Option.bind_some _ _).symm.trans H; with_reducible exact H2_) | with_reducible exact H | (rw [hy379]; exact H) | exact H
     have Ny379 := ak_ hy379; clear hy379; have H' := ak_ H; clear H; have p374 : 0 ≤ (x13_1 : Int) := oda_
     have q374 : x13_1 < (t371.length : Int) := oda_
     obtain ⟨ad374, e374, hx374_0⟩ := Kd.at_string (Kd.R_reads' HO_11.out).2.2 x13_1 p374 q374; cases e374; replace p374 := eq_true p374; replace q374 := eq_true q374; go_wp2_with (first | ((with_reducible refine gate_callee (f := 63) rfl ?_); refine gl_ (some 19) Tryz.func63 #[.string (rdOf ByteArray.empty t371 x13_1)] ?_; (with_reducible refine (impl_ReadSelector.calls k1 (rdOf ByteArray.empty t371 x13_1) t375 true _ A10.out).mono ?_); rintro e w13 ⟨v377, rfl, ho0, hb⟩; refine ⟨_, rfl, ?_⟩; obtain ⟨W0_, hBW_, h4_, h6_⟩ := oldnew_ (kdS_ HO_4.out) ho0 hb; have n0_ := ak_ h4_; have n1_ := ak_ (Kd.R_below (kdR_ HO_11.out) hb); have n2_ := ak_ (Kd.S_lower h6_ (below_size bel_)); have n3_ := ak_ (below_step bel_ hb); clear HO_4; clear HO_11; clear HB; have HO_4 := n0_; have HO_11 := n1_; have HO378 := n2_; have HB := n3_; clear n0_ n1_ n2_ n3_; clear h4_ h6_; (try clear hb);(try clear hb2);(try clear hk);(try clear hi);(try clear ho0); obtain ⟨Ao15, co15, eo15⟩ := Kd.S_slice HO378.out; subst eo15) | ((with_reducible refine gate_builtin (b := .append) (xs := #[.tmp 24, .tmp 26]) rfl ?_); at_builtin; refine Kd.S_append kSel_ (w0 := w) w.heap.size rfl (.tmp 24) (.tmp 26) 47 78 (.slice none 0 0) 24 rfl Tryz.underlying47 info78 rfl (by decide) (by omega) u4 x4_1 t375 [.slice Ao15 t375.length co15] (fun _ => True) (fun k_ => W0_.heap.size ≤ k_) rfl rfl ?aP ?aK ?aF ?aO ?aB ?aS ?aL ?_; (case aP => exact ⟨_, rfl, kdS_ HO378.out⟩); (case aK => exact fun k_ hk => ⟨trivial, fun he_ => Nat.lt_irrefl _ (Nat.lt_of_lt_of_le ((Kd.S_R HO_4.out).1 k_ he_.symm).2 hk)⟩); (case aB => exact bel_); (case aF => exact fun _ _ => trivial); (case aO => (with_reducible repeat (first | apply Kd.S_alloc | apply Kd.S_drewN | apply Kd.S_drew)); exact Kd.S_mono HO_4.out (fun k_ hk => ⟨trivial, Nat.not_le.2 hk.2⟩)); (case aS => exact (below_size bel_)); (case aL => have := LMc12.out; omega); intro v380 w14 ho hb hg hat; rw [← Ny379.out] at ho; have n_ := an3_ (Kd.R_over' (kdR_ HO_11.out) (Kd.S_typed (kdS_ HO_4.out)) (by decide) hg) (hb) (ho); clear HO_11 HB HO_4 HO378; obtain ⟨HO_11, HB, HO381⟩ := n_; clear ho hb hg hat))
     go_roundg k1
     case measure => have := HK1.out; omega
     case rel => exact ⟨(y379), (wrap64 (x13_1 + 1)), sv_, H', ⟨by have := HK1.out; omega⟩, ⟨kdS_ HO381.out⟩, ⟨kdR_ HO_11.out⟩, ⟨bel_⟩⟩
    ·simp only [Option.some.injEq, Prod.mk.injEq] at H
     obtain ⟨rfl, rfl⟩ := H; have p374 : 0 ≤ (x13_1 : Int) := oda_
     have q374 : x13_1 < (t371.length : Int) := oda_
     obtain ⟨ad374, e374, hx374_0⟩ := Kd.at_string (Kd.R_reads' HO_11.out).2.2 x13_1 p374 q374; cases e374; replace p374 := eq_true p374; replace q374 := eq_true q374; go_wp2_with (first | ((with_reducible refine gate_callee (f := 63) rfl ?_); refine gl_ (some 19) Tryz.func63 #[.string (rdOf ByteArray.empty t371 x13_1)] ?_; (with_reducible refine (impl_ReadSelector.calls k1 (rdOf ByteArray.empty t371 x13_1) t375 false _ A10.out).mono ?_); rintro e w16 ⟨v377, rfl, ho0, hb⟩; refine ⟨_, rfl, ?_⟩; obtain ⟨W0_, hBW_, h4_, h6_⟩ := oldnew_ (kdS_ HO_4.out) ho0 hb; have n0_ := ak_ h4_; have n1_ := ak_ (Kd.R_below (kdR_ HO_11.out) hb); have n2_ := ak_ (Kd.S_lower h6_ (below_size bel_)); have n3_ := ak_ (below_step bel_ hb); clear HO_4; clear HO_11; clear HB; have HO_4 := n0_; have HO_11 := n1_; have HO378 := n2_; have HB := n3_; clear n0_ n1_ n2_ n3_; clear h4_ h6_; (try clear hb);(try clear hb2);(try clear hk);(try clear hi);(try clear ho0)))
     go_ret2
     exact ⟨_, er_, by first | exact Kd.R_nil _ _ _ _ _ | exact Kd.N_nil _ _ _ _ _ | exact Kd.V_nil _ _ _ _ _ | exact Kd.Q_nil _ _ _ _ _ | exact Kd.S_nil _ _ _ _ _, bel_⟩
   ·simp only [Option.some.injEq, Prod.mk.injEq] at H
    obtain ⟨rfl, rfl⟩ := H; go_wp2; go_ret2
    exact ⟨_, er_, kdS_ HO_4.out, bel_⟩

/-! ### impl_lower: function 84 -/
def impl_lower.f (a0 : ByteArray) : Option ByteArray := if a0.size ≤ 9223372036854775807 then some (lowB a0) else none
theorem impl_lower.calls (a0 : ByteArray) (r : ByteArray) (w : World) (h : impl_lower.f a0 = some r) :
  Calls Tryz.prog 84 #[.string a0] w fun e w' => e = .returned (.string r) ∧ Below w.heap.size w w' := by
 unfold impl_lower.f at h
 by_cases hs : a0.size ≤ 9223372036854775807
 ·rw [if_pos hs] at h; obtain rfl := Option.some.inj h
  have HB := ak_ (Below.refl w.heap.size w); have hbl : (bytesOf a0).length = a0.size := bytesOf_length a0
  go_enter Tryz.func84, Tryz.ntmps84
  go_wp2_with (first | ((with_reducible refine gate_dst (N := 7) rfl ?_); refine low_conv_ 5 rfl (N := 7) rfl 9 74 _ rfl a0 rfl Tryz.underlying9 Tryz.underlying74 Tryz.underlying5 ?_; intro g1 w1 c1 hg1 hr1 hb1; have n0_ := ak_ (below_step bel_ hb1); have n1_ := ak_ (Nat.le_trans (below_size bel_) hg1); have n2_ := ak_ hr1; clear HB hg1 hr1 hb1; have HB := n0_; have HG := n1_; have HR := n2_; clear n0_ n1_ n2_))
  go_loopg [10] a0.size (fun kq v10 w' => ∃ i : Nat, v10 = .int .i64 (i : Int) ∧ Aside0 (i + kq = a0.size) ∧ Aside0 (LowRow g1 5 w' (lowMix (bytesOf a0) i)) ∧ Aside0 (Below w.heap.size w w'))
  case atStart => exact ⟨0, rfl, ⟨Nat.zero_add _⟩, ⟨by show LowRow _ _ _ _; have := HR.out; simpa [lowMix] using this⟩, ⟨bel_⟩⟩
  case round =>
   clear HB HR; obtain ⟨i, rfl, HK, HR, HB⟩ := hrel; cases gk with
   | zero =>
    have hik : i = a0.size := HK.out
    subst hik; have ci : decide (((a0.size : Nat) : Int) < (a0.size : Int)) = false := decide_eq_false (by omega)
    have hcv := string_of_reads (P := Tryz.prog) (c := c1) Tryz.underlying74 Tryz.underlying5 Tryz.underlying9 (low_reads HR.out (by rw [lowMix_len _ _ (by omega)]; exact hbl) hs)
    rw [show lowMix (bytesOf a0) a0.size = (bytesOf a0).map lowC from by rw [← hbl]; exact lowMix_all _] at hcv
    go_wp2; go_ret
    exact ⟨rfl, bel_⟩
   | succ k1 =>
    have hik : i < a0.size := by have := HK.out; omega
    have ci : decide ((i : Int) < (a0.size : Int)) = true := decide_eq_true (by omega)
    have hll : (lowMix (bytesOf a0) i).length = a0.size := by rw [lowMix_len _ _ (by omega)]; exact hbl
    obtain ⟨hx0, hf0⟩ := low_cell HR.out (i : Int) (by omega) (by omega); simp only [Int.toNat_natCast] at hx0 hf0
    have hxv := lowMix_at (bytesOf a0) i (by omega); rw [show rd (lowMix (bytesOf a0) i) (i : Int) = (bytesOf a0).getD i 0 from hxv] at hx0; have hst := lowMix_step (bytesOf a0) i (by omega); have hsm := lowMix_same (bytesOf a0) i (by omega); have hw1 : wrap64 ((i : Int) + 1) = ((i + 1 : Nat) : Int) := low_wrap i a0.size hik hs
    obtain ⟨x, hxe⟩ : ∃ x, (bytesOf a0).getD i 0 = x := ⟨_, rfl⟩
    rw [hxe] at hx0 hst hsm
    clear hxv hxe; have HS := ak_ hst; have HM := ak_ hsm; have HW := ak_ hw1; have HL := ak_ hll; clear hst hsm hw1 hll; have p9 := eq_true (show 0 ≤ (i : Int) by omega); have q9 := eq_true (show (i : Int) < (a0.size : Int) by omega); have same : lowC x = x → ∀ w', LowRow g1 5 w' (lowMix (bytesOf a0) i) → LowRow g1 5 w' (lowMix (bytesOf a0) (i + 1)) := fun hc w' hr => by rw [HM.out hc]; exact hr
    by_cases h1 : 65 ≤ x
    ·have d1 : decide (65 ≤ x) = true := decide_eq_true h1
     by_cases h2 : x ≤ 90
     ·have d2 : decide (x ≤ 90) = true := decide_eq_true h2
      have hlc : lowC x = (x + 32) % 256 := if_pos ⟨h1, h2⟩
      have hp0 := low_set HR.out (i : Int) (by omega) (by have := HL.out; omega) ((x + 32) % 256)
      simp only [Int.toNat_natCast] at hp0
      have HP := ak_ hp0; clear hp0 same h1 h2; go_wp2_with (first | ((with_reducible refine gate_store (t := 5) (p := 25) rfl ?_); refine store_event (t := 5) (p := 25) (v := ?vo_w11) (w1 := (wr.setCell ⟨g1, i, none⟩ (.int .u8 ((x + 32) % 256)))) ?hg ?ho ?hn ?hr ?_; (case ho => rfl); (case hg => rfl); (case hn => rfl); (case hr => first | (go_simp; done) | (go_simp; rfl)); intro w11 hw; have n_ := an2_ (show LowRow g1 5 w11 (lowMix (bytesOf a0) (i + 1)) from by rw [hw, HS.out, hlc]; exact HP.out) ((by rw [hw]; exact below_set (HB.out) HG.out : Below w.heap.size w w11)); clear HP HR HB; obtain ⟨HR, HB⟩ := n_; clear hw))
      go_roundg k1
      case measure => omega
      case rel => exact ⟨i + 1, (by first | rfl | exact congrArg (Value.int .i64) HW.out | exact congrArg (Value.int .i64) (by omega)), ⟨by have := HK.out; omega⟩, ⟨HR.out⟩, ⟨bel_⟩⟩
     ·have d2 : decide (x ≤ 90) = false := decide_eq_false h2
      have hr2 := ak_ (same (if_neg (fun hh => h2 hh.2)) _ HR.out); clear same h1 h2; go_wp2; go_roundg k1
      case measure => omega
      case rel => exact ⟨i + 1, (by first | rfl | exact congrArg (Value.int .i64) HW.out | exact congrArg (Value.int .i64) (by omega)), ⟨by have := HK.out; omega⟩, ⟨hr2.out⟩, ⟨bel_⟩⟩
    ·have d1 : decide (65 ≤ x) = false := decide_eq_false h1
     have hr2 := ak_ (same (if_neg (fun hh => h1 hh.1)) _ HR.out); clear same h1; go_wp2; go_roundg k1
     case measure => omega
     case rel => exact ⟨i + 1, (by first | rfl | exact congrArg (Value.int .i64) HW.out | exact congrArg (Value.int .i64) (by omega)), ⟨by have := HK.out; omega⟩, ⟨hr2.out⟩, ⟨bel_⟩⟩
 ·rw [if_neg hs] at h; cases h
















/-! ### impl_trimmed: function 85 -/
def laid227_ren_ : Go.Shelf.Ren := ⟨fun | 227 => 119 | n => n, fun | 116 => 136 | n => n, fun | 1 => 2 | 3 => 0 | 4 => 1 | n => n⟩
theorem laid227_ : Go.Proofs.Lays.n227 Tryz.prog laid227_ren_ := {
 mixed := by kernel_rfl
 f227 := Tryz.func119.trans (congrArg some (by kernel_rfl))
 t0 := Tryz.underlying0
 a0 := Tryz.isAgg0
 z0 := Tryz.sizeOf0
 v0 := Tryz.zeroValue0
 t3 := Tryz.underlying3
 a3 := Tryz.isAgg3
 z3 := Tryz.sizeOf3
 v3 := Tryz.zeroValue3
 t4 := Tryz.underlying4
 a4 := Tryz.isAgg4
 z4 := Tryz.sizeOf4
 v4 := Tryz.zeroValue4
 t5 := Tryz.underlying5
 a5 := Tryz.isAgg5
 z5 := Tryz.sizeOf5
 v5 := Tryz.zeroValue5
 t9 := Tryz.underlying9
 a9 := Tryz.isAgg9
 z9 := Tryz.sizeOf9
 v9 := Tryz.zeroValue9
 t116 := Tryz.underlying136
 a116 := Tryz.isAgg136
 z116 := Tryz.sizeOf136 }
def laid233_ren_ : Go.Shelf.Ren := ⟨fun | 228 => 126 | 233 => 120 | n => n, fun | 116 => 136 | 124 => 140 | n => n, fun | 1 => 2 | 3 => 0 | 4 => 1 | n => n⟩
theorem laid233_ : Go.Proofs.Lays.n233 Tryz.prog laid233_ren_ := {
 mixed := by kernel_rfl
 f228 := Tryz.func126.trans (congrArg some (by kernel_rfl))
 f233 := Tryz.func120.trans (congrArg some (by kernel_rfl))
 t0 := Tryz.underlying0
 a0 := Tryz.isAgg0
 z0 := Tryz.sizeOf0
 v0 := Tryz.zeroValue0
 t3 := Tryz.underlying3
 a3 := Tryz.isAgg3
 z3 := Tryz.sizeOf3
 v3 := Tryz.zeroValue3
 t4 := Tryz.underlying4
 a4 := Tryz.isAgg4
 z4 := Tryz.sizeOf4
 v4 := Tryz.zeroValue4
 t5 := Tryz.underlying5
 a5 := Tryz.isAgg5
 z5 := Tryz.sizeOf5
 v5 := Tryz.zeroValue5
 t9 := Tryz.underlying9
 a9 := Tryz.isAgg9
 z9 := Tryz.sizeOf9
 v9 := Tryz.zeroValue9
 t116 := Tryz.underlying136
 a116 := Tryz.isAgg136
 z116 := Tryz.sizeOf136
 t124 := Tryz.underlying140
 a124 := Tryz.isAgg140
 z124 := Tryz.sizeOf140
 v124 := Tryz.zeroValue140 }
def laid234_ren_ : Go.Shelf.Ren := ⟨fun | 228 => 126 | 234 => 121 | n => n, fun | 116 => 136 | 124 => 140 | n => n, fun | 1 => 2 | 3 => 0 | 4 => 1 | n => n⟩
theorem laid234_ : Go.Proofs.Lays.n234 Tryz.prog laid234_ren_ := {
 mixed := by kernel_rfl
 f228 := Tryz.func126.trans (congrArg some (by kernel_rfl))
 f234 := Tryz.func121.trans (congrArg some (by kernel_rfl))
 t0 := Tryz.underlying0
 a0 := Tryz.isAgg0
 z0 := Tryz.sizeOf0
 v0 := Tryz.zeroValue0
 t3 := Tryz.underlying3
 a3 := Tryz.isAgg3
 z3 := Tryz.sizeOf3
 v3 := Tryz.zeroValue3
 t4 := Tryz.underlying4
 a4 := Tryz.isAgg4
 z4 := Tryz.sizeOf4
 v4 := Tryz.zeroValue4
 t5 := Tryz.underlying5
 a5 := Tryz.isAgg5
 z5 := Tryz.sizeOf5
 v5 := Tryz.zeroValue5
 t9 := Tryz.underlying9
 a9 := Tryz.isAgg9
 z9 := Tryz.sizeOf9
 v9 := Tryz.zeroValue9
 t116 := Tryz.underlying136
 a116 := Tryz.isAgg136
 z116 := Tryz.sizeOf136
 t124 := Tryz.underlying140
 a124 := Tryz.isAgg140
 z124 := Tryz.sizeOf140
 v124 := Tryz.zeroValue140 }

def blanksB : ByteArray := ⟨#[9, 10, 13, 32]⟩
def blanksL : List UInt8 := [9, 10, 13, 32]
/-- a text without blanks around it. -/
def trimB (s : ByteArray) : ByteArray := ⟨(Lib.trimS s.data.toList blanksL).toArray⟩
def impl_trimmed.f (a0 : ByteArray) : Option ByteArray := if a0.size ≤ 9223372036854775807 then some (trimB a0) else none
set_option maxRecDepth 1000000 in
theorem zeroSet_ : ∀ w, (zeroValue 136).run Tryz.prog w = .ok (.agg (Array.replicate 256 (.bool false))) w := fun w => by
 kernel_rfl
set_option maxHeartbeats 8000000 in
set_option maxRecDepth 1000000 in
theorem trim_blanks_ (s : ByteArray) (w : World) (h0 : 0 < s.size) (hs : s.size ≤ 9223372036854775807) :
  Calls Tryz.prog 106 #[.string s, .string blanksB] w fun e w' => e = .returned (.string (trimB s)) ∧ Below w.heap.size w w' := by
 have hM := Any.strings_makeASCIISet laid227_ zeroSet_ (by kernel_rfl) blanksB w (by decide) (fun j b hj => by
  match j, hj with
  | 0, hj => cases hj; decide
  | 1, hj => cases hj; decide
  | 2, hj => cases hj; decide
  | 3, hj => cases hj; decide
  | j + 4, hj => cases hj)
 have hemps : s.toList.isEmpty = false := by
  rw [Lib.toList_data]
  cases h : s.data.toList with
  | nil => have := Lib.size_eq s; rw [h, List.length_nil] at this; omega
  | cons _ _ => rfl
 have hemp : blanksB.toList.isEmpty = false := by rw [Lib.toList_data]; rfl
 have hn1 : ((blanksB.size : Int) == 1) = false := by decide
 have hi : (Tryz.prog.info? 136).map (·.size) = some 256 := by kernel_rfl
 have hcl : blanksB.data.toList = blanksL := rfl
 have hsc : (storeCells ⟨w.heap.size + 1, 0, none⟩ (Lib.setCells blanksL).toList 0).run Tryz.prog ((w.alloc (.cells (Lib.setCells blanksL) 136)).alloc (.cells (Array.replicate 256 (.bool false)) 136)) = .ok () ((w.alloc (.cells (Lib.setCells blanksL) 136)).alloc (.cells (Lib.setCells blanksL) 136)) := by
  have := run_storeCells_new (P := Tryz.prog) (w.alloc (.cells (Lib.setCells blanksL) 136)) 136 (Array.replicate 256 (.bool false)) (Lib.setCells blanksL) (by rw [Lib.setCells_size]; exact hi) (by rw [Lib.setCells_size, Array.size_replicate]) (Lib.setCells_one _)
  simpa using this
 have hsz := Lib.setCells_size blanksL; have hcellAt : ∀ x : UInt8, ((w.alloc (.cells (Lib.setCells blanksL) 136)).alloc (.cells (Lib.setCells blanksL) 136)).cell? ⟨w.heap.size + 1, x.toNat, none⟩ = some (.bool (blanksL.contains x)) := fun x => by
  rw [World.cell?_alloc_at _ _ _ _ (by simp), Lib.setCells_at]
 have HC : Aside (∀ (q : Nat) (x : UInt8), (((w.alloc (.cells (Lib.setCells blanksL) 136)).alloc (.cells (Lib.setCells blanksL) 136)).drewN q).cell? ⟨w.heap.size + 1, x.toNat, none⟩ = some (.bool (blanksL.contains x))) := fun q x => by simpa using hcellAt x
 clear hcellAt; have hz : Tryz.zeroCells136 = Array.replicate 256 (.bool false) := by kernel_rfl
 go_enter Tryz.func106, Tryz.ntmps106
 go_wp2_with (go_at_call 119; refine hM.mono ?_; rintro e w' ⟨rfl, hw⟩; rw [hw])
 simp only [show laid227_ren_.t 116 = 136 from rfl, hz, hcl, hsc, Result.andThen]
 rw [Oper.upon_skip]
 clear hM hsc; go_wp2_with (first | (go_at_call 121; refine (Any.strings_trimRightASCII laid234_ s (w.heap.size + 1) blanksL _ hs (HC.out 0)).mono ?_; rintro e w' ⟨rfl, hw⟩; rw [hw]) | (go_at_call 120; refine (Any.strings_trimLeftASCII laid233_ _ (w.heap.size + 1) blanksL _ (HC.out 0)).mono ?_; rintro e w' ⟨rfl, hw⟩; rw [hw]))
 go_ret
 exact ⟨rfl, pw_below_drewN (below_alloc (below_alloc (Below.refl w.heap.size w) _) _) 0⟩
set_option maxHeartbeats 8000000 in
set_option maxRecDepth 1000000 in
theorem impl_trimmed.calls (a0 : ByteArray) (r : ByteArray) (w : World) (h : impl_trimmed.f a0 = some r) :
  Calls Tryz.prog 85 #[.string a0] w fun e w' => e = .returned (.string r) ∧ Below w.heap.size w w' := by
 unfold impl_trimmed.f at h
 by_cases hs : a0.size ≤ 9223372036854775807
 ·rw [if_pos hs] at h; obtain rfl := Option.some.inj h
  by_cases h0 : 0 < a0.size
  ·have c := fun w => trim_blanks_ a0 w h0 hs; go_enter Tryz.func85, Tryz.ntmps85
   go_wp2_with (go_at_call 106; refine (c _).mono ?_; rintro e w' ⟨rfl, hb⟩)
   go_ret
   exact ⟨rfl, hb⟩
  ·have he : a0.data.toList = [] := by
    have := Lib.size_eq a0
    exact List.length_eq_zero_iff.mp (by omega)
   have hemps : a0.toList.isEmpty = true := by rw [Lib.toList_data, he]; rfl
   have ht : trimB a0 = a0 := by
    unfold trimB
    rw [he]
    cases a0 with
    | mk d => cases d with
     | mk l => simp at he; subst he; rfl
   rw [ht]
   go_enter Tryz.func85, Tryz.ntmps85
   go_wp2; go_ret
   exact ⟨rfl, Below.refl _ _⟩
 ·rw [if_neg hs] at h; cases h

/-! ### stringslite_HasSuffix: function 124 -/
def stringslite_HasSuffix.f (a0 : ByteArray) (a1 : ByteArray) : Option (Bool) := if (a0.size : Int) ≥ (a1.size : Int) then (if 0 ≤ (wrap64 ((a0.size : Int) - (a1.size : Int))) then (if (wrap64 ((a0.size : Int) - (a1.size : Int))) ≤ (a0.size : Int) then (some ((a0.extract ((wrap64 ((a0.size : Int) - (a1.size : Int))) : Int).toNat a0.size).toList == a1.toList)) else (none)) else (none)) else (some false)
theorem stringslite_HasSuffix.calls (a0 : ByteArray) (a1 : ByteArray) (r : Bool) (w : World) (h : stringslite_HasSuffix.f a0 a1 = some r) :
  Calls Tryz.prog 124 #[.string a0, .string a1] w fun e w' => e = .returned (.bool r) ∧ Drawn0 w w' := by
 have H := h; unfold stringslite_HasSuffix.f at H
 clear h; replace H := ite_ H; rcases H with ⟨c3, H⟩ | ⟨c3, H⟩
 ·have c3b0 := decide_eq_true c3; have c3b1 : decide (a1.size ≤ a0.size) = true := decide_eq_true (Int.ofNat_le.mp c3)
  clear c3; obtain ⟨ji4, hji4⟩ : ∃ j_ : Int, (wrap64 ((a0.size : Int) - (a1.size : Int))) = j_ := ⟨_, rfl⟩
  replace H : (if 0 ≤ (ji4) then (if (ji4) ≤ (a0.size : Int) then (some ((a0.extract ((ji4) : Int).toNat a0.size).toList == a1.toList)) else (none)) else (none)) = some r := by first | (rw [hji4] at H; exact H) | (simp only [hji4] at H ⊢; exact H)
  have hji4w : (IntKind.i64.wrap ((a0.size : Int) - (a1.size : Int))) = ji4 := (i64_w _).trans hji4
  replace H := itn_ H; obtain ⟨c5, H⟩ := H; have c5b0 := eq_true c5; have c5b1 := decide_eq_true c5; clear c5; replace H := itn_ H; obtain ⟨c6, H⟩ := H; have c6b0 := eq_true c6; have c6b1 := decide_eq_true c6; clear c6; obtain rfl := Option.some.inj H
  go_enter Tryz.func124, Tryz.ntmps124
  go_wp2; go_ret
  exact ⟨by first | rfl | (simp; done) | (simp only [← hji4] <;> (first | rfl | simp)) | (simp [*]; done), by repeat (first | exact Drawn0.refl _ | apply Drawn0.step)⟩
 ·have c3b0 := decide_eq_false c3; have c3b1 : decide (a1.size ≤ a0.size) = false := decide_eq_false (fun h => c3 (Int.ofNat_le.mpr h))
  clear c3; obtain rfl := Option.some.inj H
  go_enter Tryz.func124, Tryz.ntmps124
  go_wp2; go_ret
  exact dn_

/-! ### stringslite_CutSuffix: function 107 -/
def stringslite_CutSuffix.f (a0 : ByteArray) (a1 : ByteArray) : Option (ByteArray × Bool) := (stringslite_HasSuffix.f a0 a1).bind fun t368 => (if t368 = true then (if 0 ≤ (wrap64 ((a0.size : Int) - (a1.size : Int))) then (if (wrap64 ((a0.size : Int) - (a1.size : Int))) ≤ (a0.size : Int) then (some (a0.extract 0 ((wrap64 ((a0.size : Int) - (a1.size : Int))) : Int).toNat, true)) else (none)) else (none)) else (some (a0, false)))
theorem stringslite_CutSuffix.calls (a0 : ByteArray) (a1 : ByteArray) (r1 : ByteArray) (r2 : Bool) (w : World) (h : stringslite_CutSuffix.f a0 a1 = some (r1, r2)) :
  Calls Tryz.prog 107 #[.string a0, .string a1] w fun e w' => e = .returned (.tuple #[.string r1, .bool r2]) ∧ Drawn0 w w' := by
 have H := h; unfold stringslite_CutSuffix.f at H
 clear h; replace H := bnd_ H; obtain ⟨t368, A3, H⟩ := H; replace H := itb_ H; rcases H with ⟨rfl, H⟩ | ⟨rfl, H⟩
 ·obtain ⟨ji5, hji5⟩ : ∃ j_ : Int, (wrap64 ((a0.size : Int) - (a1.size : Int))) = j_ := ⟨_, rfl⟩
  replace H : (if 0 ≤ (ji5) then (if (ji5) ≤ (a0.size : Int) then (some (a0.extract 0 ((ji5) : Int).toNat, true)) else (none)) else (none)) = some (r1, r2) := by first | (rw [hji5] at H; exact H) | (simp only [hji5] at H ⊢; exact H)
  (try rw [hji5] at A3)
  have hji5w : (IntKind.i64.wrap ((a0.size : Int) - (a1.size : Int))) = ji5 := (i64_w _).trans hji5
  replace H := itn_ H; obtain ⟨c6, H⟩ := H; have c6b0 := eq_true c6; have c6b1 := decide_eq_true c6; clear c6; replace H := itn_ H; obtain ⟨c7, H⟩ := H; have c7b0 := eq_true c7; have c7b1 := decide_eq_true c7; clear c7; simp only [Option.some.injEq, Prod.mk.injEq] at H
  obtain ⟨rfl, rfl⟩ := H; go_enter Tryz.func107, Tryz.ntmps107
  go_wp2_with (first | ((with_reducible refine gate_callee (f := 124) rfl ?_); refine gl_ (some 8) Tryz.func124 #[.string a0, .string a1] ?_; (with_reducible refine (stringslite_HasSuffix.calls a0 a1 true _ A3.out).mono ?_); rintro e w' ⟨rfl, ⟨nd, rfl⟩⟩; refine ⟨_, rfl, ?_⟩))
  go_ret2
  exact ⟨by first | rfl | (simp; done) | (simp only [← hji5] <;> (first | rfl | simp)) | (simp [*]; done), by repeat (first | exact Drawn0.refl _ | apply Drawn0.step)⟩
 ·simp only [Option.some.injEq, Prod.mk.injEq] at H
  obtain ⟨rfl, rfl⟩ := H; go_enter Tryz.func107, Tryz.ntmps107
  go_wp2_with (first | ((with_reducible refine gate_callee (f := 124) rfl ?_); refine gl_ (some 8) Tryz.func124 #[.string a0, .string a1] ?_; (with_reducible refine (stringslite_HasSuffix.calls a0 a1 false _ A3.out).mono ?_); rintro e w' ⟨rfl, ⟨nd, rfl⟩⟩; refine ⟨_, rfl, ?_⟩))
  go_ret2
  exact dn_

/-! ### strings_CutSuffix: function 86 -/
def strings_CutSuffix.f (a0 : ByteArray) (a1 : ByteArray) : Option (ByteArray × Bool) := (stringslite_CutSuffix.f a0 a1).bind fun bt369 => (some (bt369.1, bt369.2))
theorem strings_CutSuffix.calls (a0 : ByteArray) (a1 : ByteArray) (r1 : ByteArray) (r2 : Bool) (w : World) (h : strings_CutSuffix.f a0 a1 = some (r1, r2)) :
  Calls Tryz.prog 86 #[.string a0, .string a1] w fun e w' => e = .returned (.tuple #[.string r1, .bool r2]) ∧ Drawn0 w w' := by
 have H := h; unfold strings_CutSuffix.f at H
 clear h; replace H := bnd_ H; obtain ⟨⟨t369, t370⟩, A3, H⟩ := H; (try dsimp only at H); simp only [Option.some.injEq, Prod.mk.injEq] at H
 obtain ⟨rfl, rfl⟩ := H; go_enter Tryz.func86, Tryz.ntmps86
 go_wp2_with (first | ((with_reducible refine gate_callee (f := 107) rfl ?_); refine gl_ (some 8) Tryz.func107 #[.string a0, .string a1] ?_; (with_reducible refine (stringslite_CutSuffix.calls a0 a1 t369 t370 _ A3.out).mono ?_); rintro e w' ⟨rfl, ⟨nd, rfl⟩⟩; refine ⟨_, rfl, ?_⟩))
 go_ret2
 exact dn_

/-! ### impl_readDecl: function 64 -/
def impl_readDecl.j0 : Nat → Bool → ByteArray → ByteArray → Bool → Option (ByteArray × ByteArray × Bool × Bool)
 | 0, _, _, _, _ => none
 | k + 1, x6, x379000, x379001, x379002 => if x6 = true then ((impl_isWord.f k x379000).bind fun t382 => (if t382 = true then ((impl_within.f (x379001.size : Int) 1 60).bind fun t383 => (if t383 = true then (some (x379000, x379001, x379002, true)) else (some ((⟨#[]⟩ : ByteArray), (⟨#[]⟩ : ByteArray), false, false)))) else (some ((⟨#[]⟩ : ByteArray), (⟨#[]⟩ : ByteArray), false, false)))) else (some ((⟨#[]⟩ : ByteArray), (⟨#[]⟩ : ByteArray), false, false))
def impl_readDecl.f (k : Nat) (a0 : ByteArray) : Option (ByteArray × ByteArray × Bool × Bool) := (strings_Cut.f a0 (⟨#[58]⟩ : ByteArray)).bind fun bt372 => ((impl_trimmed.f bt372.1).bind fun t375 => ((impl_lower.f t375).bind fun t376 => ((impl_trimmed.f bt372.2.1).bind fun t377 => ((strings_CutSuffix.f t377 (⟨#[33, 105, 109, 112, 111, 114, 116, 97, 110, 116]⟩ : ByteArray)).bind fun bt379 => (if bt379.2 = true then ((impl_trimmed.f bt379.1).bind fun t381 => (impl_readDecl.j0 k bt372.2.2 t376 t381 true)) else (impl_readDecl.j0 k bt372.2.2 t376 t377 false))))))
theorem impl_readDecl.calls (k : Nat) (a0 : ByteArray) (r1 : ByteArray) (r2 : ByteArray) (r3 : Bool) (r4 : Bool) (w : World) (h : impl_readDecl.f k a0 = some (r1, r2, r3, r4)) (hT_ : U8Tabs_ w) :
  Calls Tryz.prog 64 #[.string a0] w fun e w' => e = .returned (.tuple #[.agg #[.string r1, .string r2, .bool r3], .bool r4]) ∧ Below w.heap.size w w' := by
 have hu80 := Tryz.underlying80; have HB := ak_ (Below.refl w.heap.size w); have H := h; unfold impl_readDecl.f at H
 clear h; replace H := bnd_ H; obtain ⟨⟨t372, t373, t374⟩, A2, H⟩ := H; (try dsimp only at H); replace H := bnd_ H; obtain ⟨t375, A3, H⟩ := H; replace H := bnd_ H; obtain ⟨t376, A4, H⟩ := H; replace H := bnd_ H; obtain ⟨t377, A5, H⟩ := H; replace H := bnd_ H; obtain ⟨⟨t379, t380⟩, A6, H⟩ := H; (try dsimp only at H); have HC7 := ak_ H; clear H; go_enter Tryz.func64, Tryz.ntmps64
 go_upto_if 28 with (first | ((with_reducible refine gate_dst (N := 2) rfl ?_); (try (refine gate_guard (by rfl) ?_; dsimp only)); refine bx_ (N := 2) (cs := #[.string (⟨#[]⟩ : ByteArray), .string (⟨#[]⟩ : ByteArray), .bool false]) (t := 80) ?_; intro gb371 hg w8 hbox hb; have n_ := an4_ (below_step bel_ hb) (hbox) (gsl_ hg HB.out) (gsl_ hg HB.out); clear HB; obtain ⟨HB, BK371, GW371, GE371⟩ := n_; clear hb hbox hg) | ((with_reducible refine gate_callee (f := 43) rfl ?_); refine gl_ (some 12) Tryz.func43 #[.string a0, .string (⟨#[58]⟩ : ByteArray)] ?_; (with_reducible refine (strings_Cut.calls a0 (⟨#[58]⟩ : ByteArray) t372 t373 t374 _ A2.out ?hT_).mono ?_); (case hT_ => exact utf8_keep_ hT_ bes_); rintro e w' ⟨rfl, ⟨nd, rfl⟩⟩; refine ⟨_, rfl, ?_⟩; (try (rw [drewN_self w8]; generalize hq_ : World.drewN w8 _ = w8; have n0_ : Aside0 (w8.heap[gb371]? = some (.cells #[.string (⟨#[]⟩ : ByteArray), .string (⟨#[]⟩ : ByteArray), .bool false] 80 (0, 0))) := ⟨by rw [← hq_]; exact (bk_ BK371.out)⟩; have n1_ : Aside0 (Below w.heap.size w w8) := ⟨by rw [← hq_]; exact bes_⟩; clear BK371 HB hq_; have BK371 := n0_; have HB := n1_; clear n0_ n1_; have hcq371_0 : w8.cell? ⟨gb371, 0, none⟩ = some (.string (⟨#[]⟩ : ByteArray)) := (blk_cell BK371.out 0).trans rfl; have hcq371_1 : w8.cell? ⟨gb371, 1, none⟩ = some (.string (⟨#[]⟩ : ByteArray)) := (blk_cell BK371.out 1).trans rfl; have hcq371_2 : w8.cell? ⟨gb371, 2, none⟩ = some (.bool false) := (blk_cell BK371.out 2).trans rfl))) | ((with_reducible refine gate_callee (f := 85) rfl ?_); refine gl_ (some 17) Tryz.func85 #[.string t372] ?_; (with_reducible refine (impl_trimmed.calls t372 t375 _ A3.out).mono ?_); rintro e w9 ⟨rfl, hb⟩; refine ⟨_, rfl, ?_⟩; have n_ := an2_ (blk_below (g := gb371) (o := .cells #[.string (⟨#[]⟩ : ByteArray), .string (⟨#[]⟩ : ByteArray), .bool false] 80 (0, 0)) (bk_ BK371.out) hb) (below_step bes_ hb); clear BK371 HB; obtain ⟨BK371, HB⟩ := n_; (try clear hb);(try clear hb2);(try clear hk);(try clear hi)) | ((with_reducible refine gate_callee (f := 84) rfl ?_); refine gl_ (some 18) Tryz.func84 #[.string t375] ?_; (with_reducible refine (impl_lower.calls t375 t376 _ A4.out).mono ?_); rintro e w10 ⟨rfl, hb⟩; refine ⟨_, rfl, ?_⟩; have n_ := an2_ (blk_below (g := gb371) (o := .cells #[.string (⟨#[]⟩ : ByteArray), .string (⟨#[]⟩ : ByteArray), .bool false] 80 (0, 0)) (bk_ BK371.out) hb) (below_step bes_ hb); clear BK371 HB; obtain ⟨BK371, HB⟩ := n_; (try clear hb);(try clear hb2);(try clear hk);(try clear hi)) | ((with_reducible refine gate_callee (f := 85) rfl ?_); refine gl_ (some 20) Tryz.func85 #[.string t373] ?_; (with_reducible refine (impl_trimmed.calls t373 t377 _ A5.out).mono ?_); rintro e w11 ⟨rfl, hb⟩; refine ⟨_, rfl, ?_⟩; have n_ := an2_ (blk_below (g := gb371) (o := .cells #[.string (⟨#[]⟩ : ByteArray), .string (⟨#[]⟩ : ByteArray), .bool false] 80 (0, 0)) (bk_ BK371.out) hb) (below_step bes_ hb); clear BK371 HB; obtain ⟨BK371, HB⟩ := n_; (try clear hb);(try clear hb2);(try clear hk);(try clear hi)) | ((with_reducible refine gate_dst (N := 7) rfl ?_); (try (refine gate_guard (by rfl) ?_; dsimp only)); refine bx_ (N := 7) (cs := #[.string (⟨#[]⟩ : ByteArray), .string (⟨#[]⟩ : ByteArray), .bool false]) (t := 80) ?_; intro gb378 hg w12 hbox hb; have n_ := an7_ (blk_below (g := gb371) (o := .cells #[.string (⟨#[]⟩ : ByteArray), .string (⟨#[]⟩ : ByteArray), .bool false] 80 (0, 0)) (bk_ BK371.out) hb) (below_step bes_ hb) (hbox) (gsl_ hg HB.out) (gsl_ hg HB.out) ((by rw [hg]; exact Nat.ne_of_lt (blk_lt (g := gb371) (o := .cells #[.string (⟨#[]⟩ : ByteArray), .string (⟨#[]⟩ : ByteArray), .bool false] 80 (0, 0)) (bk_ BK371.out)) : gb371 ≠ gb378)) ((by rw [hg]; exact Nat.ne_of_gt (blk_lt (g := gb371) (o := .cells #[.string (⟨#[]⟩ : ByteArray), .string (⟨#[]⟩ : ByteArray), .bool false] 80 (0, 0)) (bk_ BK371.out)) : gb378 ≠ gb371)); clear BK371 HB; obtain ⟨BK371, HB, BK378, GW378, GE378, NB371_378, NB378_371⟩ := n_; clear hb hbox hg; have hnb13 := NB378_371.out; have hnc13 := NB371_378.out; obtain ⟨z14_0, z14_1, z14_2, y14_0, y14_1, y14_2⟩ := bcz3 BK378.out) | ((with_reducible refine gate_callee (f := 86) rfl ?_); refine gl_ (some 25) Tryz.func86 #[.string t377, .string (⟨#[33, 105, 109, 112, 111, 114, 116, 97, 110, 116]⟩ : ByteArray)] ?_; (with_reducible refine (strings_CutSuffix.calls t377 (⟨#[33, 105, 109, 112, 111, 114, 116, 97, 110, 116]⟩ : ByteArray) t379 t380 _ A6.out).mono ?_); rintro e w' ⟨rfl, ⟨nd, rfl⟩⟩; refine ⟨_, rfl, ?_⟩))
 (try simp only [Act.put, List.setIfInBounds_toArray, List.set_cons_zero, List.set_cons_succ])
 go_cut [] (fun wc => ∃ (kq : Nat) (x379001_6 : ByteArray) (x379002_6 : Bool), Aside0 (impl_readDecl.j0 kq t374 t376 x379001_6 x379002_6 = some (r1, r2, r3, r4)) ∧ Aside0 (kq ≤ k) ∧ Aside0 (wc.heap[gb371]? = some (.cells #[.string (⟨#[]⟩ : ByteArray), .string (⟨#[]⟩ : ByteArray), .bool false] 80 (0, 0))) ∧ Aside0 (wc.heap[gb378]? = some (.cells #[.string t376, .string x379001_6, .bool x379002_6] 80 (0, 0))) ∧ Aside0 (Below w.heap.size w wc))
 case first =>
  have H := HC7.out; clear HC7; replace H := itb_ H; rcases H with ⟨rfl, H⟩ | ⟨rfl, H⟩
  ·replace H := bnd_ H; obtain ⟨t381, A16, H⟩ := H; have H' := ak_ H; clear H; go_wp2_with (first | ((with_reducible refine gate_callee (f := 85) rfl ?_); refine gl_ (some 30) Tryz.func85 #[.string t379] ?_; (with_reducible refine (impl_trimmed.calls t379 t381 _ A16.out).mono ?_); rintro e w17 ⟨rfl, hb⟩; refine ⟨_, rfl, ?_⟩; have n_ := an3_ (blk_below (g := gb371) (o := .cells #[.string (⟨#[]⟩ : ByteArray), .string (⟨#[]⟩ : ByteArray), .bool false] 80 (0, 0)) (bp_ BK371.out) hb) (blk_below (g := gb378) (o := .cells #[.string t376, .string t377, .bool false] 80 (0, 0)) (bp_ BK378.out) hb) (below_step bes_ hb); clear BK371 BK378 HB; obtain ⟨BK371, BK378, HB⟩ := n_; (try clear hb);(try clear hb2);(try clear hk);(try clear hi); have hnb18 := NB378_371.out; have hnc18 := NB371_378.out; obtain ⟨z19_0, z19_1, z19_2, y19_0, y19_1, y19_2⟩ := bcz3 BK378.out))
   go_meet
   case rel => exact ⟨_, (t381), (true), H', ⟨by first | omega | exact Nat.le_refl _⟩, ⟨bp_ BK371.out⟩, ⟨bp_ BK378.out⟩, ⟨bes_⟩⟩
  ·have H' := ak_ H; clear H; go_wp2; go_meet
   case rel => exact ⟨_, (t377), (false), H', ⟨by first | omega | exact Nat.le_refl _⟩, ⟨bp_ BK371.out⟩, ⟨bp_ BK378.out⟩, ⟨bes_⟩⟩
 case rest =>
  clear HC7; (try clear z14_0);(try clear z14_1);(try clear z14_2);(try clear y14_0);(try clear y14_1);(try clear y14_2)
  obtain ⟨kq, x379001_6, x379002_6, HA, HJ6, BK371, BK378, HB⟩ := hcut; cases kq with
  | zero => exact absurd HA.out (by simp [impl_readDecl.j0])
  | succ kj6 =>
   have H := HA.out; clear HA; simp only [impl_readDecl.j0] at H
   replace H := itb_ H; rcases H with ⟨rfl, H⟩ | ⟨rfl, H⟩
   ·replace H := bnd_ H; obtain ⟨t382, A21, H⟩ := H; replace H := itb_ H; rcases H with ⟨rfl, H⟩ | ⟨rfl, H⟩
    ·replace H := bnd_ H; obtain ⟨t383, A23, H⟩ := H; replace H := itb_ H; rcases H with ⟨rfl, H⟩ | ⟨rfl, H⟩
     ·simp only [Option.some.injEq, Prod.mk.injEq] at H
      obtain ⟨rfl, rfl, rfl, rfl⟩ := H; have hnb25 := NB378_371.out; have hnc25 := NB371_378.out; obtain ⟨z26_0, z26_1, z26_2, y26_0, y26_1, y26_2⟩ := bcz3 BK378.out; go_wp2_with (first | (go_at_call 87; (with_reducible refine (impl_isWord.calls kj6 t376 true _ A21.out).mono ?_); rintro e w' ⟨rfl, ⟨nd, rfl⟩⟩; (try (rw [drewN_self wc]; generalize hq_ : World.drewN wc _ = wc; have n0_ : Aside0 (wc.heap[gb371]? = some (.cells #[.string (⟨#[]⟩ : ByteArray), .string (⟨#[]⟩ : ByteArray), .bool false] 80 (0, 0))) := ⟨by rw [← hq_]; exact (bk_ BK371.out)⟩; have n1_ : Aside0 (wc.heap[gb378]? = some (.cells #[.string t376, .string x379001_6, .bool x379002_6] 80 (0, 0))) := ⟨by rw [← hq_]; exact (bk_ BK378.out)⟩; have n2_ : Aside0 (Below w.heap.size w wc) := ⟨by rw [← hq_]; exact bes_⟩; clear BK371 BK378 HB hq_; have BK371 := n0_; have BK378 := n1_; have HB := n2_; clear n0_ n1_ n2_; have hcq371_0 : wc.cell? ⟨gb371, 0, none⟩ = some (.string (⟨#[]⟩ : ByteArray)) := (blk_cell BK371.out 0).trans rfl; have hcq371_1 : wc.cell? ⟨gb371, 1, none⟩ = some (.string (⟨#[]⟩ : ByteArray)) := (blk_cell BK371.out 1).trans rfl; have hcq371_2 : wc.cell? ⟨gb371, 2, none⟩ = some (.bool false) := (blk_cell BK371.out 2).trans rfl; have hcq378_0 : wc.cell? ⟨gb378, 0, none⟩ = some (.string t376) := (blk_cell BK378.out 0).trans rfl; have hcq378_1 : wc.cell? ⟨gb378, 1, none⟩ = some (.string x379001_6) := (blk_cell BK378.out 1).trans rfl; have hcq378_2 : wc.cell? ⟨gb378, 2, none⟩ = some (.bool x379002_6) := (blk_cell BK378.out 2).trans rfl))) | (go_at_call 37; (with_reducible refine (impl_within.calls (x379001_6.size : Int) 1 60 true _ A23.out).mono ?_); rintro e w' ⟨rfl, ⟨nd, rfl⟩⟩; (try (rw [drewN_self wc]; generalize hq_ : World.drewN wc _ = wc; have n0_ : Aside0 (wc.heap[gb371]? = some (.cells #[.string (⟨#[]⟩ : ByteArray), .string (⟨#[]⟩ : ByteArray), .bool false] 80 (0, 0))) := ⟨by rw [← hq_]; exact (bk_ BK371.out)⟩; have n1_ : Aside0 (wc.heap[gb378]? = some (.cells #[.string t376, .string x379001_6, .bool x379002_6] 80 (0, 0))) := ⟨by rw [← hq_]; exact (bk_ BK378.out)⟩; have n2_ : Aside0 (Below w.heap.size w wc) := ⟨by rw [← hq_]; exact bes_⟩; clear BK371 BK378 HB hq_; have BK371 := n0_; have BK378 := n1_; have HB := n2_; clear n0_ n1_ n2_; have hcq371_0 : wc.cell? ⟨gb371, 0, none⟩ = some (.string (⟨#[]⟩ : ByteArray)) := (blk_cell BK371.out 0).trans rfl; have hcq371_1 : wc.cell? ⟨gb371, 1, none⟩ = some (.string (⟨#[]⟩ : ByteArray)) := (blk_cell BK371.out 1).trans rfl; have hcq371_2 : wc.cell? ⟨gb371, 2, none⟩ = some (.bool false) := (blk_cell BK371.out 2).trans rfl; have hcq378_0 : wc.cell? ⟨gb378, 0, none⟩ = some (.string t376) := (blk_cell BK378.out 0).trans rfl; have hcq378_1 : wc.cell? ⟨gb378, 1, none⟩ = some (.string x379001_6) := (blk_cell BK378.out 1).trans rfl; have hcq378_2 : wc.cell? ⟨gb378, 2, none⟩ = some (.bool x379002_6) := (blk_cell BK378.out 2).trans rfl)); obtain ⟨z27_0, z27_1, z27_2, y27_0, y27_1, y27_2⟩ := bcz3 BK371.out))
      refine bodyPost_ret (results_ct rfl _ _ gb371 80 #[.string t376, .string x379001_6, .bool x379002_6] (0, 0) _ rfl (bp_ BK371.out) Tryz.underlying80 rfl (by kernel_rfl)) rfl ?_
      exact ⟨er_, bes_⟩
     ·simp only [Option.some.injEq, Prod.mk.injEq] at H
      obtain ⟨rfl, rfl, rfl, rfl⟩ := H; have hnb28 := NB378_371.out; have hnc28 := NB371_378.out; obtain ⟨z29_0, z29_1, z29_2, y29_0, y29_1, y29_2⟩ := bcz3 BK378.out; go_wp2_with (first | (go_at_call 87; (with_reducible refine (impl_isWord.calls kj6 t376 true _ A21.out).mono ?_); rintro e w' ⟨rfl, ⟨nd, rfl⟩⟩; (try (rw [drewN_self wc]; generalize hq_ : World.drewN wc _ = wc; have n0_ : Aside0 (wc.heap[gb371]? = some (.cells #[.string (⟨#[]⟩ : ByteArray), .string (⟨#[]⟩ : ByteArray), .bool false] 80 (0, 0))) := ⟨by rw [← hq_]; exact (bk_ BK371.out)⟩; have n1_ : Aside0 (wc.heap[gb378]? = some (.cells #[.string t376, .string x379001_6, .bool x379002_6] 80 (0, 0))) := ⟨by rw [← hq_]; exact (bk_ BK378.out)⟩; have n2_ : Aside0 (Below w.heap.size w wc) := ⟨by rw [← hq_]; exact bes_⟩; clear BK371 BK378 HB hq_; have BK371 := n0_; have BK378 := n1_; have HB := n2_; clear n0_ n1_ n2_; have hcq371_0 : wc.cell? ⟨gb371, 0, none⟩ = some (.string (⟨#[]⟩ : ByteArray)) := (blk_cell BK371.out 0).trans rfl; have hcq371_1 : wc.cell? ⟨gb371, 1, none⟩ = some (.string (⟨#[]⟩ : ByteArray)) := (blk_cell BK371.out 1).trans rfl; have hcq371_2 : wc.cell? ⟨gb371, 2, none⟩ = some (.bool false) := (blk_cell BK371.out 2).trans rfl; have hcq378_0 : wc.cell? ⟨gb378, 0, none⟩ = some (.string t376) := (blk_cell BK378.out 0).trans rfl; have hcq378_1 : wc.cell? ⟨gb378, 1, none⟩ = some (.string x379001_6) := (blk_cell BK378.out 1).trans rfl; have hcq378_2 : wc.cell? ⟨gb378, 2, none⟩ = some (.bool x379002_6) := (blk_cell BK378.out 2).trans rfl))) | (go_at_call 37; (with_reducible refine (impl_within.calls (x379001_6.size : Int) 1 60 false _ A23.out).mono ?_); rintro e w' ⟨rfl, ⟨nd, rfl⟩⟩; (try (rw [drewN_self wc]; generalize hq_ : World.drewN wc _ = wc; have n0_ : Aside0 (wc.heap[gb371]? = some (.cells #[.string (⟨#[]⟩ : ByteArray), .string (⟨#[]⟩ : ByteArray), .bool false] 80 (0, 0))) := ⟨by rw [← hq_]; exact (bk_ BK371.out)⟩; have n1_ : Aside0 (wc.heap[gb378]? = some (.cells #[.string t376, .string x379001_6, .bool x379002_6] 80 (0, 0))) := ⟨by rw [← hq_]; exact (bk_ BK378.out)⟩; have n2_ : Aside0 (Below w.heap.size w wc) := ⟨by rw [← hq_]; exact bes_⟩; clear BK371 BK378 HB hq_; have BK371 := n0_; have BK378 := n1_; have HB := n2_; clear n0_ n1_ n2_; have hcq371_0 : wc.cell? ⟨gb371, 0, none⟩ = some (.string (⟨#[]⟩ : ByteArray)) := (blk_cell BK371.out 0).trans rfl; have hcq371_1 : wc.cell? ⟨gb371, 1, none⟩ = some (.string (⟨#[]⟩ : ByteArray)) := (blk_cell BK371.out 1).trans rfl; have hcq371_2 : wc.cell? ⟨gb371, 2, none⟩ = some (.bool false) := (blk_cell BK371.out 2).trans rfl; have hcq378_0 : wc.cell? ⟨gb378, 0, none⟩ = some (.string t376) := (blk_cell BK378.out 0).trans rfl; have hcq378_1 : wc.cell? ⟨gb378, 1, none⟩ = some (.string x379001_6) := (blk_cell BK378.out 1).trans rfl; have hcq378_2 : wc.cell? ⟨gb378, 2, none⟩ = some (.bool x379002_6) := (blk_cell BK378.out 2).trans rfl)); obtain ⟨z30_0, z30_1, z30_2, y30_0, y30_1, y30_2⟩ := bcz3 BK371.out))
      refine bodyPost_ret (results_ct rfl _ _ gb371 80 #[.string (⟨#[]⟩ : ByteArray), .string (⟨#[]⟩ : ByteArray), .bool false] (0, 0) _ rfl (bp_ BK371.out) Tryz.underlying80 rfl (by kernel_rfl)) rfl ?_
      exact ⟨er_, bes_⟩
    ·simp only [Option.some.injEq, Prod.mk.injEq] at H
     obtain ⟨rfl, rfl, rfl, rfl⟩ := H; have hnb31 := NB378_371.out; have hnc31 := NB371_378.out; obtain ⟨z32_0, z32_1, z32_2, y32_0, y32_1, y32_2⟩ := bcz3 BK378.out; go_wp2_with (first | (go_at_call 87; (with_reducible refine (impl_isWord.calls kj6 t376 false _ A21.out).mono ?_); rintro e w' ⟨rfl, ⟨nd, rfl⟩⟩; (try (rw [drewN_self wc]; generalize hq_ : World.drewN wc _ = wc; have n0_ : Aside0 (wc.heap[gb371]? = some (.cells #[.string (⟨#[]⟩ : ByteArray), .string (⟨#[]⟩ : ByteArray), .bool false] 80 (0, 0))) := ⟨by rw [← hq_]; exact (bk_ BK371.out)⟩; have n1_ : Aside0 (wc.heap[gb378]? = some (.cells #[.string t376, .string x379001_6, .bool x379002_6] 80 (0, 0))) := ⟨by rw [← hq_]; exact (bk_ BK378.out)⟩; have n2_ : Aside0 (Below w.heap.size w wc) := ⟨by rw [← hq_]; exact bes_⟩; clear BK371 BK378 HB hq_; have BK371 := n0_; have BK378 := n1_; have HB := n2_; clear n0_ n1_ n2_; have hcq371_0 : wc.cell? ⟨gb371, 0, none⟩ = some (.string (⟨#[]⟩ : ByteArray)) := (blk_cell BK371.out 0).trans rfl; have hcq371_1 : wc.cell? ⟨gb371, 1, none⟩ = some (.string (⟨#[]⟩ : ByteArray)) := (blk_cell BK371.out 1).trans rfl; have hcq371_2 : wc.cell? ⟨gb371, 2, none⟩ = some (.bool false) := (blk_cell BK371.out 2).trans rfl; have hcq378_0 : wc.cell? ⟨gb378, 0, none⟩ = some (.string t376) := (blk_cell BK378.out 0).trans rfl; have hcq378_1 : wc.cell? ⟨gb378, 1, none⟩ = some (.string x379001_6) := (blk_cell BK378.out 1).trans rfl; have hcq378_2 : wc.cell? ⟨gb378, 2, none⟩ = some (.bool x379002_6) := (blk_cell BK378.out 2).trans rfl)); obtain ⟨z33_0, z33_1, z33_2, y33_0, y33_1, y33_2⟩ := bcz3 BK371.out))
     refine bodyPost_ret (results_ct rfl _ _ gb371 80 #[.string (⟨#[]⟩ : ByteArray), .string (⟨#[]⟩ : ByteArray), .bool false] (0, 0) _ rfl (bp_ BK371.out) Tryz.underlying80 rfl (by kernel_rfl)) rfl ?_
     exact ⟨er_, bes_⟩
   ·simp only [Option.some.injEq, Prod.mk.injEq] at H
    obtain ⟨rfl, rfl, rfl, rfl⟩ := H; have hnb34 := NB371_378.out; have hnc34 := NB378_371.out; obtain ⟨z35_0, z35_1, z35_2, y35_0, y35_1, y35_2⟩ := bcz3 BK371.out; go_wp2; refine bodyPost_ret (results_ct rfl _ _ gb371 80 #[.string (⟨#[]⟩ : ByteArray), .string (⟨#[]⟩ : ByteArray), .bool false] (0, 0) _ rfl (bp_ BK371.out) Tryz.underlying80 rfl (by kernel_rfl)) rfl ?_
    exact ⟨er_, bes_⟩

/-! ### impl_readDecls: function 45 -/
def impl_readDecls.l0 : Nat → List (S80) → List ByteArray → Int → Int → Option ((List (S80)))
 | 0, _, _, _, _ => none
 | k + 1, x3, x10, x11, x12 => if x12 < x11 then (if 0 ≤ x12 then (if x12 < (x10.length : Int) then ((impl_readDecl.f k (rdOf ByteArray.empty x10 x12)).bind fun bt391 => (if bt391.2.2.2 = true then (if (x3.length : Int) < 12 then (if x3.length < 3518437208883 then (impl_readDecls.l0 k (x3 ++ [(⟨bt391.1, bt391.2.1, bt391.2.2.1⟩ : S80)]) x10 x11 (wrap64 (x12 + 1))) else (none)) else (impl_readDecls.l0 k x3 x10 x11 (wrap64 (x12 + 1)))) else (impl_readDecls.l0 k x3 x10 x11 (wrap64 (x12 + 1))))) else (none)) else (none)) else (some x3)
def impl_readDecls.f (k : Nat) (a0 : ByteArray) : Option ((List (S80))) := (strings_Split.f a0 (⟨#[59]⟩ : ByteArray)).bind fun t387 => (impl_readDecls.l0 k (([] : List (S80))) t387 (t387.length : Int) 0)
theorem impl_readDecls.calls (k : Nat) (a0 : ByteArray) (r : List (S80)) (w : World) (h : impl_readDecls.f k a0 = some r) (hT_ : U8Tabs_ w) :
  Calls Tryz.prog 45 #[.string a0] w fun e w' => ∃ v0_ : Value, e = .returned (v0_) ∧ Kd.R k80 80 w' w.heap.size (fun _ => True) v0_ r ∧ Below w.heap.size w w' := by
 have hu80 := Tryz.underlying80; have HB := ak_ (Below.refl w.heap.size w); have H := h; unfold impl_readDecls.f at H
 clear h; obtain ⟨y384, hy384⟩ : ∃ y_ : List (S80), y_ = (([] : List (S80))) := ⟨_, rfl⟩
 replace H : ((strings_Split.f a0 (⟨#[59]⟩ : ByteArray)).bind fun t387 => (impl_readDecls.l0 k y384 t387 (t387.length : Int) 0)) = some r := by first | (rw [hy384]; with_reducible exact H) | (have H2_ := (Option.bind_some _ _).symm.trans H; rw [hy384]; with_reducible exact H2_) | (have H2_ := (Option.bind_some _ _).symm.trans H; with_reducible exact H2_) | with_reducible exact H | (rw [hy384]; exact H) | exact H
 have Ny384 := ak_ hy384; clear hy384; replace H := bnd_ H; obtain ⟨t387, A2, H⟩ := H; have H' := ak_ H; clear H; go_enter Tryz.func45, Tryz.ntmps45
 go_wp2_with (first | ((with_reducible refine gate_dst (N := 8) rfl ?_); (try (refine gate_guard (by rfl) ?_; dsimp only)); refine Kd.R_lit k80 _ 80 ?hg (N := 8) ?hd (xs := ([] : List (S80))) (inner := []) (ok := fun _ => True) (okp := fun _ => True) ?hr ?hp (fun _ hk => hk) trivial (Below.refl _ _) (Nat.le_refl _) (by simp) ?_; (case hd => rfl); (case hg => rfl); (case hr => first | (go_simp; done) | (go_simp; rfl)); (case hp => exact (Reps.none _ _)); intro v385 w3 ho4 hb hg_ hnew_; clear hg_ hnew_; (first | rw [← Ny384.out] at ho4 | (simp only [Int.reduceToNat] at ho4; rw [← Ny384.out] at ho4)); have n_ := an2_ (Kd.R_lower ho4 (below_size bel_)) (below_step bel_ hb); clear HB; obtain ⟨HO386, HB⟩ := n_; clear hb ho4) | ((with_reducible refine gate_callee (f := 62) rfl ?_); refine gl_ (some 10) Tryz.func62 #[.string a0, .string (⟨#[59]⟩ : ByteArray)] ?_; (with_reducible refine (strings_Split.calls a0 (⟨#[59]⟩ : ByteArray) t387 _ A2.out ?hT_).mono ?_); (case hT_ => exact utf8_keep_ hT_ bel_); rintro e w5 ⟨v388, rfl, ho0, hb⟩; refine ⟨_, rfl, ?_⟩; have n_ := an3_ (Kd.R_below (kdR_ HO386.out) hb) (Kd.R_lower ho0 (below_size bel_)) (below_step bel_ hb); clear HO386 HB; obtain ⟨HO386, HO389, HB⟩ := n_; (try clear hb);(try clear hb2);(try clear hk);(try clear hi);(try clear ho0); obtain ⟨Ao6, co6, eo6⟩ := Kd.R_slice HO389.out; subst eo6))
 go_loopg [3, 12] k (fun kq v3 v12 w' => ∃ (x3_1 : List (S80)) (x12_1 : Int), v12 = .int .i64 x12_1 ∧ Aside0 (impl_readDecls.l0 kq x3_1 t387 (t387.length : Int) x12_1 = some r) ∧ Aside0 (kq ≤ k) ∧ Aside0 (Kd.R k80 80 w' w.heap.size (fun _ => True) v3 x3_1) ∧ Aside0 (Kd.R Kd.string 9 w' w.heap.size (fun _ => True) (.slice Ao6 t387.length co6) t387) ∧ Aside0 (Below w.heap.size w w'))
 case atStart => exact ⟨(y384), (0), sv_, H', ⟨Nat.le_refl _⟩, ⟨kdR_ HO386.out⟩, ⟨kdR_ HO389.out⟩, ⟨bel_⟩⟩
 case round =>
  clear H'; (try clear p2);(try clear c4);(try clear c6)
  obtain ⟨x3_1, x12_1, rfl, HA, HK1, HO_3, HO_10, HB⟩ := hrel; cases gk with
  | zero => exact absurd HA.out (by simp [impl_readDecls.l0])
  | succ k1 =>
   have H := HA.out; clear HA; simp only [impl_readDecls.l0] at H
   replace H := ied_ H; rcases H with ⟨c7b0, H⟩ | ⟨c7b0, H⟩
   ·replace H := itd_ H; obtain ⟨c8b0, H⟩ := H; replace H := itd_ H; obtain ⟨c9b0, H⟩ := H; replace H := bnd_ H; obtain ⟨⟨t391, t392, t393, t394⟩, A10, H⟩ := H; (try dsimp only at H); replace H := itb_ H; rcases H with ⟨rfl, H⟩ | ⟨rfl, H⟩
    ·replace H := ite_ H; rcases H with ⟨c12, H⟩ | ⟨c12, H⟩
     ·have c12b0 := decide_eq_true c12; have c12b1 : decide (x3_1.length < 12) = true := decide_eq_true (by omega)
      clear c12; replace H := itn_ H; obtain ⟨c13, H⟩ := H; have LMc13 := ak_ c13; clear c13; obtain ⟨y396, hy396⟩ : ∃ y_ : List (S80), y_ = (x3_1 ++ [(⟨t391, t392, t393⟩ : S80)]) := ⟨_, rfl⟩
      replace H : (impl_readDecls.l0 k1 y396 t387 (t387.length : Int) (wrap64 (x12_1 + 1))) = some r := by first | (rw [hy396]; with_reducible exact H) | (have H2_ := (Option.bind_some _ _).symm.trans H; rw [hy396]; with_reducible exact H2_) | (have H2_ := (Option.bind_some _ _).symm.trans H; with_reducible exact H2_) | with_reducible exact H | (rw [hy396]; exact H) | exact H
      have Ny396 := ak_ hy396; clear hy396; have H' := ak_ H; clear H; have p390 : 0 ≤ (x12_1 : Int) := oda_
      have q390 : x12_1 < (t387.length : Int) := oda_
      obtain ⟨ad390, e390, hx390_0⟩ := Kd.at_string (Kd.R_reads' HO_10.out).2.2 x12_1 p390 q390; cases e390; replace p390 := eq_true p390; replace q390 := eq_true q390; go_wp2_with (first | ((with_reducible refine gate_callee (f := 64) rfl ?_); refine gl_ (some 18) Tryz.func64 #[.string (rdOf ByteArray.empty t387 x12_1)] ?_; (with_reducible refine (impl_readDecl.calls k1 (rdOf ByteArray.empty t387 x12_1) t391 t392 t393 true _ A10.out ?hT_).mono ?_); (case hT_ => exact utf8_keep_ hT_ bel_); rintro e w14 ⟨rfl, hb⟩; refine ⟨_, rfl, ?_⟩; have n_ := an3_ (Kd.R_below (kdR_ HO_3.out) hb) (Kd.R_below (kdR_ HO_10.out) hb) (below_step bel_ hb); clear HO_3 HO_10 HB; obtain ⟨HO_3, HO_10, HB⟩ := n_; (try clear hb);(try clear hb2);(try clear hk);(try clear hi)) | ((with_reducible refine gate_dst (N := 6) rfl ?_); (try (refine gate_guard (by rfl) ?_; dsimp only)); refine bx_ (N := 6) (cs := #[.string (⟨#[]⟩ : ByteArray), .string (⟨#[]⟩ : ByteArray), .bool false]) (t := 80) ?_; intro gb395 hg w15 hbox hb; have n_ := an6_ (Kd.R_below (Kd.R_elderB (kdR_ HO_3.out) gb395 (Nat.le_of_eq hg.symm)) hb) (Kd.R_below (kdR_ HO_10.out) hb) (below_step bel_ hb) (hbox) (gsl_ hg HB.out) (gsl_ hg HB.out); clear HO_3 HO_10 HB; obtain ⟨HO_3, HO_10, HB, BK395, GW395, GE395⟩ := n_; clear hb hbox hg; obtain ⟨z16_0, z16_1, z16_2, y16_0, y16_1, y16_2⟩ := bcz3 BK395.out; obtain ⟨Ao17, co17, eo17⟩ := Kd.R_slice HO_3.out; subst eo17) | ((with_reducible refine gate_builtin (b := .append) (xs := #[.tmp 27, .tmp 29]) rfl ?_); (try (refine gate_guard (by rfl) ?_; dsimp only)); at_builtin; refine Kd.R_append k80 (w0 := w) w.heap.size rfl (.tmp 27) (.tmp 29) 48 80 (.agg #[(.string ⟨#[]⟩), (.string ⟨#[]⟩), (.bool false)]) 40 rfl Tryz.underlying48 info80 rfl (by decide) (by omega) (.slice Ao17 x3_1.length co17) x3_1 (⟨t391, t392, t393⟩ : S80) [.string t391, .string t392, .bool t393] (fun k_ => k_ ≠ gb395) (fun _ => False) rfl (by first | (go_simp; done) | (go_simp; rfl)) ?aP (fun _ hk => hk.elim) ?aF ?aO ?aB ?aS ?aL ?_; (case aP => exact k80_mkM _ _ _ (⟨t391, t392, t393⟩ : S80)); (case aB => exact bes_); (case aF => exact (fun k_ hk => Kd.freshB (g := gb395) (o := .cells #[.string t391, .string t392, .bool t393] 80 (0, 0)) (bp_ BK395.out) k_ hk)); (case aO => exact (by (with_reducible repeat (first | apply Kd.R_alloc | apply Kd.R_drewN | apply Kd.R_drew)); exact Kd.R_mono (Kd.R_far (Kd.R_far (Kd.R_far (Kd.R_mono HO_3.out (fun k_ hk => (⟨hk, hk.2⟩ : _ ∧ k_ ≠ gb395))) (fun _ hk => hk.2) _) (fun _ hk => hk.2) _) (fun _ hk => hk.2) _) (fun _ hk => hk.1.2))); (case aS => exact (below_size bes_)); (case aL => have := LMc13.out; omega); intro v397 w18 ho hb hg hat; rw [← Ny396.out] at ho; have n_ := an4_ (Kd.R_over' (by (with_reducible repeat (first | apply Kd.R_alloc | apply Kd.R_drewN | apply Kd.R_drew)); exact (Kd.R_mono (Kd.R_far (Kd.R_far (Kd.R_far (Kd.R_types HO_10.out BK395.out (by decide)) (fun _ hk => hk.2) _) (fun _ hk => hk.2) _) (fun _ hk => hk.2) _) (fun _ h_ => h_.1))) (Kd.R_typed (by (with_reducible repeat (first | apply Kd.R_alloc | apply Kd.R_drewN | apply Kd.R_drew)); exact (Kd.R_mono (Kd.R_far (Kd.R_far (Kd.R_far (Kd.R_mono HO_3.out (fun k_ hk => (⟨hk, hk.2⟩ : _ ∧ k_ ≠ gb395))) (fun _ hk => hk.2) _) (fun _ hk => hk.2) _) (fun _ hk => hk.2) _) (fun _ h_ => h_.1)))) (by decide) hg) (blk_grown (g := gb395) (o := .cells #[.string t391, .string t392, .bool t393] 80 (0, 0)) (bp_ BK395.out) hg (Kd.R_away HO_3.out (fun _ hk => hk.2))) (hb) (ho); clear HO_10 BK395 HB HO_3; obtain ⟨HO_10, BK395, HB, HO398⟩ := n_; clear ho hb hg hat))
      go_roundg k1
      case measure => have := HK1.out; omega
      case rel => exact ⟨(y396), (wrap64 (x12_1 + 1)), sv_, H', ⟨by have := HK1.out; omega⟩, ⟨by (with_reducible repeat (first | apply Kd.R_alloc | apply Kd.R_drewN | apply Kd.R_drew)); exact Kd.R_mono HO398.out (fun _ hk => trivial)⟩, ⟨kdR_ HO_10.out⟩, ⟨bes_⟩⟩
     ·have c12b0 := decide_eq_false c12; have c12b1 : decide (x3_1.length < 12) = false := decide_eq_false (by omega)
      clear c12; have H' := ak_ H; clear H; have p390 : 0 ≤ (x12_1 : Int) := oda_
      have q390 : x12_1 < (t387.length : Int) := oda_
      obtain ⟨ad390, e390, hx390_0⟩ := Kd.at_string (Kd.R_reads' HO_10.out).2.2 x12_1 p390 q390; cases e390; replace p390 := eq_true p390; replace q390 := eq_true q390; go_wp2_with (first | ((with_reducible refine gate_callee (f := 64) rfl ?_); refine gl_ (some 18) Tryz.func64 #[.string (rdOf ByteArray.empty t387 x12_1)] ?_; (with_reducible refine (impl_readDecl.calls k1 (rdOf ByteArray.empty t387 x12_1) t391 t392 t393 true _ A10.out ?hT_).mono ?_); (case hT_ => exact utf8_keep_ hT_ bel_); rintro e w19 ⟨rfl, hb⟩; refine ⟨_, rfl, ?_⟩; have n_ := an3_ (Kd.R_below (kdR_ HO_3.out) hb) (Kd.R_below (kdR_ HO_10.out) hb) (below_step bel_ hb); clear HO_3 HO_10 HB; obtain ⟨HO_3, HO_10, HB⟩ := n_; (try clear hb);(try clear hb2);(try clear hk);(try clear hi)) | ((with_reducible refine gate_dst (N := 6) rfl ?_); (try (refine gate_guard (by rfl) ?_; dsimp only)); refine bx_ (N := 6) (cs := #[.string (⟨#[]⟩ : ByteArray), .string (⟨#[]⟩ : ByteArray), .bool false]) (t := 80) ?_; intro gb395 hg w20 hbox hb; have n_ := an6_ (Kd.R_below (Kd.R_elderB (kdR_ HO_3.out) gb395 (Nat.le_of_eq hg.symm)) hb) (Kd.R_below (kdR_ HO_10.out) hb) (below_step bel_ hb) (hbox) (gsl_ hg HB.out) (gsl_ hg HB.out); clear HO_3 HO_10 HB; obtain ⟨HO_3, HO_10, HB, BK395, GW395, GE395⟩ := n_; clear hb hbox hg; obtain ⟨z21_0, z21_1, z21_2, y21_0, y21_1, y21_2⟩ := bcz3 BK395.out; obtain ⟨Ao22, co22, eo22⟩ := Kd.R_slice HO_3.out; subst eo22))
      go_roundg k1
      case measure => have := HK1.out; omega
      case rel => exact ⟨(x3_1), (wrap64 (x12_1 + 1)), sv_, H', ⟨by have := HK1.out; omega⟩, ⟨by (with_reducible repeat (first | apply Kd.R_alloc | apply Kd.R_drewN | apply Kd.R_drew)); exact Kd.R_mono (Kd.R_far (Kd.R_far (Kd.R_far (Kd.R_mono HO_3.out (fun k_ hk => (⟨hk, hk.2⟩ : _ ∧ k_ ≠ gb395))) (fun _ hk => hk.2) _) (fun _ hk => hk.2) _) (fun _ hk => hk.2) _) (fun _ hk => trivial)⟩, ⟨by (with_reducible repeat (first | apply Kd.R_alloc | apply Kd.R_drewN | apply Kd.R_drew)); exact Kd.R_mono (Kd.R_far (Kd.R_far (Kd.R_far (Kd.R_types HO_10.out BK395.out (by decide)) (fun _ hk => hk.2) _) (fun _ hk => hk.2) _) (fun _ hk => hk.2) _) (fun _ hk => trivial)⟩, ⟨bes_⟩⟩
    ·have H' := ak_ H; clear H; have p390 : 0 ≤ (x12_1 : Int) := oda_
     have q390 : x12_1 < (t387.length : Int) := oda_
     obtain ⟨ad390, e390, hx390_0⟩ := Kd.at_string (Kd.R_reads' HO_10.out).2.2 x12_1 p390 q390; cases e390; replace p390 := eq_true p390; replace q390 := eq_true q390; go_wp2_with (first | ((with_reducible refine gate_callee (f := 64) rfl ?_); refine gl_ (some 18) Tryz.func64 #[.string (rdOf ByteArray.empty t387 x12_1)] ?_; (with_reducible refine (impl_readDecl.calls k1 (rdOf ByteArray.empty t387 x12_1) t391 t392 t393 false _ A10.out ?hT_).mono ?_); (case hT_ => exact utf8_keep_ hT_ bel_); rintro e w23 ⟨rfl, hb⟩; refine ⟨_, rfl, ?_⟩; have n_ := an3_ (Kd.R_below (kdR_ HO_3.out) hb) (Kd.R_below (kdR_ HO_10.out) hb) (below_step bel_ hb); clear HO_3 HO_10 HB; obtain ⟨HO_3, HO_10, HB⟩ := n_; (try clear hb);(try clear hb2);(try clear hk);(try clear hi)) | ((with_reducible refine gate_dst (N := 6) rfl ?_); (try (refine gate_guard (by rfl) ?_; dsimp only)); refine bx_ (N := 6) (cs := #[.string (⟨#[]⟩ : ByteArray), .string (⟨#[]⟩ : ByteArray), .bool false]) (t := 80) ?_; intro gb395 hg w24 hbox hb; have n_ := an6_ (Kd.R_below (Kd.R_elderB (kdR_ HO_3.out) gb395 (Nat.le_of_eq hg.symm)) hb) (Kd.R_below (kdR_ HO_10.out) hb) (below_step bel_ hb) (hbox) (gsl_ hg HB.out) (gsl_ hg HB.out); clear HO_3 HO_10 HB; obtain ⟨HO_3, HO_10, HB, BK395, GW395, GE395⟩ := n_; clear hb hbox hg; obtain ⟨z25_0, z25_1, z25_2, y25_0, y25_1, y25_2⟩ := bcz3 BK395.out))
     go_roundg k1
     case measure => have := HK1.out; omega
     case rel => exact ⟨(x3_1), (wrap64 (x12_1 + 1)), sv_, H', ⟨by have := HK1.out; omega⟩, ⟨by (with_reducible repeat (first | apply Kd.R_alloc | apply Kd.R_drewN | apply Kd.R_drew)); exact Kd.R_mono (Kd.R_far (Kd.R_far (Kd.R_far (Kd.R_mono HO_3.out (fun k_ hk => (⟨hk, hk.2⟩ : _ ∧ k_ ≠ gb395))) (fun _ hk => hk.2) _) (fun _ hk => hk.2) _) (fun _ hk => hk.2) _) (fun _ hk => trivial)⟩, ⟨by (with_reducible repeat (first | apply Kd.R_alloc | apply Kd.R_drewN | apply Kd.R_drew)); exact Kd.R_mono (Kd.R_far (Kd.R_far (Kd.R_far (Kd.R_types HO_10.out BK395.out (by decide)) (fun _ hk => hk.2) _) (fun _ hk => hk.2) _) (fun _ hk => hk.2) _) (fun _ hk => trivial)⟩, ⟨bes_⟩⟩
   ·obtain rfl := Option.some.inj H
    go_wp2; go_ret
    exact ⟨_, er_, kdR_ HO_3.out, bel_⟩

/-! ### impl_ReadSheet: function 19 -/
def impl_ReadSheet.l0 : Nat → ByteArray → List (S50) → Option ((List (S50)) × Bool)
 | 0, _, _ => none
 | k + 1, x0, x4 => (strings_Cut.f x0 (⟨#[123]⟩ : ByteArray)).bind fun bt422 => (if bt422.2.2 = true then ((strings_Cut.f bt422.2.1 (⟨#[125]⟩ : ByteArray)).bind fun bt425 => ((impl_readSelectors.f k bt422.1).bind fun bt428 => (if bt428.2 = true then (if (x4.length : Int) < 30 then ((impl_readDecls.f k bt425.1).bind fun t432 => (if x4.length < 2932031007402 then (impl_ReadSheet.l0 k bt425.2.1 (x4 ++ [(⟨bt428.1, t432⟩ : S50)])) else (none))) else (impl_ReadSheet.l0 k bt425.2.1 x4)) else (impl_ReadSheet.l0 k bt425.2.1 x4)))) else (some (x4, true)))
def impl_ReadSheet.f (k : Nat) (a0 : ByteArray) : Option ((List (S50)) × Bool) := if (a0.size : Int) > 1500 then (some (([] : List (S50)), false)) else ((impl_withoutComments.f k a0).bind fun t421 => (impl_ReadSheet.l0 k t421 (([] : List (S50)))))
theorem impl_ReadSheet.calls (k : Nat) (a0 : ByteArray) (r1 : List (S50)) (r2 : Bool) (w : World) (h : impl_ReadSheet.f k a0 = some (r1, r2)) (hT_ : U8Tabs_ w) :
  Calls Tryz.prog 19 #[.string a0] w fun e w' => ∃ v0_ : Value, e = .returned (.tuple #[v0_, .bool r2]) ∧ Kd.S kRule_ 50 w' w.heap.size (fun _ => True) v0_ r1 ∧ Below w.heap.size w w' := by
 have hu50 := Tryz.underlying50; have HB := ak_ (Below.refl w.heap.size w); have H := h; unfold impl_ReadSheet.f at H
 clear h; replace H := ite_ H; rcases H with ⟨c2, H⟩ | ⟨c2, H⟩
 ·have c2b0 := decide_eq_true c2; have c2b1 : decide (1500 < a0.size) = true := decide_eq_true (by omega)
  clear c2; simp only [Option.some.injEq, Prod.mk.injEq] at H
  obtain ⟨rfl, rfl⟩ := H; go_enter Tryz.func19, Tryz.ntmps19
  go_wp2; go_ret2
  exact ⟨_, er_, by first | exact Kd.R_nil _ _ _ _ _ | exact Kd.N_nil _ _ _ _ _ | exact Kd.V_nil _ _ _ _ _ | exact Kd.Q_nil _ _ _ _ _ | exact Kd.S_nil _ _ _ _ _, bel_⟩
 ·have c2b0 := decide_eq_false c2; have c2b1 : decide (1500 < a0.size) = false := decide_eq_false (by omega)
  clear c2; obtain ⟨y418, hy418⟩ : ∃ y_ : List (S50), y_ = (([] : List (S50))) := ⟨_, rfl⟩
  replace H : ((impl_withoutComments.f k a0).bind fun t421 => (impl_ReadSheet.l0 k t421 y418)) = some (r1, r2) := by first | (rw [hy418]; with_reducible exact H) | (have H2_ := (Option.bind_some _ _).symm.trans H; rw [hy418]; with_reducible exact H2_) | (have H2_ := (Option.bind_some _ _).symm.trans H; with_reducible exact H2_) | with_reducible exact H | (rw [hy418]; exact H) | exact H
  have Ny418 := ak_ hy418; clear hy418; replace H := bnd_ H; obtain ⟨t421, A3, H⟩ := H; have H' := ak_ H; clear H; go_enter Tryz.func19, Tryz.ntmps19
  go_wp2_with (first | ((with_reducible refine gate_dst (N := 16) rfl ?_); (try (refine gate_guard (by rfl) ?_; dsimp only)); refine Kd.R_lit kRule_ _ 50 ?hg (N := 16) ?hd (xs := ([] : List (S50))) (inner := []) (ok := fun _ => True) (okp := fun _ => True) ?hr ?hp (fun _ hk => hk) trivial (Below.refl _ _) (Nat.le_refl _) (by simp) ?_; (case hd => rfl); (case hg => rfl); (case hr => first | (go_simp; done) | (go_simp; rfl)); (case hp => exact (Reps.none _ _)); intro v419 w4 ho5 hb hg_ hnew_; clear hg_ hnew_; (first | rw [← Ny418.out] at ho5 | (simp only [Int.reduceToNat] at ho5; rw [← Ny418.out] at ho5)); have n_ := an2_ (Kd.S_lower (S_empty_ ho5 Ny418.out) (below_size bel_)) (below_step bel_ hb); clear HB; obtain ⟨HO420, HB⟩ := n_; clear hb ho5) | ((with_reducible refine gate_callee (f := 42) rfl ?_); refine gl_ (some 18) Tryz.func42 #[.string a0] ?_; (with_reducible refine (impl_withoutComments.calls k a0 t421 _ A3.out ?hT_).mono ?_); (case hT_ => first | exact hT_ | exact utf8_keep_ hT_ bel_ | exact utf8_drawn_ hT_ (by repeat (first | exact Drawn0.refl _ | apply Drawn0.step)) | exact utf8_keep_ hT_ (by repeat (first | exact Below.refl _ _ | apply below_alloc | apply pw_below_drewN | apply below_drew1))); rintro e w' ⟨rfl, ⟨nd, rfl⟩⟩; refine ⟨_, rfl, ?_⟩))
  go_loopg [0, 4] k (fun kq v0 v4 w' => ∃ (x0_1 : ByteArray) (x4_1 : List (S50)), v0 = .string x0_1 ∧ Aside0 (impl_ReadSheet.l0 kq x0_1 x4_1 = some (r1, r2)) ∧ Aside0 (kq ≤ k) ∧ Aside0 (Kd.S kRule_ 50 w' w.heap.size (fun _ => True) v4 x4_1) ∧ Aside0 (Below w.heap.size w w'))
  case atStart => exact ⟨(t421), (y418), sv_, H', ⟨Nat.le_refl _⟩, ⟨kdS_ HO420.out⟩, ⟨bel_⟩⟩
  case round =>
   clear H'; (try clear c2b0);(try clear c2b1)
   obtain ⟨x0_1, x4_1, rfl, HA, HK1, HO_4, HB⟩ := hrel; cases gk with
   | zero => exact absurd HA.out (by simp [impl_ReadSheet.l0])
   | succ k1 =>
    have H := HA.out; clear HA; simp only [impl_ReadSheet.l0] at H
    replace H := bnd_ H; obtain ⟨⟨t422, t423, t424⟩, A6, H⟩ := H; (try dsimp only at H); replace H := itb_ H; rcases H with ⟨rfl, H⟩ | ⟨rfl, H⟩
    ·replace H := bnd_ H; obtain ⟨⟨t425, t426, t427⟩, A8, H⟩ := H; (try dsimp only at H); replace H := bnd_ H; obtain ⟨⟨t428, t429⟩, A9, H⟩ := H; (try dsimp only at H); replace H := itb_ H; rcases H with ⟨rfl, H⟩ | ⟨rfl, H⟩
     ·replace H := ite_ H; rcases H with ⟨c11, H⟩ | ⟨c11, H⟩
      ·have c11b0 := decide_eq_true c11; have c11b1 : decide (x4_1.length < 30) = true := decide_eq_true (by omega)
       clear c11; replace H := bnd_ H; obtain ⟨t432, A12, H⟩ := H; replace H := itn_ H; obtain ⟨c13, H⟩ := H; have LMc13 := ak_ c13; clear c13; obtain ⟨y435, hy435⟩ : ∃ y_ : List (S50), y_ = (x4_1 ++ [(⟨t428, t432⟩ : S50)]) := ⟨_, rfl⟩
       replace H : (impl_ReadSheet.l0 k1 t426 y435) = some (r1, r2) := by first | (rw [hy435]; with_reducible exact H) | (have H2_ := (Option.bind_some _ _).symm.trans H; rw [hy435]; with_reducible exact H2_) | (have H2_ := (Option.bind_some _ _).symm.trans H; with_reducible exact H2_) | with_reducible exact H | (rw [hy435]; exact H) | exact H
       have Ny435 := ak_ hy435; clear hy435; have H' := ak_ H; clear H; go_wp2_with (first | ((with_reducible refine gate_callee (f := 43) rfl ?_); refine gl_ (some 21) Tryz.func43 #[.string x0_1, .string (⟨#[123]⟩ : ByteArray)] ?_; (with_reducible refine (strings_Cut.calls x0_1 (⟨#[123]⟩ : ByteArray) t422 t423 true _ A6.out ?hT_).mono ?_); (case hT_ => exact utf8_keep_ hT_ bel_); rintro e w' ⟨rfl, ⟨nd, rfl⟩⟩; refine ⟨_, rfl, ?_⟩) | ((with_reducible refine gate_callee (f := 43) rfl ?_); refine gl_ (some 30) Tryz.func43 #[.string t423, .string (⟨#[125]⟩ : ByteArray)] ?_; (with_reducible refine (strings_Cut.calls t423 (⟨#[125]⟩ : ByteArray) t425 t426 t427 _ A8.out ?hT_).mono ?_); (case hT_ => exact utf8_keep_ hT_ bel_); rintro e w' ⟨rfl, ⟨nd, rfl⟩⟩; refine ⟨_, rfl, ?_⟩) | ((with_reducible refine gate_callee (f := 44) rfl ?_); refine gl_ (some 36) Tryz.func44 #[.string t422] ?_; (with_reducible refine (impl_readSelectors.calls k1 t422 t428 true _ A9.out ?hT_).mono ?_); (case hT_ => exact utf8_keep_ hT_ bel_); rintro e w14 ⟨v430, rfl, ho0, hb⟩; refine ⟨_, rfl, ?_⟩; obtain ⟨W0_, hBW_, h4_, h6_⟩ := oldnew_ (kdS_ HO_4.out) ho0 hb; have HBW := ak_ hBW_; have n0_ := ak_ h4_; have n1_ := ak_ (Kd.S_lower h6_ (below_size bel_)); have n2_ := ak_ (below_step bel_ hb); clear HO_4; clear HB; have HO_4 := n0_; have HO431 := n1_; have HB := n2_; clear n0_ n1_ n2_; clear h4_ h6_ hBW_; (try clear hb);(try clear hb2);(try clear hk);(try clear hi);(try clear ho0); obtain ⟨Ao15, co15, eo15⟩ := Kd.S_slice HO_4.out; subst eo15) | ((with_reducible refine gate_callee (f := 45) rfl ?_); refine gl_ (some 48) Tryz.func45 #[.string t425] ?_; (with_reducible refine (impl_readDecls.calls k1 t425 t432 _ A12.out ?hT_).mono ?_); (case hT_ => exact utf8_keep_ hT_ bel_); rintro e w16 ⟨v433, rfl, ho0, hb⟩; refine ⟨_, rfl, ?_⟩; have n_ := an4_ (Kd.S_below (kdS_ HO_4.out) hb) (Kd.S_below (kdS_ HO431.out) hb) (Kd.R_lower (R_mine_ ho0 (below_size (by repeat (first | (with_reducible first | exact HBW.out | apply below_alloc | apply pw_below_drewN | apply below_drew1) | exact HBW.out)))) (below_size bel_)) (below_step bel_ hb); clear HO_4 HO431 HB; obtain ⟨HO_4, HO431, HO434, HB⟩ := n_; (try clear hb);(try clear hb2);(try clear hk);(try clear hi);(try clear ho0); obtain ⟨Ao17, co17, eo17⟩ := Kd.R_slice HO434.out; subst eo17; obtain ⟨Ao18, co18, eo18⟩ := Kd.S_slice HO431.out; subst eo18) | ((with_reducible refine gate_builtin (b := .append) (xs := #[.tmp 45, .tmp 50]) rfl ?_); (try (refine gate_guard (by rfl) ?_; dsimp only)); at_builtin; refine Kd.S_append kRule_ (w0 := w) w.heap.size rfl (.tmp 45) (.tmp 50) 24 50 (.agg #[(.slice none 0 0), (.slice none 0 0)]) 48 rfl Tryz.underlying24 info50 rfl (by decide) (by omega) (.slice Ao15 x4_1.length co15) x4_1 (⟨t428, t432⟩ : S50) [.slice Ao18 t428.length co18, .slice Ao17 t432.length co17] (fun _ => True) (fun k_ => W0_.heap.size ≤ k_) rfl rfl ?aP ?aK ?aF ?aO ?aB ?aS ?aL ?_; (case aP => exact kRule_mkM_ (kdS_ HO431.out) (kdR_ HO434.out)); (case aK => exact fun k_ hk => ⟨trivial, fun he_ => Nat.lt_irrefl _ (Nat.lt_of_lt_of_le ((Kd.S_R HO_4.out).1 k_ he_.symm).2 hk)⟩); (case aB => exact bel_); (case aF => exact fun _ _ => trivial); (case aO => (with_reducible repeat (first | apply Kd.S_alloc | apply Kd.S_drewN | apply Kd.S_drew)); exact Kd.S_mono HO_4.out (fun k_ hk => ⟨trivial, Nat.not_le.2 hk.2⟩)); (case aS => exact (below_size bel_)); (case aL => have := LMc13.out; omega); intro v436 w19 ho hb hg hat; rw [← Ny435.out] at ho; have n_ := an2_ (hb) (ho); clear HB HO_4 HO431 HO434; obtain ⟨HB, HO437⟩ := n_; clear ho hb hg hat))
       go_roundg k1
       case measure => have := HK1.out; omega
       case rel => exact ⟨(t426), (y435), sv_, H', ⟨by have := HK1.out; omega⟩, ⟨kdS_ HO437.out⟩, ⟨bel_⟩⟩
      ·have c11b0 := decide_eq_false c11; have c11b1 : decide (x4_1.length < 30) = false := decide_eq_false (by omega)
       clear c11; have H' := ak_ H; clear H; go_wp2_with (first | ((with_reducible refine gate_callee (f := 43) rfl ?_); refine gl_ (some 21) Tryz.func43 #[.string x0_1, .string (⟨#[123]⟩ : ByteArray)] ?_; (with_reducible refine (strings_Cut.calls x0_1 (⟨#[123]⟩ : ByteArray) t422 t423 true _ A6.out ?hT_).mono ?_); (case hT_ => exact utf8_keep_ hT_ bel_); rintro e w' ⟨rfl, ⟨nd, rfl⟩⟩; refine ⟨_, rfl, ?_⟩) | ((with_reducible refine gate_callee (f := 43) rfl ?_); refine gl_ (some 30) Tryz.func43 #[.string t423, .string (⟨#[125]⟩ : ByteArray)] ?_; (with_reducible refine (strings_Cut.calls t423 (⟨#[125]⟩ : ByteArray) t425 t426 t427 _ A8.out ?hT_).mono ?_); (case hT_ => exact utf8_keep_ hT_ bel_); rintro e w' ⟨rfl, ⟨nd, rfl⟩⟩; refine ⟨_, rfl, ?_⟩) | ((with_reducible refine gate_callee (f := 44) rfl ?_); refine gl_ (some 36) Tryz.func44 #[.string t422] ?_; (with_reducible refine (impl_readSelectors.calls k1 t422 t428 true _ A9.out ?hT_).mono ?_); (case hT_ => exact utf8_keep_ hT_ bel_); rintro e w20 ⟨v430, rfl, ho0, hb⟩; refine ⟨_, rfl, ?_⟩; obtain ⟨W0_, hBW_, h4_, h6_⟩ := oldnew_ (kdS_ HO_4.out) ho0 hb; have HBW := ak_ hBW_; have n0_ := ak_ h4_; have n1_ := ak_ (Kd.S_lower h6_ (below_size bel_)); have n2_ := ak_ (below_step bel_ hb); clear HO_4; clear HB; have HO_4 := n0_; have HO431 := n1_; have HB := n2_; clear n0_ n1_ n2_; clear h4_ h6_ hBW_; (try clear hb);(try clear hb2);(try clear hk);(try clear hi);(try clear ho0); obtain ⟨Ao21, co21, eo21⟩ := Kd.S_slice HO_4.out; subst eo21))
       go_roundg k1
       case measure => have := HK1.out; omega
       case rel => exact ⟨(t426), (x4_1), sv_, H', ⟨by have := HK1.out; omega⟩, ⟨by (with_reducible repeat (first | apply Kd.S_alloc | apply Kd.S_drewN | apply Kd.S_drew)); exact Kd.S_mono HO_4.out (fun _ _ => trivial)⟩, ⟨bel_⟩⟩
     ·have H' := ak_ H; clear H; go_wp2_with (first | ((with_reducible refine gate_callee (f := 43) rfl ?_); refine gl_ (some 21) Tryz.func43 #[.string x0_1, .string (⟨#[123]⟩ : ByteArray)] ?_; (with_reducible refine (strings_Cut.calls x0_1 (⟨#[123]⟩ : ByteArray) t422 t423 true _ A6.out ?hT_).mono ?_); (case hT_ => exact utf8_keep_ hT_ bel_); rintro e w' ⟨rfl, ⟨nd, rfl⟩⟩; refine ⟨_, rfl, ?_⟩) | ((with_reducible refine gate_callee (f := 43) rfl ?_); refine gl_ (some 30) Tryz.func43 #[.string t423, .string (⟨#[125]⟩ : ByteArray)] ?_; (with_reducible refine (strings_Cut.calls t423 (⟨#[125]⟩ : ByteArray) t425 t426 t427 _ A8.out ?hT_).mono ?_); (case hT_ => exact utf8_keep_ hT_ bel_); rintro e w' ⟨rfl, ⟨nd, rfl⟩⟩; refine ⟨_, rfl, ?_⟩) | ((with_reducible refine gate_callee (f := 44) rfl ?_); refine gl_ (some 36) Tryz.func44 #[.string t422] ?_; (with_reducible refine (impl_readSelectors.calls k1 t422 t428 false _ A9.out ?hT_).mono ?_); (case hT_ => exact utf8_keep_ hT_ bel_); rintro e w22 ⟨v430, rfl, ho0, hb⟩; refine ⟨_, rfl, ?_⟩; obtain ⟨W0_, hBW_, h4_, h6_⟩ := oldnew_ (kdS_ HO_4.out) ho0 hb; have HBW := ak_ hBW_; have n0_ := ak_ h4_; have n1_ := ak_ (Kd.S_lower h6_ (below_size bel_)); have n2_ := ak_ (below_step bel_ hb); clear HO_4; clear HB; have HO_4 := n0_; have HO431 := n1_; have HB := n2_; clear n0_ n1_ n2_; clear h4_ h6_ hBW_; (try clear hb);(try clear hb2);(try clear hk);(try clear hi);(try clear ho0)))
      go_roundg k1
      case measure => have := HK1.out; omega
      case rel => exact ⟨(t426), (x4_1), sv_, H', ⟨by have := HK1.out; omega⟩, ⟨by (with_reducible repeat (first | apply Kd.S_alloc | apply Kd.S_drewN | apply Kd.S_drew)); exact Kd.S_mono HO_4.out (fun _ _ => trivial)⟩, ⟨bel_⟩⟩
    ·simp only [Option.some.injEq, Prod.mk.injEq] at H
     obtain ⟨rfl, rfl⟩ := H; go_wp2_with (first | ((with_reducible refine gate_callee (f := 43) rfl ?_); refine gl_ (some 21) Tryz.func43 #[.string x0_1, .string (⟨#[123]⟩ : ByteArray)] ?_; (with_reducible refine (strings_Cut.calls x0_1 (⟨#[123]⟩ : ByteArray) t422 t423 false _ A6.out ?hT_).mono ?_); (case hT_ => first | exact hT_ | exact utf8_keep_ hT_ bel_ | exact utf8_drawn_ hT_ (by repeat (first | exact Drawn0.refl _ | apply Drawn0.step)) | exact utf8_keep_ hT_ (by repeat (first | exact Below.refl _ _ | apply below_alloc | apply pw_below_drewN | apply below_drew1))); rintro e w' ⟨rfl, ⟨nd, rfl⟩⟩; refine ⟨_, rfl, ?_⟩))
     go_ret2
     exact ⟨_, er_, by (with_reducible repeat (first | apply Kd.S_alloc | apply Kd.S_drewN | apply Kd.S_drew)); exact Kd.S_mono HO_4.out (fun _ _ => trivial), bel_⟩

/-! ### impl_SheetIn: function 7 -/
theorem reads_shift_ {α : Type} {R R' : α × Nat → List Value → Prop} {size n m : Nat} {w : World} {A : Option Addr} {ys : List α} (h : ReadsRow R size w A n ys.zipIdx) (hR : ∀ p i c, R (p, i) c → R' (p, m + i) c) : ReadsRow R' size w A n (ys.zipIdx m) := by
 refine ⟨by have := h.1; simpa using this, h.2.1, fun hn => ?_⟩
 obtain ⟨ad, e, hc⟩ := h.2.2 hn; refine ⟨ad, e, fun j p hj => ?_⟩
 rw [List.getElem?_zipIdx] at hj; obtain ⟨x, hx, rfl⟩ := Option.map_eq_some_iff.1 hj; obtain ⟨c, hs, hr, hcell⟩ := hc j (x, j) (by rw [List.getElem?_zipIdx, hx]; simp)
 exact ⟨c, hs, hR _ _ _ hr, hcell⟩
section
variable {P : Program} {ops : Array Oper} {rest : List Oper} {o : Oper} {a : Act} {Q : Exit → Act → World → Prop} {α : Type}
/-- append(v, ys...): both rows' elements are told apart; ys' blocks are none of v's. -/
theorem S_append_rows_ (d : Kd α) {w0 W : World} (base : Nat) (hgd : o.guard = none) (s x : Operand) (t e : TypeId) (z : Value) (bytes : Nat)
  (ho : o.op = .call { callee := .builtin .append, args := #[s, x], argTypes := #[t, t] })
  (ht : P.underlying t = some (.slice e)) (hinfo : (P.info? e).map (fun i => (i.zero, i.size, i.bytes)) = some (some z, d.sz, bytes)) (hz : z.cells.size = d.sz) (hs0 : 0 < d.sz) (hb0 : 0 < bytes)
  (v : Value) (xs ys : List α) (A : Option Addr) (m c : Nat) (ok okp : Nat → Prop) (hs : a.eval s = v) (hx : a.eval x = .slice A m c)
  (HO : Kd.S d e W base (fun k => ok k ∧ ¬ okp k) v xs) (HR : Kd.S d e W base okp (.slice A m c) ys) (hokp : ∀ k, okp k → ok k ∧ some k ≠ v.ownBlock) (hfresh : ∀ k, W.heap.size ≤ k → ok k)
  (HB : Below base w0 W) (hbase : base ≤ W.heap.size) (hl : (xs.length + m) * bytes ≤ 140737488355328)
  (h : ∀ v1 w1, Kd.S d e w1 base ok v1 (xs ++ ys) → Below base w0 w1 → W.grownBy w1 v.ownBlock → (v1.ownBlock = v.ownBlock ∨ ∃ b, v1.ownBlock = some b ∧ W.heap.size ≤ b) → wpList P ops Q rest (a.put o.dst v1) w1) :
  wpList P ops Q (o :: rest) a W := by
 obtain ⟨f1, h1⟩ := HO; obtain ⟨f2, h2⟩ := HR; obtain ⟨A', c', e', hl', hr'⟩ := OwnRow.reads h2.2; injection e' with eA eN eC
 subst eA; subst eC; rw [List.length_zipIdx] at eN hl' hr'
 subst eN; let f : Nat → Nat := fun k => open Classical in if okp k then xs.length + f2 k else f1 k
 have g1 : Kd.R (Kd.tag f d) e W base (fun k => ok k ∧ ¬ okp k) v xs.zipIdx := Kd.R_tag h1 (fun k hk _ => if_neg hk.2)
 have g2 : ReadsRow ((Kd.tag f d).M W base okp) d.sz W A ys.length (ys.zipIdx xs.length) := reads_shift_ hr' (fun p i c hp => by
  refine d.M_mono (fun k hk => ⟨hk.1.1, ?_⟩) hp
  have e1 : f k = xs.length + f2 k := if_pos hk.1.1
  rw [e1, hk.2])
 refine Kd.R_append_rows (Kd.tag f d) (Rr := (Kd.tag f d).M W base okp) base hgd s x t e z bytes ho ht hinfo hz hs0 hb0 v xs.zipIdx (ys.zipIdx xs.length) A ys.length c ok okp hs hx (Kd.R_mono g1 (fun _ hk => hk.1)) g2 (fun _ _ hp => hp) hokp hfresh HB hbase (by rw [List.length_zipIdx]; exact hl) ?_
 intro v1 w1 hr; have e9 : xs.zipIdx ++ ys.zipIdx xs.length = (xs ++ ys).zipIdx := by rw [List.zipIdx_append]; simp
 rw [e9] at hr; exact h v1 w1 ⟨f, hr⟩
end
/-- what is elder and what was made since, the elder world's size told. -/
theorem oldnewN_ {α β : Type} {d : Kd α} {d' : Kd β} {e e' base : Nat} {ok ok' : Nat → Prop} {W w1 : World} {u v : Value} {xs : List α} {ys : List β} (h4 : Kd.S d e W base ok u xs) (ho : Kd.S d' e' w1 W.heap.size ok' v ys) (hb : Below W.heap.size W w1) :
  ∃ W0 : World, W0.heap.size = W.heap.size ∧ Kd.S d e w1 base (fun k => ok k ∧ k < W0.heap.size) u xs ∧ Kd.S d' e' w1 W.heap.size (fun k => W0.heap.size ≤ k) v ys :=
 ⟨W, rfl, Kd.S_old h4 hb, Kd.S_mono (Kd.S_bound ho) (fun _ hk => hk.2.1)⟩
def impl_SheetIn.l0 : Nat → List (S40) → List (S50) → List (S40) → Int → Int → Option ((List (S50)))
 | 0, _, _, _, _, _ => none
 | k + 1, x0, x3, x14, x15, x16 => if x16 < x15 then (if 0 ≤ x16 then (if x16 < (x14.length : Int) then (if ((rd_T40 x14 x16).f0).toList = ([115, 116, 121, 108, 101] : List UInt8) then ((impl_TextUnder.f k x0 x16).bind fun bt413 => ((impl_ReadSheet.f k bt413.1).bind fun bt415 => (if x3.length + bt415.1.length < 2932031007402 then (impl_SheetIn.l0 k x0 (x3 ++ bt415.1) x14 x15 (wrap64 (x16 + 1))) else (none)))) else (impl_SheetIn.l0 k x0 x3 x14 x15 (wrap64 (x16 + 1)))) else (none)) else (none)) else (if 0 ≤ (mn (x3.length : Int) 30) then (if (mn (x3.length : Int) 30) ≤ (x3.length : Int) then (some (x3.take ((mn (x3.length : Int) 30) : Int).toNat)) else (none)) else (none))
def impl_SheetIn.f (k : Nat) (l0 : List (S40)) : Option ((List (S50))) := (impl_GoodNodes.f k l0).bind fun t404 => (if t404 = true then (impl_SheetIn.l0 k l0 (([] : List (S50))) l0 (l0.length : Int) 0) else (some ([] : List (S50))))
theorem impl_SheetIn.calls (k : Nat) (A0 : Option Addr) (c0 : Nat) (l0 : List (S40)) (r : List (S50)) (w : World) (hr0 : Kd.C k40 w A0 l0.length l0) (hc0 : l0.length ≤ c0) (h : impl_SheetIn.f k l0 = some r) (hT_ : U8Tabs_ w) :
  Calls Tryz.prog 7 #[.slice A0 l0.length c0] w fun e w' => ∃ v0_ : Value, e = .returned (v0_) ∧ Kd.S kRule_ 50 w' w.heap.size (fun k_ => (w.heap.size ≤ k_)) v0_ r ∧ Below w.heap.size w w' := by
 have hu40 := Tryz.underlying40; have HR0 := ak_ hr0; have HC0 := ak_ hc0; clear hr0 hc0; have HB := ak_ (Below.refl w.heap.size w); have H := h; unfold impl_SheetIn.f at H
 clear h; replace H := bnd_ H; obtain ⟨t404, A2, H⟩ := H; replace H := itb_ H; rcases H with ⟨rfl, H⟩ | ⟨rfl, H⟩
 ·obtain ⟨y405, hy405⟩ : ∃ y_ : List (S50), y_ = (([] : List (S50))) := ⟨_, rfl⟩
  replace H : (impl_SheetIn.l0 k l0 y405 l0 (l0.length : Int) 0) = some r := by first | (rw [hy405]; with_reducible exact H) | (have H2_ := (Option.bind_some _ _).symm.trans H; rw [hy405]; with_reducible exact H2_) | (have H2_ := (Option.bind_some _ _).symm.trans H; with_reducible exact H2_) | with_reducible exact H | (rw [hy405]; exact H) | exact H
  have Ny405 := ak_ hy405; clear hy405; have H' := ak_ H; clear H; go_enter Tryz.func7, Tryz.ntmps7
  go_wp2_with (first | ((with_reducible refine gate_callee (f := 17) rfl ?_); refine gl_ (some 11) Tryz.func17 #[.slice A0 l0.length c0] ?_; (with_reducible refine (impl_GoodNodes.calls k _ _ l0 true _ ?side1 ?side2 A2.out ?hT_).mono ?_); (case hT_ => exact utf8_keep_ hT_ bel_); (case side1 => exact cs_ HR0.out); (case side2 => exact HC0.out); rintro e w4 ⟨rfl, hb⟩; refine ⟨_, rfl, ?_⟩; replace HB := ak_ (below_step bel_ hb); (try clear hb);(try clear hb2);(try clear hk);(try clear hi)) | ((with_reducible refine gate_dst (N := 13) rfl ?_); refine Kd.S_lit kRule_ _ 50 ?hg (N := 13) ?hd (xs := ([] : List (S50))) (inner := []) (ok := (fun k_ => (w.heap.size ≤ k_))) (okp := (fun k_ => (w.heap.size ≤ k_))) ?hr ?hp (fun _ hk => hk) ((show ∀ k_, w4.heap.size ≤ k_ → (fun k_ => (w.heap.size ≤ k_)) k_ from fun k_ hk => (Nat.le_trans (below_size bel_) hk)) _ (Nat.le_refl _)) (Below.refl _ _) (Nat.le_refl _) (by simp) ?_; (case hd => rfl); (case hg => rfl); (case hr => first | (go_simp; done) | (go_simp; rfl)); (case hp => exact (Reps.none _ _)); intro v406 w5 ho6 hb hg_ hnew_; clear hg_ hnew_; (first | rw [← Ny405.out] at ho6 | (simp only [Int.reduceToNat] at ho6; rw [← Ny405.out] at ho6)); have n_ := an2_ (Kd.S_lower ho6 (below_size bel_)) (below_step bel_ hb); clear HB; obtain ⟨HO407, HB⟩ := n_; clear hb ho6))
  go_loopg [3, 16] k (fun kq v3 v16 w' => ∃ (x3_1 : List (S50)) (x16_1 : Int), v16 = .int .i64 x16_1 ∧ Aside0 (impl_SheetIn.l0 kq l0 x3_1 l0 (l0.length : Int) x16_1 = some r) ∧ Aside0 (kq ≤ k) ∧ Aside0 (Kd.S kRule_ 50 w' w.heap.size (fun k_ => (w.heap.size ≤ k_)) v3 x3_1) ∧ Aside0 (Below w.heap.size w w'))
  case atStart => exact ⟨(y405), (0), sv_, H', ⟨Nat.le_refl _⟩, ⟨kdS_ HO407.out⟩, ⟨bel_⟩⟩
  case round =>
   clear H'; obtain ⟨x3_1, x16_1, rfl, HA, HK1, HO_3, HB⟩ := hrel; cases gk with
   | zero => exact absurd HA.out (by simp [impl_SheetIn.l0])
   | succ k1 =>
    have H := HA.out; clear HA; simp only [impl_SheetIn.l0] at H
    replace H := ied_ H; rcases H with ⟨c7b0, H⟩ | ⟨c7b0, H⟩
    ·replace H := itd_ H; obtain ⟨c8b0, H⟩ := H; replace H := itd_ H; obtain ⟨c9b0, H⟩ := H; replace H := ite_ H; rcases H with ⟨c10, H⟩ | ⟨c10, H⟩
     ·have c10b0 := beq_iff_eq.mpr c10; have c10b1 := bne_eq_false_iff_eq.mpr c10; clear c10; replace H := bnd_ H; obtain ⟨⟨t413, t414⟩, A11, H⟩ := H; (try dsimp only at H); replace H := bnd_ H; obtain ⟨⟨t415, t416⟩, A12, H⟩ := H; (try dsimp only at H); replace H := itn_ H; obtain ⟨c13, H⟩ := H; have LMc13 := ak_ c13; clear c13; obtain ⟨y419, hy419⟩ : ∃ y_ : List (S50), y_ = (x3_1 ++ t415) := ⟨_, rfl⟩
      replace H : (impl_SheetIn.l0 k1 l0 y419 l0 (l0.length : Int) (wrap64 (x16_1 + 1))) = some r := by first | (rw [hy419]; with_reducible exact H) | (have H2_ := (Option.bind_some _ _).symm.trans H; rw [hy419]; with_reducible exact H2_) | (have H2_ := (Option.bind_some _ _).symm.trans H; with_reducible exact H2_) | with_reducible exact H | (rw [hy419]; exact H) | exact H
      have Ny419 := ak_ hy419; clear hy419; have H' := ak_ H; clear H; have p411 : (0 ≤ (x16_1 : Int)) = True := odt_
      have q411 : (x16_1 < (l0.length : Int)) = True := odt_
      obtain ⟨ad411, A411_2, c411_2, e411, hx411_0, hx411_1, hx411_2, hx411_3, hl411_2, hi411_2⟩ := at_T40 HR0.out x16_1 oda_ oda_; cases e411; replace hx411_0 := pb_ HB hx411_0; replace hx411_1 := pb_ HB hx411_1; replace hx411_2 := pb_ HB hx411_2; replace hx411_3 := pb_ HB hx411_3; have HR411_2 := ak_ hi411_2; have HC411_2 := ak_ hl411_2; clear hi411_2 hl411_2; go_wp2_with (first | ((with_reducible refine gate_dst (N := 5) rfl ?_); refine bx_ (N := 5) (cs := #[.string (⟨#[]⟩ : ByteArray), .int .i64 0, .slice none 0 0, .string (⟨#[]⟩ : ByteArray)]) (t := 40) ?_; intro gb412 hg w14 hbox hb; have n_ := an5_ (Kd.S_below (Kd.S_elderB (kdS_ HO_3.out) gb412 (Nat.le_of_eq hg.symm)) hb) (below_step bel_ hb) (hbox) (gsl_ hg HB.out) (gsl_ hg HB.out); clear HO_3 HB; obtain ⟨HO_3, HB, BK412, GW412, GE412⟩ := n_; clear hb hbox hg; obtain ⟨z15_0, z15_1, z15_2, z15_3, y15_0, y15_1, y15_2, y15_3⟩ := bcz4 BK412.out) | ((with_reducible refine gate_callee (f := 18) rfl ?_); refine gl_ (some 27) Tryz.func18 #[.slice (some ad411) l0.length c0, .int .i64 x16_1] ?_; (with_reducible refine (impl_TextUnder.calls k1 _ _ l0 x16_1 t413 t414 _ ?side1 ?side2 A11.out ?hT_).mono ?_); (case hT_ => exact utf8_keep_ hT_ bes_); (case side1 => exact Kd.C_below HR0.out bes_); (case side2 => exact HC0.out); rintro e w16 ⟨rfl, hb⟩; refine ⟨_, rfl, ?_⟩; have n_ := an3_ (Kd.S_below (by (with_reducible repeat (first | apply Kd.S_alloc | apply Kd.S_drewN | apply Kd.S_drew)); exact (Kd.S_mono (Kd.S_far (Kd.S_far (Kd.S_far (Kd.S_far (Kd.S_mono HO_3.out (fun k_ hk => (⟨hk, hk.2⟩ : _ ∧ k_ ≠ gb412))) (fun _ hk => hk.2) _) (fun _ hk => hk.2) _) (fun _ hk => hk.2) _) (fun _ hk => hk.2) _) (fun _ h_ => h_.1))) hb) (blk_below (g := gb412) (o := .cells #[.string ((rd_T40 l0 x16_1).f0), .int .i64 ((rd_T40 l0 x16_1).f1), .slice A411_2 ((rd_T40 l0 x16_1).f2).length c411_2, .string ((rd_T40 l0 x16_1).f3)] 40 (0, 0)) (bp_ BK412.out) hb) (below_step bes_ hb); clear HO_3 BK412 HB; obtain ⟨HO_3, BK412, HB⟩ := n_; (try clear hb);(try clear hb2);(try clear hk);(try clear hi)) | ((with_reducible refine gate_callee (f := 19) rfl ?_); refine gl_ (some 32) Tryz.func19 #[.string t413] ?_; (with_reducible refine (impl_ReadSheet.calls k1 t413 t415 t416 _ A12.out ?hT_).mono ?_); (case hT_ => exact utf8_keep_ hT_ bes_); rintro e w17 ⟨v417, rfl, ho0, hb⟩; refine ⟨_, rfl, ?_⟩; obtain ⟨W0_, hW_, h4_, h6_⟩ := oldnewN_ (kdS_ HO_3.out) ho0 hb; have hgb_ := ak_ (show gb412 < W0_.heap.size by rw [hW_]; exact blk_lt (g := gb412) (o := .cells #[.string ((rd_T40 l0 x16_1).f0), .int .i64 ((rd_T40 l0 x16_1).f1), .slice A411_2 ((rd_T40 l0 x16_1).f2).length c411_2, .string ((rd_T40 l0 x16_1).f3)] 40 (0, 0)) (bk_ BK412.out)); have hle_ := ak_ (show w.heap.size ≤ W0_.heap.size by rw [hW_]; exact below_size bes_); have n0_ := ak_ h4_; have n1_ := ak_ (Kd.S_lower h6_ (below_size bes_)); have n2_ := ak_ (blk_below (g := gb412) (o := .cells #[.string ((rd_T40 l0 x16_1).f0), .int .i64 ((rd_T40 l0 x16_1).f1), .slice A411_2 ((rd_T40 l0 x16_1).f2).length c411_2, .string ((rd_T40 l0 x16_1).f3)] 40 (0, 0)) (bk_ BK412.out) hb); have n3_ := ak_ (below_step bes_ hb); clear HO_3; clear BK412; clear HB; have HO_3 := n0_; have HO418 := n1_; have BK412 := n2_; have HB := n3_; clear n0_ n1_ n2_ n3_; clear hW_ h4_ h6_; (try clear hb);(try clear hb2);(try clear hk);(try clear hi);(try clear ho0); obtain ⟨Ao19, co19, eo19⟩ := Kd.S_slice HO418.out; subst eo19) | ((with_reducible refine gate_builtin (b := .append) (xs := #[.tmp 35, .tmp 36]) rfl ?_); at_builtin; refine S_append_rows_ kRule_ (w0 := w) w.heap.size rfl (.tmp 35) (.tmp 36) 24 50 (.agg #[(.slice none 0 0), (.slice none 0 0)]) 48 rfl Tryz.underlying24 info50 rfl (by decide) (by omega) u3 x3_1 t415 _ _ _ (fun k_ => (w.heap.size ≤ k_) ∧ k_ ≠ gb412) (fun k_ => W0_.heap.size ≤ k_) rfl rfl ?aO ?aR ?aK ?aF ?aB ?aS ?aL ?_; (case aR => exact (kdS_ HO418.out)); (case aK => exact fun k_ hk => ⟨⟨Nat.le_trans hle_.out hk, fun e_ => Nat.lt_irrefl _ (Nat.lt_of_lt_of_le hgb_.out (by rw [← e_]; exact hk))⟩, fun he_ => Nat.lt_irrefl _ (Nat.lt_of_lt_of_le ((Kd.S_R HO_3.out).1 k_ he_.symm).2 hk)⟩); (case aB => exact bes_); (case aF => exact (fun k_ hk => ⟨(Nat.le_trans (below_size bes_) hk), Kd.freshB (g := gb412) (o := .cells #[.string ((rd_T40 l0 x16_1).f0), .int .i64 ((rd_T40 l0 x16_1).f1), .slice A411_2 ((rd_T40 l0 x16_1).f2).length c411_2, .string ((rd_T40 l0 x16_1).f3)] 40 (0, 0)) (bk_ BK412.out) k_ hk⟩)); (case aO => (with_reducible repeat (first | apply Kd.S_alloc | apply Kd.S_drewN | apply Kd.S_drew)); exact Kd.S_mono HO_3.out (fun k_ hk => ⟨⟨hk.1.1, hk.1.2⟩, Nat.not_le.2 hk.2⟩)); (case aS => exact (below_size bes_)); (case aL => have := LMc13.out; omega); intro v420 w18 ho hb hg hat; rw [← Ny419.out] at ho; have n0_ := ak_ (blk_grown (g := gb412) (o := .cells #[.string ((rd_T40 l0 x16_1).f0), .int .i64 ((rd_T40 l0 x16_1).f1), .slice A411_2 ((rd_T40 l0 x16_1).f2).length c411_2, .string ((rd_T40 l0 x16_1).f3)] 40 (0, 0)) (bk_ BK412.out) hg (Kd.S_ne HO_3.out BK412.out (by decide))); have n2_ := ak_ (hb); have n3_ := ak_ (ho); clear BK412; clear HO418; clear HB; clear HO_3; have BK412 := n0_; have HB := n2_; have HO421 := n3_; clear n0_ n2_ n3_; clear ho hb hg hat))
      go_roundg k1
      case measure => have := HK1.out; omega
      case rel => exact ⟨(y419), (wrap64 (x16_1 + 1)), sv_, H', ⟨by have := HK1.out; omega⟩, ⟨by (with_reducible repeat (first | apply Kd.S_alloc | apply Kd.S_drewN | apply Kd.S_drew)); exact Kd.S_mono HO421.out (fun _ hk => hk.1)⟩, ⟨bes_⟩⟩
     ·have c10b0 := beq_eq_false_iff_ne.mpr c10; have c10b1 := bne_iff_ne.mpr c10; have H' := ak_ H; clear H; have p411 : (0 ≤ (x16_1 : Int)) = True := odt_
      have q411 : (x16_1 < (l0.length : Int)) = True := odt_
      obtain ⟨ad411, A411_2, c411_2, e411, hx411_0, hx411_1, hx411_2, hx411_3, hl411_2, hi411_2⟩ := at_T40 HR0.out x16_1 oda_ oda_; cases e411; replace hx411_0 := pb_ HB hx411_0; replace hx411_1 := pb_ HB hx411_1; replace hx411_2 := pb_ HB hx411_2; replace hx411_3 := pb_ HB hx411_3; have HR411_2 := ak_ hi411_2; have HC411_2 := ak_ hl411_2; clear hi411_2 hl411_2; go_wp2_with (first | ((with_reducible refine gate_dst (N := 5) rfl ?_); refine bx_ (N := 5) (cs := #[.string (⟨#[]⟩ : ByteArray), .int .i64 0, .slice none 0 0, .string (⟨#[]⟩ : ByteArray)]) (t := 40) ?_; intro gb412 hg w20 hbox hb; have n_ := an5_ (Kd.S_below (Kd.S_elderB (kdS_ HO_3.out) gb412 (Nat.le_of_eq hg.symm)) hb) (below_step bel_ hb) (hbox) (gsl_ hg HB.out) (gsl_ hg HB.out); clear HO_3 HB; obtain ⟨HO_3, HB, BK412, GW412, GE412⟩ := n_; clear hb hbox hg; obtain ⟨z21_0, z21_1, z21_2, z21_3, y21_0, y21_1, y21_2, y21_3⟩ := bcz4 BK412.out))
      go_roundg k1
      case measure => have := HK1.out; omega
      case rel => exact ⟨(x3_1), (wrap64 (x16_1 + 1)), sv_, H', ⟨by have := HK1.out; omega⟩, ⟨by (with_reducible repeat (first | apply Kd.S_alloc | apply Kd.S_drewN | apply Kd.S_drew)); exact Kd.S_mono (Kd.S_far (Kd.S_far (Kd.S_far (Kd.S_far (Kd.S_mono HO_3.out (fun k_ hk => (⟨hk, hk.2⟩ : _ ∧ k_ ≠ gb412))) (fun _ hk => hk.2) _) (fun _ hk => hk.2) _) (fun _ hk => hk.2) _) (fun _ hk => hk.2) _) (fun _ hk => hk.1.1)⟩, ⟨bes_⟩⟩
    ·obtain ⟨ji22, hji22⟩ : ∃ j_ : Int, (mn (x3_1.length : Int) 30) = j_ := ⟨_, rfl⟩
     replace H : (if 0 ≤ (ji22) then (if (ji22) ≤ (x3_1.length : Int) then (some (x3_1.take ((ji22) : Int).toNat)) else (none)) else (none)) = some r := by first | (rw [hji22] at H; exact H) | (simp only [hji22] at H ⊢; exact H)
     have hji22_ : (if 30 < (x3_1.length : Int) then 30 else (x3_1.length : Int)) = ji22 := hji22
     replace H := itn_ H; obtain ⟨c23, H⟩ := H; have c23b0 := eq_true c23; have c23b1 := decide_eq_true c23; clear c23; replace H := itn_ H; obtain ⟨c24, H⟩ := H; have c24b0 := eq_true c24; have c24b1 := decide_eq_true c24; clear c24; obtain ⟨y408, hy408⟩ : ∃ y_ : List (S50), y_ = (x3_1.take ((ji22) : Int).toNat) := ⟨_, rfl⟩
     replace H : (some y408) = some r := by first | (rw [hy408]; with_reducible exact H) | (have H2_ := (Option.bind_some _ _).symm.trans H; rw [hy408]; with_reducible exact H2_) | (have H2_ := (Option.bind_some _ _).symm.trans H; with_reducible exact H2_) | with_reducible exact H | (rw [hy408]; exact H) | exact H
     have Ny408 := ak_ hy408; clear hy408; obtain rfl := Option.some.inj H
     obtain ⟨Ao25, co25, eo25⟩ := Kd.S_slice HO_3.out; subst eo25; have q26 : ((ji22) : Int) ≤ ((x3_1.length : Int) : Int) := oda_
     obtain ⟨i026, hi026, _, hsz26, _⟩ := info_parts info50; have hcut26 := cut_to (P := Tryz.prog) 24 50 .i64 Tryz.underlying24 hi026 Ao25 x3_1.length co25 (ji22) (oda_) q26 (Kd.S_reads' HO_3.out).2.1; have hr26 := Kd.S_take (m := ((ji22) : Int).toNat) HO_3.out (by omega); have hy26 : y408.length = ((ji22) : Int).toNat := (by rw [Ny408.out, List.length_take]; omega)
     rw [← Ny408.out] at hr26; rw [← hy26] at hr26 hcut26
     clear hy26 hi026 hsz26 HO_3; have HO410 := ak_ hr26; clear hr26; replace q26 := eq_true q26; go_wp2; go_ret
     exact ⟨_, by first | rfl | (simp [errW_none, errW_some] <;> rfl) | (simp only [← hji22]; first | rfl | (simp [errW_none, errW_some] <;> rfl)) | (simp [*, errW_none, errW_some] <;> rfl), kdS_ HO410.out, bel_⟩
 ·obtain rfl := Option.some.inj H
  go_enter Tryz.func7, Tryz.ntmps7
  go_wp2_with (first | ((with_reducible refine gate_callee (f := 17) rfl ?_); refine gl_ (some 11) Tryz.func17 #[.slice A0 l0.length c0] ?_; (with_reducible refine (impl_GoodNodes.calls k _ _ l0 false _ ?side1 ?side2 A2.out ?hT_).mono ?_); (case hT_ => exact utf8_keep_ hT_ bel_); (case side1 => exact cs_ HR0.out); (case side2 => exact HC0.out); rintro e w27 ⟨rfl, hb⟩; refine ⟨_, rfl, ?_⟩; replace HB := ak_ (below_step bel_ hb); (try clear hb);(try clear hb2);(try clear hk);(try clear hi)))
  go_ret
  exact ⟨_, er_, by first | exact Kd.R_nil _ _ _ _ _ | exact Kd.S_nil _ _ _ _ _ | exact Kd.V_nil _ _ _ _ _ | exact Kd.Q_nil _ _ _ _ _ | exact Kd.S_nil _ _ _ _ _, bel_⟩

/-! ### laws_eqStringS: function 108 -/
def laws_eqStringS.l0 : Nat → List ByteArray → List ByteArray → Int → Option (Bool)
 | 0, _, _, _ => none
 | k + 1, x0, x1, x5 => if x5 < (x0.length : Int) then (if 0 ≤ x5 then (if x5 < (x1.length : Int) then (if (rdOf ByteArray.empty x0 x5).toList = (rdOf ByteArray.empty x1 x5).toList then (laws_eqStringS.l0 k x0 x1 (wrap64 (x5 + 1))) else (some false)) else (none)) else (none)) else (some true)
def laws_eqStringS.f (k : Nat) (l0 : List ByteArray) (l1 : List ByteArray) : Option (Bool) := if (l0.length : Int) = (l1.length : Int) then (laws_eqStringS.l0 k l0 l1 0) else (some false)
theorem laws_eqStringS.calls (k : Nat) (A0 : Option Addr) (c0 : Nat) (l0 : List ByteArray) (A1 : Option Addr) (c1 : Nat) (l1 : List ByteArray) (r : Bool) (w : World) (hr0 : Kd.C Kd.string w A0 l0.length l0) (hc0 : l0.length ≤ c0) (hr1 : Kd.C Kd.string w A1 l1.length l1) (hc1 : l1.length ≤ c1) (h : laws_eqStringS.f k l0 l1 = some r) :
  Calls Tryz.prog 108 #[.slice A0 l0.length c0, .slice A1 l1.length c1] w fun e w' => e = .returned (.bool r) ∧ Drawn0 w w' := by
 have HR0 := ak_ hr0; have HC0 := ak_ hc0; clear hr0 hc0; have HR1 := ak_ hr1; have HC1 := ak_ hc1; clear hr1 hc1; have H := h; unfold laws_eqStringS.f at H
 clear h; replace H := ite_ H; rcases H with ⟨c3, H⟩ | ⟨c3, H⟩
 ·have c3b0 := beq_iff_eq.mpr c3; have c3b1 := bne_eq_false_iff_eq.mpr c3; have c3b2 : (l0.length == l1.length) = true := by first | simpa using c3 | (simp at c3 ⊢; omega)
  clear c3; have H' := ak_ H; clear H; go_enter Tryz.func108, Tryz.ntmps108
  go_wp2; repeat (go_quiet (fail); try go_wp2)
  go_loopg [5] k (fun kq v5 w' => ∃ (x5_1 : Int), v5 = .int .i64 x5_1 ∧ Aside0 (laws_eqStringS.l0 kq l0 l1 x5_1 = some r) ∧ Aside0 (kq ≤ k) ∧ Drawn0 w w')
  case atStart => exact ⟨(0), sv_, H', ⟨Nat.le_refl _⟩, by repeat (first | exact Drawn0.refl _ | apply Drawn0.step)⟩
  case round =>
   clear H'; (try clear c1);(try clear c3b0);(try clear c3b1);(try clear c3b2)
   obtain ⟨x5_1, rfl, HA, HK1, ⟨m1, rfl⟩⟩ := hrel; cases gk with
   | zero => exact absurd HA.out (by simp [laws_eqStringS.l0])
   | succ k1 =>
    have H := HA.out; clear HA; simp only [laws_eqStringS.l0] at H
    replace H := ied_ H; rcases H with ⟨c4b0, H⟩ | ⟨c4b0, H⟩
    ·replace H := itd_ H; obtain ⟨c5b0, H⟩ := H; replace H := itd_ H; obtain ⟨c6b0, H⟩ := H; replace H := ite_ H; rcases H with ⟨c7, H⟩ | ⟨c7, H⟩
     ·have c7b0 := beq_iff_eq.mpr c7; have c7b1 := bne_eq_false_iff_eq.mpr c7; clear c7; have H' := ak_ H; clear H; have p399 : 0 ≤ (x5_1 : Int) := oda_
      have q399 : x5_1 < (l0.length : Int) := oda_
      obtain ⟨ad399, e399, hx399_0⟩ := Kd.at_string HR0.out x5_1 p399 q399; cases e399; replace p399 := eq_true p399; replace q399 := eq_true q399; have p400 : 0 ≤ (x5_1 : Int) := oda_
      have q400 : x5_1 < (l1.length : Int) := oda_
      obtain ⟨ad400, e400, hx400_0⟩ := Kd.at_string HR1.out x5_1 p400 q400; cases e400; replace p400 := eq_true p400; replace q400 := eq_true q400; go_wp2; repeat (go_quiet (fail); try go_wp2)
      go_roundg k1
      case measure => have := HK1.out; omega
      case rel => exact ⟨(wrap64 (x5_1 + 1)), sv_, H', ⟨by have := HK1.out; omega⟩, by repeat (first | exact Drawn0.refl _ | apply Drawn0.step)⟩
     ·have c7b0 := beq_eq_false_iff_ne.mpr c7; have c7b1 := bne_iff_ne.mpr c7; obtain rfl := Option.some.inj H
      have p399 : 0 ≤ (x5_1 : Int) := oda_
      have q399 : x5_1 < (l0.length : Int) := oda_
      obtain ⟨ad399, e399, hx399_0⟩ := Kd.at_string HR0.out x5_1 p399 q399; cases e399; replace p399 := eq_true p399; replace q399 := eq_true q399; have p400 : 0 ≤ (x5_1 : Int) := oda_
      have q400 : x5_1 < (l1.length : Int) := oda_
      obtain ⟨ad400, e400, hx400_0⟩ := Kd.at_string HR1.out x5_1 p400 q400; cases e400; replace p400 := eq_true p400; replace q400 := eq_true q400; go_wp2; repeat (go_quiet (fail); try go_wp2)
      go_ret
      exact dn_
    ·obtain rfl := Option.some.inj H
     go_wp2; repeat (go_quiet (fail); try go_wp2)
     go_ret
     exact dn_
 ·have c3b0 := beq_eq_false_iff_ne.mpr c3; have c3b1 := bne_iff_ne.mpr c3; have c3b2 : (l0.length == l1.length) = false := by first | simpa using c3 | (simp at c3 ⊢; omega)
  obtain rfl := Option.some.inj H
  go_enter Tryz.func108, Tryz.ntmps108
  go_wp2; repeat (go_quiet (fail); try go_wp2)
  go_ret
  exact dn_

/-! ### laws_eqPart: function 88 -/
def laws_eqPart.f (k : Nat) (a0_0 : ByteArray) (a0_1 : ByteArray) (l0_2 : List ByteArray) (a1_0 : ByteArray) (a1_1 : ByteArray) (l1_2 : List ByteArray) : Option (Bool) := if a0_0.toList = a1_0.toList then (if a0_1.toList = a1_1.toList then ((laws_eqStringS.f k l0_2 l1_2).bind fun t403 => (if t403 = true then (some true) else (some false))) else (some false)) else (some false)
theorem laws_eqPart.calls (k : Nat) (a0_0 : ByteArray) (a0_1 : ByteArray) (A0_2 : Option Addr) (c0_2 : Nat) (l0_2 : List ByteArray) (a1_0 : ByteArray) (a1_1 : ByteArray) (A1_2 : Option Addr) (c1_2 : Nat) (l1_2 : List ByteArray) (r : Bool) (w : World) (hr0_2 : Kd.C Kd.string w A0_2 l0_2.length l0_2) (hc0_2 : l0_2.length ≤ c0_2) (hr1_2 : Kd.C Kd.string w A1_2 l1_2.length l1_2) (hc1_2 : l1_2.length ≤ c1_2) (h : laws_eqPart.f k a0_0 a0_1 l0_2 a1_0 a1_1 l1_2 = some r) :
  Calls Tryz.prog 88 #[.agg #[.string a0_0, .string a0_1, .slice A0_2 l0_2.length c0_2], .agg #[.string a1_0, .string a1_1, .slice A1_2 l1_2.length c1_2]] w fun e w' => e = .returned (.bool r) ∧ Below w.heap.size w w' := by
 have hu102 := Tryz.underlying102; have HR0_2 := ak_ hr0_2; have HC0_2 := ak_ hc0_2; clear hr0_2 hc0_2; have HR1_2 := ak_ hr1_2; have HC1_2 := ak_ hc1_2; clear hr1_2 hc1_2; have HB := ak_ (Below.refl w.heap.size w); have H := h; unfold laws_eqPart.f at H
 clear h; replace H := ite_ H; rcases H with ⟨c3, H⟩ | ⟨c3, H⟩
 ·have c3b0 := beq_iff_eq.mpr c3; have c3b1 := bne_eq_false_iff_eq.mpr c3; clear c3; replace H := ite_ H; rcases H with ⟨c4, H⟩ | ⟨c4, H⟩
  ·have c4b0 := beq_iff_eq.mpr c4; have c4b1 := bne_eq_false_iff_eq.mpr c4; clear c4; replace H := bnd_ H; obtain ⟨t403, A5, H⟩ := H; replace H := itb_ H; rcases H with ⟨rfl, H⟩ | ⟨rfl, H⟩
   ·obtain rfl := Option.some.inj H
    go_enter Tryz.func88, Tryz.ntmps88
    go_wp2_with (first | ((with_reducible refine gate_dst (N := 2) rfl ?_); refine bx_ (N := 2) (cs := #[.string a0_0, .string a0_1, .slice A0_2 l0_2.length c0_2]) (t := 102) ?_; intro gb401 hg w7 hbox hb; have n_ := an4_ (below_step bel_ hb) (hbox) (gsl_ hg HB.out) (gsl_ hg HB.out); clear HB; obtain ⟨HB, BK401, GW401, GE401⟩ := n_; clear hb hbox hg) | ((with_reducible refine gate_dst (N := 3) rfl ?_); refine bx_ (N := 3) (cs := #[.string a1_0, .string a1_1, .slice A1_2 l1_2.length c1_2]) (t := 102) ?_; intro gb402 hg w8 hbox hb; have n_ := an7_ (blk_below (g := gb401) (o := .cells #[.string a0_0, .string a0_1, .slice A0_2 l0_2.length c0_2] 102 (0, 0)) (bk_ BK401.out) hb) (below_step bes_ hb) (hbox) (gsl_ hg HB.out) (gsl_ hg HB.out) ((by rw [hg]; exact Nat.ne_of_lt (blk_lt (g := gb401) (o := .cells #[.string a0_0, .string a0_1, .slice A0_2 l0_2.length c0_2] 102 (0, 0)) (bk_ BK401.out)) : gb401 ≠ gb402)) ((by rw [hg]; exact Nat.ne_of_gt (blk_lt (g := gb401) (o := .cells #[.string a0_0, .string a0_1, .slice A0_2 l0_2.length c0_2] 102 (0, 0)) (bk_ BK401.out)) : gb402 ≠ gb401)); clear BK401 HB; obtain ⟨BK401, HB, BK402, GW402, GE402, NB401_402, NB402_401⟩ := n_; clear hb hbox hg; have hnb9 := NB401_402.out; have hnc9 := NB402_401.out; obtain ⟨z10_0, z10_1, z10_2, y10_0, y10_1, y10_2⟩ := bcz3 BK401.out; obtain ⟨z11_0, z11_1, z11_2, y11_0, y11_1, y11_2⟩ := bcz3 BK402.out) | ((with_reducible refine gate_callee (f := 108) rfl ?_); refine gl_ (some 19) Tryz.func108 #[.slice A0_2 l0_2.length c0_2, .slice A1_2 l1_2.length c1_2] ?_; (with_reducible refine (laws_eqStringS.calls k _ _ l0_2 _ _ l1_2 true _ ?side1 ?side2 ?side3 ?side4 A5.out).mono ?_); (case side1 => exact cs_ (Kd.C_below HR0_2.out HB.out)); (case side2 => exact HC0_2.out); (case side3 => exact cs_ (Kd.C_below HR1_2.out HB.out)); (case side4 => exact HC1_2.out); rintro e w' ⟨rfl, ⟨nd, rfl⟩⟩; refine ⟨_, rfl, ?_⟩))
    go_ret
    exact ⟨er_, bes_⟩
   ·obtain rfl := Option.some.inj H
    go_enter Tryz.func88, Tryz.ntmps88
    go_wp2_with (first | ((with_reducible refine gate_dst (N := 2) rfl ?_); refine bx_ (N := 2) (cs := #[.string a0_0, .string a0_1, .slice A0_2 l0_2.length c0_2]) (t := 102) ?_; intro gb401 hg w12 hbox hb; have n_ := an4_ (below_step bel_ hb) (hbox) (gsl_ hg HB.out) (gsl_ hg HB.out); clear HB; obtain ⟨HB, BK401, GW401, GE401⟩ := n_; clear hb hbox hg) | ((with_reducible refine gate_dst (N := 3) rfl ?_); refine bx_ (N := 3) (cs := #[.string a1_0, .string a1_1, .slice A1_2 l1_2.length c1_2]) (t := 102) ?_; intro gb402 hg w13 hbox hb; have n_ := an7_ (blk_below (g := gb401) (o := .cells #[.string a0_0, .string a0_1, .slice A0_2 l0_2.length c0_2] 102 (0, 0)) (bk_ BK401.out) hb) (below_step bes_ hb) (hbox) (gsl_ hg HB.out) (gsl_ hg HB.out) ((by rw [hg]; exact Nat.ne_of_lt (blk_lt (g := gb401) (o := .cells #[.string a0_0, .string a0_1, .slice A0_2 l0_2.length c0_2] 102 (0, 0)) (bk_ BK401.out)) : gb401 ≠ gb402)) ((by rw [hg]; exact Nat.ne_of_gt (blk_lt (g := gb401) (o := .cells #[.string a0_0, .string a0_1, .slice A0_2 l0_2.length c0_2] 102 (0, 0)) (bk_ BK401.out)) : gb402 ≠ gb401)); clear BK401 HB; obtain ⟨BK401, HB, BK402, GW402, GE402, NB401_402, NB402_401⟩ := n_; clear hb hbox hg; have hnb14 := NB401_402.out; have hnc14 := NB402_401.out; obtain ⟨z15_0, z15_1, z15_2, y15_0, y15_1, y15_2⟩ := bcz3 BK401.out; obtain ⟨z16_0, z16_1, z16_2, y16_0, y16_1, y16_2⟩ := bcz3 BK402.out) | ((with_reducible refine gate_callee (f := 108) rfl ?_); refine gl_ (some 19) Tryz.func108 #[.slice A0_2 l0_2.length c0_2, .slice A1_2 l1_2.length c1_2] ?_; (with_reducible refine (laws_eqStringS.calls k _ _ l0_2 _ _ l1_2 false _ ?side1 ?side2 ?side3 ?side4 A5.out).mono ?_); (case side1 => exact cs_ (Kd.C_below HR0_2.out HB.out)); (case side2 => exact HC0_2.out); (case side3 => exact cs_ (Kd.C_below HR1_2.out HB.out)); (case side4 => exact HC1_2.out); rintro e w' ⟨rfl, ⟨nd, rfl⟩⟩; refine ⟨_, rfl, ?_⟩))
    go_ret
    exact ⟨er_, bes_⟩
  ·have c4b0 := beq_eq_false_iff_ne.mpr c4; have c4b1 := bne_iff_ne.mpr c4; obtain rfl := Option.some.inj H
   go_enter Tryz.func88, Tryz.ntmps88
   go_wp2_with (first | ((with_reducible refine gate_dst (N := 2) rfl ?_); refine bx_ (N := 2) (cs := #[.string a0_0, .string a0_1, .slice A0_2 l0_2.length c0_2]) (t := 102) ?_; intro gb401 hg w17 hbox hb; have n_ := an4_ (below_step bel_ hb) (hbox) (gsl_ hg HB.out) (gsl_ hg HB.out); clear HB; obtain ⟨HB, BK401, GW401, GE401⟩ := n_; clear hb hbox hg) | ((with_reducible refine gate_dst (N := 3) rfl ?_); refine bx_ (N := 3) (cs := #[.string a1_0, .string a1_1, .slice A1_2 l1_2.length c1_2]) (t := 102) ?_; intro gb402 hg w18 hbox hb; have n_ := an7_ (blk_below (g := gb401) (o := .cells #[.string a0_0, .string a0_1, .slice A0_2 l0_2.length c0_2] 102 (0, 0)) (bk_ BK401.out) hb) (below_step bes_ hb) (hbox) (gsl_ hg HB.out) (gsl_ hg HB.out) ((by rw [hg]; exact Nat.ne_of_lt (blk_lt (g := gb401) (o := .cells #[.string a0_0, .string a0_1, .slice A0_2 l0_2.length c0_2] 102 (0, 0)) (bk_ BK401.out)) : gb401 ≠ gb402)) ((by rw [hg]; exact Nat.ne_of_gt (blk_lt (g := gb401) (o := .cells #[.string a0_0, .string a0_1, .slice A0_2 l0_2.length c0_2] 102 (0, 0)) (bk_ BK401.out)) : gb402 ≠ gb401)); clear BK401 HB; obtain ⟨BK401, HB, BK402, GW402, GE402, NB401_402, NB402_401⟩ := n_; clear hb hbox hg; have hnb19 := NB401_402.out; have hnc19 := NB402_401.out; obtain ⟨z20_0, z20_1, z20_2, y20_0, y20_1, y20_2⟩ := bcz3 BK401.out; obtain ⟨z21_0, z21_1, z21_2, y21_0, y21_1, y21_2⟩ := bcz3 BK402.out))
   go_ret
   exact ⟨er_, bes_⟩
 ·have c3b0 := beq_eq_false_iff_ne.mpr c3; have c3b1 := bne_iff_ne.mpr c3; obtain rfl := Option.some.inj H
  go_enter Tryz.func88, Tryz.ntmps88
  go_wp2_with (first | ((with_reducible refine gate_dst (N := 2) rfl ?_); refine bx_ (N := 2) (cs := #[.string a0_0, .string a0_1, .slice A0_2 l0_2.length c0_2]) (t := 102) ?_; intro gb401 hg w22 hbox hb; have n_ := an4_ (below_step bel_ hb) (hbox) (gsl_ hg HB.out) (gsl_ hg HB.out); clear HB; obtain ⟨HB, BK401, GW401, GE401⟩ := n_; clear hb hbox hg) | ((with_reducible refine gate_dst (N := 3) rfl ?_); refine bx_ (N := 3) (cs := #[.string a1_0, .string a1_1, .slice A1_2 l1_2.length c1_2]) (t := 102) ?_; intro gb402 hg w23 hbox hb; have n_ := an7_ (blk_below (g := gb401) (o := .cells #[.string a0_0, .string a0_1, .slice A0_2 l0_2.length c0_2] 102 (0, 0)) (bk_ BK401.out) hb) (below_step bes_ hb) (hbox) (gsl_ hg HB.out) (gsl_ hg HB.out) ((by rw [hg]; exact Nat.ne_of_lt (blk_lt (g := gb401) (o := .cells #[.string a0_0, .string a0_1, .slice A0_2 l0_2.length c0_2] 102 (0, 0)) (bk_ BK401.out)) : gb401 ≠ gb402)) ((by rw [hg]; exact Nat.ne_of_gt (blk_lt (g := gb401) (o := .cells #[.string a0_0, .string a0_1, .slice A0_2 l0_2.length c0_2] 102 (0, 0)) (bk_ BK401.out)) : gb402 ≠ gb401)); clear BK401 HB; obtain ⟨BK401, HB, BK402, GW402, GE402, NB401_402, NB402_401⟩ := n_; clear hb hbox hg; have hnb24 := NB401_402.out; have hnc24 := NB402_401.out; obtain ⟨z25_0, z25_1, z25_2, y25_0, y25_1, y25_2⟩ := bcz3 BK401.out; obtain ⟨z26_0, z26_1, z26_2, y26_0, y26_1, y26_2⟩ := bcz3 BK402.out))
  go_ret
  exact ⟨er_, bes_⟩

/-! ### laws_eqPartS: function 65 -/
def laws_eqPartS.l0 : Nat → List (S102) → List (S102) → Int → Option (Bool)
 | 0, _, _, _ => none
 | k + 1, x0, x1, x5 => if x5 < (x0.length : Int) then (if 0 ≤ x5 then (if x5 < (x1.length : Int) then ((laws_eqPart.f k ((rd_T102 x0 x5).f0) ((rd_T102 x0 x5).f1) ((rd_T102 x0 x5).f2) ((rd_T102 x1 x5).f0) ((rd_T102 x1 x5).f1) ((rd_T102 x1 x5).f2)).bind fun t406 => (if t406 = true then (laws_eqPartS.l0 k x0 x1 (wrap64 (x5 + 1))) else (some false))) else (none)) else (none)) else (some true)
def laws_eqPartS.f (k : Nat) (l0 : List (S102)) (l1 : List (S102)) : Option (Bool) := if (l0.length : Int) = (l1.length : Int) then (laws_eqPartS.l0 k l0 l1 0) else (some false)
def laws_eqPartS.T6 : Bool × List (List Nat × List Nat) := (true, [([], []), ([], []), ([0, 1], [0, 1]), ([2], [2]), ([], []), ([], []), ([4, 5], [4, 5]), ([6], [6]), ([3, 7], [3, 7]), ([8], [8])])
def laws_eqPartS.B6 : List Nat := [0, 0, 3, 7, 0, 0, 48, 112, 255, 511]
theorem laws_eqPartS.tab6 : rtab .any (opsOf Tryz.f65 6) = laws_eqPartS.T6 := by kernel_rfl
theorem laws_eqPartS.bits6 : waitsOk laws_eqPartS.T6.2 laws_eqPartS.B6 = true := by kernel_rfl
theorem laws_eqPartS.calls (k : Nat) (A0 : Option Addr) (c0 : Nat) (l0 : List (S102)) (A1 : Option Addr) (c1 : Nat) (l1 : List (S102)) (r : Bool) (w : World) (hr0 : Kd.C k102 w A0 l0.length l0) (hc0 : l0.length ≤ c0) (hr1 : Kd.C k102 w A1 l1.length l1) (hc1 : l1.length ≤ c1) (h : laws_eqPartS.f k l0 l1 = some r) :
  Calls Tryz.prog 65 #[.slice A0 l0.length c0, .slice A1 l1.length c1] w fun e w' => e = .returned (.bool r) ∧ Below w.heap.size w w' := by
 have hu102 := Tryz.underlying102; have HR0 := ak_ hr0; have HC0 := ak_ hc0; clear hr0 hc0; have HR1 := ak_ hr1; have HC1 := ak_ hc1; clear hr1 hc1; have HB := ak_ (Below.refl w.heap.size w); have H := h; unfold laws_eqPartS.f at H
 clear h; replace H := ite_ H; rcases H with ⟨c3, H⟩ | ⟨c3, H⟩
 ·have c3b0 := beq_iff_eq.mpr c3; have c3b1 := bne_eq_false_iff_eq.mpr c3; have c3b2 : (l0.length == l1.length) = true := by first | simpa using c3 | (simp at c3 ⊢; omega)
  clear c3; have H' := ak_ H; clear H; go_enter Tryz.func65, Tryz.ntmps65
  go_wp2; go_loopg [5] k (fun kq v5 w' => ∃ (x5_1 : Int), v5 = .int .i64 x5_1 ∧ Aside0 (laws_eqPartS.l0 kq l0 l1 x5_1 = some r) ∧ Aside0 (kq ≤ k) ∧ Aside0 (Below w.heap.size w w'))
  case atStart => exact ⟨(0), sv_, H', ⟨Nat.le_refl _⟩, ⟨bel_⟩⟩
  case round =>
   clear H'; (try clear c1);(try clear c3b0);(try clear c3b1);(try clear c3b2)
   obtain ⟨x5_1, rfl, HA, HK1, HB⟩ := hrel; cases gk with
   | zero => exact absurd HA.out (by simp [laws_eqPartS.l0])
   | succ k1 =>
    have H := HA.out; clear HA; simp only [laws_eqPartS.l0] at H
    replace H := ied_ H; rcases H with ⟨c4b0, H⟩ | ⟨c4b0, H⟩
    ·replace H := itd_ H; obtain ⟨c5b0, H⟩ := H; replace H := itd_ H; obtain ⟨c6b0, H⟩ := H; replace H := bnd_ H; obtain ⟨t406, A7, H⟩ := H; replace H := itb_ H; rcases H with ⟨rfl, H⟩ | ⟨rfl, H⟩
     ·have H' := ak_ H; clear H; try go_wp2
      replace HB := ak_ (below_drew1 HB.out); have p404 : (0 ≤ (x5_1 : Int)) = True := odt_
      have q404 : (x5_1 < (l0.length : Int)) = True := odt_
      obtain ⟨ad404, A404_2, c404_2, e404, hx404_0, hx404_1, hx404_2, hl404_2, hi404_2⟩ := at_T102 HR0.out x5_1 oda_ oda_; have hw404_2 := hx404_2; have hw404_1 := hx404_1; have hw404_0 := hx404_0; cases e404; replace hx404_0 := pb_ HB hx404_0; replace hx404_1 := pb_ HB hx404_1; replace hx404_2 := pb_ HB hx404_2; have HR404_2 := ak_ hi404_2; have HC404_2 := ak_ hl404_2; clear hi404_2 hl404_2; have p405 : (0 ≤ (x5_1 : Int)) = True := odt_
      have q405 : (x5_1 < (l1.length : Int)) = True := odt_
      obtain ⟨ad405, A405_2, c405_2, e405, hx405_0, hx405_1, hx405_2, hl405_2, hi405_2⟩ := at_T102 HR1.out x5_1 oda_ oda_; have hw405_2 := hx405_2; have hw405_1 := hx405_1; have hw405_0 := hx405_0; cases e405; replace hx405_0 := pb_ HB hx405_0; replace hx405_1 := pb_ HB hx405_1; replace hx405_2 := pb_ HB hx405_2; have HR405_2 := ak_ hi405_2; have HC405_2 := ak_ hl405_2; clear hi405_2 hl405_2; refine start_ (n := 10) (S := fun w' => w'.cell? (ad404.add ((x5_1).toNat * 3)) = some (.string ((rd_T102 l0 x5_1).f0)) ∧ w'.cell? ⟨(ad404.add ((x5_1).toNat * 3)).block, (ad404.add ((x5_1).toNat * 3)).off + 1, none⟩ = some (.string ((rd_T102 l0 x5_1).f1)) ∧ w'.cell? ⟨(ad404.add ((x5_1).toNat * 3)).block, (ad404.add ((x5_1).toNat * 3)).off + 2, none⟩ = some (.slice A404_2 ((rd_T102 l0 x5_1).f2).length c404_2) ∧ w'.cell? (ad405.add ((x5_1).toNat * 3)) = some (.string ((rd_T102 l1 x5_1).f0)) ∧ w'.cell? ⟨(ad405.add ((x5_1).toNat * 3)).block, (ad405.add ((x5_1).toNat * 3)).off + 1, none⟩ = some (.string ((rd_T102 l1 x5_1).f1)) ∧ w'.cell? ⟨(ad405.add ((x5_1).toNat * 3)).block, (ad405.add ((x5_1).toNat * 3)).off + 2, none⟩ = some (.slice A405_2 ((rd_T102 l1 x5_1).f2).length c405_2)) (ds := []) #[false, false, false, false, false, false, false, false, false, false] (by kernel_rfl) rfl rfl ⟨(pb_ HB hw404_0), (pb_ HB hw404_1), (pb_ HB hw404_2), (pb_ HB hw405_0), (pb_ HB hw405_1), (pb_ HB hw405_2)⟩ (fun hHeld => ?_); refine with_tabW laws_eqPartS.tab6 laws_eqPartS.bits6 (fun HT_ HW_ => ?_)
      generalize wr.drew = w9 at HB HR404_2 HR405_2 hx404_0 hx404_1 hx404_2 hx405_0 hx405_1 hx405_2 hHeld ⊢
      refine tkp_ 0 (some 17) #[true, false, false, false, false, false, false, false, false, false] (any_of HT_.out (by kernel_rfl)) ?_
      refine tkp_ 1 (some 18) #[true, true, false, false, false, false, false, false, false, false] (any_of HT_.out (by kernel_rfl)) ?_
      refine tkp_ 2 (some 19) #[true, true, true, false, false, false, false, false, false, false] (any_of HT_.out (by kernel_rfl)) ?_
      refine tkp_ 4 (some 21) #[true, true, true, false, true, false, false, false, false, false] (any_of HT_.out (by kernel_rfl)) ?_
      refine tkp_ 5 (some 22) #[true, true, true, false, true, true, false, false, false, false] (any_of HT_.out (by kernel_rfl)) ?_
      refine tkp_ 6 (some 23) #[true, true, true, false, true, true, true, false, false, false] (any_of HT_.out (by kernel_rfl)) ?_
      refine tkt_ 3 (some 20) #[true, true, true, true, true, true, true, false, false, false] (take_ofW HT_.out HW_.out (by kernel_rfl)) hHeld ?_
      refine tkt_ 7 (some 24) #[true, true, true, true, true, true, true, true, false, false] (take_ofW HT_.out HW_.out (by kernel_rfl)) hHeld ?_
      refine one_ (i := 8) (N := some 25) #[true, true, true, true, true, true, true, true, true, false] rfl rfl (one_of HT_.out (by kernel_rfl)) (by decide) (fun K hK => ?_)
      refine goes_ Tryz.func88 (by kernel_rfl) rfl #[.agg #[.string ((rd_T102 l0 x5_1).f0), .string ((rd_T102 l0 x5_1).f1), .slice A404_2 ((rd_T102 l0 x5_1).f2).length c404_2], .agg #[.string ((rd_T102 l1 x5_1).f0), .string ((rd_T102 l1 x5_1).f1), .slice A405_2 ((rd_T102 l1 x5_1).f2).length c405_2]] (by rfl) rfl rfl au_ ?_
      with_reducible refine (laws_eqPart.calls k1 ((rd_T102 l0 x5_1).f0) ((rd_T102 l0 x5_1).f1) _ _ ((rd_T102 l0 x5_1).f2) ((rd_T102 l1 x5_1).f0) ((rd_T102 l1 x5_1).f1) _ _ ((rd_T102 l1 x5_1).f2) true _ ?side1 ?side2 ?side3 ?side4 A7.out).mono ?_
      (case side1 => exact cs_ (Kd.C_below HR404_2.out HB.out))
      (case side2 => exact HC404_2.out)
      (case side3 => exact cs_ (Kd.C_below HR405_2.out HB.out))
      (case side4 => exact HC405_2.out)
      rintro e w10 ⟨rfl, hb⟩; refine ⟨_, rfl, ?_⟩
      replace HB := ak_ (below_step bel_ hb); (try clear hb)
      refine hK.out _ _ ⟨(pb_ HB hw404_0), (pb_ HB hw404_1), (pb_ HB hw404_2), (pb_ HB hw405_0), (pb_ HB hw405_1), (pb_ HB hw405_2)⟩ (fun hHeld => ?_)
      clear hK K; refine norm_ (a' := ?_) ?_ ?_
      rotate_left
      ·show Act.put _ (some 25) _ = _
       simp only [Act.put, List.setIfInBounds_toArray, List.set_cons_zero, List.set_cons_succ, i64_w, i32_w]
       rfl
      refine tkp_ 9 (some 26) #[true, true, true, true, true, true, true, true, true, true] (any_of HT_.out (by kernel_rfl)) ?_
      refine done_ (done_of HT_.out (by kernel_rfl)) ?_
      try go_wp2
      go_roundg k1
      case measure => have := HK1.out; omega
      case rel => exact ⟨(wrap64 (x5_1 + 1)), sv_, H', ⟨by have := HK1.out; omega⟩, ⟨bel_⟩⟩
     ·obtain rfl := Option.some.inj H
      try go_wp2
      replace HB := ak_ (below_drew1 HB.out); have p404 : (0 ≤ (x5_1 : Int)) = True := odt_
      have q404 : (x5_1 < (l0.length : Int)) = True := odt_
      obtain ⟨ad404, A404_2, c404_2, e404, hx404_0, hx404_1, hx404_2, hl404_2, hi404_2⟩ := at_T102 HR0.out x5_1 oda_ oda_; have hw404_2 := hx404_2; have hw404_1 := hx404_1; have hw404_0 := hx404_0; cases e404; replace hx404_0 := pb_ HB hx404_0; replace hx404_1 := pb_ HB hx404_1; replace hx404_2 := pb_ HB hx404_2; have HR404_2 := ak_ hi404_2; have HC404_2 := ak_ hl404_2; clear hi404_2 hl404_2; have p405 : (0 ≤ (x5_1 : Int)) = True := odt_
      have q405 : (x5_1 < (l1.length : Int)) = True := odt_
      obtain ⟨ad405, A405_2, c405_2, e405, hx405_0, hx405_1, hx405_2, hl405_2, hi405_2⟩ := at_T102 HR1.out x5_1 oda_ oda_; have hw405_2 := hx405_2; have hw405_1 := hx405_1; have hw405_0 := hx405_0; cases e405; replace hx405_0 := pb_ HB hx405_0; replace hx405_1 := pb_ HB hx405_1; replace hx405_2 := pb_ HB hx405_2; have HR405_2 := ak_ hi405_2; have HC405_2 := ak_ hl405_2; clear hi405_2 hl405_2; refine start_ (n := 10) (S := fun w' => w'.cell? (ad404.add ((x5_1).toNat * 3)) = some (.string ((rd_T102 l0 x5_1).f0)) ∧ w'.cell? ⟨(ad404.add ((x5_1).toNat * 3)).block, (ad404.add ((x5_1).toNat * 3)).off + 1, none⟩ = some (.string ((rd_T102 l0 x5_1).f1)) ∧ w'.cell? ⟨(ad404.add ((x5_1).toNat * 3)).block, (ad404.add ((x5_1).toNat * 3)).off + 2, none⟩ = some (.slice A404_2 ((rd_T102 l0 x5_1).f2).length c404_2) ∧ w'.cell? (ad405.add ((x5_1).toNat * 3)) = some (.string ((rd_T102 l1 x5_1).f0)) ∧ w'.cell? ⟨(ad405.add ((x5_1).toNat * 3)).block, (ad405.add ((x5_1).toNat * 3)).off + 1, none⟩ = some (.string ((rd_T102 l1 x5_1).f1)) ∧ w'.cell? ⟨(ad405.add ((x5_1).toNat * 3)).block, (ad405.add ((x5_1).toNat * 3)).off + 2, none⟩ = some (.slice A405_2 ((rd_T102 l1 x5_1).f2).length c405_2)) (ds := []) #[false, false, false, false, false, false, false, false, false, false] (by kernel_rfl) rfl rfl ⟨(pb_ HB hw404_0), (pb_ HB hw404_1), (pb_ HB hw404_2), (pb_ HB hw405_0), (pb_ HB hw405_1), (pb_ HB hw405_2)⟩ (fun hHeld => ?_); refine with_tabW laws_eqPartS.tab6 laws_eqPartS.bits6 (fun HT_ HW_ => ?_)
      generalize wr.drew = w11 at HB HR404_2 HR405_2 hx404_0 hx404_1 hx404_2 hx405_0 hx405_1 hx405_2 hHeld ⊢
      refine tkp_ 0 (some 17) #[true, false, false, false, false, false, false, false, false, false] (any_of HT_.out (by kernel_rfl)) ?_
      refine tkp_ 1 (some 18) #[true, true, false, false, false, false, false, false, false, false] (any_of HT_.out (by kernel_rfl)) ?_
      refine tkp_ 2 (some 19) #[true, true, true, false, false, false, false, false, false, false] (any_of HT_.out (by kernel_rfl)) ?_
      refine tkp_ 4 (some 21) #[true, true, true, false, true, false, false, false, false, false] (any_of HT_.out (by kernel_rfl)) ?_
      refine tkp_ 5 (some 22) #[true, true, true, false, true, true, false, false, false, false] (any_of HT_.out (by kernel_rfl)) ?_
      refine tkp_ 6 (some 23) #[true, true, true, false, true, true, true, false, false, false] (any_of HT_.out (by kernel_rfl)) ?_
      refine tkt_ 3 (some 20) #[true, true, true, true, true, true, true, false, false, false] (take_ofW HT_.out HW_.out (by kernel_rfl)) hHeld ?_
      refine tkt_ 7 (some 24) #[true, true, true, true, true, true, true, true, false, false] (take_ofW HT_.out HW_.out (by kernel_rfl)) hHeld ?_
      refine one_ (i := 8) (N := some 25) #[true, true, true, true, true, true, true, true, true, false] rfl rfl (one_of HT_.out (by kernel_rfl)) (by decide) (fun K hK => ?_)
      refine goes_ Tryz.func88 (by kernel_rfl) rfl #[.agg #[.string ((rd_T102 l0 x5_1).f0), .string ((rd_T102 l0 x5_1).f1), .slice A404_2 ((rd_T102 l0 x5_1).f2).length c404_2], .agg #[.string ((rd_T102 l1 x5_1).f0), .string ((rd_T102 l1 x5_1).f1), .slice A405_2 ((rd_T102 l1 x5_1).f2).length c405_2]] (by rfl) rfl rfl au_ ?_
      with_reducible refine (laws_eqPart.calls k1 ((rd_T102 l0 x5_1).f0) ((rd_T102 l0 x5_1).f1) _ _ ((rd_T102 l0 x5_1).f2) ((rd_T102 l1 x5_1).f0) ((rd_T102 l1 x5_1).f1) _ _ ((rd_T102 l1 x5_1).f2) false _ ?side1 ?side2 ?side3 ?side4 A7.out).mono ?_
      (case side1 => exact cs_ (Kd.C_below HR404_2.out HB.out))
      (case side2 => exact HC404_2.out)
      (case side3 => exact cs_ (Kd.C_below HR405_2.out HB.out))
      (case side4 => exact HC405_2.out)
      rintro e w12 ⟨rfl, hb⟩; refine ⟨_, rfl, ?_⟩
      replace HB := ak_ (below_step bel_ hb); (try clear hb)
      refine hK.out _ _ ⟨(pb_ HB hw404_0), (pb_ HB hw404_1), (pb_ HB hw404_2), (pb_ HB hw405_0), (pb_ HB hw405_1), (pb_ HB hw405_2)⟩ (fun hHeld => ?_)
      clear hK K; refine norm_ (a' := ?_) ?_ ?_
      rotate_left
      ·show Act.put _ (some 25) _ = _
       simp only [Act.put, List.setIfInBounds_toArray, List.set_cons_zero, List.set_cons_succ, i64_w, i32_w]
       rfl
      refine tkp_ 9 (some 26) #[true, true, true, true, true, true, true, true, true, true] (any_of HT_.out (by kernel_rfl)) ?_
      refine done_ (done_of HT_.out (by kernel_rfl)) ?_
      try go_wp2
      go_ret
      exact ⟨er_, bel_⟩
    ·obtain rfl := Option.some.inj H
     go_wp2; go_ret
     exact ⟨er_, bel_⟩
 ·have c3b0 := beq_eq_false_iff_ne.mpr c3; have c3b1 := bne_iff_ne.mpr c3; have c3b2 : (l0.length == l1.length) = false := by first | simpa using c3 | (simp at c3 ⊢; omega)
  obtain rfl := Option.some.inj H
  go_enter Tryz.func65, Tryz.ntmps65
  go_wp2; go_ret
  exact ⟨er_, bel_⟩

/-! ### laws_eqPartSS: function 46 -/
def laws_eqPartSS.l0 : Nat → List (List (S102)) → List (List (S102)) → Int → Option (Bool)
 | 0, _, _, _ => none
 | k + 1, x0, x1, x5 => if x5 < (x0.length : Int) then (if 0 ≤ x5 then (if x5 < (x1.length : Int) then ((laws_eqPartS.f k (rd_L12 x0 x5) (rd_L12 x1 x5)).bind fun t409 => (if t409 = true then (laws_eqPartSS.l0 k x0 x1 (wrap64 (x5 + 1))) else (some false))) else (none)) else (none)) else (some true)
def laws_eqPartSS.f (k : Nat) (l0 : List (List (S102))) (l1 : List (List (S102))) : Option (Bool) := if (l0.length : Int) = (l1.length : Int) then (laws_eqPartSS.l0 k l0 l1 0) else (some false)
def laws_eqPartSS.T6 : Bool × List (List Nat × List Nat) := (true, [([], []), ([], []), ([0, 1], [0, 1]), ([2], [2]), ([], []), ([], []), ([4, 5], [4, 5]), ([6], [6]), ([3, 7], [3, 7]), ([8], [8])])
def laws_eqPartSS.B6 : List Nat := [0, 0, 3, 7, 0, 0, 48, 112, 255, 511]
theorem laws_eqPartSS.tab6 : rtab .any (opsOf Tryz.f46 6) = laws_eqPartSS.T6 := by kernel_rfl
theorem laws_eqPartSS.bits6 : waitsOk laws_eqPartSS.T6.2 laws_eqPartSS.B6 = true := by kernel_rfl
theorem laws_eqPartSS.calls (k : Nat) (A0 : Option Addr) (c0 : Nat) (l0 : List (List (S102))) (A1 : Option Addr) (c1 : Nat) (l1 : List (List (S102))) (r : Bool) (w : World) (hr0 : Kd.C (Kd.slice 102 k102) w A0 l0.length l0) (hc0 : l0.length ≤ c0) (hr1 : Kd.C (Kd.slice 102 k102) w A1 l1.length l1) (hc1 : l1.length ≤ c1) (h : laws_eqPartSS.f k l0 l1 = some r) :
  Calls Tryz.prog 46 #[.slice A0 l0.length c0, .slice A1 l1.length c1] w fun e w' => e = .returned (.bool r) ∧ Below w.heap.size w w' := by
 have HR0 := ak_ hr0; have HC0 := ak_ hc0; clear hr0 hc0; have HR1 := ak_ hr1; have HC1 := ak_ hc1; clear hr1 hc1; have HB := ak_ (Below.refl w.heap.size w); have H := h; unfold laws_eqPartSS.f at H
 clear h; replace H := ite_ H; rcases H with ⟨c3, H⟩ | ⟨c3, H⟩
 ·have c3b0 := beq_iff_eq.mpr c3; have c3b1 := bne_eq_false_iff_eq.mpr c3; have c3b2 : (l0.length == l1.length) = true := by first | simpa using c3 | (simp at c3 ⊢; omega)
  clear c3; have H' := ak_ H; clear H; go_enter Tryz.func46, Tryz.ntmps46
  go_wp2; go_loopg [5] k (fun kq v5 w' => ∃ (x5_1 : Int), v5 = .int .i64 x5_1 ∧ Aside0 (laws_eqPartSS.l0 kq l0 l1 x5_1 = some r) ∧ Aside0 (kq ≤ k) ∧ Aside0 (Below w.heap.size w w'))
  case atStart => exact ⟨(0), sv_, H', ⟨Nat.le_refl _⟩, ⟨bel_⟩⟩
  case round =>
   clear H'; (try clear c1);(try clear c3b0);(try clear c3b1);(try clear c3b2)
   obtain ⟨x5_1, rfl, HA, HK1, HB⟩ := hrel; cases gk with
   | zero => exact absurd HA.out (by simp [laws_eqPartSS.l0])
   | succ k1 =>
    have H := HA.out; clear HA; simp only [laws_eqPartSS.l0] at H
    replace H := ied_ H; rcases H with ⟨c4b0, H⟩ | ⟨c4b0, H⟩
    ·replace H := itd_ H; obtain ⟨c5b0, H⟩ := H; replace H := itd_ H; obtain ⟨c6b0, H⟩ := H; replace H := bnd_ H; obtain ⟨t409, A7, H⟩ := H; replace H := itb_ H; rcases H with ⟨rfl, H⟩ | ⟨rfl, H⟩
     ·have H' := ak_ H; clear H; try go_wp2
      replace HB := ak_ (below_drew1 HB.out); have p407 : (0 ≤ (x5_1 : Int)) = True := odt_
      have q407 : (x5_1 < (l0.length : Int)) = True := odt_
      obtain ⟨ad407, A407_0, c407_0, e407, hx407_0, hl407_0, hi407_0⟩ := at_L12 HR0.out x5_1 oda_ oda_; have hw407_0 := hx407_0; cases e407; replace hx407_0 := pb_ HB hx407_0; have HR407_0 := ak_ hi407_0; have HC407_0 := ak_ hl407_0; clear hi407_0 hl407_0; have p408 : (0 ≤ (x5_1 : Int)) = True := odt_
      have q408 : (x5_1 < (l1.length : Int)) = True := odt_
      obtain ⟨ad408, A408_0, c408_0, e408, hx408_0, hl408_0, hi408_0⟩ := at_L12 HR1.out x5_1 oda_ oda_; have hw408_0 := hx408_0; cases e408; replace hx408_0 := pb_ HB hx408_0; have HR408_0 := ak_ hi408_0; have HC408_0 := ak_ hl408_0; clear hi408_0 hl408_0; refine start_ (n := 10) (S := fun w' => w'.cell? (ad407.add (x5_1).toNat) = some (.slice A407_0 (rd_L12 l0 x5_1).length c407_0) ∧ w'.cell? (ad408.add (x5_1).toNat) = some (.slice A408_0 (rd_L12 l1 x5_1).length c408_0)) (ds := []) #[false, false, false, false, false, false, false, false, false, false] (by kernel_rfl) rfl rfl ⟨(pb_ HB hw407_0), (pb_ HB hw408_0)⟩ (fun hHeld => ?_); refine with_tabW laws_eqPartSS.tab6 laws_eqPartSS.bits6 (fun HT_ HW_ => ?_)
      generalize wr.drew = w9 at HB HR407_0 HR408_0 hx407_0 hx408_0 hHeld ⊢
      refine tkp_ 0 (some 17) #[true, false, false, false, false, false, false, false, false, false] (any_of HT_.out (by kernel_rfl)) ?_
      refine tkp_ 1 (some 18) #[true, true, false, false, false, false, false, false, false, false] (any_of HT_.out (by kernel_rfl)) ?_
      refine tkp_ 2 (some 19) #[true, true, true, false, false, false, false, false, false, false] (any_of HT_.out (by kernel_rfl)) ?_
      refine tkp_ 4 (some 21) #[true, true, true, false, true, false, false, false, false, false] (any_of HT_.out (by kernel_rfl)) ?_
      refine tkp_ 5 (some 22) #[true, true, true, false, true, true, false, false, false, false] (any_of HT_.out (by kernel_rfl)) ?_
      refine tkp_ 6 (some 23) #[true, true, true, false, true, true, true, false, false, false] (any_of HT_.out (by kernel_rfl)) ?_
      refine tkt_ 3 (some 20) #[true, true, true, true, true, true, true, false, false, false] (take_ofW HT_.out HW_.out (by kernel_rfl)) hHeld ?_
      refine tkt_ 7 (some 24) #[true, true, true, true, true, true, true, true, false, false] (take_ofW HT_.out HW_.out (by kernel_rfl)) hHeld ?_
      refine one_ (i := 8) (N := some 25) #[true, true, true, true, true, true, true, true, true, false] rfl rfl (one_of HT_.out (by kernel_rfl)) (by decide) (fun K hK => ?_)
      refine goes_ Tryz.func65 (by kernel_rfl) rfl #[.slice A407_0 (rd_L12 l0 x5_1).length c407_0, .slice A408_0 (rd_L12 l1 x5_1).length c408_0] (by rfl) rfl rfl au_ ?_
      with_reducible refine (laws_eqPartS.calls k1 _ _ (rd_L12 l0 x5_1) _ _ (rd_L12 l1 x5_1) true _ ?side1 ?side2 ?side3 ?side4 A7.out).mono ?_
      (case side1 => exact cs_ (Kd.C_below HR407_0.out HB.out))
      (case side2 => exact HC407_0.out)
      (case side3 => exact cs_ (Kd.C_below HR408_0.out HB.out))
      (case side4 => exact HC408_0.out)
      rintro e w10 ⟨rfl, hb⟩; refine ⟨_, rfl, ?_⟩
      replace HB := ak_ (below_step bel_ hb); (try clear hb)
      refine hK.out _ _ ⟨(pb_ HB hw407_0), (pb_ HB hw408_0)⟩ (fun hHeld => ?_)
      clear hK K; refine norm_ (a' := ?_) ?_ ?_
      rotate_left
      ·show Act.put _ (some 25) _ = _
       simp only [Act.put, List.setIfInBounds_toArray, List.set_cons_zero, List.set_cons_succ, i64_w, i32_w]
       rfl
      refine tkp_ 9 (some 26) #[true, true, true, true, true, true, true, true, true, true] (any_of HT_.out (by kernel_rfl)) ?_
      refine done_ (done_of HT_.out (by kernel_rfl)) ?_
      try go_wp2
      go_roundg k1
      case measure => have := HK1.out; omega
      case rel => exact ⟨(wrap64 (x5_1 + 1)), sv_, H', ⟨by have := HK1.out; omega⟩, ⟨bel_⟩⟩
     ·obtain rfl := Option.some.inj H
      try go_wp2
      replace HB := ak_ (below_drew1 HB.out); have p407 : (0 ≤ (x5_1 : Int)) = True := odt_
      have q407 : (x5_1 < (l0.length : Int)) = True := odt_
      obtain ⟨ad407, A407_0, c407_0, e407, hx407_0, hl407_0, hi407_0⟩ := at_L12 HR0.out x5_1 oda_ oda_; have hw407_0 := hx407_0; cases e407; replace hx407_0 := pb_ HB hx407_0; have HR407_0 := ak_ hi407_0; have HC407_0 := ak_ hl407_0; clear hi407_0 hl407_0; have p408 : (0 ≤ (x5_1 : Int)) = True := odt_
      have q408 : (x5_1 < (l1.length : Int)) = True := odt_
      obtain ⟨ad408, A408_0, c408_0, e408, hx408_0, hl408_0, hi408_0⟩ := at_L12 HR1.out x5_1 oda_ oda_; have hw408_0 := hx408_0; cases e408; replace hx408_0 := pb_ HB hx408_0; have HR408_0 := ak_ hi408_0; have HC408_0 := ak_ hl408_0; clear hi408_0 hl408_0; refine start_ (n := 10) (S := fun w' => w'.cell? (ad407.add (x5_1).toNat) = some (.slice A407_0 (rd_L12 l0 x5_1).length c407_0) ∧ w'.cell? (ad408.add (x5_1).toNat) = some (.slice A408_0 (rd_L12 l1 x5_1).length c408_0)) (ds := []) #[false, false, false, false, false, false, false, false, false, false] (by kernel_rfl) rfl rfl ⟨(pb_ HB hw407_0), (pb_ HB hw408_0)⟩ (fun hHeld => ?_); refine with_tabW laws_eqPartSS.tab6 laws_eqPartSS.bits6 (fun HT_ HW_ => ?_)
      generalize wr.drew = w11 at HB HR407_0 HR408_0 hx407_0 hx408_0 hHeld ⊢
      refine tkp_ 0 (some 17) #[true, false, false, false, false, false, false, false, false, false] (any_of HT_.out (by kernel_rfl)) ?_
      refine tkp_ 1 (some 18) #[true, true, false, false, false, false, false, false, false, false] (any_of HT_.out (by kernel_rfl)) ?_
      refine tkp_ 2 (some 19) #[true, true, true, false, false, false, false, false, false, false] (any_of HT_.out (by kernel_rfl)) ?_
      refine tkp_ 4 (some 21) #[true, true, true, false, true, false, false, false, false, false] (any_of HT_.out (by kernel_rfl)) ?_
      refine tkp_ 5 (some 22) #[true, true, true, false, true, true, false, false, false, false] (any_of HT_.out (by kernel_rfl)) ?_
      refine tkp_ 6 (some 23) #[true, true, true, false, true, true, true, false, false, false] (any_of HT_.out (by kernel_rfl)) ?_
      refine tkt_ 3 (some 20) #[true, true, true, true, true, true, true, false, false, false] (take_ofW HT_.out HW_.out (by kernel_rfl)) hHeld ?_
      refine tkt_ 7 (some 24) #[true, true, true, true, true, true, true, true, false, false] (take_ofW HT_.out HW_.out (by kernel_rfl)) hHeld ?_
      refine one_ (i := 8) (N := some 25) #[true, true, true, true, true, true, true, true, true, false] rfl rfl (one_of HT_.out (by kernel_rfl)) (by decide) (fun K hK => ?_)
      refine goes_ Tryz.func65 (by kernel_rfl) rfl #[.slice A407_0 (rd_L12 l0 x5_1).length c407_0, .slice A408_0 (rd_L12 l1 x5_1).length c408_0] (by rfl) rfl rfl au_ ?_
      with_reducible refine (laws_eqPartS.calls k1 _ _ (rd_L12 l0 x5_1) _ _ (rd_L12 l1 x5_1) false _ ?side1 ?side2 ?side3 ?side4 A7.out).mono ?_
      (case side1 => exact cs_ (Kd.C_below HR407_0.out HB.out))
      (case side2 => exact HC407_0.out)
      (case side3 => exact cs_ (Kd.C_below HR408_0.out HB.out))
      (case side4 => exact HC408_0.out)
      rintro e w12 ⟨rfl, hb⟩; refine ⟨_, rfl, ?_⟩
      replace HB := ak_ (below_step bel_ hb); (try clear hb)
      refine hK.out _ _ ⟨(pb_ HB hw407_0), (pb_ HB hw408_0)⟩ (fun hHeld => ?_)
      clear hK K; refine norm_ (a' := ?_) ?_ ?_
      rotate_left
      ·show Act.put _ (some 25) _ = _
       simp only [Act.put, List.setIfInBounds_toArray, List.set_cons_zero, List.set_cons_succ, i64_w, i32_w]
       rfl
      refine tkp_ 9 (some 26) #[true, true, true, true, true, true, true, true, true, true] (any_of HT_.out (by kernel_rfl)) ?_
      refine done_ (done_of HT_.out (by kernel_rfl)) ?_
      try go_wp2
      go_ret
      exact ⟨er_, bel_⟩
    ·obtain rfl := Option.some.inj H
     go_wp2; go_ret
     exact ⟨er_, bel_⟩
 ·have c3b0 := beq_eq_false_iff_ne.mpr c3; have c3b1 := bne_iff_ne.mpr c3; have c3b2 : (l0.length == l1.length) = false := by first | simpa using c3 | (simp at c3 ⊢; omega)
  obtain rfl := Option.some.inj H
  go_enter Tryz.func46, Tryz.ntmps46
  go_wp2; go_ret
  exact ⟨er_, bel_⟩

/-! ### laws_eqDecl: function 66 -/
def laws_eqDecl.f (a0_0 : ByteArray) (a0_1 : ByteArray) (a0_2 : Bool) (a1_0 : ByteArray) (a1_1 : ByteArray) (a1_2 : Bool) : Option (Bool) := if a0_0.toList = a1_0.toList then (if a0_1.toList = a1_1.toList then (if (a0_2 != a1_2) = true then (some false) else (some true)) else (some false)) else (some false)
theorem laws_eqDecl.calls (a0_0 : ByteArray) (a0_1 : ByteArray) (a0_2 : Bool) (a1_0 : ByteArray) (a1_1 : ByteArray) (a1_2 : Bool) (r : Bool) (w : World) (h : laws_eqDecl.f a0_0 a0_1 a0_2 a1_0 a1_1 a1_2 = some r) :
  Calls Tryz.prog 66 #[.agg #[.string a0_0, .string a0_1, .bool a0_2], .agg #[.string a1_0, .string a1_1, .bool a1_2]] w fun e w' => e = .returned (.bool r) ∧ Below w.heap.size w w' := by
 have hu80 := Tryz.underlying80; have HB := ak_ (Below.refl w.heap.size w); have H := h; unfold laws_eqDecl.f at H
 clear h; replace H := ite_ H; rcases H with ⟨c3, H⟩ | ⟨c3, H⟩
 ·have c3b0 := beq_iff_eq.mpr c3; have c3b1 := bne_eq_false_iff_eq.mpr c3; clear c3; replace H := ite_ H; rcases H with ⟨c4, H⟩ | ⟨c4, H⟩
  ·have c4b0 := beq_iff_eq.mpr c4; have c4b1 := bne_eq_false_iff_eq.mpr c4; clear c4; replace H := ite_ H; rcases H with ⟨c5, H⟩ | ⟨c5, H⟩
   ·have c5b0 : (a0_2 != a1_2) = true := c5
    (try (have c5b1 : decide (a0_2 = a1_2) = false := by simpa using c5))
    (try (have c5b2 : (a0_2 == a1_2) = false := by simpa using c5))
    (try (have c5b3 : ¬ (a0_2 = a1_2) := by simpa using c5))
    clear c5; obtain rfl := Option.some.inj H
    go_enter Tryz.func66, Tryz.ntmps66
    go_wp2_with (first | ((with_reducible refine gate_dst (N := 2) rfl ?_); refine bx_ (N := 2) (cs := #[.string a0_0, .string a0_1, .bool a0_2]) (t := 80) ?_; intro gb410 hg w6 hbox hb; have n_ := an4_ (below_step bel_ hb) (hbox) (gsl_ hg HB.out) (gsl_ hg HB.out); clear HB; obtain ⟨HB, BK410, GW410, GE410⟩ := n_; clear hb hbox hg) | ((with_reducible refine gate_dst (N := 3) rfl ?_); refine bx_ (N := 3) (cs := #[.string a1_0, .string a1_1, .bool a1_2]) (t := 80) ?_; intro gb411 hg w7 hbox hb; have n_ := an7_ (blk_below (g := gb410) (o := .cells #[.string a0_0, .string a0_1, .bool a0_2] 80 (0, 0)) (bk_ BK410.out) hb) (below_step bes_ hb) (hbox) (gsl_ hg HB.out) (gsl_ hg HB.out) ((by rw [hg]; exact Nat.ne_of_lt (blk_lt (g := gb410) (o := .cells #[.string a0_0, .string a0_1, .bool a0_2] 80 (0, 0)) (bk_ BK410.out)) : gb410 ≠ gb411)) ((by rw [hg]; exact Nat.ne_of_gt (blk_lt (g := gb410) (o := .cells #[.string a0_0, .string a0_1, .bool a0_2] 80 (0, 0)) (bk_ BK410.out)) : gb411 ≠ gb410)); clear BK410 HB; obtain ⟨BK410, HB, BK411, GW411, GE411, NB410_411, NB411_410⟩ := n_; clear hb hbox hg; have hnb8 := NB410_411.out; have hnc8 := NB411_410.out; obtain ⟨z9_0, z9_1, z9_2, y9_0, y9_1, y9_2⟩ := bcz3 BK410.out; obtain ⟨z10_0, z10_1, z10_2, y10_0, y10_1, y10_2⟩ := bcz3 BK411.out))
    go_ret
    exact ⟨er_, bes_⟩
   ·have c5b0 : (a0_2 != a1_2) = false := by simpa using c5
    (try (have c5b1 : decide (a0_2 = a1_2) = true := by simpa using c5))
    (try (have c5b2 : (a0_2 == a1_2) = true := by simpa using c5))
    clear c5; obtain rfl := Option.some.inj H
    go_enter Tryz.func66, Tryz.ntmps66
    go_wp2_with (first | ((with_reducible refine gate_dst (N := 2) rfl ?_); refine bx_ (N := 2) (cs := #[.string a0_0, .string a0_1, .bool a0_2]) (t := 80) ?_; intro gb410 hg w11 hbox hb; have n_ := an4_ (below_step bel_ hb) (hbox) (gsl_ hg HB.out) (gsl_ hg HB.out); clear HB; obtain ⟨HB, BK410, GW410, GE410⟩ := n_; clear hb hbox hg) | ((with_reducible refine gate_dst (N := 3) rfl ?_); refine bx_ (N := 3) (cs := #[.string a1_0, .string a1_1, .bool a1_2]) (t := 80) ?_; intro gb411 hg w12 hbox hb; have n_ := an7_ (blk_below (g := gb410) (o := .cells #[.string a0_0, .string a0_1, .bool a0_2] 80 (0, 0)) (bk_ BK410.out) hb) (below_step bes_ hb) (hbox) (gsl_ hg HB.out) (gsl_ hg HB.out) ((by rw [hg]; exact Nat.ne_of_lt (blk_lt (g := gb410) (o := .cells #[.string a0_0, .string a0_1, .bool a0_2] 80 (0, 0)) (bk_ BK410.out)) : gb410 ≠ gb411)) ((by rw [hg]; exact Nat.ne_of_gt (blk_lt (g := gb410) (o := .cells #[.string a0_0, .string a0_1, .bool a0_2] 80 (0, 0)) (bk_ BK410.out)) : gb411 ≠ gb410)); clear BK410 HB; obtain ⟨BK410, HB, BK411, GW411, GE411, NB410_411, NB411_410⟩ := n_; clear hb hbox hg; have hnb13 := NB410_411.out; have hnc13 := NB411_410.out; obtain ⟨z14_0, z14_1, z14_2, y14_0, y14_1, y14_2⟩ := bcz3 BK410.out; obtain ⟨z15_0, z15_1, z15_2, y15_0, y15_1, y15_2⟩ := bcz3 BK411.out))
    go_ret
    exact ⟨er_, bes_⟩
  ·have c4b0 := beq_eq_false_iff_ne.mpr c4; have c4b1 := bne_iff_ne.mpr c4; obtain rfl := Option.some.inj H
   go_enter Tryz.func66, Tryz.ntmps66
   go_wp2_with (first | ((with_reducible refine gate_dst (N := 2) rfl ?_); refine bx_ (N := 2) (cs := #[.string a0_0, .string a0_1, .bool a0_2]) (t := 80) ?_; intro gb410 hg w16 hbox hb; have n_ := an4_ (below_step bel_ hb) (hbox) (gsl_ hg HB.out) (gsl_ hg HB.out); clear HB; obtain ⟨HB, BK410, GW410, GE410⟩ := n_; clear hb hbox hg) | ((with_reducible refine gate_dst (N := 3) rfl ?_); refine bx_ (N := 3) (cs := #[.string a1_0, .string a1_1, .bool a1_2]) (t := 80) ?_; intro gb411 hg w17 hbox hb; have n_ := an7_ (blk_below (g := gb410) (o := .cells #[.string a0_0, .string a0_1, .bool a0_2] 80 (0, 0)) (bk_ BK410.out) hb) (below_step bes_ hb) (hbox) (gsl_ hg HB.out) (gsl_ hg HB.out) ((by rw [hg]; exact Nat.ne_of_lt (blk_lt (g := gb410) (o := .cells #[.string a0_0, .string a0_1, .bool a0_2] 80 (0, 0)) (bk_ BK410.out)) : gb410 ≠ gb411)) ((by rw [hg]; exact Nat.ne_of_gt (blk_lt (g := gb410) (o := .cells #[.string a0_0, .string a0_1, .bool a0_2] 80 (0, 0)) (bk_ BK410.out)) : gb411 ≠ gb410)); clear BK410 HB; obtain ⟨BK410, HB, BK411, GW411, GE411, NB410_411, NB411_410⟩ := n_; clear hb hbox hg; have hnb18 := NB410_411.out; have hnc18 := NB411_410.out; obtain ⟨z19_0, z19_1, z19_2, y19_0, y19_1, y19_2⟩ := bcz3 BK410.out; obtain ⟨z20_0, z20_1, z20_2, y20_0, y20_1, y20_2⟩ := bcz3 BK411.out))
   go_ret
   exact ⟨er_, bes_⟩
 ·have c3b0 := beq_eq_false_iff_ne.mpr c3; have c3b1 := bne_iff_ne.mpr c3; obtain rfl := Option.some.inj H
  go_enter Tryz.func66, Tryz.ntmps66
  go_wp2_with (first | ((with_reducible refine gate_dst (N := 2) rfl ?_); refine bx_ (N := 2) (cs := #[.string a0_0, .string a0_1, .bool a0_2]) (t := 80) ?_; intro gb410 hg w21 hbox hb; have n_ := an4_ (below_step bel_ hb) (hbox) (gsl_ hg HB.out) (gsl_ hg HB.out); clear HB; obtain ⟨HB, BK410, GW410, GE410⟩ := n_; clear hb hbox hg) | ((with_reducible refine gate_dst (N := 3) rfl ?_); refine bx_ (N := 3) (cs := #[.string a1_0, .string a1_1, .bool a1_2]) (t := 80) ?_; intro gb411 hg w22 hbox hb; have n_ := an7_ (blk_below (g := gb410) (o := .cells #[.string a0_0, .string a0_1, .bool a0_2] 80 (0, 0)) (bk_ BK410.out) hb) (below_step bes_ hb) (hbox) (gsl_ hg HB.out) (gsl_ hg HB.out) ((by rw [hg]; exact Nat.ne_of_lt (blk_lt (g := gb410) (o := .cells #[.string a0_0, .string a0_1, .bool a0_2] 80 (0, 0)) (bk_ BK410.out)) : gb410 ≠ gb411)) ((by rw [hg]; exact Nat.ne_of_gt (blk_lt (g := gb410) (o := .cells #[.string a0_0, .string a0_1, .bool a0_2] 80 (0, 0)) (bk_ BK410.out)) : gb411 ≠ gb410)); clear BK410 HB; obtain ⟨BK410, HB, BK411, GW411, GE411, NB410_411, NB411_410⟩ := n_; clear hb hbox hg; have hnb23 := NB410_411.out; have hnc23 := NB411_410.out; obtain ⟨z24_0, z24_1, z24_2, y24_0, y24_1, y24_2⟩ := bcz3 BK410.out; obtain ⟨z25_0, z25_1, z25_2, y25_0, y25_1, y25_2⟩ := bcz3 BK411.out))
  go_ret
  exact ⟨er_, bes_⟩

/-! ### laws_eqDeclS: function 47 -/
def laws_eqDeclS.l0 : Nat → List (S80) → List (S80) → Int → Option (Bool)
 | 0, _, _, _ => none
 | k + 1, x0, x1, x5 => if x5 < (x0.length : Int) then (if 0 ≤ x5 then (if x5 < (x1.length : Int) then ((laws_eqDecl.f ((rd_T80 x0 x5).f0) ((rd_T80 x0 x5).f1) ((rd_T80 x0 x5).f2) ((rd_T80 x1 x5).f0) ((rd_T80 x1 x5).f1) ((rd_T80 x1 x5).f2)).bind fun t414 => (if t414 = true then (laws_eqDeclS.l0 k x0 x1 (wrap64 (x5 + 1))) else (some false))) else (none)) else (none)) else (some true)
def laws_eqDeclS.f (k : Nat) (l0 : List (S80)) (l1 : List (S80)) : Option (Bool) := if (l0.length : Int) = (l1.length : Int) then (laws_eqDeclS.l0 k l0 l1 0) else (some false)
def laws_eqDeclS.T6 : Bool × List (List Nat × List Nat) := (true, [([], []), ([], []), ([0, 1], [0, 1]), ([2], [2]), ([], []), ([], []), ([4, 5], [4, 5]), ([6], [6]), ([3, 7], [3, 7]), ([8], [8])])
def laws_eqDeclS.B6 : List Nat := [0, 0, 3, 7, 0, 0, 48, 112, 255, 511]
theorem laws_eqDeclS.tab6 : rtab .any (opsOf Tryz.f47 6) = laws_eqDeclS.T6 := by kernel_rfl
theorem laws_eqDeclS.bits6 : waitsOk laws_eqDeclS.T6.2 laws_eqDeclS.B6 = true := by kernel_rfl
theorem laws_eqDeclS.calls (k : Nat) (A0 : Option Addr) (c0 : Nat) (l0 : List (S80)) (A1 : Option Addr) (c1 : Nat) (l1 : List (S80)) (r : Bool) (w : World) (hr0 : Kd.C k80 w A0 l0.length l0) (hc0 : l0.length ≤ c0) (hr1 : Kd.C k80 w A1 l1.length l1) (hc1 : l1.length ≤ c1) (h : laws_eqDeclS.f k l0 l1 = some r) :
  Calls Tryz.prog 47 #[.slice A0 l0.length c0, .slice A1 l1.length c1] w fun e w' => e = .returned (.bool r) ∧ Below w.heap.size w w' := by
 have hu80 := Tryz.underlying80; have HR0 := ak_ hr0; have HC0 := ak_ hc0; clear hr0 hc0; have HR1 := ak_ hr1; have HC1 := ak_ hc1; clear hr1 hc1; have HB := ak_ (Below.refl w.heap.size w); have H := h; unfold laws_eqDeclS.f at H
 clear h; replace H := ite_ H; rcases H with ⟨c3, H⟩ | ⟨c3, H⟩
 ·have c3b0 := beq_iff_eq.mpr c3; have c3b1 := bne_eq_false_iff_eq.mpr c3; have c3b2 : (l0.length == l1.length) = true := by first | simpa using c3 | (simp at c3 ⊢; omega)
  clear c3; have H' := ak_ H; clear H; go_enter Tryz.func47, Tryz.ntmps47
  go_wp2; go_loopg [5] k (fun kq v5 w' => ∃ (x5_1 : Int), v5 = .int .i64 x5_1 ∧ Aside0 (laws_eqDeclS.l0 kq l0 l1 x5_1 = some r) ∧ Aside0 (kq ≤ k) ∧ Aside0 (Below w.heap.size w w'))
  case atStart => exact ⟨(0), sv_, H', ⟨Nat.le_refl _⟩, ⟨bel_⟩⟩
  case round =>
   clear H'; (try clear c1);(try clear c3b0);(try clear c3b1);(try clear c3b2)
   obtain ⟨x5_1, rfl, HA, HK1, HB⟩ := hrel; cases gk with
   | zero => exact absurd HA.out (by simp [laws_eqDeclS.l0])
   | succ k1 =>
    have H := HA.out; clear HA; simp only [laws_eqDeclS.l0] at H
    replace H := ied_ H; rcases H with ⟨c4b0, H⟩ | ⟨c4b0, H⟩
    ·replace H := itd_ H; obtain ⟨c5b0, H⟩ := H; replace H := itd_ H; obtain ⟨c6b0, H⟩ := H; replace H := bnd_ H; obtain ⟨t414, A7, H⟩ := H; replace H := itb_ H; rcases H with ⟨rfl, H⟩ | ⟨rfl, H⟩
     ·have H' := ak_ H; clear H; try go_wp2
      replace HB := ak_ (below_drew1 HB.out); have p412 : (0 ≤ (x5_1 : Int)) = True := odt_
      have q412 : (x5_1 < (l0.length : Int)) = True := odt_
      obtain ⟨ad412, e412, hx412_0, hx412_1, hx412_2⟩ := at_T80 HR0.out x5_1 oda_ oda_; have hw412_2 := hx412_2; have hw412_1 := hx412_1; have hw412_0 := hx412_0; cases e412; replace hx412_0 := pb_ HB hx412_0; replace hx412_1 := pb_ HB hx412_1; replace hx412_2 := pb_ HB hx412_2; have p413 : (0 ≤ (x5_1 : Int)) = True := odt_
      have q413 : (x5_1 < (l1.length : Int)) = True := odt_
      obtain ⟨ad413, e413, hx413_0, hx413_1, hx413_2⟩ := at_T80 HR1.out x5_1 oda_ oda_; have hw413_2 := hx413_2; have hw413_1 := hx413_1; have hw413_0 := hx413_0; cases e413; replace hx413_0 := pb_ HB hx413_0; replace hx413_1 := pb_ HB hx413_1; replace hx413_2 := pb_ HB hx413_2; refine start_ (n := 10) (S := fun w' => w'.cell? (ad412.add ((x5_1).toNat * 3)) = some (.string ((rd_T80 l0 x5_1).f0)) ∧ w'.cell? ⟨(ad412.add ((x5_1).toNat * 3)).block, (ad412.add ((x5_1).toNat * 3)).off + 1, none⟩ = some (.string ((rd_T80 l0 x5_1).f1)) ∧ w'.cell? ⟨(ad412.add ((x5_1).toNat * 3)).block, (ad412.add ((x5_1).toNat * 3)).off + 2, none⟩ = some (.bool ((rd_T80 l0 x5_1).f2)) ∧ w'.cell? (ad413.add ((x5_1).toNat * 3)) = some (.string ((rd_T80 l1 x5_1).f0)) ∧ w'.cell? ⟨(ad413.add ((x5_1).toNat * 3)).block, (ad413.add ((x5_1).toNat * 3)).off + 1, none⟩ = some (.string ((rd_T80 l1 x5_1).f1)) ∧ w'.cell? ⟨(ad413.add ((x5_1).toNat * 3)).block, (ad413.add ((x5_1).toNat * 3)).off + 2, none⟩ = some (.bool ((rd_T80 l1 x5_1).f2))) (ds := []) #[false, false, false, false, false, false, false, false, false, false] (by kernel_rfl) rfl rfl ⟨(pb_ HB hw412_0), (pb_ HB hw412_1), (pb_ HB hw412_2), (pb_ HB hw413_0), (pb_ HB hw413_1), (pb_ HB hw413_2)⟩ (fun hHeld => ?_); refine with_tabW laws_eqDeclS.tab6 laws_eqDeclS.bits6 (fun HT_ HW_ => ?_)
      generalize wr.drew = w9 at HB hx412_0 hx412_1 hx412_2 hx413_0 hx413_1 hx413_2 hHeld ⊢
      refine tkp_ 0 (some 17) #[true, false, false, false, false, false, false, false, false, false] (any_of HT_.out (by kernel_rfl)) ?_
      refine tkp_ 1 (some 18) #[true, true, false, false, false, false, false, false, false, false] (any_of HT_.out (by kernel_rfl)) ?_
      refine tkp_ 2 (some 19) #[true, true, true, false, false, false, false, false, false, false] (any_of HT_.out (by kernel_rfl)) ?_
      refine tkp_ 4 (some 21) #[true, true, true, false, true, false, false, false, false, false] (any_of HT_.out (by kernel_rfl)) ?_
      refine tkp_ 5 (some 22) #[true, true, true, false, true, true, false, false, false, false] (any_of HT_.out (by kernel_rfl)) ?_
      refine tkp_ 6 (some 23) #[true, true, true, false, true, true, true, false, false, false] (any_of HT_.out (by kernel_rfl)) ?_
      refine tkt_ 3 (some 20) #[true, true, true, true, true, true, true, false, false, false] (take_ofW HT_.out HW_.out (by kernel_rfl)) hHeld ?_
      refine tkt_ 7 (some 24) #[true, true, true, true, true, true, true, true, false, false] (take_ofW HT_.out HW_.out (by kernel_rfl)) hHeld ?_
      refine one_ (i := 8) (N := some 25) #[true, true, true, true, true, true, true, true, true, false] rfl rfl (one_of HT_.out (by kernel_rfl)) (by decide) (fun K hK => ?_)
      refine goes_ Tryz.func66 (by kernel_rfl) rfl #[.agg #[.string ((rd_T80 l0 x5_1).f0), .string ((rd_T80 l0 x5_1).f1), .bool ((rd_T80 l0 x5_1).f2)], .agg #[.string ((rd_T80 l1 x5_1).f0), .string ((rd_T80 l1 x5_1).f1), .bool ((rd_T80 l1 x5_1).f2)]] (by rfl) rfl rfl au_ ?_
      with_reducible refine (laws_eqDecl.calls ((rd_T80 l0 x5_1).f0) ((rd_T80 l0 x5_1).f1) ((rd_T80 l0 x5_1).f2) ((rd_T80 l1 x5_1).f0) ((rd_T80 l1 x5_1).f1) ((rd_T80 l1 x5_1).f2) true _ A7.out).mono ?_
      rintro e w10 ⟨rfl, hb⟩; refine ⟨_, rfl, ?_⟩
      replace HB := ak_ (below_step bel_ hb); (try clear hb)
      refine hK.out _ _ ⟨(pb_ HB hw412_0), (pb_ HB hw412_1), (pb_ HB hw412_2), (pb_ HB hw413_0), (pb_ HB hw413_1), (pb_ HB hw413_2)⟩ (fun hHeld => ?_)
      clear hK K; refine norm_ (a' := ?_) ?_ ?_
      rotate_left
      ·show Act.put _ (some 25) _ = _
       simp only [Act.put, List.setIfInBounds_toArray, List.set_cons_zero, List.set_cons_succ, i64_w, i32_w]
       rfl
      refine tkp_ 9 (some 26) #[true, true, true, true, true, true, true, true, true, true] (any_of HT_.out (by kernel_rfl)) ?_
      refine done_ (done_of HT_.out (by kernel_rfl)) ?_
      try go_wp2
      go_roundg k1
      case measure => have := HK1.out; omega
      case rel => exact ⟨(wrap64 (x5_1 + 1)), sv_, H', ⟨by have := HK1.out; omega⟩, ⟨bel_⟩⟩
     ·obtain rfl := Option.some.inj H
      try go_wp2
      replace HB := ak_ (below_drew1 HB.out); have p412 : (0 ≤ (x5_1 : Int)) = True := odt_
      have q412 : (x5_1 < (l0.length : Int)) = True := odt_
      obtain ⟨ad412, e412, hx412_0, hx412_1, hx412_2⟩ := at_T80 HR0.out x5_1 oda_ oda_; have hw412_2 := hx412_2; have hw412_1 := hx412_1; have hw412_0 := hx412_0; cases e412; replace hx412_0 := pb_ HB hx412_0; replace hx412_1 := pb_ HB hx412_1; replace hx412_2 := pb_ HB hx412_2; have p413 : (0 ≤ (x5_1 : Int)) = True := odt_
      have q413 : (x5_1 < (l1.length : Int)) = True := odt_
      obtain ⟨ad413, e413, hx413_0, hx413_1, hx413_2⟩ := at_T80 HR1.out x5_1 oda_ oda_; have hw413_2 := hx413_2; have hw413_1 := hx413_1; have hw413_0 := hx413_0; cases e413; replace hx413_0 := pb_ HB hx413_0; replace hx413_1 := pb_ HB hx413_1; replace hx413_2 := pb_ HB hx413_2; refine start_ (n := 10) (S := fun w' => w'.cell? (ad412.add ((x5_1).toNat * 3)) = some (.string ((rd_T80 l0 x5_1).f0)) ∧ w'.cell? ⟨(ad412.add ((x5_1).toNat * 3)).block, (ad412.add ((x5_1).toNat * 3)).off + 1, none⟩ = some (.string ((rd_T80 l0 x5_1).f1)) ∧ w'.cell? ⟨(ad412.add ((x5_1).toNat * 3)).block, (ad412.add ((x5_1).toNat * 3)).off + 2, none⟩ = some (.bool ((rd_T80 l0 x5_1).f2)) ∧ w'.cell? (ad413.add ((x5_1).toNat * 3)) = some (.string ((rd_T80 l1 x5_1).f0)) ∧ w'.cell? ⟨(ad413.add ((x5_1).toNat * 3)).block, (ad413.add ((x5_1).toNat * 3)).off + 1, none⟩ = some (.string ((rd_T80 l1 x5_1).f1)) ∧ w'.cell? ⟨(ad413.add ((x5_1).toNat * 3)).block, (ad413.add ((x5_1).toNat * 3)).off + 2, none⟩ = some (.bool ((rd_T80 l1 x5_1).f2))) (ds := []) #[false, false, false, false, false, false, false, false, false, false] (by kernel_rfl) rfl rfl ⟨(pb_ HB hw412_0), (pb_ HB hw412_1), (pb_ HB hw412_2), (pb_ HB hw413_0), (pb_ HB hw413_1), (pb_ HB hw413_2)⟩ (fun hHeld => ?_); refine with_tabW laws_eqDeclS.tab6 laws_eqDeclS.bits6 (fun HT_ HW_ => ?_)
      generalize wr.drew = w11 at HB hx412_0 hx412_1 hx412_2 hx413_0 hx413_1 hx413_2 hHeld ⊢
      refine tkp_ 0 (some 17) #[true, false, false, false, false, false, false, false, false, false] (any_of HT_.out (by kernel_rfl)) ?_
      refine tkp_ 1 (some 18) #[true, true, false, false, false, false, false, false, false, false] (any_of HT_.out (by kernel_rfl)) ?_
      refine tkp_ 2 (some 19) #[true, true, true, false, false, false, false, false, false, false] (any_of HT_.out (by kernel_rfl)) ?_
      refine tkp_ 4 (some 21) #[true, true, true, false, true, false, false, false, false, false] (any_of HT_.out (by kernel_rfl)) ?_
      refine tkp_ 5 (some 22) #[true, true, true, false, true, true, false, false, false, false] (any_of HT_.out (by kernel_rfl)) ?_
      refine tkp_ 6 (some 23) #[true, true, true, false, true, true, true, false, false, false] (any_of HT_.out (by kernel_rfl)) ?_
      refine tkt_ 3 (some 20) #[true, true, true, true, true, true, true, false, false, false] (take_ofW HT_.out HW_.out (by kernel_rfl)) hHeld ?_
      refine tkt_ 7 (some 24) #[true, true, true, true, true, true, true, true, false, false] (take_ofW HT_.out HW_.out (by kernel_rfl)) hHeld ?_
      refine one_ (i := 8) (N := some 25) #[true, true, true, true, true, true, true, true, true, false] rfl rfl (one_of HT_.out (by kernel_rfl)) (by decide) (fun K hK => ?_)
      refine goes_ Tryz.func66 (by kernel_rfl) rfl #[.agg #[.string ((rd_T80 l0 x5_1).f0), .string ((rd_T80 l0 x5_1).f1), .bool ((rd_T80 l0 x5_1).f2)], .agg #[.string ((rd_T80 l1 x5_1).f0), .string ((rd_T80 l1 x5_1).f1), .bool ((rd_T80 l1 x5_1).f2)]] (by rfl) rfl rfl au_ ?_
      with_reducible refine (laws_eqDecl.calls ((rd_T80 l0 x5_1).f0) ((rd_T80 l0 x5_1).f1) ((rd_T80 l0 x5_1).f2) ((rd_T80 l1 x5_1).f0) ((rd_T80 l1 x5_1).f1) ((rd_T80 l1 x5_1).f2) false _ A7.out).mono ?_
      rintro e w12 ⟨rfl, hb⟩; refine ⟨_, rfl, ?_⟩
      replace HB := ak_ (below_step bel_ hb); (try clear hb)
      refine hK.out _ _ ⟨(pb_ HB hw412_0), (pb_ HB hw412_1), (pb_ HB hw412_2), (pb_ HB hw413_0), (pb_ HB hw413_1), (pb_ HB hw413_2)⟩ (fun hHeld => ?_)
      clear hK K; refine norm_ (a' := ?_) ?_ ?_
      rotate_left
      ·show Act.put _ (some 25) _ = _
       simp only [Act.put, List.setIfInBounds_toArray, List.set_cons_zero, List.set_cons_succ, i64_w, i32_w]
       rfl
      refine tkp_ 9 (some 26) #[true, true, true, true, true, true, true, true, true, true] (any_of HT_.out (by kernel_rfl)) ?_
      refine done_ (done_of HT_.out (by kernel_rfl)) ?_
      try go_wp2
      go_ret
      exact ⟨er_, bel_⟩
    ·obtain rfl := Option.some.inj H
     go_wp2; go_ret
     exact ⟨er_, bel_⟩
 ·have c3b0 := beq_eq_false_iff_ne.mpr c3; have c3b1 := bne_iff_ne.mpr c3; have c3b2 : (l0.length == l1.length) = false := by first | simpa using c3 | (simp at c3 ⊢; omega)
  obtain rfl := Option.some.inj H
  go_enter Tryz.func47, Tryz.ntmps47
  go_wp2; go_ret
  exact ⟨er_, bel_⟩

/-! ### laws_eqRule: function 20 -/
def laws_eqRule.f (k : Nat) (l0_0 : List (List (S102))) (l0_1 : List (S80)) (l1_0 : List (List (S102))) (l1_1 : List (S80)) : Option (Bool) := (laws_eqPartSS.f k l0_0 l1_0).bind fun t417 => (if t417 = true then ((laws_eqDeclS.f k l0_1 l1_1).bind fun t418 => (if t418 = true then (some true) else (some false))) else (some false))
theorem laws_eqRule.calls (k : Nat) (A0_0 : Option Addr) (c0_0 : Nat) (l0_0 : List (List (S102))) (A0_1 : Option Addr) (c0_1 : Nat) (l0_1 : List (S80)) (A1_0 : Option Addr) (c1_0 : Nat) (l1_0 : List (List (S102))) (A1_1 : Option Addr) (c1_1 : Nat) (l1_1 : List (S80)) (r : Bool) (w : World) (hr0_0 : Kd.C (Kd.slice 102 k102) w A0_0 l0_0.length l0_0) (hc0_0 : l0_0.length ≤ c0_0) (hr0_1 : Kd.C k80 w A0_1 l0_1.length l0_1) (hc0_1 : l0_1.length ≤ c0_1) (hr1_0 : Kd.C (Kd.slice 102 k102) w A1_0 l1_0.length l1_0) (hc1_0 : l1_0.length ≤ c1_0) (hr1_1 : Kd.C k80 w A1_1 l1_1.length l1_1) (hc1_1 : l1_1.length ≤ c1_1) (h : laws_eqRule.f k l0_0 l0_1 l1_0 l1_1 = some r) :
  Calls Tryz.prog 20 #[.agg #[.slice A0_0 l0_0.length c0_0, .slice A0_1 l0_1.length c0_1], .agg #[.slice A1_0 l1_0.length c1_0, .slice A1_1 l1_1.length c1_1]] w fun e w' => e = .returned (.bool r) ∧ Below w.heap.size w w' := by
 have hu50 := Tryz.underlying50; have HR0_0 := ak_ hr0_0; have HC0_0 := ak_ hc0_0; clear hr0_0 hc0_0; have HR0_1 := ak_ hr0_1; have HC0_1 := ak_ hc0_1; clear hr0_1 hc0_1; have HR1_0 := ak_ hr1_0; have HC1_0 := ak_ hc1_0; clear hr1_0 hc1_0; have HR1_1 := ak_ hr1_1; have HC1_1 := ak_ hc1_1; clear hr1_1 hc1_1; have HB := ak_ (Below.refl w.heap.size w); have H := h; unfold laws_eqRule.f at H
 clear h; replace H := bnd_ H; obtain ⟨t417, A3, H⟩ := H; replace H := itb_ H; rcases H with ⟨rfl, H⟩ | ⟨rfl, H⟩
 ·replace H := bnd_ H; obtain ⟨t418, A5, H⟩ := H; replace H := itb_ H; rcases H with ⟨rfl, H⟩ | ⟨rfl, H⟩
  ·obtain rfl := Option.some.inj H
   go_enter Tryz.func20, Tryz.ntmps20
   go_wp2_with (first | ((with_reducible refine gate_dst (N := 2) rfl ?_); refine bx_ (N := 2) (cs := #[.slice A0_0 l0_0.length c0_0, .slice A0_1 l0_1.length c0_1]) (t := 50) ?_; intro gb415 hg w7 hbox hb; have n_ := an4_ (below_step bel_ hb) (hbox) (gsl_ hg HB.out) (gsl_ hg HB.out); clear HB; obtain ⟨HB, BK415, GW415, GE415⟩ := n_; clear hb hbox hg) | ((with_reducible refine gate_dst (N := 3) rfl ?_); refine bx_ (N := 3) (cs := #[.slice A1_0 l1_0.length c1_0, .slice A1_1 l1_1.length c1_1]) (t := 50) ?_; intro gb416 hg w8 hbox hb; have n_ := an7_ (blk_below (g := gb415) (o := .cells #[.slice A0_0 l0_0.length c0_0, .slice A0_1 l0_1.length c0_1] 50 (0, 0)) (bk_ BK415.out) hb) (below_step bes_ hb) (hbox) (gsl_ hg HB.out) (gsl_ hg HB.out) ((by rw [hg]; exact Nat.ne_of_lt (blk_lt (g := gb415) (o := .cells #[.slice A0_0 l0_0.length c0_0, .slice A0_1 l0_1.length c0_1] 50 (0, 0)) (bk_ BK415.out)) : gb415 ≠ gb416)) ((by rw [hg]; exact Nat.ne_of_gt (blk_lt (g := gb415) (o := .cells #[.slice A0_0 l0_0.length c0_0, .slice A0_1 l0_1.length c0_1] 50 (0, 0)) (bk_ BK415.out)) : gb416 ≠ gb415)); clear BK415 HB; obtain ⟨BK415, HB, BK416, GW416, GE416, NB415_416, NB416_415⟩ := n_; clear hb hbox hg; have hnb9 := NB415_416.out; have hnc9 := NB416_415.out; obtain ⟨z10_0, z10_1, y10_0, y10_1⟩ := bcz2 BK415.out; obtain ⟨z11_0, z11_1, y11_0, y11_1⟩ := bcz2 BK416.out) | ((with_reducible refine gate_callee (f := 46) rfl ?_); refine gl_ (some 9) Tryz.func46 #[.slice A0_0 l0_0.length c0_0, .slice A1_0 l1_0.length c1_0] ?_; (with_reducible refine (laws_eqPartSS.calls k _ _ l0_0 _ _ l1_0 true _ ?side1 ?side2 ?side3 ?side4 A3.out).mono ?_); (case side1 => exact cs_ (Kd.C_below HR0_0.out HB.out)); (case side2 => exact HC0_0.out); (case side3 => exact cs_ (Kd.C_below HR1_0.out HB.out)); (case side4 => exact HC1_0.out); rintro e w12 ⟨rfl, hb⟩; refine ⟨_, rfl, ?_⟩; have n_ := an3_ (blk_below (g := gb415) (o := .cells #[.slice A0_0 l0_0.length c0_0, .slice A0_1 l0_1.length c0_1] 50 (0, 0)) (bk_ BK415.out) hb) (blk_below (g := gb416) (o := .cells #[.slice A1_0 l1_0.length c1_0, .slice A1_1 l1_1.length c1_1] 50 (0, 0)) (bk_ BK416.out) hb) (below_step bes_ hb); clear BK415 BK416 HB; obtain ⟨BK415, BK416, HB⟩ := n_; (try clear hb);(try clear hb2);(try clear hk);(try clear hi); obtain ⟨z13_0, z13_1, y13_0, y13_1⟩ := bcz2 BK415.out; obtain ⟨z14_0, z14_1, y14_0, y14_1⟩ := bcz2 BK416.out) | ((with_reducible refine gate_callee (f := 47) rfl ?_); refine gl_ (some 15) Tryz.func47 #[.slice A0_1 l0_1.length c0_1, .slice A1_1 l1_1.length c1_1] ?_; (with_reducible refine (laws_eqDeclS.calls k _ _ l0_1 _ _ l1_1 true _ ?side1 ?side2 ?side3 ?side4 A5.out).mono ?_); (case side1 => exact cs_ (Kd.C_below HR0_1.out HB.out)); (case side2 => exact HC0_1.out); (case side3 => exact cs_ (Kd.C_below HR1_1.out HB.out)); (case side4 => exact HC1_1.out); rintro e w15 ⟨rfl, hb⟩; refine ⟨_, rfl, ?_⟩; have n_ := an3_ (blk_below (g := gb415) (o := .cells #[.slice A0_0 l0_0.length c0_0, .slice A0_1 l0_1.length c0_1] 50 (0, 0)) (bk_ BK415.out) hb) (blk_below (g := gb416) (o := .cells #[.slice A1_0 l1_0.length c1_0, .slice A1_1 l1_1.length c1_1] 50 (0, 0)) (bk_ BK416.out) hb) (below_step bes_ hb); clear BK415 BK416 HB; obtain ⟨BK415, BK416, HB⟩ := n_; (try clear hb);(try clear hb2);(try clear hk);(try clear hi)))
   go_ret
   exact ⟨er_, bes_⟩
  ·obtain rfl := Option.some.inj H
   go_enter Tryz.func20, Tryz.ntmps20
   go_wp2_with (first | ((with_reducible refine gate_dst (N := 2) rfl ?_); refine bx_ (N := 2) (cs := #[.slice A0_0 l0_0.length c0_0, .slice A0_1 l0_1.length c0_1]) (t := 50) ?_; intro gb415 hg w16 hbox hb; have n_ := an4_ (below_step bel_ hb) (hbox) (gsl_ hg HB.out) (gsl_ hg HB.out); clear HB; obtain ⟨HB, BK415, GW415, GE415⟩ := n_; clear hb hbox hg) | ((with_reducible refine gate_dst (N := 3) rfl ?_); refine bx_ (N := 3) (cs := #[.slice A1_0 l1_0.length c1_0, .slice A1_1 l1_1.length c1_1]) (t := 50) ?_; intro gb416 hg w17 hbox hb; have n_ := an7_ (blk_below (g := gb415) (o := .cells #[.slice A0_0 l0_0.length c0_0, .slice A0_1 l0_1.length c0_1] 50 (0, 0)) (bk_ BK415.out) hb) (below_step bes_ hb) (hbox) (gsl_ hg HB.out) (gsl_ hg HB.out) ((by rw [hg]; exact Nat.ne_of_lt (blk_lt (g := gb415) (o := .cells #[.slice A0_0 l0_0.length c0_0, .slice A0_1 l0_1.length c0_1] 50 (0, 0)) (bk_ BK415.out)) : gb415 ≠ gb416)) ((by rw [hg]; exact Nat.ne_of_gt (blk_lt (g := gb415) (o := .cells #[.slice A0_0 l0_0.length c0_0, .slice A0_1 l0_1.length c0_1] 50 (0, 0)) (bk_ BK415.out)) : gb416 ≠ gb415)); clear BK415 HB; obtain ⟨BK415, HB, BK416, GW416, GE416, NB415_416, NB416_415⟩ := n_; clear hb hbox hg; have hnb18 := NB415_416.out; have hnc18 := NB416_415.out; obtain ⟨z19_0, z19_1, y19_0, y19_1⟩ := bcz2 BK415.out; obtain ⟨z20_0, z20_1, y20_0, y20_1⟩ := bcz2 BK416.out) | ((with_reducible refine gate_callee (f := 46) rfl ?_); refine gl_ (some 9) Tryz.func46 #[.slice A0_0 l0_0.length c0_0, .slice A1_0 l1_0.length c1_0] ?_; (with_reducible refine (laws_eqPartSS.calls k _ _ l0_0 _ _ l1_0 true _ ?side1 ?side2 ?side3 ?side4 A3.out).mono ?_); (case side1 => exact cs_ (Kd.C_below HR0_0.out HB.out)); (case side2 => exact HC0_0.out); (case side3 => exact cs_ (Kd.C_below HR1_0.out HB.out)); (case side4 => exact HC1_0.out); rintro e w21 ⟨rfl, hb⟩; refine ⟨_, rfl, ?_⟩; have n_ := an3_ (blk_below (g := gb415) (o := .cells #[.slice A0_0 l0_0.length c0_0, .slice A0_1 l0_1.length c0_1] 50 (0, 0)) (bk_ BK415.out) hb) (blk_below (g := gb416) (o := .cells #[.slice A1_0 l1_0.length c1_0, .slice A1_1 l1_1.length c1_1] 50 (0, 0)) (bk_ BK416.out) hb) (below_step bes_ hb); clear BK415 BK416 HB; obtain ⟨BK415, BK416, HB⟩ := n_; (try clear hb);(try clear hb2);(try clear hk);(try clear hi); obtain ⟨z22_0, z22_1, y22_0, y22_1⟩ := bcz2 BK415.out; obtain ⟨z23_0, z23_1, y23_0, y23_1⟩ := bcz2 BK416.out) | ((with_reducible refine gate_callee (f := 47) rfl ?_); refine gl_ (some 15) Tryz.func47 #[.slice A0_1 l0_1.length c0_1, .slice A1_1 l1_1.length c1_1] ?_; (with_reducible refine (laws_eqDeclS.calls k _ _ l0_1 _ _ l1_1 false _ ?side1 ?side2 ?side3 ?side4 A5.out).mono ?_); (case side1 => exact cs_ (Kd.C_below HR0_1.out HB.out)); (case side2 => exact HC0_1.out); (case side3 => exact cs_ (Kd.C_below HR1_1.out HB.out)); (case side4 => exact HC1_1.out); rintro e w24 ⟨rfl, hb⟩; refine ⟨_, rfl, ?_⟩; have n_ := an3_ (blk_below (g := gb415) (o := .cells #[.slice A0_0 l0_0.length c0_0, .slice A0_1 l0_1.length c0_1] 50 (0, 0)) (bk_ BK415.out) hb) (blk_below (g := gb416) (o := .cells #[.slice A1_0 l1_0.length c1_0, .slice A1_1 l1_1.length c1_1] 50 (0, 0)) (bk_ BK416.out) hb) (below_step bes_ hb); clear BK415 BK416 HB; obtain ⟨BK415, BK416, HB⟩ := n_; (try clear hb);(try clear hb2);(try clear hk);(try clear hi)))
   go_ret
   exact ⟨er_, bes_⟩
 ·obtain rfl := Option.some.inj H
  go_enter Tryz.func20, Tryz.ntmps20
  go_wp2_with (first | ((with_reducible refine gate_dst (N := 2) rfl ?_); refine bx_ (N := 2) (cs := #[.slice A0_0 l0_0.length c0_0, .slice A0_1 l0_1.length c0_1]) (t := 50) ?_; intro gb415 hg w25 hbox hb; have n_ := an4_ (below_step bel_ hb) (hbox) (gsl_ hg HB.out) (gsl_ hg HB.out); clear HB; obtain ⟨HB, BK415, GW415, GE415⟩ := n_; clear hb hbox hg) | ((with_reducible refine gate_dst (N := 3) rfl ?_); refine bx_ (N := 3) (cs := #[.slice A1_0 l1_0.length c1_0, .slice A1_1 l1_1.length c1_1]) (t := 50) ?_; intro gb416 hg w26 hbox hb; have n_ := an7_ (blk_below (g := gb415) (o := .cells #[.slice A0_0 l0_0.length c0_0, .slice A0_1 l0_1.length c0_1] 50 (0, 0)) (bk_ BK415.out) hb) (below_step bes_ hb) (hbox) (gsl_ hg HB.out) (gsl_ hg HB.out) ((by rw [hg]; exact Nat.ne_of_lt (blk_lt (g := gb415) (o := .cells #[.slice A0_0 l0_0.length c0_0, .slice A0_1 l0_1.length c0_1] 50 (0, 0)) (bk_ BK415.out)) : gb415 ≠ gb416)) ((by rw [hg]; exact Nat.ne_of_gt (blk_lt (g := gb415) (o := .cells #[.slice A0_0 l0_0.length c0_0, .slice A0_1 l0_1.length c0_1] 50 (0, 0)) (bk_ BK415.out)) : gb416 ≠ gb415)); clear BK415 HB; obtain ⟨BK415, HB, BK416, GW416, GE416, NB415_416, NB416_415⟩ := n_; clear hb hbox hg; have hnb27 := NB415_416.out; have hnc27 := NB416_415.out; obtain ⟨z28_0, z28_1, y28_0, y28_1⟩ := bcz2 BK415.out; obtain ⟨z29_0, z29_1, y29_0, y29_1⟩ := bcz2 BK416.out) | ((with_reducible refine gate_callee (f := 46) rfl ?_); refine gl_ (some 9) Tryz.func46 #[.slice A0_0 l0_0.length c0_0, .slice A1_0 l1_0.length c1_0] ?_; (with_reducible refine (laws_eqPartSS.calls k _ _ l0_0 _ _ l1_0 false _ ?side1 ?side2 ?side3 ?side4 A3.out).mono ?_); (case side1 => exact cs_ (Kd.C_below HR0_0.out HB.out)); (case side2 => exact HC0_0.out); (case side3 => exact cs_ (Kd.C_below HR1_0.out HB.out)); (case side4 => exact HC1_0.out); rintro e w30 ⟨rfl, hb⟩; refine ⟨_, rfl, ?_⟩; have n_ := an3_ (blk_below (g := gb415) (o := .cells #[.slice A0_0 l0_0.length c0_0, .slice A0_1 l0_1.length c0_1] 50 (0, 0)) (bk_ BK415.out) hb) (blk_below (g := gb416) (o := .cells #[.slice A1_0 l1_0.length c1_0, .slice A1_1 l1_1.length c1_1] 50 (0, 0)) (bk_ BK416.out) hb) (below_step bes_ hb); clear BK415 BK416 HB; obtain ⟨BK415, BK416, HB⟩ := n_; (try clear hb);(try clear hb2);(try clear hk);(try clear hi)))
  go_ret
  exact ⟨er_, bes_⟩

/-! ### laws_eqRuleS: function 8 -/
def laws_eqRuleS.l0 : Nat → List (S50) → List (S50) → Int → Option (Bool)
 | 0, _, _, _ => none
 | k + 1, x0, x1, x5 => if x5 < (x0.length : Int) then (if 0 ≤ x5 then (if x5 < (x1.length : Int) then ((laws_eqRule.f k ((rd_T50 x0 x5).f0) ((rd_T50 x0 x5).f1) ((rd_T50 x1 x5).f0) ((rd_T50 x1 x5).f1)).bind fun t421 => (if t421 = true then (laws_eqRuleS.l0 k x0 x1 (wrap64 (x5 + 1))) else (some false))) else (none)) else (none)) else (some true)
def laws_eqRuleS.f (k : Nat) (l0 : List (S50)) (l1 : List (S50)) : Option (Bool) := if (l0.length : Int) = (l1.length : Int) then (laws_eqRuleS.l0 k l0 l1 0) else (some false)
def laws_eqRuleS.T6 : Bool × List (List Nat × List Nat) := (true, [([], []), ([], []), ([0, 1], [0, 1]), ([2], [2]), ([], []), ([], []), ([4, 5], [4, 5]), ([6], [6]), ([3, 7], [3, 7]), ([8], [8])])
def laws_eqRuleS.B6 : List Nat := [0, 0, 3, 7, 0, 0, 48, 112, 255, 511]
theorem laws_eqRuleS.tab6 : rtab .any (opsOf Tryz.f8 6) = laws_eqRuleS.T6 := by kernel_rfl
theorem laws_eqRuleS.bits6 : waitsOk laws_eqRuleS.T6.2 laws_eqRuleS.B6 = true := by kernel_rfl
theorem laws_eqRuleS.calls (k : Nat) (A0 : Option Addr) (c0 : Nat) (l0 : List (S50)) (A1 : Option Addr) (c1 : Nat) (l1 : List (S50)) (r : Bool) (w : World) (hr0 : Kd.C k50 w A0 l0.length l0) (hc0 : l0.length ≤ c0) (hr1 : Kd.C k50 w A1 l1.length l1) (hc1 : l1.length ≤ c1) (h : laws_eqRuleS.f k l0 l1 = some r) :
  Calls Tryz.prog 8 #[.slice A0 l0.length c0, .slice A1 l1.length c1] w fun e w' => e = .returned (.bool r) ∧ Below w.heap.size w w' := by
 have hu50 := Tryz.underlying50; have HR0 := ak_ hr0; have HC0 := ak_ hc0; clear hr0 hc0; have HR1 := ak_ hr1; have HC1 := ak_ hc1; clear hr1 hc1; have HB := ak_ (Below.refl w.heap.size w); have H := h; unfold laws_eqRuleS.f at H
 clear h; replace H := ite_ H; rcases H with ⟨c3, H⟩ | ⟨c3, H⟩
 ·have c3b0 := beq_iff_eq.mpr c3; have c3b1 := bne_eq_false_iff_eq.mpr c3; have c3b2 : (l0.length == l1.length) = true := by first | simpa using c3 | (simp at c3 ⊢; omega)
  clear c3; have H' := ak_ H; clear H; go_enter Tryz.func8, Tryz.ntmps8
  go_wp2; go_loopg [5] k (fun kq v5 w' => ∃ (x5_1 : Int), v5 = .int .i64 x5_1 ∧ Aside0 (laws_eqRuleS.l0 kq l0 l1 x5_1 = some r) ∧ Aside0 (kq ≤ k) ∧ Aside0 (Below w.heap.size w w'))
  case atStart => exact ⟨(0), sv_, H', ⟨Nat.le_refl _⟩, ⟨bel_⟩⟩
  case round =>
   clear H'; (try clear c1);(try clear c3b0);(try clear c3b1);(try clear c3b2)
   obtain ⟨x5_1, rfl, HA, HK1, HB⟩ := hrel; cases gk with
   | zero => exact absurd HA.out (by simp [laws_eqRuleS.l0])
   | succ k1 =>
    have H := HA.out; clear HA; simp only [laws_eqRuleS.l0] at H
    replace H := ied_ H; rcases H with ⟨c4b0, H⟩ | ⟨c4b0, H⟩
    ·replace H := itd_ H; obtain ⟨c5b0, H⟩ := H; replace H := itd_ H; obtain ⟨c6b0, H⟩ := H; replace H := bnd_ H; obtain ⟨t421, A7, H⟩ := H; replace H := itb_ H; rcases H with ⟨rfl, H⟩ | ⟨rfl, H⟩
     ·have H' := ak_ H; clear H; try go_wp2
      replace HB := ak_ (below_drew1 HB.out); have p419 : (0 ≤ (x5_1 : Int)) = True := odt_
      have q419 : (x5_1 < (l0.length : Int)) = True := odt_
      obtain ⟨ad419, A419_0, c419_0, A419_1, c419_1, e419, hx419_0, hx419_1, hl419_0, hi419_0, hl419_1, hi419_1⟩ := at_T50 HR0.out x5_1 oda_ oda_; have hw419_1 := hx419_1; have hw419_0 := hx419_0; cases e419; replace hx419_0 := pb_ HB hx419_0; replace hx419_1 := pb_ HB hx419_1; have HR419_0 := ak_ hi419_0; have HC419_0 := ak_ hl419_0; clear hi419_0 hl419_0; have HR419_1 := ak_ hi419_1; have HC419_1 := ak_ hl419_1; clear hi419_1 hl419_1; have p420 : (0 ≤ (x5_1 : Int)) = True := odt_
      have q420 : (x5_1 < (l1.length : Int)) = True := odt_
      obtain ⟨ad420, A420_0, c420_0, A420_1, c420_1, e420, hx420_0, hx420_1, hl420_0, hi420_0, hl420_1, hi420_1⟩ := at_T50 HR1.out x5_1 oda_ oda_; have hw420_1 := hx420_1; have hw420_0 := hx420_0; cases e420; replace hx420_0 := pb_ HB hx420_0; replace hx420_1 := pb_ HB hx420_1; have HR420_0 := ak_ hi420_0; have HC420_0 := ak_ hl420_0; clear hi420_0 hl420_0; have HR420_1 := ak_ hi420_1; have HC420_1 := ak_ hl420_1; clear hi420_1 hl420_1; refine start_ (n := 10) (S := fun w' => w'.cell? (ad419.add ((x5_1).toNat * 2)) = some (.slice A419_0 ((rd_T50 l0 x5_1).f0).length c419_0) ∧ w'.cell? ⟨(ad419.add ((x5_1).toNat * 2)).block, (ad419.add ((x5_1).toNat * 2)).off + 1, none⟩ = some (.slice A419_1 ((rd_T50 l0 x5_1).f1).length c419_1) ∧ w'.cell? (ad420.add ((x5_1).toNat * 2)) = some (.slice A420_0 ((rd_T50 l1 x5_1).f0).length c420_0) ∧ w'.cell? ⟨(ad420.add ((x5_1).toNat * 2)).block, (ad420.add ((x5_1).toNat * 2)).off + 1, none⟩ = some (.slice A420_1 ((rd_T50 l1 x5_1).f1).length c420_1)) (ds := []) #[false, false, false, false, false, false, false, false, false, false] (by kernel_rfl) rfl rfl ⟨(pb_ HB hw419_0), (pb_ HB hw419_1), (pb_ HB hw420_0), (pb_ HB hw420_1)⟩ (fun hHeld => ?_); refine with_tabW laws_eqRuleS.tab6 laws_eqRuleS.bits6 (fun HT_ HW_ => ?_)
      generalize wr.drew = w9 at HB HR419_0 HR419_1 HR420_0 HR420_1 hx419_0 hx419_1 hx420_0 hx420_1 hHeld ⊢
      refine tkp_ 0 (some 17) #[true, false, false, false, false, false, false, false, false, false] (any_of HT_.out (by kernel_rfl)) ?_
      refine tkp_ 1 (some 18) #[true, true, false, false, false, false, false, false, false, false] (any_of HT_.out (by kernel_rfl)) ?_
      refine tkp_ 2 (some 19) #[true, true, true, false, false, false, false, false, false, false] (any_of HT_.out (by kernel_rfl)) ?_
      refine tkp_ 4 (some 21) #[true, true, true, false, true, false, false, false, false, false] (any_of HT_.out (by kernel_rfl)) ?_
      refine tkp_ 5 (some 22) #[true, true, true, false, true, true, false, false, false, false] (any_of HT_.out (by kernel_rfl)) ?_
      refine tkp_ 6 (some 23) #[true, true, true, false, true, true, true, false, false, false] (any_of HT_.out (by kernel_rfl)) ?_
      refine tkt_ 3 (some 20) #[true, true, true, true, true, true, true, false, false, false] (take_ofW HT_.out HW_.out (by kernel_rfl)) hHeld ?_
      refine tkt_ 7 (some 24) #[true, true, true, true, true, true, true, true, false, false] (take_ofW HT_.out HW_.out (by kernel_rfl)) hHeld ?_
      refine one_ (i := 8) (N := some 25) #[true, true, true, true, true, true, true, true, true, false] rfl rfl (one_of HT_.out (by kernel_rfl)) (by decide) (fun K hK => ?_)
      refine goes_ Tryz.func20 (by kernel_rfl) rfl #[.agg #[.slice A419_0 ((rd_T50 l0 x5_1).f0).length c419_0, .slice A419_1 ((rd_T50 l0 x5_1).f1).length c419_1], .agg #[.slice A420_0 ((rd_T50 l1 x5_1).f0).length c420_0, .slice A420_1 ((rd_T50 l1 x5_1).f1).length c420_1]] (by rfl) rfl rfl au_ ?_
      with_reducible refine (laws_eqRule.calls k1 _ _ ((rd_T50 l0 x5_1).f0) _ _ ((rd_T50 l0 x5_1).f1) _ _ ((rd_T50 l1 x5_1).f0) _ _ ((rd_T50 l1 x5_1).f1) true _ ?side1 ?side2 ?side3 ?side4 ?side5 ?side6 ?side7 ?side8 A7.out).mono ?_
      (case side1 => exact cs_ (Kd.C_below HR419_0.out HB.out))
      (case side2 => exact HC419_0.out)
      (case side3 => exact cs_ (Kd.C_below HR419_1.out HB.out))
      (case side4 => exact HC419_1.out)
      (case side5 => exact cs_ (Kd.C_below HR420_0.out HB.out))
      (case side6 => exact HC420_0.out)
      (case side7 => exact cs_ (Kd.C_below HR420_1.out HB.out))
      (case side8 => exact HC420_1.out)
      rintro e w10 ⟨rfl, hb⟩; refine ⟨_, rfl, ?_⟩
      replace HB := ak_ (below_step bel_ hb); (try clear hb)
      refine hK.out _ _ ⟨(pb_ HB hw419_0), (pb_ HB hw419_1), (pb_ HB hw420_0), (pb_ HB hw420_1)⟩ (fun hHeld => ?_)
      clear hK K; refine norm_ (a' := ?_) ?_ ?_
      rotate_left
      ·show Act.put _ (some 25) _ = _
       simp only [Act.put, List.setIfInBounds_toArray, List.set_cons_zero, List.set_cons_succ, i64_w, i32_w]
       rfl
      refine tkp_ 9 (some 26) #[true, true, true, true, true, true, true, true, true, true] (any_of HT_.out (by kernel_rfl)) ?_
      refine done_ (done_of HT_.out (by kernel_rfl)) ?_
      try go_wp2
      go_roundg k1
      case measure => have := HK1.out; omega
      case rel => exact ⟨(wrap64 (x5_1 + 1)), sv_, H', ⟨by have := HK1.out; omega⟩, ⟨bel_⟩⟩
     ·obtain rfl := Option.some.inj H
      try go_wp2
      replace HB := ak_ (below_drew1 HB.out); have p419 : (0 ≤ (x5_1 : Int)) = True := odt_
      have q419 : (x5_1 < (l0.length : Int)) = True := odt_
      obtain ⟨ad419, A419_0, c419_0, A419_1, c419_1, e419, hx419_0, hx419_1, hl419_0, hi419_0, hl419_1, hi419_1⟩ := at_T50 HR0.out x5_1 oda_ oda_; have hw419_1 := hx419_1; have hw419_0 := hx419_0; cases e419; replace hx419_0 := pb_ HB hx419_0; replace hx419_1 := pb_ HB hx419_1; have HR419_0 := ak_ hi419_0; have HC419_0 := ak_ hl419_0; clear hi419_0 hl419_0; have HR419_1 := ak_ hi419_1; have HC419_1 := ak_ hl419_1; clear hi419_1 hl419_1; have p420 : (0 ≤ (x5_1 : Int)) = True := odt_
      have q420 : (x5_1 < (l1.length : Int)) = True := odt_
      obtain ⟨ad420, A420_0, c420_0, A420_1, c420_1, e420, hx420_0, hx420_1, hl420_0, hi420_0, hl420_1, hi420_1⟩ := at_T50 HR1.out x5_1 oda_ oda_; have hw420_1 := hx420_1; have hw420_0 := hx420_0; cases e420; replace hx420_0 := pb_ HB hx420_0; replace hx420_1 := pb_ HB hx420_1; have HR420_0 := ak_ hi420_0; have HC420_0 := ak_ hl420_0; clear hi420_0 hl420_0; have HR420_1 := ak_ hi420_1; have HC420_1 := ak_ hl420_1; clear hi420_1 hl420_1; refine start_ (n := 10) (S := fun w' => w'.cell? (ad419.add ((x5_1).toNat * 2)) = some (.slice A419_0 ((rd_T50 l0 x5_1).f0).length c419_0) ∧ w'.cell? ⟨(ad419.add ((x5_1).toNat * 2)).block, (ad419.add ((x5_1).toNat * 2)).off + 1, none⟩ = some (.slice A419_1 ((rd_T50 l0 x5_1).f1).length c419_1) ∧ w'.cell? (ad420.add ((x5_1).toNat * 2)) = some (.slice A420_0 ((rd_T50 l1 x5_1).f0).length c420_0) ∧ w'.cell? ⟨(ad420.add ((x5_1).toNat * 2)).block, (ad420.add ((x5_1).toNat * 2)).off + 1, none⟩ = some (.slice A420_1 ((rd_T50 l1 x5_1).f1).length c420_1)) (ds := []) #[false, false, false, false, false, false, false, false, false, false] (by kernel_rfl) rfl rfl ⟨(pb_ HB hw419_0), (pb_ HB hw419_1), (pb_ HB hw420_0), (pb_ HB hw420_1)⟩ (fun hHeld => ?_); refine with_tabW laws_eqRuleS.tab6 laws_eqRuleS.bits6 (fun HT_ HW_ => ?_)
      generalize wr.drew = w11 at HB HR419_0 HR419_1 HR420_0 HR420_1 hx419_0 hx419_1 hx420_0 hx420_1 hHeld ⊢
      refine tkp_ 0 (some 17) #[true, false, false, false, false, false, false, false, false, false] (any_of HT_.out (by kernel_rfl)) ?_
      refine tkp_ 1 (some 18) #[true, true, false, false, false, false, false, false, false, false] (any_of HT_.out (by kernel_rfl)) ?_
      refine tkp_ 2 (some 19) #[true, true, true, false, false, false, false, false, false, false] (any_of HT_.out (by kernel_rfl)) ?_
      refine tkp_ 4 (some 21) #[true, true, true, false, true, false, false, false, false, false] (any_of HT_.out (by kernel_rfl)) ?_
      refine tkp_ 5 (some 22) #[true, true, true, false, true, true, false, false, false, false] (any_of HT_.out (by kernel_rfl)) ?_
      refine tkp_ 6 (some 23) #[true, true, true, false, true, true, true, false, false, false] (any_of HT_.out (by kernel_rfl)) ?_
      refine tkt_ 3 (some 20) #[true, true, true, true, true, true, true, false, false, false] (take_ofW HT_.out HW_.out (by kernel_rfl)) hHeld ?_
      refine tkt_ 7 (some 24) #[true, true, true, true, true, true, true, true, false, false] (take_ofW HT_.out HW_.out (by kernel_rfl)) hHeld ?_
      refine one_ (i := 8) (N := some 25) #[true, true, true, true, true, true, true, true, true, false] rfl rfl (one_of HT_.out (by kernel_rfl)) (by decide) (fun K hK => ?_)
      refine goes_ Tryz.func20 (by kernel_rfl) rfl #[.agg #[.slice A419_0 ((rd_T50 l0 x5_1).f0).length c419_0, .slice A419_1 ((rd_T50 l0 x5_1).f1).length c419_1], .agg #[.slice A420_0 ((rd_T50 l1 x5_1).f0).length c420_0, .slice A420_1 ((rd_T50 l1 x5_1).f1).length c420_1]] (by rfl) rfl rfl au_ ?_
      with_reducible refine (laws_eqRule.calls k1 _ _ ((rd_T50 l0 x5_1).f0) _ _ ((rd_T50 l0 x5_1).f1) _ _ ((rd_T50 l1 x5_1).f0) _ _ ((rd_T50 l1 x5_1).f1) false _ ?side1 ?side2 ?side3 ?side4 ?side5 ?side6 ?side7 ?side8 A7.out).mono ?_
      (case side1 => exact cs_ (Kd.C_below HR419_0.out HB.out))
      (case side2 => exact HC419_0.out)
      (case side3 => exact cs_ (Kd.C_below HR419_1.out HB.out))
      (case side4 => exact HC419_1.out)
      (case side5 => exact cs_ (Kd.C_below HR420_0.out HB.out))
      (case side6 => exact HC420_0.out)
      (case side7 => exact cs_ (Kd.C_below HR420_1.out HB.out))
      (case side8 => exact HC420_1.out)
      rintro e w12 ⟨rfl, hb⟩; refine ⟨_, rfl, ?_⟩
      replace HB := ak_ (below_step bel_ hb); (try clear hb)
      refine hK.out _ _ ⟨(pb_ HB hw419_0), (pb_ HB hw419_1), (pb_ HB hw420_0), (pb_ HB hw420_1)⟩ (fun hHeld => ?_)
      clear hK K; refine norm_ (a' := ?_) ?_ ?_
      rotate_left
      ·show Act.put _ (some 25) _ = _
       simp only [Act.put, List.setIfInBounds_toArray, List.set_cons_zero, List.set_cons_succ, i64_w, i32_w]
       rfl
      refine tkp_ 9 (some 26) #[true, true, true, true, true, true, true, true, true, true] (any_of HT_.out (by kernel_rfl)) ?_
      refine done_ (done_of HT_.out (by kernel_rfl)) ?_
      try go_wp2
      go_ret
      exact ⟨er_, bel_⟩
    ·obtain rfl := Option.some.inj H
     go_wp2; go_ret
     exact ⟨er_, bel_⟩
 ·have c3b0 := beq_eq_false_iff_ne.mpr c3; have c3b1 := bne_iff_ne.mpr c3; have c3b2 : (l0.length == l1.length) = false := by first | simpa using c3 | (simp at c3 ⊢; omega)
  obtain rfl := Option.some.inj H
  go_enter Tryz.func8, Tryz.ntmps8
  go_wp2; go_ret
  exact ⟨er_, bel_⟩

/-! ### laws_eqAttr: function 67 -/
def laws_eqAttr.f (a0_0 : ByteArray) (a0_1 : ByteArray) (a1_0 : ByteArray) (a1_1 : ByteArray) : Option (Bool) := if a0_0.toList = a1_0.toList then (if a0_1.toList = a1_1.toList then (some true) else (some false)) else (some false)
theorem laws_eqAttr.calls (a0_0 : ByteArray) (a0_1 : ByteArray) (a1_0 : ByteArray) (a1_1 : ByteArray) (r : Bool) (w : World) (h : laws_eqAttr.f a0_0 a0_1 a1_0 a1_1 = some r) :
  Calls Tryz.prog 67 #[.agg #[.string a0_0, .string a0_1], .agg #[.string a1_0, .string a1_1]] w fun e w' => e = .returned (.bool r) ∧ Below w.heap.size w w' := by
 have hu76 := Tryz.underlying76; have HB := ak_ (Below.refl w.heap.size w); have H := h; unfold laws_eqAttr.f at H
 clear h; replace H := ite_ H; rcases H with ⟨c3, H⟩ | ⟨c3, H⟩
 ·have c3b0 := beq_iff_eq.mpr c3; have c3b1 := bne_eq_false_iff_eq.mpr c3; clear c3; replace H := ite_ H; rcases H with ⟨c4, H⟩ | ⟨c4, H⟩
  ·have c4b0 := beq_iff_eq.mpr c4; have c4b1 := bne_eq_false_iff_eq.mpr c4; clear c4; obtain rfl := Option.some.inj H
   go_enter Tryz.func67, Tryz.ntmps67
   go_wp2_with (first | ((with_reducible refine gate_dst (N := 2) rfl ?_); refine bx_ (N := 2) (cs := #[.string a0_0, .string a0_1]) (t := 76) ?_; intro gb422 hg w5 hbox hb; have n_ := an4_ (below_step bel_ hb) (hbox) (gsl_ hg HB.out) (gsl_ hg HB.out); clear HB; obtain ⟨HB, BK422, GW422, GE422⟩ := n_; clear hb hbox hg) | ((with_reducible refine gate_dst (N := 3) rfl ?_); refine bx_ (N := 3) (cs := #[.string a1_0, .string a1_1]) (t := 76) ?_; intro gb423 hg w6 hbox hb; have n_ := an7_ (blk_below (g := gb422) (o := .cells #[.string a0_0, .string a0_1] 76 (0, 0)) (bk_ BK422.out) hb) (below_step bes_ hb) (hbox) (gsl_ hg HB.out) (gsl_ hg HB.out) ((by rw [hg]; exact Nat.ne_of_lt (blk_lt (g := gb422) (o := .cells #[.string a0_0, .string a0_1] 76 (0, 0)) (bk_ BK422.out)) : gb422 ≠ gb423)) ((by rw [hg]; exact Nat.ne_of_gt (blk_lt (g := gb422) (o := .cells #[.string a0_0, .string a0_1] 76 (0, 0)) (bk_ BK422.out)) : gb423 ≠ gb422)); clear BK422 HB; obtain ⟨BK422, HB, BK423, GW423, GE423, NB422_423, NB423_422⟩ := n_; clear hb hbox hg; have hnb7 := NB422_423.out; have hnc7 := NB423_422.out; obtain ⟨z8_0, z8_1, y8_0, y8_1⟩ := bcz2 BK422.out; obtain ⟨z9_0, z9_1, y9_0, y9_1⟩ := bcz2 BK423.out))
   go_ret
   exact ⟨er_, bes_⟩
  ·have c4b0 := beq_eq_false_iff_ne.mpr c4; have c4b1 := bne_iff_ne.mpr c4; obtain rfl := Option.some.inj H
   go_enter Tryz.func67, Tryz.ntmps67
   go_wp2_with (first | ((with_reducible refine gate_dst (N := 2) rfl ?_); refine bx_ (N := 2) (cs := #[.string a0_0, .string a0_1]) (t := 76) ?_; intro gb422 hg w10 hbox hb; have n_ := an4_ (below_step bel_ hb) (hbox) (gsl_ hg HB.out) (gsl_ hg HB.out); clear HB; obtain ⟨HB, BK422, GW422, GE422⟩ := n_; clear hb hbox hg) | ((with_reducible refine gate_dst (N := 3) rfl ?_); refine bx_ (N := 3) (cs := #[.string a1_0, .string a1_1]) (t := 76) ?_; intro gb423 hg w11 hbox hb; have n_ := an7_ (blk_below (g := gb422) (o := .cells #[.string a0_0, .string a0_1] 76 (0, 0)) (bk_ BK422.out) hb) (below_step bes_ hb) (hbox) (gsl_ hg HB.out) (gsl_ hg HB.out) ((by rw [hg]; exact Nat.ne_of_lt (blk_lt (g := gb422) (o := .cells #[.string a0_0, .string a0_1] 76 (0, 0)) (bk_ BK422.out)) : gb422 ≠ gb423)) ((by rw [hg]; exact Nat.ne_of_gt (blk_lt (g := gb422) (o := .cells #[.string a0_0, .string a0_1] 76 (0, 0)) (bk_ BK422.out)) : gb423 ≠ gb422)); clear BK422 HB; obtain ⟨BK422, HB, BK423, GW423, GE423, NB422_423, NB423_422⟩ := n_; clear hb hbox hg; have hnb12 := NB422_423.out; have hnc12 := NB423_422.out; obtain ⟨z13_0, z13_1, y13_0, y13_1⟩ := bcz2 BK422.out; obtain ⟨z14_0, z14_1, y14_0, y14_1⟩ := bcz2 BK423.out))
   go_ret
   exact ⟨er_, bes_⟩
 ·have c3b0 := beq_eq_false_iff_ne.mpr c3; have c3b1 := bne_iff_ne.mpr c3; obtain rfl := Option.some.inj H
  go_enter Tryz.func67, Tryz.ntmps67
  go_wp2_with (first | ((with_reducible refine gate_dst (N := 2) rfl ?_); refine bx_ (N := 2) (cs := #[.string a0_0, .string a0_1]) (t := 76) ?_; intro gb422 hg w15 hbox hb; have n_ := an4_ (below_step bel_ hb) (hbox) (gsl_ hg HB.out) (gsl_ hg HB.out); clear HB; obtain ⟨HB, BK422, GW422, GE422⟩ := n_; clear hb hbox hg) | ((with_reducible refine gate_dst (N := 3) rfl ?_); refine bx_ (N := 3) (cs := #[.string a1_0, .string a1_1]) (t := 76) ?_; intro gb423 hg w16 hbox hb; have n_ := an7_ (blk_below (g := gb422) (o := .cells #[.string a0_0, .string a0_1] 76 (0, 0)) (bk_ BK422.out) hb) (below_step bes_ hb) (hbox) (gsl_ hg HB.out) (gsl_ hg HB.out) ((by rw [hg]; exact Nat.ne_of_lt (blk_lt (g := gb422) (o := .cells #[.string a0_0, .string a0_1] 76 (0, 0)) (bk_ BK422.out)) : gb422 ≠ gb423)) ((by rw [hg]; exact Nat.ne_of_gt (blk_lt (g := gb422) (o := .cells #[.string a0_0, .string a0_1] 76 (0, 0)) (bk_ BK422.out)) : gb423 ≠ gb422)); clear BK422 HB; obtain ⟨BK422, HB, BK423, GW423, GE423, NB422_423, NB423_422⟩ := n_; clear hb hbox hg; have hnb17 := NB422_423.out; have hnc17 := NB423_422.out; obtain ⟨z18_0, z18_1, y18_0, y18_1⟩ := bcz2 BK422.out; obtain ⟨z19_0, z19_1, y19_0, y19_1⟩ := bcz2 BK423.out))
  go_ret
  exact ⟨er_, bes_⟩

/-! ### laws_eqAttrS: function 48 -/
def laws_eqAttrS.l0 : Nat → List (S76) → List (S76) → Int → Option (Bool)
 | 0, _, _, _ => none
 | k + 1, x0, x1, x5 => if x5 < (x0.length : Int) then (if 0 ≤ x5 then (if x5 < (x1.length : Int) then ((laws_eqAttr.f ((rd_T76 x0 x5).f0) ((rd_T76 x0 x5).f1) ((rd_T76 x1 x5).f0) ((rd_T76 x1 x5).f1)).bind fun t426 => (if t426 = true then (laws_eqAttrS.l0 k x0 x1 (wrap64 (x5 + 1))) else (some false))) else (none)) else (none)) else (some true)
def laws_eqAttrS.f (k : Nat) (l0 : List (S76)) (l1 : List (S76)) : Option (Bool) := if (l0.length : Int) = (l1.length : Int) then (laws_eqAttrS.l0 k l0 l1 0) else (some false)
def laws_eqAttrS.T6 : Bool × List (List Nat × List Nat) := (true, [([], []), ([], []), ([0, 1], [0, 1]), ([2], [2]), ([], []), ([], []), ([4, 5], [4, 5]), ([6], [6]), ([3, 7], [3, 7]), ([8], [8])])
def laws_eqAttrS.B6 : List Nat := [0, 0, 3, 7, 0, 0, 48, 112, 255, 511]
theorem laws_eqAttrS.tab6 : rtab .any (opsOf Tryz.f48 6) = laws_eqAttrS.T6 := by kernel_rfl
theorem laws_eqAttrS.bits6 : waitsOk laws_eqAttrS.T6.2 laws_eqAttrS.B6 = true := by kernel_rfl
theorem laws_eqAttrS.calls (k : Nat) (A0 : Option Addr) (c0 : Nat) (l0 : List (S76)) (A1 : Option Addr) (c1 : Nat) (l1 : List (S76)) (r : Bool) (w : World) (hr0 : Kd.C k76 w A0 l0.length l0) (hc0 : l0.length ≤ c0) (hr1 : Kd.C k76 w A1 l1.length l1) (hc1 : l1.length ≤ c1) (h : laws_eqAttrS.f k l0 l1 = some r) :
  Calls Tryz.prog 48 #[.slice A0 l0.length c0, .slice A1 l1.length c1] w fun e w' => e = .returned (.bool r) ∧ Below w.heap.size w w' := by
 have hu76 := Tryz.underlying76; have HR0 := ak_ hr0; have HC0 := ak_ hc0; clear hr0 hc0; have HR1 := ak_ hr1; have HC1 := ak_ hc1; clear hr1 hc1; have HB := ak_ (Below.refl w.heap.size w); have H := h; unfold laws_eqAttrS.f at H
 clear h; replace H := ite_ H; rcases H with ⟨c3, H⟩ | ⟨c3, H⟩
 ·have c3b0 := beq_iff_eq.mpr c3; have c3b1 := bne_eq_false_iff_eq.mpr c3; have c3b2 : (l0.length == l1.length) = true := by first | simpa using c3 | (simp at c3 ⊢; omega)
  clear c3; have H' := ak_ H; clear H; go_enter Tryz.func48, Tryz.ntmps48
  go_wp2; go_loopg [5] k (fun kq v5 w' => ∃ (x5_1 : Int), v5 = .int .i64 x5_1 ∧ Aside0 (laws_eqAttrS.l0 kq l0 l1 x5_1 = some r) ∧ Aside0 (kq ≤ k) ∧ Aside0 (Below w.heap.size w w'))
  case atStart => exact ⟨(0), sv_, H', ⟨Nat.le_refl _⟩, ⟨bel_⟩⟩
  case round =>
   clear H'; (try clear c1);(try clear c3b0);(try clear c3b1);(try clear c3b2)
   obtain ⟨x5_1, rfl, HA, HK1, HB⟩ := hrel; cases gk with
   | zero => exact absurd HA.out (by simp [laws_eqAttrS.l0])
   | succ k1 =>
    have H := HA.out; clear HA; simp only [laws_eqAttrS.l0] at H
    replace H := ied_ H; rcases H with ⟨c4b0, H⟩ | ⟨c4b0, H⟩
    ·replace H := itd_ H; obtain ⟨c5b0, H⟩ := H; replace H := itd_ H; obtain ⟨c6b0, H⟩ := H; replace H := bnd_ H; obtain ⟨t426, A7, H⟩ := H; replace H := itb_ H; rcases H with ⟨rfl, H⟩ | ⟨rfl, H⟩
     ·have H' := ak_ H; clear H; try go_wp2
      replace HB := ak_ (below_drew1 HB.out); have p424 : (0 ≤ (x5_1 : Int)) = True := odt_
      have q424 : (x5_1 < (l0.length : Int)) = True := odt_
      obtain ⟨ad424, e424, hx424_0, hx424_1⟩ := at_T76 HR0.out x5_1 oda_ oda_; have hw424_1 := hx424_1; have hw424_0 := hx424_0; cases e424; replace hx424_0 := pb_ HB hx424_0; replace hx424_1 := pb_ HB hx424_1; have p425 : (0 ≤ (x5_1 : Int)) = True := odt_
      have q425 : (x5_1 < (l1.length : Int)) = True := odt_
      obtain ⟨ad425, e425, hx425_0, hx425_1⟩ := at_T76 HR1.out x5_1 oda_ oda_; have hw425_1 := hx425_1; have hw425_0 := hx425_0; cases e425; replace hx425_0 := pb_ HB hx425_0; replace hx425_1 := pb_ HB hx425_1; refine start_ (n := 10) (S := fun w' => w'.cell? (ad424.add ((x5_1).toNat * 2)) = some (.string ((rd_T76 l0 x5_1).f0)) ∧ w'.cell? ⟨(ad424.add ((x5_1).toNat * 2)).block, (ad424.add ((x5_1).toNat * 2)).off + 1, none⟩ = some (.string ((rd_T76 l0 x5_1).f1)) ∧ w'.cell? (ad425.add ((x5_1).toNat * 2)) = some (.string ((rd_T76 l1 x5_1).f0)) ∧ w'.cell? ⟨(ad425.add ((x5_1).toNat * 2)).block, (ad425.add ((x5_1).toNat * 2)).off + 1, none⟩ = some (.string ((rd_T76 l1 x5_1).f1))) (ds := []) #[false, false, false, false, false, false, false, false, false, false] (by kernel_rfl) rfl rfl ⟨(pb_ HB hw424_0), (pb_ HB hw424_1), (pb_ HB hw425_0), (pb_ HB hw425_1)⟩ (fun hHeld => ?_); refine with_tabW laws_eqAttrS.tab6 laws_eqAttrS.bits6 (fun HT_ HW_ => ?_)
      generalize wr.drew = w9 at HB hx424_0 hx424_1 hx425_0 hx425_1 hHeld ⊢
      refine tkp_ 0 (some 17) #[true, false, false, false, false, false, false, false, false, false] (any_of HT_.out (by kernel_rfl)) ?_
      refine tkp_ 1 (some 18) #[true, true, false, false, false, false, false, false, false, false] (any_of HT_.out (by kernel_rfl)) ?_
      refine tkp_ 2 (some 19) #[true, true, true, false, false, false, false, false, false, false] (any_of HT_.out (by kernel_rfl)) ?_
      refine tkp_ 4 (some 21) #[true, true, true, false, true, false, false, false, false, false] (any_of HT_.out (by kernel_rfl)) ?_
      refine tkp_ 5 (some 22) #[true, true, true, false, true, true, false, false, false, false] (any_of HT_.out (by kernel_rfl)) ?_
      refine tkp_ 6 (some 23) #[true, true, true, false, true, true, true, false, false, false] (any_of HT_.out (by kernel_rfl)) ?_
      refine tkt_ 3 (some 20) #[true, true, true, true, true, true, true, false, false, false] (take_ofW HT_.out HW_.out (by kernel_rfl)) hHeld ?_
      refine tkt_ 7 (some 24) #[true, true, true, true, true, true, true, true, false, false] (take_ofW HT_.out HW_.out (by kernel_rfl)) hHeld ?_
      refine one_ (i := 8) (N := some 25) #[true, true, true, true, true, true, true, true, true, false] rfl rfl (one_of HT_.out (by kernel_rfl)) (by decide) (fun K hK => ?_)
      refine goes_ Tryz.func67 (by kernel_rfl) rfl #[.agg #[.string ((rd_T76 l0 x5_1).f0), .string ((rd_T76 l0 x5_1).f1)], .agg #[.string ((rd_T76 l1 x5_1).f0), .string ((rd_T76 l1 x5_1).f1)]] (by rfl) rfl rfl au_ ?_
      with_reducible refine (laws_eqAttr.calls ((rd_T76 l0 x5_1).f0) ((rd_T76 l0 x5_1).f1) ((rd_T76 l1 x5_1).f0) ((rd_T76 l1 x5_1).f1) true _ A7.out).mono ?_
      rintro e w10 ⟨rfl, hb⟩; refine ⟨_, rfl, ?_⟩
      replace HB := ak_ (below_step bel_ hb); (try clear hb)
      refine hK.out _ _ ⟨(pb_ HB hw424_0), (pb_ HB hw424_1), (pb_ HB hw425_0), (pb_ HB hw425_1)⟩ (fun hHeld => ?_)
      clear hK K; refine norm_ (a' := ?_) ?_ ?_
      rotate_left
      ·show Act.put _ (some 25) _ = _
       simp only [Act.put, List.setIfInBounds_toArray, List.set_cons_zero, List.set_cons_succ, i64_w, i32_w]
       rfl
      refine tkp_ 9 (some 26) #[true, true, true, true, true, true, true, true, true, true] (any_of HT_.out (by kernel_rfl)) ?_
      refine done_ (done_of HT_.out (by kernel_rfl)) ?_
      try go_wp2
      go_roundg k1
      case measure => have := HK1.out; omega
      case rel => exact ⟨(wrap64 (x5_1 + 1)), sv_, H', ⟨by have := HK1.out; omega⟩, ⟨bel_⟩⟩
     ·obtain rfl := Option.some.inj H
      try go_wp2
      replace HB := ak_ (below_drew1 HB.out); have p424 : (0 ≤ (x5_1 : Int)) = True := odt_
      have q424 : (x5_1 < (l0.length : Int)) = True := odt_
      obtain ⟨ad424, e424, hx424_0, hx424_1⟩ := at_T76 HR0.out x5_1 oda_ oda_; have hw424_1 := hx424_1; have hw424_0 := hx424_0; cases e424; replace hx424_0 := pb_ HB hx424_0; replace hx424_1 := pb_ HB hx424_1; have p425 : (0 ≤ (x5_1 : Int)) = True := odt_
      have q425 : (x5_1 < (l1.length : Int)) = True := odt_
      obtain ⟨ad425, e425, hx425_0, hx425_1⟩ := at_T76 HR1.out x5_1 oda_ oda_; have hw425_1 := hx425_1; have hw425_0 := hx425_0; cases e425; replace hx425_0 := pb_ HB hx425_0; replace hx425_1 := pb_ HB hx425_1; refine start_ (n := 10) (S := fun w' => w'.cell? (ad424.add ((x5_1).toNat * 2)) = some (.string ((rd_T76 l0 x5_1).f0)) ∧ w'.cell? ⟨(ad424.add ((x5_1).toNat * 2)).block, (ad424.add ((x5_1).toNat * 2)).off + 1, none⟩ = some (.string ((rd_T76 l0 x5_1).f1)) ∧ w'.cell? (ad425.add ((x5_1).toNat * 2)) = some (.string ((rd_T76 l1 x5_1).f0)) ∧ w'.cell? ⟨(ad425.add ((x5_1).toNat * 2)).block, (ad425.add ((x5_1).toNat * 2)).off + 1, none⟩ = some (.string ((rd_T76 l1 x5_1).f1))) (ds := []) #[false, false, false, false, false, false, false, false, false, false] (by kernel_rfl) rfl rfl ⟨(pb_ HB hw424_0), (pb_ HB hw424_1), (pb_ HB hw425_0), (pb_ HB hw425_1)⟩ (fun hHeld => ?_); refine with_tabW laws_eqAttrS.tab6 laws_eqAttrS.bits6 (fun HT_ HW_ => ?_)
      generalize wr.drew = w11 at HB hx424_0 hx424_1 hx425_0 hx425_1 hHeld ⊢
      refine tkp_ 0 (some 17) #[true, false, false, false, false, false, false, false, false, false] (any_of HT_.out (by kernel_rfl)) ?_
      refine tkp_ 1 (some 18) #[true, true, false, false, false, false, false, false, false, false] (any_of HT_.out (by kernel_rfl)) ?_
      refine tkp_ 2 (some 19) #[true, true, true, false, false, false, false, false, false, false] (any_of HT_.out (by kernel_rfl)) ?_
      refine tkp_ 4 (some 21) #[true, true, true, false, true, false, false, false, false, false] (any_of HT_.out (by kernel_rfl)) ?_
      refine tkp_ 5 (some 22) #[true, true, true, false, true, true, false, false, false, false] (any_of HT_.out (by kernel_rfl)) ?_
      refine tkp_ 6 (some 23) #[true, true, true, false, true, true, true, false, false, false] (any_of HT_.out (by kernel_rfl)) ?_
      refine tkt_ 3 (some 20) #[true, true, true, true, true, true, true, false, false, false] (take_ofW HT_.out HW_.out (by kernel_rfl)) hHeld ?_
      refine tkt_ 7 (some 24) #[true, true, true, true, true, true, true, true, false, false] (take_ofW HT_.out HW_.out (by kernel_rfl)) hHeld ?_
      refine one_ (i := 8) (N := some 25) #[true, true, true, true, true, true, true, true, true, false] rfl rfl (one_of HT_.out (by kernel_rfl)) (by decide) (fun K hK => ?_)
      refine goes_ Tryz.func67 (by kernel_rfl) rfl #[.agg #[.string ((rd_T76 l0 x5_1).f0), .string ((rd_T76 l0 x5_1).f1)], .agg #[.string ((rd_T76 l1 x5_1).f0), .string ((rd_T76 l1 x5_1).f1)]] (by rfl) rfl rfl au_ ?_
      with_reducible refine (laws_eqAttr.calls ((rd_T76 l0 x5_1).f0) ((rd_T76 l0 x5_1).f1) ((rd_T76 l1 x5_1).f0) ((rd_T76 l1 x5_1).f1) false _ A7.out).mono ?_
      rintro e w12 ⟨rfl, hb⟩; refine ⟨_, rfl, ?_⟩
      replace HB := ak_ (below_step bel_ hb); (try clear hb)
      refine hK.out _ _ ⟨(pb_ HB hw424_0), (pb_ HB hw424_1), (pb_ HB hw425_0), (pb_ HB hw425_1)⟩ (fun hHeld => ?_)
      clear hK K; refine norm_ (a' := ?_) ?_ ?_
      rotate_left
      ·show Act.put _ (some 25) _ = _
       simp only [Act.put, List.setIfInBounds_toArray, List.set_cons_zero, List.set_cons_succ, i64_w, i32_w]
       rfl
      refine tkp_ 9 (some 26) #[true, true, true, true, true, true, true, true, true, true] (any_of HT_.out (by kernel_rfl)) ?_
      refine done_ (done_of HT_.out (by kernel_rfl)) ?_
      try go_wp2
      go_ret
      exact ⟨er_, bel_⟩
    ·obtain rfl := Option.some.inj H
     go_wp2; go_ret
     exact ⟨er_, bel_⟩
 ·have c3b0 := beq_eq_false_iff_ne.mpr c3; have c3b1 := bne_iff_ne.mpr c3; have c3b2 : (l0.length == l1.length) = false := by first | simpa using c3 | (simp at c3 ⊢; omega)
  obtain rfl := Option.some.inj H
  go_enter Tryz.func48, Tryz.ntmps48
  go_wp2; go_ret
  exact ⟨er_, bel_⟩

/-! ### laws_eqNode: function 21 -/
def laws_eqNode.f (k : Nat) (a0_0 : ByteArray) (a0_1 : Int) (l0_2 : List (S76)) (a0_3 : ByteArray) (a1_0 : ByteArray) (a1_1 : Int) (l1_2 : List (S76)) (a1_3 : ByteArray) : Option (Bool) := if a0_0.toList = a1_0.toList then (if a0_1 = a1_1 then ((laws_eqAttrS.f k l0_2 l1_2).bind fun t429 => (if t429 = true then (if a0_3.toList = a1_3.toList then (some true) else (some false)) else (some false))) else (some false)) else (some false)
theorem laws_eqNode.calls (k : Nat) (a0_0 : ByteArray) (a0_1 : Int) (A0_2 : Option Addr) (c0_2 : Nat) (l0_2 : List (S76)) (a0_3 : ByteArray) (a1_0 : ByteArray) (a1_1 : Int) (A1_2 : Option Addr) (c1_2 : Nat) (l1_2 : List (S76)) (a1_3 : ByteArray) (r : Bool) (w : World) (hr0_2 : Kd.C k76 w A0_2 l0_2.length l0_2) (hc0_2 : l0_2.length ≤ c0_2) (hr1_2 : Kd.C k76 w A1_2 l1_2.length l1_2) (hc1_2 : l1_2.length ≤ c1_2) (h : laws_eqNode.f k a0_0 a0_1 l0_2 a0_3 a1_0 a1_1 l1_2 a1_3 = some r) :
  Calls Tryz.prog 21 #[.agg #[.string a0_0, .int .i64 a0_1, .slice A0_2 l0_2.length c0_2, .string a0_3], .agg #[.string a1_0, .int .i64 a1_1, .slice A1_2 l1_2.length c1_2, .string a1_3]] w fun e w' => e = .returned (.bool r) ∧ Below w.heap.size w w' := by
 have hu40 := Tryz.underlying40; have HR0_2 := ak_ hr0_2; have HC0_2 := ak_ hc0_2; clear hr0_2 hc0_2; have HR1_2 := ak_ hr1_2; have HC1_2 := ak_ hc1_2; clear hr1_2 hc1_2; have HB := ak_ (Below.refl w.heap.size w); have H := h; unfold laws_eqNode.f at H
 clear h; replace H := ite_ H; rcases H with ⟨c3, H⟩ | ⟨c3, H⟩
 ·have c3b0 := beq_iff_eq.mpr c3; have c3b1 := bne_eq_false_iff_eq.mpr c3; clear c3; replace H := ite_ H; rcases H with ⟨c4, H⟩ | ⟨c4, H⟩
  ·have c4b0 := beq_iff_eq.mpr c4; have c4b1 := bne_eq_false_iff_eq.mpr c4; clear c4; replace H := bnd_ H; obtain ⟨t429, A5, H⟩ := H; replace H := itb_ H; rcases H with ⟨rfl, H⟩ | ⟨rfl, H⟩
   ·replace H := ite_ H; rcases H with ⟨c7, H⟩ | ⟨c7, H⟩
    ·have c7b0 := beq_iff_eq.mpr c7; have c7b1 := bne_eq_false_iff_eq.mpr c7; clear c7; obtain rfl := Option.some.inj H
     go_enter Tryz.func21, Tryz.ntmps21
     go_wp2_with (first | ((with_reducible refine gate_dst (N := 2) rfl ?_); refine bx_ (N := 2) (cs := #[.string a0_0, .int .i64 a0_1, .slice A0_2 l0_2.length c0_2, .string a0_3]) (t := 40) ?_; intro gb427 hg w8 hbox hb; have n_ := an4_ (below_step bel_ hb) (hbox) (gsl_ hg HB.out) (gsl_ hg HB.out); clear HB; obtain ⟨HB, BK427, GW427, GE427⟩ := n_; clear hb hbox hg) | ((with_reducible refine gate_dst (N := 3) rfl ?_); refine bx_ (N := 3) (cs := #[.string a1_0, .int .i64 a1_1, .slice A1_2 l1_2.length c1_2, .string a1_3]) (t := 40) ?_; intro gb428 hg w9 hbox hb; have n_ := an7_ (blk_below (g := gb427) (o := .cells #[.string a0_0, .int .i64 a0_1, .slice A0_2 l0_2.length c0_2, .string a0_3] 40 (0, 0)) (bk_ BK427.out) hb) (below_step bes_ hb) (hbox) (gsl_ hg HB.out) (gsl_ hg HB.out) ((by rw [hg]; exact Nat.ne_of_lt (blk_lt (g := gb427) (o := .cells #[.string a0_0, .int .i64 a0_1, .slice A0_2 l0_2.length c0_2, .string a0_3] 40 (0, 0)) (bk_ BK427.out)) : gb427 ≠ gb428)) ((by rw [hg]; exact Nat.ne_of_gt (blk_lt (g := gb427) (o := .cells #[.string a0_0, .int .i64 a0_1, .slice A0_2 l0_2.length c0_2, .string a0_3] 40 (0, 0)) (bk_ BK427.out)) : gb428 ≠ gb427)); clear BK427 HB; obtain ⟨BK427, HB, BK428, GW428, GE428, NB427_428, NB428_427⟩ := n_; clear hb hbox hg; have hnb10 := NB427_428.out; have hnc10 := NB428_427.out; obtain ⟨z11_0, z11_1, z11_2, z11_3, y11_0, y11_1, y11_2, y11_3⟩ := bcz4 BK427.out; obtain ⟨z12_0, z12_1, z12_2, z12_3, y12_0, y12_1, y12_2, y12_3⟩ := bcz4 BK428.out) | ((with_reducible refine gate_callee (f := 48) rfl ?_); refine gl_ (some 19) Tryz.func48 #[.slice A0_2 l0_2.length c0_2, .slice A1_2 l1_2.length c1_2] ?_; (with_reducible refine (laws_eqAttrS.calls k _ _ l0_2 _ _ l1_2 true _ ?side1 ?side2 ?side3 ?side4 A5.out).mono ?_); (case side1 => exact cs_ (Kd.C_below HR0_2.out HB.out)); (case side2 => exact HC0_2.out); (case side3 => exact cs_ (Kd.C_below HR1_2.out HB.out)); (case side4 => exact HC1_2.out); rintro e w13 ⟨rfl, hb⟩; refine ⟨_, rfl, ?_⟩; have n_ := an3_ (blk_below (g := gb427) (o := .cells #[.string a0_0, .int .i64 a0_1, .slice A0_2 l0_2.length c0_2, .string a0_3] 40 (0, 0)) (bk_ BK427.out) hb) (blk_below (g := gb428) (o := .cells #[.string a1_0, .int .i64 a1_1, .slice A1_2 l1_2.length c1_2, .string a1_3] 40 (0, 0)) (bk_ BK428.out) hb) (below_step bes_ hb); clear BK427 BK428 HB; obtain ⟨BK427, BK428, HB⟩ := n_; (try clear hb);(try clear hb2);(try clear hk);(try clear hi); obtain ⟨z14_0, z14_1, z14_2, z14_3, y14_0, y14_1, y14_2, y14_3⟩ := bcz4 BK427.out; obtain ⟨z15_0, z15_1, z15_2, z15_3, y15_0, y15_1, y15_2, y15_3⟩ := bcz4 BK428.out))
     go_ret
     exact ⟨er_, bes_⟩
    ·have c7b0 := beq_eq_false_iff_ne.mpr c7; have c7b1 := bne_iff_ne.mpr c7; obtain rfl := Option.some.inj H
     go_enter Tryz.func21, Tryz.ntmps21
     go_wp2_with (first | ((with_reducible refine gate_dst (N := 2) rfl ?_); refine bx_ (N := 2) (cs := #[.string a0_0, .int .i64 a0_1, .slice A0_2 l0_2.length c0_2, .string a0_3]) (t := 40) ?_; intro gb427 hg w16 hbox hb; have n_ := an4_ (below_step bel_ hb) (hbox) (gsl_ hg HB.out) (gsl_ hg HB.out); clear HB; obtain ⟨HB, BK427, GW427, GE427⟩ := n_; clear hb hbox hg) | ((with_reducible refine gate_dst (N := 3) rfl ?_); refine bx_ (N := 3) (cs := #[.string a1_0, .int .i64 a1_1, .slice A1_2 l1_2.length c1_2, .string a1_3]) (t := 40) ?_; intro gb428 hg w17 hbox hb; have n_ := an7_ (blk_below (g := gb427) (o := .cells #[.string a0_0, .int .i64 a0_1, .slice A0_2 l0_2.length c0_2, .string a0_3] 40 (0, 0)) (bk_ BK427.out) hb) (below_step bes_ hb) (hbox) (gsl_ hg HB.out) (gsl_ hg HB.out) ((by rw [hg]; exact Nat.ne_of_lt (blk_lt (g := gb427) (o := .cells #[.string a0_0, .int .i64 a0_1, .slice A0_2 l0_2.length c0_2, .string a0_3] 40 (0, 0)) (bk_ BK427.out)) : gb427 ≠ gb428)) ((by rw [hg]; exact Nat.ne_of_gt (blk_lt (g := gb427) (o := .cells #[.string a0_0, .int .i64 a0_1, .slice A0_2 l0_2.length c0_2, .string a0_3] 40 (0, 0)) (bk_ BK427.out)) : gb428 ≠ gb427)); clear BK427 HB; obtain ⟨BK427, HB, BK428, GW428, GE428, NB427_428, NB428_427⟩ := n_; clear hb hbox hg; have hnb18 := NB427_428.out; have hnc18 := NB428_427.out; obtain ⟨z19_0, z19_1, z19_2, z19_3, y19_0, y19_1, y19_2, y19_3⟩ := bcz4 BK427.out; obtain ⟨z20_0, z20_1, z20_2, z20_3, y20_0, y20_1, y20_2, y20_3⟩ := bcz4 BK428.out) | ((with_reducible refine gate_callee (f := 48) rfl ?_); refine gl_ (some 19) Tryz.func48 #[.slice A0_2 l0_2.length c0_2, .slice A1_2 l1_2.length c1_2] ?_; (with_reducible refine (laws_eqAttrS.calls k _ _ l0_2 _ _ l1_2 true _ ?side1 ?side2 ?side3 ?side4 A5.out).mono ?_); (case side1 => exact cs_ (Kd.C_below HR0_2.out HB.out)); (case side2 => exact HC0_2.out); (case side3 => exact cs_ (Kd.C_below HR1_2.out HB.out)); (case side4 => exact HC1_2.out); rintro e w21 ⟨rfl, hb⟩; refine ⟨_, rfl, ?_⟩; have n_ := an3_ (blk_below (g := gb427) (o := .cells #[.string a0_0, .int .i64 a0_1, .slice A0_2 l0_2.length c0_2, .string a0_3] 40 (0, 0)) (bk_ BK427.out) hb) (blk_below (g := gb428) (o := .cells #[.string a1_0, .int .i64 a1_1, .slice A1_2 l1_2.length c1_2, .string a1_3] 40 (0, 0)) (bk_ BK428.out) hb) (below_step bes_ hb); clear BK427 BK428 HB; obtain ⟨BK427, BK428, HB⟩ := n_; (try clear hb);(try clear hb2);(try clear hk);(try clear hi); obtain ⟨z22_0, z22_1, z22_2, z22_3, y22_0, y22_1, y22_2, y22_3⟩ := bcz4 BK427.out; obtain ⟨z23_0, z23_1, z23_2, z23_3, y23_0, y23_1, y23_2, y23_3⟩ := bcz4 BK428.out))
     go_ret
     exact ⟨er_, bes_⟩
   ·obtain rfl := Option.some.inj H
    go_enter Tryz.func21, Tryz.ntmps21
    go_wp2_with (first | ((with_reducible refine gate_dst (N := 2) rfl ?_); refine bx_ (N := 2) (cs := #[.string a0_0, .int .i64 a0_1, .slice A0_2 l0_2.length c0_2, .string a0_3]) (t := 40) ?_; intro gb427 hg w24 hbox hb; have n_ := an4_ (below_step bel_ hb) (hbox) (gsl_ hg HB.out) (gsl_ hg HB.out); clear HB; obtain ⟨HB, BK427, GW427, GE427⟩ := n_; clear hb hbox hg) | ((with_reducible refine gate_dst (N := 3) rfl ?_); refine bx_ (N := 3) (cs := #[.string a1_0, .int .i64 a1_1, .slice A1_2 l1_2.length c1_2, .string a1_3]) (t := 40) ?_; intro gb428 hg w25 hbox hb; have n_ := an7_ (blk_below (g := gb427) (o := .cells #[.string a0_0, .int .i64 a0_1, .slice A0_2 l0_2.length c0_2, .string a0_3] 40 (0, 0)) (bk_ BK427.out) hb) (below_step bes_ hb) (hbox) (gsl_ hg HB.out) (gsl_ hg HB.out) ((by rw [hg]; exact Nat.ne_of_lt (blk_lt (g := gb427) (o := .cells #[.string a0_0, .int .i64 a0_1, .slice A0_2 l0_2.length c0_2, .string a0_3] 40 (0, 0)) (bk_ BK427.out)) : gb427 ≠ gb428)) ((by rw [hg]; exact Nat.ne_of_gt (blk_lt (g := gb427) (o := .cells #[.string a0_0, .int .i64 a0_1, .slice A0_2 l0_2.length c0_2, .string a0_3] 40 (0, 0)) (bk_ BK427.out)) : gb428 ≠ gb427)); clear BK427 HB; obtain ⟨BK427, HB, BK428, GW428, GE428, NB427_428, NB428_427⟩ := n_; clear hb hbox hg; have hnb26 := NB427_428.out; have hnc26 := NB428_427.out; obtain ⟨z27_0, z27_1, z27_2, z27_3, y27_0, y27_1, y27_2, y27_3⟩ := bcz4 BK427.out; obtain ⟨z28_0, z28_1, z28_2, z28_3, y28_0, y28_1, y28_2, y28_3⟩ := bcz4 BK428.out) | ((with_reducible refine gate_callee (f := 48) rfl ?_); refine gl_ (some 19) Tryz.func48 #[.slice A0_2 l0_2.length c0_2, .slice A1_2 l1_2.length c1_2] ?_; (with_reducible refine (laws_eqAttrS.calls k _ _ l0_2 _ _ l1_2 false _ ?side1 ?side2 ?side3 ?side4 A5.out).mono ?_); (case side1 => exact cs_ (Kd.C_below HR0_2.out HB.out)); (case side2 => exact HC0_2.out); (case side3 => exact cs_ (Kd.C_below HR1_2.out HB.out)); (case side4 => exact HC1_2.out); rintro e w29 ⟨rfl, hb⟩; refine ⟨_, rfl, ?_⟩; have n_ := an3_ (blk_below (g := gb427) (o := .cells #[.string a0_0, .int .i64 a0_1, .slice A0_2 l0_2.length c0_2, .string a0_3] 40 (0, 0)) (bk_ BK427.out) hb) (blk_below (g := gb428) (o := .cells #[.string a1_0, .int .i64 a1_1, .slice A1_2 l1_2.length c1_2, .string a1_3] 40 (0, 0)) (bk_ BK428.out) hb) (below_step bes_ hb); clear BK427 BK428 HB; obtain ⟨BK427, BK428, HB⟩ := n_; (try clear hb);(try clear hb2);(try clear hk);(try clear hi)))
    go_ret
    exact ⟨er_, bes_⟩
  ·have c4b0 := beq_eq_false_iff_ne.mpr c4; have c4b1 := bne_iff_ne.mpr c4; obtain rfl := Option.some.inj H
   go_enter Tryz.func21, Tryz.ntmps21
   go_wp2_with (first | ((with_reducible refine gate_dst (N := 2) rfl ?_); refine bx_ (N := 2) (cs := #[.string a0_0, .int .i64 a0_1, .slice A0_2 l0_2.length c0_2, .string a0_3]) (t := 40) ?_; intro gb427 hg w30 hbox hb; have n_ := an4_ (below_step bel_ hb) (hbox) (gsl_ hg HB.out) (gsl_ hg HB.out); clear HB; obtain ⟨HB, BK427, GW427, GE427⟩ := n_; clear hb hbox hg) | ((with_reducible refine gate_dst (N := 3) rfl ?_); refine bx_ (N := 3) (cs := #[.string a1_0, .int .i64 a1_1, .slice A1_2 l1_2.length c1_2, .string a1_3]) (t := 40) ?_; intro gb428 hg w31 hbox hb; have n_ := an7_ (blk_below (g := gb427) (o := .cells #[.string a0_0, .int .i64 a0_1, .slice A0_2 l0_2.length c0_2, .string a0_3] 40 (0, 0)) (bk_ BK427.out) hb) (below_step bes_ hb) (hbox) (gsl_ hg HB.out) (gsl_ hg HB.out) ((by rw [hg]; exact Nat.ne_of_lt (blk_lt (g := gb427) (o := .cells #[.string a0_0, .int .i64 a0_1, .slice A0_2 l0_2.length c0_2, .string a0_3] 40 (0, 0)) (bk_ BK427.out)) : gb427 ≠ gb428)) ((by rw [hg]; exact Nat.ne_of_gt (blk_lt (g := gb427) (o := .cells #[.string a0_0, .int .i64 a0_1, .slice A0_2 l0_2.length c0_2, .string a0_3] 40 (0, 0)) (bk_ BK427.out)) : gb428 ≠ gb427)); clear BK427 HB; obtain ⟨BK427, HB, BK428, GW428, GE428, NB427_428, NB428_427⟩ := n_; clear hb hbox hg; have hnb32 := NB427_428.out; have hnc32 := NB428_427.out; obtain ⟨z33_0, z33_1, z33_2, z33_3, y33_0, y33_1, y33_2, y33_3⟩ := bcz4 BK427.out; obtain ⟨z34_0, z34_1, z34_2, z34_3, y34_0, y34_1, y34_2, y34_3⟩ := bcz4 BK428.out))
   go_ret
   exact ⟨er_, bes_⟩
 ·have c3b0 := beq_eq_false_iff_ne.mpr c3; have c3b1 := bne_iff_ne.mpr c3; obtain rfl := Option.some.inj H
  go_enter Tryz.func21, Tryz.ntmps21
  go_wp2_with (first | ((with_reducible refine gate_dst (N := 2) rfl ?_); refine bx_ (N := 2) (cs := #[.string a0_0, .int .i64 a0_1, .slice A0_2 l0_2.length c0_2, .string a0_3]) (t := 40) ?_; intro gb427 hg w35 hbox hb; have n_ := an4_ (below_step bel_ hb) (hbox) (gsl_ hg HB.out) (gsl_ hg HB.out); clear HB; obtain ⟨HB, BK427, GW427, GE427⟩ := n_; clear hb hbox hg) | ((with_reducible refine gate_dst (N := 3) rfl ?_); refine bx_ (N := 3) (cs := #[.string a1_0, .int .i64 a1_1, .slice A1_2 l1_2.length c1_2, .string a1_3]) (t := 40) ?_; intro gb428 hg w36 hbox hb; have n_ := an7_ (blk_below (g := gb427) (o := .cells #[.string a0_0, .int .i64 a0_1, .slice A0_2 l0_2.length c0_2, .string a0_3] 40 (0, 0)) (bk_ BK427.out) hb) (below_step bes_ hb) (hbox) (gsl_ hg HB.out) (gsl_ hg HB.out) ((by rw [hg]; exact Nat.ne_of_lt (blk_lt (g := gb427) (o := .cells #[.string a0_0, .int .i64 a0_1, .slice A0_2 l0_2.length c0_2, .string a0_3] 40 (0, 0)) (bk_ BK427.out)) : gb427 ≠ gb428)) ((by rw [hg]; exact Nat.ne_of_gt (blk_lt (g := gb427) (o := .cells #[.string a0_0, .int .i64 a0_1, .slice A0_2 l0_2.length c0_2, .string a0_3] 40 (0, 0)) (bk_ BK427.out)) : gb428 ≠ gb427)); clear BK427 HB; obtain ⟨BK427, HB, BK428, GW428, GE428, NB427_428, NB428_427⟩ := n_; clear hb hbox hg; have hnb37 := NB427_428.out; have hnc37 := NB428_427.out; obtain ⟨z38_0, z38_1, z38_2, z38_3, y38_0, y38_1, y38_2, y38_3⟩ := bcz4 BK427.out; obtain ⟨z39_0, z39_1, z39_2, z39_3, y39_0, y39_1, y39_2, y39_3⟩ := bcz4 BK428.out))
  go_ret
  exact ⟨er_, bes_⟩

/-! ### laws_eqNodeS: function 9 -/
def laws_eqNodeS.l0 : Nat → List (S40) → List (S40) → Int → Option (Bool)
 | 0, _, _, _ => none
 | k + 1, x0, x1, x5 => if x5 < (x0.length : Int) then (if 0 ≤ x5 then (if x5 < (x1.length : Int) then ((laws_eqNode.f k ((rd_T40 x0 x5).f0) ((rd_T40 x0 x5).f1) ((rd_T40 x0 x5).f2) ((rd_T40 x0 x5).f3) ((rd_T40 x1 x5).f0) ((rd_T40 x1 x5).f1) ((rd_T40 x1 x5).f2) ((rd_T40 x1 x5).f3)).bind fun t432 => (if t432 = true then (laws_eqNodeS.l0 k x0 x1 (wrap64 (x5 + 1))) else (some false))) else (none)) else (none)) else (some true)
def laws_eqNodeS.f (k : Nat) (l0 : List (S40)) (l1 : List (S40)) : Option (Bool) := if (l0.length : Int) = (l1.length : Int) then (laws_eqNodeS.l0 k l0 l1 0) else (some false)
def laws_eqNodeS.T6 : Bool × List (List Nat × List Nat) := (true, [([], []), ([], []), ([0, 1], [0, 1]), ([2], [2]), ([], []), ([], []), ([4, 5], [4, 5]), ([6], [6]), ([3, 7], [3, 7]), ([8], [8])])
def laws_eqNodeS.B6 : List Nat := [0, 0, 3, 7, 0, 0, 48, 112, 255, 511]
theorem laws_eqNodeS.tab6 : rtab .any (opsOf Tryz.f9 6) = laws_eqNodeS.T6 := by kernel_rfl
theorem laws_eqNodeS.bits6 : waitsOk laws_eqNodeS.T6.2 laws_eqNodeS.B6 = true := by kernel_rfl
theorem laws_eqNodeS.calls (k : Nat) (A0 : Option Addr) (c0 : Nat) (l0 : List (S40)) (A1 : Option Addr) (c1 : Nat) (l1 : List (S40)) (r : Bool) (w : World) (hr0 : Kd.C k40 w A0 l0.length l0) (hc0 : l0.length ≤ c0) (hr1 : Kd.C k40 w A1 l1.length l1) (hc1 : l1.length ≤ c1) (h : laws_eqNodeS.f k l0 l1 = some r) :
  Calls Tryz.prog 9 #[.slice A0 l0.length c0, .slice A1 l1.length c1] w fun e w' => e = .returned (.bool r) ∧ Below w.heap.size w w' := by
 have hu40 := Tryz.underlying40; have HR0 := ak_ hr0; have HC0 := ak_ hc0; clear hr0 hc0; have HR1 := ak_ hr1; have HC1 := ak_ hc1; clear hr1 hc1; have HB := ak_ (Below.refl w.heap.size w); have H := h; unfold laws_eqNodeS.f at H
 clear h; replace H := ite_ H; rcases H with ⟨c3, H⟩ | ⟨c3, H⟩
 ·have c3b0 := beq_iff_eq.mpr c3; have c3b1 := bne_eq_false_iff_eq.mpr c3; have c3b2 : (l0.length == l1.length) = true := by first | simpa using c3 | (simp at c3 ⊢; omega)
  clear c3; have H' := ak_ H; clear H; go_enter Tryz.func9, Tryz.ntmps9
  go_wp2; go_loopg [5] k (fun kq v5 w' => ∃ (x5_1 : Int), v5 = .int .i64 x5_1 ∧ Aside0 (laws_eqNodeS.l0 kq l0 l1 x5_1 = some r) ∧ Aside0 (kq ≤ k) ∧ Aside0 (Below w.heap.size w w'))
  case atStart => exact ⟨(0), sv_, H', ⟨Nat.le_refl _⟩, ⟨bel_⟩⟩
  case round =>
   clear H'; (try clear c1);(try clear c3b0);(try clear c3b1);(try clear c3b2)
   obtain ⟨x5_1, rfl, HA, HK1, HB⟩ := hrel; cases gk with
   | zero => exact absurd HA.out (by simp [laws_eqNodeS.l0])
   | succ k1 =>
    have H := HA.out; clear HA; simp only [laws_eqNodeS.l0] at H
    replace H := ied_ H; rcases H with ⟨c4b0, H⟩ | ⟨c4b0, H⟩
    ·replace H := itd_ H; obtain ⟨c5b0, H⟩ := H; replace H := itd_ H; obtain ⟨c6b0, H⟩ := H; replace H := bnd_ H; obtain ⟨t432, A7, H⟩ := H; replace H := itb_ H; rcases H with ⟨rfl, H⟩ | ⟨rfl, H⟩
     ·have H' := ak_ H; clear H; try go_wp2
      replace HB := ak_ (below_drew1 HB.out); have p430 : (0 ≤ (x5_1 : Int)) = True := odt_
      have q430 : (x5_1 < (l0.length : Int)) = True := odt_
      obtain ⟨ad430, A430_2, c430_2, e430, hx430_0, hx430_1, hx430_2, hx430_3, hl430_2, hi430_2⟩ := at_T40 HR0.out x5_1 oda_ oda_; have hw430_3 := hx430_3; have hw430_2 := hx430_2; have hw430_1 := hx430_1; have hw430_0 := hx430_0; cases e430; replace hx430_0 := pb_ HB hx430_0; replace hx430_1 := pb_ HB hx430_1; replace hx430_2 := pb_ HB hx430_2; replace hx430_3 := pb_ HB hx430_3; have HR430_2 := ak_ hi430_2; have HC430_2 := ak_ hl430_2; clear hi430_2 hl430_2; have p431 : (0 ≤ (x5_1 : Int)) = True := odt_
      have q431 : (x5_1 < (l1.length : Int)) = True := odt_
      obtain ⟨ad431, A431_2, c431_2, e431, hx431_0, hx431_1, hx431_2, hx431_3, hl431_2, hi431_2⟩ := at_T40 HR1.out x5_1 oda_ oda_; have hw431_3 := hx431_3; have hw431_2 := hx431_2; have hw431_1 := hx431_1; have hw431_0 := hx431_0; cases e431; replace hx431_0 := pb_ HB hx431_0; replace hx431_1 := pb_ HB hx431_1; replace hx431_2 := pb_ HB hx431_2; replace hx431_3 := pb_ HB hx431_3; have HR431_2 := ak_ hi431_2; have HC431_2 := ak_ hl431_2; clear hi431_2 hl431_2; refine start_ (n := 10) (S := fun w' => w'.cell? (ad430.add ((x5_1).toNat * 4)) = some (.string ((rd_T40 l0 x5_1).f0)) ∧ w'.cell? ⟨(ad430.add ((x5_1).toNat * 4)).block, (ad430.add ((x5_1).toNat * 4)).off + 1, none⟩ = some (.int .i64 ((rd_T40 l0 x5_1).f1)) ∧ w'.cell? ⟨(ad430.add ((x5_1).toNat * 4)).block, (ad430.add ((x5_1).toNat * 4)).off + 2, none⟩ = some (.slice A430_2 ((rd_T40 l0 x5_1).f2).length c430_2) ∧ w'.cell? ⟨(ad430.add ((x5_1).toNat * 4)).block, (ad430.add ((x5_1).toNat * 4)).off + 3, none⟩ = some (.string ((rd_T40 l0 x5_1).f3)) ∧ w'.cell? (ad431.add ((x5_1).toNat * 4)) = some (.string ((rd_T40 l1 x5_1).f0)) ∧ w'.cell? ⟨(ad431.add ((x5_1).toNat * 4)).block, (ad431.add ((x5_1).toNat * 4)).off + 1, none⟩ = some (.int .i64 ((rd_T40 l1 x5_1).f1)) ∧ w'.cell? ⟨(ad431.add ((x5_1).toNat * 4)).block, (ad431.add ((x5_1).toNat * 4)).off + 2, none⟩ = some (.slice A431_2 ((rd_T40 l1 x5_1).f2).length c431_2) ∧ w'.cell? ⟨(ad431.add ((x5_1).toNat * 4)).block, (ad431.add ((x5_1).toNat * 4)).off + 3, none⟩ = some (.string ((rd_T40 l1 x5_1).f3))) (ds := []) #[false, false, false, false, false, false, false, false, false, false] (by kernel_rfl) rfl rfl ⟨(pb_ HB hw430_0), (pb_ HB hw430_1), (pb_ HB hw430_2), (pb_ HB hw430_3), (pb_ HB hw431_0), (pb_ HB hw431_1), (pb_ HB hw431_2), (pb_ HB hw431_3)⟩ (fun hHeld => ?_); refine with_tabW laws_eqNodeS.tab6 laws_eqNodeS.bits6 (fun HT_ HW_ => ?_)
      generalize wr.drew = w9 at HB HR430_2 HR431_2 hx430_0 hx430_1 hx430_2 hx430_3 hx431_0 hx431_1 hx431_2 hx431_3 hHeld ⊢
      refine tkp_ 0 (some 17) #[true, false, false, false, false, false, false, false, false, false] (any_of HT_.out (by kernel_rfl)) ?_
      refine tkp_ 1 (some 18) #[true, true, false, false, false, false, false, false, false, false] (any_of HT_.out (by kernel_rfl)) ?_
      refine tkp_ 2 (some 19) #[true, true, true, false, false, false, false, false, false, false] (any_of HT_.out (by kernel_rfl)) ?_
      refine tkp_ 4 (some 21) #[true, true, true, false, true, false, false, false, false, false] (any_of HT_.out (by kernel_rfl)) ?_
      refine tkp_ 5 (some 22) #[true, true, true, false, true, true, false, false, false, false] (any_of HT_.out (by kernel_rfl)) ?_
      refine tkp_ 6 (some 23) #[true, true, true, false, true, true, true, false, false, false] (any_of HT_.out (by kernel_rfl)) ?_
      refine tkt_ 3 (some 20) #[true, true, true, true, true, true, true, false, false, false] (take_ofW HT_.out HW_.out (by kernel_rfl)) hHeld ?_
      refine tkt_ 7 (some 24) #[true, true, true, true, true, true, true, true, false, false] (take_ofW HT_.out HW_.out (by kernel_rfl)) hHeld ?_
      refine one_ (i := 8) (N := some 25) #[true, true, true, true, true, true, true, true, true, false] rfl rfl (one_of HT_.out (by kernel_rfl)) (by decide) (fun K hK => ?_)
      refine goes_ Tryz.func21 (by kernel_rfl) rfl #[.agg #[.string ((rd_T40 l0 x5_1).f0), .int .i64 ((rd_T40 l0 x5_1).f1), .slice A430_2 ((rd_T40 l0 x5_1).f2).length c430_2, .string ((rd_T40 l0 x5_1).f3)], .agg #[.string ((rd_T40 l1 x5_1).f0), .int .i64 ((rd_T40 l1 x5_1).f1), .slice A431_2 ((rd_T40 l1 x5_1).f2).length c431_2, .string ((rd_T40 l1 x5_1).f3)]] (by rfl) rfl rfl au_ ?_
      with_reducible refine (laws_eqNode.calls k1 ((rd_T40 l0 x5_1).f0) ((rd_T40 l0 x5_1).f1) _ _ ((rd_T40 l0 x5_1).f2) ((rd_T40 l0 x5_1).f3) ((rd_T40 l1 x5_1).f0) ((rd_T40 l1 x5_1).f1) _ _ ((rd_T40 l1 x5_1).f2) ((rd_T40 l1 x5_1).f3) true _ ?side1 ?side2 ?side3 ?side4 A7.out).mono ?_
      (case side1 => exact cs_ (Kd.C_below HR430_2.out HB.out))
      (case side2 => exact HC430_2.out)
      (case side3 => exact cs_ (Kd.C_below HR431_2.out HB.out))
      (case side4 => exact HC431_2.out)
      rintro e w10 ⟨rfl, hb⟩; refine ⟨_, rfl, ?_⟩
      replace HB := ak_ (below_step bel_ hb); (try clear hb)
      refine hK.out _ _ ⟨(pb_ HB hw430_0), (pb_ HB hw430_1), (pb_ HB hw430_2), (pb_ HB hw430_3), (pb_ HB hw431_0), (pb_ HB hw431_1), (pb_ HB hw431_2), (pb_ HB hw431_3)⟩ (fun hHeld => ?_)
      clear hK K; refine norm_ (a' := ?_) ?_ ?_
      rotate_left
      ·show Act.put _ (some 25) _ = _
       simp only [Act.put, List.setIfInBounds_toArray, List.set_cons_zero, List.set_cons_succ, i64_w, i32_w]
       rfl
      refine tkp_ 9 (some 26) #[true, true, true, true, true, true, true, true, true, true] (any_of HT_.out (by kernel_rfl)) ?_
      refine done_ (done_of HT_.out (by kernel_rfl)) ?_
      try go_wp2
      go_roundg k1
      case measure => have := HK1.out; omega
      case rel => exact ⟨(wrap64 (x5_1 + 1)), sv_, H', ⟨by have := HK1.out; omega⟩, ⟨bel_⟩⟩
     ·obtain rfl := Option.some.inj H
      try go_wp2
      replace HB := ak_ (below_drew1 HB.out); have p430 : (0 ≤ (x5_1 : Int)) = True := odt_
      have q430 : (x5_1 < (l0.length : Int)) = True := odt_
      obtain ⟨ad430, A430_2, c430_2, e430, hx430_0, hx430_1, hx430_2, hx430_3, hl430_2, hi430_2⟩ := at_T40 HR0.out x5_1 oda_ oda_; have hw430_3 := hx430_3; have hw430_2 := hx430_2; have hw430_1 := hx430_1; have hw430_0 := hx430_0; cases e430; replace hx430_0 := pb_ HB hx430_0; replace hx430_1 := pb_ HB hx430_1; replace hx430_2 := pb_ HB hx430_2; replace hx430_3 := pb_ HB hx430_3; have HR430_2 := ak_ hi430_2; have HC430_2 := ak_ hl430_2; clear hi430_2 hl430_2; have p431 : (0 ≤ (x5_1 : Int)) = True := odt_
      have q431 : (x5_1 < (l1.length : Int)) = True := odt_
      obtain ⟨ad431, A431_2, c431_2, e431, hx431_0, hx431_1, hx431_2, hx431_3, hl431_2, hi431_2⟩ := at_T40 HR1.out x5_1 oda_ oda_; have hw431_3 := hx431_3; have hw431_2 := hx431_2; have hw431_1 := hx431_1; have hw431_0 := hx431_0; cases e431; replace hx431_0 := pb_ HB hx431_0; replace hx431_1 := pb_ HB hx431_1; replace hx431_2 := pb_ HB hx431_2; replace hx431_3 := pb_ HB hx431_3; have HR431_2 := ak_ hi431_2; have HC431_2 := ak_ hl431_2; clear hi431_2 hl431_2; refine start_ (n := 10) (S := fun w' => w'.cell? (ad430.add ((x5_1).toNat * 4)) = some (.string ((rd_T40 l0 x5_1).f0)) ∧ w'.cell? ⟨(ad430.add ((x5_1).toNat * 4)).block, (ad430.add ((x5_1).toNat * 4)).off + 1, none⟩ = some (.int .i64 ((rd_T40 l0 x5_1).f1)) ∧ w'.cell? ⟨(ad430.add ((x5_1).toNat * 4)).block, (ad430.add ((x5_1).toNat * 4)).off + 2, none⟩ = some (.slice A430_2 ((rd_T40 l0 x5_1).f2).length c430_2) ∧ w'.cell? ⟨(ad430.add ((x5_1).toNat * 4)).block, (ad430.add ((x5_1).toNat * 4)).off + 3, none⟩ = some (.string ((rd_T40 l0 x5_1).f3)) ∧ w'.cell? (ad431.add ((x5_1).toNat * 4)) = some (.string ((rd_T40 l1 x5_1).f0)) ∧ w'.cell? ⟨(ad431.add ((x5_1).toNat * 4)).block, (ad431.add ((x5_1).toNat * 4)).off + 1, none⟩ = some (.int .i64 ((rd_T40 l1 x5_1).f1)) ∧ w'.cell? ⟨(ad431.add ((x5_1).toNat * 4)).block, (ad431.add ((x5_1).toNat * 4)).off + 2, none⟩ = some (.slice A431_2 ((rd_T40 l1 x5_1).f2).length c431_2) ∧ w'.cell? ⟨(ad431.add ((x5_1).toNat * 4)).block, (ad431.add ((x5_1).toNat * 4)).off + 3, none⟩ = some (.string ((rd_T40 l1 x5_1).f3))) (ds := []) #[false, false, false, false, false, false, false, false, false, false] (by kernel_rfl) rfl rfl ⟨(pb_ HB hw430_0), (pb_ HB hw430_1), (pb_ HB hw430_2), (pb_ HB hw430_3), (pb_ HB hw431_0), (pb_ HB hw431_1), (pb_ HB hw431_2), (pb_ HB hw431_3)⟩ (fun hHeld => ?_); refine with_tabW laws_eqNodeS.tab6 laws_eqNodeS.bits6 (fun HT_ HW_ => ?_)
      generalize wr.drew = w11 at HB HR430_2 HR431_2 hx430_0 hx430_1 hx430_2 hx430_3 hx431_0 hx431_1 hx431_2 hx431_3 hHeld ⊢
      refine tkp_ 0 (some 17) #[true, false, false, false, false, false, false, false, false, false] (any_of HT_.out (by kernel_rfl)) ?_
      refine tkp_ 1 (some 18) #[true, true, false, false, false, false, false, false, false, false] (any_of HT_.out (by kernel_rfl)) ?_
      refine tkp_ 2 (some 19) #[true, true, true, false, false, false, false, false, false, false] (any_of HT_.out (by kernel_rfl)) ?_
      refine tkp_ 4 (some 21) #[true, true, true, false, true, false, false, false, false, false] (any_of HT_.out (by kernel_rfl)) ?_
      refine tkp_ 5 (some 22) #[true, true, true, false, true, true, false, false, false, false] (any_of HT_.out (by kernel_rfl)) ?_
      refine tkp_ 6 (some 23) #[true, true, true, false, true, true, true, false, false, false] (any_of HT_.out (by kernel_rfl)) ?_
      refine tkt_ 3 (some 20) #[true, true, true, true, true, true, true, false, false, false] (take_ofW HT_.out HW_.out (by kernel_rfl)) hHeld ?_
      refine tkt_ 7 (some 24) #[true, true, true, true, true, true, true, true, false, false] (take_ofW HT_.out HW_.out (by kernel_rfl)) hHeld ?_
      refine one_ (i := 8) (N := some 25) #[true, true, true, true, true, true, true, true, true, false] rfl rfl (one_of HT_.out (by kernel_rfl)) (by decide) (fun K hK => ?_)
      refine goes_ Tryz.func21 (by kernel_rfl) rfl #[.agg #[.string ((rd_T40 l0 x5_1).f0), .int .i64 ((rd_T40 l0 x5_1).f1), .slice A430_2 ((rd_T40 l0 x5_1).f2).length c430_2, .string ((rd_T40 l0 x5_1).f3)], .agg #[.string ((rd_T40 l1 x5_1).f0), .int .i64 ((rd_T40 l1 x5_1).f1), .slice A431_2 ((rd_T40 l1 x5_1).f2).length c431_2, .string ((rd_T40 l1 x5_1).f3)]] (by rfl) rfl rfl au_ ?_
      with_reducible refine (laws_eqNode.calls k1 ((rd_T40 l0 x5_1).f0) ((rd_T40 l0 x5_1).f1) _ _ ((rd_T40 l0 x5_1).f2) ((rd_T40 l0 x5_1).f3) ((rd_T40 l1 x5_1).f0) ((rd_T40 l1 x5_1).f1) _ _ ((rd_T40 l1 x5_1).f2) ((rd_T40 l1 x5_1).f3) false _ ?side1 ?side2 ?side3 ?side4 A7.out).mono ?_
      (case side1 => exact cs_ (Kd.C_below HR430_2.out HB.out))
      (case side2 => exact HC430_2.out)
      (case side3 => exact cs_ (Kd.C_below HR431_2.out HB.out))
      (case side4 => exact HC431_2.out)
      rintro e w12 ⟨rfl, hb⟩; refine ⟨_, rfl, ?_⟩
      replace HB := ak_ (below_step bel_ hb); (try clear hb)
      refine hK.out _ _ ⟨(pb_ HB hw430_0), (pb_ HB hw430_1), (pb_ HB hw430_2), (pb_ HB hw430_3), (pb_ HB hw431_0), (pb_ HB hw431_1), (pb_ HB hw431_2), (pb_ HB hw431_3)⟩ (fun hHeld => ?_)
      clear hK K; refine norm_ (a' := ?_) ?_ ?_
      rotate_left
      ·show Act.put _ (some 25) _ = _
       simp only [Act.put, List.setIfInBounds_toArray, List.set_cons_zero, List.set_cons_succ, i64_w, i32_w]
       rfl
      refine tkp_ 9 (some 26) #[true, true, true, true, true, true, true, true, true, true] (any_of HT_.out (by kernel_rfl)) ?_
      refine done_ (done_of HT_.out (by kernel_rfl)) ?_
      try go_wp2
      go_ret
      exact ⟨er_, bel_⟩
    ·obtain rfl := Option.some.inj H
     go_wp2; go_ret
     exact ⟨er_, bel_⟩
 ·have c3b0 := beq_eq_false_iff_ne.mpr c3; have c3b1 := bne_iff_ne.mpr c3; have c3b2 : (l0.length == l1.length) = false := by first | simpa using c3 | (simp at c3 ⊢; omega)
  obtain rfl := Option.some.inj H
  go_enter Tryz.func9, Tryz.ntmps9
  go_wp2; go_ret
  exact ⟨er_, bel_⟩

end Go.Proofs.YtooilehdljeepaaGreatDoor.PFnExactSheetIn
