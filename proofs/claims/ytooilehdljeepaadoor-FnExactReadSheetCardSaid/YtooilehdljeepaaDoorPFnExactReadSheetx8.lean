-- Laid by a program of this session out of the translation (its own run of the print). Lean checks it.
import Derived.Test.YtooilehdljeepaaDoorPFnExactReadSheetx0
import Derived.Test.YtooilehdljeepaaDoorPFnExactReadSheetx6
import Derived.Test.YtooilehdljeepaaDoorPFnExactReadSheetx7
namespace Go.Proofs.YtooilehdljeepaaDoor.PFnExactReadSheet
open Go.RowKit Go.Proofs.YtooilehdljeepaaDoorW.PrintWords Go.Proofs.YtooilehdljeepaaDoorW.PrintLast Go.Proofs.YtooilehdljeepaaDoorW.PrintMore
attribute [local go_sem] max2_int min2_int max_two min_two max_three min_three max_four min_four   -- for this text's walks alone
set_option linter.unusedVariables false
set_option linter.unusedSimpArgs false

/-! ### impl_readPart: function 152 -/
mutual
def impl_readPart.j0 : Nat → ByteArray → Int → ByteArray → ByteArray → Option (ByteArray × ByteArray × List ByteArray × Bool)
 | 0, _, _, _, _ => none
 | k + 1, x0, x5, x208000, x208001 => impl_readPart.l0 k x0 x5 x208000 x208001 ([] : List ByteArray)
def impl_readPart.l0 : Nat → ByteArray → Int → ByteArray → ByteArray → List ByteArray → Option (ByteArray × ByteArray × List ByteArray × Bool)
 | 0, _, _, _, _, _ => none
 | k + 1, x0, x5, x208000, x208001, x208002 => if x5 < (x0.size : Int) then ((impl_wordEnd.f k x0 (wrap64 (x5 + 1))).bind fun t211 => (if 0 ≤ (wrap64 (x5 + 1)) then (if (wrap64 (x5 + 1)) ≤ t211 then (if t211 ≤ (x0.size : Int) then ((impl_isWord.f k (x0.extract ((wrap64 (x5 + 1)) : Int).toNat (t211 : Int).toNat)).bind fun t212 => (if t212 = true then (if 0 ≤ x5 then (if (bt x0 x5) = 35 then (if x208001.toList = ([] : List UInt8) then (impl_readPart.j2 k x0 x5 t211 (x0.extract ((wrap64 (x5 + 1)) : Int).toNat (t211 : Int).toNat) ((x208002.length : Int) == 0) x208000 x208001 x208002) else (impl_readPart.j2 k x0 x5 t211 (x0.extract ((wrap64 (x5 + 1)) : Int).toNat (t211 : Int).toNat) false x208000 x208001 x208002)) else (impl_readPart.j2 k x0 x5 t211 (x0.extract ((wrap64 (x5 + 1)) : Int).toNat (t211 : Int).toNat) false x208000 x208001 x208002)) else (none)) else (some ((⟨#[]⟩ : ByteArray), (⟨#[]⟩ : ByteArray), ([] : List ByteArray), false)))) else (none)) else (none)) else (none))) else ((impl_isPart.f k x208000 x208001 x208002).bind fun t210 => (some (x208000, x208001, x208002, t210)))
def impl_readPart.j2 : Nat → ByteArray → Int → Int → ByteArray → Bool → ByteArray → ByteArray → List ByteArray → Option (ByteArray × ByteArray × List ByteArray × Bool)
 | 0, _, _, _, _, _, _, _, _ => none
 | k + 1, x0, x5, x6, x7, x37, x208000, x208001, x208002 => if x37 = true then (impl_readPart.l0 k x0 x6 x208000 x7 x208002) else (if 0 ≤ x5 then (if x5 < (x0.size : Int) then (if (bt x0 x5) = 46 then (if x208002.length < 8796093022208 then (impl_readPart.l0 k x0 x6 x208000 x208001 (x208002 ++ [x7])) else (none)) else (some ((⟨#[]⟩ : ByteArray), (⟨#[]⟩ : ByteArray), ([] : List ByteArray), false))) else (none)) else (none))
end
def impl_readPart.f (k : Nat) (a0 : ByteArray) : Option (ByteArray × ByteArray × List ByteArray × Bool) := (strings_HasPrefix.f a0 (⟨#[42]⟩ : ByteArray)).bind fun t208 => (if t208 = true then (impl_readPart.j0 k a0 1 (⟨#[42]⟩ : ByteArray) (⟨#[]⟩ : ByteArray)) else ((impl_wordEnd.f k a0 0).bind fun t209 => (if 0 ≤ t209 then (if t209 ≤ (a0.size : Int) then (impl_readPart.j0 k a0 t209 (a0.extract 0 (t209 : Int).toNat) (⟨#[]⟩ : ByteArray)) else (none)) else (none))))
set_option maxHeartbeats 8000000 in
set_option maxRecDepth 100000 in
theorem impl_readPart.calls (k : Nat) (a0 : ByteArray) (r1 : ByteArray) (r2 : ByteArray) (r3 : List ByteArray) (r4 : Bool) (w : World) (h : impl_readPart.f k a0 = some (r1, r2, r3, r4)) :
  Calls Tryd.prog 152 #[.string a0] w fun e w' => ∃ v2_ : Value, e = .returned (.tuple #[.agg #[.string r1, .string r2, v2_], .bool r4]) ∧ Kd.R Kd.string 9 w' w.heap.size (fun _ => True) v2_ r3 ∧ Below w.heap.size w w' := by
 have hu71 := Tryd.underlying71
 have HB := Aside0.mk (Below.refl w.heap.size w)
 have H : ((strings_HasPrefix.f a0 (⟨#[42]⟩ : ByteArray)).bind fun t208 => (if t208 = true then (impl_readPart.j0 k a0 1 (⟨#[42]⟩ : ByteArray) (⟨#[]⟩ : ByteArray)) else ((impl_wordEnd.f k a0 0).bind fun t209 => (if 0 ≤ t209 then (if t209 ≤ (a0.size : Int) then (impl_readPart.j0 k a0 t209 (a0.extract 0 (t209 : Int).toNat) (⟨#[]⟩ : ByteArray)) else (none)) else (none))))) = some (r1, r2, r3, r4) := h
 clear h
 replace H := Option.bind_eq_some_iff.mp H
 obtain ⟨t208, A20, H⟩ := H
 replace H : (if t208 = true then (impl_readPart.j0 k a0 1 (⟨#[42]⟩ : ByteArray) (⟨#[]⟩ : ByteArray)) else ((impl_wordEnd.f k a0 0).bind fun t209 => (if 0 ≤ t209 then (if t209 ≤ (a0.size : Int) then (impl_readPart.j0 k a0 t209 (a0.extract 0 (t209 : Int).toNat) (⟨#[]⟩ : ByteArray)) else (none)) else (none)))) = some (r1, r2, r3, r4) := H
 have A2 := Aside0.mk A20
 clear A20
 have HC3 := Aside0.mk H
 clear H
 go_enter Tryd.func152, Tryd.ntmps152
 go_upto_if 10 with (first | ((with_reducible refine gate_dst (N := 2) rfl ?_); (try (refine gate_guard (by rfl) ?_; dsimp only)); refine box_event ?hg (N := 2) ?hd (cs := #[.string (⟨#[]⟩ : ByteArray), .string (⟨#[]⟩ : ByteArray), .slice none 0 0]) (t := 71) ?hr ?_; (case hd => rfl); (case hg => rfl); (case hr => first | (go_simp; done) | (go_simp; rfl)); intro gb206 hg w4 hbox hb; have n0_ := Aside0.mk (below_step bel_ hb); have n1_ := Aside0.mk (hbox); have n2_ := Aside0.mk ((by rw [hg]; exact (below_size bel_) : w.heap.size ≤ gb206)); have n3_ := Aside0.mk ((by rw [hg]; exact (below_size bel_) : w.heap.size ≤ gb206)); clear HB; have HB := n0_; have BK206 := n1_; have GW206 := n2_; have GE206 := n3_; clear n0_ n1_ n2_ n3_; clear hb hbox hg) | ((with_reducible refine gate_dst (N := 4) rfl ?_); (try (refine gate_guard (by rfl) ?_; dsimp only)); refine box_event ?hg (N := 4) ?hd (cs := #[.string (⟨#[]⟩ : ByteArray), .string (⟨#[]⟩ : ByteArray), .slice none 0 0]) (t := 71) ?hr ?_; (case hd => rfl); (case hg => rfl); (case hr => first | (go_simp; done) | (go_simp; rfl)); intro gb207 hg w5 hbox hb; have n0_ := Aside0.mk (blk_below (g := gb206) (o := .cells #[.string (⟨#[]⟩ : ByteArray), .string (⟨#[]⟩ : ByteArray), .slice none 0 0] 71 (0, 0)) (bk_ BK206.out) hb); have n1_ := Aside0.mk (below_step bes_ hb); have n2_ := Aside0.mk (hbox); have n3_ := Aside0.mk ((by rw [hg]; exact (below_size bes_) : w.heap.size ≤ gb207)); have n4_ := Aside0.mk ((by rw [hg]; exact (below_size bes_) : w.heap.size ≤ gb207)); have n5_ := Aside0.mk ((by rw [hg]; exact Nat.ne_of_lt (blk_lt (g := gb206) (o := .cells #[.string (⟨#[]⟩ : ByteArray), .string (⟨#[]⟩ : ByteArray), .slice none 0 0] 71 (0, 0)) (bk_ BK206.out)) : gb206 ≠ gb207)); have n6_ := Aside0.mk ((by rw [hg]; exact Nat.ne_of_gt (blk_lt (g := gb206) (o := .cells #[.string (⟨#[]⟩ : ByteArray), .string (⟨#[]⟩ : ByteArray), .slice none 0 0] 71 (0, 0)) (bk_ BK206.out)) : gb207 ≠ gb206)); clear BK206; clear HB; have BK206 := n0_; have HB := n1_; have BK207 := n2_; have GW207 := n3_; have GE207 := n4_; have NB206_207 := n5_; have NB207_206 := n6_; clear n0_ n1_ n2_ n3_ n4_ n5_ n6_; clear hb hbox hg; have hnb6 := NB207_206.out; have hnc6 := NB206_207.out; have hcz7_0 := bc3_0 BK207.out; have hcz7_1 := bc3_1 BK207.out; have hcz7_2 := bc3_2 BK207.out; have hfz7_0 := blk_frozen BK207.out 0; have hfz7_1 := blk_frozen BK207.out 1; have hfz7_2 := blk_frozen BK207.out 2) | ((with_reducible refine gate_callee (f := 180) rfl ?_); refine goesL_ (some 10) rfl rfl Tryd.func180 (by kernel_rfl) rfl #[.string a0, .string (⟨#[42]⟩ : ByteArray)] rfl au_ ?_; (with_reducible refine (strings_HasPrefix.calls a0 (⟨#[42]⟩ : ByteArray) t208 _ A2.out).mono ?_); rintro e w' ⟨rfl, ⟨nd, rfl⟩⟩; refine ⟨_, rfl, ?_⟩))
 (try simp only [Act.put, List.setIfInBounds_toArray, List.set_cons_zero, List.set_cons_succ])
 go_cut [5] (fun v5 wc => ∃ (kq : Nat) (x5_2 : Int) (x208000_2 : ByteArray), v5 = .int .i64 x5_2 ∧ Aside0 (impl_readPart.j0 kq a0 x5_2 x208000_2 (⟨#[]⟩ : ByteArray) = some (r1, r2, r3, r4)) ∧ Aside0 (kq ≤ k) ∧ Aside0 (wc.heap[gb206]? = some (.cells #[.string (⟨#[]⟩ : ByteArray), .string (⟨#[]⟩ : ByteArray), (.slice none 0 0)] 71 (0, 0))) ∧ Aside0 (wc.heap[gb207]? = some (.cells #[.string x208000_2, .string (⟨#[]⟩ : ByteArray), (.slice none 0 0)] 71 (0, 0))) ∧ Aside0 (Below w.heap.size w wc))
 case first =>
  have H := HC3.out
  clear HC3
  by_cases c8 : t208 = true
  ·subst c8
   have H1 : (impl_readPart.j0 k a0 1 (⟨#[42]⟩ : ByteArray) (⟨#[]⟩ : ByteArray)) = some (r1, r2, r3, r4) := by rw [if_pos rfl] at H; exact H
   clear H
   have H := H1
   clear H1
   have H' := Aside0.mk H
   clear H
   have hnb9 := NB207_206.out
   have hnc9 := NB206_207.out
   have hcz10_0 := bc3_0 BK207.out
   have hcz10_1 := bc3_1 BK207.out
   have hcz10_2 := bc3_2 BK207.out
   have hfz10_0 := blk_frozen BK207.out 0
   have hfz10_1 := blk_frozen BK207.out 1
   have hfz10_2 := blk_frozen BK207.out 2
   go_wp2
   go_meet
   case rel => exact ⟨_, (1), ((⟨#[42]⟩ : ByteArray)), sv_, H', ⟨by first | omega | exact Nat.le_refl _⟩, ⟨by (with_reducible repeat (first | refine blk_drewN ?_ _ | refine blk_drew ?_ | refine blk_alloc ?_ _)); refine blk_far ?_ NB206_207.out _; (with_reducible repeat (first | refine blk_drewN ?_ _ | refine blk_drew ?_ | refine blk_alloc ?_ _)); refine blk_far ?_ NB206_207.out _; (with_reducible repeat (first | refine blk_drewN ?_ _ | refine blk_drew ?_ | refine blk_alloc ?_ _)); refine blk_far ?_ NB206_207.out _; (with_reducible repeat (first | refine blk_drewN ?_ _ | refine blk_drew ?_ | refine blk_alloc ?_ _)); refine blk_far ?_ NB206_207.out _; (with_reducible repeat (first | refine blk_drewN ?_ _ | refine blk_drew ?_ | refine blk_alloc ?_ _)); exact BK206.out⟩, ⟨by (with_reducible repeat (first | refine blk_drewN ?_ _ | refine blk_drew ?_ | refine blk_alloc ?_ _)); refine blk_put (cs := #[.string (⟨#[]⟩ : ByteArray), .string (⟨#[]⟩ : ByteArray), .slice none 0 0]) ?_ 0 _ rfl; (with_reducible repeat (first | refine blk_drewN ?_ _ | refine blk_drew ?_ | refine blk_alloc ?_ _)); refine blk_put (cs := #[.string (⟨#[]⟩ : ByteArray), .string (⟨#[]⟩ : ByteArray), .slice none 0 0]) ?_ 2 _ rfl; (with_reducible repeat (first | refine blk_drewN ?_ _ | refine blk_drew ?_ | refine blk_alloc ?_ _)); refine blk_put (cs := #[.string (⟨#[]⟩ : ByteArray), .string (⟨#[]⟩ : ByteArray), .slice none 0 0]) ?_ 1 _ rfl; (with_reducible repeat (first | refine blk_drewN ?_ _ | refine blk_drew ?_ | refine blk_alloc ?_ _)); refine blk_put (cs := #[.string (⟨#[]⟩ : ByteArray), .string (⟨#[]⟩ : ByteArray), .slice none 0 0]) ?_ 0 _ rfl; (with_reducible repeat (first | refine blk_drewN ?_ _ | refine blk_drew ?_ | refine blk_alloc ?_ _)); exact BK207.out⟩, ⟨bes_⟩⟩
  ·replace c8 := Bool.eq_false_iff.mpr c8
   subst c8
   have H1 : ((impl_wordEnd.f k a0 0).bind fun t209 => (if 0 ≤ t209 then (if t209 ≤ (a0.size : Int) then (impl_readPart.j0 k a0 t209 (a0.extract 0 (t209 : Int).toNat) (⟨#[]⟩ : ByteArray)) else (none)) else (none))) = some (r1, r2, r3, r4) := by rw [if_neg (show ¬ (false = true) by decide)] at H; exact H
   clear H
   have H := H1
   clear H1
   replace H := Option.bind_eq_some_iff.mp H
   obtain ⟨t209, A110, H⟩ := H
   replace H : (if 0 ≤ t209 then (if t209 ≤ (a0.size : Int) then (impl_readPart.j0 k a0 t209 (a0.extract 0 (t209 : Int).toNat) (⟨#[]⟩ : ByteArray)) else (none)) else (none)) = some (r1, r2, r3, r4) := H
   have A11 := Aside0.mk A110
   clear A110
   by_cases c12 : 0 ≤ t209
   ·rw [if_pos c12] at H
    have c12b0 := eq_true c12
    have c12b1 : decide (0 ≤ t209) = true := decide_eq_true c12
    clear c12
    by_cases c13 : t209 ≤ (a0.size : Int)
    ·rw [if_pos c13] at H
     have c13b0 := eq_true c13
     have c13b1 : decide (t209 ≤ (a0.size : Int)) = true := decide_eq_true c13
     clear c13
     have H' := Aside0.mk H
     clear H
     go_wp2_with (first | ((with_reducible refine gate_callee (f := 164) rfl ?_); refine goesL_ (some 13) rfl rfl Tryd.func164 (by kernel_rfl) rfl #[.string a0, .int .i64 0] rfl au_ ?_; (with_reducible refine (impl_wordEnd.calls k a0 0 t209 _ A11.out).mono ?_); rintro e w' ⟨rfl, ⟨nd, rfl⟩⟩; refine ⟨_, rfl, ?_⟩; have hnb14 := NB207_206.out; have hnc14 := NB206_207.out; have hcz15_0 := bc3_0 BK207.out; have hcz15_1 := bc3_1 BK207.out; have hcz15_2 := bc3_2 BK207.out; have hfz15_0 := blk_frozen BK207.out 0; have hfz15_1 := blk_frozen BK207.out 1; have hfz15_2 := blk_frozen BK207.out 2))
     go_meet
     case rel => exact ⟨_, (t209), (a0.extract 0 (t209 : Int).toNat), sv_, H', ⟨by first | omega | exact Nat.le_refl _⟩, ⟨by (with_reducible repeat (first | refine blk_drewN ?_ _ | refine blk_drew ?_ | refine blk_alloc ?_ _)); refine blk_far ?_ NB206_207.out _; (with_reducible repeat (first | refine blk_drewN ?_ _ | refine blk_drew ?_ | refine blk_alloc ?_ _)); refine blk_far ?_ NB206_207.out _; (with_reducible repeat (first | refine blk_drewN ?_ _ | refine blk_drew ?_ | refine blk_alloc ?_ _)); refine blk_far ?_ NB206_207.out _; (with_reducible repeat (first | refine blk_drewN ?_ _ | refine blk_drew ?_ | refine blk_alloc ?_ _)); refine blk_far ?_ NB206_207.out _; (with_reducible repeat (first | refine blk_drewN ?_ _ | refine blk_drew ?_ | refine blk_alloc ?_ _)); exact BK206.out⟩, ⟨by (with_reducible repeat (first | refine blk_drewN ?_ _ | refine blk_drew ?_ | refine blk_alloc ?_ _)); refine blk_put (cs := #[.string (⟨#[]⟩ : ByteArray), .string (⟨#[]⟩ : ByteArray), .slice none 0 0]) ?_ 0 _ rfl; (with_reducible repeat (first | refine blk_drewN ?_ _ | refine blk_drew ?_ | refine blk_alloc ?_ _)); refine blk_put (cs := #[.string (⟨#[]⟩ : ByteArray), .string (⟨#[]⟩ : ByteArray), .slice none 0 0]) ?_ 2 _ rfl; (with_reducible repeat (first | refine blk_drewN ?_ _ | refine blk_drew ?_ | refine blk_alloc ?_ _)); refine blk_put (cs := #[.string (⟨#[]⟩ : ByteArray), .string (⟨#[]⟩ : ByteArray), .slice none 0 0]) ?_ 1 _ rfl; (with_reducible repeat (first | refine blk_drewN ?_ _ | refine blk_drew ?_ | refine blk_alloc ?_ _)); refine blk_put (cs := #[.string (⟨#[]⟩ : ByteArray), .string (⟨#[]⟩ : ByteArray), .slice none 0 0]) ?_ 0 _ rfl; (with_reducible repeat (first | refine blk_drewN ?_ _ | refine blk_drew ?_ | refine blk_alloc ?_ _)); exact BK207.out⟩, ⟨bes_⟩⟩
    ·rw [if_neg c13] at H
     exact absurd H (by simp)
   ·rw [if_neg c12] at H
    exact absurd H (by simp)
 case rest =>
  clear HC3
  (try clear c1);(try clear p2);(try clear c6);(try clear c8);(try clear c9);(try clear c12);(try clear c12b0 c12b1);(try clear c13);(try clear c13b0 c13b1);(try clear c14);(try clear c15);(try clear hcz10_0 hcz10_1 hcz10_2);(try clear hcz15_0 hcz15_1 hcz15_2);(try clear hcz7_0 hcz7_1 hcz7_2);(try clear hfz10_0 hfz10_1 hfz10_2);(try clear hfz15_0 hfz15_1 hfz15_2);(try clear hfz7_0 hfz7_1 hfz7_2)
  obtain ⟨kq, x5_2, x208000_2, rfl, HA, HJ2, BK206, BK207, HB⟩ := hcut
  cases kq with
  | zero => exact absurd HA.out (by simp [impl_readPart.j0])
  | succ kj2 =>
   have H := HA.out
   clear HA
   simp only [impl_readPart.j0] at H
   have H' := Aside0.mk H
   clear H
   go_wp2
   go_loopg [5] kj2 (fun kq v5 w' => ∃ (x5_2 : Int) (x207000_2 : ByteArray) (x207001_2 : ByteArray) (x208001_2 : ByteArray) (x208002_2 : List ByteArray) (u208002 : Value), v5 = .int .i64 x5_2 ∧ Aside0 (impl_readPart.l0 kq a0 x5_2 x208000_2 x208001_2 x208002_2 = some (r1, r2, r3, r4)) ∧ Aside0 (kq ≤ kj2) ∧ Aside0 (Kd.R Kd.string 9 w' w.heap.size (fun _ => True) u208002 x208002_2) ∧ Aside0 (w'.heap[gb206]? = some (.cells #[.string x207000_2, .string x207001_2, (.slice none 0 0)] 71 (0, 0))) ∧ Aside0 (w'.heap[gb207]? = some (.cells #[.string x208000_2, .string x208001_2, u208002] 71 (0, 0))) ∧ Aside0 (Below w.heap.size w w'))
   case atStart => exact ⟨(x5_2), ((⟨#[]⟩ : ByteArray)), ((⟨#[]⟩ : ByteArray)), ((⟨#[]⟩ : ByteArray)), (([] : List ByteArray)), (.slice none 0 0), sv_, H', ⟨Nat.le_refl _⟩, ⟨by first | exact Kd.R_nil _ _ _ _ _ | exact Kd.N_nil _ _ _ _ _ | exact Kd.V_nil _ _ _ _ _ | exact Kd.Q_nil _ _ _ _ _ | exact Kd.S_nil _ _ _ _ _⟩, ⟨by (with_reducible repeat (first | refine blk_drewN ?_ _ | refine blk_drew ?_ | refine blk_alloc ?_ _)); exact BK206.out⟩, ⟨by (with_reducible repeat (first | refine blk_drewN ?_ _ | refine blk_drew ?_ | refine blk_alloc ?_ _)); exact BK207.out⟩, ⟨bes_⟩⟩
   case round =>
    clear H'
    (try clear c1);(try clear p2);(try clear c6);(try clear c8);(try clear c9);(try clear c12);(try clear c12b0 c12b1);(try clear c13);(try clear c13b0 c13b1);(try clear c14);(try clear c15);(try clear hcz10_0 hcz10_1 hcz10_2);(try clear hcz15_0 hcz15_1 hcz15_2);(try clear hcz7_0 hcz7_1 hcz7_2);(try clear hfz10_0 hfz10_1 hfz10_2);(try clear hfz15_0 hfz15_1 hfz15_2);(try clear hfz7_0 hfz7_1 hfz7_2);(try clear p2)
    obtain ⟨x5_2, x207000_2, x207001_2, x208001_2, x208002_2, u208002, rfl, HA, HK2, HO_208002, BK206, BK207, HB⟩ := hrel
    cases gk with
    | zero => exact absurd HA.out (by simp [impl_readPart.l0])
    | succ k2 =>
     have H := HA.out
     clear HA
     simp only [impl_readPart.l0] at H
     by_cases c16 : x5_2 < (a0.size : Int)
     ·rw [if_pos c16] at H
      have c16b0 : decide (x5_2 < (a0.size : Int)) = true := decide_eq_true c16
      clear c16
      replace H := Option.bind_eq_some_iff.mp H
      obtain ⟨t211, A170, H⟩ := H
      replace H : (if 0 ≤ (wrap64 (x5_2 + 1)) then (if (wrap64 (x5_2 + 1)) ≤ t211 then (if t211 ≤ (a0.size : Int) then ((impl_isWord.f k2 (a0.extract ((wrap64 (x5_2 + 1)) : Int).toNat (t211 : Int).toNat)).bind fun t212 => (if t212 = true then (if 0 ≤ x5_2 then (if (bt a0 x5_2) = 35 then (if x208001_2.toList = ([] : List UInt8) then (impl_readPart.j2 k2 a0 x5_2 t211 (a0.extract ((wrap64 (x5_2 + 1)) : Int).toNat (t211 : Int).toNat) ((x208002_2.length : Int) == 0) x208000_2 x208001_2 x208002_2) else (impl_readPart.j2 k2 a0 x5_2 t211 (a0.extract ((wrap64 (x5_2 + 1)) : Int).toNat (t211 : Int).toNat) false x208000_2 x208001_2 x208002_2)) else (impl_readPart.j2 k2 a0 x5_2 t211 (a0.extract ((wrap64 (x5_2 + 1)) : Int).toNat (t211 : Int).toNat) false x208000_2 x208001_2 x208002_2)) else (none)) else (some ((⟨#[]⟩ : ByteArray), (⟨#[]⟩ : ByteArray), ([] : List ByteArray), false)))) else (none)) else (none)) else (none)) = some (r1, r2, r3, r4) := H
      have A17 := Aside0.mk A170
      clear A170
      obtain ⟨ji18, hji18⟩ : ∃ j_ : Int, (wrap64 (x5_2 + 1)) = j_ := ⟨_, rfl⟩
      replace H : (if 0 ≤ (ji18) then (if (ji18) ≤ t211 then (if t211 ≤ (a0.size : Int) then ((impl_isWord.f k2 (a0.extract ((ji18) : Int).toNat (t211 : Int).toNat)).bind fun t212 => (if t212 = true then (if 0 ≤ x5_2 then (if (bt a0 x5_2) = 35 then (if x208001_2.toList = ([] : List UInt8) then (impl_readPart.j2 k2 a0 x5_2 t211 (a0.extract ((ji18) : Int).toNat (t211 : Int).toNat) ((x208002_2.length : Int) == 0) x208000_2 x208001_2 x208002_2) else (impl_readPart.j2 k2 a0 x5_2 t211 (a0.extract ((ji18) : Int).toNat (t211 : Int).toNat) false x208000_2 x208001_2 x208002_2)) else (impl_readPart.j2 k2 a0 x5_2 t211 (a0.extract ((ji18) : Int).toNat (t211 : Int).toNat) false x208000_2 x208001_2 x208002_2)) else (none)) else (some ((⟨#[]⟩ : ByteArray), (⟨#[]⟩ : ByteArray), ([] : List ByteArray), false)))) else (none)) else (none)) else (none)) = some (r1, r2, r3, r4) := by first | (rw [hji18] at H; exact H) | (simp only [hji18] at H ⊢; exact H)
      (try rw [hji18] at A17)
      have hji18w : (IntKind.i64.wrap (x5_2 + 1)) = ji18 := (i64_w _).trans hji18
      by_cases c19 : 0 ≤ (ji18)
      ·rw [if_pos c19] at H
       have c19b0 := eq_true c19
       have c19b1 : decide (0 ≤ (ji18)) = true := decide_eq_true c19
       clear c19
       by_cases c20 : (ji18) ≤ t211
       ·rw [if_pos c20] at H
        have c20b0 := eq_true c20
        have c20b1 : decide ((ji18) ≤ t211) = true := decide_eq_true c20
        clear c20
        by_cases c21 : t211 ≤ (a0.size : Int)
        ·rw [if_pos c21] at H
         have c21b0 := eq_true c21
         have c21b1 : decide (t211 ≤ (a0.size : Int)) = true := decide_eq_true c21
         clear c21
         replace H := Option.bind_eq_some_iff.mp H
         obtain ⟨t212, A220, H⟩ := H
         replace H : (if t212 = true then (if 0 ≤ x5_2 then (if (bt a0 x5_2) = 35 then (if x208001_2.toList = ([] : List UInt8) then (impl_readPart.j2 k2 a0 x5_2 t211 (a0.extract ((ji18) : Int).toNat (t211 : Int).toNat) ((x208002_2.length : Int) == 0) x208000_2 x208001_2 x208002_2) else (impl_readPart.j2 k2 a0 x5_2 t211 (a0.extract ((ji18) : Int).toNat (t211 : Int).toNat) false x208000_2 x208001_2 x208002_2)) else (impl_readPart.j2 k2 a0 x5_2 t211 (a0.extract ((ji18) : Int).toNat (t211 : Int).toNat) false x208000_2 x208001_2 x208002_2)) else (none)) else (some ((⟨#[]⟩ : ByteArray), (⟨#[]⟩ : ByteArray), ([] : List ByteArray), false))) = some (r1, r2, r3, r4) := H
         have A22 := Aside0.mk A220
         clear A220
         by_cases c23 : t212 = true
         ·subst c23
          have H1 : (if 0 ≤ x5_2 then (if (bt a0 x5_2) = 35 then (if x208001_2.toList = ([] : List UInt8) then (impl_readPart.j2 k2 a0 x5_2 t211 (a0.extract ((ji18) : Int).toNat (t211 : Int).toNat) ((x208002_2.length : Int) == 0) x208000_2 x208001_2 x208002_2) else (impl_readPart.j2 k2 a0 x5_2 t211 (a0.extract ((ji18) : Int).toNat (t211 : Int).toNat) false x208000_2 x208001_2 x208002_2)) else (impl_readPart.j2 k2 a0 x5_2 t211 (a0.extract ((ji18) : Int).toNat (t211 : Int).toNat) false x208000_2 x208001_2 x208002_2)) else (none)) = some (r1, r2, r3, r4) := by rw [if_pos rfl] at H; exact H
          clear H
          have H := H1
          clear H1
          have HC24 := Aside0.mk H
          clear H
          go_upto_region 12 with (first | ((with_reducible refine gate_callee (f := 164) rfl ?_); refine goesL_ (some 25) rfl rfl Tryd.func164 (by kernel_rfl) rfl #[.string a0, .int .i64 ji18] rfl (by (try simp only [List.map_toArray, List.map_cons, List.map_nil]); first | done | (simp only [hji18]; rfl) | rfl | (simp only [List.length_drop, List.length_take]; rfl)) ?_; (with_reducible refine (impl_wordEnd.calls k2 a0 ji18 t211 _ A17.out).mono ?_); rintro e w' ⟨rfl, ⟨nd, rfl⟩⟩; refine ⟨_, rfl, ?_⟩) | ((with_reducible refine gate_callee (f := 140) rfl ?_); refine goesL_ (some 34) rfl rfl Tryd.func140 (by kernel_rfl) rfl #[.string (a0.extract ((ji18) : Int).toNat (t211 : Int).toNat)] rfl (by (try simp only [List.map_toArray, List.map_cons, List.map_nil]); first | done | (simp only [hji18]; rfl) | rfl | (simp only [List.length_drop, List.length_take]; rfl)) ?_; (with_reducible refine (impl_isWord.calls k2 (a0.extract ((ji18) : Int).toNat (t211 : Int).toNat) true _ A22.out).mono ?_); rintro e w' ⟨rfl, ⟨nd, rfl⟩⟩; refine ⟨_, rfl, ?_⟩))
          (try simp only [Act.put, List.setIfInBounds_toArray, List.set_cons_zero, List.set_cons_succ])
          go_cut [37] (fun v37 wc => ∃ (kq : Nat) (x37_23 : Bool), v37 = .bool x37_23 ∧ Aside0 (impl_readPart.j2 kq a0 x5_2 t211 (a0.extract ((ji18) : Int).toNat (t211 : Int).toNat) x37_23 x208000_2 x208001_2 x208002_2 = some (r1, r2, r3, r4)) ∧ Aside0 (kq ≤ k2) ∧ Aside0 (Kd.R Kd.string 9 wc w.heap.size (fun _ => True) u208002 x208002_2) ∧ Aside0 (wc.heap[gb206]? = some (.cells #[.string x207000_2, .string x207001_2, (.slice none 0 0)] 71 (0, 0))) ∧ Aside0 (wc.heap[gb207]? = some (.cells #[.string x208000_2, .string x208001_2, u208002] 71 (0, 0))) ∧ Aside0 (Below w.heap.size w wc))
          case first =>
           have H := HC24.out
           clear HC24
           by_cases c25 : 0 ≤ x5_2
           ·rw [if_pos c25] at H
            have c25b0 : decide (0 ≤ x5_2) = true := decide_eq_true c25
            clear c25
            (first | rw [c25b0] | (simp only [i64_w, i32_w]; rw [c25b0]) | skip)
            by_cases c27 : (bt a0 x5_2) = 35
            ·rw [if_pos c27] at H
             have c27b0 : ((bt a0 x5_2) == 35) = true := beq_iff_eq.mpr c27
             have c27b1 : ((bt a0 x5_2) != 35) = false := bne_eq_false_iff_eq.mpr c27
             clear c27
             by_cases c28 : x208001_2.toList = ([] : List UInt8)
             ·rw [if_pos c28] at H
              have c28b0 : (x208001_2.toList == ([] : List UInt8)) = true := beq_iff_eq.mpr c28
              have c28b7 : x208001_2.toList.isEmpty = true := by rw [beq_iff_eq.mp c28b0]; rfl
              have c28b8 : ¬ (x208001_2.toList.isEmpty = false) := fun h_ => by have h9_ := beq_iff_eq.mp c28b0; rw [h9_] at h_; cases h_
              have c28b1 : (x208001_2.toList != ([] : List UInt8)) = false := bne_eq_false_iff_eq.mpr c28
              clear c28
              have H' := Aside0.mk H
              clear H
              have p26 : 0 ≤ (x5_2 : Int) := of_decide_eq_true am_
              have q26 : x5_2 < (a0.size : Int) := of_decide_eq_true am_
              have hx26 := bt_at a0 x5_2
              replace p26 := eq_true p26
              replace q26 := eq_true q26
              have hnb29 := NB207_206.out
              have hnc29 := NB206_207.out
              have hcz30_0 := bc3_0 BK207.out
              have hcz30_1 := bc3_1 BK207.out
              have hcz30_2 := bc3_2 BK207.out
              have hfz30_0 := blk_frozen BK207.out 0
              have hfz30_1 := blk_frozen BK207.out 1
              have hfz30_2 := blk_frozen BK207.out 2
              obtain ⟨Ao31, co31, eo31⟩ := Kd.R_slice HO_208002.out
              subst eo31
              go_wp2
              go_meet
              case rel => exact ⟨_, (((x208002_2.length : Int) == 0)), sv_, H', ⟨by have := HJ2.out; have := HK2.out; first | omega | exact Nat.le_refl _⟩, ⟨by (with_reducible repeat (first | apply Kd.R_alloc | apply Kd.R_drewN | apply Kd.R_drew)); exact HO_208002.out⟩, ⟨by (with_reducible repeat (first | refine blk_drewN ?_ _ | refine blk_drew ?_ | refine blk_alloc ?_ _)); exact BK206.out⟩, ⟨by (with_reducible repeat (first | refine blk_drewN ?_ _ | refine blk_drew ?_ | refine blk_alloc ?_ _)); exact BK207.out⟩, ⟨bes_⟩⟩
             ·rw [if_neg c28] at H
              have c28b0 : (x208001_2.toList == ([] : List UInt8)) = false := beq_eq_false_iff_ne.mpr c28
              have c28b7 : x208001_2.toList.isEmpty = false := Bool.eq_false_iff.mpr (fun h_ => absurd (List.isEmpty_iff.mp h_) (beq_eq_false_iff_ne.mp c28b0))
              have c28b8 : ¬ (x208001_2.toList.isEmpty = true) := fun h_ => absurd (List.isEmpty_iff.mp h_) (beq_eq_false_iff_ne.mp c28b0)
              have c28b1 : (x208001_2.toList != ([] : List UInt8)) = true := bne_iff_ne.mpr c28
              have H' := Aside0.mk H
              clear H
              have p26 : 0 ≤ (x5_2 : Int) := of_decide_eq_true am_
              have q26 : x5_2 < (a0.size : Int) := of_decide_eq_true am_
              have hx26 := bt_at a0 x5_2
              replace p26 := eq_true p26
              replace q26 := eq_true q26
              have hnb32 := NB207_206.out
              have hnc32 := NB206_207.out
              have hcz33_0 := bc3_0 BK207.out
              have hcz33_1 := bc3_1 BK207.out
              have hcz33_2 := bc3_2 BK207.out
              have hfz33_0 := blk_frozen BK207.out 0
              have hfz33_1 := blk_frozen BK207.out 1
              have hfz33_2 := blk_frozen BK207.out 2
              go_wp2
              go_meet
              case rel => exact ⟨_, (false), sv_, H', ⟨by have := HJ2.out; have := HK2.out; first | omega | exact Nat.le_refl _⟩, ⟨by (with_reducible repeat (first | apply Kd.R_alloc | apply Kd.R_drewN | apply Kd.R_drew)); exact HO_208002.out⟩, ⟨by (with_reducible repeat (first | refine blk_drewN ?_ _ | refine blk_drew ?_ | refine blk_alloc ?_ _)); exact BK206.out⟩, ⟨by (with_reducible repeat (first | refine blk_drewN ?_ _ | refine blk_drew ?_ | refine blk_alloc ?_ _)); exact BK207.out⟩, ⟨bes_⟩⟩
            ·rw [if_neg c27] at H
             have c27b0 : ((bt a0 x5_2) == 35) = false := beq_eq_false_iff_ne.mpr c27
             have c27b1 : ((bt a0 x5_2) != 35) = true := bne_iff_ne.mpr c27
             have H' := Aside0.mk H
             clear H
             have p26 : 0 ≤ (x5_2 : Int) := of_decide_eq_true am_
             have q26 : x5_2 < (a0.size : Int) := of_decide_eq_true am_
             have hx26 := bt_at a0 x5_2
             replace p26 := eq_true p26
             replace q26 := eq_true q26
             go_wp2
             go_meet
             case rel => exact ⟨_, (false), sv_, H', ⟨by have := HJ2.out; have := HK2.out; first | omega | exact Nat.le_refl _⟩, ⟨by (with_reducible repeat (first | apply Kd.R_alloc | apply Kd.R_drewN | apply Kd.R_drew)); exact HO_208002.out⟩, ⟨by (with_reducible repeat (first | refine blk_drewN ?_ _ | refine blk_drew ?_ | refine blk_alloc ?_ _)); exact BK206.out⟩, ⟨by (with_reducible repeat (first | refine blk_drewN ?_ _ | refine blk_drew ?_ | refine blk_alloc ?_ _)); exact BK207.out⟩, ⟨bes_⟩⟩
           ·rw [if_neg c25] at H
            exact absurd H (by simp)
          case rest =>
           clear HC24
           (try clear c1);(try clear c2);(try clear p2);(try clear q2);(try clear hx2);(try clear c3);(try clear c6);(try clear p6);(try clear c8);(try clear c9);(try clear c12);(try clear c12b0 c12b1);(try clear c13);(try clear c13b0 c13b1);(try clear c14);(try clear c15);(try clear c16);(try clear c16b0);(try clear c18);(try clear c19);(try clear c19b0 c19b1);(try clear c20);(try clear c20b0 c20b1);(try clear c21);(try clear c21b0 c21b1);(try clear c23);(try clear c25);(try clear c25b0);(try clear p26);(try clear q26);(try clear hx26);(try clear c27);(try clear c27b0 c27b1);(try clear c28);(try clear c28b0 c28b1);(try clear c29);(try clear c32);(try clear hcz10_0 hcz10_1 hcz10_2);(try clear hcz15_0 hcz15_1 hcz15_2);(try clear hcz30_0 hcz30_1 hcz30_2)
           (try clear hcz33_0 hcz33_1 hcz33_2);(try clear hcz7_0 hcz7_1 hcz7_2);(try clear hfz10_0 hfz10_1 hfz10_2);(try clear hfz15_0 hfz15_1 hfz15_2);(try clear hfz30_0 hfz30_1 hfz30_2);(try clear hfz33_0 hfz33_1 hfz33_2);(try clear hfz7_0 hfz7_1 hfz7_2);(try clear p2);(try clear p26);(try clear q26)
           obtain ⟨kq, x37_23, rfl, HA, HJ23, HO_208002, BK206, BK207, HB⟩ := hcut
           cases kq with
           | zero => exact absurd HA.out (by simp [impl_readPart.j2])
           | succ kj23 =>
            have H := HA.out
            clear HA
            simp only [impl_readPart.j2] at H
            by_cases c34 : x37_23 = true
            ·subst c34
             have H1 : (impl_readPart.l0 kj23 a0 t211 x208000_2 (a0.extract ((ji18) : Int).toNat (t211 : Int).toNat) x208002_2) = some (r1, r2, r3, r4) := by rw [if_pos rfl] at H; exact H
             clear H
             have H := H1
             clear H1
             have H' := Aside0.mk H
             clear H
             have hnb35 := NB207_206.out
             have hnc35 := NB206_207.out
             have hcz36_0 := bc3_0 BK207.out
             have hcz36_1 := bc3_1 BK207.out
             have hcz36_2 := bc3_2 BK207.out
             have hfz36_0 := blk_frozen BK207.out 0
             have hfz36_1 := blk_frozen BK207.out 1
             have hfz36_2 := blk_frozen BK207.out 2
             go_wp2
             go_roundg kj23
             case measure => have := HJ2.out; have := HK2.out; have := HJ23.out; omega
             case rel => exact ⟨(t211), (x207000_2), (x207001_2), ((a0.extract ((ji18) : Int).toNat (t211 : Int).toNat)), (x208002_2), (u208002), sv_, H', ⟨by have := HJ2.out; have := HK2.out; have := HJ23.out; omega⟩, ⟨by (with_reducible repeat (first | apply Kd.R_alloc | apply Kd.R_drewN | apply Kd.R_drew)); exact Kd.R_mono (Kd.R_far (p := ⟨gb207, 1, none⟩) (Kd.R_types HO_208002.out BK207.out (by decide)) (fun _ hk => hk.2) (.string (a0.extract ((ji18) : Int).toNat (t211 : Int).toNat))) (fun _ hk => trivial)⟩, ⟨by (with_reducible repeat (first | refine blk_drewN ?_ _ | refine blk_drew ?_ | refine blk_alloc ?_ _)); refine blk_far ?_ NB206_207.out _; (with_reducible repeat (first | refine blk_drewN ?_ _ | refine blk_drew ?_ | refine blk_alloc ?_ _)); exact BK206.out⟩, ⟨by (with_reducible repeat (first | refine blk_drewN ?_ _ | refine blk_drew ?_ | refine blk_alloc ?_ _)); refine blk_put (cs := #[.string x208000_2, .string x208001_2, u208002]) ?_ 1 _ rfl; (with_reducible repeat (first | refine blk_drewN ?_ _ | refine blk_drew ?_ | refine blk_alloc ?_ _)); exact BK207.out⟩, ⟨bes_⟩⟩
            ·replace c34 := Bool.eq_false_iff.mpr c34
             subst c34
             have H1 : (if 0 ≤ x5_2 then (if x5_2 < (a0.size : Int) then (if (bt a0 x5_2) = 46 then (if x208002_2.length < 8796093022208 then (impl_readPart.l0 kj23 a0 t211 x208000_2 x208001_2 (x208002_2 ++ [(a0.extract ((ji18) : Int).toNat (t211 : Int).toNat)])) else (none)) else (some ((⟨#[]⟩ : ByteArray), (⟨#[]⟩ : ByteArray), ([] : List ByteArray), false))) else (none)) else (none)) = some (r1, r2, r3, r4) := by rw [if_neg (show ¬ (false = true) by decide)] at H; exact H
             clear H
             have H := H1
             clear H1
             by_cases c37 : 0 ≤ x5_2
             ·rw [if_pos c37] at H
              have c37b0 : decide (0 ≤ x5_2) = true := decide_eq_true c37
              clear c37
              by_cases c38 : x5_2 < (a0.size : Int)
              ·rw [if_pos c38] at H
               have c38b0 : decide (x5_2 < (a0.size : Int)) = true := decide_eq_true c38
               clear c38
               by_cases c40 : (bt a0 x5_2) = 46
               ·rw [if_pos c40] at H
                have c40b0 : ((bt a0 x5_2) == 46) = true := beq_iff_eq.mpr c40
                have c40b1 : ((bt a0 x5_2) != 46) = false := bne_eq_false_iff_eq.mpr c40
                clear c40
                by_cases c41 : x208002_2.length < 8796093022208
                ·rw [if_pos c41] at H
                 have LMc41 := Aside0.mk c41
                 clear c41
                 obtain ⟨y213, hy213⟩ : ∃ y_ : List ByteArray, y_ = (x208002_2 ++ [(a0.extract ((ji18) : Int).toNat (t211 : Int).toNat)]) := ⟨_, rfl⟩
                 replace H : (impl_readPart.l0 kj23 a0 t211 x208000_2 x208001_2 y213) = some (r1, r2, r3, r4) := by first | (rw [hy213]; with_reducible exact H) | (have H2_ := (Option.bind_some _ _).symm.trans H; rw [hy213]; with_reducible exact H2_) | (have H2_ := (Option.bind_some _ _).symm.trans H; with_reducible exact H2_) | with_reducible exact H | (rw [hy213]; exact H) | exact H
                 have Ny213 := Aside0.mk hy213
                 clear hy213
                 have H' := Aside0.mk H
                 clear H
                 have p39 : 0 ≤ (x5_2 : Int) := of_decide_eq_true am_
                 have q39 : x5_2 < (a0.size : Int) := of_decide_eq_true am_
                 have hx39 := bt_at a0 x5_2
                 replace p39 := eq_true p39
                 replace q39 := eq_true q39
                 have hnb42 := NB207_206.out
                 have hnc42 := NB206_207.out
                 have hcz43_0 := bc3_0 BK207.out
                 have hcz43_1 := bc3_1 BK207.out
                 have hcz43_2 := bc3_2 BK207.out
                 have hfz43_0 := blk_frozen BK207.out 0
                 have hfz43_1 := blk_frozen BK207.out 1
                 have hfz43_2 := blk_frozen BK207.out 2
                 go_wp2_with (first | ((with_reducible refine gate_builtin (b := .append) (xs := #[.tmp 61, .tmp 63]) rfl ?_); (try (refine gate_guard (by rfl) ?_; dsimp only)); at_builtin; refine Kd.R_append Kd.string (w0 := w) w.heap.size rfl (.tmp 61) (.tmp 63) 51 9 (.string ⟨#[]⟩) 16 rfl Tryd.underlying51 info9 rfl (by decide) (by omega) u208002 x208002_2 (a0.extract ((ji18) : Int).toNat (t211 : Int).toNat) [.string (a0.extract ((ji18) : Int).toNat (t211 : Int).toNat)] (fun _ => True) (fun _ => False) rfl rfl ?aP (fun _ hk => hk.elim) ?aF ?aO ?aB ?aS ?aL ?_; (case aP => exact rfl); (case aB => exact bes_); (case aF => exact (fun _ _ => trivial)); (case aO => exact (kdR_ HO_208002.out)); (case aS => exact (below_size bes_)); (case aL => have := LMc41.out; omega); intro v214 w44 ho hb hg hat; rw [← Ny213.out] at ho; have n0_ := Aside0.mk (blk_grown (g := gb206) (o := .cells #[.string x207000_2, .string x207001_2, .slice none 0 0] 71 (0, 0)) (bk_ BK206.out) hg (Kd.R_ne HO_208002.out BK206.out (by decide))); have n1_ := Aside0.mk (blk_grown (g := gb207) (o := .cells #[.string x208000_2, .string x208001_2, u208002] 71 (0, 0)) (bk_ BK207.out) hg (Kd.R_ne HO_208002.out BK207.out (by decide))); have n2_ := Aside0.mk (hb); have n3_ := Aside0.mk (ho); clear BK206; clear BK207; clear HB; clear HO_208002; have BK206 := n0_; have BK207 := n1_; have HB := n2_; have HO215 := n3_; clear n0_ n1_ n2_ n3_; clear ho hb hg hat; obtain ⟨Ao45, co45, eo45⟩ := Kd.R_slice HO215.out; subst eo45; have hcz46_0 := bc3_0 BK207.out; have hcz46_1 := bc3_1 BK207.out; have hcz46_2 := bc3_2 BK207.out; have hfz46_0 := blk_frozen BK207.out 0; have hfz46_1 := blk_frozen BK207.out 1; have hfz46_2 := blk_frozen BK207.out 2))
                 go_roundg kj23
                 case measure => have := HJ2.out; have := HK2.out; have := HJ23.out; omega
                 case rel => exact ⟨(t211), (x207000_2), (x207001_2), (x208001_2), (y213), (.slice Ao45 y213.length co45), sv_, H', ⟨by have := HJ2.out; have := HK2.out; have := HJ23.out; omega⟩, ⟨by (with_reducible repeat (first | apply Kd.R_alloc | apply Kd.R_drewN | apply Kd.R_drew)); exact Kd.R_mono (Kd.R_far (p := ⟨gb207, 2, none⟩) (Kd.R_types HO215.out BK207.out (by decide)) (fun _ hk => hk.2) (.slice Ao45 y213.length co45)) (fun _ hk => trivial)⟩, ⟨by (with_reducible repeat (first | refine blk_drewN ?_ _ | refine blk_drew ?_ | refine blk_alloc ?_ _)); refine blk_far ?_ NB206_207.out _; (with_reducible repeat (first | refine blk_drewN ?_ _ | refine blk_drew ?_ | refine blk_alloc ?_ _)); exact BK206.out⟩, ⟨by (with_reducible repeat (first | refine blk_drewN ?_ _ | refine blk_drew ?_ | refine blk_alloc ?_ _)); refine blk_put (cs := #[.string x208000_2, .string x208001_2, u208002]) ?_ 2 _ rfl; (with_reducible repeat (first | refine blk_drewN ?_ _ | refine blk_drew ?_ | refine blk_alloc ?_ _)); exact BK207.out⟩, ⟨bes_⟩⟩
                ·rw [if_neg c41] at H
                 exact absurd H (by simp)
               ·rw [if_neg c40] at H
                have c40b0 : ((bt a0 x5_2) == 46) = false := beq_eq_false_iff_ne.mpr c40
                have c40b1 : ((bt a0 x5_2) != 46) = true := bne_iff_ne.mpr c40
                simp only [Option.some.injEq, Prod.mk.injEq] at H
                obtain ⟨rfl, rfl, rfl, rfl⟩ := H
                have p39 : 0 ≤ (x5_2 : Int) := of_decide_eq_true am_
                have q39 : x5_2 < (a0.size : Int) := of_decide_eq_true am_
                have hx39 := bt_at a0 x5_2
                replace p39 := eq_true p39
                replace q39 := eq_true q39
                have hnb47 := NB206_207.out
                have hnc47 := NB207_206.out
                have hcz48_0 := bc3_0 BK206.out
                have hcz48_1 := bc3_1 BK206.out
                have hcz48_2 := bc3_2 BK206.out
                have hfz48_0 := blk_frozen BK206.out 0
                have hfz48_1 := blk_frozen BK206.out 1
                have hfz48_2 := blk_frozen BK206.out 2
                go_wp2
                refine bodyPost_ret (results_ct rfl _ _ gb206 71 #[.string (⟨#[]⟩ : ByteArray), .string (⟨#[]⟩ : ByteArray), .slice none 0 0] (0, 0) _ rfl (by (with_reducible repeat (first | refine blk_drewN ?_ _ | refine blk_drew ?_ | refine blk_alloc ?_ _)); refine blk_put (cs := #[.string (⟨#[]⟩ : ByteArray), .string (⟨#[]⟩ : ByteArray), .slice none 0 0]) ?_ 2 _ rfl; (with_reducible repeat (first | refine blk_drewN ?_ _ | refine blk_drew ?_ | refine blk_alloc ?_ _)); refine blk_put (cs := #[.string (⟨#[]⟩ : ByteArray), .string x207001_2, .slice none 0 0]) ?_ 1 _ rfl; (with_reducible repeat (first | refine blk_drewN ?_ _ | refine blk_drew ?_ | refine blk_alloc ?_ _)); refine blk_put (cs := #[.string x207000_2, .string x207001_2, .slice none 0 0]) ?_ 0 _ rfl; (with_reducible repeat (first | refine blk_drewN ?_ _ | refine blk_drew ?_ | refine blk_alloc ?_ _)); exact BK206.out) Tryd.underlying71 rfl (by kernel_rfl)) rfl ?_
                exact ⟨_, by first | rfl | (simp [errW_none, errW_some] <;> rfl) | (simp only [← hji18]; first | rfl | (simp [errW_none, errW_some] <;> rfl)) | (simp [*, errW_none, errW_some] <;> rfl), by first | exact Kd.R_nil _ _ _ _ _ | exact Kd.N_nil _ _ _ _ _ | exact Kd.V_nil _ _ _ _ _ | exact Kd.Q_nil _ _ _ _ _ | exact Kd.S_nil _ _ _ _ _, bes_⟩
              ·rw [if_neg c38] at H
               exact absurd H (by simp)
             ·rw [if_neg c37] at H
              exact absurd H (by simp)
         ·replace c23 := Bool.eq_false_iff.mpr c23
          subst c23
          have H1 : (some ((⟨#[]⟩ : ByteArray), (⟨#[]⟩ : ByteArray), ([] : List ByteArray), false)) = some (r1, r2, r3, r4) := by rw [if_neg (show ¬ (false = true) by decide)] at H; exact H
          clear H
          have H := H1
          clear H1
          simp only [Option.some.injEq, Prod.mk.injEq] at H
          obtain ⟨rfl, rfl, rfl, rfl⟩ := H
          go_wp2_with (first | ((with_reducible refine gate_callee (f := 164) rfl ?_); refine goesL_ (some 25) rfl rfl Tryd.func164 (by kernel_rfl) rfl #[.string a0, .int .i64 ji18] rfl (by (try simp only [List.map_toArray, List.map_cons, List.map_nil]); first | done | (simp only [hji18]; rfl) | rfl | (simp only [List.length_drop, List.length_take]; rfl)) ?_; (with_reducible refine (impl_wordEnd.calls k2 a0 ji18 t211 _ A17.out).mono ?_); rintro e w' ⟨rfl, ⟨nd, rfl⟩⟩; refine ⟨_, rfl, ?_⟩; (try (rw [drewN_self wr]; generalize hq_ : World.drewN wr _ = wr; have n0_ : Aside0 (Kd.R Kd.string 9 wr w.heap.size (fun _ => True) u208002 x208002_2) := ⟨by rw [← hq_]; exact (kdR_ HO_208002.out)⟩; have n1_ : Aside0 (wr.heap[gb206]? = some (.cells #[.string x207000_2, .string x207001_2, .slice none 0 0] 71 (0, 0))) := ⟨by rw [← hq_]; exact (bk_ BK206.out)⟩; have n2_ : Aside0 (wr.heap[gb207]? = some (.cells #[.string x208000_2, .string x208001_2, u208002] 71 (0, 0))) := ⟨by rw [← hq_]; exact (bk_ BK207.out)⟩; have n3_ : Aside0 (Below w.heap.size w wr) := ⟨by rw [← hq_]; exact bes_⟩; clear HO_208002 BK206 BK207 HB hq_; have HO_208002 := n0_; have BK206 := n1_; have BK207 := n2_; have HB := n3_; clear n0_ n1_ n2_ n3_))) | ((with_reducible refine gate_callee (f := 140) rfl ?_); refine goesL_ (some 34) rfl rfl Tryd.func140 (by kernel_rfl) rfl #[.string (a0.extract ((ji18) : Int).toNat (t211 : Int).toNat)] rfl (by (try simp only [List.map_toArray, List.map_cons, List.map_nil]); first | done | (simp only [hji18]; rfl) | rfl | (simp only [List.length_drop, List.length_take]; rfl)) ?_; (with_reducible refine (impl_isWord.calls k2 (a0.extract ((ji18) : Int).toNat (t211 : Int).toNat) false _ A22.out).mono ?_); rintro e w' ⟨rfl, ⟨nd, rfl⟩⟩; refine ⟨_, rfl, ?_⟩; (try (rw [drewN_self wr]; generalize hq_ : World.drewN wr _ = wr; have n0_ : Aside0 (Kd.R Kd.string 9 wr w.heap.size (fun _ => True) u208002 x208002_2) := ⟨by rw [← hq_]; exact (kdR_ HO_208002.out)⟩; have n1_ : Aside0 (wr.heap[gb206]? = some (.cells #[.string x207000_2, .string x207001_2, .slice none 0 0] 71 (0, 0))) := ⟨by rw [← hq_]; exact (bk_ BK206.out)⟩; have n2_ : Aside0 (wr.heap[gb207]? = some (.cells #[.string x208000_2, .string x208001_2, u208002] 71 (0, 0))) := ⟨by rw [← hq_]; exact (bk_ BK207.out)⟩; have n3_ : Aside0 (Below w.heap.size w wr) := ⟨by rw [← hq_]; exact bes_⟩; clear HO_208002 BK206 BK207 HB hq_; have HO_208002 := n0_; have BK206 := n1_; have BK207 := n2_; have HB := n3_; clear n0_ n1_ n2_ n3_)); have hnb49 := NB206_207.out; have hnc49 := NB207_206.out; have hcz50_0 := bc3_0 BK206.out; have hcz50_1 := bc3_1 BK206.out; have hcz50_2 := bc3_2 BK206.out; have hfz50_0 := blk_frozen BK206.out 0; have hfz50_1 := blk_frozen BK206.out 1; have hfz50_2 := blk_frozen BK206.out 2))
          refine bodyPost_ret (results_ct rfl _ _ gb206 71 #[.string (⟨#[]⟩ : ByteArray), .string (⟨#[]⟩ : ByteArray), .slice none 0 0] (0, 0) _ rfl (by (with_reducible repeat (first | refine blk_drewN ?_ _ | refine blk_drew ?_ | refine blk_alloc ?_ _)); refine blk_put (cs := #[.string (⟨#[]⟩ : ByteArray), .string (⟨#[]⟩ : ByteArray), .slice none 0 0]) ?_ 2 _ rfl; (with_reducible repeat (first | refine blk_drewN ?_ _ | refine blk_drew ?_ | refine blk_alloc ?_ _)); refine blk_put (cs := #[.string (⟨#[]⟩ : ByteArray), .string x207001_2, .slice none 0 0]) ?_ 1 _ rfl; (with_reducible repeat (first | refine blk_drewN ?_ _ | refine blk_drew ?_ | refine blk_alloc ?_ _)); refine blk_put (cs := #[.string x207000_2, .string x207001_2, .slice none 0 0]) ?_ 0 _ rfl; (with_reducible repeat (first | refine blk_drewN ?_ _ | refine blk_drew ?_ | refine blk_alloc ?_ _)); exact BK206.out) Tryd.underlying71 rfl (by kernel_rfl)) rfl ?_
          exact ⟨_, by first | rfl | (simp [errW_none, errW_some] <;> rfl) | (simp only [← hji18]; first | rfl | (simp [errW_none, errW_some] <;> rfl)) | (simp [*, errW_none, errW_some] <;> rfl), by first | exact Kd.R_nil _ _ _ _ _ | exact Kd.N_nil _ _ _ _ _ | exact Kd.V_nil _ _ _ _ _ | exact Kd.Q_nil _ _ _ _ _ | exact Kd.S_nil _ _ _ _ _, bes_⟩
        ·rw [if_neg c21] at H
         exact absurd H (by simp)
       ·rw [if_neg c20] at H
        exact absurd H (by simp)
      ·rw [if_neg c19] at H
       exact absurd H (by simp)
     ·rw [if_neg c16] at H
      have c16b0 : decide (x5_2 < (a0.size : Int)) = false := decide_eq_false c16
      clear c16
      replace H := Option.bind_eq_some_iff.mp H
      obtain ⟨t210, A510, H⟩ := H
      replace H : (some (x208000_2, x208001_2, x208002_2, t210)) = some (r1, r2, r3, r4) := H
      have A51 := Aside0.mk A510
      clear A510
      simp only [Option.some.injEq, Prod.mk.injEq] at H
      obtain ⟨rfl, rfl, rfl, rfl⟩ := H
      try go_wp2
      have n0_ := Aside0.mk (Kd.R_drew HO_208002.out)
      have n1_ := Aside0.mk (blk_drew BK206.out)
      have n2_ := Aside0.mk (blk_drew BK207.out)
      have n3_ := Aside0.mk (below_drew1 HB.out)
      clear HO_208002
      clear BK206
      clear BK207
      clear HB
      have HO_208002 := n0_
      have BK206 := n1_
      have BK207 := n2_
      have HB := n3_
      clear n0_ n1_ n2_ n3_
      obtain ⟨Ao53, co53, eo53⟩ := Kd.R_slice HO_208002.out
      (first | subst eo53 | (injection eo53 with f1_ f2_ f3_; have f4_ := f1_.symm; have f5_ := f3_.symm; clear f1_ f2_ f3_; subst f4_; subst f5_))
      refine start_ (n := 5) (S := fun w' => w'.cell? ⟨gb207, 0, none⟩ = some (.string x208000_2) ∧ w'.cell? ⟨gb207, 1, none⟩ = some (.string x208001_2) ∧ w'.cell? ⟨gb207, 2, none⟩ = some (.slice Ao53 x208002_2.length co53)) (ds := []) #[false, false, false, false, false] (by kernel_rfl) rfl rfl ⟨(blk_cell BK207.out 0).trans rfl, (blk_cell BK207.out 1).trans rfl, (blk_cell BK207.out 2).trans rfl⟩ (fun hHeld => ?_)
      generalize wr.drew = w52 at HO_208002 BK206 BK207 HB hHeld ⊢
      refine take_ (i := 0) (N := some 67) (v := ?_) (a' := ?_) #[true, false, false, false, false] rfl rfl (by kernel_rfl) (fun _ _ _ h => h) (Or.inl ⟨by rfl, ?_⟩) hHeld ?_ ?_
      rotate_left
      ·rintro w' ⟨s0, s1, s2⟩
       go_simp
       with_reducible rfl
      rotate_left
      ·simp only [Act.put, List.setIfInBounds_toArray, List.set_cons_zero, List.set_cons_succ, i64_w, i32_w]
       rfl
      refine take_ (i := 1) (N := some 68) (v := ?_) (a' := ?_) #[true, true, false, false, false] rfl rfl (by kernel_rfl) (fun _ _ _ h => h) (Or.inl ⟨by rfl, ?_⟩) hHeld ?_ ?_
      rotate_left
      ·rintro w' ⟨s0, s1, s2⟩
       go_simp
       with_reducible rfl
      rotate_left
      ·simp only [Act.put, List.setIfInBounds_toArray, List.set_cons_zero, List.set_cons_succ, i64_w, i32_w]
       rfl
      refine one_ (i := 2) (N := some 69) #[true, true, true, false, false] rfl rfl (by kernel_rfl) (by decide) (fun K hK => ?_)
      refine goes_ Tryd.func87 (by kernel_rfl) rfl #[.agg #[.string x208000_2, .string x208001_2, .slice Ao53 x208002_2.length co53]] (by rfl) rfl rfl au_ ?_
      with_reducible refine (impl_isPart.calls k2 x208000_2 x208001_2 _ _ x208002_2 t210 _ ?side1 ?side2 A51.out).mono ?_
      (case side1 => exact cs_ (Kd.R_reads' HO_208002.out).2.2)
      (case side2 => exact (Kd.R_reads' HO_208002.out).2.1)
      rintro e w54 ⟨rfl, hb⟩
      refine ⟨_, rfl, ?_⟩
      have n0_ := Aside0.mk (Kd.R_below (kdR_ HO_208002.out) hb)
      have n1_ := Aside0.mk (blk_below (g := gb206) (o := .cells #[.string x207000_2, .string x207001_2, .slice none 0 0] 71 (0, 0)) (bk_ BK206.out) hb)
      have n2_ := Aside0.mk (blk_below (g := gb207) (o := .cells #[.string x208000_2, .string x208001_2, .slice Ao53 x208002_2.length co53] 71 (0, 0)) (bk_ BK207.out) hb)
      have n3_ := Aside0.mk (below_step bes_ hb)
      clear HO_208002
      clear BK206
      clear BK207
      clear HB
      have HO_208002 := n0_
      have BK206 := n1_
      have BK207 := n2_
      have HB := n3_
      clear n0_ n1_ n2_ n3_
      (try clear hb)
      (try clear hb2)
      (try clear hk)
      (try clear hi)
      refine hK.out _ _ ⟨(blk_cell BK207.out 0).trans rfl, (blk_cell BK207.out 1).trans rfl, (blk_cell BK207.out 2).trans rfl⟩ (fun hHeld => ?_)
      clear hK K
      refine norm_ (a' := ?_) ?_ ?_
      rotate_left
      ·show Act.put _ (some 69) _ = _
       simp only [Act.put, List.setIfInBounds_toArray, List.set_cons_zero, List.set_cons_succ, i64_w, i32_w]
       rfl
      refine one_ (i := 3) (N := none) #[true, true, true, true, false] rfl rfl (by kernel_rfl) (by decide) (fun K hK => ?_)
      have hs55 : w54.cell? ⟨gb206, 0, none⟩ = some (.string x207000_2) := (blk_cell BK206.out 0).trans rfl
      have hfs55 := blk_frozen BK206.out 0
      have hns55_1 := NB207_206.out
      have hms55_1 := NB206_207.out
      have hs56 : w54.cell? ⟨gb206, 1, none⟩ = some (.string x207001_2) := (blk_cell BK206.out 1).trans rfl
      have hfs56 := blk_frozen BK206.out 1
      have hns56_1 := NB207_206.out
      have hms56_1 := NB206_207.out
      have hs57 : w54.cell? ⟨gb206, 2, none⟩ = some (.slice none 0 0) := (blk_cell BK206.out 2).trans rfl
      have hfs57 := blk_frozen BK206.out 2
      have hns57_1 := NB207_206.out
      have hms57_1 := NB206_207.out
      refine skip_ (w1 := ?_) (by rfl) rfl ?_ ?_
      rotate_left
      ·go_simp
       rfl
      refine hK.out _ _ ⟨((cell_far (p := ⟨gb206, _, none⟩) NB207_206.out _).trans (((cell_far (p := ⟨gb206, _, none⟩) NB207_206.out _).trans (((cell_far (p := ⟨gb206, _, none⟩) NB207_206.out _).trans (hHeld.1)))))), ((cell_far (p := ⟨gb206, _, none⟩) NB207_206.out _).trans (((cell_far (p := ⟨gb206, _, none⟩) NB207_206.out _).trans (((cell_far (p := ⟨gb206, _, none⟩) NB207_206.out _).trans (hHeld.2.1)))))), ((cell_far (p := ⟨gb206, _, none⟩) NB207_206.out _).trans (((cell_far (p := ⟨gb206, _, none⟩) NB207_206.out _).trans (((cell_far (p := ⟨gb206, _, none⟩) NB207_206.out _).trans (hHeld.2.2))))))⟩ (fun hHeld => ?_)
      clear hK K
      refine pure_ (i := 4) (N := some 3) (v := ?_) (a' := ?_) #[true, true, true, true, true] rfl rfl (by kernel_rfl) (fun _ _ _ h => h) (Or.inl ⟨by rfl, ?_⟩) ?_ ?_
      rotate_left
      ·intro w'
       go_simp
       with_reducible rfl
      rotate_left
      ·simp only [Act.put, List.setIfInBounds_toArray, List.set_cons_zero, List.set_cons_succ, i64_w, i32_w]
       rfl
      refine done_ (by kernel_rfl) ?_
      try go_wp2
      refine bodyPost_ret (results_ct rfl _ _ gb206 71 #[.string x208000_2, .string x208001_2, .slice Ao53 x208002_2.length co53] (0, 0) _ rfl (by (with_reducible repeat (first | refine blk_drewN ?_ _ | refine blk_drew ?_ | refine blk_alloc ?_ _)); refine blk_put (cs := #[.string x208000_2, .string x208001_2, .slice none 0 0]) ?_ 2 _ rfl; (with_reducible repeat (first | refine blk_drewN ?_ _ | refine blk_drew ?_ | refine blk_alloc ?_ _)); refine blk_put (cs := #[.string x208000_2, .string x207001_2, .slice none 0 0]) ?_ 1 _ rfl; (with_reducible repeat (first | refine blk_drewN ?_ _ | refine blk_drew ?_ | refine blk_alloc ?_ _)); refine blk_put (cs := #[.string x207000_2, .string x207001_2, .slice none 0 0]) ?_ 0 _ rfl; (with_reducible repeat (first | refine blk_drewN ?_ _ | refine blk_drew ?_ | refine blk_alloc ?_ _)); exact BK206.out) Tryd.underlying71 rfl (by kernel_rfl)) rfl ?_
      exact ⟨_, er_, by (with_reducible repeat (first | apply Kd.R_alloc | apply Kd.R_drewN | apply Kd.R_drew)); exact Kd.R_mono (Kd.R_far (p := ⟨gb206, 2, none⟩) (Kd.R_far (p := ⟨gb206, 1, none⟩) (Kd.R_far (p := ⟨gb206, 0, none⟩) (Kd.R_types HO_208002.out BK206.out (by decide)) (fun _ hk => hk.2) (.string x208000_2)) (fun _ hk => hk.2) (.string x208001_2)) (fun _ hk => hk.2) (.slice Ao53 x208002_2.length co53)) (fun _ hk => trivial), bes_⟩

/-! ### impl_ReadSelector: function 105 -/
def impl_ReadSelector.l0 : Nat → List (S71) → List ByteArray → Int → Int → Option ((List (S71)) × Bool)
 | 0, _, _, _, _ => none
 | k + 1, x4, x11, x12, x13 => if x13 < x12 then (if 0 ≤ x13 then (if x13 < (x11.length : Int) then ((impl_readPart.f k (rdOf ByteArray.empty x11 x13)).bind fun bt223 => (if bt223.2.2.2 = true then (if x4.length < 2513169434916 then (impl_ReadSelector.l0 k (x4 ++ [(⟨bt223.1, bt223.2.1, bt223.2.2.1⟩ : S71)]) x11 x12 (wrap64 (x13 + 1))) else (none)) else (some (([] : List (S71)), false)))) else (none)) else (none)) else ((impl_isSelector.f k x4).bind fun t233 => (if t233 = true then (some (x4, true)) else (some (([] : List (S71)), false))))
def impl_ReadSelector.f (k : Nat) (a0 : ByteArray) : Option ((List (S71)) × Bool) := (impl_fields.f a0).bind fun t219 => (impl_ReadSelector.l0 k (([] : List (S71))) t219 (t219.length : Int) 0)
set_option maxHeartbeats 8000000 in
set_option maxRecDepth 100000 in
theorem impl_ReadSelector.calls (k : Nat) (a0 : ByteArray) (r1 : List (S71)) (r2 : Bool) (w : World) (h : impl_ReadSelector.f k a0 = some (r1, r2)) :
  Calls Tryd.prog 105 #[.string a0] w fun e w' => ∃ v0_ : Value, e = .returned (.tuple #[v0_, .bool r2]) ∧ Kd.S k71 71 w' w.heap.size (fun _ => True) v0_ r1 ∧ Below w.heap.size w w' := by
 have hu71 := Tryd.underlying71
 have HB := Aside0.mk (Below.refl w.heap.size w)
 have H : ((impl_fields.f a0).bind fun t219 => (impl_ReadSelector.l0 k (([] : List (S71))) t219 (t219.length : Int) 0)) = some (r1, r2) := h
 clear h
 obtain ⟨y216, hy216⟩ : ∃ y_ : List (S71), y_ = (([] : List (S71))) := ⟨_, rfl⟩
 replace H : ((impl_fields.f a0).bind fun t219 => (impl_ReadSelector.l0 k y216 t219 (t219.length : Int) 0)) = some (r1, r2) := by first | (rw [hy216]; with_reducible exact H) | (have H2_ := (Option.bind_some _ _).symm.trans H; rw [hy216]; with_reducible exact H2_) | (have H2_ := (Option.bind_some _ _).symm.trans H; with_reducible exact H2_) | with_reducible exact H | (rw [hy216]; exact H) | exact H
 have Ny216 := Aside0.mk hy216
 clear hy216
 replace H := Option.bind_eq_some_iff.mp H
 obtain ⟨t219, A20, H⟩ := H
 replace H : (impl_ReadSelector.l0 k y216 t219 (t219.length : Int) 0) = some (r1, r2) := H
 have A2 := Aside0.mk A20
 clear A20
 have H' := Aside0.mk H
 clear H
 go_enter Tryd.func105, Tryd.ntmps105
 go_wp2_with (first | ((with_reducible refine gate_dst (N := 9) rfl ?_); refine Kd.S_lit k71 _ 71 ?hg (N := 9) ?hd (xs := ([] : List (S71))) (inner := []) (ok := fun _ => True) (okp := fun _ => True) ?hr ?hp (fun _ hk => hk) trivial (Below.refl _ _) (Nat.le_refl _) (by simp) ?_; (case hd => rfl); (case hg => rfl); (case hr => first | (go_simp; done) | (go_simp; rfl)); (case hp => exact (Reps.none _ _)); intro v217 w3 ho4 hb hg_ hnew_; clear hg_ hnew_; (first | rw [← Ny216.out] at ho4 | (simp only [Int.reduceToNat] at ho4; rw [← Ny216.out] at ho4)); have n0_ := Aside0.mk (Kd.S_lower ho4 (below_size bel_)); have n1_ := Aside0.mk (below_step bel_ hb); clear HB; have HO218 := n0_; have HB := n1_; clear n0_ n1_; clear hb ho4) | ((with_reducible refine gate_callee (f := 89) rfl ?_); refine goesL_ (some 11) rfl rfl Tryd.func89 (by kernel_rfl) rfl #[.string a0] rfl au_ ?_; (with_reducible refine (impl_fields.calls a0 t219 _ A2.out).mono ?_); rintro e w5 ⟨v220, rfl, ho0, hb⟩; refine ⟨_, rfl, ?_⟩; have n0_ := Aside0.mk (Kd.S_elder' (kdS_ HO218.out) (Kd.R_base ho0) hb); have n1_ := Aside0.mk (Kd.R_lower ho0 (below_size bel_)); have n2_ := Aside0.mk (below_step bel_ hb); clear HO218; clear HB; have HO218 := n0_; have HO221 := n1_; have HB := n2_; clear n0_ n1_ n2_; (try clear hb);(try clear hb2);(try clear hk);(try clear hi);(try clear ho0); obtain ⟨Ao6, co6, eo6⟩ := Kd.R_slice HO221.out; subst eo6))
 go_loopg [4, 13] k (fun kq v4 v13 w' => ∃ (x4_1 : List (S71)) (x13_1 : Int), v13 = .int .i64 x13_1 ∧ Aside0 (impl_ReadSelector.l0 kq x4_1 t219 (t219.length : Int) x13_1 = some (r1, r2)) ∧ Aside0 (kq ≤ k) ∧ Aside0 (Kd.S k71 71 w' w.heap.size (fun k_ => some k_ ≠ ((.slice Ao6 t219.length co6) : Value).ownBlock) v4 x4_1) ∧ Aside0 (Kd.R Kd.string 9 w' w.heap.size (fun _ => True) (.slice Ao6 t219.length co6) t219) ∧ Aside0 (Below w.heap.size w w'))
 case atStart => exact ⟨(y216), (0), sv_, H', ⟨Nat.le_refl _⟩, ⟨by (with_reducible repeat (first | apply Kd.S_alloc | apply Kd.S_drewN | apply Kd.S_drew)); exact Kd.S_mono HO218.out (fun _ hk => hk.2)⟩, ⟨by (with_reducible repeat (first | apply Kd.R_alloc | apply Kd.R_drewN | apply Kd.R_drew)); exact HO221.out⟩, ⟨bel_⟩⟩
 case round =>
  clear H'
  (try clear c1);(try clear p2)
  obtain ⟨x4_1, x13_1, rfl, HA, HK1, HO_4, HO_11, HB⟩ := hrel
  cases gk with
  | zero => exact absurd HA.out (by simp [impl_ReadSelector.l0])
  | succ k1 =>
   have H := HA.out
   clear HA
   simp only [impl_ReadSelector.l0] at H
   by_cases c7 : x13_1 < (t219.length : Int)
   ·rw [if_pos c7] at H
    have c7b0 : decide (x13_1 < (t219.length : Int)) = true := decide_eq_true c7
    clear c7
    by_cases c8 : 0 ≤ x13_1
    ·rw [if_pos c8] at H
     have c8b0 : decide (0 ≤ x13_1) = true := decide_eq_true c8
     clear c8
     by_cases c9 : x13_1 < (t219.length : Int)
     ·rw [if_pos c9] at H
      have c9b0 : decide (x13_1 < (t219.length : Int)) = true := decide_eq_true c9
      clear c9
      replace H := Option.bind_eq_some_iff.mp H
      obtain ⟨⟨t223, t224, t225, t228⟩, A100, H⟩ := H
      replace H : (if t228 = true then (if x4_1.length < 2513169434916 then (impl_ReadSelector.l0 k1 (x4_1 ++ [(⟨t223, t224, t225⟩ : S71)]) t219 (t219.length : Int) (wrap64 (x13_1 + 1))) else (none)) else (some (([] : List (S71)), false))) = some (r1, r2) := H
      have A10 := Aside0.mk A100
      clear A100
      by_cases c11 : t228 = true
      ·subst c11
       have H1 : (if x4_1.length < 2513169434916 then (impl_ReadSelector.l0 k1 (x4_1 ++ [(⟨t223, t224, t225⟩ : S71)]) t219 (t219.length : Int) (wrap64 (x13_1 + 1))) else (none)) = some (r1, r2) := by rw [if_pos rfl] at H; exact H
       clear H
       have H := H1
       clear H1
       by_cases c12 : x4_1.length < 2513169434916
       ·rw [if_pos c12] at H
        have LMc12 := Aside0.mk c12
        clear c12
        obtain ⟨y230, hy230⟩ : ∃ y_ : List (S71), y_ = (x4_1 ++ [(⟨t223, t224, t225⟩ : S71)]) := ⟨_, rfl⟩
        replace H : (impl_ReadSelector.l0 k1 y230 t219 (t219.length : Int) (wrap64 (x13_1 + 1))) = some (r1, r2) := by first | (rw [hy230]; with_reducible exact H) | (have H2_ := (Option.bind_some _ _).symm.trans H; rw [hy230]; with_reducible exact H2_) | (have H2_ := (Option.bind_some _ _).symm.trans H; with_reducible exact H2_) | with_reducible exact H | (rw [hy230]; exact H) | exact H
        have Ny230 := Aside0.mk hy230
        clear hy230
        have H' := Aside0.mk H
        clear H
        have p222 : 0 ≤ (x13_1 : Int) := of_decide_eq_true am_
        have q222 : x13_1 < (t219.length : Int) := of_decide_eq_true am_
        obtain ⟨ad222, e222, hx222_0⟩ := Kd.at_string (Kd.R_reads' HO_11.out).2.2 x13_1 p222 q222
        cases e222
        replace p222 := eq_true p222
        replace q222 := eq_true q222
        go_wp2_with (first | ((with_reducible refine gate_callee (f := 152) rfl ?_); refine goesL_ (some 19) rfl rfl Tryd.func152 (by kernel_rfl) rfl #[.string (rdOf ByteArray.empty t219 x13_1)] rfl au_ ?_; (with_reducible refine (impl_readPart.calls k1 (rdOf ByteArray.empty t219 x13_1) t223 t224 t225 true _ A10.out).mono ?_); rintro e w13 ⟨v226, rfl, ho0, hb⟩; refine ⟨_, rfl, ?_⟩; have n0_ := Aside0.mk (Kd.S_elder' (kdS_ HO_4.out) (Kd.R_base ho0) hb); have n1_ := Aside0.mk (Kd.R_elder' (kdR_ HO_11.out) (Kd.R_base ho0) hb); have n2_ := Aside0.mk (Kd.R_lower (Kd.R_new' ho0 (Kd.R_lt (kdR_ HO_11.out))) (below_size bel_)); have n3_ := Aside0.mk (below_step bel_ hb); clear HO_4; clear HO_11; clear HB; have HO_4 := n0_; have HO_11 := n1_; have HO227 := n2_; have HB := n3_; clear n0_ n1_ n2_ n3_; (try clear hb);(try clear hb2);(try clear hk);(try clear hi);(try clear ho0)) | ((with_reducible refine gate_dst (N := 7) rfl ?_); refine box_event ?hg (N := 7) ?hd (cs := #[.string (⟨#[]⟩ : ByteArray), .string (⟨#[]⟩ : ByteArray), .slice none 0 0]) (t := 71) ?hr ?_; (case hd => rfl); (case hg => rfl); (case hr => first | (go_simp; done) | (go_simp; rfl)); intro gb229 hg w14 hbox hb; have n0_ := Aside0.mk (Kd.S_below (Kd.S_elderB (kdS_ HO_4.out) gb229 (Nat.le_of_eq hg.symm)) hb); have n1_ := Aside0.mk (Kd.R_below (kdR_ HO_11.out) hb); have n2_ := Aside0.mk (Kd.R_below (kdR_ HO227.out) hb); have n3_ := Aside0.mk (below_step bel_ hb); have n4_ := Aside0.mk (hbox); have n5_ := Aside0.mk ((by rw [hg]; exact (below_size bel_) : w.heap.size ≤ gb229)); have n6_ := Aside0.mk ((by rw [hg]; exact (below_size bel_) : w.heap.size ≤ gb229)); clear HO_4; clear HO_11; clear HO227; clear HB; have HO_4 := n0_; have HO_11 := n1_; have HO227 := n2_; have HB := n3_; have BK229 := n4_; have GW229 := n5_; have GE229 := n6_; clear n0_ n1_ n2_ n3_ n4_ n5_ n6_; clear hb hbox hg; have hcz15_0 := bc3_0 BK229.out; have hcz15_1 := bc3_1 BK229.out; have hcz15_2 := bc3_2 BK229.out; have hfz15_0 := blk_frozen BK229.out 0; have hfz15_1 := blk_frozen BK229.out 1; have hfz15_2 := blk_frozen BK229.out 2; obtain ⟨Ao16, co16, eo16⟩ := Kd.R_slice HO227.out; subst eo16) | ((with_reducible refine gate_store (t := 71) (p := 7) rfl ?_); refine store_event (t := 71) (p := 7) (v := ?vo_w17) (w1 := (((w14.setCell ⟨gb229, 0, none⟩ (.string t223)).setCell ⟨gb229, 1, none⟩ (.string t224)).setCell ⟨gb229, 2, none⟩ (.slice Ao16 t225.length co16))) ?hg ?ho ?hn ?hr ?_; (case ho => rfl); (case hg => rfl); (case hn => rfl); (case hr => first | (go_simp; done) | (go_simp; rfl)); intro w17 hw; have n0_ : Aside0 (Kd.S k71 71 w17 w.heap.size (fun k_ => some k_ ≠ (.slice (some ad222) t219.length co6 : Value).ownBlock ∧ some k_ ≠ (.slice Ao16 t225.length co16 : Value).ownBlock ∧ k_ ≠ gb229) u4 x4_1) := ⟨(by rw [hw]; exact (by (with_reducible repeat (first | apply Kd.S_alloc | apply Kd.S_drewN | apply Kd.S_drew)); exact Kd.S_mono (Kd.S_far (p := ⟨gb229, 2, none⟩) (Kd.S_far (p := ⟨gb229, 1, none⟩) (Kd.S_far (p := ⟨gb229, 0, none⟩) (Kd.S_mono HO_4.out (fun k_ hk => (⟨hk, hk.2⟩ : _ ∧ k_ ≠ gb229))) (fun _ hk => hk.2) (.string t223)) (fun _ hk => hk.2) (.string t224)) (fun _ hk => hk.2) (.slice Ao16 t225.length co16)) (fun _ hk => ⟨hk.1.1.1, ⟨hk.1.1.2, hk.1.2⟩⟩)))⟩; have n1_ : Aside0 (Kd.R Kd.string 9 w17 w.heap.size (fun k_ => some k_ ≠ (.slice Ao16 t225.length co16 : Value).ownBlock) (.slice (some ad222) t219.length co6) t219) := ⟨(by rw [hw]; exact (by (with_reducible repeat (first | apply Kd.R_alloc | apply Kd.R_drewN | apply Kd.R_drew)); exact Kd.R_mono (Kd.R_far (p := ⟨gb229, 2, none⟩) (Kd.R_far (p := ⟨gb229, 1, none⟩) (Kd.R_far (p := ⟨gb229, 0, none⟩) (Kd.R_types HO_11.out BK229.out (by decide)) (fun _ hk => hk.2) (.string t223)) (fun _ hk => hk.2) (.string t224)) (fun _ hk => hk.2) (.slice Ao16 t225.length co16)) (fun _ hk => hk.1.2)))⟩; have n2_ : Aside0 (Kd.R Kd.string 9 w17 w.heap.size (fun k_ => some k_ ≠ (.slice (some ad222) t219.length co6 : Value).ownBlock) (.slice Ao16 t225.length co16) t225) := ⟨(by rw [hw]; exact (by (with_reducible repeat (first | apply Kd.R_alloc | apply Kd.R_drewN | apply Kd.R_drew)); exact Kd.R_mono (Kd.R_far (p := ⟨gb229, 2, none⟩) (Kd.R_far (p := ⟨gb229, 1, none⟩) (Kd.R_far (p := ⟨gb229, 0, none⟩) (Kd.R_types HO227.out BK229.out (by decide)) (fun _ hk => hk.2) (.string t223)) (fun _ hk => hk.2) (.string t224)) (fun _ hk => hk.2) (.slice Ao16 t225.length co16)) (fun _ hk => hk.1.2)))⟩; have n3_ : Aside0 (w17.heap[gb229]? = some (.cells #[.string t223, .string t224, .slice Ao16 t225.length co16] 71 (0, 0))) := ⟨(by rw [hw]; exact (by (with_reducible repeat (first | refine blk_drewN ?_ _ | refine blk_drew ?_ | refine blk_alloc ?_ _)); refine blk_put (cs := #[.string t223, .string t224, .slice none 0 0]) ?_ 2 _ rfl; (with_reducible repeat (first | refine blk_drewN ?_ _ | refine blk_drew ?_ | refine blk_alloc ?_ _)); refine blk_put (cs := #[.string t223, .string (⟨#[]⟩ : ByteArray), .slice none 0 0]) ?_ 1 _ rfl; (with_reducible repeat (first | refine blk_drewN ?_ _ | refine blk_drew ?_ | refine blk_alloc ?_ _)); refine blk_put (cs := #[.string (⟨#[]⟩ : ByteArray), .string (⟨#[]⟩ : ByteArray), .slice none 0 0]) ?_ 0 _ rfl; (with_reducible repeat (first | refine blk_drewN ?_ _ | refine blk_drew ?_ | refine blk_alloc ?_ _)); exact BK229.out))⟩; have n4_ : Aside0 (Below w.heap.size w w17) := ⟨(by rw [hw]; exact bes_)⟩; clear hw; clear HO_4; clear HO_11; clear HO227; clear BK229; clear HB; have HO_4 := n0_; have HO_11 := n1_; have HO227 := n2_; have BK229 := n3_; have HB := n4_; clear n0_ n1_ n2_ n3_ n4_; have hcz18_0 := bc3_0 BK229.out; have hcz18_1 := bc3_1 BK229.out; have hcz18_2 := bc3_2 BK229.out; have hfz18_0 := blk_frozen BK229.out 0; have hfz18_1 := blk_frozen BK229.out 1; have hfz18_2 := blk_frozen BK229.out 2) | ((with_reducible refine gate_builtin (b := .append) (xs := #[.tmp 24, .tmp 26]) rfl ?_); at_builtin; refine Kd.S_append k71 (w0 := w) w.heap.size rfl (.tmp 24) (.tmp 26) 35 71 (.agg #[(.string ⟨#[]⟩), (.string ⟨#[]⟩), (.slice none 0 0)]) 56 rfl Tryd.underlying35 info71 rfl (by decide) (by omega) u4 x4_1 (⟨t223, t224, t225⟩ : S71) [.string t223, .string t224, .slice Ao16 t225.length co16] (fun k_ => some k_ ≠ (.slice (some ad222) t219.length co6 : Value).ownBlock ∧ k_ ≠ gb229) (fun k_ => some k_ = (.slice Ao16 t225.length co16 : Value).ownBlock) rfl rfl ?aP (fun k_ hk_ => ((Kd.R_mono (ok' := fun k_ => ((fun k_ => some k_ ≠ (.slice (some ad222) t219.length co6 : Value).ownBlock ∧ k_ ≠ gb229)) k_ ∧ some k_ ≠ (u4 : Value).ownBlock) (Kd.R_types (Kd.R_apart' (HO227.out) (Kd.S_typed HO_4.out) (by decide)) BK229.out (by decide)) (fun k_ hk => ⟨⟨hk.1.1, hk.2⟩, hk.1.2⟩))).1 k_ hk_.symm) ?aF ?aO ?aB ?aS ?aL ?_; (case aP => exact k71_mkM _ _ _ (⟨t223, t224, t225⟩ : S71) (Kd.R_mono (Kd.R_tight rfl (Kd.R_mono (ok' := fun k_ => ((fun k_ => some k_ ≠ (.slice (some ad222) t219.length co6 : Value).ownBlock ∧ k_ ≠ gb229)) k_ ∧ some k_ ≠ (u4 : Value).ownBlock) (Kd.R_types (Kd.R_apart' (HO227.out) (Kd.S_typed HO_4.out) (by decide)) BK229.out (by decide)) (fun k_ hk => ⟨⟨hk.1.1, hk.2⟩, hk.1.2⟩))) (fun _ h_ => h_))); (case aB => exact bes_); (case aF => exact (fun k_ hk => ⟨Kd.fresh' (Kd.R_lt (kdR_ HO_11.out)) k_ hk, Kd.freshB (g := gb229) (o := .cells #[.string t223, .string t224, .slice Ao16 t225.length co16] 71 (0, 0)) (bk_ BK229.out) k_ hk⟩)); (case aO => exact (by (with_reducible repeat (first | apply Kd.S_alloc | apply Kd.S_drewN | apply Kd.S_drew)); exact Kd.S_mono HO_4.out (fun k_ hk => ⟨⟨hk.1, hk.2.2⟩, fun e_ => hk.2.1 e_⟩))); (case aS => exact (below_size bes_)); (case aL => have := LMc12.out; omega); intro v231 w19 ho hb hg hat; rw [← Ny230.out] at ho; have n0_ := Aside0.mk (Kd.R_over' (kdR_ HO_11.out) (Kd.S_typed (kdS_ HO_4.out)) (by decide) hg); have n1_ := Aside0.mk (blk_grown (g := gb229) (o := .cells #[.string t223, .string t224, .slice Ao16 t225.length co16] 71 (0, 0)) (bk_ BK229.out) hg (Kd.S_away HO_4.out (fun _ hk => hk.2.2))); have n2_ := Aside0.mk (hb); have n3_ := Aside0.mk (ho); clear HO_11; clear BK229; clear HB; clear HO_4; clear HO227; have HO_11 := n0_; have BK229 := n1_; have HB := n2_; have HO232 := n3_; clear n0_ n1_ n2_ n3_; clear ho hb hg hat))
        go_roundg k1
        case measure => have := HK1.out; omega
        case rel => exact ⟨(y230), (wrap64 (x13_1 + 1)), sv_, H', ⟨by have := HK1.out; omega⟩, ⟨by (with_reducible repeat (first | apply Kd.S_alloc | apply Kd.S_drewN | apply Kd.S_drew)); exact Kd.S_mono HO232.out (fun _ hk => hk.1)⟩, ⟨by (with_reducible repeat (first | apply Kd.R_alloc | apply Kd.R_drewN | apply Kd.R_drew)); exact Kd.R_mono HO_11.out (fun _ hk => trivial)⟩, ⟨bes_⟩⟩
       ·rw [if_neg c12] at H
        exact absurd H (by simp)
      ·replace c11 := Bool.eq_false_iff.mpr c11
       subst c11
       have H1 : (some (([] : List (S71)), false)) = some (r1, r2) := by rw [if_neg (show ¬ (false = true) by decide)] at H; exact H
       clear H
       have H := H1
       clear H1
       simp only [Option.some.injEq, Prod.mk.injEq] at H
       obtain ⟨rfl, rfl⟩ := H
       have p222 : 0 ≤ (x13_1 : Int) := of_decide_eq_true am_
       have q222 : x13_1 < (t219.length : Int) := of_decide_eq_true am_
       obtain ⟨ad222, e222, hx222_0⟩ := Kd.at_string (Kd.R_reads' HO_11.out).2.2 x13_1 p222 q222
       cases e222
       replace p222 := eq_true p222
       replace q222 := eq_true q222
       go_wp2_with (first | ((with_reducible refine gate_callee (f := 152) rfl ?_); refine goesL_ (some 19) rfl rfl Tryd.func152 (by kernel_rfl) rfl #[.string (rdOf ByteArray.empty t219 x13_1)] rfl au_ ?_; (with_reducible refine (impl_readPart.calls k1 (rdOf ByteArray.empty t219 x13_1) t223 t224 t225 false _ A10.out).mono ?_); rintro e w20 ⟨v226, rfl, ho0, hb⟩; refine ⟨_, rfl, ?_⟩; have n0_ := Aside0.mk (Kd.S_elder' (kdS_ HO_4.out) (Kd.R_base ho0) hb); have n1_ := Aside0.mk (Kd.R_elder' (kdR_ HO_11.out) (Kd.R_base ho0) hb); have n2_ := Aside0.mk (Kd.R_lower (Kd.R_new' ho0 (Kd.R_lt (kdR_ HO_11.out))) (below_size bel_)); have n3_ := Aside0.mk (below_step bel_ hb); clear HO_4; clear HO_11; clear HB; have HO_4 := n0_; have HO_11 := n1_; have HO227 := n2_; have HB := n3_; clear n0_ n1_ n2_ n3_; (try clear hb);(try clear hb2);(try clear hk);(try clear hi);(try clear ho0)) | ((with_reducible refine gate_dst (N := 7) rfl ?_); refine box_event ?hg (N := 7) ?hd (cs := #[.string (⟨#[]⟩ : ByteArray), .string (⟨#[]⟩ : ByteArray), .slice none 0 0]) (t := 71) ?hr ?_; (case hd => rfl); (case hg => rfl); (case hr => first | (go_simp; done) | (go_simp; rfl)); intro gb229 hg w21 hbox hb; have n0_ := Aside0.mk (Kd.S_below (Kd.S_elderB (kdS_ HO_4.out) gb229 (Nat.le_of_eq hg.symm)) hb); have n1_ := Aside0.mk (Kd.R_below (kdR_ HO_11.out) hb); have n2_ := Aside0.mk (Kd.R_below (kdR_ HO227.out) hb); have n3_ := Aside0.mk (below_step bel_ hb); have n4_ := Aside0.mk (hbox); have n5_ := Aside0.mk ((by rw [hg]; exact (below_size bel_) : w.heap.size ≤ gb229)); have n6_ := Aside0.mk ((by rw [hg]; exact (below_size bel_) : w.heap.size ≤ gb229)); clear HO_4; clear HO_11; clear HO227; clear HB; have HO_4 := n0_; have HO_11 := n1_; have HO227 := n2_; have HB := n3_; have BK229 := n4_; have GW229 := n5_; have GE229 := n6_; clear n0_ n1_ n2_ n3_ n4_ n5_ n6_; clear hb hbox hg; have hcz22_0 := bc3_0 BK229.out; have hcz22_1 := bc3_1 BK229.out; have hcz22_2 := bc3_2 BK229.out; have hfz22_0 := blk_frozen BK229.out 0; have hfz22_1 := blk_frozen BK229.out 1; have hfz22_2 := blk_frozen BK229.out 2; obtain ⟨Ao23, co23, eo23⟩ := Kd.R_slice HO227.out; subst eo23))
       go_ret2
       exact ⟨_, er_, by first | exact Kd.S_nil _ _ _ _ _ | exact Kd.N_nil _ _ _ _ _ | exact Kd.V_nil _ _ _ _ _ | exact Kd.Q_nil _ _ _ _ _ | exact Kd.R_nil _ _ _ _ _, bes_⟩
     ·rw [if_neg c9] at H
      exact absurd H (by simp)
    ·rw [if_neg c8] at H
     exact absurd H (by simp)
   ·rw [if_neg c7] at H
    have c7b0 : decide (x13_1 < (t219.length : Int)) = false := decide_eq_false c7
    clear c7
    replace H := Option.bind_eq_some_iff.mp H
    obtain ⟨t233, A240, H⟩ := H
    replace H : (if t233 = true then (some (x4_1, true)) else (some (([] : List (S71)), false))) = some (r1, r2) := H
    have A24 := Aside0.mk A240
    clear A240
    by_cases c25 : t233 = true
    ·subst c25
     have H1 : (some (x4_1, true)) = some (r1, r2) := by rw [if_pos rfl] at H; exact H
     clear H
     have H := H1
     clear H1
     simp only [Option.some.injEq, Prod.mk.injEq] at H
     obtain ⟨rfl, rfl⟩ := H
     obtain ⟨Ao26, co26, eo26⟩ := Kd.S_slice HO_4.out
     subst eo26
     go_wp2_with (first | ((with_reducible refine gate_callee (f := 45) rfl ?_); refine goesL_ (some 30) rfl rfl Tryd.func45 (by kernel_rfl) rfl #[.slice Ao26 x4_1.length co26] rfl au_ ?_; (with_reducible refine (impl_isSelector.calls k1 _ _ x4_1 true _ ?side1 ?side2 A24.out).mono ?_); (case side1 => exact cs_ (Kd.S_reads' HO_4.out).2.2); (case side2 => exact (Kd.S_reads' HO_4.out).2.1); rintro e w27 ⟨rfl, hb⟩; refine ⟨_, rfl, ?_⟩; have n0_ := Aside0.mk (Kd.S_below (kdS_ HO_4.out) hb); have n1_ := Aside0.mk (Kd.R_below (kdR_ HO_11.out) hb); have n2_ := Aside0.mk (below_step bel_ hb); clear HO_4; clear HO_11; clear HB; have HO_4 := n0_; have HO_11 := n1_; have HB := n2_; clear n0_ n1_ n2_; (try clear hb);(try clear hb2);(try clear hk);(try clear hi)))
     go_ret2
     exact ⟨_, er_, by (with_reducible repeat (first | apply Kd.S_alloc | apply Kd.S_drewN | apply Kd.S_drew)); exact Kd.S_mono HO_4.out (fun _ hk => trivial), bel_⟩
    ·replace c25 := Bool.eq_false_iff.mpr c25
     subst c25
     have H1 : (some (([] : List (S71)), false)) = some (r1, r2) := by rw [if_neg (show ¬ (false = true) by decide)] at H; exact H
     clear H
     have H := H1
     clear H1
     simp only [Option.some.injEq, Prod.mk.injEq] at H
     obtain ⟨rfl, rfl⟩ := H
     obtain ⟨Ao28, co28, eo28⟩ := Kd.S_slice HO_4.out
     subst eo28
     go_wp2_with (first | ((with_reducible refine gate_callee (f := 45) rfl ?_); refine goesL_ (some 30) rfl rfl Tryd.func45 (by kernel_rfl) rfl #[.slice Ao28 x4_1.length co28] rfl au_ ?_; (with_reducible refine (impl_isSelector.calls k1 _ _ x4_1 false _ ?side1 ?side2 A24.out).mono ?_); (case side1 => exact cs_ (Kd.S_reads' HO_4.out).2.2); (case side2 => exact (Kd.S_reads' HO_4.out).2.1); rintro e w29 ⟨rfl, hb⟩; refine ⟨_, rfl, ?_⟩; have n0_ := Aside0.mk (Kd.S_below (kdS_ HO_4.out) hb); have n1_ := Aside0.mk (Kd.R_below (kdR_ HO_11.out) hb); have n2_ := Aside0.mk (below_step bel_ hb); clear HO_4; clear HO_11; clear HB; have HO_4 := n0_; have HO_11 := n1_; have HB := n2_; clear n0_ n1_ n2_; (try clear hb);(try clear hb2);(try clear hk);(try clear hi)))
     go_ret2
     exact ⟨_, er_, by first | exact Kd.S_nil _ _ _ _ _ | exact Kd.N_nil _ _ _ _ _ | exact Kd.V_nil _ _ _ _ _ | exact Kd.Q_nil _ _ _ _ _ | exact Kd.R_nil _ _ _ _ _, bel_⟩

end Go.Proofs.YtooilehdljeepaaDoor.PFnExactReadSheet
