-- Laid by a program of this session out of the translation (its own run of the print). Lean checks it.
import Derived.Test.YtooilehdljeepaaDoorPFnExactReadSheetx0
import Derived.Test.YtooilehdljeepaaDoorPFnExactReadSheetx5
import Derived.Test.YtooilehdljeepaaDoorPFnExactReadSheetx6
import Derived.Test.YtooilehdljeepaaDoorPFnExactReadSheetx8
namespace Go.Proofs.YtooilehdljeepaaDoor.PFnExactReadSheet
open Go.RowKit Go.Proofs.YtooilehdljeepaaDoorW.PrintWords Go.Proofs.YtooilehdljeepaaDoorW.PrintLast Go.Proofs.YtooilehdljeepaaDoorW.PrintMore
attribute [local go_sem] max2_int min2_int max_two min_two max_three min_three max_four min_four   -- for this text's walks alone
set_option linter.unusedVariables false
set_option linter.unusedSimpArgs false

/-! ### impl_readSelectors: function 54 -/
/-- a row of rows that are told apart (Kd.S), as an element. -/
def sliceS_ {α : Type} (e : Nat) (d : Kd α) : Kd (List α) where
 sz := 1
 E := e :: d.E
 K := (Kd.slice e d).K
 M := fun w base ok xs cs => ∃ v, cs = [v] ∧ Kd.S d e w base ok v xs
 K_len := (Kd.slice e d).K_len
 K_one := (Kd.slice e d).K_one
 K_below := (Kd.slice e d).K_below
 K_of_M := by
  rintro w base ok x cs ⟨v, rfl, h⟩
  obtain ⟨A, c, rfl, hl, hr⟩ := Kd.S_reads h
  exact ⟨A, c, rfl, hl, hr⟩
 M_mono := by
  rintro w base ok ok' x cs hok ⟨v, rfl, h⟩
  exact ⟨v, rfl, Kd.S_mono h hok⟩
 M_bound := by
  rintro w base ok x cs ⟨v, rfl, h⟩
  exact ⟨v, rfl, Kd.S_bound h⟩
 M_move := by
  rintro w w1 base ok x cs hm ⟨v, rfl, h⟩
  exact ⟨v, rfl, Kd.S_move h hm⟩
 M_lower := by
  rintro w base base' ok x cs hb ⟨v, rfl, h⟩
  exact ⟨v, rfl, Kd.S_lower h hb⟩
def kSel_ : Kd (List S71) := sliceS_ 71 k71
def kRule_ : Kd S90 := Kd.iso (Kd.pair (sliceS_ 35 kSel_) (Kd.slice 123 k123)) (fun x : S90 => (x.f0, x.f1))
theorem kRule_mkM_ {w : World} {base : Nat} {ok : Nat → Prop} {x : S90} {v0 v1 : Value} (g0 : Kd.S kSel_ 35 w base ok v0 x.f0) (g1 : Kd.R k123 123 w base ok v1 x.f1) : kRule_.M w base ok x [v0, v1] := ⟨[v0], [v1], rfl, ⟨v0, rfl, g0⟩, ⟨v1, rfl, g1⟩⟩
theorem kRule_openM_ {w : World} {base : Nat} {ok : Nat → Prop} {x : S90} {cs : List Value} (h : kRule_.M w base ok x cs) : ∃ v0 v1, cs = [v0, v1] ∧ Kd.S kSel_ 35 w base ok v0 x.f0 ∧ Kd.R k123 123 w base ok v1 x.f1 := by
 obtain ⟨c0, c1, rfl, ⟨v0, rfl, g0⟩, ⟨v1, rfl, g1⟩⟩ := h
 exact ⟨v0, v1, rfl, g0, g1⟩
theorem S_empty_ {α : Type} {d : Kd α} {e : Nat} {w : World} {base : Nat} {ok : Nat → Prop} {v : Value} {y : List α} (h : Kd.R d e w base ok v y) (hy : y = []) : Kd.S d e w base ok v y := by
 subst hy
 obtain ⟨h0, inner, ho, hr⟩ := h
 exact ⟨fun _ => 0, h0, inner, ho, by have := hr.1; simpa using this, fun j p hj => by simp at hj⟩
/-- what is elder and what was made since: one bound tells them apart. -/
theorem oldnew_ {α β : Type} {d : Kd α} {d' : Kd β} {e e' base : Nat} {ok ok' : Nat → Prop} {W w1 : World} {u v : Value} {xs : List α} {ys : List β} (h4 : Kd.S d e W base ok u xs) (ho : Kd.S d' e' w1 W.heap.size ok' v ys) (hb : Below W.heap.size W w1) :
  ∃ W0 : World, Below W0.heap.size W0 w1 ∧ Kd.S d e w1 base (fun k => ok k ∧ k < W0.heap.size) u xs ∧ Kd.S d' e' w1 W.heap.size (fun k => W0.heap.size ≤ k) v ys :=
 ⟨W, hb, Kd.S_old h4 hb, Kd.S_mono (Kd.S_bound ho) (fun _ hk => hk.2.1)⟩
theorem R_mine_ {α : Type} {d : Kd α} {e N : Nat} {ok : Nat → Prop} {W w1 : World} {v : Value} {xs : List α} (ho : Kd.R d e w1 W.heap.size ok v xs) (hn : N ≤ W.heap.size) : Kd.R d e w1 W.heap.size (fun k => N ≤ k) v xs :=
 Kd.R_mono (Kd.R_bound ho) (fun _ hk => Nat.le_trans hn hk.2.1)
def impl_readSelectors.l0 : Nat → List (List (S71)) → List ByteArray → Int → Int → Option ((List (List (S71))) × Bool)
 | 0, _, _, _, _ => none
 | k + 1, x4, x11, x12, x13 => if x13 < x12 then (if 0 ≤ x13 then (if x13 < (x11.length : Int) then ((impl_ReadSelector.f k (rdOf ByteArray.empty x11 x13)).bind fun bt241 => (if bt241.2 = true then (if x4.length < 5864062014805 then (impl_readSelectors.l0 k (x4 ++ [bt241.1]) x11 x12 (wrap64 (x13 + 1))) else (none)) else (some (([] : List (List (S71))), false)))) else (none)) else (none)) else (some (x4, true))
def impl_readSelectors.f (k : Nat) (a0 : ByteArray) : Option ((List (List (S71))) × Bool) := (strings_Split.f a0 (⟨#[44]⟩ : ByteArray)).bind fun t237 => (impl_readSelectors.l0 k (([] : List (List (S71)))) t237 (t237.length : Int) 0)
set_option maxHeartbeats 8000000 in
set_option maxRecDepth 100000 in
theorem impl_readSelectors.calls (k : Nat) (a0 : ByteArray) (r1 : List (List (S71))) (r2 : Bool) (w : World) (h : impl_readSelectors.f k a0 = some (r1, r2)) (hT_ : U8Tabs_ w) :
  Calls Tryd.prog 54 #[.string a0] w fun e w' => ∃ v0_ : Value, e = .returned (.tuple #[v0_, .bool r2]) ∧ Kd.S kSel_ 35 w' w.heap.size (fun _ => True) v0_ r1 ∧ Below w.heap.size w w' := by
 have HB := Aside0.mk (Below.refl w.heap.size w)
 have H : ((strings_Split.f a0 (⟨#[44]⟩ : ByteArray)).bind fun t237 => (impl_readSelectors.l0 k (([] : List (List (S71)))) t237 (t237.length : Int) 0)) = some (r1, r2) := h
 clear h
 obtain ⟨y234, hy234⟩ : ∃ y_ : List (List (S71)), y_ = (([] : List (List (S71)))) := ⟨_, rfl⟩
 replace H : ((strings_Split.f a0 (⟨#[44]⟩ : ByteArray)).bind fun t237 => (impl_readSelectors.l0 k y234 t237 (t237.length : Int) 0)) = some (r1, r2) := by first | (rw [hy234]; with_reducible exact H) | (have H2_ := (Option.bind_some _ _).symm.trans H; rw [hy234]; with_reducible exact H2_) | (have H2_ := (Option.bind_some _ _).symm.trans H; with_reducible exact H2_) | with_reducible exact H | (rw [hy234]; exact H) | exact H
 have Ny234 := Aside0.mk hy234
 clear hy234
 replace H := Option.bind_eq_some_iff.mp H
 obtain ⟨t237, A20, H⟩ := H
 replace H : (impl_readSelectors.l0 k y234 t237 (t237.length : Int) 0) = some (r1, r2) := H
 have A2 := Aside0.mk A20
 clear A20
 have H' := Aside0.mk H
 clear H
 go_enter Tryd.func54, Tryd.ntmps54
 go_wp2_with (first | ((with_reducible refine gate_dst (N := 9) rfl ?_); refine Kd.R_lit kSel_ _ 35 ?hg (N := 9) ?hd (xs := ([] : List (List (S71)))) (inner := []) (ok := fun _ => True) (okp := fun _ => True) ?hr ?hp (fun _ hk => hk) trivial (Below.refl _ _) (Nat.le_refl _) (by simp) ?_; (case hd => rfl); (case hg => rfl); (case hr => first | (go_simp; done) | (go_simp; rfl)); (case hp => exact (Reps.none _ _)); intro v235 w3 ho4 hb hg_ hnew_; clear hg_ hnew_; (first | rw [← Ny234.out] at ho4 | (simp only [Int.reduceToNat] at ho4; rw [← Ny234.out] at ho4)); have n0_ := Aside0.mk (Kd.S_lower (S_empty_ ho4 Ny234.out) (below_size bel_)); have n1_ := Aside0.mk (below_step bel_ hb); clear HB; have HO236 := n0_; have HB := n1_; clear n0_ n1_; clear hb ho4) | ((with_reducible refine gate_callee (f := 32) rfl ?_); refine goesL_ (some 11) rfl rfl Tryd.func32 (by kernel_rfl) rfl #[.string a0, .string (⟨#[44]⟩ : ByteArray)] rfl au_ ?_; (with_reducible refine (strings_Split.calls a0 (⟨#[44]⟩ : ByteArray) t237 _ A2.out ?hT_).mono ?_); (case hT_ => exact utf8_keep_ hT_ bel_); rintro e w5 ⟨v238, rfl, ho0, hb⟩; refine ⟨_, rfl, ?_⟩; have n0_ := Aside0.mk (Kd.S_below (kdS_ HO236.out) hb); have n1_ := Aside0.mk (Kd.R_lower ho0 (below_size bel_)); have n2_ := Aside0.mk (below_step bel_ hb); clear HO236; clear HB; have HO236 := n0_; have HO239 := n1_; have HB := n2_; clear n0_ n1_ n2_; (try clear hb);(try clear hb2);(try clear hk);(try clear hi);(try clear ho0); obtain ⟨Ao6, co6, eo6⟩ := Kd.R_slice HO239.out; subst eo6))
 go_loopg [4, 13] k (fun kq v4 v13 w' => ∃ (x4_1 : List (List (S71))) (x13_1 : Int), v13 = .int .i64 x13_1 ∧ Aside0 (impl_readSelectors.l0 kq x4_1 t237 (t237.length : Int) x13_1 = some (r1, r2)) ∧ Aside0 (kq ≤ k) ∧ Aside0 (Kd.S kSel_ 35 w' w.heap.size (fun _ => True) v4 x4_1) ∧ Aside0 (Kd.R Kd.string 9 w' w.heap.size (fun _ => True) (.slice Ao6 t237.length co6) t237) ∧ Aside0 (Below w.heap.size w w'))
 case atStart => exact ⟨(y234), (0), sv_, H', ⟨Nat.le_refl _⟩, ⟨by (with_reducible repeat (first | apply Kd.S_alloc | apply Kd.S_drewN | apply Kd.S_drew)); exact HO236.out⟩, ⟨by (with_reducible repeat (first | apply Kd.R_alloc | apply Kd.R_drewN | apply Kd.R_drew)); exact HO239.out⟩, ⟨bel_⟩⟩
 case round =>
  clear H'
  (try clear p2);(try clear c3);(try clear c5)
  obtain ⟨x4_1, x13_1, rfl, HA, HK1, HO_4, HO_11, HB⟩ := hrel
  cases gk with
  | zero => exact absurd HA.out (by simp [impl_readSelectors.l0])
  | succ k1 =>
   have H := HA.out
   clear HA
   simp only [impl_readSelectors.l0] at H
   by_cases c7 : x13_1 < (t237.length : Int)
   ·rw [if_pos c7] at H
    have c7b0 : decide (x13_1 < (t237.length : Int)) = true := decide_eq_true c7
    clear c7
    by_cases c8 : 0 ≤ x13_1
    ·rw [if_pos c8] at H
     have c8b0 : decide (0 ≤ x13_1) = true := decide_eq_true c8
     clear c8
     by_cases c9 : x13_1 < (t237.length : Int)
     ·rw [if_pos c9] at H
      have c9b0 : decide (x13_1 < (t237.length : Int)) = true := decide_eq_true c9
      clear c9
      replace H := Option.bind_eq_some_iff.mp H
      obtain ⟨⟨t241, t242⟩, A100, H⟩ := H
      replace H : (if t242 = true then (if x4_1.length < 5864062014805 then (impl_readSelectors.l0 k1 (x4_1 ++ [t241]) t237 (t237.length : Int) (wrap64 (x13_1 + 1))) else (none)) else (some (([] : List (List (S71))), false))) = some (r1, r2) := H
      have A10 := Aside0.mk A100
      clear A100
      by_cases c11 : t242 = true
      ·subst c11
       have H1 : (if x4_1.length < 5864062014805 then (impl_readSelectors.l0 k1 (x4_1 ++ [t241]) t237 (t237.length : Int) (wrap64 (x13_1 + 1))) else (none)) = some (r1, r2) := by rw [if_pos rfl] at H; exact H
       clear H
       have H := H1
       clear H1
       by_cases c12 : x4_1.length < 5864062014805
       ·rw [if_pos c12] at H
        have LMc12 := Aside0.mk c12
        clear c12
        obtain ⟨y245, hy245⟩ : ∃ y_ : List (List (S71)), y_ = (x4_1 ++ [t241]) := ⟨_, rfl⟩
        replace H : (impl_readSelectors.l0 k1 y245 t237 (t237.length : Int) (wrap64 (x13_1 + 1))) = some (r1, r2) := by first | (rw [hy245]; with_reducible exact H) | (have H2_ := (Option.bind_some _ _).symm.trans H; rw [hy245]; with_reducible exact H2_) | (have H2_ := (Option.bind_some _ _).symm.trans H; with_reducible exact H2_) | with_reducible exact H | (rw [hy245]; exact H) | exact H
        have Ny245 := Aside0.mk hy245
        clear hy245
        have H' := Aside0.mk H
        clear H
        have p240 : 0 ≤ (x13_1 : Int) := of_decide_eq_true am_
        have q240 : x13_1 < (t237.length : Int) := of_decide_eq_true am_
        obtain ⟨ad240, e240, hx240_0⟩ := Kd.at_string (Kd.R_reads' HO_11.out).2.2 x13_1 p240 q240
        cases e240
        replace p240 := eq_true p240
        replace q240 := eq_true q240
        go_wp2_with (first | ((with_reducible refine gate_callee (f := 105) rfl ?_); refine goesL_ (some 19) rfl rfl Tryd.func105 (by kernel_rfl) rfl #[.string (rdOf ByteArray.empty t237 x13_1)] rfl au_ ?_; (with_reducible refine (impl_ReadSelector.calls k1 (rdOf ByteArray.empty t237 x13_1) t241 true _ A10.out).mono ?_); rintro e w13 ⟨v243, rfl, ho0, hb⟩; refine ⟨_, rfl, ?_⟩; obtain ⟨W0_, hBW_, h4_, h6_⟩ := oldnew_ (kdS_ HO_4.out) ho0 hb; have n0_ := Aside0.mk h4_; have n1_ := Aside0.mk (Kd.R_below (kdR_ HO_11.out) hb); have n2_ := Aside0.mk (Kd.S_lower h6_ (below_size bel_)); have n3_ := Aside0.mk (below_step bel_ hb); clear HO_4; clear HO_11; clear HB; have HO_4 := n0_; have HO_11 := n1_; have HO244 := n2_; have HB := n3_; clear n0_ n1_ n2_ n3_; clear h4_ h6_; (try clear hb);(try clear hb2);(try clear hk);(try clear hi);(try clear ho0); obtain ⟨Ao15, co15, eo15⟩ := Kd.S_slice HO244.out; subst eo15) | ((with_reducible refine gate_builtin (b := .append) (xs := #[.tmp 24, .tmp 26]) rfl ?_); at_builtin; refine Kd.S_append kSel_ (w0 := w) w.heap.size rfl (.tmp 24) (.tmp 26) 84 35 (.slice none 0 0) 24 rfl Tryd.underlying84 info35 rfl (by decide) (by omega) u4 x4_1 t241 [.slice Ao15 t241.length co15] (fun _ => True) (fun k_ => W0_.heap.size ≤ k_) rfl rfl ?aP ?aK ?aF ?aO ?aB ?aS ?aL ?_; (case aP => exact ⟨_, rfl, by (with_reducible repeat (first | apply Kd.S_alloc | apply Kd.S_drewN | apply Kd.S_drew)); exact HO244.out⟩); (case aK => exact fun k_ hk => ⟨trivial, fun he_ => Nat.lt_irrefl _ (Nat.lt_of_lt_of_le ((Kd.S_R HO_4.out).1 k_ he_.symm).2 hk)⟩); (case aB => exact bel_); (case aF => exact fun _ _ => trivial); (case aO => (with_reducible repeat (first | apply Kd.S_alloc | apply Kd.S_drewN | apply Kd.S_drew)); exact Kd.S_mono HO_4.out (fun k_ hk => ⟨trivial, Nat.not_le.2 hk.2⟩)); (case aS => exact (below_size bel_)); (case aL => have := LMc12.out; omega); intro v246 w14 ho hb hg hat; rw [← Ny245.out] at ho; have n0_ := Aside0.mk (Kd.R_over' (kdR_ HO_11.out) (Kd.S_typed (kdS_ HO_4.out)) (by decide) hg); have n1_ := Aside0.mk (hb); have n2_ := Aside0.mk (ho); clear HO_11; clear HB; clear HO_4; clear HO244; have HO_11 := n0_; have HB := n1_; have HO247 := n2_; clear n0_ n1_ n2_; clear ho hb hg hat))
        go_roundg k1
        case measure => have := HK1.out; omega
        case rel => exact ⟨(y245), (wrap64 (x13_1 + 1)), sv_, H', ⟨by have := HK1.out; omega⟩, ⟨by (with_reducible repeat (first | apply Kd.S_alloc | apply Kd.S_drewN | apply Kd.S_drew)); exact HO247.out⟩, ⟨by (with_reducible repeat (first | apply Kd.R_alloc | apply Kd.R_drewN | apply Kd.R_drew)); exact HO_11.out⟩, ⟨bel_⟩⟩
       ·rw [if_neg c12] at H
        exact absurd H (by simp)
      ·replace c11 := Bool.eq_false_iff.mpr c11
       subst c11
       have H1 : (some (([] : List (List (S71))), false)) = some (r1, r2) := by rw [if_neg (show ¬ (false = true) by decide)] at H; exact H
       clear H
       have H := H1
       clear H1
       simp only [Option.some.injEq, Prod.mk.injEq] at H
       obtain ⟨rfl, rfl⟩ := H
       have p240 : 0 ≤ (x13_1 : Int) := of_decide_eq_true am_
       have q240 : x13_1 < (t237.length : Int) := of_decide_eq_true am_
       obtain ⟨ad240, e240, hx240_0⟩ := Kd.at_string (Kd.R_reads' HO_11.out).2.2 x13_1 p240 q240
       cases e240
       replace p240 := eq_true p240
       replace q240 := eq_true q240
       go_wp2_with (first | ((with_reducible refine gate_callee (f := 105) rfl ?_); refine goesL_ (some 19) rfl rfl Tryd.func105 (by kernel_rfl) rfl #[.string (rdOf ByteArray.empty t237 x13_1)] rfl au_ ?_; (with_reducible refine (impl_ReadSelector.calls k1 (rdOf ByteArray.empty t237 x13_1) t241 false _ A10.out).mono ?_); rintro e w16 ⟨v243, rfl, ho0, hb⟩; refine ⟨_, rfl, ?_⟩; obtain ⟨W0_, hBW_, h4_, h6_⟩ := oldnew_ (kdS_ HO_4.out) ho0 hb; have n0_ := Aside0.mk h4_; have n1_ := Aside0.mk (Kd.R_below (kdR_ HO_11.out) hb); have n2_ := Aside0.mk (Kd.S_lower h6_ (below_size bel_)); have n3_ := Aside0.mk (below_step bel_ hb); clear HO_4; clear HO_11; clear HB; have HO_4 := n0_; have HO_11 := n1_; have HO244 := n2_; have HB := n3_; clear n0_ n1_ n2_ n3_; clear h4_ h6_; (try clear hb);(try clear hb2);(try clear hk);(try clear hi);(try clear ho0)))
       go_ret2
       exact ⟨_, er_, by first | exact Kd.R_nil _ _ _ _ _ | exact Kd.N_nil _ _ _ _ _ | exact Kd.V_nil _ _ _ _ _ | exact Kd.Q_nil _ _ _ _ _ | exact Kd.S_nil _ _ _ _ _, bel_⟩
     ·rw [if_neg c9] at H
      exact absurd H (by simp)
    ·rw [if_neg c8] at H
     exact absurd H (by simp)
   ·rw [if_neg c7] at H
    have c7b0 : decide (x13_1 < (t237.length : Int)) = false := decide_eq_false c7
    clear c7
    simp only [Option.some.injEq, Prod.mk.injEq] at H
    obtain ⟨rfl, rfl⟩ := H
    go_wp2
    go_ret2
    exact ⟨_, er_, by (with_reducible repeat (first | apply Kd.S_alloc | apply Kd.S_drewN | apply Kd.S_drew)); exact HO_4.out, bel_⟩

-- NOT PRINTED: function 115 (strings_trimLeftByte)

-- NOT PRINTED: function 116 (strings_trimRightByte)

-- NOT PRINTED: function 117 (strings_makeASCIISet)

-- NOT PRINTED: function 156 (strings_asciiSet_contains)

-- NOT PRINTED: function 118 (strings_trimLeftASCII)

-- NOT PRINTED: function 119 (strings_trimRightASCII)

-- NOT PRINTED: function 193 (strings_IndexByte)

-- NOT PRINTED: function 194 (utf8_ValidRune)

-- NOT PRINTED: function 181 (strings_IndexRune)

-- NOT PRINTED: function 157 (strings_ContainsRune)

-- NOT PRINTED: function 120 (strings_trimLeftUnicode)

-- NOT PRINTED: function 182 (utf8_RuneStart)

-- NOT PRINTED: function 158 (utf8_DecodeLastRuneInString)

-- NOT PRINTED: function 121 (strings_trimRightUnicode)

-- NOT PRINTED: function 67 (strings_Trim)

-- NOT PRINTED: function 115 (strings_trimLeftByte)

-- NOT PRINTED: function 116 (strings_trimRightByte)

-- NOT PRINTED: function 117 (strings_makeASCIISet)

-- NOT PRINTED: function 156 (strings_asciiSet_contains)

-- NOT PRINTED: function 118 (strings_trimLeftASCII)

-- NOT PRINTED: function 119 (strings_trimRightASCII)

-- NOT PRINTED: function 193 (strings_IndexByte)

-- NOT PRINTED: function 194 (utf8_ValidRune)

-- NOT PRINTED: function 181 (strings_IndexRune)

-- NOT PRINTED: function 157 (strings_ContainsRune)

-- NOT PRINTED: function 120 (strings_trimLeftUnicode)

-- NOT PRINTED: function 182 (utf8_RuneStart)

-- NOT PRINTED: function 158 (utf8_DecodeLastRuneInString)

-- NOT PRINTED: function 121 (strings_trimRightUnicode)

-- NOT PRINTED: function 67 (strings_Trim)

/-! ### impl_trimmed: function 26 -/
def laid227_ren_ : Go.Shelf.Ren := ⟨fun | 227 => 117 | n => n, fun | 116 => 133 | n => n, fun | 1 => 0 | 3 => 1 | 4 => 2 | n => n⟩
theorem laid227_ : Go.Proofs.Lays.n227 Tryd.prog laid227_ren_ := {
 mixed := by kernel_rfl
 f227 := Tryd.func117.trans (congrArg some (by kernel_rfl))
 t0 := Tryd.underlying0
 a0 := Tryd.isAgg0
 z0 := Tryd.sizeOf0
 v0 := Tryd.zeroValue0
 t3 := Tryd.underlying3
 a3 := Tryd.isAgg3
 z3 := Tryd.sizeOf3
 v3 := Tryd.zeroValue3
 t4 := Tryd.underlying4
 a4 := Tryd.isAgg4
 z4 := Tryd.sizeOf4
 v4 := Tryd.zeroValue4
 t5 := Tryd.underlying5
 a5 := Tryd.isAgg5
 z5 := Tryd.sizeOf5
 v5 := Tryd.zeroValue5
 t9 := Tryd.underlying9
 a9 := Tryd.isAgg9
 z9 := Tryd.sizeOf9
 v9 := Tryd.zeroValue9
 t116 := Tryd.underlying133
 a116 := Tryd.isAgg133
 z116 := Tryd.sizeOf133 }
def laid233_ren_ : Go.Shelf.Ren := ⟨fun | 228 => 156 | 233 => 118 | n => n, fun | 116 => 133 | 124 => 137 | n => n, fun | 1 => 0 | 3 => 1 | 4 => 2 | n => n⟩
theorem laid233_ : Go.Proofs.Lays.n233 Tryd.prog laid233_ren_ := {
 mixed := by kernel_rfl
 f228 := Tryd.func156.trans (congrArg some (by kernel_rfl))
 f233 := Tryd.func118.trans (congrArg some (by kernel_rfl))
 t0 := Tryd.underlying0
 a0 := Tryd.isAgg0
 z0 := Tryd.sizeOf0
 v0 := Tryd.zeroValue0
 t3 := Tryd.underlying3
 a3 := Tryd.isAgg3
 z3 := Tryd.sizeOf3
 v3 := Tryd.zeroValue3
 t4 := Tryd.underlying4
 a4 := Tryd.isAgg4
 z4 := Tryd.sizeOf4
 v4 := Tryd.zeroValue4
 t5 := Tryd.underlying5
 a5 := Tryd.isAgg5
 z5 := Tryd.sizeOf5
 v5 := Tryd.zeroValue5
 t9 := Tryd.underlying9
 a9 := Tryd.isAgg9
 z9 := Tryd.sizeOf9
 v9 := Tryd.zeroValue9
 t116 := Tryd.underlying133
 a116 := Tryd.isAgg133
 z116 := Tryd.sizeOf133
 t124 := Tryd.underlying137
 a124 := Tryd.isAgg137
 z124 := Tryd.sizeOf137
 v124 := Tryd.zeroValue137 }
def laid234_ren_ : Go.Shelf.Ren := ⟨fun | 228 => 156 | 234 => 119 | n => n, fun | 116 => 133 | 124 => 137 | n => n, fun | 1 => 0 | 3 => 1 | 4 => 2 | n => n⟩
theorem laid234_ : Go.Proofs.Lays.n234 Tryd.prog laid234_ren_ := {
 mixed := by kernel_rfl
 f228 := Tryd.func156.trans (congrArg some (by kernel_rfl))
 f234 := Tryd.func119.trans (congrArg some (by kernel_rfl))
 t0 := Tryd.underlying0
 a0 := Tryd.isAgg0
 z0 := Tryd.sizeOf0
 v0 := Tryd.zeroValue0
 t3 := Tryd.underlying3
 a3 := Tryd.isAgg3
 z3 := Tryd.sizeOf3
 v3 := Tryd.zeroValue3
 t4 := Tryd.underlying4
 a4 := Tryd.isAgg4
 z4 := Tryd.sizeOf4
 v4 := Tryd.zeroValue4
 t5 := Tryd.underlying5
 a5 := Tryd.isAgg5
 z5 := Tryd.sizeOf5
 v5 := Tryd.zeroValue5
 t9 := Tryd.underlying9
 a9 := Tryd.isAgg9
 z9 := Tryd.sizeOf9
 v9 := Tryd.zeroValue9
 t116 := Tryd.underlying133
 a116 := Tryd.isAgg133
 z116 := Tryd.sizeOf133
 t124 := Tryd.underlying137
 a124 := Tryd.isAgg137
 z124 := Tryd.sizeOf137
 v124 := Tryd.zeroValue137 }

def blanksB : ByteArray := ⟨#[9, 10, 13, 32]⟩
def blanksL : List UInt8 := [9, 10, 13, 32]
/-- a text without blanks around it. -/
def trimB (s : ByteArray) : ByteArray := ⟨(Lib.trimS s.data.toList blanksL).toArray⟩
def impl_trimmed.f (a0 : ByteArray) : Option ByteArray := if a0.size ≤ 9223372036854775807 then some (trimB a0) else none
set_option maxRecDepth 1000000 in
theorem zeroSet_ : ∀ w, (zeroValue 133).run Tryd.prog w = .ok (.agg (Array.replicate 256 (.bool false))) w := fun w => by
 kernel_rfl
set_option maxHeartbeats 8000000 in
set_option maxRecDepth 1000000 in
theorem trim_blanks_ (s : ByteArray) (w : World) (h0 : 0 < s.size) (hs : s.size ≤ 9223372036854775807) :
  Calls Tryd.prog 67 #[.string s, .string blanksB] w fun e w' => e = .returned (.string (trimB s)) ∧ Below w.heap.size w w' := by
 have hM := Any.strings_makeASCIISet laid227_ zeroSet_ (by kernel_rfl) blanksB w (by decide) (fun j b hj => by
  match j, hj with
  | 0, hj => cases hj; decide
  | 1, hj => cases hj; decide
  | 2, hj => cases hj; decide
  | 3, hj => cases hj; decide
  | j + 4, hj => cases hj)
 have hemps : s.toList.isEmpty = false := by
  rw [Lib.toList_data]
  cases h : s.data.toList with
  | nil => have := Lib.size_eq s; rw [h, List.length_nil] at this; omega
  | cons _ _ => rfl
 have hemp : blanksB.toList.isEmpty = false := by rw [Lib.toList_data]; rfl
 have hn1 : ((blanksB.size : Int) == 1) = false := by decide
 have hi : (Tryd.prog.info? 133).map (·.size) = some 256 := by kernel_rfl
 have hcl : blanksB.data.toList = blanksL := rfl
 have hsc : (storeCells ⟨w.heap.size + 1, 0, none⟩ (Lib.setCells blanksL).toList 0).run Tryd.prog ((w.alloc (.cells (Lib.setCells blanksL) 133)).alloc (.cells (Array.replicate 256 (.bool false)) 133)) = .ok () ((w.alloc (.cells (Lib.setCells blanksL) 133)).alloc (.cells (Lib.setCells blanksL) 133)) := by
  have := run_storeCells_new (P := Tryd.prog) (w.alloc (.cells (Lib.setCells blanksL) 133)) 133 (Array.replicate 256 (.bool false)) (Lib.setCells blanksL) (by rw [Lib.setCells_size]; exact hi) (by rw [Lib.setCells_size, Array.size_replicate]) (Lib.setCells_one _)
  simpa using this
 have hsz := Lib.setCells_size blanksL
 have hcellAt : ∀ x : UInt8, ((w.alloc (.cells (Lib.setCells blanksL) 133)).alloc (.cells (Lib.setCells blanksL) 133)).cell? ⟨w.heap.size + 1, x.toNat, none⟩ = some (.bool (blanksL.contains x)) := fun x => by
  rw [World.cell?_alloc_at _ _ _ _ (by simp), Lib.setCells_at]
 have HC : Aside (∀ (q : Nat) (x : UInt8), (((w.alloc (.cells (Lib.setCells blanksL) 133)).alloc (.cells (Lib.setCells blanksL) 133)).drewN q).cell? ⟨w.heap.size + 1, x.toNat, none⟩ = some (.bool (blanksL.contains x))) := fun q x => by simpa using hcellAt x
 clear hcellAt
 have hz : Tryd.zeroCells133 = Array.replicate 256 (.bool false) := by kernel_rfl
 go_enter Tryd.func67, Tryd.ntmps67
 go_wp2_with (go_at_call 117; refine hM.mono ?_; rintro e w' ⟨rfl, hw⟩; rw [hw])
 simp only [show laid227_ren_.t 116 = 133 from rfl, hz, hcl, hsc, Result.andThen]
 rw [Oper.upon_skip]
 clear hM hsc
 go_wp2_with (first | (go_at_call 119; refine (Any.strings_trimRightASCII laid234_ s (w.heap.size + 1) blanksL _ hs (HC.out 0)).mono ?_; rintro e w' ⟨rfl, hw⟩; rw [hw]) | (go_at_call 118; refine (Any.strings_trimLeftASCII laid233_ _ (w.heap.size + 1) blanksL _ (HC.out 0)).mono ?_; rintro e w' ⟨rfl, hw⟩; rw [hw]))
 go_ret
 exact ⟨rfl, pw_below_drewN (below_alloc (below_alloc (Below.refl w.heap.size w) _) _) 0⟩
set_option maxHeartbeats 8000000 in
set_option maxRecDepth 1000000 in
theorem impl_trimmed.calls (a0 : ByteArray) (r : ByteArray) (w : World) (h : impl_trimmed.f a0 = some r) :
  Calls Tryd.prog 26 #[.string a0] w fun e w' => e = .returned (.string r) ∧ Below w.heap.size w w' := by
 unfold impl_trimmed.f at h
 by_cases hs : a0.size ≤ 9223372036854775807
 ·rw [if_pos hs] at h
  obtain rfl := Option.some.inj h
  by_cases h0 : 0 < a0.size
  ·have c := fun w => trim_blanks_ a0 w h0 hs
   go_enter Tryd.func26, Tryd.ntmps26
   go_wp2_with (go_at_call 67; refine (c _).mono ?_; rintro e w' ⟨rfl, hb⟩)
   go_ret
   exact ⟨rfl, hb⟩
  ·have he : a0.data.toList = [] := by
    have := Lib.size_eq a0
    exact List.length_eq_zero_iff.mp (by omega)
   have hemps : a0.toList.isEmpty = true := by rw [Lib.toList_data, he]; rfl
   have ht : trimB a0 = a0 := by
    unfold trimB
    rw [he]
    cases a0 with
    | mk d => cases d with
     | mk l => simp at he; subst he; rfl
   rw [ht]
   go_enter Tryd.func26, Tryd.ntmps26
   go_wp2
   go_ret
   exact ⟨rfl, Below.refl _ _⟩
 ·rw [if_neg hs] at h; cases h

/-! ### impl_lower: function 30 -/
def impl_lower.f (a0 : ByteArray) : Option ByteArray := if a0.size ≤ 9223372036854775807 then some (lowB a0) else none
set_option maxHeartbeats 8000000 in
set_option maxRecDepth 100000 in
theorem impl_lower.calls (a0 : ByteArray) (r : ByteArray) (w : World) (h : impl_lower.f a0 = some r) :
  Calls Tryd.prog 30 #[.string a0] w fun e w' => e = .returned (.string r) ∧ Below w.heap.size w w' := by
 unfold impl_lower.f at h
 by_cases hs : a0.size ≤ 9223372036854775807
 ·rw [if_pos hs] at h
  obtain rfl := Option.some.inj h
  have HB := Aside0.mk (Below.refl w.heap.size w)
  have hbl : (bytesOf a0).length = a0.size := bytesOf_length a0
  go_enter Tryd.func30, Tryd.ntmps30
  go_wp2_with (first | ((with_reducible refine gate_dst (N := 7) rfl ?_); refine low_conv_ 5 rfl (N := 7) rfl 9 56 _ rfl a0 rfl Tryd.underlying9 Tryd.underlying56 Tryd.underlying5 ?_; intro g1 w1 c1 hg1 hr1 hb1; have n0_ := Aside0.mk (below_step bel_ hb1); have n1_ := Aside0.mk (Nat.le_trans (below_size bel_) hg1); have n2_ := Aside0.mk hr1; clear HB hg1 hr1 hb1; have HB := n0_; have HG := n1_; have HR := n2_; clear n0_ n1_ n2_))
  go_loopg [10] a0.size (fun kq v10 w' => ∃ i : Nat, v10 = .int .i64 (i : Int) ∧ Aside0 (i + kq = a0.size) ∧ Aside0 (LowRow g1 5 w' (lowMix (bytesOf a0) i)) ∧ Aside0 (Below w.heap.size w w'))
  case atStart => exact ⟨0, rfl, ⟨Nat.zero_add _⟩, ⟨by show LowRow _ _ _ _; have := HR.out; simpa [lowMix] using this⟩, ⟨bel_⟩⟩
  case round =>
   clear HB HR
   obtain ⟨i, rfl, HK, HR, HB⟩ := hrel
   cases gk with
   | zero =>
    have hik : i = a0.size := HK.out
    subst hik
    have ci : decide (((a0.size : Nat) : Int) < (a0.size : Int)) = false := decide_eq_false (by omega)
    have hcv := string_of_reads (P := Tryd.prog) (c := c1) Tryd.underlying56 Tryd.underlying5 Tryd.underlying9 (low_reads HR.out (by rw [lowMix_len _ _ (by omega)]; exact hbl) hs)
    rw [show lowMix (bytesOf a0) a0.size = (bytesOf a0).map lowC from by rw [← hbl]; exact lowMix_all _] at hcv
    go_wp2
    go_ret
    exact ⟨rfl, bel_⟩
   | succ k1 =>
    have hik : i < a0.size := by have := HK.out; omega
    have ci : decide ((i : Int) < (a0.size : Int)) = true := decide_eq_true (by omega)
    have hll : (lowMix (bytesOf a0) i).length = a0.size := by rw [lowMix_len _ _ (by omega)]; exact hbl
    obtain ⟨hx0, hf0⟩ := low_cell HR.out (i : Int) (by omega) (by omega)
    simp only [Int.toNat_natCast] at hx0 hf0
    have hxv := lowMix_at (bytesOf a0) i (by omega)
    rw [show rd (lowMix (bytesOf a0) i) (i : Int) = (bytesOf a0).getD i 0 from hxv] at hx0
    have hst := lowMix_step (bytesOf a0) i (by omega)
    have hsm := lowMix_same (bytesOf a0) i (by omega)
    have hw1 : wrap64 ((i : Int) + 1) = ((i + 1 : Nat) : Int) := low_wrap i a0.size hik hs
    obtain ⟨x, hxe⟩ : ∃ x, (bytesOf a0).getD i 0 = x := ⟨_, rfl⟩
    rw [hxe] at hx0 hst hsm
    clear hxv hxe
    have HS := Aside0.mk hst
    have HM := Aside0.mk hsm
    have HW := Aside0.mk hw1
    have HL := Aside0.mk hll
    clear hst hsm hw1 hll
    have p9 := eq_true (show 0 ≤ (i : Int) by omega)
    have q9 := eq_true (show (i : Int) < (a0.size : Int) by omega)
    have same : lowC x = x → ∀ w', LowRow g1 5 w' (lowMix (bytesOf a0) i) → LowRow g1 5 w' (lowMix (bytesOf a0) (i + 1)) := fun hc w' hr => by rw [HM.out hc]; exact hr
    by_cases h1 : 65 ≤ x
    ·have d1 : decide (65 ≤ x) = true := decide_eq_true h1
     by_cases h2 : x ≤ 90
     ·have d2 : decide (x ≤ 90) = true := decide_eq_true h2
      have hlc : lowC x = (x + 32) % 256 := if_pos ⟨h1, h2⟩
      have hp0 := low_set HR.out (i : Int) (by omega) (by have := HL.out; omega) ((x + 32) % 256)
      simp only [Int.toNat_natCast] at hp0
      have HP := Aside0.mk hp0
      clear hp0
      clear same h1 h2
      go_wp2_with (first | ((with_reducible refine gate_store (t := 5) (p := 25) rfl ?_); refine store_event (t := 5) (p := 25) (v := ?vo_w11) (w1 := (wr.setCell ⟨g1, i, none⟩ (.int .u8 ((x + 32) % 256)))) ?hg ?ho ?hn ?hr ?_; (case ho => rfl); (case hg => rfl); (case hn => rfl); (case hr => first | (go_simp; done) | (go_simp; rfl)); intro w11 hw; have n0_ := Aside0.mk (show LowRow g1 5 w11 (lowMix (bytesOf a0) (i + 1)) from by rw [hw, HS.out, hlc]; exact HP.out); have n1_ := Aside0.mk ((by rw [hw]; exact below_set (HB.out) HG.out : Below w.heap.size w w11)); clear HP HR HB; have HR := n0_; have HB := n1_; clear n0_ n1_ hw))
      go_roundg k1
      case measure => omega
      case rel => exact ⟨i + 1, (by first | rfl | exact congrArg (Value.int .i64) HW.out | exact congrArg (Value.int .i64) (by omega)), ⟨by have := HK.out; omega⟩, ⟨HR.out⟩, ⟨bel_⟩⟩
     ·have d2 : decide (x ≤ 90) = false := decide_eq_false h2
      have hr2 := Aside0.mk (same (if_neg (fun hh => h2 hh.2)) _ HR.out)
      clear same h1 h2
      go_wp2
      go_roundg k1
      case measure => omega
      case rel => exact ⟨i + 1, (by first | rfl | exact congrArg (Value.int .i64) HW.out | exact congrArg (Value.int .i64) (by omega)), ⟨by have := HK.out; omega⟩, ⟨hr2.out⟩, ⟨bel_⟩⟩
    ·have d1 : decide (65 ≤ x) = false := decide_eq_false h1
     have hr2 := Aside0.mk (same (if_neg (fun hh => h1 hh.1)) _ HR.out)
     clear same h1
     go_wp2
     go_roundg k1
     case measure => omega
     case rel => exact ⟨i + 1, (by first | rfl | exact congrArg (Value.int .i64) HW.out | exact congrArg (Value.int .i64) (by omega)), ⟨by have := HK.out; omega⟩, ⟨hr2.out⟩, ⟨bel_⟩⟩
 ·rw [if_neg hs] at h; cases h

/-! ### stringslite_HasSuffix: function 123 -/
def stringslite_HasSuffix.f (a0 : ByteArray) (a1 : ByteArray) : Option (Bool) := if (a0.size : Int) ≥ (a1.size : Int) then (if 0 ≤ (wrap64 ((a0.size : Int) - (a1.size : Int))) then (if (wrap64 ((a0.size : Int) - (a1.size : Int))) ≤ (a0.size : Int) then (some ((a0.extract ((wrap64 ((a0.size : Int) - (a1.size : Int))) : Int).toNat a0.size).toList == a1.toList)) else (none)) else (none)) else (some false)
set_option maxHeartbeats 8000000 in
set_option maxRecDepth 100000 in
theorem stringslite_HasSuffix.calls (a0 : ByteArray) (a1 : ByteArray) (r : Bool) (w : World) (h : stringslite_HasSuffix.f a0 a1 = some r) :
  Calls Tryd.prog 123 #[.string a0, .string a1] w fun e w' => e = .returned (.bool r) ∧ Drawn0 w w' := by
 have H : (if (a0.size : Int) ≥ (a1.size : Int) then (if 0 ≤ (wrap64 ((a0.size : Int) - (a1.size : Int))) then (if (wrap64 ((a0.size : Int) - (a1.size : Int))) ≤ (a0.size : Int) then (some ((a0.extract ((wrap64 ((a0.size : Int) - (a1.size : Int))) : Int).toNat a0.size).toList == a1.toList)) else (none)) else (none)) else (some false)) = some r := h
 clear h
 by_cases c3 : (a0.size : Int) ≥ (a1.size : Int)
 ·rw [if_pos c3] at H
  have c3b0 : decide ((a1.size : Int) ≤ (a0.size : Int)) = true := decide_eq_true c3
  have c3b1 : decide (a1.size ≤ a0.size) = true := decide_eq_true (Int.ofNat_le.mp c3)
  clear c3
  obtain ⟨ji4, hji4⟩ : ∃ j_ : Int, (wrap64 ((a0.size : Int) - (a1.size : Int))) = j_ := ⟨_, rfl⟩
  replace H : (if 0 ≤ (ji4) then (if (ji4) ≤ (a0.size : Int) then (some ((a0.extract ((ji4) : Int).toNat a0.size).toList == a1.toList)) else (none)) else (none)) = some r := by first | (rw [hji4] at H; exact H) | (simp only [hji4] at H ⊢; exact H)
  have hji4w : (IntKind.i64.wrap ((a0.size : Int) - (a1.size : Int))) = ji4 := (i64_w _).trans hji4
  by_cases c5 : 0 ≤ (ji4)
  ·rw [if_pos c5] at H
   have c5b0 := eq_true c5
   have c5b1 : decide (0 ≤ (ji4)) = true := decide_eq_true c5
   clear c5
   by_cases c6 : (ji4) ≤ (a0.size : Int)
   ·rw [if_pos c6] at H
    have c6b0 := eq_true c6
    have c6b1 : decide ((ji4) ≤ (a0.size : Int)) = true := decide_eq_true c6
    clear c6
    obtain rfl := Option.some.inj H
    go_enter Tryd.func123, Tryd.ntmps123
    go_wp2
    go_ret
    exact ⟨by first | rfl | (simp; done) | (simp only [← hji4] <;> (first | rfl | simp)) | (simp [*]; done), by repeat (first | exact Drawn0.refl _ | apply Drawn0.step)⟩
   ·rw [if_neg c6] at H
    exact absurd H (by simp)
  ·rw [if_neg c5] at H
   exact absurd H (by simp)
 ·rw [if_neg c3] at H
  have c3b0 : decide ((a1.size : Int) ≤ (a0.size : Int)) = false := decide_eq_false c3
  have c3b1 : decide (a1.size ≤ a0.size) = false := decide_eq_false (fun h => c3 (Int.ofNat_le.mpr h))
  clear c3
  obtain rfl := Option.some.inj H
  go_enter Tryd.func123, Tryd.ntmps123
  go_wp2
  go_ret
  exact ⟨by first | rfl | (simp; done) | (simp [*]; done), by repeat (first | exact Drawn0.refl _ | apply Drawn0.step)⟩

/-! ### stringslite_CutSuffix: function 70 -/
def stringslite_CutSuffix.f (a0 : ByteArray) (a1 : ByteArray) : Option (ByteArray × Bool) := (stringslite_HasSuffix.f a0 a1).bind fun t234 => (if t234 = true then (if 0 ≤ (wrap64 ((a0.size : Int) - (a1.size : Int))) then (if (wrap64 ((a0.size : Int) - (a1.size : Int))) ≤ (a0.size : Int) then (some (a0.extract 0 ((wrap64 ((a0.size : Int) - (a1.size : Int))) : Int).toNat, true)) else (none)) else (none)) else (some (a0, false)))
set_option maxHeartbeats 8000000 in
set_option maxRecDepth 100000 in
theorem stringslite_CutSuffix.calls (a0 : ByteArray) (a1 : ByteArray) (r1 : ByteArray) (r2 : Bool) (w : World) (h : stringslite_CutSuffix.f a0 a1 = some (r1, r2)) :
  Calls Tryd.prog 70 #[.string a0, .string a1] w fun e w' => e = .returned (.tuple #[.string r1, .bool r2]) ∧ Drawn0 w w' := by
 have H : ((stringslite_HasSuffix.f a0 a1).bind fun t234 => (if t234 = true then (if 0 ≤ (wrap64 ((a0.size : Int) - (a1.size : Int))) then (if (wrap64 ((a0.size : Int) - (a1.size : Int))) ≤ (a0.size : Int) then (some (a0.extract 0 ((wrap64 ((a0.size : Int) - (a1.size : Int))) : Int).toNat, true)) else (none)) else (none)) else (some (a0, false)))) = some (r1, r2) := h
 clear h
 replace H := Option.bind_eq_some_iff.mp H
 obtain ⟨t234, A30, H⟩ := H
 replace H : (if t234 = true then (if 0 ≤ (wrap64 ((a0.size : Int) - (a1.size : Int))) then (if (wrap64 ((a0.size : Int) - (a1.size : Int))) ≤ (a0.size : Int) then (some (a0.extract 0 ((wrap64 ((a0.size : Int) - (a1.size : Int))) : Int).toNat, true)) else (none)) else (none)) else (some (a0, false))) = some (r1, r2) := H
 have A3 := Aside0.mk A30
 clear A30
 by_cases c4 : t234 = true
 ·subst c4
  have H1 : (if 0 ≤ (wrap64 ((a0.size : Int) - (a1.size : Int))) then (if (wrap64 ((a0.size : Int) - (a1.size : Int))) ≤ (a0.size : Int) then (some (a0.extract 0 ((wrap64 ((a0.size : Int) - (a1.size : Int))) : Int).toNat, true)) else (none)) else (none)) = some (r1, r2) := by rw [if_pos rfl] at H; exact H
  clear H
  have H := H1
  clear H1
  obtain ⟨ji5, hji5⟩ : ∃ j_ : Int, (wrap64 ((a0.size : Int) - (a1.size : Int))) = j_ := ⟨_, rfl⟩
  replace H : (if 0 ≤ (ji5) then (if (ji5) ≤ (a0.size : Int) then (some (a0.extract 0 ((ji5) : Int).toNat, true)) else (none)) else (none)) = some (r1, r2) := by first | (rw [hji5] at H; exact H) | (simp only [hji5] at H ⊢; exact H)
  (try rw [hji5] at A3)
  have hji5w : (IntKind.i64.wrap ((a0.size : Int) - (a1.size : Int))) = ji5 := (i64_w _).trans hji5
  by_cases c6 : 0 ≤ (ji5)
  ·rw [if_pos c6] at H
   have c6b0 := eq_true c6
   have c6b1 : decide (0 ≤ (ji5)) = true := decide_eq_true c6
   clear c6
   by_cases c7 : (ji5) ≤ (a0.size : Int)
   ·rw [if_pos c7] at H
    have c7b0 := eq_true c7
    have c7b1 : decide ((ji5) ≤ (a0.size : Int)) = true := decide_eq_true c7
    clear c7
    simp only [Option.some.injEq, Prod.mk.injEq] at H
    obtain ⟨rfl, rfl⟩ := H
    go_enter Tryd.func70, Tryd.ntmps70
    go_wp2_with (first | ((with_reducible refine gate_callee (f := 123) rfl ?_); refine goesL_ (some 8) rfl rfl Tryd.func123 (by kernel_rfl) rfl #[.string a0, .string a1] rfl au_ ?_; (with_reducible refine (stringslite_HasSuffix.calls a0 a1 true _ A3.out).mono ?_); rintro e w' ⟨rfl, ⟨nd, rfl⟩⟩; refine ⟨_, rfl, ?_⟩))
    go_ret2
    exact ⟨by first | rfl | (simp; done) | (simp only [← hji5] <;> (first | rfl | simp)) | (simp [*]; done), by repeat (first | exact Drawn0.refl _ | apply Drawn0.step)⟩
   ·rw [if_neg c7] at H
    exact absurd H (by simp)
  ·rw [if_neg c6] at H
   exact absurd H (by simp)
 ·replace c4 := Bool.eq_false_iff.mpr c4
  subst c4
  have H1 : (some (a0, false)) = some (r1, r2) := by rw [if_neg (show ¬ (false = true) by decide)] at H; exact H
  clear H
  have H := H1
  clear H1
  simp only [Option.some.injEq, Prod.mk.injEq] at H
  obtain ⟨rfl, rfl⟩ := H
  go_enter Tryd.func70, Tryd.ntmps70
  go_wp2_with (first | ((with_reducible refine gate_callee (f := 123) rfl ?_); refine goesL_ (some 8) rfl rfl Tryd.func123 (by kernel_rfl) rfl #[.string a0, .string a1] rfl au_ ?_; (with_reducible refine (stringslite_HasSuffix.calls a0 a1 false _ A3.out).mono ?_); rintro e w' ⟨rfl, ⟨nd, rfl⟩⟩; refine ⟨_, rfl, ?_⟩))
  go_ret2
  exact ⟨by first | rfl | (simp; done) | (simp [*]; done), by repeat (first | exact Drawn0.refl _ | apply Drawn0.step)⟩

/-! ### strings_CutSuffix: function 31 -/
def strings_CutSuffix.f (a0 : ByteArray) (a1 : ByteArray) : Option (ByteArray × Bool) := (stringslite_CutSuffix.f a0 a1).bind fun bt235 => (some (bt235.1, bt235.2))
set_option maxHeartbeats 8000000 in
set_option maxRecDepth 100000 in
theorem strings_CutSuffix.calls (a0 : ByteArray) (a1 : ByteArray) (r1 : ByteArray) (r2 : Bool) (w : World) (h : strings_CutSuffix.f a0 a1 = some (r1, r2)) :
  Calls Tryd.prog 31 #[.string a0, .string a1] w fun e w' => e = .returned (.tuple #[.string r1, .bool r2]) ∧ Drawn0 w w' := by
 have H : ((stringslite_CutSuffix.f a0 a1).bind fun bt235 => (some (bt235.1, bt235.2))) = some (r1, r2) := h
 clear h
 replace H := Option.bind_eq_some_iff.mp H
 obtain ⟨⟨t235, t236⟩, A30, H⟩ := H
 replace H : (some (t235, t236)) = some (r1, r2) := H
 have A3 := Aside0.mk A30
 clear A30
 simp only [Option.some.injEq, Prod.mk.injEq] at H
 obtain ⟨rfl, rfl⟩ := H
 go_enter Tryd.func31, Tryd.ntmps31
 go_wp2_with (first | ((with_reducible refine gate_callee (f := 70) rfl ?_); refine goesL_ (some 8) rfl rfl Tryd.func70 (by kernel_rfl) rfl #[.string a0, .string a1] rfl au_ ?_; (with_reducible refine (stringslite_CutSuffix.calls a0 a1 t235 t236 _ A3.out).mono ?_); rintro e w' ⟨rfl, ⟨nd, rfl⟩⟩; refine ⟨_, rfl, ?_⟩))
 go_ret2
 exact ⟨by first | rfl | (simp; done) | (simp [*]; done), by repeat (first | exact Drawn0.refl _ | apply Drawn0.step)⟩

/-! ### impl_readDecl: function 106 -/
def impl_readDecl.j0 : Nat → Bool → ByteArray → ByteArray → Bool → Option (ByteArray × ByteArray × Bool × Bool)
 | 0, _, _, _, _ => none
 | k + 1, x6, x245000, x245001, x245002 => if x6 = true then ((impl_isWord.f k x245000).bind fun t248 => (if t248 = true then ((impl_within.f (x245001.size : Int) 1 60).bind fun t249 => (if t249 = true then (some (x245000, x245001, x245002, true)) else (some ((⟨#[]⟩ : ByteArray), (⟨#[]⟩ : ByteArray), false, false)))) else (some ((⟨#[]⟩ : ByteArray), (⟨#[]⟩ : ByteArray), false, false)))) else (some ((⟨#[]⟩ : ByteArray), (⟨#[]⟩ : ByteArray), false, false))
def impl_readDecl.f (k : Nat) (a0 : ByteArray) : Option (ByteArray × ByteArray × Bool × Bool) := (strings_Cut.f a0 (⟨#[58]⟩ : ByteArray)).bind fun bt238 => ((impl_trimmed.f bt238.1).bind fun t241 => ((impl_lower.f t241).bind fun t242 => ((impl_trimmed.f bt238.2.1).bind fun t243 => ((strings_CutSuffix.f t243 (⟨#[33, 105, 109, 112, 111, 114, 116, 97, 110, 116]⟩ : ByteArray)).bind fun bt245 => (if bt245.2 = true then ((impl_trimmed.f bt245.1).bind fun t247 => (impl_readDecl.j0 k bt238.2.2 t242 t247 true)) else (impl_readDecl.j0 k bt238.2.2 t242 t243 false))))))
set_option maxHeartbeats 8000000 in
set_option maxRecDepth 100000 in
theorem impl_readDecl.calls (k : Nat) (a0 : ByteArray) (r1 : ByteArray) (r2 : ByteArray) (r3 : Bool) (r4 : Bool) (w : World) (h : impl_readDecl.f k a0 = some (r1, r2, r3, r4)) (hT_ : U8Tabs_ w) :
  Calls Tryd.prog 106 #[.string a0] w fun e w' => e = .returned (.tuple #[.agg #[.string r1, .string r2, .bool r3], .bool r4]) ∧ Below w.heap.size w w' := by
 have hu123 := Tryd.underlying123
 have HB := Aside0.mk (Below.refl w.heap.size w)
 have H : ((strings_Cut.f a0 (⟨#[58]⟩ : ByteArray)).bind fun bt238 => ((impl_trimmed.f bt238.1).bind fun t241 => ((impl_lower.f t241).bind fun t242 => ((impl_trimmed.f bt238.2.1).bind fun t243 => ((strings_CutSuffix.f t243 (⟨#[33, 105, 109, 112, 111, 114, 116, 97, 110, 116]⟩ : ByteArray)).bind fun bt245 => (if bt245.2 = true then ((impl_trimmed.f bt245.1).bind fun t247 => (impl_readDecl.j0 k bt238.2.2 t242 t247 true)) else (impl_readDecl.j0 k bt238.2.2 t242 t243 false))))))) = some (r1, r2, r3, r4) := h
 clear h
 replace H := Option.bind_eq_some_iff.mp H
 obtain ⟨⟨t238, t239, t240⟩, A20, H⟩ := H
 replace H : ((impl_trimmed.f t238).bind fun t241 => ((impl_lower.f t241).bind fun t242 => ((impl_trimmed.f t239).bind fun t243 => ((strings_CutSuffix.f t243 (⟨#[33, 105, 109, 112, 111, 114, 116, 97, 110, 116]⟩ : ByteArray)).bind fun bt245 => (if bt245.2 = true then ((impl_trimmed.f bt245.1).bind fun t247 => (impl_readDecl.j0 k t240 t242 t247 true)) else (impl_readDecl.j0 k t240 t242 t243 false)))))) = some (r1, r2, r3, r4) := H
 have A2 := Aside0.mk A20
 clear A20
 replace H := Option.bind_eq_some_iff.mp H
 obtain ⟨t241, A30, H⟩ := H
 replace H : ((impl_lower.f t241).bind fun t242 => ((impl_trimmed.f t239).bind fun t243 => ((strings_CutSuffix.f t243 (⟨#[33, 105, 109, 112, 111, 114, 116, 97, 110, 116]⟩ : ByteArray)).bind fun bt245 => (if bt245.2 = true then ((impl_trimmed.f bt245.1).bind fun t247 => (impl_readDecl.j0 k t240 t242 t247 true)) else (impl_readDecl.j0 k t240 t242 t243 false))))) = some (r1, r2, r3, r4) := H
 have A3 := Aside0.mk A30
 clear A30
 replace H := Option.bind_eq_some_iff.mp H
 obtain ⟨t242, A40, H⟩ := H
 replace H : ((impl_trimmed.f t239).bind fun t243 => ((strings_CutSuffix.f t243 (⟨#[33, 105, 109, 112, 111, 114, 116, 97, 110, 116]⟩ : ByteArray)).bind fun bt245 => (if bt245.2 = true then ((impl_trimmed.f bt245.1).bind fun t247 => (impl_readDecl.j0 k t240 t242 t247 true)) else (impl_readDecl.j0 k t240 t242 t243 false)))) = some (r1, r2, r3, r4) := H
 have A4 := Aside0.mk A40
 clear A40
 replace H := Option.bind_eq_some_iff.mp H
 obtain ⟨t243, A50, H⟩ := H
 replace H : ((strings_CutSuffix.f t243 (⟨#[33, 105, 109, 112, 111, 114, 116, 97, 110, 116]⟩ : ByteArray)).bind fun bt245 => (if bt245.2 = true then ((impl_trimmed.f bt245.1).bind fun t247 => (impl_readDecl.j0 k t240 t242 t247 true)) else (impl_readDecl.j0 k t240 t242 t243 false))) = some (r1, r2, r3, r4) := H
 have A5 := Aside0.mk A50
 clear A50
 replace H := Option.bind_eq_some_iff.mp H
 obtain ⟨⟨t245, t246⟩, A60, H⟩ := H
 replace H : (if t246 = true then ((impl_trimmed.f t245).bind fun t247 => (impl_readDecl.j0 k t240 t242 t247 true)) else (impl_readDecl.j0 k t240 t242 t243 false)) = some (r1, r2, r3, r4) := H
 have A6 := Aside0.mk A60
 clear A60
 have HC7 := Aside0.mk H
 clear H
 go_enter Tryd.func106, Tryd.ntmps106
 go_upto_if 28 with (first | ((with_reducible refine gate_dst (N := 2) rfl ?_); (try (refine gate_guard (by rfl) ?_; dsimp only)); refine box_event ?hg (N := 2) ?hd (cs := #[.string (⟨#[]⟩ : ByteArray), .string (⟨#[]⟩ : ByteArray), .bool false]) (t := 123) ?hr ?_; (case hd => rfl); (case hg => rfl); (case hr => first | (go_simp; done) | (go_simp; rfl)); intro gb237 hg w8 hbox hb; have n0_ := Aside0.mk (below_step bel_ hb); have n1_ := Aside0.mk (hbox); have n2_ := Aside0.mk ((by rw [hg]; exact (below_size bel_) : w.heap.size ≤ gb237)); have n3_ := Aside0.mk ((by rw [hg]; exact (below_size bel_) : w.heap.size ≤ gb237)); clear HB; have HB := n0_; have BK237 := n1_; have GW237 := n2_; have GE237 := n3_; clear n0_ n1_ n2_ n3_; clear hb hbox hg) | ((with_reducible refine gate_callee (f := 53) rfl ?_); refine goesL_ (some 12) rfl rfl Tryd.func53 (by kernel_rfl) rfl #[.string a0, .string (⟨#[58]⟩ : ByteArray)] rfl au_ ?_; (with_reducible refine (strings_Cut.calls a0 (⟨#[58]⟩ : ByteArray) t238 t239 t240 _ A2.out ?hT_).mono ?_); (case hT_ => exact utf8_keep_ hT_ bes_); rintro e w' ⟨rfl, ⟨nd, rfl⟩⟩; refine ⟨_, rfl, ?_⟩; (try (rw [drewN_self w8]; generalize hq_ : World.drewN w8 _ = w8; have n0_ : Aside0 (w8.heap[gb237]? = some (.cells #[.string (⟨#[]⟩ : ByteArray), .string (⟨#[]⟩ : ByteArray), .bool false] 123 (0, 0))) := ⟨by rw [← hq_]; exact (bk_ BK237.out)⟩; have n1_ : Aside0 (Below w.heap.size w w8) := ⟨by rw [← hq_]; exact bes_⟩; clear BK237 HB hq_; have BK237 := n0_; have HB := n1_; clear n0_ n1_; have hcq237_0 : w8.cell? ⟨gb237, 0, none⟩ = some (.string (⟨#[]⟩ : ByteArray)) := (blk_cell BK237.out 0).trans rfl; have hcq237_1 : w8.cell? ⟨gb237, 1, none⟩ = some (.string (⟨#[]⟩ : ByteArray)) := (blk_cell BK237.out 1).trans rfl; have hcq237_2 : w8.cell? ⟨gb237, 2, none⟩ = some (.bool false) := (blk_cell BK237.out 2).trans rfl))) | ((with_reducible refine gate_callee (f := 26) rfl ?_); refine goesL_ (some 17) rfl rfl Tryd.func26 (by kernel_rfl) rfl #[.string t238] rfl au_ ?_; (with_reducible refine (impl_trimmed.calls t238 t241 _ A3.out).mono ?_); rintro e w9 ⟨rfl, hb⟩; refine ⟨_, rfl, ?_⟩; have n0_ := Aside0.mk (blk_below (g := gb237) (o := .cells #[.string (⟨#[]⟩ : ByteArray), .string (⟨#[]⟩ : ByteArray), .bool false] 123 (0, 0)) (bk_ BK237.out) hb); have n1_ := Aside0.mk (below_step bes_ hb); clear BK237; clear HB; have BK237 := n0_; have HB := n1_; clear n0_ n1_; (try clear hb);(try clear hb2);(try clear hk);(try clear hi)) | ((with_reducible refine gate_callee (f := 30) rfl ?_); refine goesL_ (some 18) rfl rfl Tryd.func30 (by kernel_rfl) rfl #[.string t241] rfl au_ ?_; (with_reducible refine (impl_lower.calls t241 t242 _ A4.out).mono ?_); rintro e w10 ⟨rfl, hb⟩; refine ⟨_, rfl, ?_⟩; have n0_ := Aside0.mk (blk_below (g := gb237) (o := .cells #[.string (⟨#[]⟩ : ByteArray), .string (⟨#[]⟩ : ByteArray), .bool false] 123 (0, 0)) (bk_ BK237.out) hb); have n1_ := Aside0.mk (below_step bes_ hb); clear BK237; clear HB; have BK237 := n0_; have HB := n1_; clear n0_ n1_; (try clear hb);(try clear hb2);(try clear hk);(try clear hi)) | ((with_reducible refine gate_callee (f := 26) rfl ?_); refine goesL_ (some 20) rfl rfl Tryd.func26 (by kernel_rfl) rfl #[.string t239] rfl au_ ?_; (with_reducible refine (impl_trimmed.calls t239 t243 _ A5.out).mono ?_); rintro e w11 ⟨rfl, hb⟩; refine ⟨_, rfl, ?_⟩; have n0_ := Aside0.mk (blk_below (g := gb237) (o := .cells #[.string (⟨#[]⟩ : ByteArray), .string (⟨#[]⟩ : ByteArray), .bool false] 123 (0, 0)) (bk_ BK237.out) hb); have n1_ := Aside0.mk (below_step bes_ hb); clear BK237; clear HB; have BK237 := n0_; have HB := n1_; clear n0_ n1_; (try clear hb);(try clear hb2);(try clear hk);(try clear hi)) | ((with_reducible refine gate_dst (N := 7) rfl ?_); (try (refine gate_guard (by rfl) ?_; dsimp only)); refine box_event ?hg (N := 7) ?hd (cs := #[.string (⟨#[]⟩ : ByteArray), .string (⟨#[]⟩ : ByteArray), .bool false]) (t := 123) ?hr ?_; (case hd => rfl); (case hg => rfl); (case hr => first | (go_simp; done) | (go_simp; rfl)); intro gb244 hg w12 hbox hb; have n0_ := Aside0.mk (blk_below (g := gb237) (o := .cells #[.string (⟨#[]⟩ : ByteArray), .string (⟨#[]⟩ : ByteArray), .bool false] 123 (0, 0)) (bk_ BK237.out) hb); have n1_ := Aside0.mk (below_step bes_ hb); have n2_ := Aside0.mk (hbox); have n3_ := Aside0.mk ((by rw [hg]; exact (below_size bes_) : w.heap.size ≤ gb244)); have n4_ := Aside0.mk ((by rw [hg]; exact (below_size bes_) : w.heap.size ≤ gb244)); have n5_ := Aside0.mk ((by rw [hg]; exact Nat.ne_of_lt (blk_lt (g := gb237) (o := .cells #[.string (⟨#[]⟩ : ByteArray), .string (⟨#[]⟩ : ByteArray), .bool false] 123 (0, 0)) (bk_ BK237.out)) : gb237 ≠ gb244)); have n6_ := Aside0.mk ((by rw [hg]; exact Nat.ne_of_gt (blk_lt (g := gb237) (o := .cells #[.string (⟨#[]⟩ : ByteArray), .string (⟨#[]⟩ : ByteArray), .bool false] 123 (0, 0)) (bk_ BK237.out)) : gb244 ≠ gb237)); clear BK237; clear HB; have BK237 := n0_; have HB := n1_; have BK244 := n2_; have GW244 := n3_; have GE244 := n4_; have NB237_244 := n5_; have NB244_237 := n6_; clear n0_ n1_ n2_ n3_ n4_ n5_ n6_; clear hb hbox hg; have hnb13 := NB244_237.out; have hnc13 := NB237_244.out; have hcz14_0 := bc3_0 BK244.out; have hcz14_1 := bc3_1 BK244.out; have hcz14_2 := bc3_2 BK244.out; have hfz14_0 := blk_frozen BK244.out 0; have hfz14_1 := blk_frozen BK244.out 1; have hfz14_2 := blk_frozen BK244.out 2) | ((with_reducible refine gate_callee (f := 31) rfl ?_); refine goesL_ (some 25) rfl rfl Tryd.func31 (by kernel_rfl) rfl #[.string t243, .string (⟨#[33, 105, 109, 112, 111, 114, 116, 97, 110, 116]⟩ : ByteArray)] rfl au_ ?_; (with_reducible refine (strings_CutSuffix.calls t243 (⟨#[33, 105, 109, 112, 111, 114, 116, 97, 110, 116]⟩ : ByteArray) t245 t246 _ A6.out).mono ?_); rintro e w' ⟨rfl, ⟨nd, rfl⟩⟩; refine ⟨_, rfl, ?_⟩))
 (try simp only [Act.put, List.setIfInBounds_toArray, List.set_cons_zero, List.set_cons_succ])
 go_cut [] (fun wc => ∃ (kq : Nat) (x245001_6 : ByteArray) (x245002_6 : Bool), Aside0 (impl_readDecl.j0 kq t240 t242 x245001_6 x245002_6 = some (r1, r2, r3, r4)) ∧ Aside0 (kq ≤ k) ∧ Aside0 (wc.heap[gb237]? = some (.cells #[.string (⟨#[]⟩ : ByteArray), .string (⟨#[]⟩ : ByteArray), .bool false] 123 (0, 0))) ∧ Aside0 (wc.heap[gb244]? = some (.cells #[.string t242, .string x245001_6, .bool x245002_6] 123 (0, 0))) ∧ Aside0 (Below w.heap.size w wc))
 case first =>
  have H := HC7.out
  clear HC7
  by_cases c15 : t246 = true
  ·subst c15
   have H1 : ((impl_trimmed.f t245).bind fun t247 => (impl_readDecl.j0 k t240 t242 t247 true)) = some (r1, r2, r3, r4) := by rw [if_pos rfl] at H; exact H
   clear H
   have H := H1
   clear H1
   replace H := Option.bind_eq_some_iff.mp H
   obtain ⟨t247, A160, H⟩ := H
   replace H : (impl_readDecl.j0 k t240 t242 t247 true) = some (r1, r2, r3, r4) := H
   have A16 := Aside0.mk A160
   clear A160
   have H' := Aside0.mk H
   clear H
   go_wp2_with (first | ((with_reducible refine gate_callee (f := 26) rfl ?_); refine goesL_ (some 30) rfl rfl Tryd.func26 (by kernel_rfl) rfl #[.string t245] rfl au_ ?_; (with_reducible refine (impl_trimmed.calls t245 t247 _ A16.out).mono ?_); rintro e w17 ⟨rfl, hb⟩; refine ⟨_, rfl, ?_⟩; have n0_ := Aside0.mk (blk_below (g := gb237) (o := .cells #[.string (⟨#[]⟩ : ByteArray), .string (⟨#[]⟩ : ByteArray), .bool false] 123 (0, 0)) (by (with_reducible repeat (first | refine blk_drewN ?_ _ | refine blk_drew ?_ | refine blk_alloc ?_ _)); refine blk_far ?_ NB237_244.out _; (with_reducible repeat (first | refine blk_drewN ?_ _ | refine blk_drew ?_ | refine blk_alloc ?_ _)); refine blk_far ?_ NB237_244.out _; (with_reducible repeat (first | refine blk_drewN ?_ _ | refine blk_drew ?_ | refine blk_alloc ?_ _)); refine blk_far ?_ NB237_244.out _; (with_reducible repeat (first | refine blk_drewN ?_ _ | refine blk_drew ?_ | refine blk_alloc ?_ _)); exact BK237.out) hb); have n1_ := Aside0.mk (blk_below (g := gb244) (o := .cells #[.string t242, .string t243, .bool false] 123 (0, 0)) (by (with_reducible repeat (first | refine blk_drewN ?_ _ | refine blk_drew ?_ | refine blk_alloc ?_ _)); refine blk_put (cs := #[.string t242, .string t243, .bool false]) ?_ 2 _ rfl; (with_reducible repeat (first | refine blk_drewN ?_ _ | refine blk_drew ?_ | refine blk_alloc ?_ _)); refine blk_put (cs := #[.string t242, .string (⟨#[]⟩ : ByteArray), .bool false]) ?_ 1 _ rfl; (with_reducible repeat (first | refine blk_drewN ?_ _ | refine blk_drew ?_ | refine blk_alloc ?_ _)); refine blk_put (cs := #[.string (⟨#[]⟩ : ByteArray), .string (⟨#[]⟩ : ByteArray), .bool false]) ?_ 0 _ rfl; (with_reducible repeat (first | refine blk_drewN ?_ _ | refine blk_drew ?_ | refine blk_alloc ?_ _)); exact BK244.out) hb); have n2_ := Aside0.mk (below_step bes_ hb); clear BK237; clear BK244; clear HB; have BK237 := n0_; have BK244 := n1_; have HB := n2_; clear n0_ n1_ n2_; (try clear hb);(try clear hb2);(try clear hk);(try clear hi); have hnb18 := NB244_237.out; have hnc18 := NB237_244.out; have hcz19_0 := bc3_0 BK244.out; have hcz19_1 := bc3_1 BK244.out; have hcz19_2 := bc3_2 BK244.out; have hfz19_0 := blk_frozen BK244.out 0; have hfz19_1 := blk_frozen BK244.out 1; have hfz19_2 := blk_frozen BK244.out 2))
   go_meet
   case rel => exact ⟨_, (t247), (true), H', ⟨by first | omega | exact Nat.le_refl _⟩, ⟨by (with_reducible repeat (first | refine blk_drewN ?_ _ | refine blk_drew ?_ | refine blk_alloc ?_ _)); refine blk_far ?_ NB237_244.out _; (with_reducible repeat (first | refine blk_drewN ?_ _ | refine blk_drew ?_ | refine blk_alloc ?_ _)); refine blk_far ?_ NB237_244.out _; (with_reducible repeat (first | refine blk_drewN ?_ _ | refine blk_drew ?_ | refine blk_alloc ?_ _)); exact BK237.out⟩, ⟨by (with_reducible repeat (first | refine blk_drewN ?_ _ | refine blk_drew ?_ | refine blk_alloc ?_ _)); refine blk_put (cs := #[.string t242, .string t247, .bool false]) ?_ 2 _ rfl; (with_reducible repeat (first | refine blk_drewN ?_ _ | refine blk_drew ?_ | refine blk_alloc ?_ _)); refine blk_put (cs := #[.string t242, .string t243, .bool false]) ?_ 1 _ rfl; (with_reducible repeat (first | refine blk_drewN ?_ _ | refine blk_drew ?_ | refine blk_alloc ?_ _)); exact BK244.out⟩, ⟨bes_⟩⟩
  ·replace c15 := Bool.eq_false_iff.mpr c15
   subst c15
   have H1 : (impl_readDecl.j0 k t240 t242 t243 false) = some (r1, r2, r3, r4) := by rw [if_neg (show ¬ (false = true) by decide)] at H; exact H
   clear H
   have H := H1
   clear H1
   have H' := Aside0.mk H
   clear H
   go_wp2
   go_meet
   case rel => exact ⟨_, (t243), (false), H', ⟨by first | omega | exact Nat.le_refl _⟩, ⟨by (with_reducible repeat (first | refine blk_drewN ?_ _ | refine blk_drew ?_ | refine blk_alloc ?_ _)); refine blk_far ?_ NB237_244.out _; (with_reducible repeat (first | refine blk_drewN ?_ _ | refine blk_drew ?_ | refine blk_alloc ?_ _)); refine blk_far ?_ NB237_244.out _; (with_reducible repeat (first | refine blk_drewN ?_ _ | refine blk_drew ?_ | refine blk_alloc ?_ _)); refine blk_far ?_ NB237_244.out _; (with_reducible repeat (first | refine blk_drewN ?_ _ | refine blk_drew ?_ | refine blk_alloc ?_ _)); exact BK237.out⟩, ⟨by (with_reducible repeat (first | refine blk_drewN ?_ _ | refine blk_drew ?_ | refine blk_alloc ?_ _)); refine blk_put (cs := #[.string t242, .string t243, .bool false]) ?_ 2 _ rfl; (with_reducible repeat (first | refine blk_drewN ?_ _ | refine blk_drew ?_ | refine blk_alloc ?_ _)); refine blk_put (cs := #[.string t242, .string (⟨#[]⟩ : ByteArray), .bool false]) ?_ 1 _ rfl; (with_reducible repeat (first | refine blk_drewN ?_ _ | refine blk_drew ?_ | refine blk_alloc ?_ _)); refine blk_put (cs := #[.string (⟨#[]⟩ : ByteArray), .string (⟨#[]⟩ : ByteArray), .bool false]) ?_ 0 _ rfl; (with_reducible repeat (first | refine blk_drewN ?_ _ | refine blk_drew ?_ | refine blk_alloc ?_ _)); exact BK244.out⟩, ⟨bes_⟩⟩
 case rest =>
  clear HC7
  (try clear c1);(try clear c2);(try clear p2);(try clear c3);(try clear c5);(try clear c10);(try clear c13);(try clear c15);(try clear c18);(try clear hcz14_0 hcz14_1 hcz14_2);(try clear hcz19_0 hcz19_1 hcz19_2);(try clear hfz14_0 hfz14_1 hfz14_2);(try clear hfz19_0 hfz19_1 hfz19_2)
  obtain ⟨kq, x245001_6, x245002_6, HA, HJ6, BK237, BK244, HB⟩ := hcut
  cases kq with
  | zero => exact absurd HA.out (by simp [impl_readDecl.j0])
  | succ kj6 =>
   have H := HA.out
   clear HA
   simp only [impl_readDecl.j0] at H
   by_cases c20 : t240 = true
   ·subst c20
    have H1 : ((impl_isWord.f kj6 t242).bind fun t248 => (if t248 = true then ((impl_within.f (x245001_6.size : Int) 1 60).bind fun t249 => (if t249 = true then (some (t242, x245001_6, x245002_6, true)) else (some ((⟨#[]⟩ : ByteArray), (⟨#[]⟩ : ByteArray), false, false)))) else (some ((⟨#[]⟩ : ByteArray), (⟨#[]⟩ : ByteArray), false, false)))) = some (r1, r2, r3, r4) := by rw [if_pos rfl] at H; exact H
    clear H
    have H := H1
    clear H1
    replace H := Option.bind_eq_some_iff.mp H
    obtain ⟨t248, A210, H⟩ := H
    replace H : (if t248 = true then ((impl_within.f (x245001_6.size : Int) 1 60).bind fun t249 => (if t249 = true then (some (t242, x245001_6, x245002_6, true)) else (some ((⟨#[]⟩ : ByteArray), (⟨#[]⟩ : ByteArray), false, false)))) else (some ((⟨#[]⟩ : ByteArray), (⟨#[]⟩ : ByteArray), false, false))) = some (r1, r2, r3, r4) := H
    have A21 := Aside0.mk A210
    clear A210
    by_cases c22 : t248 = true
    ·subst c22
     have H1 : ((impl_within.f (x245001_6.size : Int) 1 60).bind fun t249 => (if t249 = true then (some (t242, x245001_6, x245002_6, true)) else (some ((⟨#[]⟩ : ByteArray), (⟨#[]⟩ : ByteArray), false, false)))) = some (r1, r2, r3, r4) := by rw [if_pos rfl] at H; exact H
     clear H
     have H := H1
     clear H1
     replace H := Option.bind_eq_some_iff.mp H
     obtain ⟨t249, A230, H⟩ := H
     replace H : (if t249 = true then (some (t242, x245001_6, x245002_6, true)) else (some ((⟨#[]⟩ : ByteArray), (⟨#[]⟩ : ByteArray), false, false))) = some (r1, r2, r3, r4) := H
     have A23 := Aside0.mk A230
     clear A230
     by_cases c24 : t249 = true
     ·subst c24
      have H1 : (some (t242, x245001_6, x245002_6, true)) = some (r1, r2, r3, r4) := by rw [if_pos rfl] at H; exact H
      clear H
      have H := H1
      clear H1
      simp only [Option.some.injEq, Prod.mk.injEq] at H
      obtain ⟨rfl, rfl, rfl, rfl⟩ := H
      have hnb25 := NB244_237.out
      have hnc25 := NB237_244.out
      have hcz26_0 := bc3_0 BK244.out
      have hcz26_1 := bc3_1 BK244.out
      have hcz26_2 := bc3_2 BK244.out
      have hfz26_0 := blk_frozen BK244.out 0
      have hfz26_1 := blk_frozen BK244.out 1
      have hfz26_2 := blk_frozen BK244.out 2
      go_wp2_with (first | (go_at_call 140; (with_reducible refine (impl_isWord.calls kj6 t242 true _ A21.out).mono ?_); rintro e w' ⟨rfl, ⟨nd, rfl⟩⟩; (try (rw [drewN_self wc]; generalize hq_ : World.drewN wc _ = wc; have n0_ : Aside0 (wc.heap[gb237]? = some (.cells #[.string (⟨#[]⟩ : ByteArray), .string (⟨#[]⟩ : ByteArray), .bool false] 123 (0, 0))) := ⟨by rw [← hq_]; exact (bk_ BK237.out)⟩; have n1_ : Aside0 (wc.heap[gb244]? = some (.cells #[.string t242, .string x245001_6, .bool x245002_6] 123 (0, 0))) := ⟨by rw [← hq_]; exact (bk_ BK244.out)⟩; have n2_ : Aside0 (Below w.heap.size w wc) := ⟨by rw [← hq_]; exact bes_⟩; clear BK237 BK244 HB hq_; have BK237 := n0_; have BK244 := n1_; have HB := n2_; clear n0_ n1_ n2_; have hcq237_0 : wc.cell? ⟨gb237, 0, none⟩ = some (.string (⟨#[]⟩ : ByteArray)) := (blk_cell BK237.out 0).trans rfl; have hcq237_1 : wc.cell? ⟨gb237, 1, none⟩ = some (.string (⟨#[]⟩ : ByteArray)) := (blk_cell BK237.out 1).trans rfl; have hcq237_2 : wc.cell? ⟨gb237, 2, none⟩ = some (.bool false) := (blk_cell BK237.out 2).trans rfl; have hcq244_0 : wc.cell? ⟨gb244, 0, none⟩ = some (.string t242) := (blk_cell BK244.out 0).trans rfl; have hcq244_1 : wc.cell? ⟨gb244, 1, none⟩ = some (.string x245001_6) := (blk_cell BK244.out 1).trans rfl; have hcq244_2 : wc.cell? ⟨gb244, 2, none⟩ = some (.bool x245002_6) := (blk_cell BK244.out 2).trans rfl))) | (go_at_call 33; (with_reducible refine (impl_within.calls (x245001_6.size : Int) 1 60 true _ A23.out).mono ?_); rintro e w' ⟨rfl, ⟨nd, rfl⟩⟩; (try (rw [drewN_self wc]; generalize hq_ : World.drewN wc _ = wc; have n0_ : Aside0 (wc.heap[gb237]? = some (.cells #[.string (⟨#[]⟩ : ByteArray), .string (⟨#[]⟩ : ByteArray), .bool false] 123 (0, 0))) := ⟨by rw [← hq_]; exact (bk_ BK237.out)⟩; have n1_ : Aside0 (wc.heap[gb244]? = some (.cells #[.string t242, .string x245001_6, .bool x245002_6] 123 (0, 0))) := ⟨by rw [← hq_]; exact (bk_ BK244.out)⟩; have n2_ : Aside0 (Below w.heap.size w wc) := ⟨by rw [← hq_]; exact bes_⟩; clear BK237 BK244 HB hq_; have BK237 := n0_; have BK244 := n1_; have HB := n2_; clear n0_ n1_ n2_; have hcq237_0 : wc.cell? ⟨gb237, 0, none⟩ = some (.string (⟨#[]⟩ : ByteArray)) := (blk_cell BK237.out 0).trans rfl; have hcq237_1 : wc.cell? ⟨gb237, 1, none⟩ = some (.string (⟨#[]⟩ : ByteArray)) := (blk_cell BK237.out 1).trans rfl; have hcq237_2 : wc.cell? ⟨gb237, 2, none⟩ = some (.bool false) := (blk_cell BK237.out 2).trans rfl; have hcq244_0 : wc.cell? ⟨gb244, 0, none⟩ = some (.string t242) := (blk_cell BK244.out 0).trans rfl; have hcq244_1 : wc.cell? ⟨gb244, 1, none⟩ = some (.string x245001_6) := (blk_cell BK244.out 1).trans rfl; have hcq244_2 : wc.cell? ⟨gb244, 2, none⟩ = some (.bool x245002_6) := (blk_cell BK244.out 2).trans rfl)); have hcz27_0 := bc3_0 BK237.out; have hcz27_1 := bc3_1 BK237.out; have hcz27_2 := bc3_2 BK237.out; have hfz27_0 := blk_frozen BK237.out 0; have hfz27_1 := blk_frozen BK237.out 1; have hfz27_2 := blk_frozen BK237.out 2))
      refine bodyPost_ret (results_ct rfl _ _ gb237 123 #[.string t242, .string x245001_6, .bool x245002_6] (0, 0) _ rfl (by (with_reducible repeat (first | refine blk_drewN ?_ _ | refine blk_drew ?_ | refine blk_alloc ?_ _)); refine blk_put (cs := #[.string t242, .string x245001_6, .bool false]) ?_ 2 _ rfl; (with_reducible repeat (first | refine blk_drewN ?_ _ | refine blk_drew ?_ | refine blk_alloc ?_ _)); refine blk_put (cs := #[.string t242, .string (⟨#[]⟩ : ByteArray), .bool false]) ?_ 1 _ rfl; (with_reducible repeat (first | refine blk_drewN ?_ _ | refine blk_drew ?_ | refine blk_alloc ?_ _)); refine blk_put (cs := #[.string (⟨#[]⟩ : ByteArray), .string (⟨#[]⟩ : ByteArray), .bool false]) ?_ 0 _ rfl; (with_reducible repeat (first | refine blk_drewN ?_ _ | refine blk_drew ?_ | refine blk_alloc ?_ _)); exact BK237.out) Tryd.underlying123 rfl (by kernel_rfl)) rfl ?_
      exact ⟨er_, bes_⟩
     ·replace c24 := Bool.eq_false_iff.mpr c24
      subst c24
      have H1 : (some ((⟨#[]⟩ : ByteArray), (⟨#[]⟩ : ByteArray), false, false)) = some (r1, r2, r3, r4) := by rw [if_neg (show ¬ (false = true) by decide)] at H; exact H
      clear H
      have H := H1
      clear H1
      simp only [Option.some.injEq, Prod.mk.injEq] at H
      obtain ⟨rfl, rfl, rfl, rfl⟩ := H
      have hnb28 := NB244_237.out
      have hnc28 := NB237_244.out
      have hcz29_0 := bc3_0 BK244.out
      have hcz29_1 := bc3_1 BK244.out
      have hcz29_2 := bc3_2 BK244.out
      have hfz29_0 := blk_frozen BK244.out 0
      have hfz29_1 := blk_frozen BK244.out 1
      have hfz29_2 := blk_frozen BK244.out 2
      go_wp2_with (first | (go_at_call 140; (with_reducible refine (impl_isWord.calls kj6 t242 true _ A21.out).mono ?_); rintro e w' ⟨rfl, ⟨nd, rfl⟩⟩; (try (rw [drewN_self wc]; generalize hq_ : World.drewN wc _ = wc; have n0_ : Aside0 (wc.heap[gb237]? = some (.cells #[.string (⟨#[]⟩ : ByteArray), .string (⟨#[]⟩ : ByteArray), .bool false] 123 (0, 0))) := ⟨by rw [← hq_]; exact (bk_ BK237.out)⟩; have n1_ : Aside0 (wc.heap[gb244]? = some (.cells #[.string t242, .string x245001_6, .bool x245002_6] 123 (0, 0))) := ⟨by rw [← hq_]; exact (bk_ BK244.out)⟩; have n2_ : Aside0 (Below w.heap.size w wc) := ⟨by rw [← hq_]; exact bes_⟩; clear BK237 BK244 HB hq_; have BK237 := n0_; have BK244 := n1_; have HB := n2_; clear n0_ n1_ n2_; have hcq237_0 : wc.cell? ⟨gb237, 0, none⟩ = some (.string (⟨#[]⟩ : ByteArray)) := (blk_cell BK237.out 0).trans rfl; have hcq237_1 : wc.cell? ⟨gb237, 1, none⟩ = some (.string (⟨#[]⟩ : ByteArray)) := (blk_cell BK237.out 1).trans rfl; have hcq237_2 : wc.cell? ⟨gb237, 2, none⟩ = some (.bool false) := (blk_cell BK237.out 2).trans rfl; have hcq244_0 : wc.cell? ⟨gb244, 0, none⟩ = some (.string t242) := (blk_cell BK244.out 0).trans rfl; have hcq244_1 : wc.cell? ⟨gb244, 1, none⟩ = some (.string x245001_6) := (blk_cell BK244.out 1).trans rfl; have hcq244_2 : wc.cell? ⟨gb244, 2, none⟩ = some (.bool x245002_6) := (blk_cell BK244.out 2).trans rfl))) | (go_at_call 33; (with_reducible refine (impl_within.calls (x245001_6.size : Int) 1 60 false _ A23.out).mono ?_); rintro e w' ⟨rfl, ⟨nd, rfl⟩⟩; (try (rw [drewN_self wc]; generalize hq_ : World.drewN wc _ = wc; have n0_ : Aside0 (wc.heap[gb237]? = some (.cells #[.string (⟨#[]⟩ : ByteArray), .string (⟨#[]⟩ : ByteArray), .bool false] 123 (0, 0))) := ⟨by rw [← hq_]; exact (bk_ BK237.out)⟩; have n1_ : Aside0 (wc.heap[gb244]? = some (.cells #[.string t242, .string x245001_6, .bool x245002_6] 123 (0, 0))) := ⟨by rw [← hq_]; exact (bk_ BK244.out)⟩; have n2_ : Aside0 (Below w.heap.size w wc) := ⟨by rw [← hq_]; exact bes_⟩; clear BK237 BK244 HB hq_; have BK237 := n0_; have BK244 := n1_; have HB := n2_; clear n0_ n1_ n2_; have hcq237_0 : wc.cell? ⟨gb237, 0, none⟩ = some (.string (⟨#[]⟩ : ByteArray)) := (blk_cell BK237.out 0).trans rfl; have hcq237_1 : wc.cell? ⟨gb237, 1, none⟩ = some (.string (⟨#[]⟩ : ByteArray)) := (blk_cell BK237.out 1).trans rfl; have hcq237_2 : wc.cell? ⟨gb237, 2, none⟩ = some (.bool false) := (blk_cell BK237.out 2).trans rfl; have hcq244_0 : wc.cell? ⟨gb244, 0, none⟩ = some (.string t242) := (blk_cell BK244.out 0).trans rfl; have hcq244_1 : wc.cell? ⟨gb244, 1, none⟩ = some (.string x245001_6) := (blk_cell BK244.out 1).trans rfl; have hcq244_2 : wc.cell? ⟨gb244, 2, none⟩ = some (.bool x245002_6) := (blk_cell BK244.out 2).trans rfl)); have hcz30_0 := bc3_0 BK237.out; have hcz30_1 := bc3_1 BK237.out; have hcz30_2 := bc3_2 BK237.out; have hfz30_0 := blk_frozen BK237.out 0; have hfz30_1 := blk_frozen BK237.out 1; have hfz30_2 := blk_frozen BK237.out 2))
      refine bodyPost_ret (results_ct rfl _ _ gb237 123 #[.string (⟨#[]⟩ : ByteArray), .string (⟨#[]⟩ : ByteArray), .bool false] (0, 0) _ rfl (by (with_reducible repeat (first | refine blk_drewN ?_ _ | refine blk_drew ?_ | refine blk_alloc ?_ _)); refine blk_put (cs := #[.string (⟨#[]⟩ : ByteArray), .string (⟨#[]⟩ : ByteArray), .bool false]) ?_ 2 _ rfl; (with_reducible repeat (first | refine blk_drewN ?_ _ | refine blk_drew ?_ | refine blk_alloc ?_ _)); refine blk_put (cs := #[.string (⟨#[]⟩ : ByteArray), .string (⟨#[]⟩ : ByteArray), .bool false]) ?_ 1 _ rfl; (with_reducible repeat (first | refine blk_drewN ?_ _ | refine blk_drew ?_ | refine blk_alloc ?_ _)); refine blk_put (cs := #[.string (⟨#[]⟩ : ByteArray), .string (⟨#[]⟩ : ByteArray), .bool false]) ?_ 0 _ rfl; (with_reducible repeat (first | refine blk_drewN ?_ _ | refine blk_drew ?_ | refine blk_alloc ?_ _)); exact BK237.out) Tryd.underlying123 rfl (by kernel_rfl)) rfl ?_
      exact ⟨er_, bes_⟩
    ·replace c22 := Bool.eq_false_iff.mpr c22
     subst c22
     have H1 : (some ((⟨#[]⟩ : ByteArray), (⟨#[]⟩ : ByteArray), false, false)) = some (r1, r2, r3, r4) := by rw [if_neg (show ¬ (false = true) by decide)] at H; exact H
     clear H
     have H := H1
     clear H1
     simp only [Option.some.injEq, Prod.mk.injEq] at H
     obtain ⟨rfl, rfl, rfl, rfl⟩ := H
     have hnb31 := NB244_237.out
     have hnc31 := NB237_244.out
     have hcz32_0 := bc3_0 BK244.out
     have hcz32_1 := bc3_1 BK244.out
     have hcz32_2 := bc3_2 BK244.out
     have hfz32_0 := blk_frozen BK244.out 0
     have hfz32_1 := blk_frozen BK244.out 1
     have hfz32_2 := blk_frozen BK244.out 2
     go_wp2_with (first | (go_at_call 140; (with_reducible refine (impl_isWord.calls kj6 t242 false _ A21.out).mono ?_); rintro e w' ⟨rfl, ⟨nd, rfl⟩⟩; (try (rw [drewN_self wc]; generalize hq_ : World.drewN wc _ = wc; have n0_ : Aside0 (wc.heap[gb237]? = some (.cells #[.string (⟨#[]⟩ : ByteArray), .string (⟨#[]⟩ : ByteArray), .bool false] 123 (0, 0))) := ⟨by rw [← hq_]; exact (bk_ BK237.out)⟩; have n1_ : Aside0 (wc.heap[gb244]? = some (.cells #[.string t242, .string x245001_6, .bool x245002_6] 123 (0, 0))) := ⟨by rw [← hq_]; exact (bk_ BK244.out)⟩; have n2_ : Aside0 (Below w.heap.size w wc) := ⟨by rw [← hq_]; exact bes_⟩; clear BK237 BK244 HB hq_; have BK237 := n0_; have BK244 := n1_; have HB := n2_; clear n0_ n1_ n2_; have hcq237_0 : wc.cell? ⟨gb237, 0, none⟩ = some (.string (⟨#[]⟩ : ByteArray)) := (blk_cell BK237.out 0).trans rfl; have hcq237_1 : wc.cell? ⟨gb237, 1, none⟩ = some (.string (⟨#[]⟩ : ByteArray)) := (blk_cell BK237.out 1).trans rfl; have hcq237_2 : wc.cell? ⟨gb237, 2, none⟩ = some (.bool false) := (blk_cell BK237.out 2).trans rfl; have hcq244_0 : wc.cell? ⟨gb244, 0, none⟩ = some (.string t242) := (blk_cell BK244.out 0).trans rfl; have hcq244_1 : wc.cell? ⟨gb244, 1, none⟩ = some (.string x245001_6) := (blk_cell BK244.out 1).trans rfl; have hcq244_2 : wc.cell? ⟨gb244, 2, none⟩ = some (.bool x245002_6) := (blk_cell BK244.out 2).trans rfl)); have hcz33_0 := bc3_0 BK237.out; have hcz33_1 := bc3_1 BK237.out; have hcz33_2 := bc3_2 BK237.out; have hfz33_0 := blk_frozen BK237.out 0; have hfz33_1 := blk_frozen BK237.out 1; have hfz33_2 := blk_frozen BK237.out 2))
     refine bodyPost_ret (results_ct rfl _ _ gb237 123 #[.string (⟨#[]⟩ : ByteArray), .string (⟨#[]⟩ : ByteArray), .bool false] (0, 0) _ rfl (by (with_reducible repeat (first | refine blk_drewN ?_ _ | refine blk_drew ?_ | refine blk_alloc ?_ _)); refine blk_put (cs := #[.string (⟨#[]⟩ : ByteArray), .string (⟨#[]⟩ : ByteArray), .bool false]) ?_ 2 _ rfl; (with_reducible repeat (first | refine blk_drewN ?_ _ | refine blk_drew ?_ | refine blk_alloc ?_ _)); refine blk_put (cs := #[.string (⟨#[]⟩ : ByteArray), .string (⟨#[]⟩ : ByteArray), .bool false]) ?_ 1 _ rfl; (with_reducible repeat (first | refine blk_drewN ?_ _ | refine blk_drew ?_ | refine blk_alloc ?_ _)); refine blk_put (cs := #[.string (⟨#[]⟩ : ByteArray), .string (⟨#[]⟩ : ByteArray), .bool false]) ?_ 0 _ rfl; (with_reducible repeat (first | refine blk_drewN ?_ _ | refine blk_drew ?_ | refine blk_alloc ?_ _)); exact BK237.out) Tryd.underlying123 rfl (by kernel_rfl)) rfl ?_
     exact ⟨er_, bes_⟩
   ·replace c20 := Bool.eq_false_iff.mpr c20
    subst c20
    have H1 : (some ((⟨#[]⟩ : ByteArray), (⟨#[]⟩ : ByteArray), false, false)) = some (r1, r2, r3, r4) := by rw [if_neg (show ¬ (false = true) by decide)] at H; exact H
    clear H
    have H := H1
    clear H1
    simp only [Option.some.injEq, Prod.mk.injEq] at H
    obtain ⟨rfl, rfl, rfl, rfl⟩ := H
    have hnb34 := NB237_244.out
    have hnc34 := NB244_237.out
    have hcz35_0 := bc3_0 BK237.out
    have hcz35_1 := bc3_1 BK237.out
    have hcz35_2 := bc3_2 BK237.out
    have hfz35_0 := blk_frozen BK237.out 0
    have hfz35_1 := blk_frozen BK237.out 1
    have hfz35_2 := blk_frozen BK237.out 2
    go_wp2
    refine bodyPost_ret (results_ct rfl _ _ gb237 123 #[.string (⟨#[]⟩ : ByteArray), .string (⟨#[]⟩ : ByteArray), .bool false] (0, 0) _ rfl (by (with_reducible repeat (first | refine blk_drewN ?_ _ | refine blk_drew ?_ | refine blk_alloc ?_ _)); refine blk_put (cs := #[.string (⟨#[]⟩ : ByteArray), .string (⟨#[]⟩ : ByteArray), .bool false]) ?_ 2 _ rfl; (with_reducible repeat (first | refine blk_drewN ?_ _ | refine blk_drew ?_ | refine blk_alloc ?_ _)); refine blk_put (cs := #[.string (⟨#[]⟩ : ByteArray), .string (⟨#[]⟩ : ByteArray), .bool false]) ?_ 1 _ rfl; (with_reducible repeat (first | refine blk_drewN ?_ _ | refine blk_drew ?_ | refine blk_alloc ?_ _)); refine blk_put (cs := #[.string (⟨#[]⟩ : ByteArray), .string (⟨#[]⟩ : ByteArray), .bool false]) ?_ 0 _ rfl; (with_reducible repeat (first | refine blk_drewN ?_ _ | refine blk_drew ?_ | refine blk_alloc ?_ _)); exact BK237.out) Tryd.underlying123 rfl (by kernel_rfl)) rfl ?_
    exact ⟨er_, bes_⟩

end Go.Proofs.YtooilehdljeepaaDoor.PFnExactReadSheet
