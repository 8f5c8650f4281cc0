/- Lemmas for the pure statement of FnExactPackBest, part 2. -/
import Derived.Test.YtfogfjmkngoegaaPureFnExactPackBesty1
import Derived.Test.YtfogfjmkngoegaaPlain
import Derived.Test.YtfogfjmkngoegaaBits
import Derived.Test.YtfogfjmkngoegaaEvs
set_option linter.unusedVariables false
set_option linter.unusedSimpArgs false
namespace Go.Proofs.Ytfogfjmkngoegaa.Pure
open Go.RowKit Go.Proofs.Ytfogfjmkngoegaa.PFnExactPackBest Go.Proofs.YtfogfjmkngoegaaW.PrintWords Go.Proofs.YtfogfjmkngoegaaW.PrintLast Go.Proofs.YtfogfjmkngoegaaW.PrintMore Go.Proofs.Ytfogfjmkngoegaa.Plain

/-! pkmatch -/
-- plain: Evs
def MatchOk (r : Int × Int) : Prop := r = (0, 0) ∨ (3 ≤ r.1 ∧ r.1 ≤ 258 ∧ 1 ≤ r.2)
theorem match_told (l : List Int) (a : Int) (ha0 : 0 ≤ a) (ha : a ≤ l.length) (hl : l.length ≤ 6000) : ∀ (m : Nat) (d b f : Int), 1 ≤ d → d + m = a + 1 → (0 ≤ b ∧ b ≤ 258) ∧ (b = 0 ∨ 1 ≤ f) →
    ∃ r, Ev (fun k => spec_l2Match.l0 k l a b f d) r ∧ Ev (fun k => impl_MatchAt.l0 k l a b f d) r ∧ MatchOk r := by
  intro m
  induction m with
  | zero =>
    intro d b f hd hm hbf
    by_cases hb : b < 3
    · exact ⟨(0, 0), ev_done fun k => by rw [spec_l2Match.l0, if_neg (by omega), if_pos hb], ev_done fun k => by rw [impl_MatchAt.l0, if_neg (by omega), if_pos hb], .inl rfl⟩
    · exact ⟨(b, f), ev_done fun k => by rw [spec_l2Match.l0, if_neg (by omega), if_neg hb], ev_done fun k => by rw [impl_MatchAt.l0, if_neg (by omega), if_neg hb], .inr ⟨by simp only; omega, by simp only; omega, by simp only; omega⟩⟩
  | succ m ih =>
    intro d b f hd hm hbf
    have inner : ∀ (j : Nat) (n : Int), 0 ≤ n → n + j = 258 → ∃ r, Ev (fun k => spec_l2Match.l1 k l a b f d n) r ∧ Ev (fun k => impl_MatchAt.l1 k l a b f d n) r ∧ MatchOk r := by
      have stop : ∀ n : Int, 0 ≤ n → n ≤ 258 → ∃ r, Ev (fun k => if n > b then spec_l2Match.l0 k l a n d (wrap64 (d + 1)) else spec_l2Match.l0 k l a b f (wrap64 (d + 1))) r ∧ Ev (fun k => if n > b then impl_MatchAt.l0 k l a n d (wrap64 (d + 1)) else impl_MatchAt.l0 k l a b f (wrap64 (d + 1))) r ∧ MatchOk r := by
        intro n h0 h1
        rw [wrap_id (x := d + 1) (by omega) (by omega)]
        by_cases h : n > b
        · obtain ⟨r, h2, h3, h4⟩ := ih (d + 1) n d (by omega) (by omega) (by omega)
          exact ⟨r, ev_if_pos h h2, ev_if_pos h h3, h4⟩
        · obtain ⟨r, h2, h3, h4⟩ := ih (d + 1) b f (by omega) (by omega) hbf
          exact ⟨r, ev_if_neg h h2, ev_if_neg h h3, h4⟩
      intro j
      induction j with
      | zero =>
        intro n h0 h1
        obtain ⟨r, h2, h3, h4⟩ := stop n h0 (by omega)
        exact ⟨r, Ev.step (fun k => by rw [spec_l2Match.l1, if_neg (by omega)]) h2, Ev.step (fun k => by rw [impl_MatchAt.l1, if_neg (by omega)]) h3, h4⟩
      | succ j ih2 =>
        intro n h0 h1
        by_cases hn : a + n < l.length
        · by_cases he : rd l (a + n) = rd l (a + n - d)
          · obtain ⟨r, h2, h3, h4⟩ := ih2 (n + 1) (by omega) (by omega)
            refine ⟨r, Ev.step (fun k => ?_) h2, Ev.step (fun k => ?_) h3, h4⟩
            · rw [spec_l2Match.l1, if_pos (by omega), wrap_id (x := a + n) (by omega) (by omega), if_pos hn, if_pos (by omega), wrap_id (x := a + n - d) (by omega) (by omega), if_pos (by omega), if_pos (by omega), if_pos he, wrap_id (x := n + 1) (by omega) (by omega)]
            · rw [impl_MatchAt.l1, if_pos (by omega), wrap_id (x := a + n) (by omega) (by omega), if_pos hn, if_pos (by omega), wrap_id (x := a + n - d) (by omega) (by omega), if_pos (by omega), if_pos (by omega), if_pos he, wrap_id (x := n + 1) (by omega) (by omega)]
          · obtain ⟨r, h2, h3, h4⟩ := stop n h0 (by omega)
            refine ⟨r, Ev.step (fun k => ?_) h2, Ev.step (fun k => ?_) h3, h4⟩
            · rw [spec_l2Match.l1, if_pos (by omega), wrap_id (x := a + n) (by omega) (by omega), if_pos hn, if_pos (by omega), wrap_id (x := a + n - d) (by omega) (by omega), if_pos (by omega), if_pos (by omega), if_neg he]
            · rw [impl_MatchAt.l1, if_pos (by omega), wrap_id (x := a + n) (by omega) (by omega), if_pos hn, if_pos (by omega), wrap_id (x := a + n - d) (by omega) (by omega), if_pos (by omega), if_pos (by omega), if_neg he]
        · obtain ⟨r, h2, h3, h4⟩ := stop n h0 (by omega)
          refine ⟨r, Ev.step (fun k => ?_) h2, Ev.step (fun k => ?_) h3, h4⟩
          · rw [spec_l2Match.l1, if_pos (by omega), wrap_id (x := a + n) (by omega) (by omega), if_neg hn]
          · rw [impl_MatchAt.l1, if_pos (by omega), wrap_id (x := a + n) (by omega) (by omega), if_neg hn]
    obtain ⟨r, h2, h3, h4⟩ := inner 258 0 (by omega) (by omega)
    exact ⟨r, Ev.step (fun k => by rw [spec_l2Match.l0, if_pos (by omega)]) h2, Ev.step (fun k => by rw [impl_MatchAt.l0, if_pos (by omega)]) h3, h4⟩
theorem match_both (l : List Int) (a : Int) (ha0 : 0 ≤ a) (ha : a ≤ l.length) (hl : l.length ≤ 6000) : ∃ r, Ev (fun k => spec_l2Match.f k l a) r ∧ Ev (fun k => impl_MatchAt.f k l a) r ∧ MatchOk r := by
  obtain ⟨r, h1, h2, h3⟩ := match_told l a ha0 ha hl a.toNat 1 0 0 (by omega) (by omega) (by omega)
  refine ⟨r, h1, ?_, h3⟩
  simp only [impl_MatchAt.f]
  refine ev_if_neg (by omega) (ev_bind0 (impl_within_eq _ _ _) ?_)
  rw [decide_eq_true (show 0 ≤ a ∧ a ≤ (l.length : Int) from ⟨ha0, ha⟩)]
  exact Ev.step (fun k => impl_MatchAt.j0.eq_2 ..) (ev_if_neg (by decide) h2)

/-! pkbase -/
-- plain: Evs
/-- a table's entry: both read the same one, with few bits behind it. -/
def bsOk (r : Nat) : Bool := match spec_l2Base.f (r : Int), impl_lengthBase.f (257 + (r : Int)) with
  | some p, some q => p == q && decide (0 ≤ p.2 ∧ p.2 ≤ 62)
  | _, _ => false
def fbOk (r : Nat) : Bool := match spec_l2Back.f (r : Int), impl_farBase.f (r : Int) with
  | some p, some q => p == q && decide (0 ≤ p.2 ∧ p.2 ≤ 62)
  | _, _ => false
theorem bs_all : ∀ r : Fin 29, bsOk r.val = true := by decide +kernel
theorem fb_all : ∀ r : Fin 30, fbOk r.val = true := by decide +kernel
theorem bs_get (r : Nat) (h : r ≤ 28) : ∃ b m, spec_l2Base.f (r : Int) = some (b, m) ∧ impl_lengthBase.f (257 + (r : Int)) = some (b, m) ∧ 0 ≤ m ∧ m ≤ 62 := by
  have := bs_all ⟨r, by omega⟩
  unfold bsOk at this
  split at this
  · rename_i p q h1 h2
    rw [Bool.and_eq_true, beq_iff_eq, decide_eq_true_eq] at this
    obtain ⟨e, e1, e2⟩ := this
    subst e
    exact ⟨p.1, p.2, h1, h2, e1, e2⟩
  · cases this
theorem fb_get (r : Nat) (h : r ≤ 29) : ∃ b m, spec_l2Back.f (r : Int) = some (b, m) ∧ impl_farBase.f (r : Int) = some (b, m) ∧ 0 ≤ m ∧ m ≤ 62 := by
  have := fb_all ⟨r, by omega⟩
  unfold fbOk at this
  split at this
  · rename_i p q h1 h2
    rw [Bool.and_eq_true, beq_iff_eq, decide_eq_true_eq] at this
    obtain ⟨e, e1, e2⟩ := this
    subst e
    exact ⟨p.1, p.2, h1, h2, e1, e2⟩
  · cases this
theorem base0 : spec_l2Base.f 0 = some (3, 0) := by decide +kernel
theorem back0 : spec_l2Back.f 0 = some (1, 0) := by decide +kernel
theorem base28 : spec_l2Base.f 28 = some (258, 0) := by decide +kernel
theorem pkB_both (n : Int) (hn : 3 ≤ n) : ∀ (r : Nat) (b m : Int), r ≤ 28 → spec_l2Base.f (r : Int) = some (b, m) → ∃ kk, kk ≤ r ∧ pkB n (r + 1) b = some kk ∧ (if b ≤ n then some r else pkBi n r) = some kk := by
  intro r
  induction r with
  | zero =>
    intro b m hr hb
    have e : b = 3 := by have := base0; rw [show ((0 : Nat) : Int) = 0 from rfl, this] at hb; injection hb with hb; injection hb with h1 _; exact h1.symm
    subst e
    exact ⟨0, Nat.le_refl _, by rw [pkB, if_neg (by omega)], by rw [if_pos hn]⟩
  | succ r ih =>
    intro b m hr hb
    by_cases h : b ≤ n
    · exact ⟨r + 1, Nat.le_refl _, by rw [pkB, if_neg (by omega)], by rw [if_pos h]⟩
    · obtain ⟨b', m', h1, h2, _⟩ := bs_get r (by omega)
      obtain ⟨kk, g1, g2, g3⟩ := ih b' m' (by omega) h1
      refine ⟨kk, by omega, ?_, ?_⟩
      · rw [pkB, if_pos (by omega), show ((r + 1 : Nat) : Int) - 1 = (r : Int) by omega, h1]
        exact g2
      · rw [if_neg h, pkBi, h2]
        exact g3
theorem pkB_top (n : Int) (hn : 3 ≤ n) (hn2 : n ≤ 258) : ∃ kk, kk ≤ 28 ∧ pkB n 29 258 = some kk ∧ (if n < 258 then pkBi n 28 else some 28) = some kk := by
  obtain ⟨kk, g1, g2, g3⟩ := pkB_both n hn 28 258 0 (Nat.le_refl _) base28
  refine ⟨kk, g1, g2, ?_⟩
  by_cases h : n < 258
  · rw [if_neg (by omega)] at g3; rw [if_pos h]; exact g3
  · rw [if_pos (by omega)] at g3; rw [if_neg h]; exact g3
theorem pkF_both (f : Int) (hf : 1 ≤ f) : ∀ (r : Nat) (b m : Int), r ≤ 29 → spec_l2Back.f (r : Int) = some (b, m) → ∃ kk, kk ≤ r ∧ pkF f (r + 1) b = some kk ∧ pkFi f (r + 1) b = some kk := by
  intro r
  induction r with
  | zero =>
    intro b m hr hb
    have e : b = 1 := by have := back0; rw [show ((0 : Nat) : Int) = 0 from rfl, this] at hb; injection hb with hb; injection hb with h1 _; exact h1.symm
    subst e
    exact ⟨0, Nat.le_refl _, by rw [pkF, if_neg (by omega)], by rw [pkFi, if_neg (by omega)]⟩
  | succ r ih =>
    intro b m hr hb
    by_cases h : b > f
    · obtain ⟨b', m', h1, h2, _⟩ := fb_get r (by omega)
      obtain ⟨kk, g1, g2, g3⟩ := ih b' m' (by omega) h1
      refine ⟨kk, by omega, ?_, ?_⟩
      · rw [pkF, if_pos h, show ((r + 1 : Nat) : Int) - 1 = (r : Int) by omega, h1]
        exact g2
      · rw [pkFi, if_pos h, show ((r + 1 : Nat) : Int) - 1 = (r : Int) by omega, h2]
        exact g3
    · exact ⟨r + 1, Nat.le_refl _, by rw [pkF, if_neg h], by rw [pkFi, if_neg h]⟩

/-! pkloop -/
-- plain: Evs
theorem pack_l0 (D ls cs : List Int) (hD : D.length ≤ 6000) (hd : ∀ i : Nat, i < D.length → 0 ≤ rd D (i : Int) ∧ rd D (i : Int) < 256) (hls : ∀ x : Int, 0 ≤ rd ls x ∧ rd ls x ≤ 9) (hc : rd cs 256 = 0) (hl : rd ls 256 = 7) :
    ∀ (c i : Nat) (o : List Int) (m f : Int), D.length ≤ i + c → i ≤ 10000 → RelB o m f (1000 + 248 * i) → ∃ r, Ev (fun k => spec_l2PackFixed.l0 D ls cs k (i : Int) o m) r ∧ Ev (fun k => impl_PackFixedOf.l0 D ls cs k (i : Int) o f) (r, true) ∧ r.length ≤ 10000000 := by
  have fin : ∀ (i : Nat) (o : List Int) (m f : Int), D.length ≤ i → i ≤ 10000 → RelB o m f (1000 + 248 * i) → ∃ r, Ev (fun k => spec_l2PackFixed.l0 D ls cs k (i : Int) o m) r ∧ Ev (fun k => impl_PackFixedOf.l0 D ls cs k (i : Int) o f) (r, true) ∧ r.length ≤ 10000000 := by
    intro i o m f h1 h2 h3
    obtain ⟨o', m', f', g1, g2, g3⟩ := code_both o m f 0 7 _ h3 (by omega) (by omega)
    refine ⟨o', Ev.step (fun k => spec_l2PackFixed.l0.eq_2 ..) (ev_if_neg (by omega) (ev_bind0 g1 (Ev.now _))), Ev.step (fun k => impl_PackFixedOf.l0.eq_2 ..) (ev_if_neg (by omega) (ev_bind0 (a := (o', f')) (by rw [hc, hl]; exact g2) (Ev.now _))), ?_⟩
    obtain ⟨_, q1, q2, _⟩ := g3
    omega
  intro c
  induction c with
  | zero => intro i o m f h1 h2 h3; exact fin i o m f (by omega) h2 h3
  | succ c ih =>
    intro i o m f h1 h2 h3
    by_cases hi : D.length ≤ i
    · exact fin i o m f hi h2 h3
    obtain ⟨⟨n, fr⟩, q1, q2, q3⟩ := match_both D (i : Int) (by omega) (by omega) hD
    by_cases hn : n = 0
    · subst hn
      obtain ⟨d1, d2⟩ := hd i (by omega)
      obtain ⟨o', m', f', g1, g2, g3⟩ := code_both o m f (rd cs (rd D (i : Int))) (rd ls (rd D (i : Int))) _ h3 (by omega) (by have := hls (rd D (i : Int)); omega)
      obtain ⟨r, r1, r2, r3⟩ := ih (i + 1) o' m' f' (by omega) (by omega) (g3.up (by omega))
      have hw : ∀ _ : Unit, wrap64 ((i : Int) + 1) = ((i + 1 : Nat) : Int) := fun _ => by rw [wrap_id (x := (i : Int) + 1) (by omega) (by omega)]; omega
      refine ⟨r, Ev.step (fun k => spec_l2PackFixed.l0.eq_2 ..) (ev_if_pos (by omega) (ev_if_pos (by omega) (ev_bind q1 (ev_if_pos rfl (ev_if_pos ⟨d1, d2⟩ (ev_bind0 g1 ?_)))))), Ev.step (fun k => impl_PackFixedOf.l0.eq_2 ..) (ev_if_pos (by omega) (ev_if_pos (by omega) (ev_bind q2 (ev_if_pos rfl (ev_if_pos ⟨d1, d2⟩ (ev_bind0 g2 ?_)))))), r3⟩
      · rw [hw ()]; exact r1
      · rw [hw ()]; exact r2
    · obtain ⟨n1, n2, n3⟩ : 3 ≤ n ∧ n ≤ 258 ∧ 1 ≤ fr := by
        rcases q3 with q3 | q3
        · exact absurd (congrArg Prod.fst q3) hn
        · exact q3
      obtain ⟨kk, k1, k2, k3⟩ := pkB_top n n1 n2
      obtain ⟨bb, bm, b1, b2, b3, b4⟩ := bs_get kk k1
      obtain ⟨b29, c29, b5, b6, _⟩ := fb_get 29 (Nat.le_refl _)
      obtain ⟨kf, k4, k5, k6⟩ := pkF_both fr n3 29 b29 c29 (Nat.le_refl _) b5
      obtain ⟨fb, fm, b7, b8, b9, b10⟩ := fb_get kf k4
      obtain ⟨o1, m1, f1, g1, g2, g3⟩ := code_both o m f (rd cs (257 + (kk : Int))) (rd ls (257 + (kk : Int))) _ h3 (by omega) (by have := hls (257 + (kk : Int)); omega)
      obtain ⟨o2, m2, f2, g4, g5, g6⟩ := number_both o1 m1 f1 (wrap64 (n - bb)) bm _ g3 (by omega) (by omega)
      obtain ⟨o3, m3, f3, g7, g8, g9⟩ := code_both o2 m2 f2 (kf : Int) 5 _ g6 (by omega) (by omega)
      obtain ⟨o4, m4, f4, g10, g11, g12⟩ := number_both o3 m3 f3 (wrap64 (fr - fb)) fm _ g9 (by omega) (by omega)
      obtain ⟨r, r1, r2, r3⟩ := ih (i + n.toNat) o4 m4 f4 (by omega) (by omega) (g12.up (by omega))
      have hw : ∀ _ : Unit, wrap64 ((i : Int) + n) = ((i + n.toNat : Nat) : Int) := fun _ => by rw [wrap_id (x := (i : Int) + n) (by omega) (by omega)]; omega
      refine ⟨r, Ev.step (fun k => spec_l2PackFixed.l0.eq_2 ..) (ev_if_pos (by omega) (ev_if_pos (by omega) (ev_bind q1 (ev_if_neg hn (ev_bind0 base28 (ev_bind0 k2 (ev_bind0 b1 (ev_bind0 g1 (ev_bind0 g4 (ev_bind0 b5 (ev_bind0 k5 (ev_bind0 b7 (ev_bind0 g7 (ev_bind0 g10 ?_)))))))))))))), Ev.step (fun k => impl_PackFixedOf.l0.eq_2 ..) (ev_if_pos (by omega) (ev_if_pos (by omega) (ev_bind q2 (ev_if_neg hn (ev_bind0 k3 (ev_bind0 b2 (ev_bind0 g2 (ev_bind0 g5 (ev_bind0 b6 (ev_bind0 k6 (ev_bind0 b8 (ev_bind0 g8 (ev_bind0 g11 ?_))))))))))))), r3⟩
      · rw [hw ()]; exact r1
      · rw [hw ()]; exact r2
theorem rd_ls (x : Int) : 0 ≤ rd (fxL 288 0) x ∧ rd (fxL 288 0) x ≤ 9 := by
  unfold rd
  rw [List.getD_eq_getElem?_getD]
  by_cases h : x.toNat < (fxL 288 0).length
  · rw [List.getElem?_eq_getElem h, Option.getD_some]
    have := fxL_mem 288 0 _ (List.getElem_mem h)
    omega
  · rw [List.getElem?_eq_none (by omega)]
    simp
theorem PackFixed_core (D : List Int) (hd : ∀ x ∈ D, 0 ≤ x ∧ x < 256) (h6 : ¬ (D.length : Int) > 6000) : ∃ r, Ev (fun k => spec_l2PackFixed.f k D) r ∧ Ev (fun k => impl_PackFixedOf.f k D) (r, true) ∧ r.length ≤ 10000000 := by
  simp only [impl_PackFixedOf.f]
  obtain ⟨cs, f1, f2, f3, ⟨s, f4⟩, f5, f6⟩ := fixed_rows
  have hl := fxL_len 288 0
  have start : ∃ o m f, spec_l2Bits_number.f [] 0 3 3 = some (o, m) ∧ (∃ o1 f1, impl_bitWriter_number.f [] 0 1 1 = some (o1, f1) ∧ impl_bitWriter_number.f o1 f1 1 2 = some (o, f)) ∧ RelB o m f (1000 + 248 * 0) := by
    refine ⟨[3], 3, 5, by decide +kernel, ⟨[1], 7, by decide +kernel, by decide +kernel⟩, ?_⟩
    unfold RelB
    refine ⟨by omega, by omega, by simp, by omega, fun _ => by simp⟩
  obtain ⟨o, m, f, g1, ⟨o1, f1', g2, g3⟩, g4⟩ := start
  obtain ⟨r, r1, r2, r3⟩ := pack_l0 D (fxL 288 0) cs (by omega) (fun i hi => by
    unfold rd
    rw [Int.toNat_natCast, List.getD_eq_getElem?_getD, List.getElem?_eq_getElem hi, Option.getD_some]
    exact hd _ (List.getElem_mem hi)) rd_ls f6 ((fxL_get 288 0 256 (by omega)).trans rfl) D.length 0 o m f (by omega) (by omega) g4
  refine ⟨r, ?_, ev_if_neg h6 (ev_bind f2 (ev_bind f4 (ev_if_pos ⟨hl, f5⟩ (ev_bind0 g2 (ev_bind0 g3 r2))))), r3⟩
  simp only [spec_l2PackFixed.f]
  exact ev_bind f1 (ev_bind f3 (ev_if_pos ⟨hl, f5⟩ (ev_bind0 g1 r1)))

/-! pkbest -/
-- plain: Evs Bits
def stL (l : List Int) : List Int := [1, (l.length : Int) % 256, (l.length : Int) / 256 % 256, 255 - (l.length : Int) % 256, 255 - (l.length : Int) / 256 % 256] ++ l
theorem stL_len (l : List Int) : (stL l).length = l.length + 5 := by unfold stL; simp
theorem spec_l2Stored_eq (l : List Int) (h : ¬ (l.length : Int) > 6000) : spec_l2Stored.f l = some (stL l) := by
  unfold stL
  rw [spec_l2Stored.f]
  rw [compl_i64 _ (by omega) (by omega)]
  rw [show (-1 - (l.length : Int)) % 256 = 255 - (l.length : Int) % 256 by omega, show (-1 - (l.length : Int)) / 256 % 256 = 255 - (l.length : Int) / 256 % 256 by omega]
  rw [Option.bind_some, if_pos (by simp only [List.length_cons, List.length_nil]; omega)]
theorem impl_Stored_eq (l : List Int) (h : ¬ (l.length : Int) > 6000) : impl_PackStoredOf.f l = some (stL l, true) := by
  unfold impl_PackStoredOf.f stL
  rw [if_neg h]
  rw [compl_u8 _ (by omega) (by omega), compl_u8 _ (by omega) (by omega)]
  rw [Option.bind_some, if_pos (by simp only [List.length_cons, List.length_nil]; omega)]
theorem PackBest_core (D : List Int) (hd : ∀ x ∈ D, 0 ≤ x ∧ x < 256) (h6 : ¬ (D.length : Int) > 6000) : ∃ r, Ev (fun k => spec_l2Best.f k D) r ∧ Ev (fun k => impl_PackBest.f k D) (r, true) ∧ r.length ≤ 10000000 ∧ r.length ≤ D.length + 5 := by
  obtain ⟨r, s1, s2, s3⟩ := PackFixed_core D hd h6
  have hl := stL_len D
  have hw : wrap64 ((D.length : Int) + 5) = (D.length : Int) + 5 := wrap_id (by omega) (by omega)
  simp only [spec_l2Best.f, impl_PackBest.f, hw]
  by_cases h : (r.length : Int) < (D.length : Int) + 5
  · refine ⟨r, ev_bind s1 (ev_if_pos h (Ev.now _)), ev_bind0 (impl_Stored_eq D h6) (ev_if_pos rfl (ev_bind s2 (ev_if_pos ?_ (Ev.now _)))), s3, by omega⟩
    simp only [hl]; omega
  · refine ⟨stL D, ev_bind s1 (ev_if_neg h (ev_bind0 (spec_l2Stored_eq D h6) (Ev.now _))), ev_bind0 (impl_Stored_eq D h6) (ev_if_pos rfl (ev_bind s2 (ev_if_neg ?_ (Ev.now _)))), by omega, by omega⟩
    simp only [hl]; omega

end Go.Proofs.Ytfogfjmkngoegaa.Pure
