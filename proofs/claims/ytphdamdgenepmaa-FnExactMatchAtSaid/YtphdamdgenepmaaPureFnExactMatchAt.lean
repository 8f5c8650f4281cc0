/- MatchAt: the program's MatchAt answers as the reference's at all data and places, and writes into none; no condition. -/
import Derived.Test.YtphdamdgenepmaaPFnExactMatchAtx2
import Derived.Test.YtphdamdgenepmaaPlain
import Derived.Test.YtphdamdgenepmaaEvs
set_option linter.unusedVariables false
set_option linter.unusedSimpArgs false
namespace Go.Proofs.Ytphdamdgenepmaa.Pure
open Go.RowKit Go.Proofs.Ytphdamdgenepmaa.PFnExactMatchAt Go.Proofs.YtphdamdgenepmaaW.PrintWords Go.Proofs.YtphdamdgenepmaaW.PrintLast Go.Proofs.YtphdamdgenepmaaW.PrintMore Go.Proofs.Ytphdamdgenepmaa.Plain

/-! laws_toByteS -/
-- plain: Evs
theorem laws_toByteS_ev (l : List Int) (hn : l.length ≤ 281474976710656) : Ev (fun k => laws_toByteS.f k l) l := by
  refine Ev.congr (f := fun k => laws_toByteS.l0 k l (List.replicate l.length 0) 0) (fun k => ?_) ?_
  · unfold laws_toByteS.f; rw [if_pos (by omega), if_pos (by omega)]; rfl
  · refine ev_up l.length (fun i k => laws_toByteS.l0 k l (l.take i ++ List.replicate (l.length - i) 0) i) l ?_ ?_
    · refine ev_done fun k => ?_
      rw [laws_toByteS.l0, if_neg (by omega)]; simp
    · intro i hi h
      refine Ev.step (fun k => ?_) h
      rw [laws_toByteS.l0, if_pos (by omega), if_pos (by omega), if_pos (by simp; omega), wrap_up hi (by omega), rd_nat, Int.toNat_natCast, take_set _ _ _ hi _ (by simp; omega), List.tail_replicate]
      congr 3

/-! laws_eqByteS -/
-- plain: Evs
theorem laws_eqByteS_same (l : List Int) (hn : l.length ≤ 281474976710656) : Ev (fun k => laws_eqByteS.f k l l) true := by
  refine Ev.congr (f := fun k => laws_eqByteS.l0 k l l 0) (fun k => ?_) ?_
  · unfold laws_eqByteS.f; rw [if_pos rfl]
  · refine ev_up l.length (fun i k => laws_eqByteS.l0 k l l i) true ?_ ?_
    · refine ev_done fun k => ?_
      rw [laws_eqByteS.l0, if_neg (by omega)]
    · intro i hi h
      refine Ev.step (fun k => ?_) h
      rw [laws_eqByteS.l0, if_pos (by omega), if_pos (by omega), if_pos (by omega), if_pos rfl, wrap_up hi (by omega)]
theorem laws_eqByteS_of (l l' : List Int) (hl : l = l') (hn : l.length ≤ 281474976710656) : Ev (fun k => laws_eqByteS.f k l l') true := by
  subst hl; exact laws_eqByteS_same l hn

/-! spec_l1In -/
theorem spec_l1In_eq (a b c : Int) : spec_l1In.f a b c = some (decide (b ≤ a ∧ a ≤ c)) := by
  unfold spec_l1In.f
  split
  · rename_i h; simp [show b ≤ a from h]
  · rename_i h; simp [show ¬ b ≤ a from h]

/-! impl_within -/
theorem impl_within_eq (a b c : Int) : impl_within.f a b c = some (decide (b ≤ a ∧ a ≤ c)) := by
  unfold impl_within.f
  split
  · rename_i h; simp [h]
  · rename_i h; simp [h]

-- plain: Evs
theorem match_same (l : List Int) (a : Int) (ha0 : 0 ≤ a) (ha : a ≤ l.length) (hl : l.length ≤ 6000) : ∀ (m : Nat) (d b f : Int), 1 ≤ d → d + m = a + 1 →
    ∃ r, Ev (fun k => spec_l2Match.l0 k l a b f d) r ∧ Ev (fun k => impl_MatchAt.l0 k l a b f d) r := by
  intro m
  induction m with
  | zero =>
    intro d b f hd hm
    by_cases hb : b < 3
    · exact ⟨(0, 0), ev_done fun k => by rw [spec_l2Match.l0, if_neg (by omega), if_pos hb], ev_done fun k => by rw [impl_MatchAt.l0, if_neg (by omega), if_pos hb]⟩
    · exact ⟨(b, f), ev_done fun k => by rw [spec_l2Match.l0, if_neg (by omega), if_neg hb], ev_done fun k => by rw [impl_MatchAt.l0, if_neg (by omega), if_neg hb]⟩
  | succ m ih =>
    intro d b f hd hm
    have inner : ∀ (j : Nat) (n : Int), 0 ≤ n → n + j = 258 → ∃ r, Ev (fun k => spec_l2Match.l1 k l a b f d n) r ∧ Ev (fun k => impl_MatchAt.l1 k l a b f d n) r := by
      have stop : ∀ n : Int, 0 ≤ n → n ≤ 258 → ∃ r, Ev (fun k => if n > b then spec_l2Match.l0 k l a n d (wrap64 (d + 1)) else spec_l2Match.l0 k l a b f (wrap64 (d + 1))) r ∧ Ev (fun k => if n > b then impl_MatchAt.l0 k l a n d (wrap64 (d + 1)) else impl_MatchAt.l0 k l a b f (wrap64 (d + 1))) r := by
        intro n h0 h1
        rw [wrap_id (x := d + 1) (by omega) (by omega)]
        by_cases h : n > b
        · obtain ⟨r, h2, h3⟩ := ih (d + 1) n d (by omega) (by omega)
          exact ⟨r, ev_if_pos h h2, ev_if_pos h h3⟩
        · obtain ⟨r, h2, h3⟩ := ih (d + 1) b f (by omega) (by omega)
          exact ⟨r, ev_if_neg h h2, ev_if_neg h h3⟩
      intro j
      induction j with
      | zero =>
        intro n h0 h1
        obtain ⟨r, h2, h3⟩ := stop n h0 (by omega)
        exact ⟨r, Ev.step (fun k => by rw [spec_l2Match.l1, if_neg (by omega)]) h2, Ev.step (fun k => by rw [impl_MatchAt.l1, if_neg (by omega)]) h3⟩
      | succ j ih2 =>
        intro n h0 h1
        by_cases hn : a + n < l.length
        · by_cases he : rd l (a + n) = rd l (a + n - d)
          · obtain ⟨r, h2, h3⟩ := ih2 (n + 1) (by omega) (by omega)
            refine ⟨r, Ev.step (fun k => ?_) h2, Ev.step (fun k => ?_) h3⟩
            · rw [spec_l2Match.l1, if_pos (by omega), wrap_id (x := a + n) (by omega) (by omega), if_pos hn, if_pos (by omega), wrap_id (x := a + n - d) (by omega) (by omega), if_pos (by omega), if_pos (by omega), if_pos he, wrap_id (x := n + 1) (by omega) (by omega)]
            · rw [impl_MatchAt.l1, if_pos (by omega), wrap_id (x := a + n) (by omega) (by omega), if_pos hn, if_pos (by omega), wrap_id (x := a + n - d) (by omega) (by omega), if_pos (by omega), if_pos (by omega), if_pos he, wrap_id (x := n + 1) (by omega) (by omega)]
          · obtain ⟨r, h2, h3⟩ := stop n h0 (by omega)
            refine ⟨r, Ev.step (fun k => ?_) h2, Ev.step (fun k => ?_) h3⟩
            · rw [spec_l2Match.l1, if_pos (by omega), wrap_id (x := a + n) (by omega) (by omega), if_pos hn, if_pos (by omega), wrap_id (x := a + n - d) (by omega) (by omega), if_pos (by omega), if_pos (by omega), if_neg he]
            · rw [impl_MatchAt.l1, if_pos (by omega), wrap_id (x := a + n) (by omega) (by omega), if_pos hn, if_pos (by omega), wrap_id (x := a + n - d) (by omega) (by omega), if_pos (by omega), if_pos (by omega), if_neg he]
        · obtain ⟨r, h2, h3⟩ := stop n h0 (by omega)
          refine ⟨r, Ev.step (fun k => ?_) h2, Ev.step (fun k => ?_) h3⟩
          · rw [spec_l2Match.l1, if_pos (by omega), wrap_id (x := a + n) (by omega) (by omega), if_neg hn]
          · rw [impl_MatchAt.l1, if_pos (by omega), wrap_id (x := a + n) (by omega) (by omega), if_neg hn]
    obtain ⟨r, h2, h3⟩ := inner 258 0 (by omega) (by omega)
    exact ⟨r, Ev.step (fun k => by rw [spec_l2Match.l0, if_pos (by omega)]) h2, Ev.step (fun k => by rw [impl_MatchAt.l0, if_pos (by omega)]) h3⟩
theorem FnExactMatchAt : laws_FnExactMatchAt.Pure := by
  intro l a hm hb hw ha
  by_cases hlen : (l.length : Int) > 1048576
  · exact ⟨0, by unfold laws_FnExactMatchAt.f; rw [if_pos hlen]⟩
  have main : ∃ r, Ev (fun k => spec_MatchAt.f k l a) r ∧ Ev (fun k => impl_MatchAt.f k l a) r := by
    simp only [spec_MatchAt.f, impl_MatchAt.f, spec_l1In_eq, impl_within_eq, spec_l2Match.f, Option.bind_some]
    by_cases h6 : (l.length : Int) > 6000
    · exact ⟨(0, 0), ev_if_pos h6 (Ev.now _), ev_if_pos h6 (Ev.step (fun k => impl_MatchAt.j0.eq_2 ..) (ev_if_pos rfl (Ev.now _)))⟩
    · by_cases hr : 0 ≤ a ∧ a ≤ l.length
      · obtain ⟨r, h1, h2⟩ := match_same l a hr.1 hr.2 (by omega) a.toNat 1 0 0 (by omega) (by omega)
        refine ⟨r, ev_if_neg h6 (ev_if_pos (by simpa using hr) (ev_bind h1 (Ev.now r))), ev_if_neg h6 ?_⟩
        rw [decide_eq_true hr]
        exact Ev.step (fun k => impl_MatchAt.j0.eq_2 ..) (ev_if_neg (by decide) h2)
      · refine ⟨(0, 0), ev_if_neg h6 (ev_if_neg (by simpa using hr) (Ev.now _)), ev_if_neg h6 ?_⟩
        rw [decide_eq_false hr]
        exact Ev.step (fun k => impl_MatchAt.j0.eq_2 ..) (ev_if_pos rfl (Ev.now _))
  obtain ⟨r, h1, h2⟩ := main
  refine Ev.rounds ?_
  simp only [laws_FnExactMatchAt.f]
  refine ev_if_neg hlen ?_
  refine ev_bind (laws_toByteS_ev l (by omega)) ?_
  refine ev_bind h1 ?_
  refine ev_bind (laws_toByteS_ev l (by omega)) ?_
  refine ev_bind h2 ?_
  refine ev_if_pos rfl ?_
  refine Ev.step (fun k => laws_FnExactMatchAt.j0.eq_2 ..) ?_
  refine ev_if_neg (by simp) ?_
  refine ev_bind (laws_toByteS_ev l (by omega)) ?_
  refine ev_bind (laws_eqByteS_same l (by omega)) ?_
  exact ev_if_pos rfl (Ev.now true)

end Go.Proofs.Ytphdamdgenepmaa.Pure
