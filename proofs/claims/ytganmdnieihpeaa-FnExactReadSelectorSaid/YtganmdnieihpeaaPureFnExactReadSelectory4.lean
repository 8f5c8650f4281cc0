/- Lemmas for the pure statement of FnExactReadSelector, part 4. -/
import Derived.Test.YtganmdnieihpeaaPureFnExactReadSelectory3
import Derived.Test.YtganmdnieihpeaaPlain
import Derived.Test.YtganmdnieihpeaaEvs
import Derived.Test.YtganmdnieihpeaaStr
import Derived.Test.YtganmdnieihpeaaWord
import Derived.Test.YtganmdnieihpeaaTrim
import Derived.Test.YtganmdnieihpeaaField
set_option linter.unusedVariables false
set_option linter.unusedSimpArgs false
namespace Go.Proofs.Ytganmdnieihpeaa.Pure
open Go.RowKit Go.Proofs.Ytganmdnieihpeaa.PFnExactReadSelector Go.Proofs.YtganmdnieihpeaaW.PrintWords Go.Proofs.YtganmdnieihpeaaW.PrintLast Go.Proofs.YtganmdnieihpeaaW.PrintMore Go.Proofs.Ytganmdnieihpeaa.Plain

/-! implpart -/
-- plain: Evs Word Trim
def noPart : ByteArray × ByteArray × List ByteArray × Bool := ((⟨#[]⟩ : ByteArray), (⟨#[]⟩ : ByteArray), ([] : List ByteArray), false)
theorem wordEndL_range (L : List UInt8) (i : Nat) (h : i ≤ L.length) : i ≤ wordEndL L i ∧ wordEndL L i ≤ L.length := by
  unfold wordEndL
  split
  · omega
  · exact ⟨runEnd_ge _ _ _, runEnd_le _ _ _ h⟩
theorem impl_part_step (s : ByteArray) (hs : s.size ≤ 1048576) (ty id : ByteArray) (a : Nat) (cs : List ByteArray) (ha : a < (B s).length) (hcs : cs.length ≤ 1048576) :
    (runL ((B s).drop (a + 1)) = 0 → Ev (fun k => impl_readPart.l0 k s (a : Int) ty id cs) noPart) ∧
    (0 < runL ((B s).drop (a + 1)) → (B s).getD a 0 = 35 → B id = [] → cs = [] → ∀ v, Ev (fun k => impl_readPart.l0 k s ((a + 1 + runL ((B s).drop (a + 1)) : Nat) : Int) ty (ofL (((B s).drop (a + 1)).take (runL ((B s).drop (a + 1))))) cs) v → Ev (fun k => impl_readPart.l0 k s (a : Int) ty id cs) v) ∧
    (0 < runL ((B s).drop (a + 1)) → (B s).getD a 0 = 46 → ∀ v, Ev (fun k => impl_readPart.l0 k s ((a + 1 + runL ((B s).drop (a + 1)) : Nat) : Int) ty id (cs ++ [ofL (((B s).drop (a + 1)).take (runL ((B s).drop (a + 1))))])) v → Ev (fun k => impl_readPart.l0 k s (a : Int) ty id cs) v) ∧
    (¬ (B s).getD a 0 = 46 → ¬ ((B s).getD a 0 = 35 ∧ B id = [] ∧ cs = []) → Ev (fun k => impl_readPart.l0 k s (a : Int) ty id cs) noPart) := by
  have hB := B_len s
  have hend := impl_wordEnd_ev s (by omega) (a + 1)
  obtain ⟨hw1, hw2⟩ := word_run (B s) (a + 1)
  have hrg := wordEndL_range (B s) (a + 1) (by omega)
  generalize wordEndL (B s) (a + 1) = e at hend hw1 hw2 hrg
  have w1 := Aside0.mk (show wrap64 ((a : Int) + 1) = ((a + 1 : Nat) : Int) from wrap_up ha (by omega))
  have hx : B (s.extract (a + 1) e) = ((B s).drop (a + 1)).take (e - (a + 1)) := B_extract _ _ _
  have hisw := impl_isWord_ev (s.extract (a + 1) e) (by have := B_len (s.extract (a + 1) e); rw [hx, List.length_take, List.length_drop] at this; omega)
  rw [hx, hw1] at hisw
  have hbt := bt_U s a ha
  generalize (B s).getD a 0 = c at hbt ⊢
  have st : ∀ v, Ev (fun k => (impl_isWord.f k (s.extract (a + 1) e)).bind fun t161 => (if t161 = true then (if 0 ≤ (a : Int) then (if (bt s (a : Int)) = 35 then (if id.toList = ([] : List UInt8) then (impl_readPart.j2 k s (a : Int) (e : Int) (s.extract (a + 1) e) ((cs.length : Int) == 0) ty id cs) else (impl_readPart.j2 k s (a : Int) (e : Int) (s.extract (a + 1) e) false ty id cs)) else (impl_readPart.j2 k s (a : Int) (e : Int) (s.extract (a + 1) e) false ty id cs)) else (none)) else (some ((⟨#[]⟩ : ByteArray), (⟨#[]⟩ : ByteArray), ([] : List ByteArray), false)))) v → Ev (fun k => impl_readPart.l0 k s (a : Int) ty id cs) v := by
    intro v hv
    refine Ev.step (fun k => impl_readPart.l0.eq_2 ..) (ev_if_pos (by omega) ?_)
    rw [w1.out]
    refine ev_bind hend ?_
    refine ev_if_pos (by omega) (ev_if_pos (by omega) (ev_if_pos (by omega) ?_))
    rw [Int.toNat_natCast, Int.toNat_natCast]
    exact hv
  have word : 0 < runL ((B s).drop (a + 1)) → e = a + 1 + runL ((B s).drop (a + 1)) ∧ s.extract (a + 1) e = ofL (((B s).drop (a + 1)).take (runL ((B s).drop (a + 1)))) := by
    intro h
    have he := hw2 h
    exact ⟨he, by rw [he]; exact ext_take _ _ _⟩
  have nojoin : ¬ c = 46 → Ev (fun k => impl_readPart.j2 k s (a : Int) (e : Int) (s.extract (a + 1) e) false ty id cs) noPart := by
    intro h
    refine Ev.step (fun k => impl_readPart.j2.eq_2 ..) (ev_if_neg (by decide) (ev_if_pos (by omega) (ev_if_pos (by omega) ?_)))
    rw [hbt]
    exact ev_if_neg (fun hh => h ((byte_eq (n := 46) (by omega)).1 hh)) (Ev.now _)
  refine ⟨fun h0 => ?_, fun hr hc hid hcs0 v hv => ?_, fun hr hc v hv => ?_, fun hc hno => ?_⟩
  · refine st _ (ev_bind hisw ?_)
    rw [h0]
    exact ev_if_neg (by decide) (Ev.now _)
  · refine st _ (ev_bind hisw (ev_if_pos (decide_eq_true hr) (ev_if_pos (by omega) ?_)))
    rw [hbt]
    refine ev_if_pos ((byte_eq (n := 35) (by omega)).2 hc) (ev_if_pos (by rw [toList_B]; exact hid) ?_)
    rw [hcs0] at hv ⊢
    refine Ev.step (fun k => impl_readPart.j2.eq_2 ..) (ev_if_pos rfl ?_)
    rw [(word hr).2, (word hr).1]
    exact hv
  · refine st _ (ev_bind hisw (ev_if_pos (decide_eq_true hr) (ev_if_pos (by omega) ?_)))
    rw [hbt]
    refine ev_if_neg (fun hh => by have := (byte_eq (n := 35) (by omega)).1 hh; rw [hc] at this; exact absurd this (by decide)) ?_
    refine Ev.step (fun k => impl_readPart.j2.eq_2 ..) (ev_if_neg (by decide) (ev_if_pos (by omega) (ev_if_pos (by omega) ?_)))
    rw [hbt]
    refine ev_if_pos ((byte_eq (n := 46) (by omega)).2 hc) (ev_if_pos (by omega) ?_)
    rw [(word hr).2, (word hr).1]
    exact hv
  · by_cases hr : 0 < runL ((B s).drop (a + 1))
    · refine st _ (ev_bind hisw (ev_if_pos (decide_eq_true hr) (ev_if_pos (by omega) ?_)))
      rw [hbt]
      by_cases h35 : c = 35
      · refine ev_if_pos ((byte_eq (n := 35) (by omega)).2 h35) ?_
        by_cases hid : B id = []
        · refine ev_if_pos (by rw [toList_B]; exact hid) ?_
          have hne : ¬ cs = [] := fun h => hno ⟨h35, hid, h⟩
          rw [show ((cs.length : Int) == 0) = false from beq_eq_false_iff_ne.mpr (fun h => hne (List.length_eq_zero_iff.1 (by omega)))]
          exact nojoin hc
        · exact ev_if_neg (by rw [toList_B]; exact hid) (nojoin hc)
      · exact ev_if_neg (fun hh => h35 ((byte_eq (n := 35) (by omega)).1 hh)) (nojoin hc)
    · refine st _ (ev_bind hisw ?_)
      rw [decide_eq_false hr]
      exact ev_if_neg (by decide) (Ev.now _)
theorem take_size (L : List UInt8) (a : Nat) (n : Nat) (h : L.length ≤ n) : (ofL ((L.drop a).take (runL (L.drop a)))).size ≤ n := by
  rw [← B_len, B_ofL, List.length_take, List.length_drop]; omega
theorem impl_cls (s : ByteArray) (hs : s.size ≤ 1048576) (ty id : ByteArray) (hty : ty.size ≤ 1048576) (hid : id.size ≤ 1048576) : ∀ (m a : Nat) (cs : List ByteArray), (B s).length < a + m → a ≤ (B s).length → cs.length ≤ a → (∀ y ∈ cs, y.size ≤ 1048576) → ¬ (a < (B s).length ∧ (B s).getD a 0 = 35 ∧ B id = [] ∧ cs = []) →
    ∃ v, Ev (fun k => impl_readPart.l0 k s (a : Int) ty id cs) v ∧ ((v.2.2.2 = true ∧ v.1 = ty ∧ v.2.1 = id ∧ cls (B s) m a cs = some v.2.2.1 ∧ partOk ⟨ty, id, v.2.2.1⟩ = true) ∨ (v.2.2.2 = false ∧ ∀ cs', cls (B s) m a cs = some cs' → partOk ⟨ty, id, cs'⟩ = false)) := by
  have hB := B_len s
  intro m
  induction m with
  | zero => intro a cs h1 h2; omega
  | succ m ih =>
    intro a cs h1 h2 h3 h4 hno
    rw [cls]
    by_cases ha : a < (B s).length
    · rw [if_pos ha]
      obtain ⟨p0, _, p2, p3⟩ := impl_part_step s hs ty id a cs ha (by omega)
      by_cases hc : (B s).getD a 0 = 46
      · rw [if_pos hc]
        by_cases hr : runL ((B s).drop (a + 1)) = 0
        · rw [if_pos hr]
          exact ⟨noPart, p0 hr, .inr ⟨rfl, fun cs' h => by cases h⟩⟩
        · rw [if_neg hr]
          have hle := runL_le ((B s).drop (a + 1))
          rw [List.length_drop] at hle
          obtain ⟨v, e, h⟩ := ih (a + 1 + runL ((B s).drop (a + 1))) (cs ++ [ofL (((B s).drop (a + 1)).take (runL ((B s).drop (a + 1))))]) (by omega) (by omega) (by rw [List.length_append, List.length_cons, List.length_nil]; omega) (fun y hy => by
            rcases List.mem_append.1 hy with hy | hy
            · exact h4 y hy
            · rw [List.mem_singleton.1 hy]; exact take_size (B s) (a + 1) _ (by omega)) (fun h => by have := h.2.2.2; simp at this)
          exact ⟨v, p2 (by omega) hc v e, h⟩
      · rw [if_neg hc]
        exact ⟨noPart, p3 hc (fun h => hno ⟨ha, h⟩), .inr ⟨rfl, fun cs' h => by cases h⟩⟩
    · rw [if_neg ha]
      have hp := impl_isPart_ev ⟨ty, id, cs⟩ ⟨hty, hid, by show cs.length ≤ _; omega, h4⟩
      refine ⟨(ty, id, cs, partOk ⟨ty, id, cs⟩), Ev.step (fun k => impl_readPart.l0.eq_2 ..) (ev_if_neg (by omega) (ev_bind hp (Ev.now _))), ?_⟩
      cases ho : partOk ⟨ty, id, cs⟩ with
      | true => exact .inl ⟨rfl, rfl, rfl, rfl, rfl⟩
      | false => exact .inr ⟨rfl, fun cs' h => by injection h with h; subst h; exact ho⟩
theorem impl_bad (s : ByteArray) (hs : s.size ≤ 1048576) (ty : ByteArray) (hty : ty.size ≤ 1048576) (hbad : typeOkL (B ty) = false) : ∀ (m a : Nat) (id : ByteArray) (cs : List ByteArray), (B s).length < a + m → a ≤ (B s).length → cs.length ≤ a → id.size ≤ 1048576 → (∀ y ∈ cs, y.size ≤ 1048576) →
    ∃ v, Ev (fun k => impl_readPart.l0 k s (a : Int) ty id cs) v ∧ v.2.2.2 = false := by
  have hB := B_len s
  intro m
  induction m with
  | zero => intro a id cs h1 h2; omega
  | succ m ih =>
    intro a id cs h1 h2 h3 h5 h4
    by_cases ha : a < (B s).length
    · obtain ⟨p0, p1, p2, p3⟩ := impl_part_step s hs ty id a cs ha (by omega)
      have hle := runL_le ((B s).drop (a + 1))
      rw [List.length_drop] at hle
      by_cases hr : runL ((B s).drop (a + 1)) = 0
      · exact ⟨noPart, p0 hr, rfl⟩
      · by_cases hc : (B s).getD a 0 = 46
        · obtain ⟨v, e, h⟩ := ih (a + 1 + runL ((B s).drop (a + 1))) id (cs ++ [ofL (((B s).drop (a + 1)).take (runL ((B s).drop (a + 1))))]) (by omega) (by omega) (by rw [List.length_append, List.length_cons, List.length_nil]; omega) h5 (fun y hy => by
            rcases List.mem_append.1 hy with hy | hy
            · exact h4 y hy
            · rw [List.mem_singleton.1 hy]; exact take_size (B s) (a + 1) _ (by omega))
          exact ⟨v, p2 (by omega) hc v e, h⟩
        · by_cases hid : (B s).getD a 0 = 35 ∧ B id = [] ∧ cs = []
          · obtain ⟨v, e, h⟩ := ih (a + 1 + runL ((B s).drop (a + 1))) (ofL (((B s).drop (a + 1)).take (runL ((B s).drop (a + 1))))) cs (by omega) (by omega) (by omega) (take_size (B s) (a + 1) _ (by omega)) h4
            exact ⟨v, p1 (by omega) hid.1 hid.2.1 hid.2.2 v e, h⟩
          · exact ⟨noPart, p3 hc hid, rfl⟩
    · have hp := impl_isPart_ev ⟨ty, id, cs⟩ ⟨hty, h5, by show cs.length ≤ _; omega, h4⟩
      refine ⟨(ty, id, cs, partOk ⟨ty, id, cs⟩), Ev.step (fun k => impl_readPart.l0.eq_2 ..) (ev_if_neg (by omega) (ev_bind hp (Ev.now _))), ?_⟩
      show partOk ⟨ty, id, cs⟩ = false
      unfold partOk
      rw [hbad]; rfl
theorem cls_pos (L : List UInt8) (m a : Nat) (cs cs' : List ByteArray) (ha : a < L.length) (h : cls L m a cs = some cs') : cs.length < cs'.length := by
  cases m with
  | zero => cases h
  | succ m =>
    rw [cls, if_pos ha] at h
    split at h
    · split at h
      · cases h
      · have := cls_len _ _ _ _ _ h
        rw [List.length_append, List.length_cons, List.length_nil] at this
        omega
    · cases h
theorem impl_rest (s : ByteArray) (hs : s.size ≤ 1048576) (ty : ByteArray) (hty : ty.size ≤ 1048576) (hok : typeOkL (B ty) = true) (a : Nat) (ha : a ≤ (B s).length) (hne : ¬ B ty = [] ∨ a < (B s).length) : ∃ v, Ev (fun k => impl_readPart.j0 k s (a : Int) ty (⟨#[]⟩ : ByteArray)) v ∧ PartAns (restP (B s) ty a) v := by
  have hB := B_len s
  have done : ∀ (id : ByteArray) (b : Nat) (v : ByteArray × ByteArray × List ByteArray × Bool), idOkL (B id) = true → (∀ cs, cls (B s) ((B s).length + 1) b [] = some cs → ¬ B ty = [] ∨ ¬ B id = [] ∨ 0 < cs.length) →
      ((v.2.2.2 = true ∧ v.1 = ty ∧ v.2.1 = id ∧ cls (B s) ((B s).length + 1) b [] = some v.2.2.1 ∧ partOk ⟨ty, id, v.2.2.1⟩ = true) ∨ (v.2.2.2 = false ∧ ∀ cs', cls (B s) ((B s).length + 1) b [] = some cs' → partOk ⟨ty, id, cs'⟩ = false)) →
      PartAns (match cls (B s) ((B s).length + 1) b [] with | none => none | some cs => if cs.length ≤ 4 then some ⟨ty, id, cs⟩ else none) v := by
    intro id b v hid hnz h
    have key : ∀ cs, cls (B s) ((B s).length + 1) b [] = some cs → partOk ⟨ty, id, cs⟩ = decide (cs.length ≤ 4) := by
      intro cs hcs
      have hw := (cls_words _ _ _ _ _ rfl hcs).1
      have hn := hnz cs hcs
      unfold partOk
      simp only
      rw [hok, hid, hw, Bool.true_and, Bool.true_and, Bool.and_true]
      have : (!decide (B ty = []) || !decide (B id = []) || decide (0 < cs.length)) = true := by
        rcases hn with hn | hn | hn
        · rw [decide_eq_false hn]; rfl
        · rw [decide_eq_false hn]; simp
        · rw [decide_eq_true hn]; simp
      rw [this, Bool.and_true]
    rcases h with ⟨h1, h2, h3, h4, h5⟩ | ⟨h1, h2⟩
    · refine .inl ⟨h1, ?_⟩
      have h6 := key _ h4
      rw [h5] at h6
      rw [h4]
      simp only [if_pos (of_decide_eq_true h6.symm), h2, h3]
    · refine .inr ⟨h1, ?_⟩
      cases hc : cls (B s) ((B s).length + 1) b [] with
      | none => rfl
      | some cs =>
        have h6 := key cs hc
        rw [h2 cs hc] at h6
        exact if_neg (of_decide_eq_false h6.symm)
  unfold restP idP
  by_cases hc : a < (B s).length ∧ (B s).getD a 0 = 35
  · rw [if_pos hc]
    obtain ⟨p0, p1, _, _⟩ := impl_part_step s hs ty (⟨#[]⟩ : ByteArray) a [] hc.1 (by simp)
    have hle := runL_le ((B s).drop (a + 1))
    rw [List.length_drop] at hle
    by_cases hr : runL ((B s).drop (a + 1)) = 0
    · rw [if_pos hr]
      exact ⟨noPart, Ev.step (fun k => impl_readPart.j0.eq_2 ..) (p0 hr), .inr ⟨rfl, rfl⟩⟩
    · rw [if_neg hr]
      have hw := word_take (B s) (a + 1) (by omega)
      have hwne : ¬ B (ofL (((B s).drop (a + 1)).take (runL ((B s).drop (a + 1))))) = [] := by
        rw [B_ofL]
        intro h0
        rw [h0] at hw
        exact absurd hw (by decide)
      obtain ⟨v, e, h⟩ := impl_cls s hs ty (ofL (((B s).drop (a + 1)).take (runL ((B s).drop (a + 1))))) hty (take_size (B s) (a + 1) _ (by omega)) ((B s).length + 1) (a + 1 + runL ((B s).drop (a + 1))) [] (by omega) (by omega) (by simp) (fun y hy => by cases hy) (fun h => hwne h.2.2.1)
      refine ⟨v, Ev.step (fun k => impl_readPart.j0.eq_2 ..) (p1 (by omega) hc.2 rfl rfl v e), ?_⟩
      exact done _ _ v (by unfold idOkL; rw [B_ofL, hw]; simp) (fun cs _ => .inr (.inl hwne)) h
  · rw [if_neg hc]
    obtain ⟨v, e, h⟩ := impl_cls s hs ty (⟨#[]⟩ : ByteArray) hty (by show 0 ≤ _; omega) ((B s).length + 1) a [] (by omega) ha (by simp) (fun y hy => by cases hy) (fun h => hc ⟨h.1, h.2.1⟩)
    refine ⟨v, Ev.step (fun k => impl_readPart.j0.eq_2 ..) e, ?_⟩
    refine done (⟨#[]⟩ : ByteArray) a v rfl (fun cs hcs => ?_) h
    rcases hne with hne | hne
    · exact .inl hne
    · exact .inr (.inr (by have := cls_pos _ _ _ _ _ hne hcs; simpa using this))
theorem prefix_star (L : List UInt8) (h : ¬ L = []) : decide (B (⟨#[42]⟩ : ByteArray) <+: L) = decide (L.getD 0 0 = 42) := by
  cases L with
  | nil => exact absurd rfl h
  | cons c L =>
    rw [decide_eq_decide]
    show [42] <+: c :: L ↔ c = 42
    constructor
    · intro hp
      obtain ⟨t, ht⟩ := hp
      injection ht with h1 h2
      exact h1.symm
    · intro hc; subst hc; exact ⟨L, rfl⟩
theorem impl_readPart_ev (s : ByteArray) (hs : s.size ≤ 1048576) (h0 : ¬ B s = []) : ∃ v, Ev (fun k => impl_readPart.f k s) v ∧ PartAns (partP (B s)) v := by
  have hB := B_len s
  have hpos : 0 < (B s).length := List.length_pos_iff.2 h0
  simp only [impl_readPart.f]
  unfold partP headP
  rw [if_neg h0]
  have hpre := strings_HasPrefix_eq s (⟨#[42]⟩ : ByteArray)
  rw [prefix_star _ h0] at hpre
  by_cases hc : (B s).getD 0 0 = 42
  · rw [if_pos hc]
    obtain ⟨v, e, h⟩ := impl_rest s hs (⟨#[42]⟩ : ByteArray) (by show 1 ≤ _; omega) rfl 1 hpos (.inl (by decide))
    exact ⟨v, ev_bind0 hpre (ev_if_pos (decide_eq_true hc) e), h⟩
  · rw [if_neg hc]
    have hend := impl_wordEnd_ev s (by omega) 0
    obtain ⟨hw1, hw2⟩ := word_run (B s) 0
    have hrg := wordEndL_range (B s) 0 (by omega)
    rw [List.drop_zero, Nat.sub_zero] at hw1
    rw [List.drop_zero] at hw2
    have st : ∀ v, Ev (fun k => impl_readPart.j0 k s ((wordEndL (B s) 0 : Nat) : Int) (s.extract 0 (wordEndL (B s) 0)) (⟨#[]⟩ : ByteArray)) v → Ev (fun k => (strings_HasPrefix.f s (⟨#[42]⟩ : ByteArray)).bind fun t157 => (if t157 = true then (impl_readPart.j0 k s 1 (⟨#[42]⟩ : ByteArray) (⟨#[]⟩ : ByteArray)) else ((impl_wordEnd.f k s 0).bind fun t158 => (if 0 ≤ t158 then (if t158 ≤ (s.size : Int) then (impl_readPart.j0 k s t158 (s.extract 0 (t158 : Int).toNat) (⟨#[]⟩ : ByteArray)) else (none)) else (none))))) v := by
      intro v hv
      refine ev_bind0 hpre (ev_if_neg (by rw [decide_eq_false hc]; decide) (ev_bind hend (ev_if_pos (by omega) (ev_if_pos (by omega) ?_))))
      rw [Int.toNat_natCast]
      exact hv
    have hx : s.extract 0 (wordEndL (B s) 0) = ofL ((B s).take (wordEndL (B s) 0)) := by
      have := ext_take s 0 (wordEndL (B s) 0)
      rw [Nat.zero_add, List.drop_zero] at this
      exact this
    rw [hx] at st
    have hsz : (ofL ((B s).take (wordEndL (B s) 0))).size ≤ 1048576 := by rw [← B_len, B_ofL, List.length_take]; omega
    by_cases hr : 0 < runL (B s)
    · rw [if_pos hr]
      have he := hw2 hr
      rw [Nat.zero_add] at he
      rw [he] at st hw1 hsz
      have hw : isWordL ((B s).take (runL (B s))) = true := by rw [hw1]; exact decide_eq_true hr
      obtain ⟨v, e, h⟩ := impl_rest s hs (ofL ((B s).take (runL (B s)))) hsz (by unfold typeOkL; rw [B_ofL, hw]; simp) (runL (B s)) (runL_le _).1 (.inl (by
        rw [B_ofL]; intro h9; rw [h9] at hw; exact absurd hw (by decide)))
      exact ⟨v, st v e, h⟩
    · rw [if_neg hr]
      rw [decide_eq_false hr] at hw1
      by_cases he : wordEndL (B s) 0 = 0
      · rw [he] at st
        obtain ⟨v, e, h⟩ := impl_rest s hs (⟨#[]⟩ : ByteArray) (by show 0 ≤ _; omega) rfl 0 (by omega) (.inr hpos)
        exact ⟨v, st v e, h⟩
      · have hne : ¬ (B s).take (wordEndL (B s) 0) = [] := by
          intro h9
          have := congrArg List.length h9
          rw [List.length_take, List.length_nil] at this
          omega
        have hfirst : wordU ((B s).getD 0 0) = true := by
          unfold wordEndL at he
          split at he
          · omega
          · refine Classical.byContradiction fun hn => he ?_
            exact runEnd_no _ _ _ hpos hn
        have hbad : typeOkL (B (ofL ((B s).take (wordEndL (B s) 0)))) = false := by
          unfold typeOkL
          rw [B_ofL, hw1, decide_eq_false hne, decide_eq_false]
          · rfl
          · intro h9
            have : (B s).getD 0 0 = 42 := by
              cases hb : B s with
              | nil => exact absurd hb h0
              | cons x l =>
                rw [hb] at h9
                cases hq : wordEndL (x :: l) 0 with
                | zero => rw [hq] at h9; cases h9
                | succ q =>
                  rw [hq, List.take_succ_cons] at h9
                  injection h9
            exact hc this
        obtain ⟨v, e, h⟩ := impl_bad s hs _ hsz hbad ((B s).length + 1) (wordEndL (B s) 0) (⟨#[]⟩ : ByteArray) [] (by omega) hrg.2 (by simp) (by show 0 ≤ _; omega) (fun y hy => by cases hy)
        refine ⟨v, st v (Ev.step (fun k => impl_readPart.j0.eq_2 ..) e), .inr ⟨h, ?_⟩⟩
        have n35 : ¬ (B s).getD 0 0 = 35 := fun h9 => by rw [h9] at hfirst; exact absurd hfirst (by decide)
        have n46 : ¬ (B s).getD 0 0 = 46 := fun h9 => by rw [h9] at hfirst; exact absurd hfirst (by decide)
        unfold restP idP
        rw [if_neg (fun h9 => n35 h9.2)]
        simp only
        rw [cls, if_pos hpos, if_neg n46]
theorem partP_ok (L : List UInt8) (p : S40) (h : partP L = some p) : partOk p = true ∧ sizesPart p := by
  have word30 : ∀ l : List UInt8, isWordL l = true → l.length ≤ 30 := by
    intro l hl
    unfold isWordL at hl
    rw [Bool.and_eq_true, Bool.and_eq_true] at hl
    exact (of_decide_eq_true hl.1.1).2
  unfold partP at h
  split at h
  · cases h
  · rename_i h0
    have hpos : 0 < L.length := List.length_pos_iff.2 h0
    have hhead : typeOkL (B (headP L).1) = true ∧ (¬ B (headP L).1 = [] ∨ (headP L).2 < L.length) ∧ (B (headP L).1).length ≤ 30 := by
      unfold headP
      split
      · exact ⟨rfl, .inl (by decide), by decide⟩
      · split
        · rename_i hr
          have hw := word_take L 0 (by rw [List.drop_zero]; exact hr)
          rw [List.drop_zero] at hw
          refine ⟨by unfold typeOkL; rw [B_ofL, hw]; simp, .inl ?_, by rw [B_ofL]; exact word30 _ hw⟩
          rw [B_ofL]; intro h9; rw [h9] at hw; exact absurd hw (by decide)
        · exact ⟨rfl, .inr hpos, by decide⟩
    generalize (headP L).1 = ty at h hhead
    generalize (headP L).2 = a at h hhead
    obtain ⟨hty, hne, h30⟩ := hhead
    unfold restP idP at h
    have fin : ∀ (id : ByteArray) (b : Nat), idOkL (B id) = true → (B id).length ≤ 30 → (∀ cs, cls L (L.length + 1) b [] = some cs → ¬ B ty = [] ∨ ¬ B id = [] ∨ 0 < cs.length) → (match cls L (L.length + 1) b [] with | none => none | some cs => if cs.length ≤ 4 then some (⟨ty, id, cs⟩ : S40) else none) = some p → partOk p = true ∧ sizesPart p := by
      intro id b hid hid30 hnz h
      cases hc : cls L (L.length + 1) b [] with
      | none => rw [hc] at h; cases h
      | some cs =>
        rw [hc] at h
        simp only at h
        split at h
        · rename_i h4
          injection h with h
          subst h
          have hw := (cls_words _ _ _ _ _ rfl hc).1
          have hn := hnz cs hc
          have hz1 := B_len ty
          have hz2 := B_len id
          refine ⟨?_, by show ty.size ≤ _; omega, by show id.size ≤ _; omega, by show cs.length ≤ _; omega, fun y hy => ?_⟩
          · unfold partOk
            simp only
            rw [hty, hid, hw, decide_eq_true h4, Bool.true_and, Bool.true_and, Bool.true_and]
            rcases hn with hn | hn | hn
            · rw [decide_eq_false hn]; rfl
            · rw [decide_eq_false hn]; simp
            · rw [decide_eq_true hn]; simp
          · have h9 := word30 _ (List.all_eq_true.1 hw y hy)
            have hz3 := B_len y
            omega
        · cases h
    by_cases hc : a < L.length ∧ L.getD a 0 = 35
    · rw [if_pos hc] at h
      by_cases hr : runL (L.drop (a + 1)) = 0
      · rw [if_pos hr] at h; cases h
      · rw [if_neg hr] at h
        have hw := word_take L (a + 1) (by omega)
        refine fin _ _ (by unfold idOkL; rw [B_ofL, hw]; simp) (by rw [B_ofL]; exact word30 _ hw) (fun cs _ => .inr (.inl ?_)) h
        rw [B_ofL]; intro h9; rw [h9] at hw; exact absurd hw (by decide)
    · rw [if_neg hc] at h
      refine fin _ _ rfl (by decide) (fun cs hcs => ?_) h
      rcases hne with hne | hne
      · exact .inl hne
      · exact .inr (.inr (by have := cls_pos _ _ _ _ _ hne hcs; simpa using this))

end Go.Proofs.Ytganmdnieihpeaa.Pure
