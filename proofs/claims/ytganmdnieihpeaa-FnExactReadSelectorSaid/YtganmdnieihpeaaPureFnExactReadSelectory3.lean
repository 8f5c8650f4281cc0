/- Lemmas for the pure statement of FnExactReadSelector, part 3. -/
import Derived.Test.YtganmdnieihpeaaPureFnExactReadSelectory2
import Derived.Test.YtganmdnieihpeaaPlain
import Derived.Test.YtganmdnieihpeaaEvs
import Derived.Test.YtganmdnieihpeaaStr
import Derived.Test.YtganmdnieihpeaaWord
import Derived.Test.YtganmdnieihpeaaTrim
import Derived.Test.YtganmdnieihpeaaField
set_option linter.unusedVariables false
set_option linter.unusedSimpArgs false
namespace Go.Proofs.Ytganmdnieihpeaa.Pure
open Go.RowKit Go.Proofs.Ytganmdnieihpeaa.PFnExactReadSelector Go.Proofs.YtganmdnieihpeaaW.PrintWords Go.Proofs.YtganmdnieihpeaaW.PrintLast Go.Proofs.YtganmdnieihpeaaW.PrintMore Go.Proofs.Ytganmdnieihpeaa.Plain

/-! partparse -/
-- plain: Evs Word Trim
theorem getD_drop0 (L : List UInt8) (i : Nat) : (L.drop i).getD 0 0 = L.getD i 0 := by
  rw [List.getD_eq_getElem?_getD, List.getD_eq_getElem?_getD, List.getElem?_drop, Nat.add_zero]
theorem runEnd_drop (p : UInt8 → Bool) (L : List UInt8) (i : Nat) : runEnd p L i = i + runEnd p (L.drop i) 0 := by
  unfold runEnd
  rw [List.drop_zero]; omega
theorem runL_le (L : List UInt8) : runL L ≤ L.length ∧ runL L ≤ 30 := by
  unfold runL
  have := runEnd_le wordU L 0 (by omega)
  split
  · omega
  · split
    · omega
    · split
      · omega
      · omega
/-- a word at a place: the run's length tells whether it is one, and where it ends. -/
theorem word_run (L : List UInt8) (i : Nat) : isWordL ((L.drop i).take (wordEndL L i - i)) = decide (0 < runL (L.drop i)) ∧ (0 < runL (L.drop i) → wordEndL L i = i + runL (L.drop i)) := by
  have hM := getD_drop0 L i
  have he := runEnd_drop wordU L i
  have hlen : (L.drop i).length = L.length - i := List.length_drop
  unfold wordEndL
  generalize hM2 : L.drop i = M at hM he hlen ⊢
  have ht : runEnd wordU M 0 = (M.takeWhile wordU).length := by unfold runEnd; rw [List.drop_zero]; omega
  by_cases hd : i < L.length ∧ digU (L.getD i 0) = true
  · rw [if_pos hd, Nat.sub_self, List.take_zero]
    have hr : runL M = 0 := by
      unfold runL
      split
      · rfl
      · rw [if_pos (by rw [hM]; exact hd.2)]
    rw [hr]
    exact ⟨rfl, fun h => by omega⟩
  · rw [if_neg hd, he]
    have hsub : i + runEnd wordU M 0 - i = runEnd wordU M 0 := by omega
    rw [hsub, ht]
    have htk : M.take (M.takeWhile wordU).length = M.takeWhile wordU := by
      have h := List.takeWhile_prefix wordU (l := M)
      exact (List.prefix_iff_eq_take.1 h).symm
    rw [htk]
    have hall : (M.takeWhile wordU).all wordU = true := List.all_takeWhile
    by_cases h0 : (M.takeWhile wordU).length = 0
    · have hr : runL M = 0 := by unfold runL; rw [if_pos (by rw [ht]; exact h0)]
      rw [hr]
      refine ⟨?_, fun h => by omega⟩
      rw [List.length_eq_zero_iff.mp h0]; rfl
    · have hg : (M.takeWhile wordU).getD 0 0 = M.getD 0 0 := by
        cases M with
        | nil => rfl
        | cons a M =>
          rw [List.takeWhile_cons] at h0 ⊢
          split at h0
          · rename_i ha; rw [if_pos ha]; rfl
          · simp at h0
      have hnd : digU (M.getD 0 0) = false := by
        cases hq : digU (M.getD 0 0) with
        | false => rfl
        | true =>
          exfalso
          refine hd ⟨?_, by rw [← hM]; exact hq⟩
          have := (List.takeWhile_sublist wordU (l := M)).length_le
          omega
      have hr : runL M = if (M.takeWhile wordU).length > 30 then 0 else (M.takeWhile wordU).length := by
        unfold runL
        rw [if_neg (by rw [ht]; exact h0), if_neg (by rw [hnd]; decide), ht]
      unfold isWordL
      rw [hg, hnd, hall, hr]
      by_cases h30 : (M.takeWhile wordU).length > 30
      · rw [if_pos h30]
        exact ⟨by rw [decide_eq_false (by omega)]; rfl, fun h => by omega⟩
      · rw [if_neg h30]
        exact ⟨by rw [decide_eq_true (by omega), decide_eq_true (by omega)]; rfl, fun _ => rfl⟩
theorem word_take (L : List UInt8) (i : Nat) (h : 0 < runL (L.drop i)) : isWordL ((L.drop i).take (runL (L.drop i))) = true := by
  have h1 := (word_run L i).1
  rw [(word_run L i).2 h, Nat.add_sub_cancel_left] at h1
  rw [h1, decide_eq_true h]
/-- the names behind the points, from a place on. -/
def cls (L : List UInt8) : Nat → Nat → List ByteArray → Option (List ByteArray)
  | 0, _, _ => none
  | m + 1, a, cs => if a < L.length then (if L.getD a 0 = 46 then (if runL (L.drop (a + 1)) = 0 then none else cls L m (a + 1 + runL (L.drop (a + 1))) (cs ++ [ofL ((L.drop (a + 1)).take (runL (L.drop (a + 1))))])) else none) else some cs
theorem cls_words (L : List UInt8) : ∀ (m a : Nat) (cs cs' : List ByteArray), cs.all (fun y => isWordL (B y)) = true → cls L m a cs = some cs' → cs'.all (fun y => isWordL (B y)) = true ∧ cs.length ≤ cs'.length := by
  intro m
  induction m with
  | zero => intro a cs cs' _ h; cases h
  | succ m ih =>
    intro a cs cs' hw h
    rw [cls] at h
    split at h
    · split at h
      · split at h
        · cases h
        · rename_i hr
          have := ih _ _ _ (by
            rw [List.all_append, hw, Bool.true_and]
            simp only [List.all_cons, List.all_nil, Bool.and_true, B_ofL]
            exact word_take L (a + 1) (by omega)) h
          rw [List.length_append, List.length_cons, List.length_nil] at this
          exact ⟨this.1, by omega⟩
      · cases h
    · injection h with h; subst h; exact ⟨hw, Nat.le_refl _⟩
/-- the name of its own, if one stands at a place. -/
def idP (L : List UInt8) (a : Nat) : Option (ByteArray × Nat) :=
  if a < L.length ∧ L.getD a 0 = 35 then (if runL (L.drop (a + 1)) = 0 then none else some (ofL ((L.drop (a + 1)).take (runL (L.drop (a + 1)))), a + 1 + runL (L.drop (a + 1)))) else some (⟨#[]⟩, a)
def headP (L : List UInt8) : ByteArray × Nat := if L.getD 0 0 = 42 then (⟨#[42]⟩, 1) else if 0 < runL L then (ofL (L.take (runL L)), runL L) else (⟨#[]⟩, 0)
def restP (L : List UInt8) (ty : ByteArray) (a : Nat) : Option S40 :=
  match idP L a with
  | none => none
  | some (id, b) => match cls L (L.length + 1) b [] with
    | none => none
    | some cs => if cs.length ≤ 4 then some ⟨ty, id, cs⟩ else none
/-- a part, told by its text. -/
def partP (L : List UInt8) : Option S40 := if L = [] then none else restP L (headP L).1 (headP L).2
/-- what a reader of parts answers. -/
def PartAns (p : Option S40) (v : ByteArray × ByteArray × List ByteArray × Bool) : Prop := (v.2.2.2 = true ∧ p = some ⟨v.1, v.2.1, v.2.2.1⟩) ∨ (v.2.2.2 = false ∧ p = none)
theorem byte_eq {c : UInt8} {n : Nat} (hn : n < 256) : ((c.toNat : Int) = (n : Int)) ↔ c = UInt8.ofNat n := u8_nat hn
theorem cls_len (L : List UInt8) : ∀ (m a : Nat) (cs cs' : List ByteArray), cls L m a cs = some cs' → cs.length ≤ cs'.length := by
  intro m
  induction m with
  | zero => intro a cs cs' h; cases h
  | succ m ih =>
    intro a cs cs' h
    rw [cls] at h
    split at h
    · split at h
      · split at h
        · cases h
        · have := ih _ _ _ h
          rw [List.length_append, List.length_cons, List.length_nil] at this
          omega
      · cases h
    · injection h with h; subst h; exact Nat.le_refl _
theorem ext_take (s : ByteArray) (a r : Nat) : s.extract a (a + r) = ofL (((B s).drop a).take r) := B_ext (by rw [B_extract, B_ofL, Nat.add_sub_cancel_left])
theorem ext_end (s : ByteArray) (a : Nat) : B (s.extract a s.size) = (B s).drop a := by
  rw [B_extract, List.take_of_length_le (by rw [List.length_drop, B_len]; omega)]
theorem spec_cls (s : ByteArray) (hs : s.size ≤ 1048576) (ty id : ByteArray) : ∀ (m a : Nat) (cs : List ByteArray), (B s).length < a + m → a ≤ (B s).length → cs.length ≤ 4 →
    ∃ v, Ev (fun k => spec_l5Part.l0 k s (a : Int) ty id cs) v ∧ ((v.2.2.2 = true ∧ v.1 = ty ∧ v.2.1 = id ∧ cls (B s) m a cs = some v.2.2.1 ∧ v.2.2.1.length ≤ 4) ∨ (v.2.2.2 = false ∧ ∀ cs', cls (B s) m a cs = some cs' → 4 < cs'.length)) := by
  have hB := B_len s
  have stop : ∀ (a : Nat) (cs : List ByteArray), Ev (fun k => spec_l5Part.j4 k s (a : Int) false ty id cs) (ty, id, cs, ((a : Int) == (s.size : Int))) := fun a cs => Ev.step (fun k => spec_l5Part.j4.eq_2 ..) (ev_if_neg (by decide) (Ev.now _))
  intro m
  induction m with
  | zero => intro a cs h1 h2; omega
  | succ m ih =>
    intro a cs h1 h2 h4
    rw [cls]
    by_cases ha : a < (B s).length
    · rw [if_pos ha]
      by_cases hc : (B s).getD a 0 = 46
      · rw [if_pos hc]
        have hrun := spec_l5Run_ev (s.extract (a + 1) s.size) (by have := B_len (s.extract (a + 1) s.size); rw [ext_end, List.length_drop] at this; omega)
        rw [ext_end] at hrun
        have hle := runL_le ((B s).drop (a + 1))
        rw [List.length_drop] at hle
        generalize hr : runL ((B s).drop (a + 1)) = r at hrun hle ⊢
        have w1 := Aside0.mk (show wrap64 ((a : Int) + 1) = ((a + 1 : Nat) : Int) from wrap_up ha (by omega))
        have w2 := Aside0.mk (show wrap64 (((a + 1 : Nat) : Int) + (r : Int)) = ((a + 1 + r : Nat) : Int) from by rw [wrap_id (by omega) (by omega)]; omega)
        have w3 := Aside0.mk (show wrap64 ((a : Int) + wrap64 (1 + (r : Int))) = ((a + 1 + r : Nat) : Int) from by rw [wrap_id (x := 1 + (r : Int)) (by omega) (by omega), wrap_id (by omega) (by omega)]; omega)
        have st : ∀ v, Ev (fun k => (spec_l5Run.f k (s.extract (a + 1) s.size)).bind fun t119 => (if t119 = 0 then (some (ty, id, cs, false)) else (if (cs.length : Int) = 4 then (some (ty, id, cs, false)) else (if ((a + 1 : Nat) : Int) ≤ (wrap64 (((a + 1 : Nat) : Int) + t119)) then (if (wrap64 (((a + 1 : Nat) : Int) + t119)) ≤ (s.size : Int) then (if cs.length < 8796093022208 then (spec_l5Part.l0 k s (wrap64 ((a : Int) + (wrap64 (1 + t119)))) ty id (cs ++ [s.extract (((a + 1 : Nat) : Int) : Int).toNat ((wrap64 (((a + 1 : Nat) : Int) + t119)) : Int).toNat])) else (none)) else (none)) else (none))))) v → Ev (fun k => spec_l5Part.l0 k s (a : Int) ty id cs) v := by
          intro v hv
          refine Ev.step (fun k => spec_l5Part.l0.eq_2 ..) (ev_if_pos (by omega) (ev_if_pos (by omega) ?_))
          rw [bt_U s a ha, hc]
          refine Ev.step (fun k => spec_l5Part.j4.eq_2 ..) (ev_if_pos (by decide) ?_)
          rw [w1.out]
          exact ev_if_pos (by omega) (ev_if_pos (by omega) hv)
        by_cases hr0 : r = 0
        · refine ⟨(ty, id, cs, false), st _ (ev_bind hrun (ev_if_pos (by omega) (Ev.now _))), .inr ⟨rfl, fun cs' h => ?_⟩⟩
          rw [if_pos hr0] at h; cases h
        · rw [if_neg hr0]
          by_cases hc4 : cs.length = 4
          · refine ⟨(ty, id, cs, false), st _ (ev_bind hrun (ev_if_neg (by omega) (ev_if_pos (by omega) (Ev.now _)))), .inr ⟨rfl, fun cs' h => ?_⟩⟩
            have := cls_len _ _ _ _ _ h
            rw [List.length_append, List.length_cons, List.length_nil] at this
            omega
          · obtain ⟨v, e, h⟩ := ih (a + 1 + r) (cs ++ [ofL (((B s).drop (a + 1)).take r)]) (by omega) (by omega) (by rw [List.length_append, List.length_cons, List.length_nil]; omega)
            refine ⟨v, st v (ev_bind hrun (ev_if_neg (by omega) (ev_if_neg (by omega) ?_))), h⟩
            rw [w2.out, w3.out, Int.toNat_natCast, Int.toNat_natCast, ext_take]
            exact ev_if_pos (by omega) (ev_if_pos (by omega) (ev_if_pos (by omega) e))
      · rw [if_neg hc]
        refine ⟨(ty, id, cs, ((a : Int) == (s.size : Int))), ?_, .inr ⟨beq_eq_false_iff_ne.mpr (by omega), fun cs' h => by cases h⟩⟩
        refine Ev.step (fun k => spec_l5Part.l0.eq_2 ..) (ev_if_pos (by omega) (ev_if_pos (by omega) ?_))
        rw [bt_U s a ha, show ((((B s).getD a 0).toNat : Int) == 46) = false from beq_eq_false_iff_ne.mpr (fun h => hc ((byte_eq (n := 46) (by omega)).1 h))]
        exact stop a cs
    · rw [if_neg ha]
      refine ⟨(ty, id, cs, ((a : Int) == (s.size : Int))), Ev.step (fun k => spec_l5Part.l0.eq_2 ..) (ev_if_neg (by omega) (stop a cs)), .inl ⟨beq_iff_eq.mpr (by omega), rfl, rfl, rfl, h4⟩⟩
theorem spec_rest (s : ByteArray) (hs : s.size ≤ 1048576) (ty : ByteArray) (a : Nat) (ha : a ≤ (B s).length) : ∃ v, Ev (fun k => spec_l5Part.j0 k s (a : Int) ty (⟨#[]⟩ : ByteArray)) v ∧ PartAns (restP (B s) ty a) v := by
  have hB := B_len s
  have fin : ∀ (id : ByteArray) (b : Nat), b ≤ (B s).length → ∃ v, Ev (fun k => spec_l5Part.j2 k s (b : Int) ty id) v ∧ PartAns (match cls (B s) ((B s).length + 1) b [] with | none => none | some cs => if cs.length ≤ 4 then some ⟨ty, id, cs⟩ else none) v := by
    intro id b hb
    obtain ⟨v, e, h⟩ := spec_cls s hs ty id ((B s).length + 1) b [] (by omega) hb (by simp)
    refine ⟨v, Ev.step (fun k => spec_l5Part.j2.eq_2 ..) e, ?_⟩
    rcases h with ⟨h1, h2, h3, h4, h5⟩ | ⟨h1, h2⟩
    · refine .inl ⟨h1, ?_⟩
      rw [h4]
      simp only [if_pos h5, h2, h3]
    · refine .inr ⟨h1, ?_⟩
      cases hc : cls (B s) ((B s).length + 1) b [] with
      | none => rfl
      | some cs => exact if_neg (by have := h2 cs hc; omega)
  unfold restP idP
  by_cases hc : a < (B s).length ∧ (B s).getD a 0 = 35
  · rw [if_pos hc]
    obtain ⟨hal, hc⟩ := hc
    have hrun := spec_l5Run_ev (s.extract (a + 1) s.size) (by have := B_len (s.extract (a + 1) s.size); rw [ext_end, List.length_drop] at this; omega)
    rw [ext_end] at hrun
    have hle := runL_le ((B s).drop (a + 1))
    rw [List.length_drop] at hle
    generalize hr : runL ((B s).drop (a + 1)) = r at hrun hle ⊢
    have w1 := Aside0.mk (show wrap64 ((a : Int) + 1) = ((a + 1 : Nat) : Int) from wrap_up hal (by omega))
    have w2 := Aside0.mk (show wrap64 (((a + 1 : Nat) : Int) + (r : Int)) = ((a + 1 + r : Nat) : Int) from by rw [wrap_id (by omega) (by omega)]; omega)
    have w3 := Aside0.mk (show wrap64 ((a : Int) + wrap64 (1 + (r : Int))) = ((a + 1 + r : Nat) : Int) from by rw [wrap_id (x := 1 + (r : Int)) (by omega) (by omega), wrap_id (by omega) (by omega)]; omega)
    have st : ∀ v, Ev (fun k => (spec_l5Run.f k (s.extract (a + 1) s.size)).bind fun t118 => (if t118 = 0 then (some (ty, (⟨#[]⟩ : ByteArray), ([] : List ByteArray), false)) else (if ((a + 1 : Nat) : Int) ≤ (wrap64 (((a + 1 : Nat) : Int) + t118)) then (if (wrap64 (((a + 1 : Nat) : Int) + t118)) ≤ (s.size : Int) then (spec_l5Part.j2 k s (wrap64 ((a : Int) + (wrap64 (1 + t118)))) ty (s.extract (((a + 1 : Nat) : Int) : Int).toNat ((wrap64 (((a + 1 : Nat) : Int) + t118)) : Int).toNat)) else (none)) else (none)))) v → Ev (fun k => spec_l5Part.j0 k s (a : Int) ty (⟨#[]⟩ : ByteArray)) v := by
      intro v hv
      refine Ev.step (fun k => spec_l5Part.j0.eq_2 ..) (ev_if_pos (by omega) (ev_if_pos (by omega) ?_))
      rw [bt_U s a hal, hc]
      refine Ev.step (fun k => spec_l5Part.j1.eq_2 ..) (ev_if_pos (by decide) ?_)
      rw [w1.out]
      exact ev_if_pos (by omega) (ev_if_pos (by omega) hv)
    by_cases hr0 : r = 0
    · rw [if_pos hr0]
      exact ⟨_, st _ (ev_bind hrun (ev_if_pos (by omega) (Ev.now _))), .inr ⟨rfl, rfl⟩⟩
    · rw [if_neg hr0]
      obtain ⟨v, e, h⟩ := fin (ofL (((B s).drop (a + 1)).take r)) (a + 1 + r) (by omega)
      refine ⟨v, st v (ev_bind hrun (ev_if_neg (by omega) ?_)), h⟩
      rw [w2.out, w3.out, Int.toNat_natCast, Int.toNat_natCast, ext_take]
      exact ev_if_pos (by omega) (ev_if_pos (by omega) e)
  · rw [if_neg hc]
    obtain ⟨v, e, h⟩ := fin (⟨#[]⟩ : ByteArray) a ha
    refine ⟨v, ?_, h⟩
    have j1 : Ev (fun k => spec_l5Part.j1 k s (a : Int) false ty (⟨#[]⟩ : ByteArray)) v := Ev.step (fun k => spec_l5Part.j1.eq_2 ..) (ev_if_neg (by decide) e)
    by_cases hal : a < (B s).length
    · refine Ev.step (fun k => spec_l5Part.j0.eq_2 ..) (ev_if_pos (by omega) (ev_if_pos (by omega) ?_))
      rw [bt_U s a hal, show ((((B s).getD a 0).toNat : Int) == 35) = false from beq_eq_false_iff_ne.mpr (fun h => hc ⟨hal, (byte_eq (n := 35) (by omega)).1 h⟩)]
      exact j1
    · exact Ev.step (fun k => spec_l5Part.j0.eq_2 ..) (ev_if_neg (by omega) j1)
theorem spec_l5Part_ev (s : ByteArray) (hs : s.size ≤ 1048576) : ∃ v, Ev (fun k => spec_l5Part.f k s) v ∧ PartAns (partP (B s)) v := by
  have hB := B_len s
  simp only [spec_l5Part.f]
  unfold partP
  by_cases h0 : B s = []
  · rw [if_pos h0]
    exact ⟨_, ev_if_pos (by rw [toList_B]; exact h0) (Ev.now _), .inr ⟨rfl, rfl⟩⟩
  · rw [if_neg h0]
    have hpos : 0 < (B s).length := List.length_pos_iff.2 h0
    have hb : bt s 0 = (((B s).getD 0 0).toNat : Int) := bt_U s 0 hpos
    unfold headP
    by_cases hc : (B s).getD 0 0 = 42
    · rw [if_pos hc]
      obtain ⟨v, e, h⟩ := spec_rest s hs (⟨#[42]⟩ : ByteArray) 1 hpos
      refine ⟨v, ev_if_neg (by rw [toList_B]; exact h0) (ev_if_pos (by omega) ?_), h⟩
      rw [hb, hc]
      exact ev_if_pos rfl e
    · rw [if_neg hc]
      have hrun := spec_l5Run_ev s (by omega)
      have hle := runL_le (B s)
      have st : ∀ v, Ev (fun k => ((spec_l5Run.f k s).bind fun t117 => (if t117 > 0 then (if 0 ≤ t117 then (if t117 ≤ (s.size : Int) then (spec_l5Part.j0 k s t117 (s.extract 0 (t117 : Int).toNat) (⟨#[]⟩ : ByteArray)) else (none)) else (none)) else (spec_l5Part.j0 k s 0 (⟨#[]⟩ : ByteArray) (⟨#[]⟩ : ByteArray))))) v → Ev (fun k => if s.toList = ([] : List UInt8) then (some ((⟨#[]⟩ : ByteArray), (⟨#[]⟩ : ByteArray), ([] : List ByteArray), false)) else (if 0 < (s.size : Int) then (if (bt s 0) = 42 then (spec_l5Part.j0 k s 1 (⟨#[42]⟩ : ByteArray) (⟨#[]⟩ : ByteArray)) else ((spec_l5Run.f k s).bind fun t117 => (if t117 > 0 then (if 0 ≤ t117 then (if t117 ≤ (s.size : Int) then (spec_l5Part.j0 k s t117 (s.extract 0 (t117 : Int).toNat) (⟨#[]⟩ : ByteArray)) else (none)) else (none)) else (spec_l5Part.j0 k s 0 (⟨#[]⟩ : ByteArray) (⟨#[]⟩ : ByteArray))))) else (none))) v := by
        intro v hv
        refine ev_if_neg (by rw [toList_B]; exact h0) (ev_if_pos (by omega) (ev_if_neg ?_ hv))
        rw [hb]
        exact fun h => hc ((byte_eq (n := 42) (by omega)).1 h)
      by_cases hr : 0 < runL (B s)
      · rw [if_pos hr]
        obtain ⟨v, e, h⟩ := spec_rest s hs (ofL ((B s).take (runL (B s)))) (runL (B s)) hle.1
        refine ⟨v, st v (ev_bind hrun (ev_if_pos (by omega) (ev_if_pos (by omega) (ev_if_pos (by omega) ?_)))), h⟩
        have hx := ext_take s 0 (runL (B s))
        rw [Nat.zero_add, List.drop_zero] at hx
        rw [Int.toNat_natCast, hx]
        exact e
      · rw [if_neg hr]
        obtain ⟨v, e, h⟩ := spec_rest s hs (⟨#[]⟩ : ByteArray) 0 (by omega)
        exact ⟨v, st v (ev_bind hrun (ev_if_neg (by omega) e)), h⟩

end Go.Proofs.Ytganmdnieihpeaa.Pure
