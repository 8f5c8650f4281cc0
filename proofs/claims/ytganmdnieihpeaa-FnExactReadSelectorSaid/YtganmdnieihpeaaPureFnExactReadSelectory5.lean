/- Lemmas for the pure statement of FnExactReadSelector, part 5. -/
import Derived.Test.YtganmdnieihpeaaPureFnExactReadSelectory4
import Derived.Test.YtganmdnieihpeaaPlain
import Derived.Test.YtganmdnieihpeaaEvs
import Derived.Test.YtganmdnieihpeaaStr
import Derived.Test.YtganmdnieihpeaaWord
import Derived.Test.YtganmdnieihpeaaTrim
import Derived.Test.YtganmdnieihpeaaField
set_option linter.unusedVariables false
set_option linter.unusedSimpArgs false
namespace Go.Proofs.Ytganmdnieihpeaa.Pure
open Go.RowKit Go.Proofs.Ytganmdnieihpeaa.PFnExactReadSelector Go.Proofs.YtganmdnieihpeaaW.PrintWords Go.Proofs.YtganmdnieihpeaaW.PrintLast Go.Proofs.YtganmdnieihpeaaW.PrintMore Go.Proofs.Ytganmdnieihpeaa.Plain

/-! selparse -/
-- plain: Evs Word Trim Field
/-- the parts of a selector's words, at most five. -/
def selP (acc : List S40) : List ByteArray → Option (List S40)
  | [] => some acc
  | w :: ws => match partP (B w) with | none => none | some p => if acc.length = 5 then none else selP (acc ++ [p]) ws
def selQ (acc : List S40) : List ByteArray → Option (List S40)
  | [] => some acc
  | w :: ws => match partP (B w) with | none => none | some p => selQ (acc ++ [p]) ws
def noSel : List S40 × Bool := (([] : List S40), false)
def selV (acc : List S40) (ws : List ByteArray) : List S40 × Bool := match selP acc ws with | none => noSel | some l => (l, decide ((l.length : Int) > 0))
def selW (acc : List S40) (ws : List ByteArray) : List S40 × Bool := match selQ acc ws with | none => noSel | some l => if selOk l = true then (l, true) else noSel
theorem selQ_len : ∀ (ws : List ByteArray) (acc l : List S40), selQ acc ws = some l → acc.length ≤ l.length
  | [], acc, l, h => by injection h with h; subst h; exact Nat.le_refl _
  | w :: ws, acc, l, h => by
    rw [selQ] at h
    cases hp : partP (B w) with
    | none => rw [hp] at h; cases h
    | some p =>
      rw [hp] at h
      have := selQ_len ws _ l h
      rw [List.length_append, List.length_cons, List.length_nil] at this
      omega
theorem selV_selW : ∀ (ws : List ByteArray) (acc : List S40), acc.all partOk = true → acc.length ≤ 5 → selV acc ws = selW acc ws
  | [], acc, ha, h5 => by
    show (acc, decide ((acc.length : Int) > 0)) = if selOk acc = true then (acc, true) else noSel
    unfold selOk
    rw [ha, Bool.and_true]
    by_cases h0 : acc.length = 0
    · rw [decide_eq_false (by omega), decide_eq_false (by omega), List.length_eq_zero_iff.1 h0]; rfl
    · rw [decide_eq_true (by omega), decide_eq_true (by omega), if_pos rfl]
  | w :: ws, acc, ha, h5 => by
    unfold selV selW
    rw [selP, selQ]
    cases hp : partP (B w) with
    | none => rfl
    | some p =>
      simp only
      by_cases h : acc.length = 5
      · rw [if_pos h]
        cases hq : selQ (acc ++ [p]) ws with
        | none => rfl
        | some l =>
          have hl := selQ_len ws _ l hq
          rw [List.length_append, List.length_cons, List.length_nil] at hl
          simp only
          rw [if_neg]
          unfold selOk
          rw [decide_eq_false (by omega)]; simp
      · rw [if_neg h]
        exact selV_selW ws (acc ++ [p]) (by rw [List.all_append, ha, List.all_cons, (partP_ok _ _ hp).1]; rfl) (by rw [List.length_append, List.length_cons, List.length_nil]; omega)
theorem selV_cons (acc : List S40) (w : ByteArray) (ws : List ByteArray) : selV acc (w :: ws) = match partP (B w) with | none => noSel | some p => if acc.length = 5 then noSel else selV (acc ++ [p]) ws := by
  unfold selV
  rw [selP]
  cases partP (B w) with
  | none => rfl
  | some p =>
    simp only
    by_cases h : acc.length = 5
    · rw [if_pos h, if_pos h]
    · rw [if_neg h, if_neg h]
theorem spec_sel_l0 (s : ByteArray) (hs : s.size ≤ 1048576) : ∀ (m i : Nat) (acc : List S40) (w : ByteArray), i + m = s.size → acc.length ≤ 5 → w.size ≤ i → Ev (fun k => spec_l5Selector.l0 k s acc w (i : Int)) (selV acc ((wordsL blankU (B w) ((B s).drop i)).map ofL)) := by
  have hB := B_len s
  have stop : ∀ acc w, Ev (fun k => spec_l5Selector.l0 k s acc w (((s.size + 1 : Nat)) : Int)) (acc, decide ((acc.length : Int) > 0)) := fun acc w => ev_done fun k => by rw [spec_l5Selector.l0, if_neg (by omega)]
  have cut : ∀ (i : Nat) (acc : List S40) (w : ByteArray) (ws : List ByteArray), i ≤ s.size → acc.length ≤ 5 → w.size ≤ 1048576 →
      (∀ acc' w', acc'.length ≤ 5 → B w' = [] → Ev (fun k => spec_l5Selector.l0 k s acc' w' (((i + 1 : Nat)) : Int)) (selV acc' ws)) → Ev (fun k => spec_l5Selector.j1 k s acc w (i : Int) false) (selV acc (if B w = [] then ws else w :: ws)) := by
    intro i acc w ws hi h5 hw h
    refine Ev.step (fun k => spec_l5Selector.j1.eq_2 ..) (ev_if_neg (by decide) ?_)
    rw [wrap_id (x := (i : Int) + 1) (by omega) (by omega), cast_succ]
    by_cases h0 : B w = []
    · rw [if_pos h0]
      exact ev_if_pos (by rw [toList_B]; exact h0) (h acc w h5 h0)
    · rw [if_neg h0, selV_cons]
      refine ev_if_neg (by rw [toList_B]; exact h0) ?_
      obtain ⟨v, e, ans⟩ := spec_l5Part_ev w hw
      refine ev_bind e ?_
      rcases ans with ⟨a1, a2⟩ | ⟨a1, a2⟩
      · rw [a2]
        refine ev_if_pos a1 ?_
        simp only
        by_cases h6 : acc.length = 5
        · rw [if_pos h6]
          exact ev_if_pos (by omega) (Ev.now _)
        · rw [if_neg h6]
          exact ev_if_neg (by omega) (ev_if_pos (by omega) (h _ _ (by rw [List.length_append, List.length_cons, List.length_nil]; omega) rfl))
      · rw [a2]
        exact ev_if_neg (by rw [a1]; decide) (Ev.now _)
  intro m
  induction m with
  | zero =>
    intro i acc w hi h5 hw
    obtain rfl : i = s.size := by omega
    have hd : (B s).drop s.size = [] := List.drop_eq_nil_of_le (by omega)
    rw [hd, wordsL]
    refine Ev.step (fun k => spec_l5Selector.l0.eq_2 ..) (ev_if_pos (by omega) (ev_if_neg (by omega) ?_))
    have h := cut s.size acc w [] (by omega) h5 (by omega) (fun acc' w' h5' _ => stop acc' w')
    by_cases h0 : B w = []
    · rw [if_pos h0] at h ⊢; exact h
    · rw [if_neg h0] at h ⊢; rw [List.map_cons, List.map_nil, ofL_B]; exact h
  | succ m ih =>
    intro i acc w hi h5 hw
    have hd := drop_cons (B s) 0 i (by omega)
    refine Ev.step (fun k => spec_l5Selector.l0.eq_2 ..) (ev_if_pos (by omega) (ev_if_pos (by omega) (ev_if_pos (by omega) ?_)))
    rw [bt_U s i (by omega)]
    obtain ⟨c, hc⟩ : ∃ c, (B s).getD i 0 = c := ⟨_, rfl⟩
    rw [hc]
    refine ev_bind0 (spec_l4Blank_eq c) ?_
    rw [hd, hc, wordsL]
    by_cases hb : blankU c = true
    · rw [hb]
      have h := cut i acc w ((wordsL blankU [] ((B s).drop (i + 1))).map ofL) (by omega) h5 (by omega) (fun acc' w' h5' hw' => by
        have := ih (i + 1) acc' w' (by omega) h5' (by have := B_len w'; rw [hw', List.length_nil] at this; omega)
        rw [hw'] at this
        exact this)
      rw [if_pos rfl]
      by_cases h0 : B w = []
      · rw [if_pos h0] at h ⊢; exact h
      · rw [if_neg h0] at h ⊢; rw [List.map_cons, ofL_B]; exact h
    · rw [Bool.eq_false_iff.2 hb]
      have ex : B (s.extract i (i + 1)) = [c] := by
        rw [B_extract, hd, hc, Nat.add_sub_cancel_left]; rfl
      have sz : (s.extract i (i + 1)).size = 1 := by rw [← B_len, ex]; rfl
      refine Ev.step (fun k => spec_l5Selector.j1.eq_2 ..) (ev_if_pos (by decide) ?_)
      rw [wrap_id (x := (i : Int) + 1) (by omega) (by omega), cast_succ, Int.toNat_natCast, Int.toNat_natCast]
      refine ev_if_pos (by omega) (ev_if_pos (by omega) (ev_if_pos (by omega) (ev_if_pos (by rw [sz]; omega) ?_)))
      have hsz : (w ++ s.extract i (i + 1)).size = w.size + 1 := by rw [← B_len, B_append, ex, List.length_append, B_len]; rfl
      have h9 := ih (i + 1) acc (w ++ s.extract i (i + 1)) (by omega) h5 (by omega)
      rw [B_append, ex] at h9
      rw [if_neg (by decide)]
      exact h9
theorem spec_l5Selector_ev (s : ByteArray) (hs : s.size ≤ 1048576) : Ev (fun k => spec_l5Selector.f k s) (selV [] ((wordsL blankU [] (B s)).map ofL)) := by
  have h := spec_sel_l0 s hs s.size 0 [] (⟨#[]⟩ : ByteArray) (by omega) (by simp) (by show 0 ≤ _; omega)
  exact h
theorem impl_sel_l0 (ws : List ByteArray) (hn : ws.length ≤ 1048577) (hw : ∀ x ∈ ws, x.size ≤ 1048576 ∧ ¬ B x = []) : ∀ (m i : Nat) (acc : List S40), i + m = ws.length → acc.length ≤ i → acc.all partOk = true → (∀ x ∈ acc, sizesPart x) → Ev (fun k => impl_ReadSelector.l0 k acc ws (ws.length : Int) (i : Int)) (selW acc (ws.drop i)) := by
  intro m
  induction m with
  | zero =>
    intro i acc hi ha hp hs
    rw [List.drop_eq_nil_of_le (by omega)]
    show Ev _ (if selOk acc = true then (acc, true) else noSel)
    refine Ev.step (fun k => impl_ReadSelector.l0.eq_2 ..) (ev_if_neg (by omega) (ev_bind (impl_isSelector_wide acc (by omega) hs) ?_))
    by_cases h : selOk acc = true
    · have e : (if selOk acc = true then (acc, true) else noSel) = (acc, true) := if_pos h
      rw [e]; exact ev_if_pos h (Ev.now _)
    · have e : (if selOk acc = true then (acc, true) else noSel) = noSel := if_neg h
      rw [e]; exact ev_if_neg h (Ev.now _)
  | succ m ih =>
    intro i acc hi ha hp hs
    have hil : i < ws.length := by omega
    rw [drop_cons ws ByteArray.empty i hil]
    have hm : ws.getD i ByteArray.empty ∈ ws := by rw [List.getD_eq_getElem?_getD, List.getElem?_eq_getElem hil]; exact List.getElem_mem hil
    have hx := hw _ hm
    refine Ev.step (fun k => impl_ReadSelector.l0.eq_2 ..) (ev_if_pos (by omega) (ev_if_pos (by omega) (ev_if_pos (by omega) ?_)))
    rw [rdOf_nat]
    generalize ws.getD i ByteArray.empty = w at hx ⊢
    obtain ⟨v, e, ans⟩ := impl_readPart_ev w hx.1 hx.2
    refine ev_bind e ?_
    unfold selW
    rw [selQ]
    rcases ans with ⟨a1, a2⟩ | ⟨a1, a2⟩
    · rw [a2]
      have ok := partP_ok _ _ a2
      refine ev_if_pos a1 (ev_if_pos (by omega) ?_)
      rw [wrap_up hil (by omega)]
      exact ih (i + 1) _ (by omega) (by rw [List.length_append, List.length_cons, List.length_nil]; omega) (by rw [List.all_append, hp, List.all_cons, ok.1]; rfl) (fun x hx => by
        rcases List.mem_append.1 hx with hx | hx
        · exact hs x hx
        · rw [List.mem_singleton.1 hx]; exact ok.2)
    · rw [a2]
      exact ev_if_neg (by rw [a1]; decide) (Ev.now _)
theorem words_in (s : ByteArray) (hs : s.size ≤ 1048576) : ((wordsL blankU [] (B s)).map ofL).length ≤ 1048577 ∧ ∀ x ∈ (wordsL blankU [] (B s)).map ofL, x.size ≤ 1048576 ∧ ¬ B x = [] := by
  have h := wordsL_len blankU (B s) []
  have hB := B_len s
  refine ⟨by rw [List.length_map]; omega, fun x hx => ?_⟩
  obtain ⟨y, hy, rfl⟩ := List.mem_map.1 hx
  have h2 := h.2 y hy
  have h3 := B_len (ofL y)
  rw [B_ofL] at h3
  simp only [List.length_nil] at h2
  exact ⟨by omega, by rw [B_ofL]; exact wordsL_ne blankU _ _ y hy⟩
theorem impl_ReadSelector_ev (s : ByteArray) (hs : s.size ≤ 1048576) : Ev (fun k => impl_ReadSelector.f k s) (selW [] ((wordsL blankU [] (B s)).map ofL)) := by
  simp only [impl_ReadSelector.f]
  refine ev_bind0 (impl_fields_eq s hs) ?_
  have hw := words_in s hs
  exact impl_sel_l0 _ hw.1 hw.2 ((wordsL blankU [] (B s)).map ofL).length 0 [] (by omega) (by simp) rfl (fun x hx => by cases hx)
theorem selV_good (s : ByteArray) : ((selV [] ((wordsL blankU [] (B s)).map ofL)).2 = true → selOk (selV [] ((wordsL blankU [] (B s)).map ofL)).1 = true) ∧ (selV [] ((wordsL blankU [] (B s)).map ofL)).1.length ≤ 5 ∧ ∀ x ∈ (selV [] ((wordsL blankU [] (B s)).map ofL)).1, x.f2.length ≤ 4 := by
  rw [selV_selW _ [] rfl (by simp)]
  unfold selW
  have none_ : ((noSel : List S40 × Bool).2 = true → selOk (noSel : List S40 × Bool).1 = true) ∧ (noSel : List S40 × Bool).1.length ≤ 5 ∧ ∀ x ∈ (noSel : List S40 × Bool).1, x.f2.length ≤ 4 := ⟨(fun h => by cases h), (by show 0 ≤ 5; omega), (fun x hx => by cases hx)⟩
  cases selQ [] ((wordsL blankU [] (B s)).map ofL) with
  | none => exact none_
  | some l =>
    simp only
    split
    · rename_i h
      refine ⟨fun _ => h, ?_⟩
      unfold selOk at h
      rw [Bool.and_eq_true] at h
      refine ⟨(of_decide_eq_true h.1).2, fun x hx => ?_⟩
      have := List.all_eq_true.1 h.2 x hx
      unfold partOk at this
      rw [Bool.and_eq_true, Bool.and_eq_true, Bool.and_eq_true, Bool.and_eq_true] at this
      exact of_decide_eq_true this.1.1.2
    · exact none_

end Go.Proofs.Ytganmdnieihpeaa.Pure
