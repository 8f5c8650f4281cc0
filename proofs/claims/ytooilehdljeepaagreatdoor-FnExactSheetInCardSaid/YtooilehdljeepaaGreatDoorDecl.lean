/- Plain words: a declaration's name and value. -/
import Derived.Test.YtooilehdljeepaaGreatDoorCuts
set_option linter.unusedVariables false
set_option linter.unusedSimpArgs false
namespace Go.Proofs.YtooilehdljeepaaGreatDoor.Plain
open Go.RowKit Go.Proofs.YtooilehdljeepaaGreatDoorW.PrintWords
open Go.Lib (index cut)
/-- without blanks around. -/
def tr (l : List UInt8) : List UInt8 := dropR (dropL l)
def runL' (l : List UInt8) : Nat := if runEnd wordU l 0 = 0 then 0 else if digU (l.getD 0 0) = true then 0 else if runEnd wordU l 0 > 30 then 0 else runEnd wordU l 0
theorem blank_nw {c : UInt8} (h : blankU c = true) : wordU c = false ∧ c ≠ 58 := by
  unfold blankU at h
  simp only [List.contains_cons, List.contains_nil, Bool.or_false, Bool.or_eq_true, beq_iff_eq] at h
  rcases h with h | h | h | h <;> subst h <;> exact ⟨by decide, by decide⟩
theorem word_nb {c : UInt8} (h : wordU c = true) : ¬ blankU c = true ∧ c ≠ 58 :=
  ⟨(fun hb => by rw [(blank_nw hb).1] at h; exact absurd h (by decide)), (fun e => by subst e; exact absurd h (by decide))⟩
theorem dw_blank (b l : List UInt8) (h : ∀ x ∈ b, blankU x = true) : (b ++ l).dropWhile blankU = l.dropWhile blankU := by
  induction b with
  | nil => rfl
  | cons x b ih =>
    rw [List.cons_append, List.dropWhile_cons, if_pos (h x List.mem_cons_self)]
    exact ih (fun y hy => h y (List.mem_cons_of_mem _ hy))
theorem dw_idem (l : List UInt8) : (l.dropWhile blankU).dropWhile blankU = l.dropWhile blankU := by
  induction l with
  | nil => rfl
  | cons x l ih =>
    rw [List.dropWhile_cons]
    by_cases h : blankU x = true
    · rw [if_pos h]; exact ih
    · rw [if_neg h, List.dropWhile_cons, if_neg h]
theorem dw_split (l : List UInt8) : ∃ b, l = b ++ l.dropWhile blankU ∧ ∀ x ∈ b, blankU x = true := by
  induction l with
  | nil => exact ⟨[], rfl, by simp⟩
  | cons x l ih =>
    rw [List.dropWhile_cons]
    by_cases h : blankU x = true
    · obtain ⟨b, h1, h2⟩ := ih
      refine ⟨x :: b, by rw [if_pos h, List.cons_append, ← h1], fun y hy => ?_⟩
      rcases List.mem_cons.1 hy with rfl | hy
      · exact h
      · exact h2 y hy
    · exact ⟨[], by rw [if_neg h]; rfl, by simp⟩
theorem dropR_blank (x b : List UInt8) (h : ∀ y ∈ b, blankU y = true) : dropR (x ++ b) = dropR x := by
  unfold dropR
  rw [List.reverse_append, dw_blank _ _ (fun y hy => h y (List.mem_reverse.1 hy))]
theorem dropR_idem (l : List UInt8) : dropR (dropR l) = dropR l := by
  unfold dropR
  rw [List.reverse_reverse, dw_idem]
theorem dropR_split (l : List UInt8) : ∃ b, l = dropR l ++ b ∧ ∀ x ∈ b, blankU x = true := by
  obtain ⟨b, h1, h2⟩ := dw_split l.reverse
  refine ⟨b.reverse, ?_, fun x hx => h2 x (List.mem_reverse.1 hx)⟩
  unfold dropR
  have := congrArg List.reverse h1
  rw [List.reverse_reverse, List.reverse_append] at this
  exact this
theorem tr_split (l : List UInt8) : ∃ b1 b2, l = b1 ++ (tr l ++ b2) ∧ (∀ x ∈ b1, blankU x = true) ∧ ∀ x ∈ b2, blankU x = true := by
  obtain ⟨b1, h1, h2⟩ := dw_split l
  obtain ⟨b2, h3, h4⟩ := dropR_split (dropL l)
  exact ⟨b1, b2, by unfold tr; rw [← h3]; exact h1, h2, h4⟩
theorem dropR_mid (x q : List UInt8) (c : UInt8) (h : ¬ blankU c = true) : dropR (x ++ c :: q) = x ++ c :: dropR q := by
  induction x with
  | nil => rw [List.nil_append, List.nil_append, dropR_cons, if_neg (fun hh => h hh.2)]
  | cons y x ih =>
    rw [List.cons_append, dropR_cons, ih, if_neg (fun hh => by have := hh.1; simp at this)]
    rfl
theorem dropR_nb (w : List UInt8) (h : ∀ x ∈ w, ¬ blankU x = true) : dropR w = w := by
  induction w with
  | nil => rfl
  | cons x w ih =>
    rw [dropR_cons, if_neg (fun hh => h x List.mem_cons_self hh.2), ih (fun y hy => h y (List.mem_cons_of_mem _ hy))]
theorem dropL_nb (w l : List UInt8) (hw : w ≠ []) (h : ∀ x ∈ w, ¬ blankU x = true) : dropL (w ++ l) = w ++ l := by
  cases w with
  | nil => exact absurd rfl hw
  | cons x w => unfold dropL; rw [List.cons_append, List.dropWhile_cons, if_neg (h x List.mem_cons_self)]
theorem tr_word (b1 w b2 : List UInt8) (h1 : ∀ x ∈ b1, blankU x = true) (h2 : ∀ x ∈ b2, blankU x = true) (hw : w ≠ []) (h : ∀ x ∈ w, ¬ blankU x = true) : tr (b1 ++ (w ++ b2)) = w := by
  unfold tr
  rw [show dropL (b1 ++ (w ++ b2)) = w ++ b2 from (dw_blank b1 (w ++ b2) h1).trans (dropL_nb w b2 hw h), dropR_blank w b2 h2, dropR_nb w h]
theorem run_word (w r : List UInt8) (hw : ∀ x ∈ w, wordU x = true) (hr : ∀ c r', r = c :: r' → wordU c = false) : runEnd wordU (w ++ r) 0 = w.length := by
  unfold runEnd
  rw [List.drop_zero, Nat.zero_add]
  induction w with
  | nil =>
    rw [List.nil_append]
    cases r with
    | nil => rfl
    | cons c r' => rw [List.takeWhile_cons, if_neg (by rw [hr c r' rfl]; decide)]
  | cons x w ih =>
    rw [List.cons_append, List.takeWhile_cons, if_pos (hw x List.mem_cons_self), List.length_cons, ih (fun y hy => hw y (List.mem_cons_of_mem _ hy)), List.length_cons]
theorem cut_at (p q : List UInt8) (h : (58 : UInt8) ∉ p) : cut (p ++ 58 :: q) [58] = (p, q, true) := by
  induction p with
  | nil => rw [List.nil_append, cut_hit 58 q [58] rfl]; rfl
  | cons x p ih =>
    rw [List.cons_append, cut_step x _ [58] (fun hh => h (by rw [(pre_one 58 x _).1 hh]; exact List.mem_cons_self)), ih (fun hm => h (List.mem_cons_of_mem _ hm))]
theorem first_of (c : UInt8) (l : List UInt8) (h : c ∈ l) : ∃ p q, l = p ++ c :: q ∧ c ∉ p := by
  induction l with
  | nil => simp at h
  | cons x l ih =>
    by_cases hx : x = c
    · exact ⟨[], l, by rw [hx]; rfl, by simp⟩
    · obtain ⟨p, q, h1, h2⟩ := ih (by rcases List.mem_cons.1 h with h | h; exact absurd h.symm hx; exact h)
      refine ⟨x :: p, q, by rw [h1]; rfl, fun hm => ?_⟩
      rcases List.mem_cons.1 hm with h3 | h3
      · exact hx h3.symm
      · exact h2 h3
theorem cut_miss (l : List UInt8) (h : (58 : UInt8) ∉ l) : cut l [58] = (l, [], false) := by
  rcases index_one 58 l with ⟨h1, _⟩ | ⟨i, _, h2, _⟩
  · unfold cut; rw [h1, if_neg (by decide)]
  · exact absurd h2 h
theorem word_all {w : List UInt8} (h : isWordL w = true) : w ≠ [] ∧ (∀ x ∈ w, wordU x = true) ∧ (1 ≤ w.length ∧ w.length ≤ 30) ∧ digU (w.getD 0 0) = false := by
  unfold isWordL at h
  rw [Bool.and_eq_true, Bool.and_eq_true] at h
  have h1 := of_decide_eq_true h.1.1
  refine ⟨fun e => by rw [e] at h1; simp at h1, fun x hx => List.all_eq_true.1 h.2 x hx, h1, by simpa using h.1.2⟩
theorem decl_fwd (l p q : List UInt8) (hl : l = p ++ 58 :: q) (hp : (58 : UInt8) ∉ p) (hw : isWordL (tr p) = true) :
    runL' (tr l) = (tr p).length ∧ (tr l).take (tr p).length = tr p ∧ tr ((tr l).drop (tr p).length) = 58 :: dropR q := by
  obtain ⟨b1, b2, h1, h2, h3⟩ := tr_split p
  obtain ⟨w0, w1, w2, w3⟩ := word_all hw
  generalize tr p = W at *
  have hnb : ∀ x ∈ W, ¬ blankU x = true := fun x hx => (word_nb (w1 x hx)).1
  have e : tr l = W ++ (b2 ++ 58 :: dropR q) := by
    unfold tr
    rw [hl, h1]
    have e1 : b1 ++ (W ++ b2) ++ 58 :: q = b1 ++ (W ++ (b2 ++ 58 :: q)) := by simp
    rw [e1, show dropL (b1 ++ (W ++ (b2 ++ 58 :: q))) = W ++ (b2 ++ 58 :: q) from (dw_blank b1 _ h2).trans (dropL_nb W _ w0 hnb), ← List.append_assoc, dropR_mid (W ++ b2) q 58 (by decide), List.append_assoc]
  have hr : runEnd wordU (tr l) 0 = W.length := by
    rw [e]
    refine run_word W _ w1 (fun c r' hc => ?_)
    cases b2 with
    | nil => rw [List.nil_append] at hc; injection hc with h _; rw [← h]; decide
    | cons y b2 => rw [List.cons_append] at hc; injection hc with h _; rw [← h]; exact (blank_nw (h3 y List.mem_cons_self)).1
  have hd : digU ((tr l).getD 0 0) = false := by
    rw [e]
    cases W with
    | nil => exact absurd rfl w0
    | cons x W => simpa using w3
  refine ⟨?_, by rw [e]; simp, ?_⟩
  · unfold runL'
    rw [hr, if_neg (by omega), if_neg (by rw [hd]; decide), if_neg (by omega)]
  · rw [e, List.drop_left]
    unfold tr
    rw [show dropL (b2 ++ 58 :: dropR q) = 58 :: dropR q from (dw_blank b2 _ h3).trans (by rw [List.dropWhile_cons, if_neg (by decide)]), dropR_cons, if_neg (fun hh => absurd hh.2 (by decide)), dropR_idem]
theorem decl_bwd (l u : List UInt8) (hn : runL' (tr l) ≠ 0) (hu : tr ((tr l).drop (runL' (tr l))) = 58 :: u) : ∃ p q, l = p ++ 58 :: q ∧ (58 : UInt8) ∉ p ∧ isWordL (tr p) = true := by
  obtain ⟨b1, b2, h1, h2, h3⟩ := tr_split l
  generalize tr l = t at *
  have hne : runEnd wordU t 0 ≠ 0 ∧ ¬ digU (t.getD 0 0) = true ∧ runEnd wordU t 0 ≤ 30 ∧ runL' t = runEnd wordU t 0 := by
    unfold runL' at hn ⊢
    by_cases c1 : runEnd wordU t 0 = 0
    · rw [if_pos c1] at hn; exact absurd rfl hn
    · rw [if_neg c1] at hn ⊢
      by_cases c2 : digU (t.getD 0 0) = true
      · rw [if_pos c2] at hn; exact absurd rfl hn
      · rw [if_neg c2] at hn ⊢
        by_cases c3 : runEnd wordU t 0 > 30
        · rw [if_pos c3] at hn; exact absurd rfl hn
        · rw [if_neg c3]; exact ⟨c1, c2, by omega, rfl⟩
  obtain ⟨k1, k2, k3, k4⟩ := hne
  rw [k4] at hu
  have hrl : runEnd wordU t 0 = (t.takeWhile wordU).length := by unfold runEnd; rw [List.drop_zero, Nat.zero_add]
  have hsp : t = t.takeWhile wordU ++ t.dropWhile wordU := (List.takeWhile_append_dropWhile).symm
  have hall : ∀ x ∈ t.takeWhile wordU, wordU x = true := fun x hx => List.all_eq_true.1 List.all_takeWhile x hx
  have hd0 : t.getD 0 0 = (t.takeWhile wordU).getD 0 0 := by
    cases t with
    | nil => rfl
    | cons y t =>
      rw [hrl, List.takeWhile_cons] at k1
      by_cases hy : wordU y = true
      · rw [List.takeWhile_cons, if_pos hy]; rfl
      · rw [if_neg hy] at k1; exact absurd rfl k1
  rw [hrl] at hu k1 k3
  rw [hd0] at k2
  have hdrop : t.drop (t.takeWhile wordU).length = t.dropWhile wordU := by
    have h9 := congrArg (List.drop (t.takeWhile wordU).length) hsp
    rw [List.drop_left] at h9
    exact h9
  rw [hdrop] at hu
  generalize t.takeWhile wordU = R at *
  generalize t.dropWhile wordU = s at *
  obtain ⟨c1, c2, g1, g2, g3⟩ := tr_split s
  rw [hu] at g1
  have hRnb : ∀ x ∈ R, ¬ blankU x = true := fun x hx => (word_nb (hall x hx)).1
  have hR0 : R ≠ [] := fun e => by rw [e] at k1; exact absurd rfl k1
  have htr : tr (b1 ++ (R ++ c1)) = R := tr_word b1 R c1 h2 g2 hR0 hRnb
  refine ⟨b1 ++ (R ++ c1), u ++ c2 ++ b2, ?_, fun hm => ?_, ?_⟩
  · rw [h1, hsp, g1]; simp
  · rcases List.mem_append.1 hm with h | h
    · exact (blank_nw (h2 _ h)).2 rfl
    · rcases List.mem_append.1 h with h | h
      · exact (word_nb (hall _ h)).2 rfl
      · exact (blank_nw (g2 _ h)).2 rfl
  · rw [htr]
    unfold isWordL
    rw [decide_eq_true (show 1 ≤ R.length ∧ R.length ≤ 30 by omega), Bool.eq_false_iff.mpr k2, List.all_eq_true.2 hall]
    rfl
theorem tr_dropR (q : List UInt8) : tr (dropR q) = tr q := by
  unfold tr
  rw [dropL_dropR, dropR_idem]
end Go.Proofs.YtooilehdljeepaaGreatDoor.Plain
