/- Plain words: loops that weigh a list, loops that fill one. -/
import Derived.Test.YtganmdnieihpeaaDoorEvs
set_option linter.unusedVariables false
set_option linter.unusedSimpArgs false
namespace Go.Proofs.YtganmdnieihpeaaDoor.Plain
open Go.RowKit Go.Proofs.YtganmdnieihpeaaDoorW.PrintWords
theorem sum_nonneg {α : Type} (tot : α → Int) (htot : ∀ x, 0 ≤ tot x) (l : List α) : 0 ≤ (l.map tot).sum := by
  induction l with
  | nil => simp
  | cons x l ih => rw [List.map_cons, List.sum_cons]; have := htot x; omega
theorem sum_mem {α : Type} (tot : α → Int) (htot : ∀ x, 0 ≤ tot x) (l : List α) : ∀ x ∈ l, tot x ≤ (l.map tot).sum := by
  induction l with
  | nil => intro x hx; simp at hx
  | cons y l ih =>
    intro x hx
    have h1 := sum_nonneg tot htot l
    have h2 := htot y
    rw [List.map_cons, List.sum_cons]
    rcases List.mem_cons.1 hx with rfl | hx
    · omega
    · have := ih x hx; omega
theorem sz_gen {α : Type} (d : α) (l : List α) (tot : α → Int) (htot : ∀ x, 0 ≤ tot x) (G : Nat → Int → Nat → Option Int)
    (hend : ∀ a, Ev (G l.length a) a)
    (hstep : ∀ (i : Nat) (a : Int), i < l.length → 0 ≤ a → a ≤ 1048576 → ∃ r1, (r1 < 0 ∨ (r1 = a - tot (l.getD i d) ∧ 0 ≤ r1)) ∧ (r1 < 0 → Ev (G i a) (-1)) ∧ (0 ≤ r1 → ∀ r, Ev (G (i + 1) r1) r → Ev (G i a) r)) :
    ∀ (n i : Nat) (a : Int), i + n = l.length → 0 ≤ a → a ≤ 1048576 → ∃ r, Ev (G i a) r ∧ (r < 0 ∨ (r = a - ((l.drop i).map tot).sum ∧ 0 ≤ r)) := by
  intro n
  induction n with
  | zero =>
    intro i a hi h0 h1
    obtain rfl : i = l.length := by omega
    exact ⟨a, hend a, .inr ⟨by simp, h0⟩⟩
  | succ n ih =>
    intro i a hi h0 h1
    have hil : i < l.length := by omega
    obtain ⟨r1, c1, e1, e2⟩ := hstep i a hil h0 h1
    have ht := htot (l.getD i d)
    rw [drop_cons l d i hil, List.map_cons, List.sum_cons]
    rcases c1 with c1 | ⟨c1, c2⟩
    · exact ⟨-1, e1 c1, .inl (by omega)⟩
    · obtain ⟨r, hr, hc⟩ := ih (i + 1) r1 (by omega) c2 (by omega)
      refine ⟨r, e2 c2 r hr, ?_⟩
      rcases hc with hc | ⟨hc, hc2⟩
      · exact .inl hc
      · exact .inr ⟨by rw [hc, c1]; omega, hc2⟩
theorem to_gen {β : Type} (z : β) (m : List β) (G : Nat → List β → Nat → Option (List β))
    (hend : Ev (G m.length m) m)
    (hstep : ∀ (i : Nat) (X : List β), i < m.length → X.length = m.length → ∀ r, Ev (G (i + 1) (X.set i (m.getD i z))) r → Ev (G i X) r) :
    Ev (G 0 (List.replicate m.length z)) m := by
  have key : ∀ (n i : Nat), i + n = m.length → Ev (G i (m.take i ++ List.replicate (m.length - i) z)) m := by
    intro n
    induction n with
    | zero =>
      intro i hi
      obtain rfl : i = m.length := by omega
      rw [List.take_of_length_le (Nat.le_refl _), Nat.sub_self]
      simpa using hend
    | succ n ih =>
      intro i hi
      refine hstep i _ (by omega) (by simp; omega) m ?_
      have e2 := take_set m z i (by omega) (List.replicate (m.length - i) z) (by simp; omega)
      rw [List.tail_replicate] at e2
      rw [e2, show m.length - i - 1 = m.length - (i + 1) by omega]
      exact ih (i + 1) (by omega)
  have h := key m.length 0 (by omega)
  simpa using h
end Go.Proofs.YtganmdnieihpeaaDoor.Plain
