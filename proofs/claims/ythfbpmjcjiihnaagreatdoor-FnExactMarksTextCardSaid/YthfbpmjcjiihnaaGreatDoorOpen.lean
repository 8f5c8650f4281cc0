/- What comes in, opened to the words' own readings: numbers, texts, structs of one-cell fields, slices of these, at any depth. -/
import Derived.Deep.Slices
import Derived.Deep.Fields
import Derived.ChangeSame
import Derived.Test.YthfbpmjcjiihnaaGreatDoorVWords
set_option linter.unusedVariables false
set_option linter.unusedSimpArgs false
namespace Go.Proofs.YthfbpmjcjiihnaaGreatDoor.Open
open Go.ChangeShapes Go.WideShapes Go.Deep Go.Proofs.YthfbpmjcjiihnaaGreatDoorW.PrintWords

section
variable {H : Type} (enc : TypeId × Value → H) (P : Program) (w : World) (base : Nat) (spare : Nat → Bool) (held : Bool)
/-- Whatever reads as data of type t is a value of the kind k, and good. -/
def Opens {α : Type} (t : TypeId) (k : Kd α) (G : α → Prop) : Prop :=
  ∀ (fuel : Nat) (cs : List Value) (x : DataW H × List MemPlace), DataW.trod enc P w base spare held fuel t cs = some x → ∃ v, k.K w v cs ∧ G v
end
section
variable {H : Type} {enc : TypeId × Value → H} {P : Program} {w : World} {base : Nat} {spare : Nat → Bool} {held : Bool}
theorem opens_string {t : TypeId} (ht : P.underlying t = some .string) : Opens enc P w base spare held t Kd.string (fun s => s.size ≤ maxLen) := by
  intro fuel cs x h
  obtain ⟨s, rfl, _, hs⟩ := DataW.trod_string ht h
  exact ⟨s, rfl, hs⟩
theorem opens_int {t : TypeId} {k : IntKind} (ht : P.underlying t = some (.int k)) : Opens enc P w base spare held t (Kd.int k) (fun n => (Lit.int k n).wf = true) := by
  intro fuel cs x h
  obtain ⟨s, rfl, _, hs⟩ := DataW.trod_int ht h
  exact ⟨s, rfl, hs⟩
theorem opens_bool {t : TypeId} (ht : P.underlying t = some .bool) : Opens enc P w base spare held t Kd.bool (fun _ => True) := by
  intro fuel cs x h
  obtain ⟨s, rfl, _⟩ := DataW.trod_bool ht h
  exact ⟨s, rfl, trivial⟩
theorem opens_slice {α : Type} {t e : TypeId} {k : Kd α} {G : α → Prop} (ht : P.underlying t = some (.slice e)) (hsz : P.cellsOf e = k.sz) (he : Opens enc P w base spare held e k G) :
    Opens enc P w base spare held t (Kd.slice e k) (fun l => l.length ≤ maxLen ∧ ∀ x ∈ l, G x) := by
  intro fuel cs x h
  rcases open_slice ht h with ⟨rfl, _⟩ | ⟨a, len, cap, m, n, D, Pl, rfl, hb, hl, hm, hmm, hx, hi⟩
  · exact ⟨[], ⟨none, 0, rfl, Nat.le_refl _, rfl, by simp, fun hp => absurd hp (Nat.lt_irrefl 0)⟩, by simp, by simp⟩
  · have hle : len ≤ m := by rw [hmm]; split <;> omega
    by_cases h0 : len = 0
    · subst h0
      exact ⟨[], ⟨some a, cap, rfl, Nat.zero_le _, rfl, by simp, fun hp => absurd hp (Nat.lt_irrefl 0)⟩, by simp, by simp⟩
    · have each : ∀ i, i < len → ∃ v c, c.length = k.sz ∧ k.K w v c ∧ G v ∧ ∀ j u, c[j]? = some u → w.cell? (a.add (i * k.sz + j)) = some u := by
        intro i hil
        obtain ⟨cs', hc, ht'⟩ := hi i (by omega)
        obtain ⟨v, hv, hg⟩ := he _ _ _ ht'
        obtain ⟨_, hcl, hat⟩ := World.cells?_some hc
        rw [hsz] at hcl hat
        refine ⟨v, cs', hcl, hv, hg, fun j u hj => ?_⟩
        have hjl : j < k.sz := by have := (List.getElem?_eq_some_iff.1 hj).1; omega
        rw [← Go.Deep.add_add, hat j hjl, hj]
      obtain ⟨v0, _⟩ := each 0 (by omega)
      haveI : Inhabited α := ⟨v0⟩
      obtain ⟨f, hf⟩ := choose_lt (n := len) (p := fun i v => ∃ c, c.length = k.sz ∧ k.K w v c ∧ G v ∧ ∀ j u, c[j]? = some u → w.cell? (a.add (i * k.sz + j)) = some u) (fun i hil => by
        obtain ⟨v, c, h⟩ := each i hil; exact ⟨v, c, h⟩)
      have hlen : ((List.range len).map f).length = len := by simp
      refine ⟨(List.range len).map f, ⟨some a, cap, by rw [hlen], by rw [hlen]; exact hl, rfl, by rw [hlen]; unfold maxLen at hm; omega, fun _ => ⟨a, rfl, fun j p hj => ?_⟩⟩, by rw [hlen]; omega, fun x hx => ?_⟩
      · have hjl : j < len := by have := (List.getElem?_eq_some_iff.1 hj).1; rwa [hlen] at this
        have hp : f j = p := by simpa [hjl] using hj
        obtain ⟨c, h1, h2, _, h4⟩ := hf j hjl
        exact ⟨c, h1, by rw [← hp]; exact h2, h4⟩
      · obtain ⟨j, hj, rfl⟩ := List.mem_map.1 hx
        obtain ⟨_, _, _, h3, _⟩ := hf j (List.mem_range.1 hj)
        exact h3
theorem opens_iso {α β : Type} {t : TypeId} {k : Kd α} {G : α → Prop} {f : β → α} (g : α → β) (hf : ∀ a, f (g a) = a) (h : Opens enc P w base spare held t k G) : Opens enc P w base spare held t (Kd.iso k f) (fun b => G (f b)) := by
  intro fuel cs x hx
  obtain ⟨v, hv, hg⟩ := h _ _ _ hx
  refine ⟨g v, ?_, by show G (f (g v)); rw [hf]; exact hg⟩
  show k.K w (f (g v)) cs
  rw [hf]; exact hv
theorem cut_one {cs : List Value} {n j : Nat} (h : cs.length = n) (hj : j < n) : (cs.drop j).take 1 = [cs[j]'(by omega)] := by
  rw [List.drop_eq_getElem_cons (by omega)]; rfl
/-- one field. -/
theorem field_one {α : Type} {fs : Array Field} {k : Kd α} {G : α → Prop} {cs : List Value} {xs : List (DataW H × List MemPlace)} {n j : Nat} {f : Field} (hone : oneCellFields P fs = true) (hlen : cs.length = fs.size) (hxl : xs.length = fs.size)
    (hg : ∀ (i : Nat) (f : Field), fs[i]? = some f → DataW.trod enc P w base spare held n f.type ((cs.drop f.offset).take (P.cellsOf f.type)) = xs[i]?) (hj : fs[j]? = some f) (ho : Opens enc P w base spare held f.type k G) :
    ∃ v, k.K w v ((cs.drop j).take 1) ∧ G v := by
  obtain ⟨o, c⟩ := hone_of hone j f hj
  have h1 := hg j f hj
  rw [o, c] at h1
  have hjl : j < fs.size := (Array.getElem?_eq_some_iff.1 hj).1
  rw [List.getElem?_eq_getElem (by omega)] at h1
  exact ho _ _ _ h1
theorem opens_two {α β : Type} {t : TypeId} {f0 f1 : Field} {k0 : Kd α} {k1 : Kd β} {G0 : α → Prop} {G1 : β → Prop} (ht : P.underlying t = some (.struct #[f0, f1])) (hone : oneCellFields P #[f0, f1] = true) (hC : P.cellsOf t = 2)
    (h0 : Opens enc P w base spare held f0.type k0 G0) (h1 : Opens enc P w base spare held f1.type k1 G1) :
    Opens enc P w base spare held t (Kd.pair k0 k1) (fun p => G0 p.1 ∧ G1 p.2) := by
  intro fuel cs x h
  obtain ⟨xs, n, _, hx, hl, hxl, hg⟩ := DataW.trod_struct ht h
  rw [hC] at hl
  obtain ⟨v0, a0, b0⟩ := field_one hone (by simpa using hl) (by simpa using hxl) hg (j := 0) rfl h0
  obtain ⟨v1, a1, b1⟩ := field_one hone (by simpa using hl) (by simpa using hxl) hg (j := 1) rfl h1
  match cs, hl with
  | [c0, c1], _ => exact ⟨(v0, v1), ⟨[c0], [c1], rfl, a0, a1⟩, b0, b1⟩
theorem opens_three {α β γ : Type} {t : TypeId} {f0 f1 f2 : Field} {k0 : Kd α} {k1 : Kd β} {k2 : Kd γ} {G0 : α → Prop} {G1 : β → Prop} {G2 : γ → Prop} (ht : P.underlying t = some (.struct #[f0, f1, f2])) (hone : oneCellFields P #[f0, f1, f2] = true) (hC : P.cellsOf t = 3)
    (h0 : Opens enc P w base spare held f0.type k0 G0) (h1 : Opens enc P w base spare held f1.type k1 G1) (h2 : Opens enc P w base spare held f2.type k2 G2) :
    Opens enc P w base spare held t (Kd.pair k0 (Kd.pair k1 k2)) (fun p => G0 p.1 ∧ G1 p.2.1 ∧ G2 p.2.2) := by
  intro fuel cs x h
  obtain ⟨xs, n, _, hx, hl, hxl, hg⟩ := DataW.trod_struct ht h
  rw [hC] at hl
  obtain ⟨v0, a0, b0⟩ := field_one hone (by simpa using hl) (by simpa using hxl) hg (j := 0) rfl h0
  obtain ⟨v1, a1, b1⟩ := field_one hone (by simpa using hl) (by simpa using hxl) hg (j := 1) rfl h1
  obtain ⟨v2, a2, b2⟩ := field_one hone (by simpa using hl) (by simpa using hxl) hg (j := 2) rfl h2
  match cs, hl with
  | [c0, c1, c2], _ => exact ⟨(v0, v1, v2), ⟨[c0], [c1, c2], rfl, a0, [c1], [c2], rfl, a1, a2⟩, b0, b1, b2⟩
theorem opens_four {α β γ δ : Type} {t : TypeId} {f0 f1 f2 f3 : Field} {k0 : Kd α} {k1 : Kd β} {k2 : Kd γ} {k3 : Kd δ} {G0 : α → Prop} {G1 : β → Prop} {G2 : γ → Prop} {G3 : δ → Prop} (ht : P.underlying t = some (.struct #[f0, f1, f2, f3])) (hone : oneCellFields P #[f0, f1, f2, f3] = true) (hC : P.cellsOf t = 4)
    (h0 : Opens enc P w base spare held f0.type k0 G0) (h1 : Opens enc P w base spare held f1.type k1 G1) (h2 : Opens enc P w base spare held f2.type k2 G2) (h3 : Opens enc P w base spare held f3.type k3 G3) :
    Opens enc P w base spare held t (Kd.pair k0 (Kd.pair k1 (Kd.pair k2 k3))) (fun p => G0 p.1 ∧ G1 p.2.1 ∧ G2 p.2.2.1 ∧ G3 p.2.2.2) := by
  intro fuel cs x h
  obtain ⟨xs, n, _, hx, hl, hxl, hg⟩ := DataW.trod_struct ht h
  rw [hC] at hl
  obtain ⟨v0, a0, b0⟩ := field_one hone (by simpa using hl) (by simpa using hxl) hg (j := 0) rfl h0
  obtain ⟨v1, a1, b1⟩ := field_one hone (by simpa using hl) (by simpa using hxl) hg (j := 1) rfl h1
  obtain ⟨v2, a2, b2⟩ := field_one hone (by simpa using hl) (by simpa using hxl) hg (j := 2) rfl h2
  obtain ⟨v3, a3, b3⟩ := field_one hone (by simpa using hl) (by simpa using hxl) hg (j := 3) rfl h3
  match cs, hl with
  | [c0, c1, c2, c3], _ => exact ⟨(v0, v1, v2, v3), ⟨[c0], [c1, c2, c3], rfl, a0, [c1], [c2, c3], rfl, a1, [c2], [c3], rfl, a2, a3⟩, b0, b1, b2, b3⟩
end
end Go.Proofs.YthfbpmjcjiihnaaGreatDoor.Open
