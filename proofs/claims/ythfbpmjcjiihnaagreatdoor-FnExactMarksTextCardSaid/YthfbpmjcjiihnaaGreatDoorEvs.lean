/- Loops and rounds: small lemmas on 'from some number of rounds on'. -/
import Derived.RowKit
import Derived.Lib.Strings
import Derived.Test.YthfbpmjcjiihnaaGreatDoorVWords
import Derived.Test.YthfbpmjcjiihnaaGreatDoorPlain
set_option linter.unusedVariables false
set_option linter.unusedSimpArgs false
namespace Go.Proofs.YthfbpmjcjiihnaaGreatDoor.Plain
open Go.RowKit Go.Proofs.YthfbpmjcjiihnaaGreatDoorW.PrintWords

theorem ev_from {α : Type} (n : Nat) (G : Nat → Nat → Option α) (R : Nat → α) (hend : Ev (G n) (R n)) (hstep : ∀ i, i < n → Ev (G (i + 1)) (R (i + 1)) → Ev (G i) (R i)) : ∀ i, i ≤ n → Ev (G i) (R i) := by
  have key : ∀ d i, i + d = n → Ev (G i) (R i) := by
    intro d
    induction d with
    | zero => intro i hi; obtain rfl : i = n := by omega
              exact hend
    | succ d ih => intro i hi; exact hstep i (by omega) (ih (i + 1) (by omega))
  exact fun i hi => key (n - i) i (by omega)
theorem ev_up {α : Type} (n : Nat) (G : Nat → Nat → Option α) (r : α) (hend : Ev (G n) r) (hstep : ∀ i, i < n → Ev (G (i + 1)) r → Ev (G i) r) : Ev (G 0) r :=
  ev_from n G (fun _ => r) hend hstep 0 (by omega)
theorem ev_now {α : Type} {g : Nat → Option α} {r : α} (h : ∀ k, g k = some r) : Ev g r := ⟨0, fun k _ => h k⟩
/-- one round that ends. -/
theorem ev_done {α : Type} {g : Nat → Option α} {r : α} (h : ∀ k, g (k + 1) = some r) : Ev g r := Ev.step h (Ev.now r)
theorem ev_bind {α β : Type} {g : Nat → Option α} {f : Nat → α → Option β} {a : α} {r : β} (h : Ev g a) (k : Ev (fun n => f n a) r) : Ev (fun n => (g n).bind (f n)) r := Ev.bind h k
theorem ev_bind0 {α β : Type} {g : Option α} {f : Nat → α → Option β} {a : α} {r : β} (h : g = some a) (k : Ev (fun n => f n a) r) : Ev (fun n => g.bind (f n)) r := by
  subst h; exact k
theorem ev_if_pos {α : Type} {c : Prop} [Decidable c] {g f : Nat → Option α} {r : α} (h : c) (k : Ev g r) : Ev (fun n => if c then g n else f n) r := by
  simp only [if_pos h]; exact k
theorem ev_if_neg {α : Type} {c : Prop} [Decidable c] {g f : Nat → Option α} {r : α} (h : ¬ c) (k : Ev f r) : Ev (fun n => if c then g n else f n) r := by
  simp only [if_neg h]; exact k
/-- two answers of one thing are one. -/
theorem ev_unique {α : Type} {g : Nat → Option α} {r s : α} (h : Ev g r) (k : Ev g s) : r = s := by
  obtain ⟨K, h⟩ := h
  obtain ⟨K', k⟩ := k
  have h1 := h (max K K') (by omega)
  have h2 := k (max K K') (by omega)
  rw [h1] at h2
  exact Option.some.inj h2
theorem rd_nat (xs : List Int) (i : Nat) : rd xs (i : Int) = xs.getD i 0 := by simp [rd]
theorem rdOf_nat {α : Type} (d : α) (xs : List α) (i : Nat) : rdOf d xs (i : Int) = xs.getD i d := by simp [rdOf]
theorem cast_succ (i : Nat) : ((i : Int) + 1) = ((i + 1 : Nat) : Int) := by omega
theorem wrap_up {i n : Nat} (h : i < n) (hn : n ≤ 9223372036854775807) : wrap64 ((i : Int) + 1) = ((i + 1 : Nat) : Int) := by
  rw [wrap_id (by omega) (by omega)]; omega
theorem take_set {α : Type} (xs : List α) (d : α) (i : Nat) (h : i < xs.length) (z : List α) (hz : z ≠ []) :
    (xs.take i ++ z).set i (xs.getD i d) = xs.take (i + 1) ++ z.tail := by
  rw [List.set_append_right _ _ (by simp; omega)]
  have : (xs.take i).length = i := by simp; omega
  rw [this, Nat.sub_self]
  match z, hz with
  | a :: z, _ =>
    simp only [List.set_cons_zero, List.tail_cons]
    rw [List.take_add_one (i := i), List.getD_eq_getElem?_getD, List.getElem?_eq_getElem h]
    simp only [Option.getD_some, Option.toList_some, List.append_assoc, List.singleton_append]
theorem drop_cons {α : Type} (xs : List α) (d : α) (i : Nat) (h : i < xs.length) : xs.drop i = xs.getD i d :: xs.drop (i + 1) := by
  rw [List.drop_eq_getElem_cons h, List.getD_eq_getElem?_getD, List.getElem?_eq_getElem h]; rfl
theorem str_eq (a b : ByteArray) : (a.toList = b.toList) ↔ a.data.toList = b.data.toList := by rw [Go.Lib.toList_data, Go.Lib.toList_data]
theorem bytes_ext {a b : ByteArray} (h : a.data.toList = b.data.toList) : a = b := by
  cases a; cases b; simp only at h; congr; exact Array.toList_inj.mp h
theorem u8_range {x : Int} (h : (Lit.int .u8 x).wf = true) : 0 ≤ x ∧ x ≤ 255 := by
  simp [Lit.wf] at h; exact ⟨by have := h.1; simp [IntKind.min, IntKind.signed] at this; omega, by have := h.2; simp [IntKind.max, IntKind.bits, IntKind.signed] at this; omega⟩
theorem bytes_rd {l : List Int} (h : ∀ x ∈ l, (Lit.int .u8 x).wf = true) (i : Int) : 0 ≤ rd l i ∧ rd l i ≤ 255 := by
  unfold rd
  rw [List.getD_eq_getElem?_getD]
  by_cases hi : i.toNat < l.length
  · rw [List.getElem?_eq_getElem hi]; exact u8_range (h _ (List.getElem_mem hi))
  · rw [List.getElem?_eq_none (by omega)]; simp
theorem ints_rd {l : List Int} (h : ∀ x ∈ l, (Lit.int .i64 x).wf = true) (i : Int) : -9223372036854775808 ≤ rd l i ∧ rd l i ≤ 9223372036854775807 := by
  unfold rd
  rw [List.getD_eq_getElem?_getD]
  by_cases hi : i.toNat < l.length
  · rw [List.getElem?_eq_getElem hi]; exact wf_i64 (h _ (List.getElem_mem hi))
  · rw [List.getElem?_eq_none (by omega)]; simp
end Go.Proofs.YthfbpmjcjiihnaaGreatDoor.Plain
