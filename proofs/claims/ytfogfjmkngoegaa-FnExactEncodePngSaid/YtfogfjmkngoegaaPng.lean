/- Plain lemmas on rows of pictures and their filters. -/
import Derived.Test.YtfogfjmkngoegaaEvs
import Derived.Test.YtfogfjmkngoegaaBits
set_option linter.unusedVariables false
set_option linter.unusedSimpArgs false
namespace Go.Proofs.Ytfogfjmkngoegaa.Plain
open Go.RowKit Go.Proofs.YtfogfjmkngoegaaW.PrintWords
/-- a list of bytes. -/
def InB (l : List Int) : Prop := ∀ x ∈ l, 0 ≤ x ∧ x ≤ 255
theorem inB_of {l : List Int} (h : ∀ x ∈ l, (Lit.int .u8 x).wf = true) : InB l := fun x hx => u8_range (h x hx)
theorem inB_getD {l : List Int} (h : InB l) (i : Nat) : 0 ≤ l.getD i 0 ∧ l.getD i 0 ≤ 255 := by
  rw [List.getD_eq_getElem?_getD]
  cases e : l[i]? with
  | none => simp
  | some x => simpa using h x (List.mem_of_getElem? e)
theorem inB_rd {l : List Int} (h : InB l) (i : Int) : 0 ≤ rd l i ∧ rd l i ≤ 255 := inB_getD h _
theorem inB_snoc {l : List Int} (h : InB l) {x : Int} (h0 : 0 ≤ x ∧ x ≤ 255) : InB (l ++ [x]) := by
  intro y hy
  rcases List.mem_append.1 hy with hy | hy
  · exact h y hy
  · rw [List.mem_singleton.1 hy]; exact h0
/-- a byte of a row, 0 ahead of it. -/
def atP (l : List Int) (j : Int) : Int := if j < 0 then 0 else rd l j
theorem atP_range {l : List Int} (h : InB l) (j : Int) : 0 ≤ atP l j ∧ atP l j ≤ 255 := by
  unfold atP; split
  · omega
  · exact inB_rd h j
def absP (v : Int) : Int := if v < 0 then -v else v
/-- what a filter takes for a byte. -/
def guessP (kind a b c : Int) : Int :=
  if kind = 1 then a else if kind = 2 then b else if kind = 3 then (a + b) / 2
  else if kind = 4 then (if absP (a + b - c - a) ≤ absP (a + b - c - b) ∧ absP (a + b - c - a) ≤ absP (a + b - c - c) then a else if absP (a + b - c - b) ≤ absP (a + b - c - c) then b else c)
  else 0
theorem guessP_range (kind a b c : Int) (ha : 0 ≤ a ∧ a ≤ 255) (hb : 0 ≤ b ∧ b ≤ 255) (hc : 0 ≤ c ∧ c ≤ 255) : 0 ≤ guessP kind a b c ∧ guessP kind a b c ≤ 255 := by
  unfold guessP
  split
  · omega
  · split
    · omega
    · split
      · omega
      · split
        · split
          · omega
          · split <;> omega
        · omega
/-- the first bytes of a filtered row. -/
def fil (kind : Int) (row above : List Int) : Nat → List Int
  | 0 => []
  | n + 1 => fil kind row above n ++ [(rd row n - guessP kind (atP row ((n : Int) - 4)) (rd above n) (atP above ((n : Int) - 4))) % 256]
/-- the first bytes of a row that was filtered. -/
def unf (kind : Int) (row above : List Int) : Nat → List Int
  | 0 => []
  | n + 1 => unf kind row above n ++ [(rd row n + guessP kind (atP (unf kind row above n) ((n : Int) - 4)) (rd above n) (atP above ((n : Int) - 4))) % 256]
theorem fil_length (kind : Int) (row above : List Int) : ∀ n, (fil kind row above n).length = n
  | 0 => rfl
  | n + 1 => by rw [fil, List.length_append, fil_length kind row above n]; rfl
theorem unf_length (kind : Int) (row above : List Int) : ∀ n, (unf kind row above n).length = n
  | 0 => rfl
  | n + 1 => by rw [unf, List.length_append, unf_length kind row above n]; rfl
theorem fil_inB (kind : Int) (row above : List Int) : ∀ n, InB (fil kind row above n)
  | 0 => fun x hx => by simp [fil] at hx
  | n + 1 => inB_snoc (fil_inB kind row above n) (by omega)
theorem unf_inB (kind : Int) (row above : List Int) : ∀ n, InB (unf kind row above n)
  | 0 => fun x hx => by simp [unf] at hx
  | n + 1 => inB_snoc (unf_inB kind row above n) (by omega)
theorem set_fill (xs : List Int) (m i : Nat) (h : xs.length = i) (hm : 0 < m) (v : Int) : (xs ++ List.replicate m 0).set i v = (xs ++ [v]) ++ List.replicate (m - 1) 0 := by
  subst h
  obtain ⟨m', rfl⟩ : ∃ m', m = m' + 1 := ⟨m - 1, by omega⟩
  rw [List.set_append_right _ _ (Nat.le_refl _), Nat.sub_self, List.replicate_succ, List.set_cons_zero]
  simp
theorem rd_app (xs ys : List Int) (j : Int) (h : j < (xs.length : Int)) (h0 : 0 ≤ j) : rd (xs ++ ys) j = rd xs j := by
  unfold rd
  rw [List.getD_eq_getElem?_getD, List.getD_eq_getElem?_getD, List.getElem?_append_left (by omega)]
/-- what a filtered byte weighs. -/
def costP (b : Int) : Int := if b > 127 then 256 - b else b
def costTo (l : List Int) : Nat → Int
  | 0 => 0
  | n + 1 => costTo l n + costP (rd l n)
theorem costP_range {b : Int} (h : 0 ≤ b ∧ b ≤ 255) : 0 ≤ costP b ∧ costP b ≤ 128 := by unfold costP; split <;> omega
theorem costTo_range {l : List Int} (h : InB l) : ∀ n, 0 ≤ costTo l n ∧ costTo l n ≤ 128 * n
  | 0 => by simp [costTo]
  | n + 1 => by
    have h1 := costTo_range h n
    have h2 := costP_range (inB_rd h n)
    rw [costTo]; omega
end Go.Proofs.Ytfogfjmkngoegaa.Plain
