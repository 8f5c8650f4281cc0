/- CodesOf: the program's CodesOf answers as the reference's at all lengths, writes into none and its answer owns its memory; no condition. -/
import Derived.Test.YtphdamdgenepmaaPFnExactCodesOfx3
import Derived.Test.YtphdamdgenepmaaPlain
import Derived.Test.YtphdamdgenepmaaBits
import Derived.Test.YtphdamdgenepmaaEvs
set_option linter.unusedVariables false
set_option linter.unusedSimpArgs false
namespace Go.Proofs.Ytphdamdgenepmaa.Pure
open Go.RowKit Go.Proofs.Ytphdamdgenepmaa.PFnExactCodesOf Go.Proofs.YtphdamdgenepmaaW.PrintWords Go.Proofs.YtphdamdgenepmaaW.PrintLast Go.Proofs.YtphdamdgenepmaaW.PrintMore Go.Proofs.Ytphdamdgenepmaa.Plain

/-! spec_l1In -/
theorem spec_l1In_eq (a b c : Int) : spec_l1In.f a b c = some (decide (b ≤ a ∧ a ≤ c)) := by
  unfold spec_l1In.f
  split
  · rename_i h; simp [show b ≤ a from h]
  · rename_i h; simp [show ¬ b ≤ a from h]

/-! laws_toIntS -/
-- plain: Evs
theorem laws_toIntS_ev (l : List Int) (hn : l.length ≤ 35184372088832) : Ev (fun k => laws_toIntS.f k l) l := by
  refine Ev.congr (f := fun k => laws_toIntS.l0 k l (List.replicate l.length 0) 0) (fun k => ?_) ?_
  · unfold laws_toIntS.f; rw [if_pos (by omega), if_pos (by omega)]; rfl
  · refine ev_up l.length (fun i k => laws_toIntS.l0 k l (l.take i ++ List.replicate (l.length - i) 0) i) l ?_ ?_
    · refine ev_done fun k => ?_
      rw [laws_toIntS.l0, if_neg (by omega)]; simp
    · intro i hi h
      refine Ev.step (fun k => ?_) h
      rw [laws_toIntS.l0, if_pos (by omega), if_pos (by omega), if_pos (by simp; omega), wrap_up hi (by omega), rd_nat, Int.toNat_natCast, take_set _ _ _ hi _ (by simp; omega), List.tail_replicate]
      congr 3

/-! impl_within -/
theorem impl_within_eq (a b c : Int) : impl_within.f a b c = some (decide (b ≤ a ∧ a ≤ c)) := by
  unfold impl_within.f
  split
  · rename_i h; simp [h]
  · rename_i h; simp [h]

/-! laws_eqIntS -/
-- plain: Evs
theorem laws_eqIntS_same (l : List Int) (hn : l.length ≤ 35184372088832) : Ev (fun k => laws_eqIntS.f k l l) true := by
  refine Ev.congr (f := fun k => laws_eqIntS.l0 k l l 0) (fun k => ?_) ?_
  · unfold laws_eqIntS.f; rw [if_pos rfl]
  · refine ev_up l.length (fun i k => laws_eqIntS.l0 k l l i) true ?_ ?_
    · refine ev_done fun k => ?_
      rw [laws_eqIntS.l0, if_neg (by omega)]
    · intro i hi h
      refine Ev.step (fun k => ?_) h
      rw [laws_eqIntS.l0, if_pos (by omega), if_pos (by omega), if_pos (by omega), if_pos rfl, wrap_up hi (by omega)]
theorem laws_eqIntS_of (l l' : List Int) (hl : l = l') (hn : l.length ≤ 35184372088832) : Ev (fun k => laws_eqIntS.f k l l') true := by
  subst hl; exact laws_eqIntS_same l hn

/-! laws_markIntS -/
-- plain: Evs
/-- What the marks write from the number x on. -/
def markedInt (n : Nat) (x : Int) : List Int := (List.range n).map fun (j : Nat) => (x + (j : Int))
theorem markedInt_length (n : Nat) (x : Int) : (markedInt n x).length = n := by simp [markedInt]
theorem markedInt_get (n : Nat) (x : Int) (i : Nat) (h : i < n) : (markedInt n x).getD i 0 = (x + (i : Int)) := by
  simp [markedInt, h]
theorem markedInt_take (n : Nat) (x : Int) (l : List Int) (hl : l.length = n) (i : Nat) (h : i < n) : ((markedInt n x).take i ++ l.drop i).set i ((x + (i : Int))) = (markedInt n x).take (i + 1) ++ l.drop (i + 1) := by
  rw [← markedInt_get n x i h, take_set _ _ _ (by rw [markedInt_length]; exact h) _ (by simp; omega), List.tail_drop]
theorem laws_markIntS_ev (l : List Int) (x : Int) (h0 : 0 ≤ x) (h1 : x + l.length ≤ 9223372036854775807) : Ev (fun k => laws_markIntS.f k l x) (x + l.length, markedInt l.length x) := by
  refine Ev.congr (f := fun k => laws_markIntS.l0 k l x 0) (fun k => rfl) ?_
  have key := ev_up l.length (fun i k => laws_markIntS.l0 k ((markedInt l.length x).take i ++ l.drop i) (x + i) i) (x + l.length, markedInt l.length x) ?_ ?_
  · simpa using key
  · refine ev_done fun k => ?_
    rw [laws_markIntS.l0, if_neg (by simp [markedInt_length])]
    rw [List.take_of_length_le (by simp [markedInt_length])]; simp
  · intro i hi h
    refine Ev.step (fun k => ?_) h
    rw [laws_markIntS.l0, if_pos (by simp [markedInt_length]; omega), if_pos (by omega), wrap_up hi (by omega), Int.toNat_natCast, markedInt_take _ _ _ rfl i hi, wrap_id (by omega) (by omega)]
    congr 1
    omega

/-! laws_heldIntS -/
-- plain: Evs
-- (behind laws_markIntS)
theorem laws_heldIntS_ev (n : Nat) (x : Int) (h0 : 0 ≤ x) (h1 : x + n ≤ 9223372036854775807) : Ev (fun k => laws_heldIntS.f k (markedInt n x) x) (x + n) := by
  refine Ev.congr (f := fun k => laws_heldIntS.l0 k (markedInt n x) x 0) (fun k => rfl) ?_
  have key := ev_up n (fun i k => laws_heldIntS.l0 k (markedInt n x) (x + i) i) (x + n) ?_ ?_
  · simpa using key
  · refine ev_done fun k => ?_
    rw [laws_heldIntS.l0, if_neg (by simp [markedInt_length])]
  · intro i hi h
    refine Ev.step (fun k => ?_) h
    rw [laws_heldIntS.l0, if_pos (by simp [markedInt_length]; omega), if_pos (by omega), rd_nat, markedInt_get n x i hi, if_pos rfl, wrap_up hi (by omega), wrap_id (by omega) (by omega)]
    congr 1
    omega

-- plain: Evs Bits
theorem pow15 (e : Nat) (h : e ≤ 15) : (0 : Int) < 2 ^ e ∧ (2 : Int) ^ e ≤ 32768 := by
  have : ∀ e : Fin 16, (0 : Int) < 2 ^ e.val ∧ (2 : Int) ^ e.val ≤ 32768 := by decide
  exact this ⟨e, by omega⟩
/-- what a length counts. -/
def krW (n x : Int) : Int := if 0 < x ∧ x < n then (2 : Int) ^ (15 - x).toNat else 0
def kr (n : Int) (l : List Int) : Int := (l.map (krW n)).sum
theorem krW_range (n x : Int) (h : 0 ≤ x ∧ x ≤ 15) : 0 ≤ krW n x ∧ krW n x ≤ 32768 := by
  unfold krW
  split
  · have h1 := pow15 (15 - x).toNat (by omega)
    omega
  · omega
theorem kr_range (n : Int) (l : List Int) (h : ∀ x ∈ l, 0 ≤ x ∧ x ≤ 15) : 0 ≤ kr n l ∧ kr n l ≤ 32768 * l.length := by
  induction l with
  | nil => simp [kr]
  | cons x l ih =>
    have := krW_range n x (h x (by simp))
    have := ih (fun y hy => h y (by simp [hy]))
    simp only [kr, List.map_cons, List.sum_cons, List.length_cons] at *
    omega
theorem kr_append (n : Int) (l m : List Int) : kr n (l ++ m) = kr n l + kr n m := by simp [kr]
theorem kr_one (n x : Int) : kr n [x] = krW n x := by simp [kr]
theorem kr_up (n : Int) (h1 : 1 ≤ n) (h : n ≤ 15) (x : Int) : krW (n + 1) x = krW n x + if x = n then (2 : Int) ^ (15 - n).toNat else 0 := by
  unfold krW
  by_cases e : x = n
  · subst e; rw [if_pos (by omega), if_neg (by omega), if_pos rfl]; omega
  · rw [if_neg e]
    by_cases h2 : 0 < x ∧ x < n
    · rw [if_pos (by omega), if_pos h2]; omega
    · rw [if_neg (by omega), if_neg h2]; omega
theorem kr_16 (x : Int) (h : 0 ≤ x ∧ x ≤ 15) : krW 16 x = if 0 < x then (2 : Int) ^ (15 - x).toNat else 0 := by
  unfold krW
  by_cases e : 0 < x
  · rw [if_pos (by omega), if_pos e]
  · rw [if_neg (by omega), if_neg e]
theorem shl_one (e : Int) (h0 : 0 ≤ e) (h1 : e ≤ 15) : shl .i64 1 e = (2 : Int) ^ e.toNat := by
  have := pow15 e.toNat (by omega)
  unfold shl
  rw [Nat.min_eq_left (by simp [IntKind.bits]; omega), Int.one_mul, IntKind.wrap_i64]
  omega
theorem part_up (n : Int) (h1 : 1 ≤ n) (h : n ≤ 15) (l : List Int) (i : Nat) (hi : i < l.length) :
    kr (n + 1) (l.take (i + 1)) + kr n (l.drop (i + 1)) = kr (n + 1) (l.take i) + kr n (l.drop i) + if l.getD i 0 = n then (2 : Int) ^ (15 - n).toNat else 0 := by
  have e1 : l.take (i + 1) = l.take i ++ [l.getD i 0] := by
    rw [List.take_add_one, List.getElem?_eq_getElem hi, List.getD_eq_getElem?_getD, List.getElem?_eq_getElem hi]; rfl
  rw [e1, drop_cons l 0 i hi, kr_append, kr_one, kr_up n h1 h, show kr n (l.getD i 0 :: l.drop (i + 1)) = krW n (l.getD i 0) + kr n (l.drop (i + 1)) by simp [kr]]
  omega
theorem all_get (l : List Int) (h : ∀ x ∈ l, 0 ≤ x ∧ x ≤ 15) (i : Nat) : 0 ≤ l.getD i 0 ∧ l.getD i 0 ≤ 15 := by
  rw [List.getD_eq_getElem?_getD]
  by_cases hi : i < l.length
  · rw [List.getElem?_eq_getElem hi]; exact h _ (List.getElem_mem hi)
  · rw [List.getElem?_eq_none (by omega)]; simp
theorem kr1 (l : List Int) : kr 1 l = 0 := by
  induction l with
  | nil => rfl
  | cons x l ih =>
    have e : kr 1 (x :: l) = krW 1 x + kr 1 l := by simp [kr]
    have e2 : krW 1 x = 0 := by unfold krW; rw [if_neg (by omega)]
    rw [e, ih, e2]; rfl
theorem full_ev (l : List Int) (hl : l.length ≤ 300) (h : ∀ x ∈ l, 0 ≤ x ∧ x ≤ 15) : Ev (fun k => spec_l2Full.f k l) (kr 16 l == 32768) := by
  have key := ev_up l.length (fun i k => spec_l2Full.l0 k (kr 16 (l.take i)) l l.length i) (kr 16 l == 32768) ?_ ?_
  · refine Ev.congr (f := fun k => spec_l2Full.l0 k 0 l l.length 0) (fun k => rfl) ?_
    simpa [kr] using key
  · refine ev_done fun k => ?_
    rw [spec_l2Full.l0, if_neg (by omega), List.take_of_length_le (by omega)]
  · intro i hi hh
    refine Ev.step (fun k => ?_) hh
    have hx := all_get l h i
    have e1 : kr 16 (l.take (i + 1)) = kr 16 (l.take i) + krW 16 (l.getD i 0) := by
      rw [List.take_add_one, List.getElem?_eq_getElem hi, List.getD_eq_getElem?_getD, List.getElem?_eq_getElem hi, kr_append]; simp [kr]
    have hb := kr_range 16 (l.take i) (fun x hx => h x (List.mem_of_mem_take hx))
    have hb2 := krW_range 16 _ hx
    have hlt : (l.take i).length ≤ 300 := by simp; omega
    rw [spec_l2Full.l0, if_pos (by omega), if_pos (by omega), if_pos (by omega), rd_nat, wrap_up hi (by omega), e1, kr_16 _ hx]
    by_cases hp : 0 < l.getD i 0
    · rw [if_pos hp, wrap_id (x := 15 - l.getD i 0) (by omega) (by omega)]
      have ew : IntKind.u64.wrap (15 - l.getD i 0) = 15 - l.getD i 0 := u64_id _ (by omega) (by omega)
      rw [kr_16 _ hx, if_pos hp] at hb2
      rw [ew, if_pos (by omega), shl_one _ (by omega) (by omega), wrap_id (by omega) (by omega), if_pos hp]
    · rw [if_neg hp, if_neg hp, Int.add_zero]
theorem codes_same (l : List Int) (hl : l.length ≤ 300) (h : ∀ x ∈ l, 0 ≤ x ∧ x ≤ 15) : ∀ (m : Nat) (n : Int) (out : List Int) (c : Int), 1 ≤ n → n + m = 16 → out.length = l.length →
    ∃ r, Ev (fun k => spec_l2Codes.l0 k l out c n) r ∧ Ev (fun k => impl_codesBy.l0 k l out (kr n l) c n) (r, kr 16 l) ∧ r.length = l.length := by
  intro m
  induction m with
  | zero =>
    intro n out c h1 h2 ho
    obtain rfl : n = 16 := by omega
    exact ⟨out, ev_done fun k => by rw [spec_l2Codes.l0, if_neg (by omega)], ev_done fun k => by rw [impl_codesBy.l0, if_neg (by omega)], ho⟩
  | succ m ih =>
    intro n out c h1 h2 ho
    have inner : ∀ (j i : Nat) (out : List Int) (c : Int), i + j = l.length → out.length = l.length →
        ∃ r, Ev (fun k => spec_l2Codes.l1 k l out c n l l.length i) r ∧ Ev (fun k => impl_codesBy.l1 k l out (kr (n + 1) (l.take i) + kr n (l.drop i)) c n l l.length i) (r, kr 16 l) ∧ r.length = l.length := by
      intro j
      induction j with
      | zero =>
        intro i out c hi ho
        obtain ⟨r, h3, h4, h5⟩ := ih (n + 1) out c (by omega) (by omega) ho
        refine ⟨r, Ev.step (fun k => ?_) h3, Ev.step (fun k => ?_) h4, h5⟩
        · rw [spec_l2Codes.l1, if_neg (by omega), wrap_id (by omega) (by omega)]
        · rw [impl_codesBy.l1, if_neg (by omega), wrap_id (by omega) (by omega), List.take_of_length_le (by omega), List.drop_eq_nil_of_le (by omega)]; simp [kr]
      | succ j ih2 =>
        intro i out c hi ho
        have hil : i < l.length := by omega
        have hpu := part_up n h1 (by omega) l i hil
        have hb := kr_range (n + 1) (l.take i) (fun x hx => h x (List.mem_of_mem_take hx))
        have hb2 := kr_range n (l.drop i) (fun x hx => h x (List.mem_of_mem_drop hx))
        have hlt : (l.take i).length ≤ 300 ∧ (l.drop i).length ≤ 300 := by simp; omega
        have hp := pow15 (15 - n).toNat (by omega)
        by_cases he : l.getD i 0 = n
        · obtain ⟨r, h3, h4, h5⟩ := ih2 (i + 1) (out.set i c) (wrap64 (c + 1)) (by omega) (by simpa using ho)
          rw [if_pos he] at hpu
          rw [hpu] at h4
          refine ⟨r, Ev.step (fun k => ?_) h3, Ev.step (fun k => ?_) h4, h5⟩
          · rw [spec_l2Codes.l1, if_pos (by omega), if_pos (by omega), if_pos (by omega), rd_nat, if_pos he, if_pos (by omega), wrap_up hil (by omega), Int.toNat_natCast]
          · rw [impl_codesBy.l1, if_pos (by omega), if_pos (by omega), if_pos (by omega), rd_nat, if_pos he, if_pos (by omega), wrap_id (x := 15 - n) (by omega) (by omega), if_pos (by omega), shl_one _ (by omega) (by omega), wrap_up hil (by omega), Int.toNat_natCast, wrap_id (x := _ + 2 ^ _) (by omega) (by omega)]
        · obtain ⟨r, h3, h4, h5⟩ := ih2 (i + 1) out c (by omega) ho
          rw [if_neg he, Int.add_zero] at hpu
          rw [hpu] at h4
          refine ⟨r, Ev.step (fun k => ?_) h3, Ev.step (fun k => ?_) h4, h5⟩
          · rw [spec_l2Codes.l1, if_pos (by omega), if_pos (by omega), if_pos (by omega), rd_nat, if_neg he, wrap_up hil (by omega)]
          · rw [impl_codesBy.l1, if_pos (by omega), if_pos (by omega), if_pos (by omega), rd_nat, if_neg he, wrap_up hil (by omega)]
    obtain ⟨r, h3, h4, h5⟩ := inner l.length 0 out (wrap64 (c * 2)) (by omega) ho
    refine ⟨r, Ev.step (fun k => ?_) h3, Ev.step (fun k => ?_) h4, h5⟩
    · rw [spec_l2Codes.l0, if_pos (by omega)]; rfl
    · rw [impl_codesBy.l0, if_pos (by omega)]; simp [kr]
theorem CodesOf_same (l : List Int) (hl : l.length ≤ 300) : ∃ r, Ev (fun k => spec_CodesOf.f k l) r ∧ Ev (fun k => impl_CodesOf.f k l) r ∧ r.1.length ≤ 300 := by
  by_cases h : ∀ x ∈ l, 0 ≤ x ∧ x ≤ 15
  · have hall : ∀ i : Nat, decide (0 ≤ l.getD i 0 ∧ l.getD i 0 ≤ 15) = true := fun i => decide_eq_true (all_get l h i)
    have loop : ∀ r, Ev (fun k => (spec_l2Full.f k l).bind fun t => if t = true then (spec_l2Codes.f k l).bind fun u => some (u, true) else some (([] : List Int), false)) r →
        Ev (fun k => (impl_codesBy.f k l).bind fun bt => if bt.2 = 32768 then some (bt.1, true) else some (([] : List Int), false)) r → Ev (fun k => spec_CodesOf.f k l) r ∧ Ev (fun k => impl_CodesOf.f k l) r := by
      intro r h1 h2
      constructor
      · refine Ev.congr (f := fun k => spec_CodesOf.l0 k l l l.length 0) (fun k => by unfold spec_CodesOf.f; rw [if_neg (by omega)]) ?_
        refine ev_up l.length (fun i k => spec_CodesOf.l0 k l l l.length i) r (Ev.step (fun k => by rw [spec_CodesOf.l0, if_neg (by omega)]) h1) ?_
        intro i hi hh
        refine Ev.step (fun k => ?_) hh
        rw [spec_CodesOf.l0, if_pos (by omega), if_pos (by omega), if_pos (by omega), rd_nat, spec_l1In_eq, hall i, Option.bind_some, if_pos rfl, wrap_up hi (by omega)]
      · refine Ev.congr (f := fun k => impl_CodesOf.l0 k l l l.length 0) (fun k => by unfold impl_CodesOf.f; rw [if_neg (by omega)]) ?_
        refine ev_up l.length (fun i k => impl_CodesOf.l0 k l l l.length i) r (Ev.step (fun k => by rw [impl_CodesOf.l0, if_neg (by omega)]) h2) ?_
        intro i hi hh
        refine Ev.step (fun k => ?_) hh
        rw [impl_CodesOf.l0, if_pos (by omega), if_pos (by omega), if_pos (by omega), rd_nat, impl_within_eq, hall i, Option.bind_some, if_pos rfl, wrap_up hi (by omega)]
    obtain ⟨c, h3, h4, h5⟩ := codes_same l hl h 15 1 (List.replicate l.length 0) 0 (by omega) (by omega) (by simp)
    have hs : Ev (fun k => spec_l2Codes.f k l) c := Ev.congr (fun k => by unfold spec_l2Codes.f; rw [if_pos (by omega), if_pos (by omega)]; rfl) h3
    have k1 := kr1 l
    rw [k1] at h4
    have hi : Ev (fun k => impl_codesBy.f k l) (c, kr 16 l) := Ev.congr (fun k => by unfold impl_codesBy.f; rw [if_pos (by omega), if_pos (by omega)]; rfl) h4
    by_cases hk : kr 16 l = 32768
    · obtain ⟨g1, g2⟩ := loop (c, true) (ev_bind (full_ev l hl h) (ev_if_pos (by simpa using hk) (ev_bind hs (Ev.now _)))) (ev_bind hi (ev_if_pos hk (Ev.now _)))
      exact ⟨_, g1, g2, by simp; omega⟩
    · obtain ⟨g1, g2⟩ := loop ([], false) (ev_bind (full_ev l hl h) (ev_if_neg (by simpa using hk) (Ev.now _))) (ev_bind hi (ev_if_neg hk (Ev.now _)))
      exact ⟨_, g1, g2, by simp⟩
  · -- some length is none
    have key : ∀ (d i : Nat), i + d = l.length → (¬ ∀ x ∈ l.drop i, 0 ≤ x ∧ x ≤ 15) → Ev (fun k => spec_CodesOf.l0 k l l l.length i) ([], false) ∧ Ev (fun k => impl_CodesOf.l0 k l l l.length i) ([], false) := by
      intro d
      induction d with
      | zero => intro i hi hn; rw [List.drop_eq_nil_of_le (by omega)] at hn; exact absurd (by simp) hn
      | succ d ih =>
        intro i hi hn
        have hil : i < l.length := by omega
        by_cases he : 0 ≤ l.getD i 0 ∧ l.getD i 0 ≤ 15
        · rw [drop_cons l 0 i hil] at hn
          obtain ⟨g1, g2⟩ := ih (i + 1) (by omega) (fun hh => hn (by
            intro x hx
            rcases List.mem_cons.1 hx with rfl | hx
            · exact he
            · exact hh x hx))
          refine ⟨Ev.step (fun k => ?_) g1, Ev.step (fun k => ?_) g2⟩
          · rw [spec_CodesOf.l0, if_pos (by omega), if_pos (by omega), if_pos (by omega), rd_nat, spec_l1In_eq, decide_eq_true he, Option.bind_some, if_pos rfl, wrap_up hil (by omega)]
          · rw [impl_CodesOf.l0, if_pos (by omega), if_pos (by omega), if_pos (by omega), rd_nat, impl_within_eq, decide_eq_true he, Option.bind_some, if_pos rfl, wrap_up hil (by omega)]
        · refine ⟨ev_done fun k => ?_, ev_done fun k => ?_⟩
          · rw [spec_CodesOf.l0, if_pos (by omega), if_pos (by omega), if_pos (by omega), rd_nat, spec_l1In_eq, decide_eq_false he, Option.bind_some, if_neg (by decide)]
          · rw [impl_CodesOf.l0, if_pos (by omega), if_pos (by omega), if_pos (by omega), rd_nat, impl_within_eq, decide_eq_false he, Option.bind_some, if_neg (by decide)]
    obtain ⟨g1, g2⟩ := key l.length 0 (by omega) (by simpa using h)
    exact ⟨_, Ev.congr (fun k => by unfold spec_CodesOf.f; rw [if_neg (by omega)]; rfl) g1, Ev.congr (fun k => by unfold impl_CodesOf.f; rw [if_neg (by omega)]; rfl) g2, by simp⟩
theorem FnExactCodesOf : laws_FnExactCodesOf.Pure := by
  intro l hm hb hw
  by_cases hlen : (l.length : Int) > 1048576
  · exact ⟨0, by unfold laws_FnExactCodesOf.f; rw [if_pos hlen]⟩
  have main : ∃ r, Ev (fun k => spec_CodesOf.f k l) r ∧ Ev (fun k => impl_CodesOf.f k l) r ∧ r.1.length ≤ 300 := by
    by_cases h3 : (l.length : Int) > 300
    · exact ⟨([], false), ev_now fun k => by unfold spec_CodesOf.f; rw [if_pos h3], ev_now fun k => by unfold impl_CodesOf.f; rw [if_pos h3], by simp⟩
    · exact CodesOf_same l (by omega)
  obtain ⟨⟨r, b⟩, hs, hi, hr⟩ := main
  simp only at hr
  refine Ev.rounds ?_
  simp only [laws_FnExactCodesOf.f]
  refine ev_if_neg hlen ?_
  refine ev_bind (laws_toIntS_ev l (by omega)) ?_
  refine ev_bind hs ?_
  refine ev_bind (laws_toIntS_ev l (by omega)) ?_
  refine ev_bind hi ?_
  refine ev_bind (laws_eqIntS_same r (by omega)) ?_
  refine ev_if_pos rfl ?_
  refine Ev.step (fun k => laws_FnExactCodesOf.j0.eq_2 ..) ?_
  refine ev_if_neg (by simp) ?_
  refine ev_bind (laws_toIntS_ev l (by omega)) ?_
  refine ev_bind (laws_eqIntS_same l (by omega)) ?_
  refine ev_if_pos rfl ?_
  refine ev_bind (laws_markIntS_ev l 1 (by omega) (by omega)) ?_
  refine ev_if_neg (by simp only; omega) ?_
  refine ev_bind (laws_eqIntS_same r (by omega)) ?_
  refine ev_if_pos rfl ?_
  refine Ev.step (fun k => laws_FnExactCodesOf.j1.eq_2 ..) ?_
  refine ev_if_neg (by simp) ?_
  refine ev_bind (laws_markIntS_ev r 1 (by omega) (by omega)) ?_
  refine ev_bind (laws_heldIntS_ev r.length 1 (by omega) (by omega)) ?_
  refine ev_if_neg (by omega) ?_
  refine ev_if_pos rfl ?_
  refine ev_bind (laws_toIntS_ev l (by omega)) ?_
  refine ev_bind hi ?_
  refine ev_bind (laws_eqIntS_same r (by omega)) ?_
  refine ev_if_pos rfl ?_
  refine Ev.step (fun k => laws_FnExactCodesOf.j2.eq_2 ..) ?_
  refine ev_if_neg (by simp) ?_
  refine ev_bind (laws_heldIntS_ev r.length 1 (by omega) (by omega)) ?_
  refine ev_if_neg (by omega) ?_
  exact ev_if_pos rfl (Ev.now true)

end Go.Proofs.Ytphdamdgenepmaa.Pure
