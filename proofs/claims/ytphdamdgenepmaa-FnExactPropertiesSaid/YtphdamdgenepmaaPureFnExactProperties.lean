/- Properties: the program's Properties answers as the reference's, and its answer owns its memory; no condition. -/
import Derived.Test.YtphdamdgenepmaaPFnExactPropertiesx2
import Derived.Test.YtphdamdgenepmaaPlain
import Derived.Test.YtphdamdgenepmaaEvs
set_option linter.unusedVariables false
set_option linter.unusedSimpArgs false
namespace Go.Proofs.Ytphdamdgenepmaa.Pure
open Go.RowKit Go.Proofs.Ytphdamdgenepmaa.PFnExactProperties Go.Proofs.YtphdamdgenepmaaW.PrintWords Go.Proofs.YtphdamdgenepmaaW.PrintLast Go.Proofs.YtphdamdgenepmaaW.PrintMore Go.Proofs.Ytphdamdgenepmaa.Plain

/-! laws_eqStringS -/
-- plain: Evs
theorem laws_eqStringS_same (l : List ByteArray) (hn : l.length ≤ 9223372036854775807) : Ev (fun k => laws_eqStringS.f k l l) true := by
  refine Ev.congr (f := fun k => laws_eqStringS.l0 k l l 0) (fun k => ?_) ?_
  · unfold laws_eqStringS.f; rw [if_pos rfl]
  · refine ev_up l.length (fun i k => laws_eqStringS.l0 k l l i) true ?_ ?_
    · refine ev_done fun k => ?_
      rw [laws_eqStringS.l0, if_neg (by omega)]
    · intro i hi h
      refine Ev.step (fun k => ?_) h
      rw [laws_eqStringS.l0, if_pos (by omega), if_pos (by omega), if_pos (by omega), if_pos rfl, wrap_up hi (by omega)]

/-! laws_markText -/
-- plain: Evs
theorem markText_l0_ends : ∀ (n : Nat) (x : Int) (s : ByteArray), 0 ≤ x → x.toNat ≤ n → (s.size : Int) + x ≤ 4611686018427387904 → ∃ t, Ev (fun k => laws_markText.l0 k x s) t := by
  intro n
  induction n with
  | zero =>
    intro x s h0 h1 h2
    exact ⟨_, ev_done fun k => by rw [laws_markText.l0, if_neg (by omega), if_pos (by omega)]⟩
  | succ n ih =>
    intro x s h0 h1 h2
    by_cases hx : x > 0
    · have hd : wrap64 (Int.tdiv x 10) = x / 10 := by rw [Int.tdiv_eq_ediv_of_nonneg h0, wrap_id (by omega) (by omega)]
      have hz : ∀ y : Int, (strOfNums ([y] : List Int)).size = 1 := fun y => rfl
      obtain ⟨t, ht⟩ := ih (x / 10) ((strOfNums ([(wrap64 (48 + (Int.tmod x 10))) % 256] : List Int)) ++ s) (by omega) (by omega) (by rw [ByteArray.size_append, hz]; omega)
      refine ⟨t, Ev.step (fun k => ?_) ht⟩
      rw [laws_markText.l0, if_pos hx, Option.bind_some, if_pos (by rw [hz]; omega), hd]
    · exact ⟨_, ev_done fun k => by rw [laws_markText.l0, if_neg hx, if_pos (by omega)]⟩
theorem markText_ends (x : Int) : ∃ t, 0 ≤ x → x ≤ 4611686018427387904 → Ev (fun k => laws_markText.f k x) t := by
  by_cases h : 0 ≤ x ∧ x ≤ 4611686018427387904
  · by_cases h0 : x ≤ 0
    · exact ⟨_, fun _ _ => ev_now fun k => by unfold laws_markText.f; rw [if_pos h0]⟩
    · obtain ⟨t, ht⟩ := markText_l0_ends x.toNat x (⟨#[]⟩ : ByteArray) h.1 (by omega) (by show (0 : Int) + x ≤ _; omega)
      exact ⟨t, fun _ _ => Ev.congr (fun k => by unfold laws_markText.f; rw [if_neg h0]) ht⟩
  · exact ⟨(⟨#[]⟩ : ByteArray), fun h1 h2 => absurd ⟨h1, h2⟩ h⟩
/-- the text of a mark. -/
noncomputable def mtext (x : Int) : ByteArray := Classical.choose (markText_ends x)
theorem mtext_ev (x : Int) (h0 : 0 ≤ x) (h1 : x ≤ 4611686018427387904) : Ev (fun k => laws_markText.f k x) (mtext x) := Classical.choose_spec (markText_ends x) h0 h1

/-! laws_markStringS -/
-- plain: Evs
noncomputable def markedString (n : Nat) (x : Int) : List ByteArray := (List.range n).map fun (j : Nat) => mtext (x + (j : Int))
theorem markedString_length (n : Nat) (x : Int) : (markedString n x).length = n := by simp [markedString]
theorem markedString_get (n : Nat) (x : Int) (i : Nat) (h : i < n) : (markedString n x).getD i ByteArray.empty = mtext (x + (i : Int)) := by
  simp [markedString, h]
theorem markedString_take (n : Nat) (x : Int) (l : List ByteArray) (hl : l.length = n) (i : Nat) (h : i < n) : ((markedString n x).take i ++ l.drop i).set i (mtext (x + (i : Int))) = (markedString n x).take (i + 1) ++ l.drop (i + 1) := by
  rw [← markedString_get n x i h, take_set _ _ _ (by rw [markedString_length]; exact h) _ (by simp; omega), List.tail_drop]
theorem laws_markStringS_ev (l : List ByteArray) (x : Int) (h0 : 0 ≤ x) (h1 : x + l.length ≤ 4611686018427387904) : Ev (fun k => laws_markStringS.f k l x) (x + l.length, markedString l.length x) := by
  refine Ev.congr (f := fun k => laws_markStringS.l0 k l x 0) (fun k => rfl) ?_
  have key := ev_up l.length (fun i k => laws_markStringS.l0 k ((markedString l.length x).take i ++ l.drop i) (x + i) i) (x + l.length, markedString l.length x) ?_ ?_
  · simpa using key
  · refine ev_done fun k => ?_
    rw [laws_markStringS.l0, if_neg (by simp [markedString_length])]
    rw [List.take_of_length_le (by simp [markedString_length])]; simp
  · intro i hi h
    refine Ev.step (fun k => by rw [laws_markStringS.l0]) ?_
    refine ev_if_pos (by simp [markedString_length]; omega) ?_
    refine ev_bind (mtext_ev (x + i) (by omega) (by omega)) (ev_if_pos (by omega) ?_)
    rw [wrap_up hi (by omega), Int.toNat_natCast, markedString_take _ _ _ rfl i hi, wrap_id (by omega) (by omega)]
    have e : x + (i : Int) + 1 = x + ((i + 1 : Nat) : Int) := by omega
    rw [e]; exact h

/-! laws_heldStringS -/
-- plain: Evs
theorem laws_heldStringS_ev (n : Nat) (x : Int) (h0 : 0 ≤ x) (h1 : x + n ≤ 4611686018427387904) : Ev (fun k => laws_heldStringS.f k (markedString n x) x) (x + n) := by
  refine Ev.congr (f := fun k => laws_heldStringS.l0 k (markedString n x) x 0) (fun k => rfl) ?_
  have key := ev_up n (fun i k => laws_heldStringS.l0 k (markedString n x) (x + i) i) (x + n) ?_ ?_
  · simpa using key
  · refine ev_done fun k => ?_
    rw [laws_heldStringS.l0, if_neg (by simp [markedString_length])]
  · intro i hi h
    refine Ev.step (fun k => by rw [laws_heldStringS.l0]) ?_
    refine ev_if_pos (by simp [markedString_length]; omega) (ev_if_pos (by omega) ?_)
    refine ev_bind (mtext_ev (x + i) (by omega) (by omega)) ?_
    refine ev_if_pos (by rw [rdOf_nat, markedString_get n x i hi]) ?_
    rw [wrap_up hi (by omega), wrap_id (by omega) (by omega)]
    have e : x + (i : Int) + 1 = x + ((i + 1 : Nat) : Int) := by omega
    rw [e]; exact h

-- plain: Evs
theorem impl_Properties_ev (l : List S81) (hl : l.length ≤ 1000) : Ev (fun k => impl_Properties.l0 k [] l l.length 0) (l.map fun p => p.f0) := by
  refine ev_up l.length (fun i k => impl_Properties.l0 k ((l.take i).map fun p => p.f0) l l.length i) _ ?_ ?_
  · refine ev_done fun k => ?_
    rw [impl_Properties.l0, if_neg (by omega), List.take_of_length_le (by omega)]
  · intro i hi h
    refine Ev.step (fun k => ?_) h
    rw [impl_Properties.l0, if_pos (by omega), if_pos (by omega), if_pos (by omega), if_pos (by simp; omega), wrap_up hi (by omega)]
    congr 1
    rw [List.take_add_one, List.getElem?_eq_getElem hi, List.map_append]
    congr 1
    simp [rd_T81, hi]
theorem FnExactProperties : laws_FnExactProperties.Pure := by
  unfold laws_FnExactProperties.Pure
  obtain ⟨r, hs, hr⟩ : ∃ r, spec_Properties.f = some r ∧ r.length = 16 := ⟨_, rfl, rfl⟩
  have hi : Ev (fun k => impl_Properties.f k) r := by
    have := impl_Properties_ev (impl_properties.f.getD []) (by decide)
    have e : (impl_properties.f.getD []).map (fun p => p.f0) = r := by
      have : spec_Properties.f = some ((impl_properties.f.getD []).map (fun p => p.f0)) := rfl
      rw [this] at hs
      exact Option.some.inj hs
    rw [e] at this
    exact Ev.congr (fun k => rfl) this
  refine Ev.rounds ?_
  unfold laws_FnExactProperties.f
  rw [hs]
  refine ev_bind0 rfl ?_
  refine ev_bind hi ?_
  refine ev_bind (laws_eqStringS_same r (by omega)) ?_
  refine ev_if_pos rfl ?_
  refine ev_bind (laws_markStringS_ev r 1 (by omega) (by omega)) ?_
  refine ev_bind (laws_heldStringS_ev r.length 1 (by omega) (by omega)) ?_
  refine ev_if_neg (by omega) ?_
  refine ev_if_pos rfl ?_
  refine ev_bind hi ?_
  refine ev_bind (laws_eqStringS_same r (by omega)) ?_
  refine ev_if_pos rfl ?_
  refine ev_bind (laws_heldStringS_ev r.length 1 (by omega) (by omega)) ?_
  refine ev_if_neg (by omega) ?_
  exact ev_if_pos rfl (Ev.now true)

end Go.Proofs.Ytphdamdgenepmaa.Pure
