/- Lemmas for the pure statement of FnExactReadSelector, part 2. -/
import Derived.Test.YtganmdnieihpeaaPureFnExactReadSelectory1
import Derived.Test.YtganmdnieihpeaaPlain
import Derived.Test.YtganmdnieihpeaaEvs
import Derived.Test.YtganmdnieihpeaaStr
import Derived.Test.YtganmdnieihpeaaWord
import Derived.Test.YtganmdnieihpeaaTrim
import Derived.Test.YtganmdnieihpeaaField
set_option linter.unusedVariables false
set_option linter.unusedSimpArgs false
namespace Go.Proofs.Ytganmdnieihpeaa.Pure
open Go.RowKit Go.Proofs.Ytganmdnieihpeaa.PFnExactReadSelector Go.Proofs.YtganmdnieihpeaaW.PrintWords Go.Proofs.YtganmdnieihpeaaW.PrintLast Go.Proofs.YtganmdnieihpeaaW.PrintMore Go.Proofs.Ytganmdnieihpeaa.Plain

/-! laws_markStringS -/
-- plain: Evs
noncomputable def markedString (n : Nat) (x : Int) : List ByteArray := (List.range n).map fun (j : Nat) => mtext (x + (j : Int))
theorem markedString_length (n : Nat) (x : Int) : (markedString n x).length = n := by simp [markedString]
theorem markedString_get (n : Nat) (x : Int) (i : Nat) (h : i < n) : (markedString n x).getD i ByteArray.empty = mtext (x + (i : Int)) := by
  simp [markedString, h]
theorem markedString_take (n : Nat) (x : Int) (l : List ByteArray) (hl : l.length = n) (i : Nat) (h : i < n) : ((markedString n x).take i ++ l.drop i).set i (mtext (x + (i : Int))) = (markedString n x).take (i + 1) ++ l.drop (i + 1) := by
  rw [← markedString_get n x i h, take_set _ _ _ (by rw [markedString_length]; exact h) _ (by simp; omega), List.tail_drop]
theorem laws_markStringS_ev (l : List ByteArray) (x : Int) (h0 : 0 ≤ x) (h1 : x + l.length ≤ 4611686018427387904) : Ev (fun k => laws_markStringS.f k l x) (x + l.length, markedString l.length x) := by
  refine Ev.congr (f := fun k => laws_markStringS.l0 k l x 0) (fun k => rfl) ?_
  have key := ev_up l.length (fun i k => laws_markStringS.l0 k ((markedString l.length x).take i ++ l.drop i) (x + i) i) (x + l.length, markedString l.length x) ?_ ?_
  · simpa using key
  · refine ev_done fun k => ?_
    rw [laws_markStringS.l0, if_neg (by simp [markedString_length])]
    rw [List.take_of_length_le (by simp [markedString_length])]; simp
  · intro i hi h
    refine Ev.step (fun k => by rw [laws_markStringS.l0]) ?_
    refine ev_if_pos (by simp [markedString_length]; omega) ?_
    refine ev_bind (mtext_ev (x + i) (by omega) (by omega)) (ev_if_pos (by omega) ?_)
    rw [wrap_up hi (by omega), Int.toNat_natCast, markedString_take _ _ _ rfl i hi, wrap_id (by omega) (by omega)]
    have e : x + (i : Int) + 1 = x + ((i + 1 : Nat) : Int) := by omega
    rw [e]; exact h

/-! laws_markPartS -/
-- plain: Evs
noncomputable def mkParts : List S40 → Int → List S40
  | [], _ => []
  | p :: t, x => ⟨mtext x, mtext (x + 1), markedString p.f2.length (x + 2)⟩ :: mkParts t (x + 2 + p.f2.length)
def mkPartsEnd : List S40 → Int → Int
  | [], x => x
  | p :: t, x => mkPartsEnd t (x + 2 + p.f2.length)
theorem mkPartsEnd_ge : ∀ (l : List S40) (x : Int), x + 2 * l.length ≤ mkPartsEnd l x
  | [], x => by show x + 2 * ((0 : Nat) : Int) ≤ x; omega
  | p :: t, x => by
    have := mkPartsEnd_ge t (x + 2 + p.f2.length)
    rw [mkPartsEnd, List.length_cons]; omega
theorem mkParts_length : ∀ (l : List S40) (x : Int), (mkParts l x).length = l.length
  | [], _ => rfl
  | p :: t, x => by rw [mkParts, List.length_cons, mkParts_length t, List.length_cons]
theorem rd_mid_part (d : List S40) (p : S40) (t : List S40) : rd_T40 (d ++ p :: t) (d.length : Int) = p := by simp [rd_T40]
theorem markParts_l0 : ∀ (rest done : List S40) (x : Int), 0 ≤ x → mkPartsEnd rest x ≤ 4611686018427387904 → (done ++ rest).length ≤ 9223372036854775807 → Ev (fun k => laws_markPartS.l0 k (done ++ rest) x (done.length : Int)) (mkPartsEnd rest x, done ++ mkParts rest x)
  | [], done, x, h0, h1, hn => by
    rw [List.append_nil] at hn ⊢
    refine ev_done fun k => ?_
    rw [laws_markPartS.l0, if_neg (by omega), mkParts, mkPartsEnd, List.append_nil]
  | p :: t, done, x, h0, h1, hn => by
    have hl : (done ++ p :: t).length = done.length + (t.length + 1) := by rw [List.length_append, List.length_cons]
    have hge := mkPartsEnd_ge t (x + 2 + p.f2.length)
    rw [mkPartsEnd] at h1 ⊢
    refine Ev.step (fun k => laws_markPartS.l0.eq_2 ..) (ev_if_pos (by omega) (ev_if_pos (by omega) ?_))
    rw [rd_mid_part]
    have w1 : wrap64 (x + 1) = x + 1 := wrap_id (by omega) (by omega)
    have w2 : wrap64 (x + 1 + 1) = x + 2 := by rw [wrap_id (by omega) (by omega)]; omega
    rw [w1, w2]
    refine ev_bind (mtext_ev x (by omega) (by omega)) (ev_bind (mtext_ev (x + 1) (by omega) (by omega)) (ev_bind (laws_markStringS_ev p.f2 (x + 2) (by omega) (by omega)) ?_))
    have h := markParts_l0 t (done ++ [⟨mtext x, mtext (x + 1), markedString p.f2.length (x + 2)⟩]) (x + 2 + p.f2.length) (by omega) h1 (by rw [List.length_append, List.length_append, List.length_cons, List.length_nil]; omega)
    rw [List.length_append, List.length_cons, List.length_nil, List.append_assoc, List.append_assoc] at h
    rw [Int.toNat_natCast, List.set_append_right _ _ (Nat.le_refl _), Nat.sub_self, List.set_cons_zero, wrap_id (x := (done.length : Int) + 1) (by omega) (by omega), cast_succ]
    exact h
theorem laws_markPartS_ev (l : List S40) (x : Int) (h0 : 0 ≤ x) (h1 : mkPartsEnd l x ≤ 4611686018427387904) (hn : l.length ≤ 9223372036854775807) : Ev (fun k => laws_markPartS.f k l x) (mkPartsEnd l x, mkParts l x) := markParts_l0 l [] x h0 h1 hn

/-! laws_heldStringS -/
-- plain: Evs
theorem laws_heldStringS_ev (n : Nat) (x : Int) (h0 : 0 ≤ x) (h1 : x + n ≤ 4611686018427387904) : Ev (fun k => laws_heldStringS.f k (markedString n x) x) (x + n) := by
  refine Ev.congr (f := fun k => laws_heldStringS.l0 k (markedString n x) x 0) (fun k => rfl) ?_
  have key := ev_up n (fun i k => laws_heldStringS.l0 k (markedString n x) (x + i) i) (x + n) ?_ ?_
  · simpa using key
  · refine ev_done fun k => ?_
    rw [laws_heldStringS.l0, if_neg (by simp [markedString_length])]
  · intro i hi h
    refine Ev.step (fun k => by rw [laws_heldStringS.l0]) ?_
    refine ev_if_pos (by simp [markedString_length]; omega) (ev_if_pos (by omega) ?_)
    refine ev_bind (mtext_ev (x + i) (by omega) (by omega)) ?_
    refine ev_if_pos (by rw [rdOf_nat, markedString_get n x i hi]) ?_
    rw [wrap_up hi (by omega), wrap_id (by omega) (by omega)]
    have e : x + (i : Int) + 1 = x + ((i + 1 : Nat) : Int) := by omega
    rw [e]; exact h

/-! laws_heldPartS -/
-- plain: Evs
theorem heldParts_l0 : ∀ (rest done : List S40) (x : Int), 0 ≤ x → mkPartsEnd rest x ≤ 4611686018427387904 → (done ++ rest).length ≤ 9223372036854775807 → Ev (fun k => laws_heldPartS.l0 k (done ++ mkParts rest x) x (done.length : Int)) (mkPartsEnd rest x)
  | [], done, x, h0, h1, hn => by
    rw [mkParts, List.append_nil]
    refine ev_done fun k => ?_
    rw [laws_heldPartS.l0, if_neg (by omega), mkPartsEnd]
  | p :: t, done, x, h0, h1, hn => by
    have hl : (done ++ p :: t).length = done.length + (t.length + 1) := by rw [List.length_append, List.length_cons]
    have hge := mkPartsEnd_ge t (x + 2 + p.f2.length)
    rw [mkPartsEnd] at h1 ⊢
    rw [mkParts]
    have hl2 : (done ++ ⟨mtext x, mtext (x + 1), markedString p.f2.length (x + 2)⟩ :: mkParts t (x + 2 + p.f2.length)).length = done.length + (t.length + 1) := by rw [List.length_append, List.length_cons, mkParts_length]
    refine Ev.step (fun k => laws_heldPartS.l0.eq_2 ..) (ev_if_pos (by omega) (ev_if_pos (by omega) ?_))
    rw [rd_mid_part]
    have w1 : wrap64 (x + 1) = x + 1 := wrap_id (by omega) (by omega)
    have w2 : wrap64 (x + 1 + 1) = x + 2 := by rw [wrap_id (by omega) (by omega)]; omega
    rw [w1, w2]
    refine ev_bind (mtext_ev x (by omega) (by omega)) (ev_if_pos rfl (ev_bind (mtext_ev (x + 1) (by omega) (by omega)) (ev_if_pos rfl (ev_bind (laws_heldStringS_ev p.f2.length (x + 2) (by omega) (by omega)) (ev_if_neg (by omega) ?_)))))
    have h := heldParts_l0 t (done ++ [⟨mtext x, mtext (x + 1), markedString p.f2.length (x + 2)⟩]) (x + 2 + p.f2.length) (by omega) h1 (by rw [List.length_append, List.length_append, List.length_cons, List.length_nil]; omega)
    rw [List.length_append, List.length_cons, List.length_nil, List.append_assoc] at h
    rw [wrap_id (x := (done.length : Int) + 1) (by omega) (by omega), cast_succ]
    exact h
theorem laws_heldPartS_ev (l : List S40) (x : Int) (h0 : 0 ≤ x) (h1 : mkPartsEnd l x ≤ 4611686018427387904) (hn : l.length ≤ 9223372036854775807) : Ev (fun k => laws_heldPartS.f k (mkParts l x) x) (mkPartsEnd l x) := heldParts_l0 l [] x h0 h1 hn

end Go.Proofs.Ytganmdnieihpeaa.Pure
