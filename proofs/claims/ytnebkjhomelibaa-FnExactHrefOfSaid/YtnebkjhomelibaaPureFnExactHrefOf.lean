/- HrefOf: the program's HrefOf answers as the reference's at every node, and writes into none; no condition. -/
import Derived.Test.YtnebkjhomelibaaPFnExactHrefOfx3
import Derived.Test.YtnebkjhomelibaaPlain
import Derived.Test.YtnebkjhomelibaaEvs
import Derived.Test.YtnebkjhomelibaaStr
set_option linter.unusedVariables false
set_option linter.unusedSimpArgs false
namespace Go.Proofs.Ytnebkjhomelibaa.Pure
open Go.RowKit Go.Proofs.Ytnebkjhomelibaa.PFnExactHrefOf Go.Proofs.YtnebkjhomelibaaW.PrintWords Go.Proofs.YtnebkjhomelibaaW.PrintLast Go.Proofs.YtnebkjhomelibaaW.PrintMore Go.Proofs.Ytnebkjhomelibaa.Plain

/-! laws_szAttr -/
-- plain: Evs
def totAttr (x : S43) : Int := (x.f0.size : Int) + (x.f1.size : Int)
theorem totAttr_nonneg (x : S43) : 0 ≤ totAttr x := by unfold totAttr; omega
def goodAttr (x : S43) : Prop := x.f0.size ≤ maxLen ∧ x.f1.size ≤ maxLen
theorem szAttr_eq (x : S43) (a : Int) (h0 : 0 ≤ a) (h1 : a ≤ 1048576) (hg : goodAttr x) : ∃ r, laws_szAttr.f x.f0 x.f1 a = some r ∧ (r < 0 ∨ (r = a - totAttr x ∧ 0 ≤ r)) := by
  obtain ⟨hx, hy⟩ := hg
  unfold maxLen at hx hy
  unfold laws_szAttr.f totAttr
  rw [wrap_id (x := a - _) (by omega) (by omega)]
  by_cases c : a - (x.f0.size : Int) < 0
  · rw [if_pos c]; exact ⟨_, rfl, .inl (by omega)⟩
  · rw [if_neg c, wrap_id (x := _ - (x.f1.size : Int)) (by omega) (by omega)]
    by_cases c2 : a - (x.f0.size : Int) - (x.f1.size : Int) < 0
    · rw [if_pos c2]; exact ⟨_, rfl, .inl (by omega)⟩
    · rw [if_neg c2]; exact ⟨_, rfl, .inr ⟨by omega, by omega⟩⟩

/-! laws_szAttrS -/
-- plain: Evs
def totAttrS (l : List S43) : Int := (l.length : Int) + (l.map totAttr).sum
theorem totAttrS_parts (l : List S43) : 0 ≤ (l.map totAttr).sum := by
  induction l with
  | nil => simp
  | cons x l ih => rw [List.map_cons, List.sum_cons]; have := totAttr_nonneg x; omega
theorem laws_szAttrS_l0_ev (l : List S43) (hl : l.length ≤ maxLen) (hg : ∀ x ∈ l, goodAttr x) : ∀ (d i : Nat) (a : Int), i + d = l.length → 0 ≤ a → a ≤ 1048576 →
    ∃ r, Ev (fun k => laws_szAttrS.l0 k l a i) r ∧ (r < 0 ∨ (r = a - ((l.drop i).map totAttr).sum ∧ 0 ≤ r)) := by
  unfold maxLen at hl
  intro d
  induction d with
  | zero =>
    intro i a hi h0 h1
    refine ⟨a, ev_done fun k => ?_, .inr ⟨by rw [List.drop_eq_nil_of_le (by omega)]; simp, h0⟩⟩
    rw [laws_szAttrS.l0, if_neg (by omega)]
  | succ d ih =>
    intro i a hi h0 h1
    have hil : i < l.length := by omega
    have hx : goodAttr (l.getD i z43) := by rw [List.getD_eq_getElem?_getD, List.getElem?_eq_getElem hil]; exact hg _ (List.getElem_mem hil)
    have hrd : rd_T43 l (i : Int) = l.getD i z43 := by simp [rd_T43]
    rw [drop_cons l z43 i hil, List.map_cons, List.sum_cons]
    obtain ⟨r1, e1, c1⟩ := szAttr_eq (l.getD i z43) a h0 h1 hx
    have ht := totAttr_nonneg (l.getD i z43)
    rcases c1 with c1 | ⟨c1, c2⟩
    · refine ⟨-1, ev_done fun k => by rw [laws_szAttrS.l0, if_pos (by omega), if_pos (by omega), hrd, e1, Option.bind_some, if_pos c1], .inl (by omega)⟩
    · obtain ⟨r, hr, hc⟩ := ih (i + 1) r1 (by omega) c2 (by omega)
      refine ⟨r, Ev.step (fun k => by rw [laws_szAttrS.l0, if_pos (by omega), if_pos (by omega), hrd, e1, Option.bind_some, if_neg (by omega), wrap_up hil hl]) hr, ?_⟩
      rcases hc with hc | ⟨hc, hc2⟩
      · exact .inl hc
      · exact .inr ⟨by rw [hc, c1]; omega, hc2⟩
theorem laws_szAttrS_ev (l : List S43) (a : Int) (h0 : 0 ≤ a) (h1 : a ≤ 1048576) (hl : l.length ≤ maxLen) (hg : ∀ x ∈ l, goodAttr x) :
    ∃ r, Ev (fun k => laws_szAttrS.f k l a) r ∧ (r < 0 ∨ (r = a - totAttrS l ∧ 0 ≤ r)) := by
  have hl' := hl
  unfold maxLen at hl'
  simp only [laws_szAttrS.f]
  rw [wrap_id (x := a - _) (by omega) (by omega)]
  by_cases c : a - (l.length : Int) < 0
  · exact ⟨-1, ev_if_pos c (Ev.now _), .inl (by omega)⟩
  · obtain ⟨r, hr, hc⟩ := laws_szAttrS_l0_ev l hl hg l.length 0 (a - (l.length : Int)) (by omega) (by omega) (by omega)
    refine ⟨r, ev_if_neg c hr, ?_⟩
    rcases hc with hc | ⟨hc, hc2⟩
    · exact .inl hc
    · exact .inr ⟨by rw [hc]; unfold totAttrS; rw [List.drop_zero]; omega, hc2⟩

/-! laws_szNode -/
-- plain: Evs
theorem szNode_ev (a0 : ByteArray) (a1 : Int) (l : List S43) (a3 : ByteArray) (a : Int) (h0 : 0 ≤ a) (h1 : a ≤ 1048576) (g0 : a0.size ≤ maxLen) (gl : l.length ≤ maxLen) (gg : ∀ x ∈ l, goodAttr x) (g3 : a3.size ≤ maxLen) :
    ∃ r, Ev (fun k => laws_szNode.f k a0 a1 l a3 a) r ∧ (r < 0 ∨ (r = a - ((a0.size : Int) + totAttrS l + (a3.size : Int)) ∧ 0 ≤ r)) := by
  unfold maxLen at g0 g3
  have ht : 0 ≤ totAttrS l := by unfold totAttrS; have := totAttrS_parts l; omega
  simp only [laws_szNode.f]
  rw [wrap_id (x := a - _) (by omega) (by omega)]
  by_cases c : a - (a0.size : Int) < 0
  · exact ⟨-1, ev_if_pos c (Ev.now _), .inl (by omega)⟩
  · obtain ⟨r, hr, hc⟩ := laws_szAttrS_ev l (a - (a0.size : Int)) (by omega) (by omega) gl gg
    rcases hc with hc | ⟨hc, hc2⟩
    · exact ⟨-1, ev_if_neg c (ev_bind hr (ev_if_pos hc (Ev.now _))), .inl (by omega)⟩
    · by_cases c2 : r - (a3.size : Int) < 0
      · refine ⟨-1, ev_if_neg c (ev_bind hr (ev_if_neg (by omega) ?_)), .inl (by omega)⟩
        rw [wrap_id (by omega) (by omega)]
        exact ev_if_pos c2 (Ev.now _)
      · refine ⟨_, ev_if_neg c (ev_bind hr (ev_if_neg (by omega) ?_)), .inr ⟨rfl, by omega⟩⟩
        rw [wrap_id (by omega) (by omega)]
        have e : a - ((a0.size : Int) + totAttrS l + (a3.size : Int)) = r - (a3.size : Int) := by omega
        rw [e]
        exact ev_if_neg c2 (Ev.now _)

/-! laws_toAttrS -/
-- plain: Evs
def toAttr (x : S43) : S38 := ⟨x.f0, x.f1⟩
theorem laws_toAttrS_ev (l : List S43) (hn : l.length ≤ 1048576) : Ev (fun k => laws_toAttrS.f k l) (l.map toAttr) := by
  refine Ev.congr (f := fun k => laws_toAttrS.l0 k l (List.replicate l.length z38) 0) (fun k => ?_) ?_
  · unfold laws_toAttrS.f; rw [if_pos (by omega), if_pos (by omega)]; rfl
  · refine ev_up l.length (fun i k => laws_toAttrS.l0 k l ((l.map toAttr).take i ++ List.replicate (l.length - i) z38) i) (l.map toAttr) ?_ ?_
    · refine ev_done fun k => ?_
      rw [laws_toAttrS.l0, if_neg (by omega), List.take_of_length_le (by simp)]; simp
    · intro i hi h
      refine Ev.step (fun k => ?_) h
      have e : (⟨(rd_T43 l (i : Int)).f0, (rd_T43 l (i : Int)).f1⟩ : S38) = (l.map toAttr).getD i z38 := by simp [rd_T43, hi, toAttr]
      rw [laws_toAttrS.l0, if_pos (by omega), if_pos (by omega)]
      simp only [laws_toAttr.f, Option.bind_some]
      rw [if_pos (by simp; omega), e, Int.toNat_natCast, take_set _ _ _ (by simpa using hi) _ (by simp; omega), List.tail_replicate, wrap_up hi (by omega)]
      congr 3

/-! laws_toNode -/
-- plain: Evs
theorem laws_toNode_ev (a0 : ByteArray) (a1 : Int) (l : List S43) (a3 : ByteArray) (hn : l.length ≤ 1048576) : Ev (fun k => laws_toNode.f k a0 a1 l a3) (a0, a1, l.map toAttr, a3) := by
  simp only [laws_toNode.f]
  exact ev_bind (laws_toAttrS_ev l hn) (Ev.now _)

/-! laws_eqAttrS -/
-- plain: Evs
theorem laws_eqAttrS_same (l : List S38) (hn : l.length ≤ 9223372036854775807) : Ev (fun k => laws_eqAttrS.f k l l) true := by
  refine Ev.congr (f := fun k => laws_eqAttrS.l0 k l l 0) (fun k => ?_) ?_
  · unfold laws_eqAttrS.f; rw [if_pos rfl]
  · refine ev_up l.length (fun i k => laws_eqAttrS.l0 k l l i) true ?_ ?_
    · refine ev_done fun k => ?_
      rw [laws_eqAttrS.l0, if_neg (by omega)]
    · intro i hi h
      refine Ev.step (fun k => ?_) h
      rw [laws_eqAttrS.l0, if_pos (by omega), if_pos (by omega), if_pos (by omega)]
      unfold laws_eqAttr.f
      rw [if_pos rfl, if_pos rfl, Option.bind_some, if_pos rfl, wrap_up hi (by omega)]

/-! laws_eqNode -/
-- plain: Evs
theorem laws_eqNode_same (a0 : ByteArray) (a1 : Int) (l : List S38) (a3 : ByteArray) (hn : l.length ≤ 9223372036854775807) : Ev (fun k => laws_eqNode.f k a0 a1 l a3 a0 a1 l a3) true := by
  simp only [laws_eqNode.f]
  exact ev_if_pos trivial (ev_if_pos trivial (ev_bind (laws_eqAttrS_same l hn) (ev_if_pos rfl (ev_if_pos trivial (Ev.now _)))))

/-! spec_AttrOf -/
-- plain: Evs
def attrTold : Option S38 → ByteArray × Bool
  | some p => (p.f1, true)
  | none => ((⟨#[]⟩ : ByteArray), false)
def attrFind (l : List S38) (a : ByteArray) : ByteArray × Bool := attrTold (l.find? fun x => decide (x.f0.data.toList = a.data.toList))
theorem spec_AttrOf_ev (n : ByteArray) (u : Int) (l : List S38) (t : ByteArray) (a : ByteArray) (hl : l.length ≤ 9223372036854775807) : Ev (fun k => spec_AttrOf.f k n u l t a) (attrFind l a) := by
  refine Ev.congr (f := fun k => spec_AttrOf.l0 k a l l.length 0) (fun k => rfl) ?_
  refine ev_from l.length (fun i k => spec_AttrOf.l0 k a l l.length i) (fun i => attrTold ((l.drop i).find? fun x => decide (x.f0.data.toList = a.data.toList))) ?_ ?_ 0 (by omega)
  · refine ev_done fun k => ?_
    rw [spec_AttrOf.l0, if_neg (by omega)]; simp [attrTold]
  · intro i hi h
    have hrd : rd_T38 l (i : Int) = l.getD i z38 := by simp [rd_T38]
    by_cases hc : (l.getD i z38).f0.data.toList = a.data.toList
    · refine ev_done fun k => ?_
      rw [spec_AttrOf.l0, if_pos (by omega), if_pos (by omega), if_pos (by omega), hrd, if_pos (by rw [str_eq]; exact hc), drop_cons l z38 i hi, List.find?_cons, decide_eq_true hc]
      rfl
    · refine Ev.step (fun k => ?_) (by rw [drop_cons l z38 i hi, List.find?_cons, decide_eq_false hc]; exact h)
      rw [spec_AttrOf.l0, if_pos (by omega), if_pos (by omega), if_pos (by omega), hrd, if_neg (by rw [str_eq]; exact hc), wrap_up hi hl]

/-! impl_AttrOf -/
-- plain: Evs
theorem impl_AttrOf_ev (n : ByteArray) (u : Int) (l : List S38) (t : ByteArray) (a : ByteArray) (hl : l.length ≤ 9223372036854775807) : Ev (fun k => impl_AttrOf.f k n u l t a) (attrFind l a) := by
  refine Ev.congr (f := fun k => impl_AttrOf.l0 k a l l.length 0) (fun k => rfl) ?_
  refine ev_from l.length (fun i k => impl_AttrOf.l0 k a l l.length i) (fun i => attrTold ((l.drop i).find? fun x => decide (x.f0.data.toList = a.data.toList))) ?_ ?_ 0 (by omega)
  · refine ev_done fun k => ?_
    rw [impl_AttrOf.l0, if_neg (by omega)]; simp [attrTold]
  · intro i hi h
    have hrd : rd_T38 l (i : Int) = l.getD i z38 := by simp [rd_T38]
    by_cases hc : (l.getD i z38).f0.data.toList = a.data.toList
    · refine ev_done fun k => ?_
      rw [impl_AttrOf.l0, if_pos (by omega), if_pos (by omega), if_pos (by omega), hrd, if_pos (by rw [str_eq]; exact hc), drop_cons l z38 i hi, List.find?_cons, decide_eq_true hc]
      rfl
    · refine Ev.step (fun k => ?_) (by rw [drop_cons l z38 i hi, List.find?_cons, decide_eq_false hc]; exact h)
      rw [impl_AttrOf.l0, if_pos (by omega), if_pos (by omega), if_pos (by omega), hrd, if_neg (by rw [str_eq]; exact hc), wrap_up hi hl]

/-! stringslite_HasPrefix -/
-- plain: Str
theorem stringslite_HasPrefix_eq (s p : ByteArray) : stringslite_HasPrefix.f s p = some (decide (B p <+: B s)) := by
  unfold stringslite_HasPrefix.f
  by_cases h : (s.size : Int) ≥ (p.size : Int)
  · rw [if_pos h, if_pos (by omega), if_pos h]
    congr 1
    rw [toList_B, toList_B, B_extract, Int.toNat_natCast, Nat.sub_zero, List.drop_zero, Bool.eq_iff_iff, beq_iff_eq, decide_eq_true_iff, List.prefix_iff_eq_take, B_len]
    exact eq_comm
  · rw [if_neg h]
    congr 1
    rw [eq_comm, decide_eq_false_iff_not]
    intro hp
    have := hp.length_le
    rw [B_len, B_len] at this
    omega

/-! stringslite_CutPrefix -/
-- plain: Str
def cutPrefix (s p : ByteArray) : ByteArray × Bool := if B p <+: B s then (s.extract p.size s.size, true) else (s, false)
theorem stringslite_CutPrefix_eq (s p : ByteArray) : stringslite_CutPrefix.f s p = some (cutPrefix s p) := by
  unfold stringslite_CutPrefix.f cutPrefix
  rw [stringslite_HasPrefix_eq, Option.bind_some]
  by_cases h : B p <+: B s
  · have := h.length_le
    rw [B_len, B_len] at this
    rw [if_pos (by simpa using h), if_pos h, if_pos (by omega), if_pos (by omega), Int.toNat_natCast]
  · rw [if_neg (by simpa using h), if_neg h]

/-! strings_CutPrefix -/
-- plain: Str
theorem strings_CutPrefix_eq (s p : ByteArray) : strings_CutPrefix.f s p = some (cutPrefix s p) := by
  unfold strings_CutPrefix.f
  rw [stringslite_CutPrefix_eq]; rfl

-- plain: Evs Str
def hrefCut (v : ByteArray) : ByteArray := if (cutPrefix v (⟨#[35]⟩ : ByteArray)).2 = true then (cutPrefix v (⟨#[35]⟩ : ByteArray)).1 else (⟨#[]⟩ : ByteArray)
theorem hrefCut_ref (v : ByteArray) : (if (v.size : Int) = 0 then (some (⟨#[]⟩ : ByteArray)) else (if 0 < (v.size : Int) then (if (bt v 0) = 35 then (if 1 ≤ (v.size : Int) then (some (v.extract 1 v.size)) else (none)) else (some (⟨#[]⟩ : ByteArray))) else (none))) = some (hrefCut v) := by
  have hB : B (⟨#[35]⟩ : ByteArray) = [35] := rfl
  by_cases h0 : (v.size : Int) = 0
  · rw [if_pos h0]
    have hv : B v = [] := List.eq_nil_of_length_eq_zero (by rw [B_len]; omega)
    unfold hrefCut cutPrefix
    rw [hB, hv, if_neg (c := [35] <+: ([] : List UInt8)) (by simp)]; rfl
  · rw [if_neg h0, if_pos (by omega)]
    have hb := bt_B v 0 (by omega)
    have hlen := B_len v
    cases hv : B v with
    | nil => rw [hv] at hlen; simp at hlen; omega
    | cons c l =>
      rw [hv] at hb
      simp only [List.getD_cons_zero, Int.ofNat_zero, Int.natCast_zero, Int.cast_ofNat_Int] at hb
      unfold hrefCut cutPrefix
      rw [hB, hv]
      by_cases hc : c = 35
      · subst hc
        rw [if_pos (by rw [hb]; rfl), if_pos (by omega), if_pos (c := [35] <+: 35 :: l) (by simp)]
        rfl
      · rw [if_neg (c := bt v 0 = 35) (by rw [hb]; intro h; exact hc ((u8_nat (n := 35) (by decide)).1 h)), if_neg (c := [35] <+: c :: l) (by simp; exact fun h => hc h.symm)]
        rfl
theorem HrefOf_same (n : ByteArray) (u : Int) (l : List S38) (t : ByteArray) (hl : l.length ≤ 9223372036854775807) : ∃ r, Ev (fun k => spec_HrefOf.f k n u l t) r ∧ Ev (fun k => impl_HrefOf.f k n u l t) r := by
  simp only [spec_HrefOf.f, impl_HrefOf.f]
  have g1 := attrFind l (⟨#[104, 114, 101, 102]⟩ : ByteArray)
  by_cases hc : (attrFind l (⟨#[104, 114, 101, 102]⟩ : ByteArray)).2 = true
  · refine ⟨hrefCut (attrFind l (⟨#[104, 114, 101, 102]⟩ : ByteArray)).1, ?_, ?_⟩
    · refine ev_bind (spec_AttrOf_ev n u l t _ hl) (ev_if_pos hc ?_)
      rw [hrefCut_ref]; exact Ev.now _
    · refine ev_bind (impl_AttrOf_ev n u l t _ hl) (ev_if_pos hc ?_)
      rw [strings_CutPrefix_eq]
      simp only [Option.bind_some]
      unfold hrefCut
      split <;> exact Ev.now _
  · refine ⟨hrefCut (attrFind l (⟨#[120, 108, 105, 110, 107, 58, 104, 114, 101, 102]⟩ : ByteArray)).1, ?_, ?_⟩
    · refine ev_bind (spec_AttrOf_ev n u l t _ hl) (ev_if_neg hc (ev_bind (spec_AttrOf_ev n u l t _ hl) ?_))
      rw [hrefCut_ref]; exact Ev.now _
    · refine ev_bind (impl_AttrOf_ev n u l t _ hl) (ev_if_neg hc (ev_bind (impl_AttrOf_ev n u l t _ hl) ?_))
      rw [strings_CutPrefix_eq]
      simp only [Option.bind_some]
      unfold hrefCut
      split <;> exact Ev.now _
theorem FnExactHrefOf (a0 : ByteArray) (a1 : Int) (l : List S43) (a3 : ByteArray)
    (g : a0.size ≤ maxLen ∧ (Lit.int .i64 a1).wf = true ∧ (l.length ≤ maxLen ∧ ∀ x ∈ l, goodAttr x) ∧ a3.size ≤ maxLen) : ∃ k, laws_FnExactHrefOf.f k a0 a1 l a3 = some true := by
  obtain ⟨g0, g1, ⟨gl, gg⟩, g3⟩ := g
  refine Ev.rounds ?_
  simp only [laws_FnExactHrefOf.f]
  obtain ⟨r, hr, hc⟩ := szNode_ev a0 a1 l a3 1048576 (by omega) (by omega) g0 gl gg g3
  refine ev_bind hr ?_
  by_cases hn : r < 0
  · exact ev_if_pos hn (Ev.now true)
  refine ev_if_neg hn ?_
  have hl : l.length ≤ 1048576 := by
    rcases hc with hc | ⟨hc, hc2⟩
    · omega
    · unfold totAttrS at hc; have := totAttrS_parts l; omega
  have hm : (l.map toAttr).length ≤ 9223372036854775807 := by simp; omega
  obtain ⟨v, h1, h2⟩ := HrefOf_same a0 a1 (l.map toAttr) a3 hm
  refine ev_bind (laws_toNode_ev a0 a1 l a3 hl) ?_
  refine ev_bind h1 ?_
  refine ev_bind (laws_toNode_ev a0 a1 l a3 hl) ?_
  refine ev_bind h2 ?_
  refine ev_if_pos rfl ?_
  refine ev_bind (laws_toNode_ev a0 a1 l a3 hl) ?_
  refine ev_bind (laws_eqNode_same a0 a1 (l.map toAttr) a3 hm) ?_
  exact ev_if_pos rfl (Ev.now true)

end Go.Proofs.Ytnebkjhomelibaa.Pure
