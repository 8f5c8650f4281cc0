/- Lemmas for the pure statement of FnExactReadColor, part 2. -/
import Derived.Test.YtooilehdljeepaaDoorPureFnExactReadColory1
import Derived.Test.YtooilehdljeepaaDoorPlain
import Derived.Test.YtooilehdljeepaaDoorEvs
import Derived.Test.YtooilehdljeepaaDoorStr
import Derived.Test.YtooilehdljeepaaDoorWord
import Derived.Test.YtooilehdljeepaaDoorTrim
import Derived.Test.YtooilehdljeepaaDoorCuts
import Derived.Test.YtooilehdljeepaaDoorDecl
import Derived.Test.YtooilehdljeepaaDoorNum
set_option linter.unusedVariables false
set_option linter.unusedSimpArgs false
namespace Go.Proofs.YtooilehdljeepaaDoor.Pure
open Go.RowKit Go.Proofs.YtooilehdljeepaaDoor.PFnExactReadColor Go.Proofs.YtooilehdljeepaaDoorW.PrintWords Go.Proofs.YtooilehdljeepaaDoorW.PrintLast Go.Proofs.YtooilehdljeepaaDoorW.PrintMore Go.Proofs.YtooilehdljeepaaDoor.Plain

/-! colhash -/
-- plain: Evs Word Str
def hexR : List UInt8 → Nat → Int → Int → Int → Int × Int × Int × Bool
  | [], _, a, b, c => (a, b, c, true)
  | x :: l, i, a, b, c => if hexV (x.toNat : Int) < 0 then (0, 0, 0, false) else if i / 2 = 0 then hexR l (i + 1) (wrap64 (wrap64 (16 * a) + hexV (x.toNat : Int))) b c else if i / 2 = 1 then hexR l (i + 1) a (wrap64 (wrap64 (16 * b) + hexV (x.toNat : Int))) c else hexR l (i + 1) a b (wrap64 (wrap64 (16 * c) + hexV (x.toNat : Int)))
theorem hexG_ev (s : ByteArray) : ∀ (g i : Nat) (a b c : Int), i + g = (B s).length → Ev (fun k => hexG k s g i a b c) (hexR ((B s).drop i) i a b c) := by
  intro g
  induction g with
  | zero =>
    intro i a b c hi
    rw [List.drop_of_length_le (by omega)]
    exact Ev.now _
  | succ g ih =>
    intro i a b c hi
    rw [drop_cons (B s) 0 i (by omega)]
    unfold hexR hexG
    refine ev_bind (impl_hexOf_ev _) ?_
    rw [bt_U s i (by omega)]
    by_cases h : hexV (((B s).getD i 0).toNat : Int) < 0
    · refine ev_r_pos h ?_
      exact ev_if_pos h (Ev.now _)
    · refine ev_r_neg h (ev_if_neg h ?_)
      by_cases h0 : i / 2 = 0
      · exact ev_r_pos h0 (ev_if_pos h0 (ih _ _ _ _ (by omega)))
      · refine ev_r_neg h0 (ev_if_neg h0 ?_)
        by_cases h1 : i / 2 = 1
        · exact ev_r_pos h1 (ev_if_pos h1 (ih _ _ _ _ (by omega)))
        · exact ev_r_neg h1 (ev_if_neg h1 (ih _ _ _ _ (by omega)))
theorem hashL_off : ∀ (l : List UInt8) (acc : List Int), acc.length + l.length ≠ 3 → acc.length + l.length ≠ 6 → hashL l acc = (0, 0, 0, false) := by
  intro l
  induction l with
  | nil =>
    intro acc h3 h6
    unfold hashL hashE
    rw [if_neg (by simp at h3; omega), if_neg (by simp at h6; omega)]
  | cons x l ih =>
    intro acc h3 h6
    unfold hashL
    split
    · rfl
    · exact ih _ (by simp at h3 ⊢; omega) (by simp at h6 ⊢; omega)
theorem w16 (a b : Int) (h : -1 ≤ a ∧ a ≤ 15) (h2 : -1 ≤ b ∧ b ≤ 15) : wrap64 (wrap64 (16 * wrap64 (wrap64 (16 * 0) + a)) + b) = wrap64 (wrap64 (16 * a) + b) := by
  rw [wrap_id (x := 16 * 0) (by omega) (by omega), wrap_id (x := 16 * 0 + a) (by omega) (by omega), show 16 * 0 + a = a by omega]
theorem w17 (a : Int) (h : -1 ≤ a ∧ a ≤ 15) : wrap64 (wrap64 (16 * a) + a) = wrap64 (17 * a) := by
  rw [wrap_id (x := 16 * a) (by omega) (by omega), show 16 * a + a = 17 * a by omega]
theorem hexR_6 (c0 c1 c2 c3 c4 c5 : UInt8) : hexR [c0, c1, c2, c3, c4, c5] 0 0 0 0 = hashL [c0, c1, c2, c3, c4, c5] [] := by
  have r0 := hexV_range (c0.toNat : Int)
  have r1 := hexV_range (c1.toNat : Int)
  have r2 := hexV_range (c2.toNat : Int)
  have r3 := hexV_range (c3.toNat : Int)
  have r4 := hexV_range (c4.toNat : Int)
  have r5 := hexV_range (c5.toNat : Int)
  simp only [hexR, hashL]
  generalize hexV (c0.toNat : Int) = h0 at *
  generalize hexV (c1.toNat : Int) = h1 at *
  generalize hexV (c2.toNat : Int) = h2 at *
  generalize hexV (c3.toNat : Int) = h3 at *
  generalize hexV (c4.toNat : Int) = h4 at *
  generalize hexV (c5.toNat : Int) = h5 at *
  by_cases d0 : h0 < 0
  · rw [if_pos d0, if_pos d0]
  rw [if_neg d0, if_neg d0]
  by_cases d1 : h1 < 0
  · simp [d1]
  by_cases d2 : h2 < 0
  · simp [d1, d2]
  by_cases d3 : h3 < 0
  · simp [d1, d2, d3]
  by_cases d4 : h4 < 0
  · simp [d1, d2, d3, d4]
  by_cases d5 : h5 < 0
  · simp [d1, d2, d3, d4, d5]
  simp only [if_neg d1, if_neg d2, if_neg d3, if_neg d4, if_neg d5]
  simp only [show (0 : Nat) / 2 = 0 from rfl, show (0 + 1 : Nat) / 2 = 0 from rfl, show (0 + 1 + 1 : Nat) / 2 = 1 from rfl, show (0 + 1 + 1 + 1 : Nat) / 2 = 1 from rfl, show (0 + 1 + 1 + 1 + 1 : Nat) / 2 = 2 from rfl, show (0 + 1 + 1 + 1 + 1 + 1 : Nat) / 2 = 2 from rfl, if_true, show ((1 : Nat) = 0) = False by simp, show ((2 : Nat) = 0) = False by simp, show ((2 : Nat) = 1) = False by simp, if_false]
  rw [w16 _ _ r0 r1, w16 _ _ r2 r3, w16 _ _ r4 r5]
  rfl
theorem hexR_3 (c0 c1 c2 : UInt8) : hexR [c0, c0, c1, c1, c2, c2] 0 0 0 0 = hashL [c0, c1, c2] [] := by
  rw [hexR_6]
  have r0 := hexV_range (c0.toNat : Int)
  have r1 := hexV_range (c1.toNat : Int)
  have r2 := hexV_range (c2.toNat : Int)
  simp only [hashL]
  generalize hexV (c0.toNat : Int) = h0 at *
  generalize hexV (c1.toNat : Int) = h1 at *
  generalize hexV (c2.toNat : Int) = h2 at *
  by_cases d0 : h0 < 0
  · rw [if_pos d0, if_pos d0]
  by_cases d1 : h1 < 0
  · simp only [if_neg d0, if_pos d1]
  by_cases d2 : h2 < 0
  · simp only [if_neg d0, if_neg d1, if_pos d2]
  simp only [if_neg d0, if_neg d1, if_neg d2]
  show (wrap64 (wrap64 (16 * h0) + h0), wrap64 (wrap64 (16 * h1) + h1), wrap64 (wrap64 (16 * h2) + h2), true) = (wrap64 (17 * h0), wrap64 (17 * h1), wrap64 (17 * h2), true)
  rw [w17 _ r0, w17 _ r1, w17 _ r2]

/-! colhexc -/
-- plain: Evs Word Str Trim
theorem B_twice (s : ByteArray) (c0 c1 c2 : UInt8) (h : B s = [c0, c1, c2]) : B (hexTwice s) = [c0, c0, c1, c1, c2, c2] := by
  unfold hexTwice
  simp only [B_append, B_extract, h]
  rfl
theorem impl_hexColor_ev (s : ByteArray) : Ev (fun k => impl_hexColor.f k s) (hashL (B s) []) := by
  have hl := B_len s
  unfold impl_hexColor.f
  by_cases h3 : s.size = 3
  · refine ev_if_pos h3 ?_
    match hB : B s with
    | [c0, c1, c2] =>
      have hT := B_twice s c0 c1 c2 hB
      have key := hexG_ev (hexTwice s) 6 0 0 0 0 (by rw [hT]; rfl)
      rw [List.drop_zero, hT, hexR_3] at key
      exact key
    | [] => rw [hB] at hl; simp at hl; omega
    | [_] => rw [hB] at hl; simp at hl; omega
    | [_, _] => rw [hB] at hl; simp at hl; omega
    | _ :: _ :: _ :: _ :: _ => rw [hB] at hl; simp at hl; omega
  · refine ev_if_neg h3 ?_
    by_cases h6 : s.size = 6
    · refine ev_if_pos h6 ?_
      have key := hexG_ev s 6 0 0 0 0 (by omega)
      rw [List.drop_zero] at key
      match hB : B s with
      | [c0, c1, c2, c3, c4, c5] =>
        rw [hB, hexR_6] at key
        exact key
      | [] => rw [hB] at hl; simp at hl; omega
      | [_] => rw [hB] at hl; simp at hl; omega
      | [_, _] => rw [hB] at hl; simp at hl; omega
      | [_, _, _] => rw [hB] at hl; simp at hl; omega
      | [_, _, _, _] => rw [hB] at hl; simp at hl; omega
      | [_, _, _, _, _] => rw [hB] at hl; simp at hl; omega
      | _ :: _ :: _ :: _ :: _ :: _ :: _ :: _ => rw [hB] at hl; simp at hl; omega
    · refine ev_if_neg h6 ?_
      rw [hashL_off (B s) [] (by simp; omega) (by simp; omega)]
      exact Ev.now _

/-! colname -/
-- plain: Evs Word Trim Decl
def nameP (s : ByteArray) : List S98 → Int × Int × Int × Bool
  | [] => (0, 0, 0, false)
  | r :: R => if r.f0.toList = s.toList then (r.f1, r.f2, r.f3, true) else nameP s R
theorem colorOf_l0 (s : ByteArray) (R : List S98) (hR : R.length ≤ 1000) : ∀ n i : Nat, i + n = R.length → Ev (fun k => impl_colorOf.l0 k s R (R.length : Int) (i : Int)) (nameP s (R.drop i)) := by
  intro n
  induction n with
  | zero =>
    intro i hi
    rw [List.drop_of_length_le (by omega)]
    exact Ev.step (fun k => impl_colorOf.l0.eq_2 ..) (ev_if_neg (by omega) (Ev.now _))
  | succ n ih =>
    intro i hi
    rw [drop_cons R z98 i (by omega)]
    unfold nameP
    refine Ev.step (fun k => impl_colorOf.l0.eq_2 ..) (ev_if_pos (by omega) (ev_if_pos (by omega) (ev_if_pos (by omega) ?_)))
    have er : rd_T98 R (i : Int) = R.getD i z98 := by unfold rd_T98; rw [Int.toNat_natCast]
    rw [er]
    by_cases h : ((R.getD i z98).f0).toList = s.toList
    · refine ev_r_pos h ?_
      exact ev_if_pos h (Ev.now _)
    · refine ev_r_neg h ?_
      refine ev_if_neg h ?_
      rw [wrap_id (x := (i : Int) + 1) (by omega) (by omega)]
      exact ih (i + 1) (by omega)
theorem named_l0 (s : ByteArray) (hs : s.size ≤ 1048576) (R : List S98) (hR : R.length ≤ 1000) : ∀ n i : Nat, i + n = R.length → Ev (fun k => spec_l7Named.l0 k s (R.map fun r => (⟨r.f1, r.f2, r.f3⟩ : S23)) (R.map fun r => r.f0) ((R.map fun r => r.f0).length : Int) (i : Int)) (nameP (lowB s) (R.drop i)) := by
  intro n
  induction n with
  | zero =>
    intro i hi
    rw [List.drop_of_length_le (by omega)]
    exact Ev.step (fun k => spec_l7Named.l0.eq_2 ..) (ev_if_neg (by rw [List.length_map]; omega) (Ev.now _))
  | succ n ih =>
    intro i hi
    rw [drop_cons R z98 i (by omega)]
    unfold nameP
    refine Ev.step (fun k => spec_l7Named.l0.eq_2 ..) (ev_if_pos (by rw [List.length_map]; omega) (ev_if_pos (by omega) (ev_if_pos (by rw [List.length_map]; omega) ?_)))
    refine ev_bind0 (a := lowB s) (by unfold spec_l5Low.f; rw [if_pos (by omega)]) ?_
    have er : rdOf ByteArray.empty (R.map fun r => r.f0) (i : Int) = (R.getD i z98).f0 := by
      rw [rdOf_nat, List.getD_eq_getElem?_getD, List.getD_eq_getElem?_getD, List.getElem?_map, List.getElem?_eq_getElem (by omega)]; rfl
    have ec : rd_T23 (R.map fun r => (⟨r.f1, r.f2, r.f3⟩ : S23)) (i : Int) = ⟨(R.getD i z98).f1, (R.getD i z98).f2, (R.getD i z98).f3⟩ := by
      unfold rd_T23
      rw [Int.toNat_natCast, List.getD_eq_getElem?_getD, List.getD_eq_getElem?_getD, List.getElem?_map, List.getElem?_eq_getElem (by omega)]; rfl
    rw [er, ec]
    by_cases h : ((R.getD i z98).f0).toList = (lowB s).toList
    · refine ev_r_pos h ?_
      exact ev_if_pos h (ev_if_pos (by rw [List.length_map]; omega) (Ev.now _))
    · refine ev_r_neg h ?_
      refine ev_if_neg h ?_
      rw [wrap_id (x := (i : Int) + 1) (by omega) (by omega)]
      exact ih (i + 1) (by omega)
theorem color_rows : ∃ R : List S98, (∀ k s, impl_colorOf.f k s = impl_colorOf.l0 k s R (R.length : Int) 0) ∧ (∀ k s, spec_l7Named.f k s = spec_l7Named.l0 k s (R.map fun r => (⟨r.f1, r.f2, r.f3⟩ : S23)) (R.map fun r => r.f0) ((R.map fun r => r.f0).length : Int) 0) ∧ R.length ≤ 1000 ∧ ∀ r ∈ R, r.f0.data.toList.getD 3 0 ≠ 40 :=
  ⟨_, fun k s => rfl, fun k s => rfl, by decide, by decide⟩

/-! colsuf -/
-- plain: Trim Evs
def parB (t : ByteArray) : Bool := decide (1 ≤ t.size) && ((t.extract (t.size - 1) t.size).toList == [41])
theorem strings_CutSuffix_par (t : ByteArray) (hs : t.size ≤ 1048576) : strings_CutSuffix.f t (⟨#[41]⟩ : ByteArray) = some (if parB t = true then (t.extract 0 (t.size - 1), true) else (t, false)) := by
  have hz : (⟨#[41]⟩ : ByteArray).size = 1 := rfl
  have hl : (⟨#[41]⟩ : ByteArray).toList = [41] := by rw [toList_B]; rfl
  unfold strings_CutSuffix.f stringslite_CutSuffix.f stringslite_HasSuffix.f
  rw [hz, hl]
  by_cases h : 1 ≤ t.size
  · have e : wrap64 ((t.size : Int) - ((1 : Nat) : Int)) = ((t.size - 1 : Nat) : Int) := by rw [wrap_id (by omega) (by omega)]; omega
    rw [e, if_pos (by omega), if_pos (by omega), if_pos (by omega), Int.toNat_natCast, Option.bind_some]
    unfold parB
    rw [decide_eq_true h, Bool.true_and]
    split
    · rw [if_pos (by omega), if_pos (by omega)]; rfl
    · rfl
  · unfold parB
    rw [if_neg (by omega), Option.bind_some, if_neg (by simp), decide_eq_false h, Bool.false_and, if_neg (by simp)]
    rfl
/-- a name begins with no `rgb(`. -/
theorem nameP_off (s : ByteArray) (h : (B s).getD 3 0 = 40) : ∀ R : List S98, (∀ r ∈ R, r.f0.data.toList.getD 3 0 ≠ 40) → nameP s R = (0, 0, 0, false) := by
  intro R
  induction R with
  | nil => intro _; rfl
  | cons r R ih =>
    intro hR
    unfold nameP
    rw [if_neg (fun e => hR r (List.mem_cons_self ..) (by rw [(str_eq _ _).mp e]; exact h))]
    exact ih (fun r hr => hR r (List.mem_cons_of_mem _ hr))

/-! colpart -/
-- plain: Trim Evs Num
def partV (t : ByteArray) : Option Int := if (1 ≤ t.size ∧ t.size ≤ 3) ∧ digEnd (B t) 0 = t.size then some (min ((bytesOf t).foldl rcD 0) 255) else none
theorem rcP_ev (p : ByteArray) (hp : p.size ≤ 1048576) : Ev (fun k => rcP k p) (partV (trimP p)) := by
  have ht := trimP_size p
  have hl := B_len (trimP p)
  unfold rcP
  refine ev_bind0 (impl_trimmed_eq p hp) ?_
  generalize trimP p = t at ht hl ⊢
  refine ev_bind0 (impl_within_eq _ _ _) ?_
  unfold partV
  by_cases h : 1 ≤ t.size ∧ t.size ≤ 3
  · refine ev_if_pos (decide_eq_true (by omega)) ?_
    refine ev_bind (impl_digitsFrom_ev t (by omega) 0 (by omega)) ?_
    by_cases h2 : digEnd (B t) 0 = t.size
    · exact ev_r_pos ⟨h, h2⟩ (ev_if_pos (by rw [h2]) (Ev.now _))
    · exact ev_r_neg (fun hh => h2 hh.2) (ev_if_neg (by omega) (Ev.now _))
  · refine ev_r_neg (fun hh => h hh.1) (ev_if_neg ?_ (Ev.now _))
    rw [decide_eq_true_eq]
    omega
def restV : List ByteArray → List Int → Int × Int × Int × Bool
  | [], acc => if acc.length = 3 then (rd acc 0, rd acc 1, rd acc 2, true) else (0, 0, 0, false)
  | p :: ps, acc => match partV (trimP p) with
    | none => (0, 0, 0, false)
    | some v => restV ps (acc ++ [v])
theorem restV_off : ∀ (ps : List ByteArray) (acc : List Int), acc.length + ps.length ≠ 3 → restV ps acc = (0, 0, 0, false) := by
  intro ps
  induction ps with
  | nil => intro acc h; unfold restV; rw [if_neg (by simpa using h)]
  | cons p ps ih =>
    intro acc h
    unfold restV
    split
    · rfl
    · exact ih _ (by simp at h ⊢; omega)
theorem rcG_ev (p0 p1 p2 : ByteArray) (h0 : p0.size ≤ 1048576) (h1 : p1.size ≤ 1048576) (h2 : p2.size ≤ 1048576) : Ev (fun k => rcG k [p0, p1, p2] 3 0 0 0 0) (restV [p0, p1, p2] []) := by
  unfold rcG restV
  refine ev_bind (rcP_ev p0 h0) ?_
  cases partV (trimP p0) with
  | none => exact Ev.now _
  | some a =>
    show Ev (fun k => rcG k [p0, p1, p2] 2 1 a 0 0) _
    unfold rcG restV
    refine ev_bind (rcP_ev p1 h1) ?_
    cases partV (trimP p1) with
    | none => exact Ev.now _
    | some b =>
      show Ev (fun k => rcG k [p0, p1, p2] 1 2 a b 0) _
      unfold rcG restV
      refine ev_bind (rcP_ev p2 h2) ?_
      cases partV (trimP p2) with
      | none => exact Ev.now _
      | some c => exact Ev.now _

/-! colspec -/
-- plain: Trim Evs Num
theorem rcD_tk (xs : List Int) (j : Nat) (h : j < xs.length) : (xs.take (j + 1)).foldl rcD 0 = rcD ((xs.take j).foldl rcD 0) (rd xs (j : Int)) := by
  rw [List.take_add_one, List.getElem?_eq_getElem h, List.foldl_append]
  unfold rd
  rw [Int.toNat_natCast, List.getD_eq_getElem?_getD, List.getElem?_eq_getElem h]
  rfl
theorem l7_l1 (t : ByteArray) (ht : t.size ≤ 1048576) (acc : List Int) (ha : acc.length ≤ 2000000) (ps : List ByteArray) (n j : Int) (R : Int × Int × Int × Bool)
    (Hk : digEnd (B t) 0 = t.size → Ev (fun k => spec_l7Color.l0 k (acc ++ [min ((bytesOf t).foldl rcD 0) 255]) ps n (wrap64 (j + 1))) R) :
    Ev (fun k => spec_l7Color.l1 k acc t 0 0 ps n j) (if digEnd (B t) 0 = t.size then R else (0, 0, 0, false)) := by
  have hl := B_len t
  have hb : (bytesOf t).length = t.size := bytesOf_length t
  have hle := digEnd_le (B t) 0 (by omega)
  have key : ∀ m i : Nat, i + m = digEnd (B t) 0 → Ev (fun k => spec_l7Color.l1 k acc t (((bytesOf t).take i).foldl rcD 0) (i : Int) ps n j) (if digEnd (B t) 0 = t.size then R else (0, 0, 0, false)) := by
    intro m
    induction m with
    | zero =>
      intro i hi
      rw [Nat.add_zero] at hi
      subst hi
      refine Ev.step (fun k => spec_l7Color.l1.eq_2 ..) ?_
      by_cases h : digEnd (B t) 0 = t.size
      · refine ev_r_pos h (ev_if_neg (by omega) ?_)
        have Hk := Hk h
        rw [show (bytesOf t).take (digEnd (B t) 0) = bytesOf t from by rw [h, ← hb]; exact List.take_length]
        generalize (bytesOf t).foldl rcD 0 = V at Hk ⊢
        by_cases hv : V > 255
        · rw [show min V 255 = 255 by omega] at Hk
          exact ev_if_pos hv (ev_if_pos (by omega) Hk)
        · rw [show min V 255 = V by omega] at Hk
          exact ev_if_neg hv (ev_if_pos (by omega) Hk)
      · refine ev_r_neg h (ev_if_pos (by omega) (ev_if_pos (by omega) (ev_bind0 (spec_l1Digit_eq _) ?_)))
        have h2 := digEnd_stop (B t) 0 (by omega)
        rw [bt_U t _ (by omega)]
        unfold digU at h2
        rw [h2]
        exact ev_if_neg (by decide) (Ev.now _)
    | succ m ih =>
      intro i hi
      obtain ⟨h1, h2⟩ := digEnd_mem (B t) 0 i (by omega) (by omega)
      refine Ev.step (fun k => spec_l7Color.l1.eq_2 ..) (ev_if_pos (by omega) (ev_if_pos (by omega) (ev_bind0 (spec_l1Digit_eq _) ?_)))
      have hr := rcD_tk (bytesOf t) i (by omega)
      have hx : rd (bytesOf t) (i : Int) = bt t (i : Int) := by
        rw [bt_U t _ h1, rd_nat]; unfold bytesOf B; rw [List.getD_eq_getElem?_getD, List.getElem?_map, List.getD_eq_getElem?_getD]; unfold B at h1; rw [List.getElem?_eq_getElem h1]; rfl
      have hn := ih (i + 1) (by omega)
      rw [hr, hx] at hn
      rw [bt_U t _ h1] at hn ⊢
      unfold digU at h2
      rw [h2]
      refine ev_if_pos rfl ?_
      rw [wrap_id (x := (i : Int) + 1) (by omega) (by omega)]
      exact hn
  exact key (digEnd (B t) 0) 0 (by omega)
theorem l7_l0 (ps : List ByteArray) (hp : ∀ p ∈ ps, p.size ≤ 1048576) (hl : ps.length ≤ 1048577) : ∀ (m i : Nat) (acc : List Int), i + m = ps.length → acc.length = i → Ev (fun k => spec_l7Color.l0 k acc ps (ps.length : Int) (i : Int)) (restV (ps.drop i) acc) := by
  intro m
  induction m with
  | zero =>
    intro i acc hi ha
    rw [List.drop_of_length_le (by omega)]
    unfold restV
    refine Ev.step (fun k => spec_l7Color.l0.eq_2 ..) (ev_if_neg (by omega) ?_)
    by_cases h : acc.length = 3
    · exact ev_r_pos h (ev_if_pos (by omega) (ev_if_pos (by omega) (ev_if_pos (by omega) (ev_if_pos (by omega) (Ev.now _)))))
    · exact ev_r_neg h (ev_if_neg (by omega) (Ev.now _))
  | succ m ih =>
    intro i acc hi ha
    rw [drop_cons ps ByteArray.empty i (by omega)]
    unfold restV
    have hpi : (ps.getD i ByteArray.empty).size ≤ 1048576 := by
      rw [List.getD_eq_getElem?_getD, List.getElem?_eq_getElem (by omega)]; exact hp _ (List.getElem_mem ..)
    refine Ev.step (fun k => spec_l7Color.l0.eq_2 ..) (ev_if_pos (by omega) (ev_if_pos (by omega) (ev_if_pos (by omega) ?_)))
    rw [rdOf_nat]
    generalize ps.getD i ByteArray.empty = p at hpi ⊢
    refine ev_bind (spec_l5Trim_ev p hpi) ?_
    have ht := trimP_size p
    refine ev_bind0 (spec_l1In_eq _ _ _) ?_
    generalize trimP p = t at ht ⊢
    by_cases h : 1 ≤ t.size ∧ t.size ≤ 3
    · refine ev_if_pos (decide_eq_true (by omega)) ?_
      have key := l7_l1 t (by omega) acc (by omega) ps (ps.length : Int) (i : Int) (restV (ps.drop (i + 1)) (acc ++ [min ((bytesOf t).foldl rcD 0) 255])) (fun _ => by
        rw [wrap_id (x := (i : Int) + 1) (by omega) (by omega)]
        exact ih (i + 1) _ (by omega) (by rw [List.length_append, List.length_singleton, ha]))
      by_cases h2 : digEnd (B t) 0 = t.size
      · rw [if_pos h2] at key
        have e : partV t = some (min ((bytesOf t).foldl rcD 0) 255) := if_pos ⟨h, h2⟩
        rw [e]; exact key
      · rw [if_neg h2] at key
        have e : partV t = none := if_neg (fun hh => h2 hh.2)
        rw [e]; exact key
    · have e : partV t = none := if_neg (fun hh => h hh.1)
      rw [e]
      exact ev_if_neg (by rw [decide_eq_true_eq]; omega) (Ev.now _)

end Go.Proofs.YtooilehdljeepaaDoor.Pure
