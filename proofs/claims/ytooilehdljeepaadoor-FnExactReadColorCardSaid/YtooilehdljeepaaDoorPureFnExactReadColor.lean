/- ReadColor: the program's ReadColor answers as the reference's at every text; no condition. -/
import Derived.Test.YtooilehdljeepaaDoorPureFnExactReadColory2
import Derived.Test.YtooilehdljeepaaDoorPlain
import Derived.Test.YtooilehdljeepaaDoorEvs
import Derived.Test.YtooilehdljeepaaDoorStr
import Derived.Test.YtooilehdljeepaaDoorWord
import Derived.Test.YtooilehdljeepaaDoorTrim
import Derived.Test.YtooilehdljeepaaDoorCuts
import Derived.Test.YtooilehdljeepaaDoorDecl
import Derived.Test.YtooilehdljeepaaDoorNum
set_option linter.unusedVariables false
set_option linter.unusedSimpArgs false
namespace Go.Proofs.YtooilehdljeepaaDoor.Pure
open Go.RowKit Go.Proofs.YtooilehdljeepaaDoor.PFnExactReadColor Go.Proofs.YtooilehdljeepaaDoorW.PrintWords Go.Proofs.YtooilehdljeepaaDoorW.PrintLast Go.Proofs.YtooilehdljeepaaDoorW.PrintMore Go.Proofs.YtooilehdljeepaaDoor.Plain

-- plain: Evs Word Trim Str Decl Num Cuts
theorem color_eta (x : Int × Int × Int × Bool) : (x.1, x.2.1, x.2.2.1, x.2.2.2) = x := rfl
/-- a text that begins with `#`. -/
theorem color_hash (p : ByteArray) (hp : p.size ≤ 600) (h1 : 1 ≤ p.size) : Ev (fun k => spec_l7Color.j0 k p true) (hashL (B (p.extract 1 p.size)) []) := by
  refine Ev.step (fun k => spec_l7Color.j0.eq_2 ..) (ev_if_pos rfl (ev_if_pos (by omega) ?_))
  have hz : (p.extract 1 p.size).size ≤ 1048576 := by rw [ByteArray.size_extract]; omega
  refine ev_bind (spec_l7Hash_ev _ hz) ?_
  exact Ev.now _
theorem color_name (p : ByteArray) (hp : p.size ≤ 600) : ∃ r, Ev (fun k => spec_l7Color.j1 k p true) r ∧ Ev (fun k => (impl_lower.f p).bind fun l => impl_colorOf.f k l) r ∧ ((B p).getD 3 0 = 40 → r = (0, 0, 0, false)) := by
  obtain ⟨R, hf, hg, hR, hoff⟩ := color_rows
  refine ⟨nameP (lowB p) R, ?_, ?_, ?_⟩
  · refine Ev.step (fun k => spec_l7Color.j1.eq_2 ..) (ev_if_pos rfl ?_)
    have key := named_l0 p (by omega) R hR R.length 0 (by omega)
    rw [List.drop_zero] at key
    refine ev_bind (a := nameP (lowB p) R) ?_ (Ev.now _)
    simp only [hg]
    exact key
  · refine ev_bind0 (a := lowB p) (by unfold impl_lower.f; rw [if_pos (by omega)]) ?_
    have key := colorOf_l0 (lowB p) R hR R.length 0 (by omega)
    rw [List.drop_zero] at key
    simp only [hf]
    exact key
  · intro h
    refine nameP_off _ ?_ R hoff
    rw [B_lowB, List.getD_eq_getElem?_getD, List.getElem?_map]
    rw [List.getD_eq_getElem?_getD] at h
    cases hx : (B p)[3]? with
    | none => rw [hx] at h; simp at h
    | some y => rw [hx] at h; simp only [Option.getD_some] at h; subst h; rfl
theorem color_parts (q : ByteArray) (hq : q.size ≤ 600) (ps : List ByteArray) (hps : ps = (splitL 44 (B q)).map ofL) (hsz : ∀ p ∈ ps, p.size ≤ 1048576) (hlen : ps.length ≤ 1048577) :
    Ev (fun k => (spec_l1Split.f k q 44).bind fun t => spec_l7Color.l0 k ([] : List Int) t (t.length : Int) 0) (restV ps []) ∧ Ev (fun k => (strings_Split.f q ⟨#[44]⟩).bind fun t => if (t.length : Int) = 3 then rcG k t 3 0 0 0 0 else some (0, 0, 0, false)) (restV ps []) := by
  constructor
  · refine ev_bind (a := ps) (by rw [hps]; exact spec_l1Split_ev q (by omega) 44) ?_
    have key := l7_l0 ps hsz hlen ps.length 0 [] (by omega) rfl
    rw [List.drop_zero] at key
    exact key
  · refine ev_bind0 (a := ps) (by rw [hps]; exact strings_Split_one q (by omega) 44) ?_
    by_cases h3 : (ps.length : Int) = 3
    · refine ev_if_pos h3 ?_
      match ps, h3, hsz with
      | [p0, p1, p2], _, hsz => exact rcG_ev p0 p1 p2 (hsz _ (by simp)) (hsz _ (by simp)) (hsz _ (by simp))
      | [], h3, _ => simp at h3
      | [_], h3, _ => simp at h3
      | [_, _], h3, _ => simp at h3
      | _ :: _ :: _ :: _ :: _, h3, _ => simp at h3; omega
    · rw [restV_off ps [] (by simp; omega)]
      exact ev_if_neg h3 (Ev.now _)
theorem color_cut (q : ByteArray) (hq : q.size ≤ 600) :
    Ev (fun k => (spec_l1Split.f k q 44).bind fun t => spec_l7Color.l0 k ([] : List Int) t (t.length : Int) 0) (restV ((splitL 44 (B q)).map ofL) []) ∧ Ev (fun k => (strings_Split.f q ⟨#[44]⟩).bind fun t => if (t.length : Int) = 3 then rcG k t 3 0 0 0 0 else some (0, 0, 0, false)) (restV ((splitL 44 (B q)).map ofL) []) := by
  have hl := splitL_len 44 (B q)
  have hb := B_len q
  refine color_parts q hq _ rfl (fun p hp => ?_) (by rw [List.length_map]; omega)
  obtain ⟨x, hx, rfl⟩ := List.mem_map.mp hp
  have := hl.2 x hx
  rw [← B_len, B_ofL]
  omega
theorem color_rgb (p : ByteArray) (hp : p.size ≤ 600) (l : List UInt8) (h4 : B p = 114 :: 103 :: 98 :: 40 :: l) : ∃ r, Ev (fun k => spec_l7Color.j0 k p false) r ∧ Ev (fun k => (strings_CutSuffix.f (p.extract 4 p.size) ⟨#[41]⟩).bind fun c3 => (strings_Split.f c3.1 ⟨#[44]⟩).bind fun ps => if c3.2 = true then (if (ps.length : Int) = 3 then rcG k ps 3 0 0 0 0 else some (0, 0, 0, false)) else some (0, 0, 0, false)) r := by
  have hb := B_len p
  have hl : p.size = l.length + 4 := by rw [h4] at hb; simp at hb; omega
  have hq : B (p.extract 4 p.size) = l := by rw [B_extract, h4, hl]; simp
  have hqs : (p.extract 4 p.size).size = l.length := by rw [← B_len, hq]
  obtain ⟨rn, n1, n2, n3⟩ := color_name p hp
  have n3 := n3 (by rw [h4]; rfl)
  subst n3
  have hsuf := strings_CutSuffix_par (p.extract 4 p.size) (by omega)
  by_cases hpar : parB (p.extract 4 p.size) = true
  · have g2 := hpar
    unfold parB at g2
    rw [Bool.and_eq_true, decide_eq_true_eq, beq_iff_eq, toList_B, B_extract, hq, hqs] at g2
    obtain ⟨g1, g2⟩ := g2
    have gl : l.getD (l.length - 1) 0 = 41 := by
      rw [drop_cons l 0 (l.length - 1) (by omega), show l.length - (l.length - 1) = 1 by omega, List.take_succ_cons] at g2
      exact (List.cons.inj g2).1
    have hw : ∀ _ : Unit, wrap64 ((p.size : Int) - 1) = ((p.size - 1 : Nat) : Int) := fun _ => by rw [wrap_id (by omega) (by omega)]; omega
    have hbt : ∀ _ : Unit, bt p ((p.size - 1 : Nat) : Int) = ((l.getD (l.length - 1) 0).toNat : Int) := fun _ => by
      rw [bt_U p _ (by omega), h4, show p.size - 1 = (l.length - 1) + 1 + 1 + 1 + 1 by omega]
      rfl
    have hex : (p.extract 4 p.size).extract 0 ((p.extract 4 p.size).size - 1) = p.extract 4 (p.size - 1) := by
      refine B_ext ?_
      rw [B_extract, hq, hqs, B_extract, h4, show p.size - 1 - 4 = l.length - 1 by omega]
      rfl
    obtain ⟨cA, cB⟩ := color_cut (p.extract 4 (p.size - 1)) (by rw [ByteArray.size_extract]; omega)
    refine ⟨restV ((splitL 44 (B (p.extract 4 (p.size - 1)))).map ofL) [], ?_, ?_⟩
    · refine Ev.step (fun k => spec_l7Color.j0.eq_2 ..) ?_
      rw [hw ()]
      refine ev_if_neg (by decide) (ev_if_neg (by omega) (ev_if_pos (by omega) (ev_if_pos ?_ (ev_if_pos (by omega) (ev_if_pos (by omega) ?_)))))
      · rw [toList_B, B_extract, h4]; rfl
      · rw [hbt (), gl]
        refine Ev.step (fun k => spec_l7Color.j1.eq_2 ..) ?_
        rw [hw ()]
        refine ev_if_neg (by decide) (ev_if_pos (by omega) (ev_if_pos (by omega) ?_))
        rw [Int.toNat_natCast]
        exact cA
    · rw [if_pos hpar, hex] at hsuf
      refine ev_bind0 hsuf ?_
      simp only [↓reduceIte]
      exact cB
  · refine ⟨(0, 0, 0, false), ?_, ?_⟩
    · refine Ev.step (fun k => spec_l7Color.j0.eq_2 ..) (ev_if_neg (by decide) ?_)
      by_cases h5 : (p.size : Int) < 5
      · exact ev_if_pos h5 n1
      have hw : ∀ _ : Unit, wrap64 ((p.size : Int) - 1) = ((p.size - 1 : Nat) : Int) := fun _ => by rw [wrap_id (by omega) (by omega)]; omega
      have hbt : ∀ _ : Unit, bt p ((p.size - 1 : Nat) : Int) = ((l.getD (l.length - 1) 0).toNat : Int) := fun _ => by
        rw [bt_U p _ (by omega), h4, show p.size - 1 = (l.length - 1) + 1 + 1 + 1 + 1 by omega]
        rfl
      have gl : ((((l.getD (l.length - 1) 0).toNat : Int)) != 41) = true := by
        rw [bne_iff_ne]
        intro e
        refine hpar ?_
        unfold parB
        rw [Bool.and_eq_true, decide_eq_true_eq, beq_iff_eq, toList_B, B_extract, hq, hqs, drop_cons l 0 (l.length - 1) (by omega), show l.length - (l.length - 1) = 1 by omega, List.take_succ_cons]
        exact ⟨by omega, by rw [(u8_nat (n := 41) (by omega)).mp e]; rfl⟩
      rw [hw ()]
      refine ev_if_neg h5 (ev_if_pos (by omega) (ev_if_pos ?_ (ev_if_pos (by omega) (ev_if_pos (by omega) ?_))))
      · rw [toList_B, B_extract, h4]; rfl
      · rw [hbt (), gl]
        exact n1
    · rw [if_neg hpar] at hsuf
      refine ev_bind0 hsuf (ev_bind0 (strings_Split_one (p.extract 4 p.size) (by omega) 44) (ev_if_neg Bool.false_ne_true (Ev.now _)))
theorem color_plain (p : ByteArray) (hp : p.size ≤ 600) (h : ¬ ([114, 103, 98, 40] : List UInt8) <+: B p) (r : Int × Int × Int × Bool) (n1 : Ev (fun k => spec_l7Color.j1 k p true) r) : Ev (fun k => spec_l7Color.j0 k p false) r := by
  refine Ev.step (fun k => spec_l7Color.j0.eq_2 ..) (ev_if_neg (by decide) ?_)
  by_cases h5 : (p.size : Int) < 5
  · exact ev_if_pos h5 n1
  · refine ev_if_neg h5 (ev_if_pos (by omega) (ev_if_neg ?_ n1))
    intro e
    rw [toList_B, B_extract] at e
    have e2 : (B p).take 4 = [114, 103, 98, 40] := e
    exact h (e2 ▸ List.take_prefix 4 (B p))
theorem color_main (p : ByteArray) (hp : p.size ≤ 600) : ∃ r, Ev (fun k => if (p.size : Int) > 0 then (if 0 < (p.size : Int) then (spec_l7Color.j0 k p ((bt p 0) == 35)) else (none)) else (spec_l7Color.j0 k p false)) r ∧ Ev (fun k => (strings_CutPrefix.f p ⟨#[35]⟩).bind fun c1 => if c1.2 = true then impl_hexColor.f k c1.1 else (strings_CutPrefix.f p ⟨#[114, 103, 98, 40]⟩).bind fun c2 => if c2.2 = true then (strings_CutSuffix.f c2.1 ⟨#[41]⟩).bind fun c3 => (strings_Split.f c3.1 ⟨#[44]⟩).bind fun ps => if c3.2 = true then (if (ps.length : Int) = 3 then rcG k ps 3 0 0 0 0 else some (0, 0, 0, false)) else some (0, 0, 0, false) else (impl_lower.f p).bind fun l => impl_colorOf.f k l) r := by
  have hb := B_len p
  have e35 : B (⟨#[35]⟩ : ByteArray) = [35] := rfl
  have e4 : B (⟨#[114, 103, 98, 40]⟩ : ByteArray) = [114, 103, 98, 40] := rfl
  by_cases h35 : ([35] : List UInt8) <+: B p
  · obtain ⟨l, hl⟩ := h35
    have hl : B p = 35 :: l := hl.symm
    have hz : p.size = l.length + 1 := by rw [hl] at hb; simp at hb; omega
    have hc : strings_CutPrefix.f p ⟨#[35]⟩ = some (p.extract 1 p.size, true) := by
      rw [strings_CutPrefix_eq]; unfold cutPrefix; rw [e35, if_pos ⟨l, hl.symm⟩]; rfl
    have h0 : bt p 0 = 35 := by
      have := bt_U p 0 (by omega)
      rw [hl] at this
      exact this
    refine ⟨hashL (B (p.extract 1 p.size)) [], ev_if_pos (by omega) (ev_if_pos (by omega) ?_), ev_bind0 hc (ev_if_pos rfl (impl_hexColor_ev _))⟩
    rw [h0]
    exact color_hash p hp (by omega)
  have hc : strings_CutPrefix.f p ⟨#[35]⟩ = some (p, false) := by
    rw [strings_CutPrefix_eq]; unfold cutPrefix; rw [e35, if_neg h35]
  have j0 : ∀ r, Ev (fun k => spec_l7Color.j0 k p false) r → Ev (fun k => if (p.size : Int) > 0 then (if 0 < (p.size : Int) then (spec_l7Color.j0 k p ((bt p 0) == 35)) else (none)) else (spec_l7Color.j0 k p false)) r := by
    intro r hr
    by_cases h0 : (p.size : Int) > 0
    · refine ev_if_pos h0 (ev_if_pos h0 ?_)
      have h1 : (bt p 0 == 35) = false := by
        rw [beq_eq_false_iff_ne]
        intro e
        refine h35 ?_
        have e0 := bt_U p 0 (by omega)
        rw [show ((0 : Nat) : Int) = 0 from rfl, e] at e0
        have e1 := (u8_nat (n := 35) (by omega)).mp e0.symm
        have e2 := drop_cons (B p) 0 0 (by omega)
        rw [List.drop_zero, e1] at e2
        exact ⟨_, e2.symm⟩
      rw [h1]
      exact hr
    · exact ev_if_neg h0 hr
  by_cases h4 : ([114, 103, 98, 40] : List UInt8) <+: B p
  · have hc2 : strings_CutPrefix.f p ⟨#[114, 103, 98, 40]⟩ = some (p.extract 4 p.size, true) := by
      rw [strings_CutPrefix_eq]; unfold cutPrefix; rw [e4, if_pos h4]; rfl
    obtain ⟨l, hl⟩ := h4
    obtain ⟨r, a1, a2⟩ := color_rgb p hp l hl.symm
    exact ⟨r, j0 r a1, ev_bind0 hc (ev_if_neg Bool.false_ne_true (ev_bind0 hc2 (ev_if_pos rfl a2)))⟩
  · have hc2 : strings_CutPrefix.f p ⟨#[114, 103, 98, 40]⟩ = some (p, false) := by
      rw [strings_CutPrefix_eq]; unfold cutPrefix; rw [e4, if_neg h4]
    obtain ⟨r, a1, a2, _⟩ := color_name p hp
    exact ⟨r, j0 r (color_plain p hp h4 r a1), ev_bind0 hc (ev_if_neg Bool.false_ne_true (ev_bind0 hc2 (ev_if_neg Bool.false_ne_true a2)))⟩
theorem FnExactReadColor : laws_FnExactReadColor.Pure := by
  intro s hs
  by_cases hlen : (s.size : Int) > 1048576
  · exact ⟨0, by unfold laws_FnExactReadColor.f; rw [if_pos hlen]⟩
  have main : ∃ r, Ev (fun k => spec_ReadColor.f k s) r ∧ Ev (fun k => impl_ReadColor.f k s) r := by
    simp only [spec_ReadColor.f, impl_ReadColor.f]
    by_cases h6 : (s.size : Int) > 600
    · exact ⟨(0, 0, 0, false), ev_if_pos h6 (Ev.now _), ev_if_pos h6 (Ev.now _)⟩
    have ht := trimP_size s
    have htr := spec_l5Trim_ev s (by omega)
    have him := impl_trimmed_eq s (by omega)
    generalize trimP s = p at ht htr him
    obtain ⟨r, a1, a2⟩ := color_main p (by omega)
    have a3 : Ev (fun k => spec_l7Color.f k s) r := by
      simp only [spec_l7Color.f]
      exact ev_bind htr a1
    exact ⟨r, ev_if_neg h6 (ev_bind a3 (Ev.now _)), ev_if_neg h6 (ev_bind0 him a2)⟩
  obtain ⟨⟨r0, r1, r2, b⟩, h1, h2⟩ := main
  refine Ev.rounds ?_
  simp only [laws_FnExactReadColor.f]
  refine ev_if_neg hlen (ev_bind h1 (ev_bind h2 (ev_bind0 (a := true) (by unfold laws_eqColor.f; rw [if_pos rfl, if_pos rfl, if_pos rfl]) (ev_if_pos rfl (ev_if_neg (by simp) (Ev.now true))))))

end Go.Proofs.YtooilehdljeepaaDoor.Pure
