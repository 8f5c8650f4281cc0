/- The row of FnExactMarksText: for every input the law returns true and each argument reads as it did; no condition. -/
import Derived.Test.YthfbpmjcjiihnaaGreatDoorRows
import Derived.Test.YthfbpmjcjiihnaaGreatDoorCards
import Derived.Test.YthfbpmjcjiihnaaGreatDoorTie
import Derived.Lay
import Derived.LaidOnce
import Derived.SevenTiedAt
import Derived.Test.YthfbpmjcjiihnaaGreatDoorPFnExactMarksTextx14
import Derived.Test.YthfbpmjcjiihnaaGreatDoorPureFnExactMarksText
import Derived.Lib.LaidU8
import Derived.WalkKit
import Derived.ProofKit
import Derived.OpenShut
import Derived.ShutString
import Derived.ChangeOld
import Derived.Below
import Derived.SizedLaws
import Derived.Lib.SmallJoins
import Derived.Deep.Slices
import Derived.Deep.Fields
import Derived.Test.YthfbpmjcjiihnaaGreatDoorWSized
import Derived.Test.YthfbpmjcjiihnaaGreatDoorOpen
namespace Go.Proofs.YthfbpmjcjiihnaaGreatDoor.RowFnExactMarksText
open Go.ChangeShapes Go.WideShapes Go.ChangeAt Go.RowKit Go.Joins Go.Deep
open Go.ChangeMaps (open_string shut_string)
open Go.Proofs.YthfbpmjcjiihnaaGreatDoorW.PrintWords
open Go.Proofs.YthfbpmjcjiihnaaGreatDoor.Open Go.Proofs.YthfbpmjcjiihnaaGreatDoor.PFnExactMarksText
set_option linter.unusedVariables false
set_option linter.unusedSimpArgs false
def laidU : List (String × DataW Unit) := [("unicode/utf8.acceptRanges", Rows.laid_unicode_utf8_acceptRanges), ("unicode/utf8.first", Rows.laid_unicode_utf8_first)]
theorem own : ownKnob Tryz.prog.godebug = none := by kernel_rfl
theorem laidOut : laidOutB Tryz.prog = true := by kernel_rfl
set_option maxRecDepth 100000 in
theorem lifted (os : Os) (started : os.Started) (H : Type) (enc : TypeId × Value → H) :
    ReturnsInHanded {} Tryz.checked os 3 .any (fun w args => (Rows.fnExactMarksTextSpec.pre enc Tryz.prog Tryz.f3 [] false w args ∧ laidMetH Tryz.prog laidU w) ∧ sizedMet enc Tryz.prog Tryz.f3 (OpenSpec.ofChange Rows.fnExactMarksTextSpec) false w args) (Rows.fnExactMarksTextSpec.post enc Tryz.prog Tryz.f3 false true false false) := by
  refine returnsInHanded_of_change_and (C := Tryz.checked) (X := fun w _ => laidMetH Tryz.prog laidU w) (fun _ _ _ hh h => h.of_heap hh) own started (by kernel_rfl) Tryz.func3
    (ChangeSpec.witness_shaped (enc := enc) (C := Tryz.checked) (os := os) (X := fun w _ => laidMetH Tryz.prog laidU w) false (World.laidAll Tryz.prog os laidU) #[.slice none 0 0] 8 (World.laidAll_os _ _ _) (World.shaped_of_ZipB (by kernel_rfl) (by kernel_rfl)) (by kernel_rfl) (by kernel_rfl) (by kernel_rfl) (by rw [MakeChecks.laidMetH_plain _ _ _ (by kernel_rfl)]; exact laidMet_laidAll _ (by kernel_rfl) (by kernel_rfl))) ?_
  intro W base args ds gs before hval0 hW hcnd hsz0 hL _
  have hsz : (DataW.weightsEach Tryz.prog (Tryz.f3.params.toList ++ Rows.fnExactMarksTextSpec.plain.varTypes Tryz.prog) (ds ++ gs)).all (· ≤ reachBytes) = true := hsz0
  have hval : ∀ (j : Nat) t v, Tryz.f3.params[j]? = some t → args[j]? = some v → Value.okWide Tryz.prog W .any base t v := hval0
  have hW' := hW
  obtain ⟨p, q, hA0, hV, rfl, hfz, hnd⟩ := hW
  have hA : DataW.TrodAll enc Tryz.prog W 0 (fun _ => true) true Tryz.f3.params.toList args.toList ds p := hA0
  rw [Tryz.params3] at hA hval hsz
  obtain ⟨v0, vs0, d0, ds0, p0, q0, hargs, rfl, rfl, h0, r0⟩ := trodAll_cons hA
  obtain ⟨rfl, rfl, rfl⟩ := trodAll_nil r0
  obtain rfl : args = #[v0] := by cases args; simp_all
  obtain ⟨rfl, rfl⟩ := trodVars_none hV
  have k0 := h0
  have lt0 : ∀ x ∈ p0, x.block < W.heap.size := by obtain ⟨m, hm⟩ := k0; exact DataW.trod_lt m _ _ _ hm
  obtain ⟨a0, len0, cap0, rfl⟩ := okWide_slice Tryz.underlying22 (hval 0 22 v0 rfl rfl)
  obtain ⟨fuel0, hf0⟩ := h0
  obtain ⟨l0, ⟨A0, c0, e0, hc0, hr0⟩, g0⟩ := (opens_slice Tryz.underlying22 (by kernel_rfl) (opens_iso (f := fun x : S33 => (x.f0, x.f1, x.f2, x.f3)) (fun p => (⟨p.1, p.2.1, p.2.2.1, p.2.2.2⟩ : S33)) (fun _ => rfl) (opens_four Tryz.underlying33 (by kernel_rfl) (by kernel_rfl) (opens_string Tryz.underlying9) (opens_int Tryz.underlying3) (opens_slice Tryz.underlying31 (by kernel_rfl) (opens_iso (f := fun x : S56 => (x.f0, x.f1)) (fun p => (⟨p.1, p.2⟩ : S56)) (fun _ => rfl) (opens_two Tryz.underlying56 (by kernel_rfl) (by kernel_rfl) (opens_string Tryz.underlying9) (opens_string Tryz.underlying9)))) (opens_string Tryz.underlying9)))) _ _ _ hf0
  simp only [Value.cells, List.cons.injEq, and_true, Value.slice.injEq] at e0
  obtain ⟨rfl, rfl, rfl⟩ := e0
  clear hA0 hval0 hsz0 hsz
  obtain ⟨k, hk⟩ := Pure.FnExactMarksText l0 g0
  have hM : laidMet Tryz.prog laidU W := by
    have h := hL
    rw [MakeChecks.laidMetH_plain _ _ _ (by kernel_rfl)] at h
    exact h
  have hX : Go.Proofs.U8Extra Tryz.prog PFnExactMarksText.laid197_ren_ := ⟨by kernel_rfl, by kernel_rfl, by kernel_rfl, by kernel_rfl, by kernel_rfl, by kernel_rfl, by kernel_rfl⟩
  have hd1 : Rows.laid_unicode_utf8_first = Go.Lib.firstData := by kernel_rfl
  have hd2 : Rows.laid_unicode_utf8_acceptRanges = Go.Lib.acceptData := by kernel_rfl
  have hT : PFnExactMarksText.U8Tabs_ W := Go.Proofs.utf8Tabs_of_reads PFnExactMarksText.laid260_ hX (hd1 ▸ Go.Lib.laidMet.reads hM (n := "unicode/utf8.first") (d := Rows.laid_unicode_utf8_first) (by simp [laidU])) (hd2 ▸ Go.Lib.laidMet.reads hM (n := "unicode/utf8.acceptRanges") (d := Rows.laid_unicode_utf8_acceptRanges) (by simp [laidU]))
  refine (PFnExactMarksText.laws_FnExactMarksText.calls k _ _ l0 true W hr0 hc0 hk hT).mono fun e W' ⟨he, bel⟩ => ?_
  subst he
  exact ⟨_, rfl, _, _, _, [], _, [], hW', trodAll_mk1 (shut_bool Tryz.underlying4 _), (trodAll_cons_mk (Below.trod laidOut (by kernel_rfl) (of_decide_eq_true (by kernel_rfl)) k0 bel lt0) trodAll_mk0), rfl, bel.frame _, fun h => by cases h⟩
theorem over : Rows.fnExactMarksTextRow.holds Tryz.pinned (OpenSpec.ofChange Rows.fnExactMarksTextSpec) :=
  OpenClaim.holds_of_wide 3 Tryz.f3 rfl rfl rfl rfl rfl rfl rfl ⟨rfl, rfl, rfl, rfl, rfl⟩ rfl rfl rfl rfl rfl (by kernel_rfl) Tryz.func3 (by kernel_rfl)
    (of_decide_eq_true (by kernel_rfl)) (by unfold Func.isWrapper; first | (rw [if_pos (by decide +kernel)]; kernel_rfl) | (rw [if_neg (by decide +kernel)]; exact ⟨rfl, rfl⟩))
    (fun os started H enc _ => lifted os started H enc)
end Go.Proofs.YthfbpmjcjiihnaaGreatDoor.RowFnExactMarksText
namespace Go.Proofs.YthfbpmjcjiihnaaGreatDoor
/-- The row. -/
theorem fnExactMarksText_card : Rows.FnExactMarksTextCardSaid :=
  Claim7.holds_tied_plain_at .later [] [.data, .pinned] true (true, "372dcba0bfdc813fcb694b33959b2a907349f295ebaf193944a46010a790919b") true RowFnExactMarksText.over (fun _ h => by cases h) (by kernel_rfl) (fun _ h => by cases h) fnExactMarksText_row_tie rfl ⟨rfl, rfl⟩ (by kernel_rfl) rfl
    (fun f fn hf hfn => by
      obtain rfl : f = 3 := Option.some.inj ((show Tryz.prog.funcNamed "loop.example/g00137/laws.FnExactMarksText" = some 3 by kernel_rfl).symm.trans hf) |>.symm
      obtain rfl : fn = Tryz.f3 := (Option.some.inj (Tryz.func3.symm.trans hfn)).symm
      exact ⟨by kernel_rfl, fun j t ht => by
        rw [Tryz.params3] at ht
        have hm : t ∈ [22] := by simpa using Array.mem_of_getElem? ht
        have hall : ([22].all fun u => !Tryz.prog.wantsStandIn u) = true := by kernel_rfl
        exact (show Tryz.prog.wantsStandIn t = false by simpa using List.all_eq_true.1 hall t hm)⟩)
    (by kernel_rfl)
#print axioms fnExactMarksText_card
end Go.Proofs.YthfbpmjcjiihnaaGreatDoor
