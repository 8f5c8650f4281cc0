/- The row of FnExactHrefOf: for every input the law returns true and each argument reads as it did; no condition. -/
import Derived.Test.YtnebkjhomelibaaRows
import Derived.Test.YtnebkjhomelibaaPFnExactHrefOfx3
import Derived.Test.YtnebkjhomelibaaPureFnExactHrefOf
import Derived.WalkKit
import Derived.ProofKit
import Derived.OpenShut
import Derived.ShutString
import Derived.ChangeOld
import Derived.Below
import Derived.SizedLaws
import Derived.Lib.SmallJoins
import Derived.Deep.Slices
import Derived.Deep.Fields
import Derived.Test.YtnebkjhomelibaaWSized
import Derived.Test.YtnebkjhomelibaaOpen
namespace Go.Proofs.Ytnebkjhomelibaa.RowFnExactHrefOf
open Go.ChangeShapes Go.WideShapes Go.ChangeAt Go.RowKit Go.Joins Go.Deep
open Go.ChangeMaps (open_string shut_string)
open Go.Proofs.YtnebkjhomelibaaW.PrintWords
open Go.Proofs.Ytnebkjhomelibaa.Open Go.Proofs.Ytnebkjhomelibaa.PFnExactHrefOf
set_option linter.unusedVariables false
set_option linter.unusedSimpArgs false
theorem own : ownKnob Try.prog.godebug = none := by kernel_rfl
theorem laidOut : laidOutB Try.prog = true := by kernel_rfl
set_option maxRecDepth 100000 in
theorem lifted (os : Os) (started : os.Started) (H : Type) (enc : TypeId × Value → H) :
    ReturnsInHanded {} Try.checked os 4 .any (Rows.fnExactHrefOfSpec.pre6 enc Try.prog Try.f4 Rows.fnExactHrefOfRow.domain false) (Rows.fnExactHrefOfSpec.post enc Try.prog Try.f4 false true false false) := by
  refine returnsInHanded_of_change_sized (C := Try.checked) own started (by kernel_rfl) Try.func4
    (ChangeSpec.witness6 (enc := enc) (C := Try.checked) false ⟨#[], #[.agg #[.string ⟨#[]⟩, .int .i64 0, .slice none 0 0, .string ⟨#[]⟩]], []⟩ 8 (by kernel_rfl) (by kernel_rfl) (by kernel_rfl) (by kernel_rfl)) ?_
  intro W base args ds gs before hval0 hW hcnd hsz0 _
  have hsz : (DataW.weightsEach Try.prog (Try.f4.params.toList ++ Rows.fnExactHrefOfSpec.plain.varTypes Try.prog) (ds ++ gs)).all (· ≤ reachBytes) = true := hsz0
  have hval : ∀ (j : Nat) t v, Try.f4.params[j]? = some t → args[j]? = some v → Value.okWide Try.prog W .any base t v := hval0
  have hW' := hW
  obtain ⟨p, q, hA0, hV, rfl, hfz, hnd⟩ := hW
  have hA : DataW.TrodAll enc Try.prog W 0 (fun _ => true) true Try.f4.params.toList args.toList ds p := hA0
  rw [Try.params4] at hA hval hsz
  obtain ⟨v0, vs0, d0, ds0, p0, q0, hargs, rfl, rfl, h0, r0⟩ := trodAll_cons hA
  obtain ⟨rfl, rfl, rfl⟩ := trodAll_nil r0
  obtain rfl : args = #[v0] := by cases args; simp_all
  obtain ⟨rfl, rfl⟩ := trodVars_none hV
  have k0 := h0
  have lt0 : ∀ x ∈ p0, x.block < W.heap.size := by obtain ⟨m, hm⟩ := k0; exact DataW.trod_lt m _ _ _ hm
  obtain ⟨cs0, rfl, hz0⟩ := okWide_struct Try.underlying24 (hval 0 24 v0 rfl rfl)
  obtain ⟨fuel0, hf0⟩ := h0
  obtain ⟨⟨b0_0, b0_1, b0_2, b0_3⟩, hK0, g0⟩ := (opens_four Try.underlying24 (by kernel_rfl) (by kernel_rfl) (opens_string Try.underlying9) (opens_int Try.underlying3) (opens_slice Try.underlying22 (by kernel_rfl) (opens_iso (f := fun x : S43 => (x.f0, x.f1)) (fun p => (⟨p.1, p.2⟩ : S43)) (fun _ => rfl) (opens_two Try.underlying43 (by kernel_rfl) (by kernel_rfl) (opens_string Try.underlying9) (opens_string Try.underlying9)))) (opens_string Try.underlying9)) _ _ _ hf0
  obtain ⟨_, _, e0_0, rfl, _, _, e0_1, rfl, _, _, e0_2, ⟨A0_2, c0_2, rfl, hc0_2, hr0_2⟩, rfl⟩ := hK0
  subst e0_2
  subst e0_1
  obtain rfl : cs0 = #[.string b0_0, .int .i64 b0_1, .slice A0_2 b0_2.length c0_2, .string b0_3] := Array.toList_inj.1 (by simpa [Value.cells] using e0_0)
  clear hA0 hval0 hsz0 hsz
  obtain ⟨k, hk⟩ := Pure.FnExactHrefOf b0_0 b0_1 b0_2 b0_3 g0
  refine (PFnExactHrefOf.laws_FnExactHrefOf.calls k b0_0 b0_1 A0_2 c0_2 b0_2 b0_3 true W hr0_2 hc0_2 hk).mono fun e W' ⟨he, bel⟩ => ?_
  subst he
  exact ⟨_, rfl, _, _, _, [], _, [], hW', trodAll_mk1 (shut_bool Try.underlying4 _), (trodAll_cons_mk (Below.trod laidOut (by kernel_rfl) (of_decide_eq_true (by kernel_rfl)) k0 bel lt0) trodAll_mk0), rfl, bel.frame _, fun h => by cases h⟩
theorem over : Rows.fnExactHrefOfRow.holds Try.pinned (OpenSpec.ofChange Rows.fnExactHrefOfSpec) :=
  OpenClaim.holds_of_wide 4 Try.f4 rfl rfl rfl rfl rfl rfl rfl ⟨rfl, rfl, rfl, rfl, rfl⟩ rfl rfl rfl rfl rfl (by kernel_rfl) Try.func4 (by kernel_rfl)
    (of_decide_eq_true (by kernel_rfl)) (by unfold Func.isWrapper; first | (rw [if_pos (by decide +kernel)]; kernel_rfl) | (rw [if_neg (by decide +kernel)]; exact ⟨rfl, rfl⟩))
    (fun os started H enc _ => lifted os started H enc)
end Go.Proofs.Ytnebkjhomelibaa.RowFnExactHrefOf
namespace Go.Proofs.Ytnebkjhomelibaa
/-- The row. -/
theorem fnExactHrefOf_row : Rows.FnExactHrefOfSaid := RowFnExactHrefOf.over
#print axioms fnExactHrefOf_row
end Go.Proofs.Ytnebkjhomelibaa
