/- The row of FnExactCutAt: its arguments opened, the printed contract of the law, and the pure statement. -/
import Derived.Test.YtlnmiafahjddhadRows
import Derived.Test.YtlnmiafahjddhadPFnExactCutAtx11
import Derived.Test.YtlnmiafahjddhadPureFnExactCutAt
import Derived.Test.YtlnmiafahjddhadOpens
import Derived.WalkKit
import Derived.ProofKit
import Derived.OpenShut
import Derived.ShutString
import Derived.ChangeOld
import Derived.Below
import Derived.SizedLaws
import Derived.Carry
namespace Go.Proofs.Ytlnmiafahjddhad.fnExactCutAt
open Go.ChangeShapes Go.WideShapes Go.ChangeAt Go.RowKit Go.Proofs.YtlnmiafahjddhadW.PrintWords Go.Proofs.Ytlnmiafahjddhad.Opens
open Go.ChangeMaps (open_string shut_string)
set_option linter.unusedVariables false
theorem own : ownKnob Try.prog.godebug = none := by kernel_rfl
theorem laidOut : laidOutB Try.prog = true := by kernel_rfl
set_option maxRecDepth 100000 in
theorem lifted (os : Os) (started : os.Started) (H : Type) (enc : TypeId × Value → H) :
    ReturnsInHanded {} Try.checked os 6 .any (Rows.fnExactCutAtSpec.pre6 enc Try.prog Try.f6 Rows.fnExactCutAtRow.domain false) (Rows.fnExactCutAtSpec.post enc Try.prog Try.f6 false true false false) := by
  refine returnsInHanded_of_change_sized (C := Try.checked) own started (by kernel_rfl) Try.func6
    (ChangeSpec.witness6 (enc := enc) (C := Try.checked) false ⟨#[], #[.string ByteArray.empty, .slice none 0 0], []⟩ 8 (by kernel_rfl) (by kernel_rfl) (by kernel_rfl) (by kernel_rfl)) ?_
  intro W base args ds gs before hval0 hW hcnd hsz0 _
  have hval : ∀ (j : Nat) t v, Try.f6.params[j]? = some t → args[j]? = some v → Value.okWide Try.prog W .any base t v := hval0
  have hW' := hW
  obtain ⟨p, q, hA0, hV, rfl, hfz, hnd⟩ := hW
  have hA : DataW.TrodAll enc Try.prog W 0 (fun _ => true) true Try.f6.params.toList args.toList ds p := hA0
  rw [Try.params6] at hA hval
  obtain ⟨v0, vs0, d0, ds0, p0, q0, hargs, rfl, rfl, h0, r0⟩ := trodAll_cons hA
  obtain ⟨v1, vs1, d1, ds1, p1, q1, rfl, rfl, rfl, h1, r1⟩ := trodAll_cons r0
  obtain ⟨rfl, rfl, rfl⟩ := trodAll_nil r1
  obtain rfl : args = #[v0, v1] := by cases args; simp_all
  obtain ⟨rfl, rfl⟩ := trodVars_none hV
  have k0 := h0
  have lt0 : ∀ x ∈ p0, x.block < W.heap.size := by obtain ⟨m, hm⟩ := k0; exact DataW.trod_lt m _ _ _ hm
  have ok0 : Value.okWide Try.prog W .any base 9 v0 := (hval 0 9 v0 rfl rfl)
  have k1 := h1
  have lt1 : ∀ x ∈ p1, x.block < W.heap.size := by obtain ⟨m, hm⟩ := k1; exact DataW.trod_lt m _ _ _ hm
  have ok1 : Value.okWide Try.prog W .any base 23 v1 := (hval 1 23 v1 rfl rfl)
  obtain ⟨a0, rfl, rfl, rfl, y0⟩ := open_string Try.underlying9 ok0 h0
  have w0 : a0.size ≤ maxLen := y0
  obtain ⟨l1, hK1, hG1⟩ := Opens.value (opens_slice Try.underlying23 (by kernel_rfl) (opens_int (k := .i64) Try.underlying3)) h1
  obtain ⟨A1, c1, rfl, hc1, hr1⟩ := slice_value Try.underlying23 ok1 hK1
  obtain ⟨k, h⟩ := Pure.FnExactCutAt a0 l1 w0 hG1
  refine (PFnExactCutAt.laws_FnExactCutAt.calls k a0 A1 c1 l1 true W hr1 hc1 h).mono ?_
  rintro e W' ⟨rfl, bel⟩
  exact ⟨_, rfl, _, _, _, [], _, [], hW', trodAll_mk1 (shut_bool Try.underlying4 _), (trodAll_cons_mk (shut_string Try.underlying9 y0) (trodAll_cons_mk (Below.trod laidOut (by kernel_rfl) (of_decide_eq_true (by kernel_rfl)) k1 bel lt1) trodAll_mk0)), rfl, bel.frame _, fun h => by cases h⟩
theorem over : Rows.fnExactCutAtRow.holds Try.pinned (OpenSpec.ofChange Rows.fnExactCutAtSpec) :=
  OpenClaim.holds_of_wide 6 Try.f6 rfl rfl rfl rfl rfl rfl rfl ⟨rfl, rfl, rfl, rfl, rfl⟩ rfl rfl rfl rfl rfl (by kernel_rfl) Try.func6 (by kernel_rfl)
    (of_decide_eq_true (by kernel_rfl)) (by unfold Func.isWrapper; first | (rw [if_pos (by decide +kernel)]; kernel_rfl) | (rw [if_neg (by decide +kernel)]; exact ⟨rfl, rfl⟩))
    (fun os started H enc _ => lifted os started H enc)
theorem proved : Rows.FnExactCutAtSaid := over
#print axioms proved
end Go.Proofs.Ytlnmiafahjddhad.fnExactCutAt
namespace Go.Proofs.Ytlnmiafahjddhad
/-- The row, under a short name, for the claim. -/
theorem fnExactCutAt_holds : Rows.FnExactCutAtSaid := fnExactCutAt.proved
end Go.Proofs.Ytlnmiafahjddhad
