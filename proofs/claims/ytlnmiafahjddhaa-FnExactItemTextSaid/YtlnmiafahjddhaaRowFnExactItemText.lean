/- The row of FnExactItemText: its arguments opened, the printed contract of the law, and the pure statement. -/
import Derived.Test.YtlnmiafahjddhaaRows
import Derived.Test.YtlnmiafahjddhaaPFnExactItemTextx8
import Derived.Test.YtlnmiafahjddhaaPureFnExactItemText
import Derived.Test.YtlnmiafahjddhaaOpens
import Derived.WalkKit
import Derived.ProofKit
import Derived.OpenShut
import Derived.ShutString
import Derived.ChangeOld
import Derived.Below
import Derived.SizedLaws
import Derived.Carry
namespace Go.Proofs.Ytlnmiafahjddhaa.fnExactItemText
open Go.ChangeShapes Go.WideShapes Go.ChangeAt Go.RowKit Go.Proofs.YtlnmiafahjddhaaW.PrintWords Go.Proofs.Ytlnmiafahjddhaa.Opens
open Go.ChangeMaps (open_string shut_string)
set_option linter.unusedVariables false
theorem own : ownKnob Try.prog.godebug = none := by kernel_rfl
theorem laidOut : laidOutB Try.prog = true := by kernel_rfl
set_option maxRecDepth 100000 in
theorem lifted (os : Os) (started : os.Started) (H : Type) (enc : TypeId × Value → H) :
    ReturnsInHanded {} Try.checked os 7 .any (Rows.fnExactItemTextSpec.pre6 enc Try.prog Try.f7 Rows.fnExactItemTextRow.domain false) (Rows.fnExactItemTextSpec.post enc Try.prog Try.f7 false true false false) := by
  refine returnsInHanded_of_change_sized (C := Try.checked) own started (by kernel_rfl) Try.func7
    (ChangeSpec.witness6 (enc := enc) (C := Try.checked) false ⟨#[], #[.agg #[.int .i64 0, .int .i64 0, .int .i64 0, .string ByteArray.empty]], []⟩ 8 (by kernel_rfl) (by kernel_rfl) (by kernel_rfl) (by kernel_rfl)) ?_
  intro W base args ds gs before hval0 hW hcnd hsz0 _
  have hval : ∀ (j : Nat) t v, Try.f7.params[j]? = some t → args[j]? = some v → Value.okWide Try.prog W .any base t v := hval0
  have hW' := hW
  obtain ⟨p, q, hA0, hV, rfl, hfz, hnd⟩ := hW
  have hA : DataW.TrodAll enc Try.prog W 0 (fun _ => true) true Try.f7.params.toList args.toList ds p := hA0
  rw [Try.params7] at hA hval
  obtain ⟨v0, vs0, d0, ds0, p0, q0, hargs, rfl, rfl, h0, r0⟩ := trodAll_cons hA
  obtain ⟨rfl, rfl, rfl⟩ := trodAll_nil r0
  obtain rfl : args = #[v0] := by cases args; simp_all
  obtain ⟨rfl, rfl⟩ := trodVars_none hV
  have k0 := h0
  have lt0 : ∀ x ∈ p0, x.block < W.heap.size := by obtain ⟨m, hm⟩ := k0; exact DataW.trod_lt m _ _ _ hm
  have ok0 : Value.okWide Try.prog W .any base 35 v0 := (hval 0 35 v0 rfl rfl)
  obtain ⟨⟨a0_0, a0_1, a0_2, a0_3⟩, hK0, hG0⟩ := Opens.value (opens_struct (d := (Kd.pair (Kd.int .i64) (Kd.pair (Kd.int .i64) (Kd.pair (Kd.int .i64) Kd.string)))) Try.underlying35 (by kernel_rfl) (opensF_cons rfl (by kernel_rfl) (opens_int (k := .i64) Try.underlying3) (opensF_cons rfl (by kernel_rfl) (opens_int (k := .i64) Try.underlying3) (opensF_cons rfl (by kernel_rfl) (opens_int (k := .i64) Try.underlying3) (opensF_one rfl (by kernel_rfl) (opens_str Try.underlying9)))))) h0
  generalize hcs0 : v0.cells.toList = cs0 at hK0
  obtain ⟨_, _, rfl, rfl, ⟨_, _, rfl, rfl, ⟨_, _, rfl, rfl, rfl⟩⟩⟩ := hK0
  obtain rfl : v0 = .agg #[.int .i64 a0_0, .int .i64 a0_1, .int .i64 a0_2, .string a0_3] := agg_value Try.underlying35 ok0 hcs0
  obtain ⟨k, h⟩ := Pure.FnExactItemText a0_0 a0_1 a0_2 a0_3 (hG0.1) (hG0.2.1) (hG0.2.2.1) (hG0.2.2.2)
  refine (PFnExactItemText.laws_FnExactItemText.calls k a0_0 a0_1 a0_2 a0_3 true W  h).mono ?_
  rintro e W' ⟨rfl, bel⟩
  exact ⟨_, rfl, _, _, _, [], _, [], hW', trodAll_mk1 (shut_bool Try.underlying4 _), (trodAll_cons_mk (Below.trod laidOut (by kernel_rfl) (of_decide_eq_true (by kernel_rfl)) k0 bel lt0) trodAll_mk0), rfl, bel.frame _, fun h => by cases h⟩
theorem over : Rows.fnExactItemTextRow.holds Try.pinned (OpenSpec.ofChange Rows.fnExactItemTextSpec) :=
  OpenClaim.holds_of_wide 7 Try.f7 rfl rfl rfl rfl rfl rfl rfl ⟨rfl, rfl, rfl, rfl, rfl⟩ rfl rfl rfl rfl rfl (by kernel_rfl) Try.func7 (by kernel_rfl)
    (of_decide_eq_true (by kernel_rfl)) (by unfold Func.isWrapper; first | (rw [if_pos (by decide +kernel)]; kernel_rfl) | (rw [if_neg (by decide +kernel)]; exact ⟨rfl, rfl⟩))
    (fun os started H enc _ => lifted os started H enc)
theorem proved : Rows.FnExactItemTextSaid := over
#print axioms proved
end Go.Proofs.Ytlnmiafahjddhaa.fnExactItemText
namespace Go.Proofs.Ytlnmiafahjddhaa
/-- The row, under a short name, for the claim. -/
theorem fnExactItemText_holds : Rows.FnExactItemTextSaid := fnExactItemText.proved
end Go.Proofs.Ytlnmiafahjddhaa
