/- The row of FnExactRingOk: its arguments opened, the printed contract of the law, and the pure statement. -/
import Derived.Test.YtlnmiafahjddhaaRows
import Derived.Test.YtlnmiafahjddhaaPFnExactRingOkx2
import Derived.Test.YtlnmiafahjddhaaPureFnExactRingOk
import Derived.Test.YtlnmiafahjddhaaOpens
import Derived.WalkKit
import Derived.ProofKit
import Derived.OpenShut
import Derived.ShutString
import Derived.ChangeOld
import Derived.Below
import Derived.SizedLaws
import Derived.Carry
namespace Go.Proofs.Ytlnmiafahjddhaa.fnExactRingOk
open Go.ChangeShapes Go.WideShapes Go.ChangeAt Go.RowKit Go.Proofs.YtlnmiafahjddhaaW.PrintWords Go.Proofs.Ytlnmiafahjddhaa.Opens
open Go.ChangeMaps (open_string shut_string)
set_option linter.unusedVariables false
theorem own : ownKnob Try.prog.godebug = none := by kernel_rfl
theorem laidOut : laidOutB Try.prog = true := by kernel_rfl
set_option maxRecDepth 100000 in
theorem lifted (os : Os) (started : os.Started) (H : Type) (enc : TypeId × Value → H) :
    ReturnsInHanded {} Try.checked os 8 .any (Rows.fnExactRingOkSpec.pre6 enc Try.prog Try.f8 Rows.fnExactRingOkRow.domain false) (Rows.fnExactRingOkSpec.post enc Try.prog Try.f8 false true false false) := by
  refine returnsInHanded_of_change_sized (C := Try.checked) own started (by kernel_rfl) Try.func8
    (ChangeSpec.witness6 (enc := enc) (C := Try.checked) false ⟨#[], #[.agg #[.int .i64 0, .slice none 0 0]], []⟩ 8 (by kernel_rfl) (by kernel_rfl) (by kernel_rfl) (by kernel_rfl)) ?_
  intro W base args ds gs before hval0 hW hcnd hsz0 _
  have hval : ∀ (j : Nat) t v, Try.f8.params[j]? = some t → args[j]? = some v → Value.okWide Try.prog W .any base t v := hval0
  have hW' := hW
  obtain ⟨p, q, hA0, hV, rfl, hfz, hnd⟩ := hW
  have hA : DataW.TrodAll enc Try.prog W 0 (fun _ => true) true Try.f8.params.toList args.toList ds p := hA0
  rw [Try.params8] at hA hval
  obtain ⟨v0, vs0, d0, ds0, p0, q0, hargs, rfl, rfl, h0, r0⟩ := trodAll_cons hA
  obtain ⟨rfl, rfl, rfl⟩ := trodAll_nil r0
  obtain rfl : args = #[v0] := by cases args; simp_all
  obtain ⟨rfl, rfl⟩ := trodVars_none hV
  have k0 := h0
  have lt0 : ∀ x ∈ p0, x.block < W.heap.size := by obtain ⟨m, hm⟩ := k0; exact DataW.trod_lt m _ _ _ hm
  have ok0 : Value.okWide Try.prog W .any base 42 v0 := (hval 0 42 v0 rfl rfl)
  obtain ⟨⟨a0_0, l0_1⟩, hK0, hG0⟩ := Opens.value (opens_struct (d := (Kd.pair (Kd.int .i64) (Kd.slice 3 (Kd.int .i64)))) Try.underlying42 (by kernel_rfl) (opensF_cons rfl (by kernel_rfl) (opens_int (k := .i64) Try.underlying3) (opensF_one rfl (by kernel_rfl) (opens_slice Try.underlying25 (by kernel_rfl) (opens_int (k := .i64) Try.underlying3))))) h0
  generalize hcs0 : v0.cells.toList = cs0 at hK0
  obtain ⟨_, _, rfl, rfl, ⟨A0_1, c0_1, rfl, hc0_1, hr0_1⟩⟩ := hK0
  obtain rfl : v0 = .agg #[.int .i64 a0_0, .slice A0_1 l0_1.length c0_1] := agg_value Try.underlying42 ok0 hcs0
  obtain ⟨k, h⟩ := Pure.FnExactRingOk a0_0 l0_1 (hG0.1) (hG0.2)
  refine (PFnExactRingOk.laws_FnExactRingOk.calls k a0_0 A0_1 c0_1 l0_1 true W hr0_1 hc0_1 h).mono ?_
  rintro e W' ⟨rfl, bel⟩
  exact ⟨_, rfl, _, _, _, [], _, [], hW', trodAll_mk1 (shut_bool Try.underlying4 _), (trodAll_cons_mk (Below.trod laidOut (by kernel_rfl) (of_decide_eq_true (by kernel_rfl)) k0 bel lt0) trodAll_mk0), rfl, bel.frame _, fun h => by cases h⟩
theorem over : Rows.fnExactRingOkRow.holds Try.pinned (OpenSpec.ofChange Rows.fnExactRingOkSpec) :=
  OpenClaim.holds_of_wide 8 Try.f8 rfl rfl rfl rfl rfl rfl rfl ⟨rfl, rfl, rfl, rfl, rfl⟩ rfl rfl rfl rfl rfl (by kernel_rfl) Try.func8 (by kernel_rfl)
    (of_decide_eq_true (by kernel_rfl)) (by unfold Func.isWrapper; first | (rw [if_pos (by decide +kernel)]; kernel_rfl) | (rw [if_neg (by decide +kernel)]; exact ⟨rfl, rfl⟩))
    (fun os started H enc _ => lifted os started H enc)
theorem proved : Rows.FnExactRingOkSaid := over
#print axioms proved
end Go.Proofs.Ytlnmiafahjddhaa.fnExactRingOk
namespace Go.Proofs.Ytlnmiafahjddhaa
/-- The row, under a short name, for the claim. -/
theorem fnExactRingOk_holds : Rows.FnExactRingOkSaid := fnExactRingOk.proved
end Go.Proofs.Ytlnmiafahjddhaa
