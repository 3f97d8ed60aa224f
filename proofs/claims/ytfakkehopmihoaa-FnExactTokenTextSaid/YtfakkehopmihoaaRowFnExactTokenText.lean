/- The row of FnExactTokenText: its arguments opened, the printed contract of the law, and the pure statement. -/
import Derived.Test.YtfakkehopmihoaaRows
import Derived.Test.YtfakkehopmihoaaPFnExactTokenTextx16
import Derived.Test.YtfakkehopmihoaaPureFnExactTokenText
import Derived.Test.YtfakkehopmihoaaOFnExactTokenText
import Derived.WalkKit
import Derived.ProofKit
import Derived.OpenShut
import Derived.ShutString
import Derived.ChangeOld
import Derived.Below
import Derived.SizedLaws
import Derived.Carry
namespace Go.Proofs.Ytfakkehopmihoaa.fnExactTokenText
open Go.ChangeShapes Go.WideShapes Go.ChangeAt Go.RowKit Go.Proofs.YtfakkehopmihoaaW.PrintWords Go.Proofs.Ytfakkehopmihoaa.Opens
open Go.ChangeMaps (open_string shut_string)
set_option linter.unusedVariables false
theorem own : ownKnob Try.prog.godebug = none := by kernel_rfl
theorem laidOut : laidOutB Try.prog = true := by kernel_rfl
set_option maxRecDepth 100000 in
theorem lifted (os : Os) (started : os.Started) (H : Type) (enc : TypeId × Value → H) :
    ReturnsInHanded {} Try.checked os 5 .any (Rows.fnExactTokenTextSpec.pre6 enc Try.prog Try.f5 Rows.fnExactTokenTextRow.domain false) (Rows.fnExactTokenTextSpec.post enc Try.prog Try.f5 false true false false) := by
  refine returnsInHanded_of_change_sized (C := Try.checked) own started (by kernel_rfl) Try.func5
    (ChangeSpec.witness6 (enc := enc) (C := Try.checked) false ⟨#[], #[.agg #[.int .i64 0, .int .i64 0, .int .i64 0, .int .i64 0, .int .i64 0, .slice none 0 0]], []⟩ 8 (by kernel_rfl) (by kernel_rfl) (by kernel_rfl) (by kernel_rfl)) ?_
  intro W base args ds gs before hval0 hW hcnd hsz0 _
  have hval : ∀ (j : Nat) t v, Try.f5.params[j]? = some t → args[j]? = some v → Value.okWide Try.prog W .any base t v := hval0
  have hW' := hW
  obtain ⟨p, q, hA0, hV, rfl, hfz, hnd⟩ := hW
  have hA : DataW.TrodAll enc Try.prog W 0 (fun _ => true) true Try.f5.params.toList args.toList ds p := hA0
  rw [Try.params5] at hA hval
  obtain ⟨v0, vs0, d0, ds0, p0, q0, hargs, rfl, rfl, h0, r0⟩ := trodAll_cons hA
  obtain ⟨rfl, rfl, rfl⟩ := trodAll_nil r0
  obtain rfl : args = #[v0] := by cases args; simp_all
  obtain ⟨rfl, rfl⟩ := trodVars_none hV
  have k0 := h0
  have lt0 : ∀ x ∈ p0, x.block < W.heap.size := by obtain ⟨m, hm⟩ := k0; exact DataW.trod_lt m _ _ _ hm
  have ok0 : Value.okWide Try.prog W .any base 33 v0 := (hval 0 33 v0 rfl rfl)
  obtain ⟨⟨a0_0, a0_1, a0_2, a0_3, a0_4, l0_5⟩, hK0, hG0⟩ := Opens.value (opens_struct (d := (Kd.pair (Kd.int .i64) (Kd.pair (Kd.int .i64) (Kd.pair (Kd.int .i64) (Kd.pair (Kd.int .i64) (Kd.pair (Kd.int .i64) (Kd.slice 3 (Kd.int .i64)))))))) Try.underlying33 (by kernel_rfl) (opensF_cons rfl (by kernel_rfl) (opens_int (k := .i64) Try.underlying3) (opensF_cons rfl (by kernel_rfl) (opens_int (k := .i64) Try.underlying3) (opensF_cons rfl (by kernel_rfl) (opens_int (k := .i64) Try.underlying3) (opensF_cons rfl (by kernel_rfl) (opens_int (k := .i64) Try.underlying3) (opensF_cons rfl (by kernel_rfl) (opens_int (k := .i64) Try.underlying3) (opensF_one rfl (by kernel_rfl) (opens_slice Try.underlying31 (by kernel_rfl) (opens_int (k := .i64) Try.underlying3))))))))) h0
  generalize hcs0 : v0.cells.toList = cs0 at hK0
  obtain ⟨_, _, rfl, rfl, ⟨_, _, rfl, rfl, ⟨_, _, rfl, rfl, ⟨_, _, rfl, rfl, ⟨_, _, rfl, rfl, ⟨A0_5, c0_5, rfl, hc0_5, hr0_5⟩⟩⟩⟩⟩⟩ := hK0
  obtain rfl : v0 = .agg #[.int .i64 a0_0, .int .i64 a0_1, .int .i64 a0_2, .int .i64 a0_3, .int .i64 a0_4, .slice A0_5 l0_5.length c0_5] := agg_value Try.underlying33 ok0 hcs0
  obtain ⟨k, h⟩ := Pure.FnExactTokenText a0_0 a0_1 a0_2 a0_3 a0_4 l0_5 (hG0.1) (hG0.2.1) (hG0.2.2.1) (hG0.2.2.2.1) (hG0.2.2.2.2.1) (hG0.2.2.2.2.2)
  refine (PFnExactTokenText.laws_FnExactTokenText.calls k a0_0 a0_1 a0_2 a0_3 a0_4 A0_5 c0_5 l0_5 true W hr0_5 hc0_5 h).mono ?_
  rintro e W' ⟨rfl, bel⟩
  exact ⟨_, rfl, _, _, _, [], _, [], hW', trodAll_mk1 (shut_bool Try.underlying4 _), (trodAll_cons_mk (Below.trod laidOut (by kernel_rfl) (of_decide_eq_true (by kernel_rfl)) k0 bel lt0) trodAll_mk0), rfl, bel.frame _, fun h => by cases h⟩
theorem over : Rows.fnExactTokenTextRow.holds Try.pinned (OpenSpec.ofChange Rows.fnExactTokenTextSpec) :=
  OpenClaim.holds_of_wide 5 Try.f5 rfl rfl rfl rfl rfl rfl rfl ⟨rfl, rfl, rfl, rfl, rfl⟩ rfl rfl rfl rfl rfl (by kernel_rfl) Try.func5 (by kernel_rfl)
    (of_decide_eq_true (by kernel_rfl)) (by unfold Func.isWrapper; first | (rw [if_pos (by decide +kernel)]; kernel_rfl) | (rw [if_neg (by decide +kernel)]; exact ⟨rfl, rfl⟩))
    (fun os started H enc _ => lifted os started H enc)
theorem proved : Rows.FnExactTokenTextSaid := over
#print axioms proved
end Go.Proofs.Ytfakkehopmihoaa.fnExactTokenText
namespace Go.Proofs.Ytfakkehopmihoaa
/-- The row, under a short name, for the claim. -/
theorem fnExactTokenText_holds : Rows.FnExactTokenTextSaid := fnExactTokenText.proved
end Go.Proofs.Ytfakkehopmihoaa
