/- The row of FnExactTalk: its arguments opened, the printed contract of the law, and the pure statement. -/
import Derived.Test.YtlidnobkkgcnlaaRows
import Derived.Test.YtlidnobkkgcnlaaPFnExactTalkx26
import Derived.Test.YtlidnobkkgcnlaaPureFnExactTalk
import Derived.Test.YtlidnobkkgcnlaaOFnExactTalk
import Derived.WalkKit
import Derived.ProofKit
import Derived.OpenShut
import Derived.ShutString
import Derived.ChangeOld
import Derived.Below
import Derived.SizedLaws
import Derived.Carry
namespace Go.Proofs.Ytlidnobkkgcnlaa.fnExactTalk
open Go.ChangeShapes Go.WideShapes Go.ChangeAt Go.RowKit Go.Proofs.YtlidnobkkgcnlaaW.PrintWords Go.Proofs.Ytlidnobkkgcnlaa.Opens
open Go.ChangeMaps (open_string shut_string)
set_option linter.unusedVariables false
theorem own : ownKnob Try.prog.godebug = none := by kernel_rfl
theorem laidOut : laidOutB Try.prog = true := by kernel_rfl
set_option maxRecDepth 100000 in
theorem lifted (os : Os) (started : os.Started) (H : Type) (enc : TypeId × Value → H) :
    ReturnsInHanded {} Try.checked os 9 .any (Rows.fnExactTalkSpec.pre6 enc Try.prog Try.f9 Rows.fnExactTalkRow.domain false) (Rows.fnExactTalkSpec.post enc Try.prog Try.f9 false true false false) := by
  refine returnsInHanded_of_change_sized (C := Try.checked) own started (by kernel_rfl) Try.func9
    (ChangeSpec.witness6 (enc := enc) (C := Try.checked) false ⟨#[], #[.slice none 0 0, .slice none 0 0], []⟩ 8 (by kernel_rfl) (by kernel_rfl) (by kernel_rfl) (by kernel_rfl)) ?_
  intro W base args ds gs before hval0 hW hcnd hsz0 _
  have hval : ∀ (j : Nat) t v, Try.f9.params[j]? = some t → args[j]? = some v → Value.okWide Try.prog W .any base t v := hval0
  have hW' := hW
  obtain ⟨p, q, hA0, hV, rfl, hfz, hnd⟩ := hW
  have hA : DataW.TrodAll enc Try.prog W 0 (fun _ => true) true Try.f9.params.toList args.toList ds p := hA0
  rw [Try.params9] at hA hval
  obtain ⟨v0, vs0, d0, ds0, p0, q0, hargs, rfl, rfl, h0, r0⟩ := trodAll_cons hA
  obtain ⟨v1, vs1, d1, ds1, p1, q1, rfl, rfl, rfl, h1, r1⟩ := trodAll_cons r0
  obtain ⟨rfl, rfl, rfl⟩ := trodAll_nil r1
  obtain rfl : args = #[v0, v1] := by cases args; simp_all
  obtain ⟨rfl, rfl⟩ := trodVars_none hV
  have k0 := h0
  have lt0 : ∀ x ∈ p0, x.block < W.heap.size := by obtain ⟨m, hm⟩ := k0; exact DataW.trod_lt m _ _ _ hm
  have ok0 : Value.okWide Try.prog W .any base 22 v0 := (hval 0 22 v0 rfl rfl)
  have k1 := h1
  have lt1 : ∀ x ∈ p1, x.block < W.heap.size := by obtain ⟨m, hm⟩ := k1; exact DataW.trod_lt m _ _ _ hm
  have ok1 : Value.okWide Try.prog W .any base 52 v1 := (hval 1 52 v1 rfl rfl)
  obtain ⟨l0, hK0, hG0⟩ := Opens.value (opens_slice Try.underlying22 (by kernel_rfl) (opens_str Try.underlying9)) h0
  obtain ⟨A0, c0, rfl, hc0, hr0⟩ := slice_value Try.underlying22 ok0 hK0
  obtain ⟨l1, hK1, hG1⟩ := Opens.value (opens_slice Try.underlying52 (by kernel_rfl) (opens_int (k := .i64) Try.underlying3)) h1
  obtain ⟨A1, c1, rfl, hc1, hr1⟩ := slice_value Try.underlying52 ok1 hK1
  obtain ⟨k, h⟩ := Pure.FnExactTalk l0 l1 hG0 hG1
  refine (PFnExactTalk.laws_FnExactTalk.calls k A0 c0 l0 A1 c1 l1 true W hr0 hc0 hr1 hc1 h).mono ?_
  rintro e W' ⟨rfl, bel⟩
  exact ⟨_, rfl, _, _, _, [], _, [], hW', trodAll_mk1 (shut_bool Try.underlying4 _), (trodAll_cons_mk (Below.trod laidOut (by kernel_rfl) (of_decide_eq_true (by kernel_rfl)) k0 bel lt0) (trodAll_cons_mk (Below.trod laidOut (by kernel_rfl) (of_decide_eq_true (by kernel_rfl)) k1 bel lt1) trodAll_mk0)), rfl, bel.frame _, fun h => by cases h⟩
theorem over : Rows.fnExactTalkRow.holds Try.pinned (OpenSpec.ofChange Rows.fnExactTalkSpec) :=
  OpenClaim.holds_of_wide 9 Try.f9 rfl rfl rfl rfl rfl rfl rfl ⟨rfl, rfl, rfl, rfl, rfl⟩ rfl rfl rfl rfl rfl (by kernel_rfl) Try.func9 (by kernel_rfl)
    (of_decide_eq_true (by kernel_rfl)) (by unfold Func.isWrapper; first | (rw [if_pos (by decide +kernel)]; kernel_rfl) | (rw [if_neg (by decide +kernel)]; exact ⟨rfl, rfl⟩))
    (fun os started H enc _ => lifted os started H enc)
theorem proved : Rows.FnExactTalkSaid := over
#print axioms proved
end Go.Proofs.Ytlidnobkkgcnlaa.fnExactTalk
namespace Go.Proofs.Ytlidnobkkgcnlaa
/-- The row, under a short name, for the claim. -/
theorem fnExactTalk_holds : Rows.FnExactTalkSaid := fnExactTalk.proved
end Go.Proofs.Ytlidnobkkgcnlaa
