/- The row of FnLinks: its arguments opened, the printed contract of the law, and the pure statement. -/
import Derived.Test.YtlidnobkkgcnlaaRows
import Derived.Test.YtlidnobkkgcnlaaPFnLinksx23
import Derived.Test.YtlidnobkkgcnlaaPureFnLinks
import Derived.Test.YtlidnobkkgcnlaaOFnLinks
import Derived.WalkKit
import Derived.ProofKit
import Derived.OpenShut
import Derived.ShutString
import Derived.ChangeOld
import Derived.Below
import Derived.SizedLaws
import Derived.Carry
namespace Go.Proofs.Ytlidnobkkgcnlaa.fnLinks
open Go.ChangeShapes Go.WideShapes Go.ChangeAt Go.RowKit Go.Proofs.YtlidnobkkgcnlaaW.PrintWords Go.Proofs.Ytlidnobkkgcnlaa.Opens
open Go.ChangeMaps (open_string shut_string)
set_option linter.unusedVariables false
theorem own : ownKnob Try.prog.godebug = none := by kernel_rfl
theorem laidOut : laidOutB Try.prog = true := by kernel_rfl
set_option maxRecDepth 100000 in
theorem lifted (os : Os) (started : os.Started) (H : Type) (enc : TypeId × Value → H) :
    ReturnsInHanded {} Try.checked os 10 .any (Rows.fnLinksSpec.pre6 enc Try.prog Try.f10 Rows.fnLinksRow.domain false) (Rows.fnLinksSpec.post enc Try.prog Try.f10 false true false false) := by
  refine returnsInHanded_of_change_sized (C := Try.checked) own started (by kernel_rfl) Try.func10
    (ChangeSpec.witness6 (enc := enc) (C := Try.checked) false ⟨#[], #[.slice none 0 0], []⟩ 8 (by kernel_rfl) (by kernel_rfl) (by kernel_rfl) (by kernel_rfl)) ?_
  intro W base args ds gs before hval0 hW hcnd hsz0 _
  have hval : ∀ (j : Nat) t v, Try.f10.params[j]? = some t → args[j]? = some v → Value.okWide Try.prog W .any base t v := hval0
  have hW' := hW
  obtain ⟨p, q, hA0, hV, rfl, hfz, hnd⟩ := hW
  have hA : DataW.TrodAll enc Try.prog W 0 (fun _ => true) true Try.f10.params.toList args.toList ds p := hA0
  rw [Try.params10] at hA hval
  obtain ⟨v0, vs0, d0, ds0, p0, q0, hargs, rfl, rfl, h0, r0⟩ := trodAll_cons hA
  obtain ⟨rfl, rfl, rfl⟩ := trodAll_nil r0
  obtain rfl : args = #[v0] := by cases args; simp_all
  obtain ⟨rfl, rfl⟩ := trodVars_none hV
  have k0 := h0
  have lt0 : ∀ x ∈ p0, x.block < W.heap.size := by obtain ⟨m, hm⟩ := k0; exact DataW.trod_lt m _ _ _ hm
  have ok0 : Value.okWide Try.prog W .any base 33 v0 := (hval 0 33 v0 rfl rfl)
  obtain ⟨l0, hK0, hG0⟩ := Opens.value (opens_slice Try.underlying33 (by kernel_rfl) (opens_int (k := .u8) Try.underlying5)) h0
  obtain ⟨A0, c0, rfl, hc0, hr0⟩ := slice_value Try.underlying33 ok0 hK0
  obtain ⟨k, h⟩ := Pure.FnLinks l0 hG0
  refine (PFnLinks.laws_FnLinks.calls k A0 c0 l0 true W hr0 hc0 h).mono ?_
  rintro e W' ⟨rfl, bel⟩
  exact ⟨_, rfl, _, _, _, [], _, [], hW', trodAll_mk1 (shut_bool Try.underlying4 _), (trodAll_cons_mk (Below.trod laidOut (by kernel_rfl) (of_decide_eq_true (by kernel_rfl)) k0 bel lt0) trodAll_mk0), rfl, bel.frame _, fun h => by cases h⟩
theorem over : Rows.fnLinksRow.holds Try.pinned (OpenSpec.ofChange Rows.fnLinksSpec) :=
  OpenClaim.holds_of_wide 10 Try.f10 rfl rfl rfl rfl rfl rfl rfl ⟨rfl, rfl, rfl, rfl, rfl⟩ rfl rfl rfl rfl rfl (by kernel_rfl) Try.func10 (by kernel_rfl)
    (of_decide_eq_true (by kernel_rfl)) (by unfold Func.isWrapper; first | (rw [if_pos (by decide +kernel)]; kernel_rfl) | (rw [if_neg (by decide +kernel)]; exact ⟨rfl, rfl⟩))
    (fun os started H enc _ => lifted os started H enc)
theorem proved : Rows.FnLinksSaid := over
#print axioms proved
end Go.Proofs.Ytlidnobkkgcnlaa.fnLinks
namespace Go.Proofs.Ytlidnobkkgcnlaa
/-- The row, under a short name, for the claim. -/
theorem fnLinks_holds : Rows.FnLinksSaid := fnLinks.proved
end Go.Proofs.Ytlidnobkkgcnlaa
