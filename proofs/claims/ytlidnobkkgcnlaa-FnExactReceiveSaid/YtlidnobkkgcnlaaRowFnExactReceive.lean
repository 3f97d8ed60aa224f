/- The row of FnExactReceive: its arguments opened, the printed contract of the law, and the pure statement. -/
import Derived.Test.YtlidnobkkgcnlaaRows
import Derived.Test.YtlidnobkkgcnlaaPFnExactReceivex19
import Derived.Test.YtlidnobkkgcnlaaPureFnExactReceive
import Derived.Test.YtlidnobkkgcnlaaOFnExactReceive
import Derived.WalkKit
import Derived.ProofKit
import Derived.OpenShut
import Derived.ShutString
import Derived.ChangeOld
import Derived.Below
import Derived.SizedLaws
import Derived.Carry
namespace Go.Proofs.Ytlidnobkkgcnlaa.fnExactReceive
open Go.ChangeShapes Go.WideShapes Go.ChangeAt Go.RowKit Go.Proofs.YtlidnobkkgcnlaaW.PrintWords Go.Proofs.Ytlidnobkkgcnlaa.Opens
open Go.ChangeMaps (open_string shut_string)
set_option linter.unusedVariables false
theorem own : ownKnob Try.prog.godebug = none := by kernel_rfl
theorem laidOut : laidOutB Try.prog = true := by kernel_rfl
set_option maxRecDepth 100000 in
theorem lifted (os : Os) (started : os.Started) (H : Type) (enc : TypeId × Value → H) :
    ReturnsInHanded {} Try.checked os 5 .any (Rows.fnExactReceiveSpec.pre6 enc Try.prog Try.f5 Rows.fnExactReceiveRow.domain false) (Rows.fnExactReceiveSpec.post enc Try.prog Try.f5 false true false false) := by
  refine returnsInHanded_of_change_sized (C := Try.checked) own started (by kernel_rfl) Try.func5
    (ChangeSpec.witness6 (enc := enc) (C := Try.checked) false ⟨#[], #[.agg #[.int .i64 0, .int .i64 0, .slice none 0 0, .int .i64 0, .slice none 0 0], .agg #[.int .i64 0, .int .i64 0, .string ByteArray.empty]], []⟩ 8 (by kernel_rfl) (by kernel_rfl) (by kernel_rfl) (by kernel_rfl)) ?_
  intro W base args ds gs before hval0 hW hcnd hsz0 _
  have hval : ∀ (j : Nat) t v, Try.f5.params[j]? = some t → args[j]? = some v → Value.okWide Try.prog W .any base t v := hval0
  have hW' := hW
  obtain ⟨p, q, hA0, hV, rfl, hfz, hnd⟩ := hW
  have hA : DataW.TrodAll enc Try.prog W 0 (fun _ => true) true Try.f5.params.toList args.toList ds p := hA0
  rw [Try.params5] at hA hval
  obtain ⟨v0, vs0, d0, ds0, p0, q0, hargs, rfl, rfl, h0, r0⟩ := trodAll_cons hA
  obtain ⟨v1, vs1, d1, ds1, p1, q1, rfl, rfl, rfl, h1, r1⟩ := trodAll_cons r0
  obtain ⟨rfl, rfl, rfl⟩ := trodAll_nil r1
  obtain rfl : args = #[v0, v1] := by cases args; simp_all
  obtain ⟨rfl, rfl⟩ := trodVars_none hV
  have k0 := h0
  have lt0 : ∀ x ∈ p0, x.block < W.heap.size := by obtain ⟨m, hm⟩ := k0; exact DataW.trod_lt m _ _ _ hm
  have ok0 : Value.okWide Try.prog W .any base 24 v0 := (hval 0 24 v0 rfl rfl)
  have k1 := h1
  have lt1 : ∀ x ∈ p1, x.block < W.heap.size := by obtain ⟨m, hm⟩ := k1; exact DataW.trod_lt m _ _ _ hm
  have ok1 : Value.okWide Try.prog W .any base 41 v1 := (hval 1 41 v1 rfl rfl)
  obtain ⟨⟨a0_0, a0_1, l0_2, a0_3, l0_4⟩, hK0, hG0⟩ := Opens.value (opens_struct (d := (Kd.pair (Kd.int .i64) (Kd.pair (Kd.int .i64) (Kd.pair (Kd.slice 9 Kd.string) (Kd.pair (Kd.int .i64) (Kd.slice 9 Kd.string)))))) Try.underlying24 (by kernel_rfl) (opensF_cons rfl (by kernel_rfl) (opens_int (k := .i64) Try.underlying3) (opensF_cons rfl (by kernel_rfl) (opens_int (k := .i64) Try.underlying3) (opensF_cons rfl (by kernel_rfl) (opens_slice Try.underlying22 (by kernel_rfl) (opens_str Try.underlying9)) (opensF_cons rfl (by kernel_rfl) (opens_int (k := .i64) Try.underlying3) (opensF_one rfl (by kernel_rfl) (opens_slice Try.underlying22 (by kernel_rfl) (opens_str Try.underlying9)))))))) h0
  generalize hcs0 : v0.cells.toList = cs0 at hK0
  obtain ⟨_, _, rfl, rfl, ⟨_, _, rfl, rfl, ⟨_, _, rfl, ⟨A0_2, c0_2, rfl, hc0_2, hr0_2⟩, ⟨_, _, rfl, rfl, ⟨A0_4, c0_4, rfl, hc0_4, hr0_4⟩⟩⟩⟩⟩ := hK0
  obtain rfl : v0 = .agg #[.int .i64 a0_0, .int .i64 a0_1, .slice A0_2 l0_2.length c0_2, .int .i64 a0_3, .slice A0_4 l0_4.length c0_4] := agg_value Try.underlying24 ok0 hcs0
  obtain ⟨⟨a1_0, a1_1, a1_2⟩, hK1, hG1⟩ := Opens.value (opens_struct (d := (Kd.pair (Kd.int .i64) (Kd.pair (Kd.int .i64) Kd.string))) Try.underlying41 (by kernel_rfl) (opensF_cons rfl (by kernel_rfl) (opens_int (k := .i64) Try.underlying3) (opensF_cons rfl (by kernel_rfl) (opens_int (k := .i64) Try.underlying3) (opensF_one rfl (by kernel_rfl) (opens_str Try.underlying9))))) h1
  generalize hcs1 : v1.cells.toList = cs1 at hK1
  obtain ⟨_, _, rfl, rfl, ⟨_, _, rfl, rfl, rfl⟩⟩ := hK1
  obtain rfl : v1 = .agg #[.int .i64 a1_0, .int .i64 a1_1, .string a1_2] := agg_value Try.underlying41 ok1 hcs1
  obtain ⟨k, h⟩ := Pure.FnExactReceive a0_0 a0_1 l0_2 a0_3 l0_4 a1_0 a1_1 a1_2 (hG0.1) (hG0.2.1) (hG0.2.2.1) (hG0.2.2.2.1) (hG0.2.2.2.2) (hG1.1) (hG1.2.1) (hG1.2.2)
  refine (PFnExactReceive.laws_FnExactReceive.calls k a0_0 a0_1 A0_2 c0_2 l0_2 a0_3 A0_4 c0_4 l0_4 a1_0 a1_1 a1_2 true W hr0_2 hc0_2 hr0_4 hc0_4 h).mono ?_
  rintro e W' ⟨rfl, bel⟩
  exact ⟨_, rfl, _, _, _, [], _, [], hW', trodAll_mk1 (shut_bool Try.underlying4 _), (trodAll_cons_mk (Below.trod laidOut (by kernel_rfl) (of_decide_eq_true (by kernel_rfl)) k0 bel lt0) (trodAll_cons_mk (Below.trod laidOut (by kernel_rfl) (of_decide_eq_true (by kernel_rfl)) k1 bel lt1) trodAll_mk0)), rfl, bel.frame _, fun h => by cases h⟩
theorem over : Rows.fnExactReceiveRow.holds Try.pinned (OpenSpec.ofChange Rows.fnExactReceiveSpec) :=
  OpenClaim.holds_of_wide 5 Try.f5 rfl rfl rfl rfl rfl rfl rfl ⟨rfl, rfl, rfl, rfl, rfl⟩ rfl rfl rfl rfl rfl (by kernel_rfl) Try.func5 (by kernel_rfl)
    (of_decide_eq_true (by kernel_rfl)) (by unfold Func.isWrapper; first | (rw [if_pos (by decide +kernel)]; kernel_rfl) | (rw [if_neg (by decide +kernel)]; exact ⟨rfl, rfl⟩))
    (fun os started H enc _ => lifted os started H enc)
theorem proved : Rows.FnExactReceiveSaid := over
#print axioms proved
end Go.Proofs.Ytlidnobkkgcnlaa.fnExactReceive
namespace Go.Proofs.Ytlidnobkkgcnlaa
/-- The row, under a short name, for the claim. -/
theorem fnExactReceive_holds : Rows.FnExactReceiveSaid := fnExactReceive.proved
end Go.Proofs.Ytlidnobkkgcnlaa
