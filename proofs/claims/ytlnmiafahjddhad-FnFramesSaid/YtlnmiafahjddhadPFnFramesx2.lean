-- Written by a program out of the translation, for this claim.
import Derived.Test.YtlnmiafahjddhadPFnFramesx0
namespace Go.Proofs.Ytlnmiafahjddhad.PFnFrames
open Go.RowKit Go.Proofs.YtlnmiafahjddhadW.PrintWords Go.Proofs.YtlnmiafahjddhadW.PrintLast Go.Proofs.YtlnmiafahjddhadW.PrintMore
attribute [local go_sem] max2_int min2_int max_two min_two max_three min_three max_four min_four   -- for this text's walks alone
set_option linter.unusedVariables false
set_option linter.unusedSimpArgs false

/-! ### slices_Compact_int_int: function 70, by hand -/
def slices_Compact_int_int.f (l0 : List Int) : Option (List Int) := some (Lib.compact l0)
theorem slices_Compact_int_int.calls (P0_ : Nat → Prop) (u9000_ : Value) (l0 : List Int) (r : List Int) (w0 w : World) (hB : Below w0.heap.size w0 w) (ho0 : Kd.R (Kd.int .i64) 3 w w0.heap.size P0_ u9000_ l0) (h : slices_Compact_int_int.f l0 = some r) :
    Calls Try.prog 70 #[u9000_] w fun e w' => ∃ v0_ : Value, e = .returned (v0_) ∧ Kd.R (Kd.int .i64) 3 w' w0.heap.size (fun k_ => (P0_ k_ ∨ w.heap.size ≤ k_)) v0_ r ∧ Below w0.heap.size w0 w' ∧ Kept w w' (fun k_ => P0_ k_) := by
  obtain rfl := Option.some.inj h
  have hok := ho0.1
  have hown := Kd.own_of_R ho0
  rcases hown.2 with ⟨rfl, h0⟩ | ⟨g, cap, cur, rfl, hbase, hheap, hn, hm, hs, ht⟩
  · obtain rfl : l0 = [] := List.eq_nil_of_length_eq_zero h0
    refine (Try.slices_Compact_int_empty none 0 w).mono ?_
    rintro e w' ⟨rfl, rfl⟩
    exact ⟨_, rfl, Kd.R_nil _ _ _ _ _, hB, Kept.refl _ _⟩
  · have hP : P0_ g := hok g rfl
    have hmx : maxLen = 9223372036854775807 := rfl
    refine (Try.slices_Compact_int g 0 cap l0 w (holds_of_blockI hheap (by rw [Nat.mul_one] at ht; exact ht)) (by omega) hn).mono ?_
    rintro e w' ⟨rfl, q, rfl⟩
    have hle := Lib.compact_length_le l0
    generalize hD : Lib.compact l0 ++ List.replicate (l0.length - (Lib.compact l0).length) 0 = D
    have hl : D.length = l0.length := by rw [← hD]; simp; omega
    have e0 : Go.Sort.putRow (Value.int .i64) (Go.Sort.ahead w q) g 0 D.toArray = Go.Sort.grow (Go.Sort.putRow (Value.int .i64) (Go.Sort.ahead w q) g 0 D.toArray) #[] := (Go.Sort.grow_empty _).symm
    rw [e0]
    have hg := grownBy_sortedI (w := w) (g := g) (n := q) (os := #[]) D.toArray
    refine ⟨_, rfl, Kd.R_of_own ?_ (fun k hk => ?_), hB.grown hg hB.size (fun k hk => ?_), Kept.of_grown hg (Kept.refl _ _) (fun k hk => ?_)⟩
    · have h9 := ownsRow_sortedI (n := q) (os := #[]) hl hbase hheap hn hm hs
      have h8 := own_take h9 (m := (Lib.compact l0).length) hle
      rw [← hD] at h8 ⊢
      rw [Nat.mul_one, List.map_append, List.take_left' (by simp)] at h8
      exact h8
    · cases hk; exact .inl hP
    · cases hk; exact hbase
    · cases hk; exact .inl hP

end Go.Proofs.Ytlnmiafahjddhad.PFnFrames
