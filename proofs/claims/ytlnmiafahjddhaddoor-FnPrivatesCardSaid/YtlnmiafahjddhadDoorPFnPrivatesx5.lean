-- Written by a program out of the translation, for this claim.
import Derived.Test.YtlnmiafahjddhadDoorPFnPrivatesx0
import Derived.Test.YtlnmiafahjddhadDoorPFnPrivatesx1
import Derived.Test.YtlnmiafahjddhadDoorPFnPrivatesx3
import Derived.Test.YtlnmiafahjddhadDoorPFnPrivatesx4
namespace Go.Proofs.YtlnmiafahjddhadDoor.PFnPrivates
open Go.RowKit Go.Proofs.YtlnmiafahjddhadDoorW.PrintWords Go.Proofs.YtlnmiafahjddhadDoorW.PrintLast Go.Proofs.YtlnmiafahjddhadDoorW.PrintMore
attribute [local go_sem] max2_int min2_int max_two min_two max_three min_three max_four min_four   -- for this text's walks alone
set_option linter.unusedVariables false
set_option linter.unusedSimpArgs false

/-! ### impl_PrivateName: function 20 -/
def impl_PrivateName.f (k : Nat) (a0 : Int) (a1 : ByteArray) : Option (ByteArray) := (impl_inRange.f a0 1 9).bind fun t104 => (if t104 = true then ((impl_NameOk.f k a1).bind fun t105 => (if t105 = true then ((impl_Decimal.f a0).bind fun t106 => (if 1 + t106.size ≤ 9223372036854775807 then (if 1 + t106.size + 1 ≤ 9223372036854775807 then (if 1 + t106.size + 1 + a1.size ≤ 9223372036854775807 then (some ((((⟨#[35]⟩ : ByteArray) ++ t106) ++ (⟨#[35]⟩ : ByteArray)) ++ a1)) else (none)) else (none)) else (none))) else (some (⟨#[]⟩ : ByteArray)))) else (some (⟨#[]⟩ : ByteArray)))
theorem impl_PrivateName.mono : ∀ a0 a1 k, LeO (impl_PrivateName.f k a0 a1) (impl_PrivateName.f (k + 1) a0 a1) := by
  intro a0 a1 k
  unfold impl_PrivateName.f
  repeat' first
      | (with_reducible exact impl_NameOk.mono _ _)
      | (with_reducible exact LeO.refl _)
      | (with_reducible exact LeO.none _)
      | (with_reducible refine LeO.ite ?_ ?_)
      | (with_reducible refine LeO.bind ?_ (fun _ => ?_))
      | exact impl_NameOk.mono _ _
      | exact LeO.none _
      | refine LeO.ite ?_ ?_
      | refine LeO.bind ?_ (fun _ => ?_)
set_option maxHeartbeats 8000000 in
set_option maxRecDepth 100000 in
theorem impl_PrivateName.calls (k : Nat) (a0 : Int) (a1 : ByteArray) (r : ByteArray) (w : World) (hT : Lib.TabBelow Tryd.prog w.heap.size w "internal/strconv.uint64pow10" .u64 Lib.pow10Tab) (h : impl_PrivateName.f k a0 a1 = some r) :
    Calls Tryd.prog 20 #[.int .i64 a0, .string a1] w fun e w' => e = .returned (.string r) ∧ Below w.heap.size w w' := by
  have HT := Aside0.mk hT
  clear hT
  have HB := Aside0.mk (Below.refl w.heap.size w)
  have H : ((impl_inRange.f a0 1 9).bind fun t104 => (if t104 = true then ((impl_NameOk.f k a1).bind fun t105 => (if t105 = true then ((impl_Decimal.f a0).bind fun t106 => (if 1 + t106.size ≤ 9223372036854775807 then (if 1 + t106.size + 1 ≤ 9223372036854775807 then (if 1 + t106.size + 1 + a1.size ≤ 9223372036854775807 then (some ((((⟨#[35]⟩ : ByteArray) ++ t106) ++ (⟨#[35]⟩ : ByteArray)) ++ a1)) else (none)) else (none)) else (none))) else (some (⟨#[]⟩ : ByteArray)))) else (some (⟨#[]⟩ : ByteArray)))) = some r := h
  clear h
  replace H := Option.bind_eq_some_iff.mp H
  obtain ⟨t104, A30, H⟩ := H
  replace H : (if t104 = true then ((impl_NameOk.f k a1).bind fun t105 => (if t105 = true then ((impl_Decimal.f a0).bind fun t106 => (if 1 + t106.size ≤ 9223372036854775807 then (if 1 + t106.size + 1 ≤ 9223372036854775807 then (if 1 + t106.size + 1 + a1.size ≤ 9223372036854775807 then (some ((((⟨#[35]⟩ : ByteArray) ++ t106) ++ (⟨#[35]⟩ : ByteArray)) ++ a1)) else (none)) else (none)) else (none))) else (some (⟨#[]⟩ : ByteArray)))) else (some (⟨#[]⟩ : ByteArray))) = some r := H
  have A3 := Aside0.mk A30
  clear A30
  by_cases c4 : t104 = true
  · subst c4
    have H1 : ((impl_NameOk.f k a1).bind fun t105 => (if t105 = true then ((impl_Decimal.f a0).bind fun t106 => (if 1 + t106.size ≤ 9223372036854775807 then (if 1 + t106.size + 1 ≤ 9223372036854775807 then (if 1 + t106.size + 1 + a1.size ≤ 9223372036854775807 then (some ((((⟨#[35]⟩ : ByteArray) ++ t106) ++ (⟨#[35]⟩ : ByteArray)) ++ a1)) else (none)) else (none)) else (none))) else (some (⟨#[]⟩ : ByteArray)))) = some r := by rw [if_pos rfl] at H; exact H
    clear H
    have H := H1
    clear H1
    replace H := Option.bind_eq_some_iff.mp H
    obtain ⟨t105, A50, H⟩ := H
    replace H : (if t105 = true then ((impl_Decimal.f a0).bind fun t106 => (if 1 + t106.size ≤ 9223372036854775807 then (if 1 + t106.size + 1 ≤ 9223372036854775807 then (if 1 + t106.size + 1 + a1.size ≤ 9223372036854775807 then (some ((((⟨#[35]⟩ : ByteArray) ++ t106) ++ (⟨#[35]⟩ : ByteArray)) ++ a1)) else (none)) else (none)) else (none))) else (some (⟨#[]⟩ : ByteArray))) = some r := H
    have A5 := Aside0.mk A50
    clear A50
    by_cases c6 : t105 = true
    · subst c6
      have H1 : ((impl_Decimal.f a0).bind fun t106 => (if 1 + t106.size ≤ 9223372036854775807 then (if 1 + t106.size + 1 ≤ 9223372036854775807 then (if 1 + t106.size + 1 + a1.size ≤ 9223372036854775807 then (some ((((⟨#[35]⟩ : ByteArray) ++ t106) ++ (⟨#[35]⟩ : ByteArray)) ++ a1)) else (none)) else (none)) else (none))) = some r := by rw [if_pos rfl] at H; exact H
      clear H
      have H := H1
      clear H1
      replace H := Option.bind_eq_some_iff.mp H
      obtain ⟨t106, A70, H⟩ := H
      replace H : (if 1 + t106.size ≤ 9223372036854775807 then (if 1 + t106.size + 1 ≤ 9223372036854775807 then (if 1 + t106.size + 1 + a1.size ≤ 9223372036854775807 then (some ((((⟨#[35]⟩ : ByteArray) ++ t106) ++ (⟨#[35]⟩ : ByteArray)) ++ a1)) else (none)) else (none)) else (none)) = some r := H
      have A7 := Aside0.mk A70
      clear A70
      by_cases c8 : 1 + t106.size ≤ 9223372036854775807
      · rw [if_pos c8] at H
        have c8b0 := eq_true c8
        have c8b1 : decide (1 + t106.size ≤ 9223372036854775807) = true := decide_eq_true c8
        try have c8b2 : (9223372036854775807 < 1 + t106.size) = False := eq_false (Nat.not_lt.2 c8)
        by_cases c9 : 1 + t106.size + 1 ≤ 9223372036854775807
        · rw [if_pos c9] at H
          have c9b0 := eq_true c9
          have c9b1 : decide (1 + t106.size + 1 ≤ 9223372036854775807) = true := decide_eq_true c9
          try have c9b2 : (9223372036854775807 < 1 + t106.size + 1) = False := eq_false (Nat.not_lt.2 c9)
          by_cases c10 : 1 + t106.size + 1 + a1.size ≤ 9223372036854775807
          · rw [if_pos c10] at H
            have c10b0 := eq_true c10
            have c10b1 : decide (1 + t106.size + 1 + a1.size ≤ 9223372036854775807) = true := decide_eq_true c10
            try have c10b2 : (9223372036854775807 < 1 + t106.size + 1 + a1.size) = False := eq_false (Nat.not_lt.2 c10)
            obtain rfl := Option.some.inj H
            go_enter Tryd.func20, Tryd.ntmps20
            go_wp2_with (first | ((with_reducible refine gate_callee (f := 35) rfl ?_); refine goesL_ (some 6) rfl rfl Tryd.func35 (by kernel_rfl) rfl #[.int .i64 a0, .int .i64 1, .int .i64 9] rfl (by (try simp only [List.map_toArray, List.map_cons, List.map_nil]); first | done | rfl | (simp only [List.length_drop, List.length_take]; rfl)) ?_; (with_reducible refine (impl_inRange.calls a0 1 9 true _ A3.out).mono ?_); rintro e w' ⟨rfl, ⟨nd, rfl⟩⟩; refine ⟨_, rfl, ?_⟩) | (go_at_call 21; (with_reducible refine (impl_NameOk.calls k a1 true _ A5.out).mono ?_); rintro e w' ⟨rfl, ⟨nd, rfl⟩⟩) | ((with_reducible refine gate_callee (f := 11) rfl ?_); refine goesL_ (some 14) rfl rfl Tryd.func11 (by kernel_rfl) rfl #[.int .i64 a0] rfl (by (try simp only [List.map_toArray, List.map_cons, List.map_nil]); first | done | rfl | (simp only [List.length_drop, List.length_take]; rfl)) ?_; (with_reducible refine (impl_Decimal.calls a0 t106 _ ?side1 A7.out).mono ?_); (case side1 => exact tab_go HT.out (by repeat (first | (with_reducible first | exact HB.out | apply below_alloc | apply pw_below_drewN | apply below_drew1) | exact HB.out))); rintro e w11 ⟨rfl, hb⟩; refine ⟨_, rfl, ?_⟩; have n0_ := Aside0.mk (below_step (by repeat (first | (with_reducible first | exact HB.out | apply below_alloc | apply pw_below_drewN | apply below_drew1) | exact HB.out)) hb); clear HB; have HB := n0_; clear n0_; (try clear hb); (try clear hb2); (try clear hk); (try clear hi)))
            go_ret
            exact ⟨by first | rfl | (simp [errW_none, errW_some] <;> rfl) | (simp [*, errW_none, errW_some] <;> rfl), by repeat (first | (with_reducible first | exact HB.out | apply below_alloc | apply pw_below_drewN | apply below_drew1) | exact HB.out)⟩
          · rw [if_neg c10] at H
            exact absurd H (by simp)
        · rw [if_neg c9] at H
          exact absurd H (by simp)
      · rw [if_neg c8] at H
        exact absurd H (by simp)
    · replace c6 := Bool.eq_false_iff.mpr c6
      subst c6
      have H1 : (some (⟨#[]⟩ : ByteArray)) = some r := by rw [if_neg (show ¬ (false = true) by decide)] at H; exact H
      clear H
      have H := H1
      clear H1
      obtain rfl := Option.some.inj H
      go_enter Tryd.func20, Tryd.ntmps20
      go_wp2_with (first | ((with_reducible refine gate_callee (f := 35) rfl ?_); refine goesL_ (some 6) rfl rfl Tryd.func35 (by kernel_rfl) rfl #[.int .i64 a0, .int .i64 1, .int .i64 9] rfl (by (try simp only [List.map_toArray, List.map_cons, List.map_nil]); first | done | rfl | (simp only [List.length_drop, List.length_take]; rfl)) ?_; (with_reducible refine (impl_inRange.calls a0 1 9 true _ A3.out).mono ?_); rintro e w' ⟨rfl, ⟨nd, rfl⟩⟩; refine ⟨_, rfl, ?_⟩) | (go_at_call 21; (with_reducible refine (impl_NameOk.calls k a1 false _ A5.out).mono ?_); rintro e w' ⟨rfl, ⟨nd, rfl⟩⟩))
      go_ret
      exact ⟨by first | rfl | (simp [errW_none, errW_some] <;> rfl) | (simp [*, errW_none, errW_some] <;> rfl), by repeat (first | (with_reducible first | exact HB.out | apply below_alloc | apply pw_below_drewN | apply below_drew1) | exact HB.out)⟩
  · replace c4 := Bool.eq_false_iff.mpr c4
    subst c4
    have H1 : (some (⟨#[]⟩ : ByteArray)) = some r := by rw [if_neg (show ¬ (false = true) by decide)] at H; exact H
    clear H
    have H := H1
    clear H1
    obtain rfl := Option.some.inj H
    go_enter Tryd.func20, Tryd.ntmps20
    go_wp2_with (first | ((with_reducible refine gate_callee (f := 35) rfl ?_); refine goesL_ (some 6) rfl rfl Tryd.func35 (by kernel_rfl) rfl #[.int .i64 a0, .int .i64 1, .int .i64 9] rfl (by (try simp only [List.map_toArray, List.map_cons, List.map_nil]); first | done | rfl | (simp only [List.length_drop, List.length_take]; rfl)) ?_; (with_reducible refine (impl_inRange.calls a0 1 9 false _ A3.out).mono ?_); rintro e w' ⟨rfl, ⟨nd, rfl⟩⟩; refine ⟨_, rfl, ?_⟩))
    go_ret
    exact ⟨by first | rfl | (simp [errW_none, errW_some] <;> rfl) | (simp [*, errW_none, errW_some] <;> rfl), by repeat (first | (with_reducible first | exact HB.out | apply below_alloc | apply pw_below_drewN | apply below_drew1) | exact HB.out)⟩

/-! ### strings_Split: function 32, by hand -/
def strings_Split.f (a0 : ByteArray) (a1 : ByteArray) : Option (List ByteArray) := if a0.size < 4294967281 ∧ 1 ≤ a1.size then some (Lib.splitB a1 0 (Lib.countB a0 a1) a0) else none
theorem strings_Split.calls (a0 : ByteArray) (a1 : ByteArray) (r : List ByteArray) (w : World) (hM : MaxBelow w 0) (h : strings_Split.f a0 a1 = some r) :
    Calls Tryd.prog 32 #[.string a0, .string a1] w fun e w' => ∃ v0_ : Value, e = .returned (v0_) ∧ Kd.R Kd.string 9 w' w.heap.size (fun _ => True) v0_ r ∧ Below w.heap.size w w' := by
  unfold strings_Split.f at h
  by_cases hb : a0.size < 4294967281 ∧ 1 ≤ a1.size
  · rw [if_pos hb] at h
    obtain rfl := Option.some.inj h
    obtain ⟨m, hm⟩ := hM w (Below.refl _ _)
    refine (Tryd.strings_Split a0 a1 m w hb.1 hm hb.2).mono ?_
    rintro e w' ⟨rfl, rfl⟩
    have hl := Lib.splitB_all a1 hb.2 0 _ a0 rfl
    have hc := Lib.countB_le a1 hb.2 a0.size a0 (Nat.le_refl _)
    have hx : maxLen = 9223372036854775807 := rfl
    refine ⟨_, rfl, ?_, (Below.refl _ _).alloc (Nat.le_refl _) _⟩
    rw [← hl]
    refine Kd.R_of_own ?_ (fun _ _ => trivial)
    have h2 := World.ownsRow_lit (base := w.heap.size) (e := 9) (size := 1) w ((Lib.splitB a1 0 (Lib.countB a0 a1) a0).map Value.string).toArray (Lib.splitB a1 0 (Lib.countB a0 a1) a0).length (Nat.le_refl _) (by omega) (by simp)
    simpa [encs] using h2
  · rw [if_neg hb] at h; cases h

end Go.Proofs.YtlnmiafahjddhadDoor.PFnPrivates
