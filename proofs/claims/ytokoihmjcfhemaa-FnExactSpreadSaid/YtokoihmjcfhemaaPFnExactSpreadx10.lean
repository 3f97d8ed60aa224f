-- Written by a program out of the translation, for this claim.
import Derived.Test.YtokoihmjcfhemaaPFnExactSpreadx0
import Derived.Test.YtokoihmjcfhemaaPFnExactSpreadx8
import Derived.Test.YtokoihmjcfhemaaPFnExactSpreadx9
namespace Go.Proofs.Ytokoihmjcfhemaa.PFnExactSpread
open Go.RowKit Go.Proofs.YtokoihmjcfhemaaW.PrintWords Go.Proofs.YtokoihmjcfhemaaW.PrintLast Go.Proofs.YtokoihmjcfhemaaW.PrintMore
attribute [local go_sem] max2_int min2_int max_two min_two max_three min_three max_four min_four   -- for this text's walks alone
set_option linter.unusedVariables false
set_option linter.unusedSimpArgs false
theorem rrA10 {p q : Prop} (h : p) (f : p → q := by (intro h_; (with_reducible repeat (first | apply Kd.R_alloc | apply Kd.R_drewN | apply Kd.R_drew)); exact h_)) : q := f h

/-! ### spec_Distances: function 9 -/
mutual
def spec_Distances.j0 : Nat → Int → List (S38) → Int → List Int → Bool → Option (List Int)
  | 0, _, _, _, _, _ => none
  | k + 1, x0, x1, x2, x7, x23 => if x23 = true then (some x7) else (spec_Distances.l0 k x0 x1 x2 x7 0)
def spec_Distances.l0 : Nat → Int → List (S38) → Int → List Int → Int → Option (List Int)
  | 0, _, _, _, _, _ => none
  | k + 1, x0, x1, x2, x7, x8 => if x8 < x0 then (if x7.length < 17592186044416 then (spec_Distances.l0 k x0 x1 x2 (x7 ++ [(-1)]) (wrap64 (x8 + 1))) else (none)) else (if 0 ≤ x2 then (if x2 < (x7.length : Int) then (spec_Distances.l1 k x0 x1 (x7.set (x2 : Int).toNat 0) 0) else (none)) else (none))
def spec_Distances.l1 : Nat → Int → List (S38) → List Int → Int → Option (List Int)
  | 0, _, _, _, _ => none
  | k + 1, x0, x1, x7, x9 => if x9 < x0 then (spec_Distances.l2 k x0 x1 x7 x9 0) else (some x7)
def spec_Distances.l2 : Nat → Int → List (S38) → List Int → Int → Int → Option (List Int)
  | 0, _, _, _, _, _ => none
  | k + 1, x0, x1, x7, x9, x10 => if x10 < (x1.length : Int) then (if 0 ≤ x10 then (if 0 ≤ ((rd_T38 x1 x10).f0) then (if ((rd_T38 x1 x10).f0) < (x7.length : Int) then (if (rd x7 ((rd_T38 x1 x10).f0)) ≥ 0 then (if 0 ≤ ((rd_T38 x1 x10).f1) then (if ((rd_T38 x1 x10).f1) < (x7.length : Int) then (if (rd x7 ((rd_T38 x1 x10).f1)) < 0 then (spec_Distances.j4 k x0 x1 x7 x9 x10 true ((rd_T38 x1 x10).f0) ((rd_T38 x1 x10).f1) ((rd_T38 x1 x10).f2)) else (spec_Distances.j4 k x0 x1 x7 x9 x10 (decide ((wrap64 ((rd x7 ((rd_T38 x1 x10).f0)) + ((rd_T38 x1 x10).f2))) < (rd x7 ((rd_T38 x1 x10).f1)))) ((rd_T38 x1 x10).f0) ((rd_T38 x1 x10).f1) ((rd_T38 x1 x10).f2))) else (none)) else (none)) else (spec_Distances.j4 k x0 x1 x7 x9 x10 false ((rd_T38 x1 x10).f0) ((rd_T38 x1 x10).f1) ((rd_T38 x1 x10).f2))) else (none)) else (none)) else (none)) else (spec_Distances.l1 k x0 x1 x7 (wrap64 (x9 + 1)))
def spec_Distances.j4 : Nat → Int → List (S38) → List Int → Int → Int → Bool → Int → Int → Int → Option (List Int)
  | 0, _, _, _, _, _, _, _, _, _ => none
  | k + 1, x0, x1, x7, x9, x10, x80, x146000, x146001, x146002 => if x80 = true then (if 0 ≤ x146000 then (if x146000 < (x7.length : Int) then (if 0 ≤ x146001 then (if x146001 < (x7.length : Int) then (spec_Distances.j5 k x0 x1 (x7.set (x146001 : Int).toNat (wrap64 ((rd x7 x146000) + x146002))) x9 x10 x146000 x146001 x146002) else (none)) else (none)) else (none)) else (none)) else (spec_Distances.j5 k x0 x1 x7 x9 x10 x146000 x146001 x146002)
def spec_Distances.j5 : Nat → Int → List (S38) → List Int → Int → Int → Int → Int → Int → Option (List Int)
  | 0, _, _, _, _, _, _, _, _ => none
  | k + 1, x0, x1, x7, x9, x10, x146000, x146001, x146002 => if 0 ≤ x146001 then (if x146001 < (x7.length : Int) then (if (rd x7 x146001) ≥ 0 then (if 0 ≤ x146000 then (if x146000 < (x7.length : Int) then (if (rd x7 x146000) < 0 then (spec_Distances.j6 k x0 x1 x7 x9 x10 true x146000 x146001 x146002) else (spec_Distances.j6 k x0 x1 x7 x9 x10 (decide ((wrap64 ((rd x7 x146001) + x146002)) < (rd x7 x146000))) x146000 x146001 x146002)) else (none)) else (none)) else (spec_Distances.j6 k x0 x1 x7 x9 x10 false x146000 x146001 x146002)) else (none)) else (none)
def spec_Distances.j6 : Nat → Int → List (S38) → List Int → Int → Int → Bool → Int → Int → Int → Option (List Int)
  | 0, _, _, _, _, _, _, _, _, _ => none
  | k + 1, x0, x1, x7, x9, x10, x122, x146000, x146001, x146002 => if x122 = true then (if 0 ≤ x146001 then (if x146001 < (x7.length : Int) then (if 0 ≤ x146000 then (if x146000 < (x7.length : Int) then (spec_Distances.l2 k x0 x1 (x7.set (x146000 : Int).toNat (wrap64 ((rd x7 x146001) + x146002))) x9 (wrap64 (x10 + 1))) else (none)) else (none)) else (none)) else (none)) else (spec_Distances.l2 k x0 x1 x7 x9 (wrap64 (x10 + 1)))
end
def spec_Distances.f (k : Nat) (a0 : Int) (l1 : List (S38)) (a2 : Int) : Option (List Int) := (some (([] : List Int) : List Int)).bind fun y135 => ((spec_RoadsOk.f k a0 l1).bind fun t138 => (if t138 = true then ((spec_l01In.f a2 0 (wrap64 (a0 - 1))).bind fun t139 => (spec_Distances.j0 k a0 l1 a2 y135 (!t139))) else (spec_Distances.j0 k a0 l1 a2 y135 true)))
theorem spec_Distances.mono_l : ∀ k, (∀ y0 y1 y2 y3 y4, LeO (spec_Distances.j0 k y0 y1 y2 y3 y4) (spec_Distances.j0 (k + 1) y0 y1 y2 y3 y4)) ∧ (∀ y0 y1 y2 y3 y4, LeO (spec_Distances.l0 k y0 y1 y2 y3 y4) (spec_Distances.l0 (k + 1) y0 y1 y2 y3 y4)) ∧ (∀ y0 y1 y2 y3, LeO (spec_Distances.l1 k y0 y1 y2 y3) (spec_Distances.l1 (k + 1) y0 y1 y2 y3)) ∧ (∀ y0 y1 y2 y3 y4, LeO (spec_Distances.l2 k y0 y1 y2 y3 y4) (spec_Distances.l2 (k + 1) y0 y1 y2 y3 y4)) ∧ (∀ y0 y1 y2 y3 y4 y5 y6 y7 y8, LeO (spec_Distances.j4 k y0 y1 y2 y3 y4 y5 y6 y7 y8) (spec_Distances.j4 (k + 1) y0 y1 y2 y3 y4 y5 y6 y7 y8)) ∧ (∀ y0 y1 y2 y3 y4 y5 y6 y7, LeO (spec_Distances.j5 k y0 y1 y2 y3 y4 y5 y6 y7) (spec_Distances.j5 (k + 1) y0 y1 y2 y3 y4 y5 y6 y7)) ∧ (∀ y0 y1 y2 y3 y4 y5 y6 y7 y8, LeO (spec_Distances.j6 k y0 y1 y2 y3 y4 y5 y6 y7 y8) (spec_Distances.j6 (k + 1) y0 y1 y2 y3 y4 y5 y6 y7 y8))
  | 0 => ⟨fun _ _ _ _ _ r h => by simp [spec_Distances.j0] at h, fun _ _ _ _ _ r h => by simp [spec_Distances.l0] at h, fun _ _ _ _ r h => by simp [spec_Distances.l1] at h, fun _ _ _ _ _ r h => by simp [spec_Distances.l2] at h, fun _ _ _ _ _ _ _ _ _ r h => by simp [spec_Distances.j4] at h, fun _ _ _ _ _ _ _ _ r h => by simp [spec_Distances.j5] at h, fun _ _ _ _ _ _ _ _ _ r h => by simp [spec_Distances.j6] at h⟩
  | k + 1 => by
   obtain ⟨ih0, ih1, ih2, ih3, ih4, ih5, ih6⟩ := spec_Distances.mono_l k
   refine ⟨?_, ?_, ?_, ?_, ?_, ?_, ?_⟩
   ·
    intro y0 y1 y2 y3 y4
    unfold spec_Distances.j0
    repeat' first
    | (with_reducible exact ih0 _ _ _ _ _)
    | (with_reducible exact ih1 _ _ _ _ _)
    | (with_reducible exact ih2 _ _ _ _)
    | (with_reducible exact ih3 _ _ _ _ _)
    | (with_reducible exact ih4 _ _ _ _ _ _ _ _ _)
    | (with_reducible exact ih5 _ _ _ _ _ _ _ _)
    | (with_reducible exact ih6 _ _ _ _ _ _ _ _ _)
    | (with_reducible exact spec_RoadsOk.mono _ _ _)
    | (with_reducible exact LeO.refl _)
    | (with_reducible exact LeO.none _)
    | (with_reducible refine LeO.ite ?_ ?_)
    | (with_reducible refine LeO.bind ?_ (fun _ => ?_))
    | exact ih0 _ _ _ _ _
    | exact ih1 _ _ _ _ _
    | exact ih2 _ _ _ _
    | exact ih3 _ _ _ _ _
    | exact ih4 _ _ _ _ _ _ _ _ _
    | exact ih5 _ _ _ _ _ _ _ _
    | exact ih6 _ _ _ _ _ _ _ _ _
    | exact spec_RoadsOk.mono _ _ _
    | exact LeO.none _
    | refine LeO.ite ?_ ?_
    | refine LeO.bind ?_ (fun _ => ?_)
   ·
    intro y0 y1 y2 y3 y4
    unfold spec_Distances.l0
    repeat' first
    | (with_reducible exact ih0 _ _ _ _ _)
    | (with_reducible exact ih1 _ _ _ _ _)
    | (with_reducible exact ih2 _ _ _ _)
    | (with_reducible exact ih3 _ _ _ _ _)
    | (with_reducible exact ih4 _ _ _ _ _ _ _ _ _)
    | (with_reducible exact ih5 _ _ _ _ _ _ _ _)
    | (with_reducible exact ih6 _ _ _ _ _ _ _ _ _)
    | (with_reducible exact spec_RoadsOk.mono _ _ _)
    | (with_reducible exact LeO.refl _)
    | (with_reducible exact LeO.none _)
    | (with_reducible refine LeO.ite ?_ ?_)
    | (with_reducible refine LeO.bind ?_ (fun _ => ?_))
    | exact ih0 _ _ _ _ _
    | exact ih1 _ _ _ _ _
    | exact ih2 _ _ _ _
    | exact ih3 _ _ _ _ _
    | exact ih4 _ _ _ _ _ _ _ _ _
    | exact ih5 _ _ _ _ _ _ _ _
    | exact ih6 _ _ _ _ _ _ _ _ _
    | exact spec_RoadsOk.mono _ _ _
    | exact LeO.none _
    | refine LeO.ite ?_ ?_
    | refine LeO.bind ?_ (fun _ => ?_)
   ·
    intro y0 y1 y2 y3
    unfold spec_Distances.l1
    repeat' first
    | (with_reducible exact ih0 _ _ _ _ _)
    | (with_reducible exact ih1 _ _ _ _ _)
    | (with_reducible exact ih2 _ _ _ _)
    | (with_reducible exact ih3 _ _ _ _ _)
    | (with_reducible exact ih4 _ _ _ _ _ _ _ _ _)
    | (with_reducible exact ih5 _ _ _ _ _ _ _ _)
    | (with_reducible exact ih6 _ _ _ _ _ _ _ _ _)
    | (with_reducible exact spec_RoadsOk.mono _ _ _)
    | (with_reducible exact LeO.refl _)
    | (with_reducible exact LeO.none _)
    | (with_reducible refine LeO.ite ?_ ?_)
    | (with_reducible refine LeO.bind ?_ (fun _ => ?_))
    | exact ih0 _ _ _ _ _
    | exact ih1 _ _ _ _ _
    | exact ih2 _ _ _ _
    | exact ih3 _ _ _ _ _
    | exact ih4 _ _ _ _ _ _ _ _ _
    | exact ih5 _ _ _ _ _ _ _ _
    | exact ih6 _ _ _ _ _ _ _ _ _
    | exact spec_RoadsOk.mono _ _ _
    | exact LeO.none _
    | refine LeO.ite ?_ ?_
    | refine LeO.bind ?_ (fun _ => ?_)
   ·
    intro y0 y1 y2 y3 y4
    unfold spec_Distances.l2
    repeat' first
    | (with_reducible exact ih0 _ _ _ _ _)
    | (with_reducible exact ih1 _ _ _ _ _)
    | (with_reducible exact ih2 _ _ _ _)
    | (with_reducible exact ih3 _ _ _ _ _)
    | (with_reducible exact ih4 _ _ _ _ _ _ _ _ _)
    | (with_reducible exact ih5 _ _ _ _ _ _ _ _)
    | (with_reducible exact ih6 _ _ _ _ _ _ _ _ _)
    | (with_reducible exact spec_RoadsOk.mono _ _ _)
    | (with_reducible exact LeO.refl _)
    | (with_reducible exact LeO.none _)
    | (with_reducible refine LeO.ite ?_ ?_)
    | (with_reducible refine LeO.bind ?_ (fun _ => ?_))
    | exact ih0 _ _ _ _ _
    | exact ih1 _ _ _ _ _
    | exact ih2 _ _ _ _
    | exact ih3 _ _ _ _ _
    | exact ih4 _ _ _ _ _ _ _ _ _
    | exact ih5 _ _ _ _ _ _ _ _
    | exact ih6 _ _ _ _ _ _ _ _ _
    | exact spec_RoadsOk.mono _ _ _
    | exact LeO.none _
    | refine LeO.ite ?_ ?_
    | refine LeO.bind ?_ (fun _ => ?_)
   ·
    intro y0 y1 y2 y3 y4 y5 y6 y7 y8
    unfold spec_Distances.j4
    repeat' first
    | (with_reducible exact ih0 _ _ _ _ _)
    | (with_reducible exact ih1 _ _ _ _ _)
    | (with_reducible exact ih2 _ _ _ _)
    | (with_reducible exact ih3 _ _ _ _ _)
    | (with_reducible exact ih4 _ _ _ _ _ _ _ _ _)
    | (with_reducible exact ih5 _ _ _ _ _ _ _ _)
    | (with_reducible exact ih6 _ _ _ _ _ _ _ _ _)
    | (with_reducible exact spec_RoadsOk.mono _ _ _)
    | (with_reducible exact LeO.refl _)
    | (with_reducible exact LeO.none _)
    | (with_reducible refine LeO.ite ?_ ?_)
    | (with_reducible refine LeO.bind ?_ (fun _ => ?_))
    | exact ih0 _ _ _ _ _
    | exact ih1 _ _ _ _ _
    | exact ih2 _ _ _ _
    | exact ih3 _ _ _ _ _
    | exact ih4 _ _ _ _ _ _ _ _ _
    | exact ih5 _ _ _ _ _ _ _ _
    | exact ih6 _ _ _ _ _ _ _ _ _
    | exact spec_RoadsOk.mono _ _ _
    | exact LeO.none _
    | refine LeO.ite ?_ ?_
    | refine LeO.bind ?_ (fun _ => ?_)
   ·
    intro y0 y1 y2 y3 y4 y5 y6 y7
    unfold spec_Distances.j5
    repeat' first
    | (with_reducible exact ih0 _ _ _ _ _)
    | (with_reducible exact ih1 _ _ _ _ _)
    | (with_reducible exact ih2 _ _ _ _)
    | (with_reducible exact ih3 _ _ _ _ _)
    | (with_reducible exact ih4 _ _ _ _ _ _ _ _ _)
    | (with_reducible exact ih5 _ _ _ _ _ _ _ _)
    | (with_reducible exact ih6 _ _ _ _ _ _ _ _ _)
    | (with_reducible exact spec_RoadsOk.mono _ _ _)
    | (with_reducible exact LeO.refl _)
    | (with_reducible exact LeO.none _)
    | (with_reducible refine LeO.ite ?_ ?_)
    | (with_reducible refine LeO.bind ?_ (fun _ => ?_))
    | exact ih0 _ _ _ _ _
    | exact ih1 _ _ _ _ _
    | exact ih2 _ _ _ _
    | exact ih3 _ _ _ _ _
    | exact ih4 _ _ _ _ _ _ _ _ _
    | exact ih5 _ _ _ _ _ _ _ _
    | exact ih6 _ _ _ _ _ _ _ _ _
    | exact spec_RoadsOk.mono _ _ _
    | exact LeO.none _
    | refine LeO.ite ?_ ?_
    | refine LeO.bind ?_ (fun _ => ?_)
   ·
    intro y0 y1 y2 y3 y4 y5 y6 y7 y8
    unfold spec_Distances.j6
    repeat' first
    | (with_reducible exact ih0 _ _ _ _ _)
    | (with_reducible exact ih1 _ _ _ _ _)
    | (with_reducible exact ih2 _ _ _ _)
    | (with_reducible exact ih3 _ _ _ _ _)
    | (with_reducible exact ih4 _ _ _ _ _ _ _ _ _)
    | (with_reducible exact ih5 _ _ _ _ _ _ _ _)
    | (with_reducible exact ih6 _ _ _ _ _ _ _ _ _)
    | (with_reducible exact spec_RoadsOk.mono _ _ _)
    | (with_reducible exact LeO.refl _)
    | (with_reducible exact LeO.none _)
    | (with_reducible refine LeO.ite ?_ ?_)
    | (with_reducible refine LeO.bind ?_ (fun _ => ?_))
    | exact ih0 _ _ _ _ _
    | exact ih1 _ _ _ _ _
    | exact ih2 _ _ _ _
    | exact ih3 _ _ _ _ _
    | exact ih4 _ _ _ _ _ _ _ _ _
    | exact ih5 _ _ _ _ _ _ _ _
    | exact ih6 _ _ _ _ _ _ _ _ _
    | exact spec_RoadsOk.mono _ _ _
    | exact LeO.none _
    | refine LeO.ite ?_ ?_
    | refine LeO.bind ?_ (fun _ => ?_)
theorem spec_Distances.mono : ∀ a0 a1 a2 k, LeO (spec_Distances.f k a0 a1 a2) (spec_Distances.f (k + 1) a0 a1 a2) := by
  intro a0 a1 a2 k
  obtain ⟨ih0, ih1, ih2, ih3, ih4, ih5, ih6⟩ := spec_Distances.mono_l k
  unfold spec_Distances.f
  repeat' first
    | (with_reducible exact ih0 _ _ _ _ _)
    | (with_reducible exact ih1 _ _ _ _ _)
    | (with_reducible exact ih2 _ _ _ _)
    | (with_reducible exact ih3 _ _ _ _ _)
    | (with_reducible exact ih4 _ _ _ _ _ _ _ _ _)
    | (with_reducible exact ih5 _ _ _ _ _ _ _ _)
    | (with_reducible exact ih6 _ _ _ _ _ _ _ _ _)
    | (with_reducible exact spec_RoadsOk.mono _ _ _)
    | (with_reducible exact LeO.refl _)
    | (with_reducible exact LeO.none _)
    | (with_reducible refine LeO.ite ?_ ?_)
    | (with_reducible refine LeO.bind ?_ (fun _ => ?_))
    | exact ih0 _ _ _ _ _
    | exact ih1 _ _ _ _ _
    | exact ih2 _ _ _ _
    | exact ih3 _ _ _ _ _
    | exact ih4 _ _ _ _ _ _ _ _ _
    | exact ih5 _ _ _ _ _ _ _ _
    | exact ih6 _ _ _ _ _ _ _ _ _
    | exact spec_RoadsOk.mono _ _ _
    | exact LeO.none _
    | refine LeO.ite ?_ ?_
    | refine LeO.bind ?_ (fun _ => ?_)
def spec_Distances.T16 : Bool × List (List Nat × List Nat) := (true, [([], []), ([], []), ([1], [1]), ([0, 2], [0, 2]), ([3], [3]), ([4], [4]), ([5], [5]), ([6], [6]), ([6], [6]), ([8, 6], [6, 8]), ([7, 9, 6], [6, 7, 9]), ([10, 6], [6, 10]), ([11, 6], [6, 11]), ([12, 6, 6], [6, 12]), ([13], [13]), ([13], [13]), ([15, 13], [13, 15]), ([14, 16, 13], [13, 14, 16]), ([17, 13], [13, 17]), ([13], [13]), ([19, 13], [13, 19]), ([18, 20, 13], [13, 18, 20]), ([13], [13]), ([13], [13]), ([23, 13], [13, 23]), ([22, 24, 13], [13, 22, 24]), ([25, 13], [13, 25]), ([21, 26, 13], [13, 21, 26]), ([13, 27, 6], [6, 13, 27]), ([6, 28], [6, 28])])
def spec_Distances.B16 : List Nat := [0, 0, 2, 7, 15, 31, 63, 127, 127, 383, 1023, 2047, 4095, 8191, 16383, 16383, 49151, 131071, 262143, 16383, 540671, 2097151, 16383, 16383, 8404991, 29376511, 62930943, 134217727, 268435455, 536870911]
theorem spec_Distances.tab16 : rtab .any (opsOf Try.f9 16) = spec_Distances.T16 := by kernel_rfl
theorem spec_Distances.bits16 : waitsOk spec_Distances.T16.2 spec_Distances.B16 = true := by kernel_rfl
def spec_Distances.T17 : Bool × List (List Nat × List Nat) := (true, [([], []), ([], []), ([1], [1]), ([], []), ([], []), ([4], [4]), ([3, 5], [3, 5]), ([6], [6]), ([], []), ([8], [8]), ([7, 9], [7, 9]), ([0, 2, 0, 1, 2, 3, 4, 5, 6, 7, 8, 9, 10], [0, 2]), ([11, 10, 0, 1, 2, 3, 4, 5, 6, 7, 8, 9, 10], [10, 11])])
def spec_Distances.B17 : List Nat := [0, 0, 2, 0, 0, 16, 56, 120, 0, 256, 1016, 2047, 4095]
theorem spec_Distances.tab17 : rtab .any (opsOf Try.f9 17) = spec_Distances.T17 := by kernel_rfl
theorem spec_Distances.bits17 : waitsOk spec_Distances.T17.2 spec_Distances.B17 = true := by kernel_rfl
def spec_Distances.T18 : Bool × List (List Nat × List Nat) := (true, [([], []), ([], []), ([1], [1]), ([0, 2], [0, 2]), ([3], [3]), ([4], [4]), ([5], [5]), ([6], [6]), ([6], [6]), ([8, 6], [6, 8]), ([7, 9, 6], [6, 7, 9]), ([10, 6], [6, 10]), ([11, 6], [6, 11]), ([12, 6, 6], [6, 12]), ([13], [13]), ([13], [13]), ([15, 13], [13, 15]), ([14, 16, 13], [13, 14, 16]), ([17, 13], [13, 17]), ([13], [13]), ([19, 13], [13, 19]), ([18, 20, 13], [13, 18, 20]), ([13], [13]), ([13], [13]), ([23, 13], [13, 23]), ([22, 24, 13], [13, 22, 24]), ([25, 13], [13, 25]), ([21, 26, 13], [13, 21, 26]), ([13, 27, 6], [6, 13, 27]), ([6, 28], [6, 28])])
def spec_Distances.B18 : List Nat := [0, 0, 2, 7, 15, 31, 63, 127, 127, 383, 1023, 2047, 4095, 8191, 16383, 16383, 49151, 131071, 262143, 16383, 540671, 2097151, 16383, 16383, 8404991, 29376511, 62930943, 134217727, 268435455, 536870911]
theorem spec_Distances.tab18 : rtab .any (opsOf Try.f9 18) = spec_Distances.T18 := by kernel_rfl
theorem spec_Distances.bits18 : waitsOk spec_Distances.T18.2 spec_Distances.B18 = true := by kernel_rfl
def spec_Distances.T19 : Bool × List (List Nat × List Nat) := (true, [([], []), ([], []), ([1], [1]), ([], []), ([], []), ([4], [4]), ([3, 5], [3, 5]), ([6], [6]), ([], []), ([8], [8]), ([7, 9], [7, 9]), ([0, 2, 0, 1, 2, 3, 4, 5, 6, 7, 8, 9, 10], [0, 2]), ([11, 10, 0, 1, 2, 3, 4, 5, 6, 7, 8, 9, 10], [10, 11])])
def spec_Distances.B19 : List Nat := [0, 0, 2, 0, 0, 16, 56, 120, 0, 256, 1016, 2047, 4095]
theorem spec_Distances.tab19 : rtab .any (opsOf Try.f9 19) = spec_Distances.T19 := by kernel_rfl
theorem spec_Distances.bits19 : waitsOk spec_Distances.T19.2 spec_Distances.B19 = true := by kernel_rfl
abbrev z28F : Bool := false
abbrev z28T : Bool := true
abbrev z28_0 : Array Bool := #[z28F,z28F,z28F,z28F,z28F,z28F,z28F,z28F,z28F,z28F,z28F,z28F,z28F,z28F,z28F,z28F,z28F,z28F,z28F,z28F,z28F,z28F,z28F,z28F,z28F,z28F,z28F,z28F,z28F,z28F]
abbrev z28_1 : Array Bool := #[z28T,z28F,z28F,z28F,z28F,z28F,z28F,z28F,z28F,z28F,z28F,z28F,z28F,z28F,z28F,z28F,z28F,z28F,z28F,z28F,z28F,z28F,z28F,z28F,z28F,z28F,z28F,z28F,z28F,z28F]
abbrev z28_2 : Array Bool := #[z28T,z28T,z28F,z28F,z28F,z28F,z28F,z28F,z28F,z28F,z28F,z28F,z28F,z28F,z28F,z28F,z28F,z28F,z28F,z28F,z28F,z28F,z28F,z28F,z28F,z28F,z28F,z28F,z28F,z28F]
abbrev z28_3 : Array Bool := #[z28T,z28T,z28T,z28F,z28F,z28F,z28F,z28F,z28F,z28F,z28F,z28F,z28F,z28F,z28F,z28F,z28F,z28F,z28F,z28F,z28F,z28F,z28F,z28F,z28F,z28F,z28F,z28F,z28F,z28F]
abbrev z28_4 : Array Bool := #[z28T,z28T,z28T,z28T,z28F,z28F,z28F,z28F,z28F,z28F,z28F,z28F,z28F,z28F,z28F,z28F,z28F,z28F,z28F,z28F,z28F,z28F,z28F,z28F,z28F,z28F,z28F,z28F,z28F,z28F]
abbrev z28_5 : Array Bool := #[z28T,z28T,z28T,z28T,z28T,z28F,z28F,z28F,z28F,z28F,z28F,z28F,z28F,z28F,z28F,z28F,z28F,z28F,z28F,z28F,z28F,z28F,z28F,z28F,z28F,z28F,z28F,z28F,z28F,z28F]
abbrev z28_6 : Array Bool := #[z28T,z28T,z28T,z28T,z28T,z28T,z28F,z28F,z28F,z28F,z28F,z28F,z28F,z28F,z28F,z28F,z28F,z28F,z28F,z28F,z28F,z28F,z28F,z28F,z28F,z28F,z28F,z28F,z28F,z28F]
abbrev z28_7 : Array Bool := #[z28T,z28T,z28T,z28T,z28T,z28T,z28T,z28F,z28F,z28F,z28F,z28F,z28F,z28F,z28F,z28F,z28F,z28F,z28F,z28F,z28F,z28F,z28F,z28F,z28F,z28F,z28F,z28F,z28F,z28F]
abbrev z28_8 : Array Bool := #[z28T,z28T,z28T,z28T,z28T,z28T,z28T,z28T,z28F,z28F,z28F,z28F,z28F,z28F,z28F,z28F,z28F,z28F,z28F,z28F,z28F,z28F,z28F,z28F,z28F,z28F,z28F,z28F,z28F,z28F]
abbrev z28_9 : Array Bool := #[z28T,z28T,z28T,z28T,z28T,z28T,z28T,z28T,z28T,z28F,z28F,z28F,z28F,z28F,z28F,z28F,z28F,z28F,z28F,z28F,z28F,z28F,z28F,z28F,z28F,z28F,z28F,z28F,z28F,z28F]
abbrev z28_10 : Array Bool := #[z28T,z28T,z28T,z28T,z28T,z28T,z28T,z28T,z28T,z28T,z28F,z28F,z28F,z28F,z28F,z28F,z28F,z28F,z28F,z28F,z28F,z28F,z28F,z28F,z28F,z28F,z28F,z28F,z28F,z28F]
abbrev z28_11 : Array Bool := #[z28T,z28T,z28T,z28T,z28T,z28T,z28T,z28T,z28T,z28T,z28T,z28F,z28F,z28F,z28F,z28F,z28F,z28F,z28F,z28F,z28F,z28F,z28F,z28F,z28F,z28F,z28F,z28F,z28F,z28F]
abbrev z28_12 : Array Bool := #[z28T,z28T,z28T,z28T,z28T,z28T,z28T,z28T,z28T,z28T,z28T,z28T,z28F,z28F,z28F,z28F,z28F,z28F,z28F,z28F,z28F,z28F,z28F,z28F,z28F,z28F,z28F,z28F,z28F,z28F]
abbrev z28_13 : Array Bool := #[z28T,z28T,z28T,z28T,z28T,z28T,z28T,z28T,z28T,z28T,z28T,z28T,z28T,z28F,z28F,z28F,z28F,z28F,z28F,z28F,z28F,z28F,z28F,z28F,z28F,z28F,z28F,z28F,z28F,z28F]
abbrev z28_14 : Array Bool := #[z28T,z28T,z28T,z28T,z28T,z28T,z28T,z28T,z28T,z28T,z28T,z28T,z28T,z28T,z28F,z28F,z28F,z28F,z28F,z28F,z28F,z28F,z28F,z28F,z28F,z28F,z28F,z28F,z28F,z28F]
abbrev z28_15 : Array Bool := #[z28T,z28T,z28T,z28T,z28T,z28T,z28T,z28T,z28T,z28T,z28T,z28T,z28T,z28T,z28T,z28F,z28F,z28F,z28F,z28F,z28F,z28F,z28F,z28F,z28F,z28F,z28F,z28F,z28F,z28F]
abbrev z28_16 : Array Bool := #[z28T,z28T,z28T,z28T,z28T,z28T,z28T,z28T,z28T,z28T,z28T,z28T,z28T,z28T,z28T,z28T,z28F,z28F,z28F,z28F,z28F,z28F,z28F,z28F,z28F,z28F,z28F,z28F,z28F,z28F]
abbrev z28_17 : Array Bool := #[z28T,z28T,z28T,z28T,z28T,z28T,z28T,z28T,z28T,z28T,z28T,z28T,z28T,z28T,z28T,z28T,z28T,z28F,z28F,z28F,z28F,z28F,z28F,z28F,z28F,z28F,z28F,z28F,z28F,z28F]
abbrev z28_18 : Array Bool := #[z28T,z28T,z28T,z28T,z28T,z28T,z28T,z28T,z28T,z28T,z28T,z28T,z28T,z28T,z28T,z28T,z28T,z28T,z28F,z28F,z28F,z28F,z28F,z28F,z28F,z28F,z28F,z28F,z28F,z28F]
abbrev z28_19 : Array Bool := #[z28T,z28T,z28T,z28T,z28T,z28T,z28T,z28T,z28T,z28T,z28T,z28T,z28T,z28T,z28T,z28T,z28T,z28T,z28T,z28F,z28F,z28F,z28F,z28F,z28F,z28F,z28F,z28F,z28F,z28F]
abbrev z28_20 : Array Bool := #[z28T,z28T,z28T,z28T,z28T,z28T,z28T,z28T,z28T,z28T,z28T,z28T,z28T,z28T,z28T,z28T,z28T,z28T,z28T,z28T,z28F,z28F,z28F,z28F,z28F,z28F,z28F,z28F,z28F,z28F]
abbrev z28_21 : Array Bool := #[z28T,z28T,z28T,z28T,z28T,z28T,z28T,z28T,z28T,z28T,z28T,z28T,z28T,z28T,z28T,z28T,z28T,z28T,z28T,z28T,z28T,z28F,z28F,z28F,z28F,z28F,z28F,z28F,z28F,z28F]
abbrev z28_22 : Array Bool := #[z28T,z28T,z28T,z28T,z28T,z28T,z28T,z28T,z28T,z28T,z28T,z28T,z28T,z28T,z28T,z28T,z28T,z28T,z28T,z28T,z28T,z28T,z28F,z28F,z28F,z28F,z28F,z28F,z28F,z28F]
abbrev z28_23 : Array Bool := #[z28T,z28T,z28T,z28T,z28T,z28T,z28T,z28T,z28T,z28T,z28T,z28T,z28T,z28T,z28T,z28T,z28T,z28T,z28T,z28T,z28T,z28T,z28T,z28F,z28F,z28F,z28F,z28F,z28F,z28F]
abbrev z28_24 : Array Bool := #[z28T,z28T,z28T,z28T,z28T,z28T,z28T,z28T,z28T,z28T,z28T,z28T,z28T,z28T,z28T,z28T,z28T,z28T,z28T,z28T,z28T,z28T,z28T,z28T,z28F,z28F,z28F,z28F,z28F,z28F]
abbrev z28_25 : Array Bool := #[z28T,z28T,z28T,z28T,z28T,z28T,z28T,z28T,z28T,z28T,z28T,z28T,z28T,z28T,z28T,z28T,z28T,z28T,z28T,z28T,z28T,z28T,z28T,z28T,z28T,z28F,z28F,z28F,z28F,z28F]
abbrev z28_26 : Array Bool := #[z28T,z28T,z28T,z28T,z28T,z28T,z28T,z28T,z28T,z28T,z28T,z28T,z28T,z28T,z28T,z28T,z28T,z28T,z28T,z28T,z28T,z28T,z28T,z28T,z28T,z28T,z28F,z28F,z28F,z28F]
abbrev z28_27 : Array Bool := #[z28T,z28T,z28T,z28T,z28T,z28T,z28T,z28T,z28T,z28T,z28T,z28T,z28T,z28T,z28T,z28T,z28T,z28T,z28T,z28T,z28T,z28T,z28T,z28T,z28T,z28T,z28T,z28F,z28F,z28F]
abbrev z28_28 : Array Bool := #[z28T,z28T,z28T,z28T,z28T,z28T,z28T,z28T,z28T,z28T,z28T,z28T,z28T,z28T,z28T,z28T,z28T,z28T,z28T,z28T,z28T,z28T,z28T,z28T,z28T,z28T,z28T,z28T,z28F,z28F]
abbrev z28_29 : Array Bool := #[z28T,z28T,z28T,z28T,z28T,z28T,z28T,z28T,z28T,z28T,z28T,z28T,z28T,z28T,z28T,z28T,z28T,z28T,z28T,z28T,z28T,z28T,z28T,z28T,z28T,z28T,z28T,z28T,z28T,z28F]
abbrev z28_30 : Array Bool := #[z28T,z28T,z28T,z28T,z28T,z28T,z28T,z28T,z28T,z28T,z28T,z28T,z28T,z28T,z28T,z28T,z28T,z28T,z28T,z28T,z28T,z28T,z28T,z28T,z28T,z28T,z28T,z28T,z28T,z28T]
abbrev z28_31 : Array Bool := #[z28T,z28T,z28T,z28T,z28T,z28T,z28T,z28T,z28T,z28T,z28T,z28T,z28T,z28T,z28T,z28T,z28F,z28F,z28F,z28T,z28F,z28F,z28F,z28F,z28F,z28F,z28F,z28F,z28F,z28F]
abbrev z28_32 : Array Bool := #[z28T,z28T,z28T,z28T,z28T,z28T,z28T,z28T,z28T,z28T,z28T,z28T,z28T,z28T,z28T,z28T,z28F,z28F,z28F,z28T,z28F,z28F,z28T,z28F,z28F,z28F,z28F,z28F,z28F,z28F]
abbrev z28_33 : Array Bool := #[z28T,z28T,z28T,z28T,z28T,z28T,z28T,z28T,z28T,z28T,z28T,z28T,z28T,z28T,z28T,z28T,z28F,z28F,z28F,z28T,z28F,z28F,z28T,z28T,z28F,z28F,z28F,z28F,z28F,z28F]
abbrev z28_34 : Array Bool := #[z28T,z28T,z28T,z28T,z28T,z28T,z28T,z28T,z28T,z28T,z28T,z28T,z28T,z28T,z28T,z28T,z28T,z28F,z28F,z28T,z28F,z28F,z28T,z28T,z28F,z28F,z28F,z28F,z28F,z28F]
abbrev z28_35 : Array Bool := #[z28T,z28T,z28T,z28T,z28T,z28T,z28T,z28T,z28T,z28T,z28T,z28T,z28T,z28T,z28T,z28T,z28T,z28T,z28F,z28T,z28F,z28F,z28T,z28T,z28F,z28F,z28F,z28F,z28F,z28F]
abbrev z28_36 : Array Bool := #[z28T,z28T,z28T,z28T,z28T,z28T,z28T,z28T,z28T,z28T,z28T,z28T,z28T,z28T,z28T,z28T,z28T,z28T,z28T,z28T,z28F,z28F,z28T,z28T,z28F,z28F,z28F,z28F,z28F,z28F]
abbrev z28_37 : Array Bool := #[z28T,z28T,z28T,z28T,z28T,z28T,z28T,z28T,z28T,z28T,z28T,z28T,z28T,z28T,z28T,z28T,z28T,z28T,z28T,z28T,z28T,z28F,z28T,z28T,z28F,z28F,z28F,z28F,z28F,z28F]
abbrev z28_38 : Array Bool := #[z28F,z28F,z28F,z28F,z28F,z28F,z28F,z28F,z28F,z28F,z28F,z28F,z28F]
abbrev z28_39 : Array Bool := #[z28T,z28F,z28F,z28F,z28F,z28F,z28F,z28F,z28F,z28F,z28F,z28F,z28F]
abbrev z28_40 : Array Bool := #[z28T,z28T,z28F,z28F,z28F,z28F,z28F,z28F,z28F,z28F,z28F,z28F,z28F]
abbrev z28_41 : Array Bool := #[z28T,z28T,z28F,z28T,z28F,z28F,z28F,z28F,z28F,z28F,z28F,z28F,z28F]
abbrev z28_42 : Array Bool := #[z28T,z28T,z28F,z28T,z28T,z28F,z28F,z28F,z28F,z28F,z28F,z28F,z28F]
abbrev z28_43 : Array Bool := #[z28T,z28T,z28F,z28T,z28T,z28F,z28F,z28F,z28T,z28F,z28F,z28F,z28F]
abbrev z28_44 : Array Bool := #[z28T,z28T,z28T,z28T,z28T,z28F,z28F,z28F,z28T,z28F,z28F,z28F,z28F]
abbrev z28_45 : Array Bool := #[z28T,z28T,z28T,z28T,z28T,z28T,z28F,z28F,z28T,z28F,z28F,z28F,z28F]
abbrev z28_46 : Array Bool := #[z28T,z28T,z28T,z28T,z28T,z28T,z28T,z28F,z28T,z28F,z28F,z28F,z28F]
abbrev z28_47 : Array Bool := #[z28T,z28T,z28T,z28T,z28T,z28T,z28T,z28T,z28T,z28F,z28F,z28F,z28F]
abbrev z28_48 : Array Bool := #[z28T,z28T,z28T,z28T,z28T,z28T,z28T,z28T,z28T,z28T,z28F,z28F,z28F]
abbrev z28_49 : Array Bool := #[z28T,z28T,z28T,z28T,z28T,z28T,z28T,z28T,z28T,z28T,z28T,z28F,z28F]
abbrev z28_50 : Array Bool := #[z28T,z28T,z28T,z28T,z28T,z28T,z28T,z28T,z28T,z28T,z28T,z28T,z28F]
abbrev z28_51 : Array Bool := #[z28T,z28T,z28T,z28T,z28T,z28T,z28T,z28T,z28T,z28T,z28T,z28T,z28T]
set_option maxHeartbeats 8000000 in
set_option maxRecDepth 100000 in
theorem spec_Distances.calls (k : Nat) (a0 : Int) (A1 : Option Addr) (c1 : Nat) (l1 : List (S38)) (a2 : Int) (r : List Int) (w : World) (hr1 : Kd.C k38 w A1 l1.length l1) (hc1 : l1.length ≤ c1) (h : spec_Distances.f k a0 l1 a2 = some r) :
   Calls Try.prog 9 #[.int .i64 a0, .slice A1 l1.length c1, .int .i64 a2] w fun e w' => ∃ v0_ : Value, e = .returned (v0_) ∧ Kd.R (Kd.int .i64) 3 w' w.heap.size (fun _ => True) v0_ r ∧ Below w.heap.size w w' := by
  have hu38 := Try.underlying38
  have HR1 := Aside0.mk hr1
  have HC1 := Aside0.mk hc1
  clear hr1 hc1
  have HB := Aside0.mk (Below.refl w.heap.size w)
  have H : ((some (([] : List Int) : List Int)).bind fun y135 => ((spec_RoadsOk.f k a0 l1).bind fun t138 => (if t138 = true then ((spec_l01In.f a2 0 (wrap64 (a0 - 1))).bind fun t139 => (spec_Distances.j0 k a0 l1 a2 y135 (!t139))) else (spec_Distances.j0 k a0 l1 a2 y135 true)))) = some r := h
  clear h
  obtain ⟨y135, hy135⟩ : ∃ y_ : List Int, y_ = (([] : List Int)) := ⟨_, rfl⟩
  replace H : ((spec_RoadsOk.f k a0 l1).bind fun t138 => (if t138 = true then ((spec_l01In.f a2 0 (wrap64 (a0 - 1))).bind fun t139 => (spec_Distances.j0 k a0 l1 a2 y135 (!t139))) else (spec_Distances.j0 k a0 l1 a2 y135 true))) = some r := by first | (rw [hy135]; with_reducible exact H) | (have H2_ := (Option.bind_some _ _).symm.trans H; rw [hy135]; with_reducible exact H2_) | (have H2_ := (Option.bind_some _ _).symm.trans H; with_reducible exact H2_) | with_reducible exact H | (rw [hy135]; exact H) | exact H
  have Ny135 := Aside0.mk hy135
  clear hy135
  have HC4 := Aside0.mk H
  clear H
  go_enter Try.func9, Try.ntmps9
  go_upto_region 2 with (first | ((with_reducible refine gate_dst (N := 12) rfl ?_); refine Kd.R_lit (Kd.int .i64) _ 3 ?hg (N := 12) ?hd (xs := ([] : List Int)) (inner := []) (ok := fun _ => True) (okp := fun _ => True) ?hr ?hp (fun _ hk => hk) trivial (Below.refl _ _) (Nat.le_refl _) (by simp) ?_; (case hd => rfl); (case hg => rfl); (case hr => first | (go_simp; done) | (go_simp; rfl)); (case hp => exact (Reps.none _ _)); intro v136 w5 ho6 hb hg_ hnew_; clear hg_ hnew_; (first | rw [← Ny135.out] at ho6 | (simp only [Int.reduceToNat] at ho6; rw [← Ny135.out] at ho6)); have n0_ := Aside0.mk (Kd.R_lower ho6 (below_size (by repeat (first | (with_reducible first | exact HB.out | apply below_alloc | apply pw_below_drewN | apply below_drew1) | exact HB.out)))); have n1_ := Aside0.mk (below_step (by repeat (first | (with_reducible first | exact HB.out | apply below_alloc | apply pw_below_drewN | apply below_drew1) | exact HB.out)) hb); clear HB; have HO137 := n0_; have HB := n1_; clear n0_ n1_; clear hb ho6))
  (try simp only [Act.put, List.setIfInBounds_toArray, List.set_cons_zero, List.set_cons_succ])
  go_cut [23] (fun v23 wc => ∃ (kq : Nat) (x23_3 : Bool), v23 = .bool x23_3 ∧ Aside0 (spec_Distances.j0 kq a0 l1 a2 y135 x23_3 = some r) ∧ Aside0 (kq ≤ k) ∧ Aside0 (Kd.R (Kd.int .i64) 3 wc w.heap.size (fun _ => True) v136 y135) ∧ Aside0 (Below w.heap.size w wc))
  case first =>
   have H := HC4.out
   clear HC4
   replace H := Option.bind_eq_some_iff.mp H
   obtain ⟨t138, A70, H⟩ := H
   replace H : (if t138 = true then ((spec_l01In.f a2 0 (wrap64 (a0 - 1))).bind fun t139 => (spec_Distances.j0 k a0 l1 a2 y135 (!t139))) else (spec_Distances.j0 k a0 l1 a2 y135 true)) = some r := H
   have A7 := Aside0.mk A70
   clear A70
   by_cases c8 : t138 = true
   ·
    subst c8
    have H1 : ((spec_l01In.f a2 0 (wrap64 (a0 - 1))).bind fun t139 => (spec_Distances.j0 k a0 l1 a2 y135 (!t139))) = some r := by rw [if_pos rfl] at H; exact H
    clear H; have H := H1; clear H1
    replace H := Option.bind_eq_some_iff.mp H
    obtain ⟨t139, A90, H⟩ := H
    replace H : (spec_Distances.j0 k a0 l1 a2 y135 (!t139)) = some r := H
    have A9 := Aside0.mk A90
    clear A90
    have H' := Aside0.mk H
    clear H
    go_wp2_with (first | ((with_reducible refine gate_callee (f := 33) rfl ?_); refine goesL_ (some 15) rfl rfl Try.func33 (by kernel_rfl) rfl #[.int .i64 a0, .slice A1 l1.length c1] rfl (by (try simp only [List.map_toArray, List.map_cons, List.map_nil]); first | done | rfl | (simp only [List.length_drop, List.length_take]; rfl)) ?_; (with_reducible refine (spec_RoadsOk.calls k a0 _ _ l1 true _ ?side1 ?side2 A7.out).mono ?_); (case side1 => repeat (first | exact (Kd.C_below HR1.out HB.out) | (with_reducible refine Kd.C_alloc ?_ _) | (with_reducible refine Kd.C_drewN ?_ _) | (with_reducible refine Kd.C_drew ?_))); (case side2 => exact HC1.out); rintro e w10 ⟨rfl, hb⟩; refine ⟨_, rfl, ?_⟩; have n0_ := Aside0.mk (Kd.R_below (rrA10 HO137.out) hb); have n1_ := Aside0.mk (below_step (by repeat (first | (with_reducible first | exact HB.out | apply below_alloc | apply pw_below_drewN | apply below_drew1) | exact HB.out)) hb); clear HO137; clear HB; have HO137 := n0_; have HB := n1_; clear n0_ n1_; (try clear hb); (try clear hb2); (try clear hk); (try clear hi)) | (go_at_call 34; (with_reducible refine (spec_l01In.calls a2 0 (wrap64 (a0 - 1)) t139 _ A9.out).mono ?_); rintro e w' ⟨rfl, ⟨nd, rfl⟩⟩))
    go_meet
    case rel => exact ⟨_, (!t139), (by first | rfl | (simp; done) | (simp [*]; done)), H', ⟨by first | omega | exact Nat.le_refl _⟩, ⟨(rrA10 HO137.out)⟩, ⟨by repeat (first | (with_reducible first | exact HB.out | apply below_alloc | apply pw_below_drewN | apply below_drew1) | exact HB.out)⟩⟩
   ·
    replace c8 := Bool.eq_false_iff.mpr c8
    subst c8
    have H1 : (spec_Distances.j0 k a0 l1 a2 y135 true) = some r := by rw [if_neg (show ¬ (false = true) by decide)] at H; exact H
    clear H; have H := H1; clear H1
    have H' := Aside0.mk H
    clear H
    go_wp2_with (first | ((with_reducible refine gate_callee (f := 33) rfl ?_); refine goesL_ (some 15) rfl rfl Try.func33 (by kernel_rfl) rfl #[.int .i64 a0, .slice A1 l1.length c1] rfl (by (try simp only [List.map_toArray, List.map_cons, List.map_nil]); first | done | rfl | (simp only [List.length_drop, List.length_take]; rfl)) ?_; (with_reducible refine (spec_RoadsOk.calls k a0 _ _ l1 false _ ?side1 ?side2 A7.out).mono ?_); (case side1 => repeat (first | exact (Kd.C_below HR1.out HB.out) | (with_reducible refine Kd.C_alloc ?_ _) | (with_reducible refine Kd.C_drewN ?_ _) | (with_reducible refine Kd.C_drew ?_))); (case side2 => exact HC1.out); rintro e w11 ⟨rfl, hb⟩; refine ⟨_, rfl, ?_⟩; have n0_ := Aside0.mk (Kd.R_below (rrA10 HO137.out) hb); have n1_ := Aside0.mk (below_step (by repeat (first | (with_reducible first | exact HB.out | apply below_alloc | apply pw_below_drewN | apply below_drew1) | exact HB.out)) hb); clear HO137; clear HB; have HO137 := n0_; have HB := n1_; clear n0_ n1_; (try clear hb); (try clear hb2); (try clear hk); (try clear hi)))
    go_meet
    case rel => exact ⟨_, (true), (by first | rfl | (simp; done) | (simp [*]; done)), H', ⟨by first | omega | exact Nat.le_refl _⟩, ⟨(rrA10 HO137.out)⟩, ⟨by repeat (first | (with_reducible first | exact HB.out | apply below_alloc | apply pw_below_drewN | apply below_drew1) | exact HB.out)⟩⟩
  case rest =>
   clear HC4
   try clear c1
   try clear p2
   try clear c3
   try clear p6
   try clear c8
   try clear c9
   obtain ⟨kq, x23_3, rfl, HA, HJ3, HO_7, HB⟩ := hcut
   cases kq with
   | zero => exact absurd HA.out (by simp [spec_Distances.j0])
   | succ kj3 =>
    have H := HA.out
    clear HA
    simp only [spec_Distances.j0] at H
    by_cases c12 : x23_3 = true
    ·
     subst c12
     have H1 : (some y135) = some r := by rw [if_pos rfl] at H; exact H
     clear H; have H := H1; clear H1
     obtain rfl := Option.some.inj H
     go_wp2
     go_ret
     exact ⟨_, by first | rfl | (simp [errW_none, errW_some] <;> rfl) | (simp [*, errW_none, errW_some] <;> rfl), (rrA10 HO_7.out), by repeat (first | (with_reducible first | exact HB.out | apply below_alloc | apply pw_below_drewN | apply below_drew1) | exact HB.out)⟩
    ·
     replace c12 := Bool.eq_false_iff.mpr c12
     subst c12
     have H1 : (spec_Distances.l0 kj3 a0 l1 a2 y135 0) = some r := by rw [if_neg (show ¬ (false = true) by decide)] at H; exact H
     clear H; have H := H1; clear H1
     have H' := Aside0.mk H
     clear H; go_wp2
     go_loopg [7, 8] kj3 (fun kq v7 v8 w' => ∃ (x7_2 : List Int) (x8_2 : Int), v8 = .int .i64 x8_2 ∧ Aside0 (spec_Distances.l0 kq a0 l1 a2 x7_2 x8_2 = some r) ∧ Aside0 (kq ≤ kj3) ∧ Aside0 (Kd.R (Kd.int .i64) 3 w' w.heap.size (fun _ => True) v7 x7_2) ∧ Aside0 (Below w.heap.size w w'))
     case atStart => exact ⟨(y135), (0), (by first | rfl | (simp; done) | (simp [*]; done)), H', ⟨Nat.le_refl _⟩, ⟨(rrA10 HO_7.out)⟩, ⟨by repeat (first | (with_reducible first | exact HB.out | apply below_alloc | apply pw_below_drewN | apply below_drew1) | exact HB.out)⟩⟩
     case round =>
      clear H'
      try clear c1
      try clear p2
      try clear c3
      try clear p6
      try clear c8
      try clear c9
      try clear c12
      try clear p2
      try clear p6
      obtain ⟨x7_2, x8_2, rfl, HA, HK2, HO_7, HB⟩ := hrel
      cases gk with
      | zero => exact absurd HA.out (by simp [spec_Distances.l0])
      | succ k2 =>
       have H := HA.out
       clear HA
       simp only [spec_Distances.l0] at H
       by_cases c13 : x8_2 < a0
       ·
        rw [if_pos c13] at H
        have c13b0 : decide (x8_2 < a0) = true := decide_eq_true c13
        clear c13
        by_cases c14 : x7_2.length < 17592186044416
        ·
         rw [if_pos c14] at H
         have LMc14 := Aside0.mk c14
         clear c14
         obtain ⟨y140, hy140⟩ : ∃ y_ : List Int, y_ = (x7_2 ++ [(-1)]) := ⟨_, rfl⟩
         replace H : (spec_Distances.l0 k2 a0 l1 a2 y140 (wrap64 (x8_2 + 1))) = some r := by first | (rw [hy140]; with_reducible exact H) | (have H2_ := (Option.bind_some _ _).symm.trans H; rw [hy140]; with_reducible exact H2_) | (have H2_ := (Option.bind_some _ _).symm.trans H; with_reducible exact H2_) | with_reducible exact H | (rw [hy140]; exact H) | exact H
         have Ny140 := Aside0.mk hy140
         clear hy140
         have H' := Aside0.mk H
         clear H
         go_wp2_with (first | ((with_reducible refine gate_builtin (b := .append) (xs := #[.tmp 30, .tmp 31]) rfl ?_); at_builtin; refine Kd.R_append (Kd.int .i64) (w0 := w) w.heap.size rfl (.tmp 30) (.tmp 31) 24 3 (.int .i64 0) 8 rfl Try.underlying24 info3 rfl (by decide) (by omega) u7 x7_2 (-1) [.int .i64 (-1)] (fun _ => True) (fun _ => False) rfl rfl ?aP (fun _ hk => hk.elim) ?aF ?aO ?aB ?aS ?aL ?_; (case aP => exact rfl); (case aB => exact (by repeat (first | (with_reducible first | exact HB.out | apply below_alloc | apply pw_below_drewN | apply below_drew1) | exact HB.out))); (case aF => exact (fun _ _ => trivial)); (case aO => exact (rrA10 HO_7.out)); (case aS => exact (below_size (by repeat (first | (with_reducible first | exact HB.out | apply below_alloc | apply pw_below_drewN | apply below_drew1) | exact HB.out)))); (case aL => have := LMc14.out; omega); intro v141 w15 ho hb hg hat; rw [← Ny140.out] at ho; have n0_ := Aside0.mk (hb); have n1_ := Aside0.mk (ho); clear HB; clear HO_7; have HB := n0_; have HO142 := n1_; clear n0_ n1_; clear ho hb hg hat))
         go_roundg k2
         case measure => have := HJ3.out; have := HK2.out; omega
         case rel => exact ⟨(y140), (wrap64 (x8_2 + 1)), (by first | rfl | (simp; done) | (simp [*]; done)), H', ⟨by have := HJ3.out; have := HK2.out; omega⟩, ⟨(rrA10 HO142.out)⟩, ⟨by repeat (first | (with_reducible first | exact HB.out | apply below_alloc | apply pw_below_drewN | apply below_drew1) | exact HB.out)⟩⟩
        ·
         rw [if_neg c14] at H
         exact absurd H (by simp)
       ·
        rw [if_neg c13] at H
        have c13b0 : decide (x8_2 < a0) = false := decide_eq_false c13
        clear c13
        by_cases c16 : 0 ≤ a2
        ·
         rw [if_pos c16] at H
         have c16b0 : decide (0 ≤ a2) = true := decide_eq_true c16
         clear c16
         by_cases c17 : a2 < (x7_2.length : Int)
         ·
          rw [if_pos c17] at H
          have c17b0 : decide (a2 < (x7_2.length : Int)) = true := decide_eq_true c17
          clear c17
          obtain ⟨y143, hy143⟩ : ∃ y_ : List Int, y_ = (x7_2.set (a2 : Int).toNat 0) := ⟨_, rfl⟩
          replace H : (spec_Distances.l1 k2 a0 l1 y143 0) = some r := by first | (rw [hy143]; with_reducible exact H) | (have H2_ := (Option.bind_some _ _).symm.trans H; rw [hy143]; with_reducible exact H2_) | (have H2_ := (Option.bind_some _ _).symm.trans H; with_reducible exact H2_) | with_reducible exact H | (rw [hy143]; exact H) | exact H
          have Ny143 := Aside0.mk hy143
          clear hy143
          have H' := Aside0.mk H
          clear H
          have p18 : 0 ≤ (a2 : Int) := of_decide_eq_true (by first | (with_reducible assumption) | assumption)
          have q18 : (a2 : Int) < ((x7_2.length : Int) : Int) := of_decide_eq_true (by first | (with_reducible assumption) | assumption)
          obtain ⟨go18, co18, eo18, gb18, gl18, cl18, HG18⟩ := Kd.R_form HO_7.out (by omega)
          (first | cases eo18 | (injection eo18 with ea_ en_ ec_; (first | subst ea_ | (injection ea_ with ea_; subst ea_)); subst ec_; clear en_))
          have GB18 := Aside0.mk gb18
          have GG18 := Aside0.mk HG18
          clear gb18 gl18 HG18
          obtain ⟨hx18_0, hf18_0⟩ := Kd.R_celln 0 HO_7.out (a2 : Int) p18 q18
          replace p18 := eq_true p18
          replace q18 := eq_true q18
          have HP19 := Kd.R_putg HO_7.out (a2 : Int) 0
          go_wp2_with (first | ((with_reducible refine gate_store (t := 3) (p := 35) rfl ?_); refine store_event (t := 3) (p := 35) (v := ?vo_w20) (w1 := (wr.setCell ⟨go18, (a2 : Int).toNat, none⟩ (.int .i64 0))) ?hg ?ho ?hn ?hr ?_; (case ho => rfl); (case hg => rfl); (case hn => rfl); (case hr => first | (go_simp; done) | (go_simp; rfl)); intro w20 hw; have hg : wr.grownBy w20 (some go18) := (by rw [hw]; exact HP19.2); have hp_ : Kd.R (Kd.int .i64) 3 w20 w.heap.size (fun _ => True) (.slice (some ⟨go18, 0, none⟩) x7_2.length co18) y143 := (by rw [hw, Ny143.out]; exact HP19.1); clear HP19; have n0_ := Aside0.mk (hp_); have n1_ := Aside0.mk ((by rw [hw]; exact below_set (HB.out) GB18.out : Below w.heap.size w w20)); clear HO_7; clear HB; have HO_7 := n0_; have HB := n1_; clear n0_ n1_; clear hg hw hp_))
          go_loopg [9] k2 (fun kq v9 w' => ∃ (x7_3 : List Int) (x9_3 : Int), v9 = .int .i64 x9_3 ∧ Aside0 (spec_Distances.l1 kq a0 l1 x7_3 x9_3 = some r) ∧ Aside0 (kq ≤ k2) ∧ Aside0 (Kd.R (Kd.int .i64) 3 w' w.heap.size (fun _ => True) (.slice (some ⟨go18, 0, none⟩) x7_2.length co18) x7_3) ∧ Aside0 (Below w.heap.size w w'))
          case atStart => exact ⟨(y143), (0), (by first | rfl | (simp; done) | (simp [*]; done)), H', ⟨Nat.le_refl _⟩, ⟨(rrA10 HO_7.out)⟩, ⟨by repeat (first | (with_reducible first | exact HB.out | apply below_alloc | apply pw_below_drewN | apply below_drew1) | exact HB.out)⟩⟩
          case round =>
           clear H'
           try clear c1
           try clear p1
           try clear q1
           try clear hx1
           try clear p2
           try clear c3
           try clear p6
           try clear c8
           try clear c9
           try clear c12
           try clear c13
           try clear c13b0
           try clear c14
           try clear c16
           try clear c16b0
           try clear c17
           try clear c17b0
           try clear p18
           try clear q18
           try clear hx18
           try clear hf18
           try clear hx18_0
           try clear p18
           try clear p2
           try clear p6
           try clear q18
           obtain ⟨x7_3, x9_3, rfl, HA, HK3, HO_7, HB⟩ := hrel
           have hl7_3 := (Kd.R_reads' HO_7.out).1
           rw [hl7_3] at HO_7
           (try simp only [hl7_3])
           cases gk with
           | zero => exact absurd HA.out (by simp [spec_Distances.l1])
           | succ k3 =>
            have H := HA.out
            clear HA
            simp only [spec_Distances.l1] at H
            by_cases c21 : x9_3 < a0
            ·
             rw [if_pos c21] at H
             have c21b0 : decide (x9_3 < a0) = true := decide_eq_true c21
             clear c21
             have H' := Aside0.mk H
             clear H; go_wp2
             go_loopg [10] k3 (fun kq v10 w' => ∃ (x7_4 : List Int) (x10_4 : Int), v10 = .int .i64 x10_4 ∧ Aside0 (spec_Distances.l2 kq a0 l1 x7_4 x9_3 x10_4 = some r) ∧ Aside0 (kq ≤ k3) ∧ Aside0 (Kd.R (Kd.int .i64) 3 w' w.heap.size (fun _ => True) (.slice (some ⟨go18, 0, none⟩) x7_3.length co18) x7_4) ∧ Aside0 (Below w.heap.size w w'))
             case atStart => exact ⟨(x7_3), (0), (by first | rfl | (simp; done) | (simp [*]; done)), H', ⟨Nat.le_refl _⟩, ⟨by (try simp only [hl7_3]); (with_reducible repeat (first | apply Kd.R_alloc | apply Kd.R_drewN | apply Kd.R_drew)); exact HO_7.out⟩, ⟨by repeat (first | (with_reducible first | exact HB.out | apply below_alloc | apply pw_below_drewN | apply below_drew1) | exact HB.out)⟩⟩
             case round =>
              clear H'
              try clear c1
              try clear p1
              try clear q1
              try clear hx1
              try clear c2
              try clear p2
              try clear c3
              try clear p6
              try clear c8
              try clear c9
              try clear c12
              try clear c13
              try clear c13b0
              try clear c14
              try clear c16
              try clear c16b0
              try clear c17
              try clear c17b0
              try clear p18
              try clear q18
              try clear hx18
              try clear hf18
              try clear c21
              try clear c21b0
              try clear hx18_0
              try clear p1
              try clear p18
              try clear p2
              try clear p6
              try clear q1
              try clear q18
              obtain ⟨x7_4, x10_4, rfl, HA, HK4, HO_7, HB⟩ := hrel
              have hl7_4 := (Kd.R_reads' HO_7.out).1
              rw [hl7_4] at HO_7
              (try simp only [hl7_4])
              cases gk with
              | zero => exact absurd HA.out (by simp [spec_Distances.l2])
              | succ k4 =>
               have H := HA.out
               clear HA
               simp only [spec_Distances.l2] at H
               by_cases c22 : x10_4 < (l1.length : Int)
               ·
                rw [if_pos c22] at H
                have c22b0 : decide (x10_4 < (l1.length : Int)) = true := decide_eq_true c22
                clear c22
                by_cases c23 : 0 ≤ x10_4
                ·
                 rw [if_pos c23] at H
                 have c23b0 : decide (0 ≤ x10_4) = true := decide_eq_true c23
                 clear c23
                 have HC24 := Aside0.mk H
                 clear H
                 have p144 : 0 ≤ (x10_4 : Int) := of_decide_eq_true (by first | (with_reducible assumption) | assumption)
                 have q144 : x10_4 < (l1.length : Int) := of_decide_eq_true (by first | (with_reducible assumption) | assumption)
                 obtain ⟨ad144, e144, hx144_0, hx144_1, hx144_2⟩ := at_T38 HR1.out x10_4 p144 q144
                 cases e144
                 replace hx144_0 := (HB.out.cell (World.block_lt_of_cell? w _ hx144_0)).trans hx144_0
                 replace hx144_1 := (HB.out.cell (World.block_lt_of_cell? w _ hx144_1)).trans hx144_1
                 replace hx144_2 := (HB.out.cell (World.block_lt_of_cell? w _ hx144_2)).trans hx144_2
                 replace p144 := eq_true p144
                 replace q144 := eq_true q144
                 go_upto_region 16 with (first | ((with_reducible refine gate_dst (N := 11) rfl ?_); refine box_event ?hg (N := 11) ?hd (cs := #[.int .i64 0, .int .i64 0, .int .i64 0]) (t := 38) ?hr ?_; (case hd => rfl); (case hg => rfl); (case hr => first | (go_simp; done) | (go_simp; rfl)); intro gb145 hg w25 hbox hb; have n0_ := Aside0.mk (Kd.R_below (rrA10 HO_7.out) hb); have n1_ := Aside0.mk (below_step (by repeat (first | (with_reducible first | exact HB.out | apply below_alloc | apply pw_below_drewN | apply below_drew1) | exact HB.out)) hb); have n2_ := Aside0.mk (hbox); have n3_ := Aside0.mk ((by rw [hg]; exact (below_size (by repeat (first | (with_reducible first | exact HB.out | apply below_alloc | apply pw_below_drewN | apply below_drew1) | exact HB.out))) : w.heap.size ≤ gb145)); have n4_ := Aside0.mk ((by rw [hg]; exact (below_size (by repeat (first | (with_reducible first | exact HB.out | apply below_alloc | apply pw_below_drewN | apply below_drew1) | exact HB.out))) : w.heap.size ≤ gb145)); clear HO_7; clear HB; have HO_7 := n0_; have HB := n1_; have BK145 := n2_; have GW145 := n3_; have GE145 := n4_; clear n0_ n1_ n2_ n3_ n4_; clear hb hbox hg; have hcz26_0 : w25.cell? ⟨gb145, 0, none⟩ = some (.int .i64 0) := (blk_cell BK145.out 0).trans rfl; have hcz26_1 : w25.cell? ⟨gb145, 1, none⟩ = some (.int .i64 0) := (blk_cell BK145.out 1).trans rfl; have hcz26_2 : w25.cell? ⟨gb145, 2, none⟩ = some (.int .i64 0) := (blk_cell BK145.out 2).trans rfl; have hfz26_0 := blk_frozen BK145.out 0; have hfz26_1 := blk_frozen BK145.out 1; have hfz26_2 := blk_frozen BK145.out 2))
                 (try simp only [Act.put, List.setIfInBounds_toArray, List.set_cons_zero, List.set_cons_succ])
                 go_cut [80] (fun v80 wc => ∃ (kq : Nat) (x80_23 : Bool), v80 = .bool x80_23 ∧ Aside0 (spec_Distances.j4 kq a0 l1 x7_4 x9_3 x10_4 x80_23 ((rd_T38 l1 x10_4).f0) ((rd_T38 l1 x10_4).f1) ((rd_T38 l1 x10_4).f2) = some r) ∧ Aside0 (kq ≤ k4) ∧ Aside0 (Kd.R (Kd.int .i64) 3 wc w.heap.size (fun _ => True) (.slice (some ⟨go18, 0, none⟩) x7_4.length co18) x7_4) ∧ Aside0 (wc.heap[gb145]? = some (.cells #[.int .i64 ((rd_T38 l1 x10_4).f0), .int .i64 ((rd_T38 l1 x10_4).f1), .int .i64 ((rd_T38 l1 x10_4).f2)] 38 (0, 0))) ∧ Aside0 (Below w.heap.size w wc))
                 case first =>
                  have H := HC24.out
                  clear HC24
                  by_cases c27 : 0 ≤ ((rd_T38 l1 x10_4).f0)
                  ·
                   rw [if_pos c27] at H
                   have c27b0 : decide (0 ≤ ((rd_T38 l1 x10_4).f0)) = true := decide_eq_true c27
                   clear c27
                   (first | rw [c27b0] | (simp only [i64_w, i32_w]; rw [c27b0]) | skip)
                   by_cases c28 : ((rd_T38 l1 x10_4).f0) < (x7_4.length : Int)
                   ·
                    rw [if_pos c28] at H
                    have c28b0 : decide (((rd_T38 l1 x10_4).f0) < (x7_4.length : Int)) = true := decide_eq_true c28
                    clear c28
                    by_cases c29 : (rd x7_4 ((rd_T38 l1 x10_4).f0)) ≥ 0
                    ·
                     rw [if_pos c29] at H
                     have c29b0 : decide (0 ≤ (rd x7_4 ((rd_T38 l1 x10_4).f0))) = true := decide_eq_true c29
                     clear c29
                     by_cases c30 : 0 ≤ ((rd_T38 l1 x10_4).f1)
                     ·
                      rw [if_pos c30] at H
                      have c30b0 : decide (0 ≤ ((rd_T38 l1 x10_4).f1)) = true := decide_eq_true c30
                      clear c30
                      by_cases c31 : ((rd_T38 l1 x10_4).f1) < (x7_4.length : Int)
                      ·
                       rw [if_pos c31] at H
                       have c31b0 : decide (((rd_T38 l1 x10_4).f1) < (x7_4.length : Int)) = true := decide_eq_true c31
                       clear c31
                       by_cases c32 : (rd x7_4 ((rd_T38 l1 x10_4).f1)) < 0
                       ·
                        rw [if_pos c32] at H
                        have c32b0 : decide ((rd x7_4 ((rd_T38 l1 x10_4).f1)) < 0) = true := decide_eq_true c32
                        clear c32
                        have H' := Aside0.mk H
                        clear H
                        try go_wp2
                        have n0_ : Aside0 (Kd.R (Kd.int .i64) 3 (((w25.setCell ⟨gb145, 0, none⟩ (.int .i64 ((rd_T38 l1 x10_4).f0))).setCell ⟨gb145, 1, none⟩ (.int .i64 ((rd_T38 l1 x10_4).f1))).setCell ⟨gb145, 2, none⟩ (.int .i64 ((rd_T38 l1 x10_4).f2))) w.heap.size (fun _ => True) (.slice (some ⟨go18, 0, none⟩) x7_4.length co18) x7_4) := ⟨by (with_reducible repeat (first | apply Kd.R_alloc | apply Kd.R_drewN | apply Kd.R_drew)); exact Kd.R_mono (Kd.R_far (p := ⟨gb145, 2, none⟩) (Kd.R_far (p := ⟨gb145, 1, none⟩) (Kd.R_far (p := ⟨gb145, 0, none⟩) (Kd.R_types HO_7.out BK145.out (by decide)) (fun _ hk => hk.2) (.int .i64 ((rd_T38 l1 x10_4).f0))) (fun _ hk => hk.2) (.int .i64 ((rd_T38 l1 x10_4).f1))) (fun _ hk => hk.2) (.int .i64 ((rd_T38 l1 x10_4).f2))) (fun _ hk => trivial)⟩
                        have n1_ : Aside0 ((((w25.setCell ⟨gb145, 0, none⟩ (.int .i64 ((rd_T38 l1 x10_4).f0))).setCell ⟨gb145, 1, none⟩ (.int .i64 ((rd_T38 l1 x10_4).f1))).setCell ⟨gb145, 2, none⟩ (.int .i64 ((rd_T38 l1 x10_4).f2))).heap[gb145]? = some (.cells #[.int .i64 ((rd_T38 l1 x10_4).f0), .int .i64 ((rd_T38 l1 x10_4).f1), .int .i64 ((rd_T38 l1 x10_4).f2)] 38 (0, 0))) := ⟨by (with_reducible repeat (first | refine blk_drewN ?_ _ | refine blk_drew ?_ | refine blk_alloc ?_ _)); refine blk_put (cs := #[.int .i64 ((rd_T38 l1 x10_4).f0), .int .i64 ((rd_T38 l1 x10_4).f1), .int .i64 0]) ?_ 2 _ rfl; (with_reducible repeat (first | refine blk_drewN ?_ _ | refine blk_drew ?_ | refine blk_alloc ?_ _)); refine blk_put (cs := #[.int .i64 ((rd_T38 l1 x10_4).f0), .int .i64 0, .int .i64 0]) ?_ 1 _ rfl; (with_reducible repeat (first | refine blk_drewN ?_ _ | refine blk_drew ?_ | refine blk_alloc ?_ _)); refine blk_put (cs := #[.int .i64 0, .int .i64 0, .int .i64 0]) ?_ 0 _ rfl; (with_reducible repeat (first | refine blk_drewN ?_ _ | refine blk_drew ?_ | refine blk_alloc ?_ _)); exact BK145.out⟩
                        have n2_ : Aside0 (Below w.heap.size w (((w25.setCell ⟨gb145, 0, none⟩ (.int .i64 ((rd_T38 l1 x10_4).f0))).setCell ⟨gb145, 1, none⟩ (.int .i64 ((rd_T38 l1 x10_4).f1))).setCell ⟨gb145, 2, none⟩ (.int .i64 ((rd_T38 l1 x10_4).f2)))) := ⟨by repeat (first | (with_reducible first | exact HB.out | apply below_alloc | apply pw_below_drewN | apply below_drew1 | refine below_set ?_ GE145.out) | exact HB.out)⟩
                        (try clear HO_7)
                        (try clear BK145)
                        (try clear HB)
                        generalize (((w25.setCell ⟨gb145, 0, none⟩ (.int .i64 ((rd_T38 l1 x10_4).f0))).setCell ⟨gb145, 1, none⟩ (.int .i64 ((rd_T38 l1 x10_4).f1))).setCell ⟨gb145, 2, none⟩ (.int .i64 ((rd_T38 l1 x10_4).f2))) = w33 at n0_ n1_ n2_ ⊢
                        have HO_7 := n0_
                        have BK145 := n1_
                        have HB := n2_
                        clear n0_ n1_ n2_
                        have n0_ := Aside0.mk (Kd.R_drew HO_7.out)
                        have n1_ := Aside0.mk (blk_drew BK145.out)
                        have n2_ := Aside0.mk (below_drew1 HB.out)
                        clear HO_7; clear BK145; clear HB
                        have HO_7 := n0_
                        have BK145 := n1_
                        have HB := n2_
                        clear n0_ n1_ n2_
                        have p146 : 0 ≤ (((rd_T38 l1 x10_4).f0) : Int) := of_decide_eq_true (by first | (with_reducible assumption) | assumption)
                        have q146 : ((rd_T38 l1 x10_4).f0) < (x7_4.length : Int) := of_decide_eq_true (by first | (with_reducible assumption) | assumption)
                        obtain ⟨ad146, e146, hx146_0⟩ := Kd.at_int (Kd.R_reads' HO_7.out).2.2 ((rd_T38 l1 x10_4).f0) p146 q146
                        obtain rfl : (⟨go18, 0, none⟩ : Addr) = ad146 := (by injection e146)
                        (first | simp only [add_plain] at hx146_0 | simp only [add_at] at hx146_0 | simp only [Addr.add, Nat.zero_add] at hx146_0 | skip)
                        replace p146 := eq_true p146
                        replace q146 := eq_true q146
                        have p147 : 0 ≤ (((rd_T38 l1 x10_4).f1) : Int) := of_decide_eq_true (by first | (with_reducible assumption) | assumption)
                        have q147 : ((rd_T38 l1 x10_4).f1) < (x7_4.length : Int) := of_decide_eq_true (by first | (with_reducible assumption) | assumption)
                        obtain ⟨ad147, e147, hx147_0⟩ := Kd.at_int (Kd.R_reads' HO_7.out).2.2 ((rd_T38 l1 x10_4).f1) p147 q147
                        obtain rfl : (⟨go18, 0, none⟩ : Addr) = ad147 := (by injection e147)
                        (first | simp only [add_plain] at hx147_0 | simp only [add_at] at hx147_0 | simp only [Addr.add, Nat.zero_add] at hx147_0 | skip)
                        replace p147 := eq_true p147
                        replace q147 := eq_true q147
                        refine start_ (n := 30) (S := fun w' => w'.cell? ⟨gb145, 0, none⟩ = some (.int .i64 ((rd_T38 l1 x10_4).f0)) ∧ w'.cell? ⟨gb145, 1, none⟩ = some (.int .i64 ((rd_T38 l1 x10_4).f1)) ∧ w'.cell? ⟨gb145, 2, none⟩ = some (.int .i64 ((rd_T38 l1 x10_4).f2)) ∧ w'.cell? ⟨go18, (((rd_T38 l1 x10_4).f0)).toNat, none⟩ = some (.int .i64 (rd x7_4 ((rd_T38 l1 x10_4).f0))) ∧ w'.cell? ⟨go18, (((rd_T38 l1 x10_4).f1)).toNat, none⟩ = some (.int .i64 (rd x7_4 ((rd_T38 l1 x10_4).f1)))) (ds := []) z28_0 (by kernel_rfl) rfl rfl ⟨(blk_cell BK145.out 0).trans rfl, (blk_cell BK145.out 1).trans rfl, (blk_cell BK145.out 2).trans rfl, hx146_0, hx147_0⟩ (fun hHeld => ?_); refine with_tabW spec_Distances.tab16 spec_Distances.bits16 (fun HT_ HW_ => ?_)
                        generalize w33.drew = w34 at HO_7 BK145 HB hx146_0 hx147_0 hHeld ⊢
                        refine pure_ (i := 0) (N := some 51) (v := ?_) (a' := ?_) z28_1 rfl rfl (any_of HT_.out (by kernel_rfl)) (fun _ _ _ h => h) (Or.inl ⟨by rfl, ?_⟩) ?_ ?_; rotate_left
                        · intro w'; go_simp; with_reducible rfl
                        rotate_left
                        · simp only [Act.put, List.setIfInBounds_toArray, List.set_cons_zero, List.set_cons_succ, i64_w, i32_w]; rfl
                        refine pure_ (i := 1) (N := some 52) (v := ?_) (a' := ?_) z28_2 rfl rfl (any_of HT_.out (by kernel_rfl)) (fun _ _ _ h => h) (Or.inl ⟨by rfl, ?_⟩) ?_ ?_; rotate_left
                        · intro w'; go_simp; with_reducible rfl
                        rotate_left
                        · simp only [Act.put, List.setIfInBounds_toArray, List.set_cons_zero, List.set_cons_succ, i64_w, i32_w]; rfl
                        refine take_ (i := 2) (N := some 53) (v := ?_) (a' := ?_) z28_3 rfl rfl (take_ofW HT_.out HW_.out (by kernel_rfl)) (fun _ _ _ h => h) (Or.inl ⟨by rfl, ?_⟩) hHeld ?_ ?_; rotate_left
                        ·
                         rintro w' ⟨s0, s1, s2, s3, s4⟩
                         go_simp; with_reducible rfl
                        rotate_left
                        · simp only [Act.put, List.setIfInBounds_toArray, List.set_cons_zero, List.set_cons_succ, i64_w, i32_w]; rfl
                        refine pure_ (i := 3) (N := some 54) (v := ?_) (a' := ?_) z28_4 rfl rfl (any_of HT_.out (by kernel_rfl)) (fun _ _ _ h => h) (Or.inl ⟨by rfl, ?_⟩) ?_ ?_; rotate_left
                        · intro w'; go_simp; with_reducible rfl
                        rotate_left
                        · simp only [Act.put, List.setIfInBounds_toArray, List.set_cons_zero, List.set_cons_succ, i64_w, i32_w]; rfl
                        refine take_ (i := 4) (N := some 55) (v := ?_) (a' := ?_) z28_5 rfl rfl (take_ofW HT_.out HW_.out (by kernel_rfl)) (fun _ _ _ h => h) (Or.inl ⟨by rfl, ?_⟩) hHeld ?_ ?_; rotate_left
                        ·
                         rintro w' ⟨s0, s1, s2, s3, s4⟩
                         go_simp; with_reducible rfl
                        rotate_left
                        · simp only [Act.put, List.setIfInBounds_toArray, List.set_cons_zero, List.set_cons_succ, i64_w, i32_w]; rfl
                        refine pure_ (i := 5) (N := some 56) (v := ?_) (a' := ?_) z28_6 rfl rfl (any_of HT_.out (by kernel_rfl)) (fun _ _ _ h => h) (Or.inl ⟨by rfl, ?_⟩) ?_ ?_; rotate_left
                        · intro w'; go_simp; with_reducible rfl
                        rotate_left
                        · simp only [Act.put, List.setIfInBounds_toArray, List.set_cons_zero, List.set_cons_succ, i64_w, i32_w]; rfl
                        refine pure_ (i := 6) (N := some 57) (v := ?_) (a' := ?_) z28_7 rfl rfl (any_of HT_.out (by kernel_rfl)) (fun _ _ _ h => h) (Or.inl ⟨by rfl, ?_⟩) ?_ ?_; rotate_left
                        · intro w'; go_simp; with_reducible rfl
                        rotate_left
                        · simp only [Act.put, List.setIfInBounds_toArray, List.set_cons_zero, List.set_cons_succ, i64_w, i32_w]; rfl
                        refine pure_ (i := 7) (N := some 58) (v := ?_) (a' := ?_) z28_8 rfl rfl (any_of HT_.out (by kernel_rfl)) (fun _ _ _ h => h) (Or.inl ⟨by rfl, ?_⟩) ?_ ?_; rotate_left
                        · intro w'; go_simp; with_reducible rfl
                        rotate_left
                        · simp only [Act.put, List.setIfInBounds_toArray, List.set_cons_zero, List.set_cons_succ, i64_w, i32_w]; rfl
                        refine pure_ (i := 8) (N := some 59) (v := ?_) (a' := ?_) z28_9 rfl rfl (any_of HT_.out (by kernel_rfl)) (fun _ _ _ h => h) (Or.inl ⟨by rfl, ?_⟩) ?_ ?_; rotate_left
                        · intro w'; go_simp; with_reducible rfl
                        rotate_left
                        · simp only [Act.put, List.setIfInBounds_toArray, List.set_cons_zero, List.set_cons_succ, i64_w, i32_w]; rfl
                        refine take_ (i := 9) (N := some 60) (v := ?_) (a' := ?_) z28_10 rfl rfl (take_ofW HT_.out HW_.out (by kernel_rfl)) (fun _ _ _ h => h) (Or.inl ⟨by rfl, ?_⟩) hHeld ?_ ?_; rotate_left
                        ·
                         rintro w' ⟨s0, s1, s2, s3, s4⟩
                         go_simp; with_reducible rfl
                        rotate_left
                        · simp only [Act.put, List.setIfInBounds_toArray, List.set_cons_zero, List.set_cons_succ, i64_w, i32_w]; rfl
                        refine pure_ (i := 10) (N := some 61) (v := ?_) (a' := ?_) z28_11 rfl rfl (any_of HT_.out (by kernel_rfl)) (fun _ _ _ h => h) (Or.inl ⟨by rfl, ?_⟩) ?_ ?_; rotate_left
                        · intro w'; go_simp; with_reducible rfl
                        rotate_left
                        · simp only [Act.put, List.setIfInBounds_toArray, List.set_cons_zero, List.set_cons_succ, i64_w, i32_w]; rfl
                        refine take_ (i := 11) (N := some 62) (v := ?_) (a' := ?_) z28_12 rfl rfl (take_ofW HT_.out HW_.out (by kernel_rfl)) (fun _ _ _ h => h) (Or.inl ⟨by rfl, ?_⟩) hHeld ?_ ?_; rotate_left
                        ·
                         rintro w' ⟨s0, s1, s2, s3, s4⟩
                         go_simp; with_reducible rfl
                        rotate_left
                        · simp only [Act.put, List.setIfInBounds_toArray, List.set_cons_zero, List.set_cons_succ, i64_w, i32_w]; rfl
                        refine pure_ (i := 12) (N := some 63) (v := ?_) (a' := ?_) z28_13 rfl rfl (any_of HT_.out (by kernel_rfl)) (fun _ _ _ h => h) (Or.inl ⟨by rfl, ?_⟩) ?_ ?_; rotate_left
                        · intro w'; go_simp; with_reducible rfl
                        rotate_left
                        · simp only [Act.put, List.setIfInBounds_toArray, List.set_cons_zero, List.set_cons_succ, i64_w, i32_w]; rfl
                        refine pure_ (i := 13) (N := some 64) (v := ?_) (a' := ?_) z28_14 rfl rfl (any_of HT_.out (by kernel_rfl)) (fun _ _ _ h => h) (Or.inl ⟨by rfl, ?_⟩) ?_ ?_; rotate_left
                        · intro w'; go_simp; with_reducible rfl
                        rotate_left
                        · simp only [Act.put, List.setIfInBounds_toArray, List.set_cons_zero, List.set_cons_succ, i64_w, i32_w]; rfl
                        refine pure_ (i := 14) (N := some 65) (v := undef) (a' := ?_) z28_15 rfl rfl (any_of HT_.out (by kernel_rfl)) (fun _ _ _ h => h) (Or.inr ⟨by rfl, rfl⟩) ?_ ?_; rotate_left
                        · simp only [Act.put, List.setIfInBounds_toArray, List.set_cons_zero, List.set_cons_succ, i64_w, i32_w]; rfl
                        refine pure_ (i := 15) (N := some 66) (v := undef) (a' := ?_) z28_16 rfl rfl (any_of HT_.out (by kernel_rfl)) (fun _ _ _ h => h) (Or.inr ⟨by rfl, rfl⟩) ?_ ?_; rotate_left
                        · simp only [Act.put, List.setIfInBounds_toArray, List.set_cons_zero, List.set_cons_succ, i64_w, i32_w]; rfl
                        refine pure_ (i := 16) (N := some 67) (v := undef) (a' := ?_) z28_17 rfl rfl (any_of HT_.out (by kernel_rfl)) (fun _ _ _ h => h) (Or.inr ⟨by rfl, rfl⟩) ?_ ?_; rotate_left
                        · simp only [Act.put, List.setIfInBounds_toArray, List.set_cons_zero, List.set_cons_succ, i64_w, i32_w]; rfl
                        refine pure_ (i := 17) (N := some 68) (v := undef) (a' := ?_) z28_18 rfl rfl (any_of HT_.out (by kernel_rfl)) (fun _ _ _ h => h) (Or.inr ⟨by rfl, rfl⟩) ?_ ?_; rotate_left
                        · simp only [Act.put, List.setIfInBounds_toArray, List.set_cons_zero, List.set_cons_succ, i64_w, i32_w]; rfl
                        refine pure_ (i := 18) (N := some 69) (v := undef) (a' := ?_) z28_19 rfl rfl (any_of HT_.out (by kernel_rfl)) (fun _ _ _ h => h) (Or.inr ⟨by rfl, rfl⟩) ?_ ?_; rotate_left
                        · simp only [Act.put, List.setIfInBounds_toArray, List.set_cons_zero, List.set_cons_succ, i64_w, i32_w]; rfl
                        refine pure_ (i := 19) (N := some 70) (v := undef) (a' := ?_) z28_20 rfl rfl (any_of HT_.out (by kernel_rfl)) (fun _ _ _ h => h) (Or.inr ⟨by rfl, rfl⟩) ?_ ?_; rotate_left
                        · simp only [Act.put, List.setIfInBounds_toArray, List.set_cons_zero, List.set_cons_succ, i64_w, i32_w]; rfl
                        refine pure_ (i := 20) (N := some 71) (v := undef) (a' := ?_) z28_21 rfl rfl (any_of HT_.out (by kernel_rfl)) (fun _ _ _ h => h) (Or.inr ⟨by rfl, rfl⟩) ?_ ?_; rotate_left
                        · simp only [Act.put, List.setIfInBounds_toArray, List.set_cons_zero, List.set_cons_succ, i64_w, i32_w]; rfl
                        refine pure_ (i := 21) (N := some 72) (v := undef) (a' := ?_) z28_22 rfl rfl (any_of HT_.out (by kernel_rfl)) (fun _ _ _ h => h) (Or.inr ⟨by rfl, rfl⟩) ?_ ?_; rotate_left
                        · simp only [Act.put, List.setIfInBounds_toArray, List.set_cons_zero, List.set_cons_succ, i64_w, i32_w]; rfl
                        refine pure_ (i := 22) (N := some 73) (v := undef) (a' := ?_) z28_23 rfl rfl (any_of HT_.out (by kernel_rfl)) (fun _ _ _ h => h) (Or.inr ⟨by rfl, rfl⟩) ?_ ?_; rotate_left
                        · simp only [Act.put, List.setIfInBounds_toArray, List.set_cons_zero, List.set_cons_succ, i64_w, i32_w]; rfl
                        refine pure_ (i := 23) (N := some 74) (v := undef) (a' := ?_) z28_24 rfl rfl (any_of HT_.out (by kernel_rfl)) (fun _ _ _ h => h) (Or.inr ⟨by rfl, rfl⟩) ?_ ?_; rotate_left
                        · simp only [Act.put, List.setIfInBounds_toArray, List.set_cons_zero, List.set_cons_succ, i64_w, i32_w]; rfl
                        refine pure_ (i := 24) (N := some 75) (v := undef) (a' := ?_) z28_25 rfl rfl (any_of HT_.out (by kernel_rfl)) (fun _ _ _ h => h) (Or.inr ⟨by rfl, rfl⟩) ?_ ?_; rotate_left
                        · simp only [Act.put, List.setIfInBounds_toArray, List.set_cons_zero, List.set_cons_succ, i64_w, i32_w]; rfl
                        refine pure_ (i := 25) (N := some 76) (v := undef) (a' := ?_) z28_26 rfl rfl (any_of HT_.out (by kernel_rfl)) (fun _ _ _ h => h) (Or.inr ⟨by rfl, rfl⟩) ?_ ?_; rotate_left
                        · simp only [Act.put, List.setIfInBounds_toArray, List.set_cons_zero, List.set_cons_succ, i64_w, i32_w]; rfl
                        refine pure_ (i := 26) (N := some 77) (v := undef) (a' := ?_) z28_27 rfl rfl (any_of HT_.out (by kernel_rfl)) (fun _ _ _ h => h) (Or.inr ⟨by rfl, rfl⟩) ?_ ?_; rotate_left
                        · simp only [Act.put, List.setIfInBounds_toArray, List.set_cons_zero, List.set_cons_succ, i64_w, i32_w]; rfl
                        refine pure_ (i := 27) (N := some 78) (v := undef) (a' := ?_) z28_28 rfl rfl (any_of HT_.out (by kernel_rfl)) (fun _ _ _ h => h) (Or.inr ⟨by rfl, rfl⟩) ?_ ?_; rotate_left
                        · simp only [Act.put, List.setIfInBounds_toArray, List.set_cons_zero, List.set_cons_succ, i64_w, i32_w]; rfl
                        refine pure_ (i := 28) (N := some 79) (v := ?_) (a' := ?_) z28_29 rfl rfl (any_of HT_.out (by kernel_rfl)) (fun _ _ _ h => h) (Or.inl ⟨by rfl, ?_⟩) ?_ ?_; rotate_left
                        · intro w'; go_simp; with_reducible rfl
                        rotate_left
                        · simp only [Act.put, List.setIfInBounds_toArray, List.set_cons_zero, List.set_cons_succ, i64_w, i32_w]; rfl
                        refine pure_ (i := 29) (N := some 80) (v := ?_) (a' := ?_) z28_30 rfl rfl (any_of HT_.out (by kernel_rfl)) (fun _ _ _ h => h) (Or.inl ⟨by rfl, ?_⟩) ?_ ?_; rotate_left
                        · intro w'; go_simp; with_reducible rfl
                        rotate_left
                        · simp only [Act.put, List.setIfInBounds_toArray, List.set_cons_zero, List.set_cons_succ, i64_w, i32_w]; rfl
                        refine done_ (done_of HT_.out (by kernel_rfl)) ?_
                        try go_wp2
                        go_meet
                        case rel => exact ⟨_, (true), (by first | rfl | (simp; done) | (simp [*]; done)), H', ⟨by have := HJ3.out; have := HK2.out; have := HK3.out; have := HK4.out; first | omega | exact Nat.le_refl _⟩, ⟨by (try simp only [hl7_3]); (try simp only [hl7_4]); (with_reducible repeat (first | apply Kd.R_alloc | apply Kd.R_drewN | apply Kd.R_drew)); exact HO_7.out⟩, ⟨by (try simp only [hl7_3]); (try simp only [hl7_4]); (with_reducible repeat (first | refine blk_drewN ?_ _ | refine blk_drew ?_ | refine blk_alloc ?_ _)); exact BK145.out⟩, ⟨by repeat (first | (with_reducible first | exact HB.out | apply below_alloc | apply pw_below_drewN | apply below_drew1 | refine below_set ?_ GE145.out) | exact HB.out)⟩⟩
                       ·
                        rw [if_neg c32] at H
                        have c32b0 : decide ((rd x7_4 ((rd_T38 l1 x10_4).f1)) < 0) = false := decide_eq_false c32
                        clear c32
                        have H' := Aside0.mk H
                        clear H
                        try go_wp2
                        have n0_ : Aside0 (Kd.R (Kd.int .i64) 3 (((w25.setCell ⟨gb145, 0, none⟩ (.int .i64 ((rd_T38 l1 x10_4).f0))).setCell ⟨gb145, 1, none⟩ (.int .i64 ((rd_T38 l1 x10_4).f1))).setCell ⟨gb145, 2, none⟩ (.int .i64 ((rd_T38 l1 x10_4).f2))) w.heap.size (fun _ => True) (.slice (some ⟨go18, 0, none⟩) x7_4.length co18) x7_4) := ⟨by (with_reducible repeat (first | apply Kd.R_alloc | apply Kd.R_drewN | apply Kd.R_drew)); exact Kd.R_mono (Kd.R_far (p := ⟨gb145, 2, none⟩) (Kd.R_far (p := ⟨gb145, 1, none⟩) (Kd.R_far (p := ⟨gb145, 0, none⟩) (Kd.R_types HO_7.out BK145.out (by decide)) (fun _ hk => hk.2) (.int .i64 ((rd_T38 l1 x10_4).f0))) (fun _ hk => hk.2) (.int .i64 ((rd_T38 l1 x10_4).f1))) (fun _ hk => hk.2) (.int .i64 ((rd_T38 l1 x10_4).f2))) (fun _ hk => trivial)⟩
                        have n1_ : Aside0 ((((w25.setCell ⟨gb145, 0, none⟩ (.int .i64 ((rd_T38 l1 x10_4).f0))).setCell ⟨gb145, 1, none⟩ (.int .i64 ((rd_T38 l1 x10_4).f1))).setCell ⟨gb145, 2, none⟩ (.int .i64 ((rd_T38 l1 x10_4).f2))).heap[gb145]? = some (.cells #[.int .i64 ((rd_T38 l1 x10_4).f0), .int .i64 ((rd_T38 l1 x10_4).f1), .int .i64 ((rd_T38 l1 x10_4).f2)] 38 (0, 0))) := ⟨by (with_reducible repeat (first | refine blk_drewN ?_ _ | refine blk_drew ?_ | refine blk_alloc ?_ _)); refine blk_put (cs := #[.int .i64 ((rd_T38 l1 x10_4).f0), .int .i64 ((rd_T38 l1 x10_4).f1), .int .i64 0]) ?_ 2 _ rfl; (with_reducible repeat (first | refine blk_drewN ?_ _ | refine blk_drew ?_ | refine blk_alloc ?_ _)); refine blk_put (cs := #[.int .i64 ((rd_T38 l1 x10_4).f0), .int .i64 0, .int .i64 0]) ?_ 1 _ rfl; (with_reducible repeat (first | refine blk_drewN ?_ _ | refine blk_drew ?_ | refine blk_alloc ?_ _)); refine blk_put (cs := #[.int .i64 0, .int .i64 0, .int .i64 0]) ?_ 0 _ rfl; (with_reducible repeat (first | refine blk_drewN ?_ _ | refine blk_drew ?_ | refine blk_alloc ?_ _)); exact BK145.out⟩
                        have n2_ : Aside0 (Below w.heap.size w (((w25.setCell ⟨gb145, 0, none⟩ (.int .i64 ((rd_T38 l1 x10_4).f0))).setCell ⟨gb145, 1, none⟩ (.int .i64 ((rd_T38 l1 x10_4).f1))).setCell ⟨gb145, 2, none⟩ (.int .i64 ((rd_T38 l1 x10_4).f2)))) := ⟨by repeat (first | (with_reducible first | exact HB.out | apply below_alloc | apply pw_below_drewN | apply below_drew1 | refine below_set ?_ GE145.out) | exact HB.out)⟩
                        (try clear HO_7)
                        (try clear BK145)
                        (try clear HB)
                        generalize (((w25.setCell ⟨gb145, 0, none⟩ (.int .i64 ((rd_T38 l1 x10_4).f0))).setCell ⟨gb145, 1, none⟩ (.int .i64 ((rd_T38 l1 x10_4).f1))).setCell ⟨gb145, 2, none⟩ (.int .i64 ((rd_T38 l1 x10_4).f2))) = w35 at n0_ n1_ n2_ ⊢
                        have HO_7 := n0_
                        have BK145 := n1_
                        have HB := n2_
                        clear n0_ n1_ n2_
                        have n0_ := Aside0.mk (Kd.R_drew HO_7.out)
                        have n1_ := Aside0.mk (blk_drew BK145.out)
                        have n2_ := Aside0.mk (below_drew1 HB.out)
                        clear HO_7; clear BK145; clear HB
                        have HO_7 := n0_
                        have BK145 := n1_
                        have HB := n2_
                        clear n0_ n1_ n2_
                        have p146 : 0 ≤ (((rd_T38 l1 x10_4).f0) : Int) := of_decide_eq_true (by first | (with_reducible assumption) | assumption)
                        have q146 : ((rd_T38 l1 x10_4).f0) < (x7_4.length : Int) := of_decide_eq_true (by first | (with_reducible assumption) | assumption)
                        obtain ⟨ad146, e146, hx146_0⟩ := Kd.at_int (Kd.R_reads' HO_7.out).2.2 ((rd_T38 l1 x10_4).f0) p146 q146
                        obtain rfl : (⟨go18, 0, none⟩ : Addr) = ad146 := (by injection e146)
                        (first | simp only [add_plain] at hx146_0 | simp only [add_at] at hx146_0 | simp only [Addr.add, Nat.zero_add] at hx146_0 | skip)
                        replace p146 := eq_true p146
                        replace q146 := eq_true q146
                        have p147 : 0 ≤ (((rd_T38 l1 x10_4).f1) : Int) := of_decide_eq_true (by first | (with_reducible assumption) | assumption)
                        have q147 : ((rd_T38 l1 x10_4).f1) < (x7_4.length : Int) := of_decide_eq_true (by first | (with_reducible assumption) | assumption)
                        obtain ⟨ad147, e147, hx147_0⟩ := Kd.at_int (Kd.R_reads' HO_7.out).2.2 ((rd_T38 l1 x10_4).f1) p147 q147
                        obtain rfl : (⟨go18, 0, none⟩ : Addr) = ad147 := (by injection e147)
                        (first | simp only [add_plain] at hx147_0 | simp only [add_at] at hx147_0 | simp only [Addr.add, Nat.zero_add] at hx147_0 | skip)
                        replace p147 := eq_true p147
                        replace q147 := eq_true q147
                        have p148 : 0 ≤ (((rd_T38 l1 x10_4).f0) : Int) := of_decide_eq_true (by first | (with_reducible assumption) | assumption)
                        have q148 : ((rd_T38 l1 x10_4).f0) < (x7_4.length : Int) := of_decide_eq_true (by first | (with_reducible assumption) | assumption)
                        obtain ⟨ad148, e148, hx148_0⟩ := Kd.at_int (Kd.R_reads' HO_7.out).2.2 ((rd_T38 l1 x10_4).f0) p148 q148
                        obtain rfl : (⟨go18, 0, none⟩ : Addr) = ad148 := (by injection e148)
                        (first | simp only [add_plain] at hx148_0 | simp only [add_at] at hx148_0 | simp only [Addr.add, Nat.zero_add] at hx148_0 | skip)
                        replace p148 := eq_true p148
                        replace q148 := eq_true q148
                        have p149 : 0 ≤ (((rd_T38 l1 x10_4).f1) : Int) := of_decide_eq_true (by first | (with_reducible assumption) | assumption)
                        have q149 : ((rd_T38 l1 x10_4).f1) < (x7_4.length : Int) := of_decide_eq_true (by first | (with_reducible assumption) | assumption)
                        obtain ⟨ad149, e149, hx149_0⟩ := Kd.at_int (Kd.R_reads' HO_7.out).2.2 ((rd_T38 l1 x10_4).f1) p149 q149
                        obtain rfl : (⟨go18, 0, none⟩ : Addr) = ad149 := (by injection e149)
                        (first | simp only [add_plain] at hx149_0 | simp only [add_at] at hx149_0 | simp only [Addr.add, Nat.zero_add] at hx149_0 | skip)
                        replace p149 := eq_true p149
                        replace q149 := eq_true q149
                        refine start_ (n := 30) (S := fun w' => w'.cell? ⟨gb145, 0, none⟩ = some (.int .i64 ((rd_T38 l1 x10_4).f0)) ∧ w'.cell? ⟨gb145, 1, none⟩ = some (.int .i64 ((rd_T38 l1 x10_4).f1)) ∧ w'.cell? ⟨gb145, 2, none⟩ = some (.int .i64 ((rd_T38 l1 x10_4).f2)) ∧ w'.cell? ⟨go18, (((rd_T38 l1 x10_4).f0)).toNat, none⟩ = some (.int .i64 (rd x7_4 ((rd_T38 l1 x10_4).f0))) ∧ w'.cell? ⟨go18, (((rd_T38 l1 x10_4).f1)).toNat, none⟩ = some (.int .i64 (rd x7_4 ((rd_T38 l1 x10_4).f1))) ∧ w'.cell? ⟨go18, (((rd_T38 l1 x10_4).f0)).toNat, none⟩ = some (.int .i64 (rd x7_4 ((rd_T38 l1 x10_4).f0))) ∧ w'.cell? ⟨go18, (((rd_T38 l1 x10_4).f1)).toNat, none⟩ = some (.int .i64 (rd x7_4 ((rd_T38 l1 x10_4).f1)))) (ds := []) z28_0 (by kernel_rfl) rfl rfl ⟨(blk_cell BK145.out 0).trans rfl, (blk_cell BK145.out 1).trans rfl, (blk_cell BK145.out 2).trans rfl, hx146_0, hx147_0, hx148_0, hx149_0⟩ (fun hHeld => ?_); refine with_tabW spec_Distances.tab16 spec_Distances.bits16 (fun HT_ HW_ => ?_)
                        generalize w35.drew = w36 at HO_7 BK145 HB hx146_0 hx147_0 hx148_0 hx149_0 hHeld ⊢
                        refine pure_ (i := 0) (N := some 51) (v := ?_) (a' := ?_) z28_1 rfl rfl (any_of HT_.out (by kernel_rfl)) (fun _ _ _ h => h) (Or.inl ⟨by rfl, ?_⟩) ?_ ?_; rotate_left
                        · intro w'; go_simp; with_reducible rfl
                        rotate_left
                        · simp only [Act.put, List.setIfInBounds_toArray, List.set_cons_zero, List.set_cons_succ, i64_w, i32_w]; rfl
                        refine pure_ (i := 1) (N := some 52) (v := ?_) (a' := ?_) z28_2 rfl rfl (any_of HT_.out (by kernel_rfl)) (fun _ _ _ h => h) (Or.inl ⟨by rfl, ?_⟩) ?_ ?_; rotate_left
                        · intro w'; go_simp; with_reducible rfl
                        rotate_left
                        · simp only [Act.put, List.setIfInBounds_toArray, List.set_cons_zero, List.set_cons_succ, i64_w, i32_w]; rfl
                        refine take_ (i := 2) (N := some 53) (v := ?_) (a' := ?_) z28_3 rfl rfl (take_ofW HT_.out HW_.out (by kernel_rfl)) (fun _ _ _ h => h) (Or.inl ⟨by rfl, ?_⟩) hHeld ?_ ?_; rotate_left
                        ·
                         rintro w' ⟨s0, s1, s2, s3, s4, s5, s6⟩
                         go_simp; with_reducible rfl
                        rotate_left
                        · simp only [Act.put, List.setIfInBounds_toArray, List.set_cons_zero, List.set_cons_succ, i64_w, i32_w]; rfl
                        refine pure_ (i := 3) (N := some 54) (v := ?_) (a' := ?_) z28_4 rfl rfl (any_of HT_.out (by kernel_rfl)) (fun _ _ _ h => h) (Or.inl ⟨by rfl, ?_⟩) ?_ ?_; rotate_left
                        · intro w'; go_simp; with_reducible rfl
                        rotate_left
                        · simp only [Act.put, List.setIfInBounds_toArray, List.set_cons_zero, List.set_cons_succ, i64_w, i32_w]; rfl
                        refine take_ (i := 4) (N := some 55) (v := ?_) (a' := ?_) z28_5 rfl rfl (take_ofW HT_.out HW_.out (by kernel_rfl)) (fun _ _ _ h => h) (Or.inl ⟨by rfl, ?_⟩) hHeld ?_ ?_; rotate_left
                        ·
                         rintro w' ⟨s0, s1, s2, s3, s4, s5, s6⟩
                         go_simp; with_reducible rfl
                        rotate_left
                        · simp only [Act.put, List.setIfInBounds_toArray, List.set_cons_zero, List.set_cons_succ, i64_w, i32_w]; rfl
                        refine pure_ (i := 5) (N := some 56) (v := ?_) (a' := ?_) z28_6 rfl rfl (any_of HT_.out (by kernel_rfl)) (fun _ _ _ h => h) (Or.inl ⟨by rfl, ?_⟩) ?_ ?_; rotate_left
                        · intro w'; go_simp; with_reducible rfl
                        rotate_left
                        · simp only [Act.put, List.setIfInBounds_toArray, List.set_cons_zero, List.set_cons_succ, i64_w, i32_w]; rfl
                        refine pure_ (i := 6) (N := some 57) (v := ?_) (a' := ?_) z28_7 rfl rfl (any_of HT_.out (by kernel_rfl)) (fun _ _ _ h => h) (Or.inl ⟨by rfl, ?_⟩) ?_ ?_; rotate_left
                        · intro w'; go_simp; with_reducible rfl
                        rotate_left
                        · simp only [Act.put, List.setIfInBounds_toArray, List.set_cons_zero, List.set_cons_succ, i64_w, i32_w]; rfl
                        refine pure_ (i := 7) (N := some 58) (v := ?_) (a' := ?_) z28_8 rfl rfl (any_of HT_.out (by kernel_rfl)) (fun _ _ _ h => h) (Or.inl ⟨by rfl, ?_⟩) ?_ ?_; rotate_left
                        · intro w'; go_simp; with_reducible rfl
                        rotate_left
                        · simp only [Act.put, List.setIfInBounds_toArray, List.set_cons_zero, List.set_cons_succ, i64_w, i32_w]; rfl
                        refine pure_ (i := 8) (N := some 59) (v := ?_) (a' := ?_) z28_9 rfl rfl (any_of HT_.out (by kernel_rfl)) (fun _ _ _ h => h) (Or.inl ⟨by rfl, ?_⟩) ?_ ?_; rotate_left
                        · intro w'; go_simp; with_reducible rfl
                        rotate_left
                        · simp only [Act.put, List.setIfInBounds_toArray, List.set_cons_zero, List.set_cons_succ, i64_w, i32_w]; rfl
                        refine take_ (i := 9) (N := some 60) (v := ?_) (a' := ?_) z28_10 rfl rfl (take_ofW HT_.out HW_.out (by kernel_rfl)) (fun _ _ _ h => h) (Or.inl ⟨by rfl, ?_⟩) hHeld ?_ ?_; rotate_left
                        ·
                         rintro w' ⟨s0, s1, s2, s3, s4, s5, s6⟩
                         go_simp; with_reducible rfl
                        rotate_left
                        · simp only [Act.put, List.setIfInBounds_toArray, List.set_cons_zero, List.set_cons_succ, i64_w, i32_w]; rfl
                        refine pure_ (i := 10) (N := some 61) (v := ?_) (a' := ?_) z28_11 rfl rfl (any_of HT_.out (by kernel_rfl)) (fun _ _ _ h => h) (Or.inl ⟨by rfl, ?_⟩) ?_ ?_; rotate_left
                        · intro w'; go_simp; with_reducible rfl
                        rotate_left
                        · simp only [Act.put, List.setIfInBounds_toArray, List.set_cons_zero, List.set_cons_succ, i64_w, i32_w]; rfl
                        refine take_ (i := 11) (N := some 62) (v := ?_) (a' := ?_) z28_12 rfl rfl (take_ofW HT_.out HW_.out (by kernel_rfl)) (fun _ _ _ h => h) (Or.inl ⟨by rfl, ?_⟩) hHeld ?_ ?_; rotate_left
                        ·
                         rintro w' ⟨s0, s1, s2, s3, s4, s5, s6⟩
                         go_simp; with_reducible rfl
                        rotate_left
                        · simp only [Act.put, List.setIfInBounds_toArray, List.set_cons_zero, List.set_cons_succ, i64_w, i32_w]; rfl
                        refine pure_ (i := 12) (N := some 63) (v := ?_) (a' := ?_) z28_13 rfl rfl (any_of HT_.out (by kernel_rfl)) (fun _ _ _ h => h) (Or.inl ⟨by rfl, ?_⟩) ?_ ?_; rotate_left
                        · intro w'; go_simp; with_reducible rfl
                        rotate_left
                        · simp only [Act.put, List.setIfInBounds_toArray, List.set_cons_zero, List.set_cons_succ, i64_w, i32_w]; rfl
                        refine pure_ (i := 13) (N := some 64) (v := ?_) (a' := ?_) z28_14 rfl rfl (any_of HT_.out (by kernel_rfl)) (fun _ _ _ h => h) (Or.inl ⟨by rfl, ?_⟩) ?_ ?_; rotate_left
                        · intro w'; go_simp; with_reducible rfl
                        rotate_left
                        · simp only [Act.put, List.setIfInBounds_toArray, List.set_cons_zero, List.set_cons_succ, i64_w, i32_w]; rfl
                        refine pure_ (i := 14) (N := some 65) (v := ?_) (a' := ?_) z28_15 rfl rfl (any_of HT_.out (by kernel_rfl)) (fun _ _ _ h => h) (Or.inl ⟨by rfl, ?_⟩) ?_ ?_; rotate_left
                        · intro w'; go_simp; with_reducible rfl
                        rotate_left
                        · simp only [Act.put, List.setIfInBounds_toArray, List.set_cons_zero, List.set_cons_succ, i64_w, i32_w]; rfl
                        refine pure_ (i := 15) (N := some 66) (v := ?_) (a' := ?_) z28_16 rfl rfl (any_of HT_.out (by kernel_rfl)) (fun _ _ _ h => h) (Or.inl ⟨by rfl, ?_⟩) ?_ ?_; rotate_left
                        · intro w'; go_simp; with_reducible rfl
                        rotate_left
                        · simp only [Act.put, List.setIfInBounds_toArray, List.set_cons_zero, List.set_cons_succ, i64_w, i32_w]; rfl
                        refine pure_ (i := 19) (N := some 70) (v := ?_) (a' := ?_) z28_31 rfl rfl (any_of HT_.out (by kernel_rfl)) (fun _ _ _ h => h) (Or.inl ⟨by rfl, ?_⟩) ?_ ?_; rotate_left
                        · intro w'; go_simp; with_reducible rfl
                        rotate_left
                        · simp only [Act.put, List.setIfInBounds_toArray, List.set_cons_zero, List.set_cons_succ, i64_w, i32_w]; rfl
                        refine pure_ (i := 22) (N := some 73) (v := ?_) (a' := ?_) z28_32 rfl rfl (any_of HT_.out (by kernel_rfl)) (fun _ _ _ h => h) (Or.inl ⟨by rfl, ?_⟩) ?_ ?_; rotate_left
                        · intro w'; go_simp; with_reducible rfl
                        rotate_left
                        · simp only [Act.put, List.setIfInBounds_toArray, List.set_cons_zero, List.set_cons_succ, i64_w, i32_w]; rfl
                        refine pure_ (i := 23) (N := some 74) (v := ?_) (a' := ?_) z28_33 rfl rfl (any_of HT_.out (by kernel_rfl)) (fun _ _ _ h => h) (Or.inl ⟨by rfl, ?_⟩) ?_ ?_; rotate_left
                        · intro w'; go_simp; with_reducible rfl
                        rotate_left
                        · simp only [Act.put, List.setIfInBounds_toArray, List.set_cons_zero, List.set_cons_succ, i64_w, i32_w]; rfl
                        refine take_ (i := 16) (N := some 67) (v := ?_) (a' := ?_) z28_34 rfl rfl (take_ofW HT_.out HW_.out (by kernel_rfl)) (fun _ _ _ h => h) (Or.inl ⟨by rfl, ?_⟩) hHeld ?_ ?_; rotate_left
                        ·
                         rintro w' ⟨s0, s1, s2, s3, s4, s5, s6⟩
                         go_simp; with_reducible rfl
                        rotate_left
                        · simp only [Act.put, List.setIfInBounds_toArray, List.set_cons_zero, List.set_cons_succ, i64_w, i32_w]; rfl
                        refine pure_ (i := 17) (N := some 68) (v := ?_) (a' := ?_) z28_35 rfl rfl (any_of HT_.out (by kernel_rfl)) (fun _ _ _ h => h) (Or.inl ⟨by rfl, ?_⟩) ?_ ?_; rotate_left
                        · intro w'; go_simp; with_reducible rfl
                        rotate_left
                        · simp only [Act.put, List.setIfInBounds_toArray, List.set_cons_zero, List.set_cons_succ, i64_w, i32_w]; rfl
                        refine take_ (i := 18) (N := some 69) (v := ?_) (a' := ?_) z28_36 rfl rfl (take_ofW HT_.out HW_.out (by kernel_rfl)) (fun _ _ _ h => h) (Or.inl ⟨by rfl, ?_⟩) hHeld ?_ ?_; rotate_left
                        ·
                         rintro w' ⟨s0, s1, s2, s3, s4, s5, s6⟩
                         go_simp; with_reducible rfl
                        rotate_left
                        · simp only [Act.put, List.setIfInBounds_toArray, List.set_cons_zero, List.set_cons_succ, i64_w, i32_w]; rfl
                        refine take_ (i := 20) (N := some 71) (v := ?_) (a' := ?_) z28_37 rfl rfl (take_ofW HT_.out HW_.out (by kernel_rfl)) (fun _ _ _ h => h) (Or.inl ⟨by rfl, ?_⟩) hHeld ?_ ?_; rotate_left
                        ·
                         rintro w' ⟨s0, s1, s2, s3, s4, s5, s6⟩
                         go_simp; with_reducible rfl
                        rotate_left
                        · simp only [Act.put, List.setIfInBounds_toArray, List.set_cons_zero, List.set_cons_succ, i64_w, i32_w]; rfl
                        refine pure_ (i := 21) (N := some 72) (v := ?_) (a' := ?_) z28_24 rfl rfl (any_of HT_.out (by kernel_rfl)) (fun _ _ _ h => h) (Or.inl ⟨by rfl, ?_⟩) ?_ ?_; rotate_left
                        · intro w'; go_simp; with_reducible rfl
                        rotate_left
                        · simp only [Act.put, List.setIfInBounds_toArray, List.set_cons_zero, List.set_cons_succ, i64_w, i32_w]; rfl
                        refine take_ (i := 24) (N := some 75) (v := ?_) (a' := ?_) z28_25 rfl rfl (take_ofW HT_.out HW_.out (by kernel_rfl)) (fun _ _ _ h => h) (Or.inl ⟨by rfl, ?_⟩) hHeld ?_ ?_; rotate_left
                        ·
                         rintro w' ⟨s0, s1, s2, s3, s4, s5, s6⟩
                         go_simp; with_reducible rfl
                        rotate_left
                        · simp only [Act.put, List.setIfInBounds_toArray, List.set_cons_zero, List.set_cons_succ, i64_w, i32_w]; rfl
                        refine pure_ (i := 25) (N := some 76) (v := ?_) (a' := ?_) z28_26 rfl rfl (any_of HT_.out (by kernel_rfl)) (fun _ _ _ h => h) (Or.inl ⟨by rfl, ?_⟩) ?_ ?_; rotate_left
                        · intro w'; go_simp; with_reducible rfl
                        rotate_left
                        · simp only [Act.put, List.setIfInBounds_toArray, List.set_cons_zero, List.set_cons_succ, i64_w, i32_w]; rfl
                        refine take_ (i := 26) (N := some 77) (v := ?_) (a' := ?_) z28_27 rfl rfl (take_ofW HT_.out HW_.out (by kernel_rfl)) (fun _ _ _ h => h) (Or.inl ⟨by rfl, ?_⟩) hHeld ?_ ?_; rotate_left
                        ·
                         rintro w' ⟨s0, s1, s2, s3, s4, s5, s6⟩
                         go_simp; with_reducible rfl
                        rotate_left
                        · simp only [Act.put, List.setIfInBounds_toArray, List.set_cons_zero, List.set_cons_succ, i64_w, i32_w]; rfl
                        refine pure_ (i := 27) (N := some 78) (v := ?_) (a' := ?_) z28_28 rfl rfl (any_of HT_.out (by kernel_rfl)) (fun _ _ _ h => h) (Or.inl ⟨by rfl, ?_⟩) ?_ ?_; rotate_left
                        · intro w'; go_simp; with_reducible rfl
                        rotate_left
                        · simp only [Act.put, List.setIfInBounds_toArray, List.set_cons_zero, List.set_cons_succ, i64_w, i32_w]; rfl
                        refine pure_ (i := 28) (N := some 79) (v := ?_) (a' := ?_) z28_29 rfl rfl (any_of HT_.out (by kernel_rfl)) (fun _ _ _ h => h) (Or.inl ⟨by rfl, ?_⟩) ?_ ?_; rotate_left
                        · intro w'; go_simp; with_reducible rfl
                        rotate_left
                        · simp only [Act.put, List.setIfInBounds_toArray, List.set_cons_zero, List.set_cons_succ, i64_w, i32_w]; rfl
                        refine pure_ (i := 29) (N := some 80) (v := ?_) (a' := ?_) z28_30 rfl rfl (any_of HT_.out (by kernel_rfl)) (fun _ _ _ h => h) (Or.inl ⟨by rfl, ?_⟩) ?_ ?_; rotate_left
                        · intro w'; go_simp; with_reducible rfl
                        rotate_left
                        · simp only [Act.put, List.setIfInBounds_toArray, List.set_cons_zero, List.set_cons_succ, i64_w, i32_w]; rfl
                        refine done_ (done_of HT_.out (by kernel_rfl)) ?_
                        try go_wp2
                        go_meet
                        case rel => exact ⟨_, (decide ((wrap64 ((rd x7_4 ((rd_T38 l1 x10_4).f0)) + ((rd_T38 l1 x10_4).f2))) < (rd x7_4 ((rd_T38 l1 x10_4).f1)))), (by first | rfl | (simp; done) | (simp [*]; done)), H', ⟨by have := HJ3.out; have := HK2.out; have := HK3.out; have := HK4.out; first | omega | exact Nat.le_refl _⟩, ⟨by (try simp only [hl7_3]); (try simp only [hl7_4]); (with_reducible repeat (first | apply Kd.R_alloc | apply Kd.R_drewN | apply Kd.R_drew)); exact HO_7.out⟩, ⟨by (try simp only [hl7_3]); (try simp only [hl7_4]); (with_reducible repeat (first | refine blk_drewN ?_ _ | refine blk_drew ?_ | refine blk_alloc ?_ _)); exact BK145.out⟩, ⟨by repeat (first | (with_reducible first | exact HB.out | apply below_alloc | apply pw_below_drewN | apply below_drew1 | refine below_set ?_ GE145.out) | exact HB.out)⟩⟩
                      ·
                       rw [if_neg c31] at H
                       exact absurd H (by simp)
                     ·
                      rw [if_neg c30] at H
                      exact absurd H (by simp)
                    ·
                     rw [if_neg c29] at H
                     have c29b0 : decide (0 ≤ (rd x7_4 ((rd_T38 l1 x10_4).f0))) = false := decide_eq_false c29
                     clear c29
                     have H' := Aside0.mk H
                     clear H
                     try go_wp2
                     have n0_ : Aside0 (Kd.R (Kd.int .i64) 3 (((w25.setCell ⟨gb145, 0, none⟩ (.int .i64 ((rd_T38 l1 x10_4).f0))).setCell ⟨gb145, 1, none⟩ (.int .i64 ((rd_T38 l1 x10_4).f1))).setCell ⟨gb145, 2, none⟩ (.int .i64 ((rd_T38 l1 x10_4).f2))) w.heap.size (fun _ => True) (.slice (some ⟨go18, 0, none⟩) x7_4.length co18) x7_4) := ⟨by (with_reducible repeat (first | apply Kd.R_alloc | apply Kd.R_drewN | apply Kd.R_drew)); exact Kd.R_mono (Kd.R_far (p := ⟨gb145, 2, none⟩) (Kd.R_far (p := ⟨gb145, 1, none⟩) (Kd.R_far (p := ⟨gb145, 0, none⟩) (Kd.R_types HO_7.out BK145.out (by decide)) (fun _ hk => hk.2) (.int .i64 ((rd_T38 l1 x10_4).f0))) (fun _ hk => hk.2) (.int .i64 ((rd_T38 l1 x10_4).f1))) (fun _ hk => hk.2) (.int .i64 ((rd_T38 l1 x10_4).f2))) (fun _ hk => trivial)⟩
                     have n1_ : Aside0 ((((w25.setCell ⟨gb145, 0, none⟩ (.int .i64 ((rd_T38 l1 x10_4).f0))).setCell ⟨gb145, 1, none⟩ (.int .i64 ((rd_T38 l1 x10_4).f1))).setCell ⟨gb145, 2, none⟩ (.int .i64 ((rd_T38 l1 x10_4).f2))).heap[gb145]? = some (.cells #[.int .i64 ((rd_T38 l1 x10_4).f0), .int .i64 ((rd_T38 l1 x10_4).f1), .int .i64 ((rd_T38 l1 x10_4).f2)] 38 (0, 0))) := ⟨by (with_reducible repeat (first | refine blk_drewN ?_ _ | refine blk_drew ?_ | refine blk_alloc ?_ _)); refine blk_put (cs := #[.int .i64 ((rd_T38 l1 x10_4).f0), .int .i64 ((rd_T38 l1 x10_4).f1), .int .i64 0]) ?_ 2 _ rfl; (with_reducible repeat (first | refine blk_drewN ?_ _ | refine blk_drew ?_ | refine blk_alloc ?_ _)); refine blk_put (cs := #[.int .i64 ((rd_T38 l1 x10_4).f0), .int .i64 0, .int .i64 0]) ?_ 1 _ rfl; (with_reducible repeat (first | refine blk_drewN ?_ _ | refine blk_drew ?_ | refine blk_alloc ?_ _)); refine blk_put (cs := #[.int .i64 0, .int .i64 0, .int .i64 0]) ?_ 0 _ rfl; (with_reducible repeat (first | refine blk_drewN ?_ _ | refine blk_drew ?_ | refine blk_alloc ?_ _)); exact BK145.out⟩
                     have n2_ : Aside0 (Below w.heap.size w (((w25.setCell ⟨gb145, 0, none⟩ (.int .i64 ((rd_T38 l1 x10_4).f0))).setCell ⟨gb145, 1, none⟩ (.int .i64 ((rd_T38 l1 x10_4).f1))).setCell ⟨gb145, 2, none⟩ (.int .i64 ((rd_T38 l1 x10_4).f2)))) := ⟨by repeat (first | (with_reducible first | exact HB.out | apply below_alloc | apply pw_below_drewN | apply below_drew1 | refine below_set ?_ GE145.out) | exact HB.out)⟩
                     (try clear HO_7)
                     (try clear BK145)
                     (try clear HB)
                     generalize (((w25.setCell ⟨gb145, 0, none⟩ (.int .i64 ((rd_T38 l1 x10_4).f0))).setCell ⟨gb145, 1, none⟩ (.int .i64 ((rd_T38 l1 x10_4).f1))).setCell ⟨gb145, 2, none⟩ (.int .i64 ((rd_T38 l1 x10_4).f2))) = w37 at n0_ n1_ n2_ ⊢
                     have HO_7 := n0_
                     have BK145 := n1_
                     have HB := n2_
                     clear n0_ n1_ n2_
                     have n0_ := Aside0.mk (Kd.R_drew HO_7.out)
                     have n1_ := Aside0.mk (blk_drew BK145.out)
                     have n2_ := Aside0.mk (below_drew1 HB.out)
                     clear HO_7; clear BK145; clear HB
                     have HO_7 := n0_
                     have BK145 := n1_
                     have HB := n2_
                     clear n0_ n1_ n2_
                     have p146 : 0 ≤ (((rd_T38 l1 x10_4).f0) : Int) := of_decide_eq_true (by first | (with_reducible assumption) | assumption)
                     have q146 : ((rd_T38 l1 x10_4).f0) < (x7_4.length : Int) := of_decide_eq_true (by first | (with_reducible assumption) | assumption)
                     obtain ⟨ad146, e146, hx146_0⟩ := Kd.at_int (Kd.R_reads' HO_7.out).2.2 ((rd_T38 l1 x10_4).f0) p146 q146
                     obtain rfl : (⟨go18, 0, none⟩ : Addr) = ad146 := (by injection e146)
                     (first | simp only [add_plain] at hx146_0 | simp only [add_at] at hx146_0 | simp only [Addr.add, Nat.zero_add] at hx146_0 | skip)
                     replace p146 := eq_true p146
                     replace q146 := eq_true q146
                     refine start_ (n := 30) (S := fun w' => w'.cell? ⟨gb145, 0, none⟩ = some (.int .i64 ((rd_T38 l1 x10_4).f0)) ∧ w'.cell? ⟨gb145, 1, none⟩ = some (.int .i64 ((rd_T38 l1 x10_4).f1)) ∧ w'.cell? ⟨gb145, 2, none⟩ = some (.int .i64 ((rd_T38 l1 x10_4).f2)) ∧ w'.cell? ⟨go18, (((rd_T38 l1 x10_4).f0)).toNat, none⟩ = some (.int .i64 (rd x7_4 ((rd_T38 l1 x10_4).f0)))) (ds := []) z28_0 (by kernel_rfl) rfl rfl ⟨(blk_cell BK145.out 0).trans rfl, (blk_cell BK145.out 1).trans rfl, (blk_cell BK145.out 2).trans rfl, hx146_0⟩ (fun hHeld => ?_); refine with_tabW spec_Distances.tab16 spec_Distances.bits16 (fun HT_ HW_ => ?_)
                     generalize w37.drew = w38 at HO_7 BK145 HB hx146_0 hHeld ⊢
                     refine pure_ (i := 0) (N := some 51) (v := ?_) (a' := ?_) z28_1 rfl rfl (any_of HT_.out (by kernel_rfl)) (fun _ _ _ h => h) (Or.inl ⟨by rfl, ?_⟩) ?_ ?_; rotate_left
                     · intro w'; go_simp; with_reducible rfl
                     rotate_left
                     · simp only [Act.put, List.setIfInBounds_toArray, List.set_cons_zero, List.set_cons_succ, i64_w, i32_w]; rfl
                     refine pure_ (i := 1) (N := some 52) (v := ?_) (a' := ?_) z28_2 rfl rfl (any_of HT_.out (by kernel_rfl)) (fun _ _ _ h => h) (Or.inl ⟨by rfl, ?_⟩) ?_ ?_; rotate_left
                     · intro w'; go_simp; with_reducible rfl
                     rotate_left
                     · simp only [Act.put, List.setIfInBounds_toArray, List.set_cons_zero, List.set_cons_succ, i64_w, i32_w]; rfl
                     refine take_ (i := 2) (N := some 53) (v := ?_) (a' := ?_) z28_3 rfl rfl (take_ofW HT_.out HW_.out (by kernel_rfl)) (fun _ _ _ h => h) (Or.inl ⟨by rfl, ?_⟩) hHeld ?_ ?_; rotate_left
                     ·
                      rintro w' ⟨s0, s1, s2, s3⟩
                      go_simp; with_reducible rfl
                     rotate_left
                     · simp only [Act.put, List.setIfInBounds_toArray, List.set_cons_zero, List.set_cons_succ, i64_w, i32_w]; rfl
                     refine pure_ (i := 3) (N := some 54) (v := ?_) (a' := ?_) z28_4 rfl rfl (any_of HT_.out (by kernel_rfl)) (fun _ _ _ h => h) (Or.inl ⟨by rfl, ?_⟩) ?_ ?_; rotate_left
                     · intro w'; go_simp; with_reducible rfl
                     rotate_left
                     · simp only [Act.put, List.setIfInBounds_toArray, List.set_cons_zero, List.set_cons_succ, i64_w, i32_w]; rfl
                     refine take_ (i := 4) (N := some 55) (v := ?_) (a' := ?_) z28_5 rfl rfl (take_ofW HT_.out HW_.out (by kernel_rfl)) (fun _ _ _ h => h) (Or.inl ⟨by rfl, ?_⟩) hHeld ?_ ?_; rotate_left
                     ·
                      rintro w' ⟨s0, s1, s2, s3⟩
                      go_simp; with_reducible rfl
                     rotate_left
                     · simp only [Act.put, List.setIfInBounds_toArray, List.set_cons_zero, List.set_cons_succ, i64_w, i32_w]; rfl
                     refine pure_ (i := 5) (N := some 56) (v := ?_) (a' := ?_) z28_6 rfl rfl (any_of HT_.out (by kernel_rfl)) (fun _ _ _ h => h) (Or.inl ⟨by rfl, ?_⟩) ?_ ?_; rotate_left
                     · intro w'; go_simp; with_reducible rfl
                     rotate_left
                     · simp only [Act.put, List.setIfInBounds_toArray, List.set_cons_zero, List.set_cons_succ, i64_w, i32_w]; rfl
                     refine pure_ (i := 6) (N := some 57) (v := ?_) (a' := ?_) z28_7 rfl rfl (any_of HT_.out (by kernel_rfl)) (fun _ _ _ h => h) (Or.inl ⟨by rfl, ?_⟩) ?_ ?_; rotate_left
                     · intro w'; go_simp; with_reducible rfl
                     rotate_left
                     · simp only [Act.put, List.setIfInBounds_toArray, List.set_cons_zero, List.set_cons_succ, i64_w, i32_w]; rfl
                     refine pure_ (i := 7) (N := some 58) (v := undef) (a' := ?_) z28_8 rfl rfl (any_of HT_.out (by kernel_rfl)) (fun _ _ _ h => h) (Or.inr ⟨by rfl, rfl⟩) ?_ ?_; rotate_left
                     · simp only [Act.put, List.setIfInBounds_toArray, List.set_cons_zero, List.set_cons_succ, i64_w, i32_w]; rfl
                     refine pure_ (i := 8) (N := some 59) (v := undef) (a' := ?_) z28_9 rfl rfl (any_of HT_.out (by kernel_rfl)) (fun _ _ _ h => h) (Or.inr ⟨by rfl, rfl⟩) ?_ ?_; rotate_left
                     · simp only [Act.put, List.setIfInBounds_toArray, List.set_cons_zero, List.set_cons_succ, i64_w, i32_w]; rfl
                     refine pure_ (i := 9) (N := some 60) (v := undef) (a' := ?_) z28_10 rfl rfl (any_of HT_.out (by kernel_rfl)) (fun _ _ _ h => h) (Or.inr ⟨by rfl, rfl⟩) ?_ ?_; rotate_left
                     · simp only [Act.put, List.setIfInBounds_toArray, List.set_cons_zero, List.set_cons_succ, i64_w, i32_w]; rfl
                     refine pure_ (i := 10) (N := some 61) (v := undef) (a' := ?_) z28_11 rfl rfl (any_of HT_.out (by kernel_rfl)) (fun _ _ _ h => h) (Or.inr ⟨by rfl, rfl⟩) ?_ ?_; rotate_left
                     · simp only [Act.put, List.setIfInBounds_toArray, List.set_cons_zero, List.set_cons_succ, i64_w, i32_w]; rfl
                     refine pure_ (i := 11) (N := some 62) (v := undef) (a' := ?_) z28_12 rfl rfl (any_of HT_.out (by kernel_rfl)) (fun _ _ _ h => h) (Or.inr ⟨by rfl, rfl⟩) ?_ ?_; rotate_left
                     · simp only [Act.put, List.setIfInBounds_toArray, List.set_cons_zero, List.set_cons_succ, i64_w, i32_w]; rfl
                     refine pure_ (i := 12) (N := some 63) (v := undef) (a' := ?_) z28_13 rfl rfl (any_of HT_.out (by kernel_rfl)) (fun _ _ _ h => h) (Or.inr ⟨by rfl, rfl⟩) ?_ ?_; rotate_left
                     · simp only [Act.put, List.setIfInBounds_toArray, List.set_cons_zero, List.set_cons_succ, i64_w, i32_w]; rfl
                     refine pure_ (i := 13) (N := some 64) (v := undef) (a' := ?_) z28_14 rfl rfl (any_of HT_.out (by kernel_rfl)) (fun _ _ _ h => h) (Or.inr ⟨by rfl, rfl⟩) ?_ ?_; rotate_left
                     · simp only [Act.put, List.setIfInBounds_toArray, List.set_cons_zero, List.set_cons_succ, i64_w, i32_w]; rfl
                     refine pure_ (i := 14) (N := some 65) (v := undef) (a' := ?_) z28_15 rfl rfl (any_of HT_.out (by kernel_rfl)) (fun _ _ _ h => h) (Or.inr ⟨by rfl, rfl⟩) ?_ ?_; rotate_left
                     · simp only [Act.put, List.setIfInBounds_toArray, List.set_cons_zero, List.set_cons_succ, i64_w, i32_w]; rfl
                     refine pure_ (i := 15) (N := some 66) (v := undef) (a' := ?_) z28_16 rfl rfl (any_of HT_.out (by kernel_rfl)) (fun _ _ _ h => h) (Or.inr ⟨by rfl, rfl⟩) ?_ ?_; rotate_left
                     · simp only [Act.put, List.setIfInBounds_toArray, List.set_cons_zero, List.set_cons_succ, i64_w, i32_w]; rfl
                     refine pure_ (i := 16) (N := some 67) (v := undef) (a' := ?_) z28_17 rfl rfl (any_of HT_.out (by kernel_rfl)) (fun _ _ _ h => h) (Or.inr ⟨by rfl, rfl⟩) ?_ ?_; rotate_left
                     · simp only [Act.put, List.setIfInBounds_toArray, List.set_cons_zero, List.set_cons_succ, i64_w, i32_w]; rfl
                     refine pure_ (i := 17) (N := some 68) (v := undef) (a' := ?_) z28_18 rfl rfl (any_of HT_.out (by kernel_rfl)) (fun _ _ _ h => h) (Or.inr ⟨by rfl, rfl⟩) ?_ ?_; rotate_left
                     · simp only [Act.put, List.setIfInBounds_toArray, List.set_cons_zero, List.set_cons_succ, i64_w, i32_w]; rfl
                     refine pure_ (i := 18) (N := some 69) (v := undef) (a' := ?_) z28_19 rfl rfl (any_of HT_.out (by kernel_rfl)) (fun _ _ _ h => h) (Or.inr ⟨by rfl, rfl⟩) ?_ ?_; rotate_left
                     · simp only [Act.put, List.setIfInBounds_toArray, List.set_cons_zero, List.set_cons_succ, i64_w, i32_w]; rfl
                     refine pure_ (i := 19) (N := some 70) (v := undef) (a' := ?_) z28_20 rfl rfl (any_of HT_.out (by kernel_rfl)) (fun _ _ _ h => h) (Or.inr ⟨by rfl, rfl⟩) ?_ ?_; rotate_left
                     · simp only [Act.put, List.setIfInBounds_toArray, List.set_cons_zero, List.set_cons_succ, i64_w, i32_w]; rfl
                     refine pure_ (i := 20) (N := some 71) (v := undef) (a' := ?_) z28_21 rfl rfl (any_of HT_.out (by kernel_rfl)) (fun _ _ _ h => h) (Or.inr ⟨by rfl, rfl⟩) ?_ ?_; rotate_left
                     · simp only [Act.put, List.setIfInBounds_toArray, List.set_cons_zero, List.set_cons_succ, i64_w, i32_w]; rfl
                     refine pure_ (i := 21) (N := some 72) (v := undef) (a' := ?_) z28_22 rfl rfl (any_of HT_.out (by kernel_rfl)) (fun _ _ _ h => h) (Or.inr ⟨by rfl, rfl⟩) ?_ ?_; rotate_left
                     · simp only [Act.put, List.setIfInBounds_toArray, List.set_cons_zero, List.set_cons_succ, i64_w, i32_w]; rfl
                     refine pure_ (i := 22) (N := some 73) (v := undef) (a' := ?_) z28_23 rfl rfl (any_of HT_.out (by kernel_rfl)) (fun _ _ _ h => h) (Or.inr ⟨by rfl, rfl⟩) ?_ ?_; rotate_left
                     · simp only [Act.put, List.setIfInBounds_toArray, List.set_cons_zero, List.set_cons_succ, i64_w, i32_w]; rfl
                     refine pure_ (i := 23) (N := some 74) (v := undef) (a' := ?_) z28_24 rfl rfl (any_of HT_.out (by kernel_rfl)) (fun _ _ _ h => h) (Or.inr ⟨by rfl, rfl⟩) ?_ ?_; rotate_left
                     · simp only [Act.put, List.setIfInBounds_toArray, List.set_cons_zero, List.set_cons_succ, i64_w, i32_w]; rfl
                     refine pure_ (i := 24) (N := some 75) (v := undef) (a' := ?_) z28_25 rfl rfl (any_of HT_.out (by kernel_rfl)) (fun _ _ _ h => h) (Or.inr ⟨by rfl, rfl⟩) ?_ ?_; rotate_left
                     · simp only [Act.put, List.setIfInBounds_toArray, List.set_cons_zero, List.set_cons_succ, i64_w, i32_w]; rfl
                     refine pure_ (i := 25) (N := some 76) (v := undef) (a' := ?_) z28_26 rfl rfl (any_of HT_.out (by kernel_rfl)) (fun _ _ _ h => h) (Or.inr ⟨by rfl, rfl⟩) ?_ ?_; rotate_left
                     · simp only [Act.put, List.setIfInBounds_toArray, List.set_cons_zero, List.set_cons_succ, i64_w, i32_w]; rfl
                     refine pure_ (i := 26) (N := some 77) (v := undef) (a' := ?_) z28_27 rfl rfl (any_of HT_.out (by kernel_rfl)) (fun _ _ _ h => h) (Or.inr ⟨by rfl, rfl⟩) ?_ ?_; rotate_left
                     · simp only [Act.put, List.setIfInBounds_toArray, List.set_cons_zero, List.set_cons_succ, i64_w, i32_w]; rfl
                     refine pure_ (i := 27) (N := some 78) (v := undef) (a' := ?_) z28_28 rfl rfl (any_of HT_.out (by kernel_rfl)) (fun _ _ _ h => h) (Or.inr ⟨by rfl, rfl⟩) ?_ ?_; rotate_left
                     · simp only [Act.put, List.setIfInBounds_toArray, List.set_cons_zero, List.set_cons_succ, i64_w, i32_w]; rfl
                     refine pure_ (i := 28) (N := some 79) (v := undef) (a' := ?_) z28_29 rfl rfl (any_of HT_.out (by kernel_rfl)) (fun _ _ _ h => h) (Or.inr ⟨by rfl, rfl⟩) ?_ ?_; rotate_left
                     · simp only [Act.put, List.setIfInBounds_toArray, List.set_cons_zero, List.set_cons_succ, i64_w, i32_w]; rfl
                     refine pure_ (i := 29) (N := some 80) (v := ?_) (a' := ?_) z28_30 rfl rfl (any_of HT_.out (by kernel_rfl)) (fun _ _ _ h => h) (Or.inl ⟨by rfl, ?_⟩) ?_ ?_; rotate_left
                     · intro w'; go_simp; with_reducible rfl
                     rotate_left
                     · simp only [Act.put, List.setIfInBounds_toArray, List.set_cons_zero, List.set_cons_succ, i64_w, i32_w]; rfl
                     refine done_ (done_of HT_.out (by kernel_rfl)) ?_
                     try go_wp2
                     go_meet
                     case rel => exact ⟨_, (false), (by first | rfl | (simp; done) | (simp [*]; done)), H', ⟨by have := HJ3.out; have := HK2.out; have := HK3.out; have := HK4.out; first | omega | exact Nat.le_refl _⟩, ⟨by (try simp only [hl7_3]); (try simp only [hl7_4]); (with_reducible repeat (first | apply Kd.R_alloc | apply Kd.R_drewN | apply Kd.R_drew)); exact HO_7.out⟩, ⟨by (try simp only [hl7_3]); (try simp only [hl7_4]); (with_reducible repeat (first | refine blk_drewN ?_ _ | refine blk_drew ?_ | refine blk_alloc ?_ _)); exact BK145.out⟩, ⟨by repeat (first | (with_reducible first | exact HB.out | apply below_alloc | apply pw_below_drewN | apply below_drew1 | refine below_set ?_ GE145.out) | exact HB.out)⟩⟩
                   ·
                    rw [if_neg c28] at H
                    exact absurd H (by simp)
                  ·
                   rw [if_neg c27] at H
                   exact absurd H (by simp)
                 case rest =>
                  clear HC24
                  try clear p1
                  try clear q1
                  try clear hx1
                  try clear c2
                  try clear p2
                  try clear c3
                  try clear p6
                  try clear p14
                  try clear q14
                  try clear hx14
                  try clear c27
                  try clear c28
                  try clear c29
                  try clear c29b0
                  try clear c30
                  try clear c31
                  try clear c32
                  try clear c32b0
                  try clear hx146_0
                  try clear hx147_0
                  try clear hx148_0
                  try clear hx149_0
                  try clear p146
                  try clear p147
                  try clear p148
                  try clear p149
                  try clear q146
                  try clear q147
                  try clear q148
                  try clear q149
                  obtain ⟨kq, x80_23, rfl, HA, HJ23, HO_7, BK145, HB⟩ := hcut
                  cases kq with
                  | zero => exact absurd HA.out (by simp [spec_Distances.j4])
                  | succ kj23 =>
                   have H := HA.out
                   clear HA
                   simp only [spec_Distances.j4] at H
                   have HC39 := Aside0.mk H
                   clear H
                   go_upto_if 80 with (fail)
                   go_cut [] (fun wc => ∃ (kq : Nat) (x7_38 : List Int), Aside0 (spec_Distances.j5 kq a0 l1 x7_38 x9_3 x10_4 ((rd_T38 l1 x10_4).f0) ((rd_T38 l1 x10_4).f1) ((rd_T38 l1 x10_4).f2) = some r) ∧ Aside0 (kq ≤ kj23) ∧ Aside0 (Kd.R (Kd.int .i64) 3 wc w.heap.size (fun _ => True) (.slice (some ⟨go18, 0, none⟩) x7_4.length co18) x7_38) ∧ Aside0 (wc.heap[gb145]? = some (.cells #[.int .i64 ((rd_T38 l1 x10_4).f0), .int .i64 ((rd_T38 l1 x10_4).f1), .int .i64 ((rd_T38 l1 x10_4).f2)] 38 (0, 0))) ∧ Aside0 (Below w.heap.size w wc))
                   case first =>
                    have H := HC39.out
                    clear HC39
                    by_cases c40 : x80_23 = true
                    ·
                     subst c40
                     have H1 : (if 0 ≤ ((rd_T38 l1 x10_4).f0) then (if ((rd_T38 l1 x10_4).f0) < (x7_4.length : Int) then (if 0 ≤ ((rd_T38 l1 x10_4).f1) then (if ((rd_T38 l1 x10_4).f1) < (x7_4.length : Int) then (spec_Distances.j5 kj23 a0 l1 (x7_4.set (((rd_T38 l1 x10_4).f1) : Int).toNat (wrap64 ((rd x7_4 ((rd_T38 l1 x10_4).f0)) + ((rd_T38 l1 x10_4).f2)))) x9_3 x10_4 ((rd_T38 l1 x10_4).f0) ((rd_T38 l1 x10_4).f1) ((rd_T38 l1 x10_4).f2)) else (none)) else (none)) else (none)) else (none)) = some r := by rw [if_pos rfl] at H; exact H
                     clear H; have H := H1; clear H1
                     by_cases c41 : 0 ≤ ((rd_T38 l1 x10_4).f0)
                     ·
                      rw [if_pos c41] at H
                      have c41b0 : decide (0 ≤ ((rd_T38 l1 x10_4).f0)) = true := decide_eq_true c41
                      clear c41
                      (first | rw [c41b0] | (simp only [i64_w, i32_w]; rw [c41b0]) | skip)
                      by_cases c42 : ((rd_T38 l1 x10_4).f0) < (x7_4.length : Int)
                      ·
                       rw [if_pos c42] at H
                       have c42b0 : decide (((rd_T38 l1 x10_4).f0) < (x7_4.length : Int)) = true := decide_eq_true c42
                       clear c42
                       by_cases c43 : 0 ≤ ((rd_T38 l1 x10_4).f1)
                       ·
                        rw [if_pos c43] at H
                        have c43b0 : decide (0 ≤ ((rd_T38 l1 x10_4).f1)) = true := decide_eq_true c43
                        clear c43
                        by_cases c44 : ((rd_T38 l1 x10_4).f1) < (x7_4.length : Int)
                        ·
                         rw [if_pos c44] at H
                         have c44b0 : decide (((rd_T38 l1 x10_4).f1) < (x7_4.length : Int)) = true := decide_eq_true c44
                         clear c44
                         obtain ⟨y151, hy151⟩ : ∃ y_ : List Int, y_ = (x7_4.set (((rd_T38 l1 x10_4).f1) : Int).toNat (wrap64 ((rd x7_4 ((rd_T38 l1 x10_4).f0)) + ((rd_T38 l1 x10_4).f2)))) := ⟨_, rfl⟩
                         replace H : (spec_Distances.j5 kj23 a0 l1 y151 x9_3 x10_4 ((rd_T38 l1 x10_4).f0) ((rd_T38 l1 x10_4).f1) ((rd_T38 l1 x10_4).f2)) = some r := by first | (rw [hy151]; with_reducible exact H) | (have H2_ := (Option.bind_some _ _).symm.trans H; rw [hy151]; with_reducible exact H2_) | (have H2_ := (Option.bind_some _ _).symm.trans H; with_reducible exact H2_) | with_reducible exact H | (rw [hy151]; exact H) | exact H
                         have Ny151 := Aside0.mk hy151
                         clear hy151
                         have H' := Aside0.mk H
                         clear H
                         try go_wp2
                         have n0_ := Aside0.mk (Kd.R_drew HO_7.out)
                         have n1_ := Aside0.mk (blk_drew BK145.out)
                         have n2_ := Aside0.mk (below_drew1 HB.out)
                         clear HO_7; clear BK145; clear HB
                         have HO_7 := n0_
                         have BK145 := n1_
                         have HB := n2_
                         clear n0_ n1_ n2_
                         have p150 : 0 ≤ (((rd_T38 l1 x10_4).f0) : Int) := of_decide_eq_true (by first | (with_reducible assumption) | assumption)
                         have q150 : ((rd_T38 l1 x10_4).f0) < (x7_4.length : Int) := of_decide_eq_true (by first | (with_reducible assumption) | assumption)
                         obtain ⟨ad150, e150, hx150_0⟩ := Kd.at_int (Kd.R_reads' HO_7.out).2.2 ((rd_T38 l1 x10_4).f0) p150 q150
                         obtain rfl : (⟨go18, 0, none⟩ : Addr) = ad150 := (by injection e150)
                         (first | simp only [add_plain] at hx150_0 | simp only [add_at] at hx150_0 | simp only [Addr.add, Nat.zero_add] at hx150_0 | skip)
                         replace p150 := eq_true p150
                         replace q150 := eq_true q150
                         have p45 : 0 ≤ (((rd_T38 l1 x10_4).f1) : Int) := of_decide_eq_true (by first | (with_reducible assumption) | assumption)
                         have q45 : (((rd_T38 l1 x10_4).f1) : Int) < ((x7_4.length : Int) : Int) := of_decide_eq_true (by first | (with_reducible assumption) | assumption)
                         obtain ⟨hx45_0, hf45_0⟩ := Kd.R_celln 0 HO_7.out (((rd_T38 l1 x10_4).f1) : Int) p45 q45
                         replace p45 := eq_true p45
                         replace q45 := eq_true q45
                         have HP47 := Kd.R_putn HO_7.out (((rd_T38 l1 x10_4).f1) : Int) (wrap64 ((rd x7_4 ((rd_T38 l1 x10_4).f0)) + ((rd_T38 l1 x10_4).f2)))
                         rw [← Ny151.out] at HP47
                         have HQ47 := Aside0.mk HP47
                         clear HP47
                         refine start_ (n := 13) (S := fun w' => w'.cell? ⟨gb145, 0, none⟩ = some (.int .i64 ((rd_T38 l1 x10_4).f0)) ∧ w'.cell? ⟨gb145, 1, none⟩ = some (.int .i64 ((rd_T38 l1 x10_4).f1)) ∧ w'.cell? ⟨gb145, 2, none⟩ = some (.int .i64 ((rd_T38 l1 x10_4).f2)) ∧ w'.cell? ⟨go18, (((rd_T38 l1 x10_4).f0)).toNat, none⟩ = some (.int .i64 (rd x7_4 ((rd_T38 l1 x10_4).f0)))) (ds := [12]) z28_38 (by kernel_rfl) rfl rfl ⟨(blk_cell BK145.out 0).trans rfl, (blk_cell BK145.out 1).trans rfl, (blk_cell BK145.out 2).trans rfl, hx150_0⟩ (fun hHeld => ?_); refine with_tabW spec_Distances.tab17 spec_Distances.bits17 (fun HT_ HW_ => ?_)
                         generalize wc.drew = w46 at HO_7 BK145 HB HQ47 hf45_0 hx150_0 hx45_0 hHeld ⊢
                         refine pure_ (i := 0) (N := some 81) (v := ?_) (a' := ?_) z28_39 rfl rfl (any_of HT_.out (by kernel_rfl)) (fun _ _ _ h => h) (Or.inl ⟨by rfl, ?_⟩) ?_ ?_; rotate_left
                         · intro w'; go_simp; with_reducible rfl
                         rotate_left
                         · simp only [Act.put, List.setIfInBounds_toArray, List.set_cons_zero, List.set_cons_succ, i64_w, i32_w]; rfl
                         refine pure_ (i := 1) (N := some 82) (v := ?_) (a' := ?_) z28_40 rfl rfl (any_of HT_.out (by kernel_rfl)) (fun _ _ _ h => h) (Or.inl ⟨by rfl, ?_⟩) ?_ ?_; rotate_left
                         · intro w'; go_simp; with_reducible rfl
                         rotate_left
                         · simp only [Act.put, List.setIfInBounds_toArray, List.set_cons_zero, List.set_cons_succ, i64_w, i32_w]; rfl
                         refine pure_ (i := 3) (N := some 84) (v := ?_) (a' := ?_) z28_41 rfl rfl (any_of HT_.out (by kernel_rfl)) (fun _ _ _ h => h) (Or.inl ⟨by rfl, ?_⟩) ?_ ?_; rotate_left
                         · intro w'; go_simp; with_reducible rfl
                         rotate_left
                         · simp only [Act.put, List.setIfInBounds_toArray, List.set_cons_zero, List.set_cons_succ, i64_w, i32_w]; rfl
                         refine pure_ (i := 4) (N := some 85) (v := ?_) (a' := ?_) z28_42 rfl rfl (any_of HT_.out (by kernel_rfl)) (fun _ _ _ h => h) (Or.inl ⟨by rfl, ?_⟩) ?_ ?_; rotate_left
                         · intro w'; go_simp; with_reducible rfl
                         rotate_left
                         · simp only [Act.put, List.setIfInBounds_toArray, List.set_cons_zero, List.set_cons_succ, i64_w, i32_w]; rfl
                         refine pure_ (i := 8) (N := some 89) (v := ?_) (a' := ?_) z28_43 rfl rfl (any_of HT_.out (by kernel_rfl)) (fun _ _ _ h => h) (Or.inl ⟨by rfl, ?_⟩) ?_ ?_; rotate_left
                         · intro w'; go_simp; with_reducible rfl
                         rotate_left
                         · simp only [Act.put, List.setIfInBounds_toArray, List.set_cons_zero, List.set_cons_succ, i64_w, i32_w]; rfl
                         refine take_ (i := 2) (N := some 83) (v := ?_) (a' := ?_) z28_44 rfl rfl (take_ofW HT_.out HW_.out (by kernel_rfl)) (fun _ _ _ h => h) (Or.inl ⟨by rfl, ?_⟩) hHeld ?_ ?_; rotate_left
                         ·
                          rintro w' ⟨s0, s1, s2, s3⟩
                          go_simp; with_reducible rfl
                         rotate_left
                         · simp only [Act.put, List.setIfInBounds_toArray, List.set_cons_zero, List.set_cons_succ, i64_w, i32_w]; rfl
                         refine take_ (i := 5) (N := some 86) (v := ?_) (a' := ?_) z28_45 rfl rfl (take_ofW HT_.out HW_.out (by kernel_rfl)) (fun _ _ _ h => h) (Or.inl ⟨by rfl, ?_⟩) hHeld ?_ ?_; rotate_left
                         ·
                          rintro w' ⟨s0, s1, s2, s3⟩
                          go_simp; with_reducible rfl
                         rotate_left
                         · simp only [Act.put, List.setIfInBounds_toArray, List.set_cons_zero, List.set_cons_succ, i64_w, i32_w]; rfl
                         refine pure_ (i := 6) (N := some 87) (v := ?_) (a' := ?_) z28_46 rfl rfl (any_of HT_.out (by kernel_rfl)) (fun _ _ _ h => h) (Or.inl ⟨by rfl, ?_⟩) ?_ ?_; rotate_left
                         · intro w'; go_simp; with_reducible rfl
                         rotate_left
                         · simp only [Act.put, List.setIfInBounds_toArray, List.set_cons_zero, List.set_cons_succ, i64_w, i32_w]; rfl
                         refine take_ (i := 7) (N := some 88) (v := ?_) (a' := ?_) z28_47 rfl rfl (take_ofW HT_.out HW_.out (by kernel_rfl)) (fun _ _ _ h => h) (Or.inl ⟨by rfl, ?_⟩) hHeld ?_ ?_; rotate_left
                         ·
                          rintro w' ⟨s0, s1, s2, s3⟩
                          go_simp; with_reducible rfl
                         rotate_left
                         · simp only [Act.put, List.setIfInBounds_toArray, List.set_cons_zero, List.set_cons_succ, i64_w, i32_w]; rfl
                         refine take_ (i := 9) (N := some 90) (v := ?_) (a' := ?_) z28_48 rfl rfl (take_ofW HT_.out HW_.out (by kernel_rfl)) (fun _ _ _ h => h) (Or.inl ⟨by rfl, ?_⟩) hHeld ?_ ?_; rotate_left
                         ·
                          rintro w' ⟨s0, s1, s2, s3⟩
                          go_simp; with_reducible rfl
                         rotate_left
                         · simp only [Act.put, List.setIfInBounds_toArray, List.set_cons_zero, List.set_cons_succ, i64_w, i32_w]; rfl
                         refine pure_ (i := 10) (N := some 91) (v := ?_) (a' := ?_) z28_49 rfl rfl (any_of HT_.out (by kernel_rfl)) (fun _ _ _ h => h) (Or.inl ⟨by rfl, ?_⟩) ?_ ?_; rotate_left
                         · intro w'; go_simp; with_reducible rfl
                         rotate_left
                         · simp only [Act.put, List.setIfInBounds_toArray, List.set_cons_zero, List.set_cons_succ, i64_w, i32_w]; rfl
                         refine pure_ (i := 11) (N := some 92) (v := ?_) (a' := ?_) z28_50 rfl rfl (any_of HT_.out (by kernel_rfl)) (fun _ _ _ h => h) (Or.inl ⟨by rfl, ?_⟩) ?_ ?_; rotate_left
                         · intro w'; go_simp; with_reducible rfl
                         rotate_left
                         · simp only [Act.put, List.setIfInBounds_toArray, List.set_cons_zero, List.set_cons_succ, i64_w, i32_w]; rfl
                         refine last_ (i := 12) (N := none) z28_51 rfl rfl (one_of HT_.out (by kernel_rfl)) (by decide) (fun K hK => ?_)
                         refine skip_ (w1 := ?_) (by rfl) rfl ?_ ?_
                         rotate_left
                         · go_simp; rfl
                         refine hK.out _ _ ?_
                         clear hK K
                         refine done_ (done_of HT_.out (by kernel_rfl)) ?_
                         try go_wp2
                         go_meet
                         case rel => exact ⟨_, (y151), H', ⟨by have := HJ3.out; have := HK2.out; have := HK3.out; have := HK4.out; have := HJ23.out; first | omega | exact Nat.le_refl _⟩, ⟨by (try simp only [hl7_3]); (try simp only [hl7_4]); (with_reducible repeat (first | apply Kd.R_alloc | apply Kd.R_drewN | apply Kd.R_drew)); exact HQ47.out⟩, ⟨by (try simp only [hl7_3]); (try simp only [hl7_4]); (with_reducible repeat (first | refine blk_drewN ?_ _ | refine blk_drew ?_ | refine blk_alloc ?_ _)); refine blk_far ?_ (by have h_ := Kd.R_ne HO_7.out BK145.out (by decide); intro e_; exact h_ (by rw [e_]; rfl)) _; (with_reducible repeat (first | refine blk_drewN ?_ _ | refine blk_drew ?_ | refine blk_alloc ?_ _)); exact BK145.out⟩, ⟨by repeat (first | (with_reducible first | exact HB.out | apply below_alloc | apply pw_below_drewN | apply below_drew1 | refine below_set ?_ GB18.out | refine below_set ?_ GE145.out) | exact HB.out)⟩⟩
                        ·
                         rw [if_neg c44] at H
                         exact absurd H (by simp)
                       ·
                        rw [if_neg c43] at H
                        exact absurd H (by simp)
                      ·
                       rw [if_neg c42] at H
                       exact absurd H (by simp)
                     ·
                      rw [if_neg c41] at H
                      exact absurd H (by simp)
                    ·
                     replace c40 := Bool.eq_false_iff.mpr c40
                     subst c40
                     have H1 : (spec_Distances.j5 kj23 a0 l1 x7_4 x9_3 x10_4 ((rd_T38 l1 x10_4).f0) ((rd_T38 l1 x10_4).f1) ((rd_T38 l1 x10_4).f2)) = some r := by rw [if_neg (show ¬ (false = true) by decide)] at H; exact H
                     clear H; have H := H1; clear H1
                     have H' := Aside0.mk H
                     clear H; go_wp2
                     go_meet
                     case rel => exact ⟨_, (x7_4), H', ⟨by have := HJ3.out; have := HK2.out; have := HK3.out; have := HK4.out; have := HJ23.out; first | omega | exact Nat.le_refl _⟩, ⟨by (try simp only [hl7_3]); (try simp only [hl7_4]); (with_reducible repeat (first | apply Kd.R_alloc | apply Kd.R_drewN | apply Kd.R_drew)); exact HO_7.out⟩, ⟨by (try simp only [hl7_3]); (try simp only [hl7_4]); (with_reducible repeat (first | refine blk_drewN ?_ _ | refine blk_drew ?_ | refine blk_alloc ?_ _)); exact BK145.out⟩, ⟨by repeat (first | (with_reducible first | exact HB.out | apply below_alloc | apply pw_below_drewN | apply below_drew1 | refine below_set ?_ GE145.out) | exact HB.out)⟩⟩
                   case rest =>
                    clear HC39
                    try clear p1
                    try clear q1
                    try clear hx1
                    try clear c2
                    try clear p2
                    try clear c3
                    try clear c4
                    try clear p4
                    try clear q4
                    try clear hx4
                    try clear hf4
                    try clear p6
                    try clear p14
                    try clear q14
                    try clear hx14
                    try clear p15
                    try clear q15
                    try clear hx15
                    try clear c27
                    try clear c28
                    try clear c29
                    try clear c29b0
                    try clear c30
                    try clear c31
                    try clear c32
                    try clear c32b0
                    try clear c40
                    try clear c41
                    try clear c41b0
                    try clear c42
                    try clear c42b0
                    try clear c43
                    try clear c43b0
                    try clear c44
                    try clear c44b0
                    try clear p45
                    try clear q45
                    try clear hx45
                    try clear hf45
                    try clear hx146_0
                    try clear hx147_0
                    try clear hx148_0
                    try clear hx149_0
                    try clear hx150_0
                    try clear hx45_0
                    try clear p1
                    try clear p14
                    try clear p146
                    try clear p147
                    try clear p148
                    try clear p149
                    try clear p150
                    try clear p2
                    try clear p45
                    try clear p6
                    try clear q1
                    try clear q14
                    try clear q146
                    try clear q147
                    try clear q148
                    try clear q149
                    try clear q150
                    try clear q45
                    obtain ⟨kq, x7_38, HA, HJ38, HO_7, BK145, HB⟩ := hcut
                    have hl7_38 := (Kd.R_reads' HO_7.out).1
                    rw [hl7_38] at HO_7
                    (try simp only [hl7_38])
                    (try simp only [hl7_38] at BK145)
                    cases kq with
                    | zero => exact absurd HA.out (by simp [spec_Distances.j5])
                    | succ kj38 =>
                     have H := HA.out
                     clear HA
                     simp only [spec_Distances.j5] at H
                     have HC48 := Aside0.mk H
                     clear H
                     go_upto_region 18 with (fail)
                     go_cut [122] (fun v122 wc => ∃ (kq : Nat) (x122_47 : Bool), v122 = .bool x122_47 ∧ Aside0 (spec_Distances.j6 kq a0 l1 x7_38 x9_3 x10_4 x122_47 ((rd_T38 l1 x10_4).f0) ((rd_T38 l1 x10_4).f1) ((rd_T38 l1 x10_4).f2) = some r) ∧ Aside0 (kq ≤ kj38) ∧ Aside0 (Kd.R (Kd.int .i64) 3 wc w.heap.size (fun _ => True) (.slice (some ⟨go18, 0, none⟩) x7_38.length co18) x7_38) ∧ Aside0 (wc.heap[gb145]? = some (.cells #[.int .i64 ((rd_T38 l1 x10_4).f0), .int .i64 ((rd_T38 l1 x10_4).f1), .int .i64 ((rd_T38 l1 x10_4).f2)] 38 (0, 0))) ∧ Aside0 (Below w.heap.size w wc))
                     case first =>
                      have H := HC48.out
                      clear HC48
                      by_cases c49 : 0 ≤ ((rd_T38 l1 x10_4).f1)
                      ·
                       rw [if_pos c49] at H
                       have c49b0 : decide (0 ≤ ((rd_T38 l1 x10_4).f1)) = true := decide_eq_true c49
                       clear c49
                       (first | rw [c49b0] | (simp only [i64_w, i32_w]; rw [c49b0]) | skip)
                       by_cases c50 : ((rd_T38 l1 x10_4).f1) < (x7_38.length : Int)
                       ·
                        rw [if_pos c50] at H
                        have c50b0 : decide (((rd_T38 l1 x10_4).f1) < (x7_38.length : Int)) = true := decide_eq_true c50
                        clear c50
                        by_cases c51 : (rd x7_38 ((rd_T38 l1 x10_4).f1)) ≥ 0
                        ·
                         rw [if_pos c51] at H
                         have c51b0 : decide (0 ≤ (rd x7_38 ((rd_T38 l1 x10_4).f1))) = true := decide_eq_true c51
                         clear c51
                         by_cases c52 : 0 ≤ ((rd_T38 l1 x10_4).f0)
                         ·
                          rw [if_pos c52] at H
                          have c52b0 : decide (0 ≤ ((rd_T38 l1 x10_4).f0)) = true := decide_eq_true c52
                          clear c52
                          by_cases c53 : ((rd_T38 l1 x10_4).f0) < (x7_38.length : Int)
                          ·
                           rw [if_pos c53] at H
                           have c53b0 : decide (((rd_T38 l1 x10_4).f0) < (x7_38.length : Int)) = true := decide_eq_true c53
                           clear c53
                           by_cases c54 : (rd x7_38 ((rd_T38 l1 x10_4).f0)) < 0
                           ·
                            rw [if_pos c54] at H
                            have c54b0 : decide ((rd x7_38 ((rd_T38 l1 x10_4).f0)) < 0) = true := decide_eq_true c54
                            clear c54
                            have H' := Aside0.mk H
                            clear H
                            try go_wp2
                            have n0_ := Aside0.mk (Kd.R_drew HO_7.out)
                            have n1_ := Aside0.mk (blk_drew BK145.out)
                            have n2_ := Aside0.mk (below_drew1 HB.out)
                            clear HO_7; clear BK145; clear HB
                            have HO_7 := n0_
                            have BK145 := n1_
                            have HB := n2_
                            clear n0_ n1_ n2_
                            have p152 : 0 ≤ (((rd_T38 l1 x10_4).f1) : Int) := of_decide_eq_true (by first | (with_reducible assumption) | assumption)
                            have q152 : ((rd_T38 l1 x10_4).f1) < (x7_38.length : Int) := of_decide_eq_true (by first | (with_reducible assumption) | assumption)
                            obtain ⟨ad152, e152, hx152_0⟩ := Kd.at_int (Kd.R_reads' HO_7.out).2.2 ((rd_T38 l1 x10_4).f1) p152 q152
                            obtain rfl : (⟨go18, 0, none⟩ : Addr) = ad152 := (by injection e152)
                            (first | simp only [add_plain] at hx152_0 | simp only [add_at] at hx152_0 | simp only [Addr.add, Nat.zero_add] at hx152_0 | skip)
                            replace p152 := eq_true p152
                            replace q152 := eq_true q152
                            have p153 : 0 ≤ (((rd_T38 l1 x10_4).f0) : Int) := of_decide_eq_true (by first | (with_reducible assumption) | assumption)
                            have q153 : ((rd_T38 l1 x10_4).f0) < (x7_38.length : Int) := of_decide_eq_true (by first | (with_reducible assumption) | assumption)
                            obtain ⟨ad153, e153, hx153_0⟩ := Kd.at_int (Kd.R_reads' HO_7.out).2.2 ((rd_T38 l1 x10_4).f0) p153 q153
                            obtain rfl : (⟨go18, 0, none⟩ : Addr) = ad153 := (by injection e153)
                            (first | simp only [add_plain] at hx153_0 | simp only [add_at] at hx153_0 | simp only [Addr.add, Nat.zero_add] at hx153_0 | skip)
                            replace p153 := eq_true p153
                            replace q153 := eq_true q153
                            refine start_ (n := 30) (S := fun w' => w'.cell? ⟨gb145, 0, none⟩ = some (.int .i64 ((rd_T38 l1 x10_4).f0)) ∧ w'.cell? ⟨gb145, 1, none⟩ = some (.int .i64 ((rd_T38 l1 x10_4).f1)) ∧ w'.cell? ⟨gb145, 2, none⟩ = some (.int .i64 ((rd_T38 l1 x10_4).f2)) ∧ w'.cell? ⟨go18, (((rd_T38 l1 x10_4).f1)).toNat, none⟩ = some (.int .i64 (rd x7_38 ((rd_T38 l1 x10_4).f1))) ∧ w'.cell? ⟨go18, (((rd_T38 l1 x10_4).f0)).toNat, none⟩ = some (.int .i64 (rd x7_38 ((rd_T38 l1 x10_4).f0)))) (ds := []) z28_0 (by kernel_rfl) rfl rfl ⟨(blk_cell BK145.out 0).trans rfl, (blk_cell BK145.out 1).trans rfl, (blk_cell BK145.out 2).trans rfl, hx152_0, hx153_0⟩ (fun hHeld => ?_); refine with_tabW spec_Distances.tab18 spec_Distances.bits18 (fun HT_ HW_ => ?_)
                            generalize wc.drew = w55 at HO_7 BK145 HB hx152_0 hx153_0 hHeld ⊢
                            refine pure_ (i := 0) (N := some 93) (v := ?_) (a' := ?_) z28_1 rfl rfl (any_of HT_.out (by kernel_rfl)) (fun _ _ _ h => h) (Or.inl ⟨by rfl, ?_⟩) ?_ ?_; rotate_left
                            · intro w'; go_simp; with_reducible rfl
                            rotate_left
                            · simp only [Act.put, List.setIfInBounds_toArray, List.set_cons_zero, List.set_cons_succ, i64_w, i32_w]; rfl
                            refine pure_ (i := 1) (N := some 94) (v := ?_) (a' := ?_) z28_2 rfl rfl (any_of HT_.out (by kernel_rfl)) (fun _ _ _ h => h) (Or.inl ⟨by rfl, ?_⟩) ?_ ?_; rotate_left
                            · intro w'; go_simp; with_reducible rfl
                            rotate_left
                            · simp only [Act.put, List.setIfInBounds_toArray, List.set_cons_zero, List.set_cons_succ, i64_w, i32_w]; rfl
                            refine take_ (i := 2) (N := some 95) (v := ?_) (a' := ?_) z28_3 rfl rfl (take_ofW HT_.out HW_.out (by kernel_rfl)) (fun _ _ _ h => h) (Or.inl ⟨by rfl, ?_⟩) hHeld ?_ ?_; rotate_left
                            ·
                             rintro w' ⟨s0, s1, s2, s3, s4⟩
                             go_simp; with_reducible rfl
                            rotate_left
                            · simp only [Act.put, List.setIfInBounds_toArray, List.set_cons_zero, List.set_cons_succ, i64_w, i32_w]; rfl
                            refine pure_ (i := 3) (N := some 96) (v := ?_) (a' := ?_) z28_4 rfl rfl (any_of HT_.out (by kernel_rfl)) (fun _ _ _ h => h) (Or.inl ⟨by rfl, ?_⟩) ?_ ?_; rotate_left
                            · intro w'; go_simp; with_reducible rfl
                            rotate_left
                            · simp only [Act.put, List.setIfInBounds_toArray, List.set_cons_zero, List.set_cons_succ, i64_w, i32_w]; rfl
                            refine take_ (i := 4) (N := some 97) (v := ?_) (a' := ?_) z28_5 rfl rfl (take_ofW HT_.out HW_.out (by kernel_rfl)) (fun _ _ _ h => h) (Or.inl ⟨by rfl, ?_⟩) hHeld ?_ ?_; rotate_left
                            ·
                             rintro w' ⟨s0, s1, s2, s3, s4⟩
                             go_simp; with_reducible rfl
                            rotate_left
                            · simp only [Act.put, List.setIfInBounds_toArray, List.set_cons_zero, List.set_cons_succ, i64_w, i32_w]; rfl
                            refine pure_ (i := 5) (N := some 98) (v := ?_) (a' := ?_) z28_6 rfl rfl (any_of HT_.out (by kernel_rfl)) (fun _ _ _ h => h) (Or.inl ⟨by rfl, ?_⟩) ?_ ?_; rotate_left
                            · intro w'; go_simp; with_reducible rfl
                            rotate_left
                            · simp only [Act.put, List.setIfInBounds_toArray, List.set_cons_zero, List.set_cons_succ, i64_w, i32_w]; rfl
                            refine pure_ (i := 6) (N := some 99) (v := ?_) (a' := ?_) z28_7 rfl rfl (any_of HT_.out (by kernel_rfl)) (fun _ _ _ h => h) (Or.inl ⟨by rfl, ?_⟩) ?_ ?_; rotate_left
                            · intro w'; go_simp; with_reducible rfl
                            rotate_left
                            · simp only [Act.put, List.setIfInBounds_toArray, List.set_cons_zero, List.set_cons_succ, i64_w, i32_w]; rfl
                            refine pure_ (i := 7) (N := some 100) (v := ?_) (a' := ?_) z28_8 rfl rfl (any_of HT_.out (by kernel_rfl)) (fun _ _ _ h => h) (Or.inl ⟨by rfl, ?_⟩) ?_ ?_; rotate_left
                            · intro w'; go_simp; with_reducible rfl
                            rotate_left
                            · simp only [Act.put, List.setIfInBounds_toArray, List.set_cons_zero, List.set_cons_succ, i64_w, i32_w]; rfl
                            refine pure_ (i := 8) (N := some 101) (v := ?_) (a' := ?_) z28_9 rfl rfl (any_of HT_.out (by kernel_rfl)) (fun _ _ _ h => h) (Or.inl ⟨by rfl, ?_⟩) ?_ ?_; rotate_left
                            · intro w'; go_simp; with_reducible rfl
                            rotate_left
                            · simp only [Act.put, List.setIfInBounds_toArray, List.set_cons_zero, List.set_cons_succ, i64_w, i32_w]; rfl
                            refine take_ (i := 9) (N := some 102) (v := ?_) (a' := ?_) z28_10 rfl rfl (take_ofW HT_.out HW_.out (by kernel_rfl)) (fun _ _ _ h => h) (Or.inl ⟨by rfl, ?_⟩) hHeld ?_ ?_; rotate_left
                            ·
                             rintro w' ⟨s0, s1, s2, s3, s4⟩
                             go_simp; with_reducible rfl
                            rotate_left
                            · simp only [Act.put, List.setIfInBounds_toArray, List.set_cons_zero, List.set_cons_succ, i64_w, i32_w]; rfl
                            refine pure_ (i := 10) (N := some 103) (v := ?_) (a' := ?_) z28_11 rfl rfl (any_of HT_.out (by kernel_rfl)) (fun _ _ _ h => h) (Or.inl ⟨by rfl, ?_⟩) ?_ ?_; rotate_left
                            · intro w'; go_simp; with_reducible rfl
                            rotate_left
                            · simp only [Act.put, List.setIfInBounds_toArray, List.set_cons_zero, List.set_cons_succ, i64_w, i32_w]; rfl
                            refine take_ (i := 11) (N := some 104) (v := ?_) (a' := ?_) z28_12 rfl rfl (take_ofW HT_.out HW_.out (by kernel_rfl)) (fun _ _ _ h => h) (Or.inl ⟨by rfl, ?_⟩) hHeld ?_ ?_; rotate_left
                            ·
                             rintro w' ⟨s0, s1, s2, s3, s4⟩
                             go_simp; with_reducible rfl
                            rotate_left
                            · simp only [Act.put, List.setIfInBounds_toArray, List.set_cons_zero, List.set_cons_succ, i64_w, i32_w]; rfl
                            refine pure_ (i := 12) (N := some 105) (v := ?_) (a' := ?_) z28_13 rfl rfl (any_of HT_.out (by kernel_rfl)) (fun _ _ _ h => h) (Or.inl ⟨by rfl, ?_⟩) ?_ ?_; rotate_left
                            · intro w'; go_simp; with_reducible rfl
                            rotate_left
                            · simp only [Act.put, List.setIfInBounds_toArray, List.set_cons_zero, List.set_cons_succ, i64_w, i32_w]; rfl
                            refine pure_ (i := 13) (N := some 106) (v := ?_) (a' := ?_) z28_14 rfl rfl (any_of HT_.out (by kernel_rfl)) (fun _ _ _ h => h) (Or.inl ⟨by rfl, ?_⟩) ?_ ?_; rotate_left
                            · intro w'; go_simp; with_reducible rfl
                            rotate_left
                            · simp only [Act.put, List.setIfInBounds_toArray, List.set_cons_zero, List.set_cons_succ, i64_w, i32_w]; rfl
                            refine pure_ (i := 14) (N := some 107) (v := undef) (a' := ?_) z28_15 rfl rfl (any_of HT_.out (by kernel_rfl)) (fun _ _ _ h => h) (Or.inr ⟨by rfl, rfl⟩) ?_ ?_; rotate_left
                            · simp only [Act.put, List.setIfInBounds_toArray, List.set_cons_zero, List.set_cons_succ, i64_w, i32_w]; rfl
                            refine pure_ (i := 15) (N := some 108) (v := undef) (a' := ?_) z28_16 rfl rfl (any_of HT_.out (by kernel_rfl)) (fun _ _ _ h => h) (Or.inr ⟨by rfl, rfl⟩) ?_ ?_; rotate_left
                            · simp only [Act.put, List.setIfInBounds_toArray, List.set_cons_zero, List.set_cons_succ, i64_w, i32_w]; rfl
                            refine pure_ (i := 16) (N := some 109) (v := undef) (a' := ?_) z28_17 rfl rfl (any_of HT_.out (by kernel_rfl)) (fun _ _ _ h => h) (Or.inr ⟨by rfl, rfl⟩) ?_ ?_; rotate_left
                            · simp only [Act.put, List.setIfInBounds_toArray, List.set_cons_zero, List.set_cons_succ, i64_w, i32_w]; rfl
                            refine pure_ (i := 17) (N := some 110) (v := undef) (a' := ?_) z28_18 rfl rfl (any_of HT_.out (by kernel_rfl)) (fun _ _ _ h => h) (Or.inr ⟨by rfl, rfl⟩) ?_ ?_; rotate_left
                            · simp only [Act.put, List.setIfInBounds_toArray, List.set_cons_zero, List.set_cons_succ, i64_w, i32_w]; rfl
                            refine pure_ (i := 18) (N := some 111) (v := undef) (a' := ?_) z28_19 rfl rfl (any_of HT_.out (by kernel_rfl)) (fun _ _ _ h => h) (Or.inr ⟨by rfl, rfl⟩) ?_ ?_; rotate_left
                            · simp only [Act.put, List.setIfInBounds_toArray, List.set_cons_zero, List.set_cons_succ, i64_w, i32_w]; rfl
                            refine pure_ (i := 19) (N := some 112) (v := undef) (a' := ?_) z28_20 rfl rfl (any_of HT_.out (by kernel_rfl)) (fun _ _ _ h => h) (Or.inr ⟨by rfl, rfl⟩) ?_ ?_; rotate_left
                            · simp only [Act.put, List.setIfInBounds_toArray, List.set_cons_zero, List.set_cons_succ, i64_w, i32_w]; rfl
                            refine pure_ (i := 20) (N := some 113) (v := undef) (a' := ?_) z28_21 rfl rfl (any_of HT_.out (by kernel_rfl)) (fun _ _ _ h => h) (Or.inr ⟨by rfl, rfl⟩) ?_ ?_; rotate_left
                            · simp only [Act.put, List.setIfInBounds_toArray, List.set_cons_zero, List.set_cons_succ, i64_w, i32_w]; rfl
                            refine pure_ (i := 21) (N := some 114) (v := undef) (a' := ?_) z28_22 rfl rfl (any_of HT_.out (by kernel_rfl)) (fun _ _ _ h => h) (Or.inr ⟨by rfl, rfl⟩) ?_ ?_; rotate_left
                            · simp only [Act.put, List.setIfInBounds_toArray, List.set_cons_zero, List.set_cons_succ, i64_w, i32_w]; rfl
                            refine pure_ (i := 22) (N := some 115) (v := undef) (a' := ?_) z28_23 rfl rfl (any_of HT_.out (by kernel_rfl)) (fun _ _ _ h => h) (Or.inr ⟨by rfl, rfl⟩) ?_ ?_; rotate_left
                            · simp only [Act.put, List.setIfInBounds_toArray, List.set_cons_zero, List.set_cons_succ, i64_w, i32_w]; rfl
                            refine pure_ (i := 23) (N := some 116) (v := undef) (a' := ?_) z28_24 rfl rfl (any_of HT_.out (by kernel_rfl)) (fun _ _ _ h => h) (Or.inr ⟨by rfl, rfl⟩) ?_ ?_; rotate_left
                            · simp only [Act.put, List.setIfInBounds_toArray, List.set_cons_zero, List.set_cons_succ, i64_w, i32_w]; rfl
                            refine pure_ (i := 24) (N := some 117) (v := undef) (a' := ?_) z28_25 rfl rfl (any_of HT_.out (by kernel_rfl)) (fun _ _ _ h => h) (Or.inr ⟨by rfl, rfl⟩) ?_ ?_; rotate_left
                            · simp only [Act.put, List.setIfInBounds_toArray, List.set_cons_zero, List.set_cons_succ, i64_w, i32_w]; rfl
                            refine pure_ (i := 25) (N := some 118) (v := undef) (a' := ?_) z28_26 rfl rfl (any_of HT_.out (by kernel_rfl)) (fun _ _ _ h => h) (Or.inr ⟨by rfl, rfl⟩) ?_ ?_; rotate_left
                            · simp only [Act.put, List.setIfInBounds_toArray, List.set_cons_zero, List.set_cons_succ, i64_w, i32_w]; rfl
                            refine pure_ (i := 26) (N := some 119) (v := undef) (a' := ?_) z28_27 rfl rfl (any_of HT_.out (by kernel_rfl)) (fun _ _ _ h => h) (Or.inr ⟨by rfl, rfl⟩) ?_ ?_; rotate_left
                            · simp only [Act.put, List.setIfInBounds_toArray, List.set_cons_zero, List.set_cons_succ, i64_w, i32_w]; rfl
                            refine pure_ (i := 27) (N := some 120) (v := undef) (a' := ?_) z28_28 rfl rfl (any_of HT_.out (by kernel_rfl)) (fun _ _ _ h => h) (Or.inr ⟨by rfl, rfl⟩) ?_ ?_; rotate_left
                            · simp only [Act.put, List.setIfInBounds_toArray, List.set_cons_zero, List.set_cons_succ, i64_w, i32_w]; rfl
                            refine pure_ (i := 28) (N := some 121) (v := ?_) (a' := ?_) z28_29 rfl rfl (any_of HT_.out (by kernel_rfl)) (fun _ _ _ h => h) (Or.inl ⟨by rfl, ?_⟩) ?_ ?_; rotate_left
                            · intro w'; go_simp; with_reducible rfl
                            rotate_left
                            · simp only [Act.put, List.setIfInBounds_toArray, List.set_cons_zero, List.set_cons_succ, i64_w, i32_w]; rfl
                            refine pure_ (i := 29) (N := some 122) (v := ?_) (a' := ?_) z28_30 rfl rfl (any_of HT_.out (by kernel_rfl)) (fun _ _ _ h => h) (Or.inl ⟨by rfl, ?_⟩) ?_ ?_; rotate_left
                            · intro w'; go_simp; with_reducible rfl
                            rotate_left
                            · simp only [Act.put, List.setIfInBounds_toArray, List.set_cons_zero, List.set_cons_succ, i64_w, i32_w]; rfl
                            refine done_ (done_of HT_.out (by kernel_rfl)) ?_
                            try go_wp2
                            go_meet
                            case rel => exact ⟨_, (true), (by first | rfl | (simp; done) | (simp [*]; done)), H', ⟨by have := HJ3.out; have := HK2.out; have := HK3.out; have := HK4.out; have := HJ23.out; have := HJ38.out; first | omega | exact Nat.le_refl _⟩, ⟨by (try simp only [hl7_3]); (try simp only [hl7_4]); (try simp only [hl7_38]); (with_reducible repeat (first | apply Kd.R_alloc | apply Kd.R_drewN | apply Kd.R_drew)); exact HO_7.out⟩, ⟨by (try simp only [hl7_3]); (try simp only [hl7_4]); (try simp only [hl7_38]); (with_reducible repeat (first | refine blk_drewN ?_ _ | refine blk_drew ?_ | refine blk_alloc ?_ _)); exact BK145.out⟩, ⟨by repeat (first | (with_reducible first | exact HB.out | apply below_alloc | apply pw_below_drewN | apply below_drew1 | refine below_set ?_ GE145.out) | exact HB.out)⟩⟩
                           ·
                            rw [if_neg c54] at H
                            have c54b0 : decide ((rd x7_38 ((rd_T38 l1 x10_4).f0)) < 0) = false := decide_eq_false c54
                            clear c54
                            have H' := Aside0.mk H
                            clear H
                            try go_wp2
                            have n0_ := Aside0.mk (Kd.R_drew HO_7.out)
                            have n1_ := Aside0.mk (blk_drew BK145.out)
                            have n2_ := Aside0.mk (below_drew1 HB.out)
                            clear HO_7; clear BK145; clear HB
                            have HO_7 := n0_
                            have BK145 := n1_
                            have HB := n2_
                            clear n0_ n1_ n2_
                            have p152 : 0 ≤ (((rd_T38 l1 x10_4).f1) : Int) := of_decide_eq_true (by first | (with_reducible assumption) | assumption)
                            have q152 : ((rd_T38 l1 x10_4).f1) < (x7_38.length : Int) := of_decide_eq_true (by first | (with_reducible assumption) | assumption)
                            obtain ⟨ad152, e152, hx152_0⟩ := Kd.at_int (Kd.R_reads' HO_7.out).2.2 ((rd_T38 l1 x10_4).f1) p152 q152
                            obtain rfl : (⟨go18, 0, none⟩ : Addr) = ad152 := (by injection e152)
                            (first | simp only [add_plain] at hx152_0 | simp only [add_at] at hx152_0 | simp only [Addr.add, Nat.zero_add] at hx152_0 | skip)
                            replace p152 := eq_true p152
                            replace q152 := eq_true q152
                            have p153 : 0 ≤ (((rd_T38 l1 x10_4).f0) : Int) := of_decide_eq_true (by first | (with_reducible assumption) | assumption)
                            have q153 : ((rd_T38 l1 x10_4).f0) < (x7_38.length : Int) := of_decide_eq_true (by first | (with_reducible assumption) | assumption)
                            obtain ⟨ad153, e153, hx153_0⟩ := Kd.at_int (Kd.R_reads' HO_7.out).2.2 ((rd_T38 l1 x10_4).f0) p153 q153
                            obtain rfl : (⟨go18, 0, none⟩ : Addr) = ad153 := (by injection e153)
                            (first | simp only [add_plain] at hx153_0 | simp only [add_at] at hx153_0 | simp only [Addr.add, Nat.zero_add] at hx153_0 | skip)
                            replace p153 := eq_true p153
                            replace q153 := eq_true q153
                            have p154 : 0 ≤ (((rd_T38 l1 x10_4).f1) : Int) := of_decide_eq_true (by first | (with_reducible assumption) | assumption)
                            have q154 : ((rd_T38 l1 x10_4).f1) < (x7_38.length : Int) := of_decide_eq_true (by first | (with_reducible assumption) | assumption)
                            obtain ⟨ad154, e154, hx154_0⟩ := Kd.at_int (Kd.R_reads' HO_7.out).2.2 ((rd_T38 l1 x10_4).f1) p154 q154
                            obtain rfl : (⟨go18, 0, none⟩ : Addr) = ad154 := (by injection e154)
                            (first | simp only [add_plain] at hx154_0 | simp only [add_at] at hx154_0 | simp only [Addr.add, Nat.zero_add] at hx154_0 | skip)
                            replace p154 := eq_true p154
                            replace q154 := eq_true q154
                            have p155 : 0 ≤ (((rd_T38 l1 x10_4).f0) : Int) := of_decide_eq_true (by first | (with_reducible assumption) | assumption)
                            have q155 : ((rd_T38 l1 x10_4).f0) < (x7_38.length : Int) := of_decide_eq_true (by first | (with_reducible assumption) | assumption)
                            obtain ⟨ad155, e155, hx155_0⟩ := Kd.at_int (Kd.R_reads' HO_7.out).2.2 ((rd_T38 l1 x10_4).f0) p155 q155
                            obtain rfl : (⟨go18, 0, none⟩ : Addr) = ad155 := (by injection e155)
                            (first | simp only [add_plain] at hx155_0 | simp only [add_at] at hx155_0 | simp only [Addr.add, Nat.zero_add] at hx155_0 | skip)
                            replace p155 := eq_true p155
                            replace q155 := eq_true q155
                            refine start_ (n := 30) (S := fun w' => w'.cell? ⟨gb145, 0, none⟩ = some (.int .i64 ((rd_T38 l1 x10_4).f0)) ∧ w'.cell? ⟨gb145, 1, none⟩ = some (.int .i64 ((rd_T38 l1 x10_4).f1)) ∧ w'.cell? ⟨gb145, 2, none⟩ = some (.int .i64 ((rd_T38 l1 x10_4).f2)) ∧ w'.cell? ⟨go18, (((rd_T38 l1 x10_4).f1)).toNat, none⟩ = some (.int .i64 (rd x7_38 ((rd_T38 l1 x10_4).f1))) ∧ w'.cell? ⟨go18, (((rd_T38 l1 x10_4).f0)).toNat, none⟩ = some (.int .i64 (rd x7_38 ((rd_T38 l1 x10_4).f0))) ∧ w'.cell? ⟨go18, (((rd_T38 l1 x10_4).f1)).toNat, none⟩ = some (.int .i64 (rd x7_38 ((rd_T38 l1 x10_4).f1))) ∧ w'.cell? ⟨go18, (((rd_T38 l1 x10_4).f0)).toNat, none⟩ = some (.int .i64 (rd x7_38 ((rd_T38 l1 x10_4).f0)))) (ds := []) z28_0 (by kernel_rfl) rfl rfl ⟨(blk_cell BK145.out 0).trans rfl, (blk_cell BK145.out 1).trans rfl, (blk_cell BK145.out 2).trans rfl, hx152_0, hx153_0, hx154_0, hx155_0⟩ (fun hHeld => ?_); refine with_tabW spec_Distances.tab18 spec_Distances.bits18 (fun HT_ HW_ => ?_)
                            generalize wc.drew = w56 at HO_7 BK145 HB hx152_0 hx153_0 hx154_0 hx155_0 hHeld ⊢
                            refine pure_ (i := 0) (N := some 93) (v := ?_) (a' := ?_) z28_1 rfl rfl (any_of HT_.out (by kernel_rfl)) (fun _ _ _ h => h) (Or.inl ⟨by rfl, ?_⟩) ?_ ?_; rotate_left
                            · intro w'; go_simp; with_reducible rfl
                            rotate_left
                            · simp only [Act.put, List.setIfInBounds_toArray, List.set_cons_zero, List.set_cons_succ, i64_w, i32_w]; rfl
                            refine pure_ (i := 1) (N := some 94) (v := ?_) (a' := ?_) z28_2 rfl rfl (any_of HT_.out (by kernel_rfl)) (fun _ _ _ h => h) (Or.inl ⟨by rfl, ?_⟩) ?_ ?_; rotate_left
                            · intro w'; go_simp; with_reducible rfl
                            rotate_left
                            · simp only [Act.put, List.setIfInBounds_toArray, List.set_cons_zero, List.set_cons_succ, i64_w, i32_w]; rfl
                            refine take_ (i := 2) (N := some 95) (v := ?_) (a' := ?_) z28_3 rfl rfl (take_ofW HT_.out HW_.out (by kernel_rfl)) (fun _ _ _ h => h) (Or.inl ⟨by rfl, ?_⟩) hHeld ?_ ?_; rotate_left
                            ·
                             rintro w' ⟨s0, s1, s2, s3, s4, s5, s6⟩
                             go_simp; with_reducible rfl
                            rotate_left
                            · simp only [Act.put, List.setIfInBounds_toArray, List.set_cons_zero, List.set_cons_succ, i64_w, i32_w]; rfl
                            refine pure_ (i := 3) (N := some 96) (v := ?_) (a' := ?_) z28_4 rfl rfl (any_of HT_.out (by kernel_rfl)) (fun _ _ _ h => h) (Or.inl ⟨by rfl, ?_⟩) ?_ ?_; rotate_left
                            · intro w'; go_simp; with_reducible rfl
                            rotate_left
                            · simp only [Act.put, List.setIfInBounds_toArray, List.set_cons_zero, List.set_cons_succ, i64_w, i32_w]; rfl
                            refine take_ (i := 4) (N := some 97) (v := ?_) (a' := ?_) z28_5 rfl rfl (take_ofW HT_.out HW_.out (by kernel_rfl)) (fun _ _ _ h => h) (Or.inl ⟨by rfl, ?_⟩) hHeld ?_ ?_; rotate_left
                            ·
                             rintro w' ⟨s0, s1, s2, s3, s4, s5, s6⟩
                             go_simp; with_reducible rfl
                            rotate_left
                            · simp only [Act.put, List.setIfInBounds_toArray, List.set_cons_zero, List.set_cons_succ, i64_w, i32_w]; rfl
                            refine pure_ (i := 5) (N := some 98) (v := ?_) (a' := ?_) z28_6 rfl rfl (any_of HT_.out (by kernel_rfl)) (fun _ _ _ h => h) (Or.inl ⟨by rfl, ?_⟩) ?_ ?_; rotate_left
                            · intro w'; go_simp; with_reducible rfl
                            rotate_left
                            · simp only [Act.put, List.setIfInBounds_toArray, List.set_cons_zero, List.set_cons_succ, i64_w, i32_w]; rfl
                            refine pure_ (i := 6) (N := some 99) (v := ?_) (a' := ?_) z28_7 rfl rfl (any_of HT_.out (by kernel_rfl)) (fun _ _ _ h => h) (Or.inl ⟨by rfl, ?_⟩) ?_ ?_; rotate_left
                            · intro w'; go_simp; with_reducible rfl
                            rotate_left
                            · simp only [Act.put, List.setIfInBounds_toArray, List.set_cons_zero, List.set_cons_succ, i64_w, i32_w]; rfl
                            refine pure_ (i := 7) (N := some 100) (v := ?_) (a' := ?_) z28_8 rfl rfl (any_of HT_.out (by kernel_rfl)) (fun _ _ _ h => h) (Or.inl ⟨by rfl, ?_⟩) ?_ ?_; rotate_left
                            · intro w'; go_simp; with_reducible rfl
                            rotate_left
                            · simp only [Act.put, List.setIfInBounds_toArray, List.set_cons_zero, List.set_cons_succ, i64_w, i32_w]; rfl
                            refine pure_ (i := 8) (N := some 101) (v := ?_) (a' := ?_) z28_9 rfl rfl (any_of HT_.out (by kernel_rfl)) (fun _ _ _ h => h) (Or.inl ⟨by rfl, ?_⟩) ?_ ?_; rotate_left
                            · intro w'; go_simp; with_reducible rfl
                            rotate_left
                            · simp only [Act.put, List.setIfInBounds_toArray, List.set_cons_zero, List.set_cons_succ, i64_w, i32_w]; rfl
                            refine take_ (i := 9) (N := some 102) (v := ?_) (a' := ?_) z28_10 rfl rfl (take_ofW HT_.out HW_.out (by kernel_rfl)) (fun _ _ _ h => h) (Or.inl ⟨by rfl, ?_⟩) hHeld ?_ ?_; rotate_left
                            ·
                             rintro w' ⟨s0, s1, s2, s3, s4, s5, s6⟩
                             go_simp; with_reducible rfl
                            rotate_left
                            · simp only [Act.put, List.setIfInBounds_toArray, List.set_cons_zero, List.set_cons_succ, i64_w, i32_w]; rfl
                            refine pure_ (i := 10) (N := some 103) (v := ?_) (a' := ?_) z28_11 rfl rfl (any_of HT_.out (by kernel_rfl)) (fun _ _ _ h => h) (Or.inl ⟨by rfl, ?_⟩) ?_ ?_; rotate_left
                            · intro w'; go_simp; with_reducible rfl
                            rotate_left
                            · simp only [Act.put, List.setIfInBounds_toArray, List.set_cons_zero, List.set_cons_succ, i64_w, i32_w]; rfl
                            refine take_ (i := 11) (N := some 104) (v := ?_) (a' := ?_) z28_12 rfl rfl (take_ofW HT_.out HW_.out (by kernel_rfl)) (fun _ _ _ h => h) (Or.inl ⟨by rfl, ?_⟩) hHeld ?_ ?_; rotate_left
                            ·
                             rintro w' ⟨s0, s1, s2, s3, s4, s5, s6⟩
                             go_simp; with_reducible rfl
                            rotate_left
                            · simp only [Act.put, List.setIfInBounds_toArray, List.set_cons_zero, List.set_cons_succ, i64_w, i32_w]; rfl
                            refine pure_ (i := 12) (N := some 105) (v := ?_) (a' := ?_) z28_13 rfl rfl (any_of HT_.out (by kernel_rfl)) (fun _ _ _ h => h) (Or.inl ⟨by rfl, ?_⟩) ?_ ?_; rotate_left
                            · intro w'; go_simp; with_reducible rfl
                            rotate_left
                            · simp only [Act.put, List.setIfInBounds_toArray, List.set_cons_zero, List.set_cons_succ, i64_w, i32_w]; rfl
                            refine pure_ (i := 13) (N := some 106) (v := ?_) (a' := ?_) z28_14 rfl rfl (any_of HT_.out (by kernel_rfl)) (fun _ _ _ h => h) (Or.inl ⟨by rfl, ?_⟩) ?_ ?_; rotate_left
                            · intro w'; go_simp; with_reducible rfl
                            rotate_left
                            · simp only [Act.put, List.setIfInBounds_toArray, List.set_cons_zero, List.set_cons_succ, i64_w, i32_w]; rfl
                            refine pure_ (i := 14) (N := some 107) (v := ?_) (a' := ?_) z28_15 rfl rfl (any_of HT_.out (by kernel_rfl)) (fun _ _ _ h => h) (Or.inl ⟨by rfl, ?_⟩) ?_ ?_; rotate_left
                            · intro w'; go_simp; with_reducible rfl
                            rotate_left
                            · simp only [Act.put, List.setIfInBounds_toArray, List.set_cons_zero, List.set_cons_succ, i64_w, i32_w]; rfl
                            refine pure_ (i := 15) (N := some 108) (v := ?_) (a' := ?_) z28_16 rfl rfl (any_of HT_.out (by kernel_rfl)) (fun _ _ _ h => h) (Or.inl ⟨by rfl, ?_⟩) ?_ ?_; rotate_left
                            · intro w'; go_simp; with_reducible rfl
                            rotate_left
                            · simp only [Act.put, List.setIfInBounds_toArray, List.set_cons_zero, List.set_cons_succ, i64_w, i32_w]; rfl
                            refine pure_ (i := 19) (N := some 112) (v := ?_) (a' := ?_) z28_31 rfl rfl (any_of HT_.out (by kernel_rfl)) (fun _ _ _ h => h) (Or.inl ⟨by rfl, ?_⟩) ?_ ?_; rotate_left
                            · intro w'; go_simp; with_reducible rfl
                            rotate_left
                            · simp only [Act.put, List.setIfInBounds_toArray, List.set_cons_zero, List.set_cons_succ, i64_w, i32_w]; rfl
                            refine pure_ (i := 22) (N := some 115) (v := ?_) (a' := ?_) z28_32 rfl rfl (any_of HT_.out (by kernel_rfl)) (fun _ _ _ h => h) (Or.inl ⟨by rfl, ?_⟩) ?_ ?_; rotate_left
                            · intro w'; go_simp; with_reducible rfl
                            rotate_left
                            · simp only [Act.put, List.setIfInBounds_toArray, List.set_cons_zero, List.set_cons_succ, i64_w, i32_w]; rfl
                            refine pure_ (i := 23) (N := some 116) (v := ?_) (a' := ?_) z28_33 rfl rfl (any_of HT_.out (by kernel_rfl)) (fun _ _ _ h => h) (Or.inl ⟨by rfl, ?_⟩) ?_ ?_; rotate_left
                            · intro w'; go_simp; with_reducible rfl
                            rotate_left
                            · simp only [Act.put, List.setIfInBounds_toArray, List.set_cons_zero, List.set_cons_succ, i64_w, i32_w]; rfl
                            refine take_ (i := 16) (N := some 109) (v := ?_) (a' := ?_) z28_34 rfl rfl (take_ofW HT_.out HW_.out (by kernel_rfl)) (fun _ _ _ h => h) (Or.inl ⟨by rfl, ?_⟩) hHeld ?_ ?_; rotate_left
                            ·
                             rintro w' ⟨s0, s1, s2, s3, s4, s5, s6⟩
                             go_simp; with_reducible rfl
                            rotate_left
                            · simp only [Act.put, List.setIfInBounds_toArray, List.set_cons_zero, List.set_cons_succ, i64_w, i32_w]; rfl
                            refine pure_ (i := 17) (N := some 110) (v := ?_) (a' := ?_) z28_35 rfl rfl (any_of HT_.out (by kernel_rfl)) (fun _ _ _ h => h) (Or.inl ⟨by rfl, ?_⟩) ?_ ?_; rotate_left
                            · intro w'; go_simp; with_reducible rfl
                            rotate_left
                            · simp only [Act.put, List.setIfInBounds_toArray, List.set_cons_zero, List.set_cons_succ, i64_w, i32_w]; rfl
                            refine take_ (i := 18) (N := some 111) (v := ?_) (a' := ?_) z28_36 rfl rfl (take_ofW HT_.out HW_.out (by kernel_rfl)) (fun _ _ _ h => h) (Or.inl ⟨by rfl, ?_⟩) hHeld ?_ ?_; rotate_left
                            ·
                             rintro w' ⟨s0, s1, s2, s3, s4, s5, s6⟩
                             go_simp; with_reducible rfl
                            rotate_left
                            · simp only [Act.put, List.setIfInBounds_toArray, List.set_cons_zero, List.set_cons_succ, i64_w, i32_w]; rfl
                            refine take_ (i := 20) (N := some 113) (v := ?_) (a' := ?_) z28_37 rfl rfl (take_ofW HT_.out HW_.out (by kernel_rfl)) (fun _ _ _ h => h) (Or.inl ⟨by rfl, ?_⟩) hHeld ?_ ?_; rotate_left
                            ·
                             rintro w' ⟨s0, s1, s2, s3, s4, s5, s6⟩
                             go_simp; with_reducible rfl
                            rotate_left
                            · simp only [Act.put, List.setIfInBounds_toArray, List.set_cons_zero, List.set_cons_succ, i64_w, i32_w]; rfl
                            refine pure_ (i := 21) (N := some 114) (v := ?_) (a' := ?_) z28_24 rfl rfl (any_of HT_.out (by kernel_rfl)) (fun _ _ _ h => h) (Or.inl ⟨by rfl, ?_⟩) ?_ ?_; rotate_left
                            · intro w'; go_simp; with_reducible rfl
                            rotate_left
                            · simp only [Act.put, List.setIfInBounds_toArray, List.set_cons_zero, List.set_cons_succ, i64_w, i32_w]; rfl
                            refine take_ (i := 24) (N := some 117) (v := ?_) (a' := ?_) z28_25 rfl rfl (take_ofW HT_.out HW_.out (by kernel_rfl)) (fun _ _ _ h => h) (Or.inl ⟨by rfl, ?_⟩) hHeld ?_ ?_; rotate_left
                            ·
                             rintro w' ⟨s0, s1, s2, s3, s4, s5, s6⟩
                             go_simp; with_reducible rfl
                            rotate_left
                            · simp only [Act.put, List.setIfInBounds_toArray, List.set_cons_zero, List.set_cons_succ, i64_w, i32_w]; rfl
                            refine pure_ (i := 25) (N := some 118) (v := ?_) (a' := ?_) z28_26 rfl rfl (any_of HT_.out (by kernel_rfl)) (fun _ _ _ h => h) (Or.inl ⟨by rfl, ?_⟩) ?_ ?_; rotate_left
                            · intro w'; go_simp; with_reducible rfl
                            rotate_left
                            · simp only [Act.put, List.setIfInBounds_toArray, List.set_cons_zero, List.set_cons_succ, i64_w, i32_w]; rfl
                            refine take_ (i := 26) (N := some 119) (v := ?_) (a' := ?_) z28_27 rfl rfl (take_ofW HT_.out HW_.out (by kernel_rfl)) (fun _ _ _ h => h) (Or.inl ⟨by rfl, ?_⟩) hHeld ?_ ?_; rotate_left
                            ·
                             rintro w' ⟨s0, s1, s2, s3, s4, s5, s6⟩
                             go_simp; with_reducible rfl
                            rotate_left
                            · simp only [Act.put, List.setIfInBounds_toArray, List.set_cons_zero, List.set_cons_succ, i64_w, i32_w]; rfl
                            refine pure_ (i := 27) (N := some 120) (v := ?_) (a' := ?_) z28_28 rfl rfl (any_of HT_.out (by kernel_rfl)) (fun _ _ _ h => h) (Or.inl ⟨by rfl, ?_⟩) ?_ ?_; rotate_left
                            · intro w'; go_simp; with_reducible rfl
                            rotate_left
                            · simp only [Act.put, List.setIfInBounds_toArray, List.set_cons_zero, List.set_cons_succ, i64_w, i32_w]; rfl
                            refine pure_ (i := 28) (N := some 121) (v := ?_) (a' := ?_) z28_29 rfl rfl (any_of HT_.out (by kernel_rfl)) (fun _ _ _ h => h) (Or.inl ⟨by rfl, ?_⟩) ?_ ?_; rotate_left
                            · intro w'; go_simp; with_reducible rfl
                            rotate_left
                            · simp only [Act.put, List.setIfInBounds_toArray, List.set_cons_zero, List.set_cons_succ, i64_w, i32_w]; rfl
                            refine pure_ (i := 29) (N := some 122) (v := ?_) (a' := ?_) z28_30 rfl rfl (any_of HT_.out (by kernel_rfl)) (fun _ _ _ h => h) (Or.inl ⟨by rfl, ?_⟩) ?_ ?_; rotate_left
                            · intro w'; go_simp; with_reducible rfl
                            rotate_left
                            · simp only [Act.put, List.setIfInBounds_toArray, List.set_cons_zero, List.set_cons_succ, i64_w, i32_w]; rfl
                            refine done_ (done_of HT_.out (by kernel_rfl)) ?_
                            try go_wp2
                            go_meet
                            case rel => exact ⟨_, (decide ((wrap64 ((rd x7_38 ((rd_T38 l1 x10_4).f1)) + ((rd_T38 l1 x10_4).f2))) < (rd x7_38 ((rd_T38 l1 x10_4).f0)))), (by first | rfl | (simp; done) | (simp [*]; done)), H', ⟨by have := HJ3.out; have := HK2.out; have := HK3.out; have := HK4.out; have := HJ23.out; have := HJ38.out; first | omega | exact Nat.le_refl _⟩, ⟨by (try simp only [hl7_3]); (try simp only [hl7_4]); (try simp only [hl7_38]); (with_reducible repeat (first | apply Kd.R_alloc | apply Kd.R_drewN | apply Kd.R_drew)); exact HO_7.out⟩, ⟨by (try simp only [hl7_3]); (try simp only [hl7_4]); (try simp only [hl7_38]); (with_reducible repeat (first | refine blk_drewN ?_ _ | refine blk_drew ?_ | refine blk_alloc ?_ _)); exact BK145.out⟩, ⟨by repeat (first | (with_reducible first | exact HB.out | apply below_alloc | apply pw_below_drewN | apply below_drew1 | refine below_set ?_ GE145.out) | exact HB.out)⟩⟩
                          ·
                           rw [if_neg c53] at H
                           exact absurd H (by simp)
                         ·
                          rw [if_neg c52] at H
                          exact absurd H (by simp)
                        ·
                         rw [if_neg c51] at H
                         have c51b0 : decide (0 ≤ (rd x7_38 ((rd_T38 l1 x10_4).f1))) = false := decide_eq_false c51
                         clear c51
                         have H' := Aside0.mk H
                         clear H
                         try go_wp2
                         have n0_ := Aside0.mk (Kd.R_drew HO_7.out)
                         have n1_ := Aside0.mk (blk_drew BK145.out)
                         have n2_ := Aside0.mk (below_drew1 HB.out)
                         clear HO_7; clear BK145; clear HB
                         have HO_7 := n0_
                         have BK145 := n1_
                         have HB := n2_
                         clear n0_ n1_ n2_
                         have p152 : 0 ≤ (((rd_T38 l1 x10_4).f1) : Int) := of_decide_eq_true (by first | (with_reducible assumption) | assumption)
                         have q152 : ((rd_T38 l1 x10_4).f1) < (x7_38.length : Int) := of_decide_eq_true (by first | (with_reducible assumption) | assumption)
                         obtain ⟨ad152, e152, hx152_0⟩ := Kd.at_int (Kd.R_reads' HO_7.out).2.2 ((rd_T38 l1 x10_4).f1) p152 q152
                         obtain rfl : (⟨go18, 0, none⟩ : Addr) = ad152 := (by injection e152)
                         (first | simp only [add_plain] at hx152_0 | simp only [add_at] at hx152_0 | simp only [Addr.add, Nat.zero_add] at hx152_0 | skip)
                         replace p152 := eq_true p152
                         replace q152 := eq_true q152
                         refine start_ (n := 30) (S := fun w' => w'.cell? ⟨gb145, 0, none⟩ = some (.int .i64 ((rd_T38 l1 x10_4).f0)) ∧ w'.cell? ⟨gb145, 1, none⟩ = some (.int .i64 ((rd_T38 l1 x10_4).f1)) ∧ w'.cell? ⟨gb145, 2, none⟩ = some (.int .i64 ((rd_T38 l1 x10_4).f2)) ∧ w'.cell? ⟨go18, (((rd_T38 l1 x10_4).f1)).toNat, none⟩ = some (.int .i64 (rd x7_38 ((rd_T38 l1 x10_4).f1)))) (ds := []) z28_0 (by kernel_rfl) rfl rfl ⟨(blk_cell BK145.out 0).trans rfl, (blk_cell BK145.out 1).trans rfl, (blk_cell BK145.out 2).trans rfl, hx152_0⟩ (fun hHeld => ?_); refine with_tabW spec_Distances.tab18 spec_Distances.bits18 (fun HT_ HW_ => ?_)
                         generalize wc.drew = w57 at HO_7 BK145 HB hx152_0 hHeld ⊢
                         refine pure_ (i := 0) (N := some 93) (v := ?_) (a' := ?_) z28_1 rfl rfl (any_of HT_.out (by kernel_rfl)) (fun _ _ _ h => h) (Or.inl ⟨by rfl, ?_⟩) ?_ ?_; rotate_left
                         · intro w'; go_simp; with_reducible rfl
                         rotate_left
                         · simp only [Act.put, List.setIfInBounds_toArray, List.set_cons_zero, List.set_cons_succ, i64_w, i32_w]; rfl
                         refine pure_ (i := 1) (N := some 94) (v := ?_) (a' := ?_) z28_2 rfl rfl (any_of HT_.out (by kernel_rfl)) (fun _ _ _ h => h) (Or.inl ⟨by rfl, ?_⟩) ?_ ?_; rotate_left
                         · intro w'; go_simp; with_reducible rfl
                         rotate_left
                         · simp only [Act.put, List.setIfInBounds_toArray, List.set_cons_zero, List.set_cons_succ, i64_w, i32_w]; rfl
                         refine take_ (i := 2) (N := some 95) (v := ?_) (a' := ?_) z28_3 rfl rfl (take_ofW HT_.out HW_.out (by kernel_rfl)) (fun _ _ _ h => h) (Or.inl ⟨by rfl, ?_⟩) hHeld ?_ ?_; rotate_left
                         ·
                          rintro w' ⟨s0, s1, s2, s3⟩
                          go_simp; with_reducible rfl
                         rotate_left
                         · simp only [Act.put, List.setIfInBounds_toArray, List.set_cons_zero, List.set_cons_succ, i64_w, i32_w]; rfl
                         refine pure_ (i := 3) (N := some 96) (v := ?_) (a' := ?_) z28_4 rfl rfl (any_of HT_.out (by kernel_rfl)) (fun _ _ _ h => h) (Or.inl ⟨by rfl, ?_⟩) ?_ ?_; rotate_left
                         · intro w'; go_simp; with_reducible rfl
                         rotate_left
                         · simp only [Act.put, List.setIfInBounds_toArray, List.set_cons_zero, List.set_cons_succ, i64_w, i32_w]; rfl
                         refine take_ (i := 4) (N := some 97) (v := ?_) (a' := ?_) z28_5 rfl rfl (take_ofW HT_.out HW_.out (by kernel_rfl)) (fun _ _ _ h => h) (Or.inl ⟨by rfl, ?_⟩) hHeld ?_ ?_; rotate_left
                         ·
                          rintro w' ⟨s0, s1, s2, s3⟩
                          go_simp; with_reducible rfl
                         rotate_left
                         · simp only [Act.put, List.setIfInBounds_toArray, List.set_cons_zero, List.set_cons_succ, i64_w, i32_w]; rfl
                         refine pure_ (i := 5) (N := some 98) (v := ?_) (a' := ?_) z28_6 rfl rfl (any_of HT_.out (by kernel_rfl)) (fun _ _ _ h => h) (Or.inl ⟨by rfl, ?_⟩) ?_ ?_; rotate_left
                         · intro w'; go_simp; with_reducible rfl
                         rotate_left
                         · simp only [Act.put, List.setIfInBounds_toArray, List.set_cons_zero, List.set_cons_succ, i64_w, i32_w]; rfl
                         refine pure_ (i := 6) (N := some 99) (v := ?_) (a' := ?_) z28_7 rfl rfl (any_of HT_.out (by kernel_rfl)) (fun _ _ _ h => h) (Or.inl ⟨by rfl, ?_⟩) ?_ ?_; rotate_left
                         · intro w'; go_simp; with_reducible rfl
                         rotate_left
                         · simp only [Act.put, List.setIfInBounds_toArray, List.set_cons_zero, List.set_cons_succ, i64_w, i32_w]; rfl
                         refine pure_ (i := 7) (N := some 100) (v := undef) (a' := ?_) z28_8 rfl rfl (any_of HT_.out (by kernel_rfl)) (fun _ _ _ h => h) (Or.inr ⟨by rfl, rfl⟩) ?_ ?_; rotate_left
                         · simp only [Act.put, List.setIfInBounds_toArray, List.set_cons_zero, List.set_cons_succ, i64_w, i32_w]; rfl
                         refine pure_ (i := 8) (N := some 101) (v := undef) (a' := ?_) z28_9 rfl rfl (any_of HT_.out (by kernel_rfl)) (fun _ _ _ h => h) (Or.inr ⟨by rfl, rfl⟩) ?_ ?_; rotate_left
                         · simp only [Act.put, List.setIfInBounds_toArray, List.set_cons_zero, List.set_cons_succ, i64_w, i32_w]; rfl
                         refine pure_ (i := 9) (N := some 102) (v := undef) (a' := ?_) z28_10 rfl rfl (any_of HT_.out (by kernel_rfl)) (fun _ _ _ h => h) (Or.inr ⟨by rfl, rfl⟩) ?_ ?_; rotate_left
                         · simp only [Act.put, List.setIfInBounds_toArray, List.set_cons_zero, List.set_cons_succ, i64_w, i32_w]; rfl
                         refine pure_ (i := 10) (N := some 103) (v := undef) (a' := ?_) z28_11 rfl rfl (any_of HT_.out (by kernel_rfl)) (fun _ _ _ h => h) (Or.inr ⟨by rfl, rfl⟩) ?_ ?_; rotate_left
                         · simp only [Act.put, List.setIfInBounds_toArray, List.set_cons_zero, List.set_cons_succ, i64_w, i32_w]; rfl
                         refine pure_ (i := 11) (N := some 104) (v := undef) (a' := ?_) z28_12 rfl rfl (any_of HT_.out (by kernel_rfl)) (fun _ _ _ h => h) (Or.inr ⟨by rfl, rfl⟩) ?_ ?_; rotate_left
                         · simp only [Act.put, List.setIfInBounds_toArray, List.set_cons_zero, List.set_cons_succ, i64_w, i32_w]; rfl
                         refine pure_ (i := 12) (N := some 105) (v := undef) (a' := ?_) z28_13 rfl rfl (any_of HT_.out (by kernel_rfl)) (fun _ _ _ h => h) (Or.inr ⟨by rfl, rfl⟩) ?_ ?_; rotate_left
                         · simp only [Act.put, List.setIfInBounds_toArray, List.set_cons_zero, List.set_cons_succ, i64_w, i32_w]; rfl
                         refine pure_ (i := 13) (N := some 106) (v := undef) (a' := ?_) z28_14 rfl rfl (any_of HT_.out (by kernel_rfl)) (fun _ _ _ h => h) (Or.inr ⟨by rfl, rfl⟩) ?_ ?_; rotate_left
                         · simp only [Act.put, List.setIfInBounds_toArray, List.set_cons_zero, List.set_cons_succ, i64_w, i32_w]; rfl
                         refine pure_ (i := 14) (N := some 107) (v := undef) (a' := ?_) z28_15 rfl rfl (any_of HT_.out (by kernel_rfl)) (fun _ _ _ h => h) (Or.inr ⟨by rfl, rfl⟩) ?_ ?_; rotate_left
                         · simp only [Act.put, List.setIfInBounds_toArray, List.set_cons_zero, List.set_cons_succ, i64_w, i32_w]; rfl
                         refine pure_ (i := 15) (N := some 108) (v := undef) (a' := ?_) z28_16 rfl rfl (any_of HT_.out (by kernel_rfl)) (fun _ _ _ h => h) (Or.inr ⟨by rfl, rfl⟩) ?_ ?_; rotate_left
                         · simp only [Act.put, List.setIfInBounds_toArray, List.set_cons_zero, List.set_cons_succ, i64_w, i32_w]; rfl
                         refine pure_ (i := 16) (N := some 109) (v := undef) (a' := ?_) z28_17 rfl rfl (any_of HT_.out (by kernel_rfl)) (fun _ _ _ h => h) (Or.inr ⟨by rfl, rfl⟩) ?_ ?_; rotate_left
                         · simp only [Act.put, List.setIfInBounds_toArray, List.set_cons_zero, List.set_cons_succ, i64_w, i32_w]; rfl
                         refine pure_ (i := 17) (N := some 110) (v := undef) (a' := ?_) z28_18 rfl rfl (any_of HT_.out (by kernel_rfl)) (fun _ _ _ h => h) (Or.inr ⟨by rfl, rfl⟩) ?_ ?_; rotate_left
                         · simp only [Act.put, List.setIfInBounds_toArray, List.set_cons_zero, List.set_cons_succ, i64_w, i32_w]; rfl
                         refine pure_ (i := 18) (N := some 111) (v := undef) (a' := ?_) z28_19 rfl rfl (any_of HT_.out (by kernel_rfl)) (fun _ _ _ h => h) (Or.inr ⟨by rfl, rfl⟩) ?_ ?_; rotate_left
                         · simp only [Act.put, List.setIfInBounds_toArray, List.set_cons_zero, List.set_cons_succ, i64_w, i32_w]; rfl
                         refine pure_ (i := 19) (N := some 112) (v := undef) (a' := ?_) z28_20 rfl rfl (any_of HT_.out (by kernel_rfl)) (fun _ _ _ h => h) (Or.inr ⟨by rfl, rfl⟩) ?_ ?_; rotate_left
                         · simp only [Act.put, List.setIfInBounds_toArray, List.set_cons_zero, List.set_cons_succ, i64_w, i32_w]; rfl
                         refine pure_ (i := 20) (N := some 113) (v := undef) (a' := ?_) z28_21 rfl rfl (any_of HT_.out (by kernel_rfl)) (fun _ _ _ h => h) (Or.inr ⟨by rfl, rfl⟩) ?_ ?_; rotate_left
                         · simp only [Act.put, List.setIfInBounds_toArray, List.set_cons_zero, List.set_cons_succ, i64_w, i32_w]; rfl
                         refine pure_ (i := 21) (N := some 114) (v := undef) (a' := ?_) z28_22 rfl rfl (any_of HT_.out (by kernel_rfl)) (fun _ _ _ h => h) (Or.inr ⟨by rfl, rfl⟩) ?_ ?_; rotate_left
                         · simp only [Act.put, List.setIfInBounds_toArray, List.set_cons_zero, List.set_cons_succ, i64_w, i32_w]; rfl
                         refine pure_ (i := 22) (N := some 115) (v := undef) (a' := ?_) z28_23 rfl rfl (any_of HT_.out (by kernel_rfl)) (fun _ _ _ h => h) (Or.inr ⟨by rfl, rfl⟩) ?_ ?_; rotate_left
                         · simp only [Act.put, List.setIfInBounds_toArray, List.set_cons_zero, List.set_cons_succ, i64_w, i32_w]; rfl
                         refine pure_ (i := 23) (N := some 116) (v := undef) (a' := ?_) z28_24 rfl rfl (any_of HT_.out (by kernel_rfl)) (fun _ _ _ h => h) (Or.inr ⟨by rfl, rfl⟩) ?_ ?_; rotate_left
                         · simp only [Act.put, List.setIfInBounds_toArray, List.set_cons_zero, List.set_cons_succ, i64_w, i32_w]; rfl
                         refine pure_ (i := 24) (N := some 117) (v := undef) (a' := ?_) z28_25 rfl rfl (any_of HT_.out (by kernel_rfl)) (fun _ _ _ h => h) (Or.inr ⟨by rfl, rfl⟩) ?_ ?_; rotate_left
                         · simp only [Act.put, List.setIfInBounds_toArray, List.set_cons_zero, List.set_cons_succ, i64_w, i32_w]; rfl
                         refine pure_ (i := 25) (N := some 118) (v := undef) (a' := ?_) z28_26 rfl rfl (any_of HT_.out (by kernel_rfl)) (fun _ _ _ h => h) (Or.inr ⟨by rfl, rfl⟩) ?_ ?_; rotate_left
                         · simp only [Act.put, List.setIfInBounds_toArray, List.set_cons_zero, List.set_cons_succ, i64_w, i32_w]; rfl
                         refine pure_ (i := 26) (N := some 119) (v := undef) (a' := ?_) z28_27 rfl rfl (any_of HT_.out (by kernel_rfl)) (fun _ _ _ h => h) (Or.inr ⟨by rfl, rfl⟩) ?_ ?_; rotate_left
                         · simp only [Act.put, List.setIfInBounds_toArray, List.set_cons_zero, List.set_cons_succ, i64_w, i32_w]; rfl
                         refine pure_ (i := 27) (N := some 120) (v := undef) (a' := ?_) z28_28 rfl rfl (any_of HT_.out (by kernel_rfl)) (fun _ _ _ h => h) (Or.inr ⟨by rfl, rfl⟩) ?_ ?_; rotate_left
                         · simp only [Act.put, List.setIfInBounds_toArray, List.set_cons_zero, List.set_cons_succ, i64_w, i32_w]; rfl
                         refine pure_ (i := 28) (N := some 121) (v := undef) (a' := ?_) z28_29 rfl rfl (any_of HT_.out (by kernel_rfl)) (fun _ _ _ h => h) (Or.inr ⟨by rfl, rfl⟩) ?_ ?_; rotate_left
                         · simp only [Act.put, List.setIfInBounds_toArray, List.set_cons_zero, List.set_cons_succ, i64_w, i32_w]; rfl
                         refine pure_ (i := 29) (N := some 122) (v := ?_) (a' := ?_) z28_30 rfl rfl (any_of HT_.out (by kernel_rfl)) (fun _ _ _ h => h) (Or.inl ⟨by rfl, ?_⟩) ?_ ?_; rotate_left
                         · intro w'; go_simp; with_reducible rfl
                         rotate_left
                         · simp only [Act.put, List.setIfInBounds_toArray, List.set_cons_zero, List.set_cons_succ, i64_w, i32_w]; rfl
                         refine done_ (done_of HT_.out (by kernel_rfl)) ?_
                         try go_wp2
                         go_meet
                         case rel => exact ⟨_, (false), (by first | rfl | (simp; done) | (simp [*]; done)), H', ⟨by have := HJ3.out; have := HK2.out; have := HK3.out; have := HK4.out; have := HJ23.out; have := HJ38.out; first | omega | exact Nat.le_refl _⟩, ⟨by (try simp only [hl7_3]); (try simp only [hl7_4]); (try simp only [hl7_38]); (with_reducible repeat (first | apply Kd.R_alloc | apply Kd.R_drewN | apply Kd.R_drew)); exact HO_7.out⟩, ⟨by (try simp only [hl7_3]); (try simp only [hl7_4]); (try simp only [hl7_38]); (with_reducible repeat (first | refine blk_drewN ?_ _ | refine blk_drew ?_ | refine blk_alloc ?_ _)); exact BK145.out⟩, ⟨by repeat (first | (with_reducible first | exact HB.out | apply below_alloc | apply pw_below_drewN | apply below_drew1 | refine below_set ?_ GE145.out) | exact HB.out)⟩⟩
                       ·
                        rw [if_neg c50] at H
                        exact absurd H (by simp)
                      ·
                       rw [if_neg c49] at H
                       exact absurd H (by simp)
                     case rest =>
                      clear HC48
                      try clear p1
                      try clear q1
                      try clear hx1
                      try clear p2
                      try clear c4
                      try clear c5
                      try clear p6
                      try clear p15
                      try clear q15
                      try clear hx15
                      try clear c49
                      try clear c50
                      try clear c51
                      try clear c51b0
                      try clear c52
                      try clear c53
                      try clear c54
                      try clear c54b0
                      try clear hx152_0
                      try clear hx153_0
                      try clear hx154_0
                      try clear hx155_0
                      try clear p152
                      try clear p153
                      try clear p154
                      try clear p155
                      try clear q152
                      try clear q153
                      try clear q154
                      try clear q155
                      obtain ⟨kq, x122_47, rfl, HA, HJ47, HO_7, BK145, HB⟩ := hcut
                      cases kq with
                      | zero => exact absurd HA.out (by simp [spec_Distances.j6])
                      | succ kj47 =>
                       have H := HA.out
                       clear HA
                       simp only [spec_Distances.j6] at H
                       by_cases c58 : x122_47 = true
                       ·
                        subst c58
                        have H1 : (if 0 ≤ ((rd_T38 l1 x10_4).f1) then (if ((rd_T38 l1 x10_4).f1) < (x7_38.length : Int) then (if 0 ≤ ((rd_T38 l1 x10_4).f0) then (if ((rd_T38 l1 x10_4).f0) < (x7_38.length : Int) then (spec_Distances.l2 kj47 a0 l1 (x7_38.set (((rd_T38 l1 x10_4).f0) : Int).toNat (wrap64 ((rd x7_38 ((rd_T38 l1 x10_4).f1)) + ((rd_T38 l1 x10_4).f2)))) x9_3 (wrap64 (x10_4 + 1))) else (none)) else (none)) else (none)) else (none)) = some r := by rw [if_pos rfl] at H; exact H
                        clear H; have H := H1; clear H1
                        by_cases c59 : 0 ≤ ((rd_T38 l1 x10_4).f1)
                        ·
                         rw [if_pos c59] at H
                         have c59b0 : decide (0 ≤ ((rd_T38 l1 x10_4).f1)) = true := decide_eq_true c59
                         clear c59
                         by_cases c60 : ((rd_T38 l1 x10_4).f1) < (x7_38.length : Int)
                         ·
                          rw [if_pos c60] at H
                          have c60b0 : decide (((rd_T38 l1 x10_4).f1) < (x7_38.length : Int)) = true := decide_eq_true c60
                          clear c60
                          by_cases c61 : 0 ≤ ((rd_T38 l1 x10_4).f0)
                          ·
                           rw [if_pos c61] at H
                           have c61b0 : decide (0 ≤ ((rd_T38 l1 x10_4).f0)) = true := decide_eq_true c61
                           clear c61
                           by_cases c62 : ((rd_T38 l1 x10_4).f0) < (x7_38.length : Int)
                           ·
                            rw [if_pos c62] at H
                            have c62b0 : decide (((rd_T38 l1 x10_4).f0) < (x7_38.length : Int)) = true := decide_eq_true c62
                            clear c62
                            obtain ⟨y157, hy157⟩ : ∃ y_ : List Int, y_ = (x7_38.set (((rd_T38 l1 x10_4).f0) : Int).toNat (wrap64 ((rd x7_38 ((rd_T38 l1 x10_4).f1)) + ((rd_T38 l1 x10_4).f2)))) := ⟨_, rfl⟩
                            replace H : (spec_Distances.l2 kj47 a0 l1 y157 x9_3 (wrap64 (x10_4 + 1))) = some r := by first | (rw [hy157]; with_reducible exact H) | (have H2_ := (Option.bind_some _ _).symm.trans H; rw [hy157]; with_reducible exact H2_) | (have H2_ := (Option.bind_some _ _).symm.trans H; with_reducible exact H2_) | with_reducible exact H | (rw [hy157]; exact H) | exact H
                            have Ny157 := Aside0.mk hy157
                            clear hy157
                            have H' := Aside0.mk H
                            clear H
                            try go_wp2
                            have n0_ := Aside0.mk (Kd.R_drew HO_7.out)
                            have n1_ := Aside0.mk (blk_drew BK145.out)
                            have n2_ := Aside0.mk (below_drew1 HB.out)
                            clear HO_7; clear BK145; clear HB
                            have HO_7 := n0_
                            have BK145 := n1_
                            have HB := n2_
                            clear n0_ n1_ n2_
                            have p156 : 0 ≤ (((rd_T38 l1 x10_4).f1) : Int) := of_decide_eq_true (by first | (with_reducible assumption) | assumption)
                            have q156 : ((rd_T38 l1 x10_4).f1) < (x7_38.length : Int) := of_decide_eq_true (by first | (with_reducible assumption) | assumption)
                            obtain ⟨ad156, e156, hx156_0⟩ := Kd.at_int (Kd.R_reads' HO_7.out).2.2 ((rd_T38 l1 x10_4).f1) p156 q156
                            obtain rfl : (⟨go18, 0, none⟩ : Addr) = ad156 := (by injection e156)
                            (first | simp only [add_plain] at hx156_0 | simp only [add_at] at hx156_0 | simp only [Addr.add, Nat.zero_add] at hx156_0 | skip)
                            replace p156 := eq_true p156
                            replace q156 := eq_true q156
                            have p63 : 0 ≤ (((rd_T38 l1 x10_4).f0) : Int) := of_decide_eq_true (by first | (with_reducible assumption) | assumption)
                            have q63 : (((rd_T38 l1 x10_4).f0) : Int) < ((x7_38.length : Int) : Int) := of_decide_eq_true (by first | (with_reducible assumption) | assumption)
                            obtain ⟨hx63_0, hf63_0⟩ := Kd.R_celln 0 HO_7.out (((rd_T38 l1 x10_4).f0) : Int) p63 q63
                            replace p63 := eq_true p63
                            replace q63 := eq_true q63
                            have HP65 := Kd.R_putn HO_7.out (((rd_T38 l1 x10_4).f0) : Int) (wrap64 ((rd x7_38 ((rd_T38 l1 x10_4).f1)) + ((rd_T38 l1 x10_4).f2)))
                            rw [← Ny157.out] at HP65
                            have HQ65 := Aside0.mk HP65
                            clear HP65
                            refine start_ (n := 13) (S := fun w' => w'.cell? ⟨gb145, 0, none⟩ = some (.int .i64 ((rd_T38 l1 x10_4).f0)) ∧ w'.cell? ⟨gb145, 1, none⟩ = some (.int .i64 ((rd_T38 l1 x10_4).f1)) ∧ w'.cell? ⟨gb145, 2, none⟩ = some (.int .i64 ((rd_T38 l1 x10_4).f2)) ∧ w'.cell? ⟨go18, (((rd_T38 l1 x10_4).f1)).toNat, none⟩ = some (.int .i64 (rd x7_38 ((rd_T38 l1 x10_4).f1)))) (ds := [12]) z28_38 (by kernel_rfl) rfl rfl ⟨(blk_cell BK145.out 0).trans rfl, (blk_cell BK145.out 1).trans rfl, (blk_cell BK145.out 2).trans rfl, hx156_0⟩ (fun hHeld => ?_); refine with_tabW spec_Distances.tab19 spec_Distances.bits19 (fun HT_ HW_ => ?_)
                            generalize wc.drew = w64 at HO_7 BK145 HB HQ65 hf63_0 hx156_0 hx63_0 hHeld ⊢
                            refine pure_ (i := 0) (N := some 123) (v := ?_) (a' := ?_) z28_39 rfl rfl (any_of HT_.out (by kernel_rfl)) (fun _ _ _ h => h) (Or.inl ⟨by rfl, ?_⟩) ?_ ?_; rotate_left
                            · intro w'; go_simp; with_reducible rfl
                            rotate_left
                            · simp only [Act.put, List.setIfInBounds_toArray, List.set_cons_zero, List.set_cons_succ, i64_w, i32_w]; rfl
                            refine pure_ (i := 1) (N := some 124) (v := ?_) (a' := ?_) z28_40 rfl rfl (any_of HT_.out (by kernel_rfl)) (fun _ _ _ h => h) (Or.inl ⟨by rfl, ?_⟩) ?_ ?_; rotate_left
                            · intro w'; go_simp; with_reducible rfl
                            rotate_left
                            · simp only [Act.put, List.setIfInBounds_toArray, List.set_cons_zero, List.set_cons_succ, i64_w, i32_w]; rfl
                            refine pure_ (i := 3) (N := some 126) (v := ?_) (a' := ?_) z28_41 rfl rfl (any_of HT_.out (by kernel_rfl)) (fun _ _ _ h => h) (Or.inl ⟨by rfl, ?_⟩) ?_ ?_; rotate_left
                            · intro w'; go_simp; with_reducible rfl
                            rotate_left
                            · simp only [Act.put, List.setIfInBounds_toArray, List.set_cons_zero, List.set_cons_succ, i64_w, i32_w]; rfl
                            refine pure_ (i := 4) (N := some 127) (v := ?_) (a' := ?_) z28_42 rfl rfl (any_of HT_.out (by kernel_rfl)) (fun _ _ _ h => h) (Or.inl ⟨by rfl, ?_⟩) ?_ ?_; rotate_left
                            · intro w'; go_simp; with_reducible rfl
                            rotate_left
                            · simp only [Act.put, List.setIfInBounds_toArray, List.set_cons_zero, List.set_cons_succ, i64_w, i32_w]; rfl
                            refine pure_ (i := 8) (N := some 131) (v := ?_) (a' := ?_) z28_43 rfl rfl (any_of HT_.out (by kernel_rfl)) (fun _ _ _ h => h) (Or.inl ⟨by rfl, ?_⟩) ?_ ?_; rotate_left
                            · intro w'; go_simp; with_reducible rfl
                            rotate_left
                            · simp only [Act.put, List.setIfInBounds_toArray, List.set_cons_zero, List.set_cons_succ, i64_w, i32_w]; rfl
                            refine take_ (i := 2) (N := some 125) (v := ?_) (a' := ?_) z28_44 rfl rfl (take_ofW HT_.out HW_.out (by kernel_rfl)) (fun _ _ _ h => h) (Or.inl ⟨by rfl, ?_⟩) hHeld ?_ ?_; rotate_left
                            ·
                             rintro w' ⟨s0, s1, s2, s3⟩
                             go_simp; with_reducible rfl
                            rotate_left
                            · simp only [Act.put, List.setIfInBounds_toArray, List.set_cons_zero, List.set_cons_succ, i64_w, i32_w]; rfl
                            refine take_ (i := 5) (N := some 128) (v := ?_) (a' := ?_) z28_45 rfl rfl (take_ofW HT_.out HW_.out (by kernel_rfl)) (fun _ _ _ h => h) (Or.inl ⟨by rfl, ?_⟩) hHeld ?_ ?_; rotate_left
                            ·
                             rintro w' ⟨s0, s1, s2, s3⟩
                             go_simp; with_reducible rfl
                            rotate_left
                            · simp only [Act.put, List.setIfInBounds_toArray, List.set_cons_zero, List.set_cons_succ, i64_w, i32_w]; rfl
                            refine pure_ (i := 6) (N := some 129) (v := ?_) (a' := ?_) z28_46 rfl rfl (any_of HT_.out (by kernel_rfl)) (fun _ _ _ h => h) (Or.inl ⟨by rfl, ?_⟩) ?_ ?_; rotate_left
                            · intro w'; go_simp; with_reducible rfl
                            rotate_left
                            · simp only [Act.put, List.setIfInBounds_toArray, List.set_cons_zero, List.set_cons_succ, i64_w, i32_w]; rfl
                            refine take_ (i := 7) (N := some 130) (v := ?_) (a' := ?_) z28_47 rfl rfl (take_ofW HT_.out HW_.out (by kernel_rfl)) (fun _ _ _ h => h) (Or.inl ⟨by rfl, ?_⟩) hHeld ?_ ?_; rotate_left
                            ·
                             rintro w' ⟨s0, s1, s2, s3⟩
                             go_simp; with_reducible rfl
                            rotate_left
                            · simp only [Act.put, List.setIfInBounds_toArray, List.set_cons_zero, List.set_cons_succ, i64_w, i32_w]; rfl
                            refine take_ (i := 9) (N := some 132) (v := ?_) (a' := ?_) z28_48 rfl rfl (take_ofW HT_.out HW_.out (by kernel_rfl)) (fun _ _ _ h => h) (Or.inl ⟨by rfl, ?_⟩) hHeld ?_ ?_; rotate_left
                            ·
                             rintro w' ⟨s0, s1, s2, s3⟩
                             go_simp; with_reducible rfl
                            rotate_left
                            · simp only [Act.put, List.setIfInBounds_toArray, List.set_cons_zero, List.set_cons_succ, i64_w, i32_w]; rfl
                            refine pure_ (i := 10) (N := some 133) (v := ?_) (a' := ?_) z28_49 rfl rfl (any_of HT_.out (by kernel_rfl)) (fun _ _ _ h => h) (Or.inl ⟨by rfl, ?_⟩) ?_ ?_; rotate_left
                            · intro w'; go_simp; with_reducible rfl
                            rotate_left
                            · simp only [Act.put, List.setIfInBounds_toArray, List.set_cons_zero, List.set_cons_succ, i64_w, i32_w]; rfl
                            refine pure_ (i := 11) (N := some 134) (v := ?_) (a' := ?_) z28_50 rfl rfl (any_of HT_.out (by kernel_rfl)) (fun _ _ _ h => h) (Or.inl ⟨by rfl, ?_⟩) ?_ ?_; rotate_left
                            · intro w'; go_simp; with_reducible rfl
                            rotate_left
                            · simp only [Act.put, List.setIfInBounds_toArray, List.set_cons_zero, List.set_cons_succ, i64_w, i32_w]; rfl
                            refine last_ (i := 12) (N := none) z28_51 rfl rfl (one_of HT_.out (by kernel_rfl)) (by decide) (fun K hK => ?_)
                            refine skip_ (w1 := ?_) (by rfl) rfl ?_ ?_
                            rotate_left
                            · go_simp; rfl
                            refine hK.out _ _ ?_
                            clear hK K
                            refine done_ (done_of HT_.out (by kernel_rfl)) ?_
                            try go_wp2
                            (try simp only [← hl7_4, ← hl7_38])
                            go_roundg kj47
                            case measure => have := HJ3.out; have := HK2.out; have := HK3.out; have := HK4.out; have := HJ23.out; have := HJ38.out; have := HJ47.out; omega
                            case rel => exact ⟨(y157), (wrap64 (x10_4 + 1)), (by first | rfl | (simp; done) | (simp [*]; done)), H', ⟨by have := HJ3.out; have := HK2.out; have := HK3.out; have := HK4.out; have := HJ23.out; have := HJ38.out; have := HJ47.out; omega⟩, ⟨by (try simp only [hl7_3]); (try simp only [hl7_4]); (try simp only [hl7_38]); (with_reducible repeat (first | apply Kd.R_alloc | apply Kd.R_drewN | apply Kd.R_drew)); exact HQ65.out⟩, ⟨by repeat (first | (with_reducible first | exact HB.out | apply below_alloc | apply pw_below_drewN | apply below_drew1 | refine below_set ?_ GB18.out | refine below_set ?_ GE145.out) | exact HB.out)⟩⟩
                           ·
                            rw [if_neg c62] at H
                            exact absurd H (by simp)
                          ·
                           rw [if_neg c61] at H
                           exact absurd H (by simp)
                         ·
                          rw [if_neg c60] at H
                          exact absurd H (by simp)
                        ·
                         rw [if_neg c59] at H
                         exact absurd H (by simp)
                       ·
                        replace c58 := Bool.eq_false_iff.mpr c58
                        subst c58
                        have H1 : (spec_Distances.l2 kj47 a0 l1 x7_38 x9_3 (wrap64 (x10_4 + 1))) = some r := by rw [if_neg (show ¬ (false = true) by decide)] at H; exact H
                        clear H; have H := H1; clear H1
                        have H' := Aside0.mk H
                        clear H; go_wp2
                        (try simp only [← hl7_4, ← hl7_38])
                        go_roundg kj47
                        case measure => have := HJ3.out; have := HK2.out; have := HK3.out; have := HK4.out; have := HJ23.out; have := HJ38.out; have := HJ47.out; omega
                        case rel => exact ⟨(x7_38), (wrap64 (x10_4 + 1)), (by first | rfl | (simp; done) | (simp [*]; done)), H', ⟨by have := HJ3.out; have := HK2.out; have := HK3.out; have := HK4.out; have := HJ23.out; have := HJ38.out; have := HJ47.out; omega⟩, ⟨by (try simp only [hl7_3]); (try simp only [hl7_4]); (try simp only [hl7_38]); (with_reducible repeat (first | apply Kd.R_alloc | apply Kd.R_drewN | apply Kd.R_drew)); exact HO_7.out⟩, ⟨by repeat (first | (with_reducible first | exact HB.out | apply below_alloc | apply pw_below_drewN | apply below_drew1 | refine below_set ?_ GE145.out) | exact HB.out)⟩⟩
                ·
                 rw [if_neg c23] at H
                 exact absurd H (by simp)
               ·
                rw [if_neg c22] at H
                have c22b0 : decide (x10_4 < (l1.length : Int)) = false := decide_eq_false c22
                clear c22
                have H' := Aside0.mk H
                clear H; go_wp2
                (try simp only [← hl7_3, ← hl7_4])
                go_roundg k4
                case measure => have := HJ3.out; have := HK2.out; have := HK3.out; have := HK4.out; omega
                case rel => exact ⟨(x7_4), (wrap64 (x9_3 + 1)), (by first | rfl | (simp; done) | (simp [*]; done)), H', ⟨by have := HJ3.out; have := HK2.out; have := HK3.out; have := HK4.out; omega⟩, ⟨by (try simp only [hl7_3]); (try simp only [hl7_4]); (with_reducible repeat (first | apply Kd.R_alloc | apply Kd.R_drewN | apply Kd.R_drew)); exact HO_7.out⟩, ⟨by repeat (first | (with_reducible first | exact HB.out | apply below_alloc | apply pw_below_drewN | apply below_drew1) | exact HB.out)⟩⟩
            ·
             rw [if_neg c21] at H
             have c21b0 : decide (x9_3 < a0) = false := decide_eq_false c21
             clear c21
             obtain rfl := Option.some.inj H
             go_wp2
             go_ret
             exact ⟨_, by first | rfl | (simp [errW_none, errW_some] <;> rfl) | (simp [*, errW_none, errW_some] <;> rfl), (rrA10 HO_7.out), by repeat (first | (with_reducible first | exact HB.out | apply below_alloc | apply pw_below_drewN | apply below_drew1) | exact HB.out)⟩
         ·
          rw [if_neg c17] at H
          exact absurd H (by simp)
        ·
         rw [if_neg c16] at H
         exact absurd H (by simp)

end Go.Proofs.Ytokoihmjcfhemaa.PFnExactSpread
