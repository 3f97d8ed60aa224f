-- Written by a program out of the translation,for this claim.
import Derived.Test.YtokoihmjcfhemaaPFnExactSpreadx0
import Derived.Test.YtokoihmjcfhemaaPFnExactSpreadx8
namespace Go.Proofs.Ytokoihmjcfhemaa.PFnExactSpread
open Go.RowKit Go.Proofs.YtokoihmjcfhemaaW.PrintWords Go.Proofs.YtokoihmjcfhemaaW.PrintLast Go.Proofs.YtokoihmjcfhemaaW.PrintMore
attribute [local go_sem] max2_int min2_int max_two min_two max_three min_three max_four min_four   -- for this text's walks alone
set_option linter.unusedVariables false
set_option linter.unusedSimpArgs false
theorem rrB9 {p q : Prop} (h : p) (f : p → q := by (intro h_; (with_reducible repeat (first | refine blk_drewN ?_ _ | refine blk_drew ?_ | refine blk_alloc ?_ _)); exact h_)) : q := f h
open Go.Proofs.YtokoihmjcfhemaaW.PrintWords.Aside0 renaming mk → zA
open Go.Proofs.YtokoihmjcfhemaaW.PrintWords renaming below_set → zB
open Go.Proofs.YtokoihmjcfhemaaW.PrintWords renaming below_alloc → zC
open Go.Proofs.YtokoihmjcfhemaaW.PrintWords renaming below_drew1 → zD
open Go.Proofs.YtokoihmjcfhemaaW.PrintWords renaming pw_below_drewN → zE
open Go.Proofs.YtokoihmjcfhemaaW.PrintWords renaming blk_drewN → zF
open Go.Proofs.YtokoihmjcfhemaaW.PrintWords renaming blk_alloc → zG
open Go.Proofs.YtokoihmjcfhemaaW.PrintWords renaming blk_drew → zH
open Go.Proofs.YtokoihmjcfhemaaW.PrintWords renaming blk_cell → zI

/-! ### spec_RoadsOk: function 33 -/
mutual
def spec_RoadsOk.j0 : Nat → Int → List (S38) → Bool → Option (Bool)
  | 0,_,_,_ => none
  | k + 1,x0,x1,x14 => if x14 = true then (some false) else (spec_RoadsOk.l0 k x0 x1 0)
def spec_RoadsOk.l0 : Nat → Int → List (S38) → Int → Option (Bool)
  | 0,_,_,_ => none
  | k + 1,x0,x1,x5 => if x5 < (x1.length : Int) then (if 0 ≤ x5 then ((spec_l01In.f ((rd_T38 x1 x5).f0) 0 (wrap64 (x0 - 1))).bind fun t129 => (if t129 = true then ((spec_l01In.f ((rd_T38 x1 x5).f1) 0 (wrap64 (x0 - 1))).bind fun t130 => (if t130 = true then (if ((rd_T38 x1 x5).f0) ≥ ((rd_T38 x1 x5).f1) then (spec_RoadsOk.j2 k x0 x1 x5 true) else ((spec_l01In.f ((rd_T38 x1 x5).f2) 1 100).bind fun t131 => (if t131 = true then (if x5 > 0 then (if 0 ≤ (wrap64 (x5 - 1)) then (if (wrap64 (x5 - 1)) < (x1.length : Int) then (if ((rd_T38 x1 (wrap64 (x5 - 1))).f0) > ((rd_T38 x1 x5).f0) then (spec_RoadsOk.j2 k x0 x1 x5 true) else (if ((rd_T38 x1 (wrap64 (x5 - 1))).f0) = ((rd_T38 x1 x5).f0) then (spec_RoadsOk.j2 k x0 x1 x5 (decide (((rd_T38 x1 (wrap64 (x5 - 1))).f1) ≥ ((rd_T38 x1 x5).f1)))) else (spec_RoadsOk.j2 k x0 x1 x5 false))) else (none)) else (none)) else (spec_RoadsOk.j2 k x0 x1 x5 false)) else (spec_RoadsOk.j2 k x0 x1 x5 true)))) else (spec_RoadsOk.j2 k x0 x1 x5 true))) else (spec_RoadsOk.j2 k x0 x1 x5 true))) else (none)) else (some true)
def spec_RoadsOk.j2 : Nat → Int → List (S38) → Int → Bool → Option (Bool)
  | 0,_,_,_,_ => none
  | k + 1,x0,x1,x5,x88 => if x88 = true then (some false) else (spec_RoadsOk.l0 k x0 x1 (wrap64 (x5 + 1)))
end
def spec_RoadsOk.f (k : Nat) (a0 : Int) (l1 : List (S38)) : Option (Bool) := (spec_l01In.f a0 1 6).bind fun t126 => (if t126 = true then (spec_RoadsOk.j0 k a0 l1 (decide ((l1.length : Int) > 12))) else (spec_RoadsOk.j0 k a0 l1 true))
theorem spec_RoadsOk.mono_l : ∀ k,(∀ y0 y1 y2,LeO (spec_RoadsOk.j0 k y0 y1 y2) (spec_RoadsOk.j0 (k + 1) y0 y1 y2)) ∧ (∀ y0 y1 y2,LeO (spec_RoadsOk.l0 k y0 y1 y2) (spec_RoadsOk.l0 (k + 1) y0 y1 y2)) ∧ (∀ y0 y1 y2 y3,LeO (spec_RoadsOk.j2 k y0 y1 y2 y3) (spec_RoadsOk.j2 (k + 1) y0 y1 y2 y3))
  | 0 => ⟨fun _ _ _ r h => by simp [spec_RoadsOk.j0] at h,fun _ _ _ r h => by simp [spec_RoadsOk.l0] at h,fun _ _ _ _ r h => by simp [spec_RoadsOk.j2] at h⟩
  | k + 1 => by
   obtain ⟨ih0,ih1,ih2⟩ := spec_RoadsOk.mono_l k
   refine ⟨?_,?_,?_⟩
   ·
    intro y0 y1 y2
    unfold spec_RoadsOk.j0
    repeat' first
   |(with_reducible exact ih0 _ _ _)
   |(with_reducible exact ih1 _ _ _)
   |(with_reducible exact ih2 _ _ _ _)
   |(with_reducible exact LeO.refl _)
   |(with_reducible exact LeO.none _)
   |(with_reducible refine LeO.ite ?_ ?_)
   |(with_reducible refine LeO.bind ?_ (fun _ => ?_))
   |exact ih0 _ _ _
   |exact ih1 _ _ _
   |exact ih2 _ _ _ _
   |exact LeO.none _
   |refine LeO.ite ?_ ?_
   |refine LeO.bind ?_ (fun _ => ?_)
   ·
    intro y0 y1 y2
    unfold spec_RoadsOk.l0
    repeat' first
   |(with_reducible exact ih0 _ _ _)
   |(with_reducible exact ih1 _ _ _)
   |(with_reducible exact ih2 _ _ _ _)
   |(with_reducible exact LeO.refl _)
   |(with_reducible exact LeO.none _)
   |(with_reducible refine LeO.ite ?_ ?_)
   |(with_reducible refine LeO.bind ?_ (fun _ => ?_))
   |exact ih0 _ _ _
   |exact ih1 _ _ _
   |exact ih2 _ _ _ _
   |exact LeO.none _
   |refine LeO.ite ?_ ?_
   |refine LeO.bind ?_ (fun _ => ?_)
   ·
    intro y0 y1 y2 y3
    unfold spec_RoadsOk.j2
    repeat' first
   |(with_reducible exact ih0 _ _ _)
   |(with_reducible exact ih1 _ _ _)
   |(with_reducible exact ih2 _ _ _ _)
   |(with_reducible exact LeO.refl _)
   |(with_reducible exact LeO.none _)
   |(with_reducible refine LeO.ite ?_ ?_)
   |(with_reducible refine LeO.bind ?_ (fun _ => ?_))
   |exact ih0 _ _ _
   |exact ih1 _ _ _
   |exact ih2 _ _ _ _
   |exact LeO.none _
   |refine LeO.ite ?_ ?_
   |refine LeO.bind ?_ (fun _ => ?_)
theorem spec_RoadsOk.mono : ∀ a0 a1 k,LeO (spec_RoadsOk.f k a0 a1) (spec_RoadsOk.f (k + 1) a0 a1) := by
  intro a0 a1 k
  obtain ⟨ih0,ih1,ih2⟩ := spec_RoadsOk.mono_l k
  unfold spec_RoadsOk.f
  repeat' first
   |(with_reducible exact ih0 _ _ _)
   |(with_reducible exact ih1 _ _ _)
   |(with_reducible exact ih2 _ _ _ _)
   |(with_reducible exact LeO.refl _)
   |(with_reducible exact LeO.none _)
   |(with_reducible refine LeO.ite ?_ ?_)
   |(with_reducible refine LeO.bind ?_ (fun _ => ?_))
   |exact ih0 _ _ _
   |exact ih1 _ _ _
   |exact ih2 _ _ _ _
   |exact LeO.none _
   |refine LeO.ite ?_ ?_
   |refine LeO.bind ?_ (fun _ => ?_)
def spec_RoadsOk.T7 : Bool × List (List Nat × List Nat) := (true,[([],[]),([0],[0]),([],[]),([2],[2]),([1,3],[1,3]),([4],[4]),([5,4],[5]),([6],[6]),([7,6],[6,7]),([6],[6]),([9,6],[6,9]),([8,10,6,6],[6,8,10]),([11,6],[6,11]),([6,12],[6,12]),([13,11],[13]),([14],[14]),([15,14],[14,15]),([14],[14]),([17,14],[14,17]),([16,18,14],[14,16,18]),([14,19],[14,19]),([20,14],[20]),([21],[21]),([22,21],[21,22]),([23,21,21],[21,23]),([24,21],[21,24]),([21,25],[21,25]),([26,24],[26]),([27],[27]),([28,27],[27,28]),([29,27,27],[27,29]),([30],[30]),([30],[30]),([32,30],[30,32]),([31,33,30],[30,31,33]),([34,30],[30,34]),([35,30],[30,35]),([30],[30]),([37,30],[30,37]),([36,38,30],[30,36,38]),([39,30,30],[30,39]),([40],[40]),([40],[40]),([42,40],[40,42]),([41,43,40],[40,41,43]),([44,40],[40,44]),([45,40],[40,45]),([40],[40]),([47,40],[40,47]),([46,48,40],[40,46,48]),([49,40,40],[40,49]),([50],[50]),([50],[50]),([52,50],[50,52]),([51,53,50],[50,51,53]),([54,50],[50,54]),([55,50],[50,55]),([50],[50]),([57,50],[50,57]),([56,58,50],[50,56,58]),([50,59,40],[40,50,59]),([40,60,30],[30,40,60]),([30,61,27],[27,30,61]),([27,62],[27,62])])
def spec_RoadsOk.B7 : List Nat := [0,1,0,4,15,31,63,127,255,127,639,2047,4095,8191,16383,32767,65535,32767,163839,524287,1048575,2097151,4194303,8388607,16777215,33554431,67108863,134217727,268435455,536870911,1073741823,2147483647,2147483647,6442450943,17179869183,34359738367,68719476735,2147483647,139586437119,549755813887,1099511627775,2199023255551,2199023255551,6597069766655,17592186044415,35184372088831,70368744177663,2199023255551,142936511610879,562949953421311,1125899906842623,2251799813685247,2251799813685247,6755399441055743,18014398509481983,36028797018963967,72057594037927935,2251799813685247,146366987889541119,576460752303423487,1152921504606846975,2305843009213693951,4611686018427387903,9223372036854775807]
theorem spec_RoadsOk.tab7 : rtab .any (opsOf Try.f33 7) = spec_RoadsOk.T7 := by kernel_rfl
theorem spec_RoadsOk.bits7 : waitsOk spec_RoadsOk.T7.2 spec_RoadsOk.B7 = true := by kernel_rfl
abbrev z12F : Bool := false
abbrev z12T : Bool := true
abbrev z12_0 : Array Bool := #[z12F,z12F,z12F,z12F,z12F,z12F,z12F,z12F,z12F,z12F,z12F,z12F,z12F,z12F,z12F,z12F,z12F,z12F,z12F,z12F,z12F,z12F,z12F,z12F,z12F,z12F,z12F,z12F,z12F,z12F,z12F,z12F,z12F,z12F,z12F,z12F,z12F,z12F,z12F,z12F,z12F,z12F,z12F,z12F,z12F,z12F,z12F,z12F,z12F,z12F,z12F,z12F,z12F,z12F,z12F,z12F,z12F,z12F,z12F,z12F,z12F,z12F,z12F,z12F]
abbrev z12_1 : Array Bool := #[z12T,z12F,z12F,z12F,z12F,z12F,z12F,z12F,z12F,z12F,z12F,z12F,z12F,z12F,z12F,z12F,z12F,z12F,z12F,z12F,z12F,z12F,z12F,z12F,z12F,z12F,z12F,z12F,z12F,z12F,z12F,z12F,z12F,z12F,z12F,z12F,z12F,z12F,z12F,z12F,z12F,z12F,z12F,z12F,z12F,z12F,z12F,z12F,z12F,z12F,z12F,z12F,z12F,z12F,z12F,z12F,z12F,z12F,z12F,z12F,z12F,z12F,z12F,z12F]
abbrev z12_2 : Array Bool := #[z12T,z12F,z12T,z12F,z12F,z12F,z12F,z12F,z12F,z12F,z12F,z12F,z12F,z12F,z12F,z12F,z12F,z12F,z12F,z12F,z12F,z12F,z12F,z12F,z12F,z12F,z12F,z12F,z12F,z12F,z12F,z12F,z12F,z12F,z12F,z12F,z12F,z12F,z12F,z12F,z12F,z12F,z12F,z12F,z12F,z12F,z12F,z12F,z12F,z12F,z12F,z12F,z12F,z12F,z12F,z12F,z12F,z12F,z12F,z12F,z12F,z12F,z12F,z12F]
abbrev z12_3 : Array Bool := #[z12T,z12F,z12T,z12T,z12F,z12F,z12F,z12F,z12F,z12F,z12F,z12F,z12F,z12F,z12F,z12F,z12F,z12F,z12F,z12F,z12F,z12F,z12F,z12F,z12F,z12F,z12F,z12F,z12F,z12F,z12F,z12F,z12F,z12F,z12F,z12F,z12F,z12F,z12F,z12F,z12F,z12F,z12F,z12F,z12F,z12F,z12F,z12F,z12F,z12F,z12F,z12F,z12F,z12F,z12F,z12F,z12F,z12F,z12F,z12F,z12F,z12F,z12F,z12F]
abbrev z12_4 : Array Bool := #[z12T,z12T,z12T,z12T,z12F,z12F,z12F,z12F,z12F,z12F,z12F,z12F,z12F,z12F,z12F,z12F,z12F,z12F,z12F,z12F,z12F,z12F,z12F,z12F,z12F,z12F,z12F,z12F,z12F,z12F,z12F,z12F,z12F,z12F,z12F,z12F,z12F,z12F,z12F,z12F,z12F,z12F,z12F,z12F,z12F,z12F,z12F,z12F,z12F,z12F,z12F,z12F,z12F,z12F,z12F,z12F,z12F,z12F,z12F,z12F,z12F,z12F,z12F,z12F]
abbrev z12_5 : Array Bool := #[z12T,z12T,z12T,z12T,z12T,z12F,z12F,z12F,z12F,z12F,z12F,z12F,z12F,z12F,z12F,z12F,z12F,z12F,z12F,z12F,z12F,z12F,z12F,z12F,z12F,z12F,z12F,z12F,z12F,z12F,z12F,z12F,z12F,z12F,z12F,z12F,z12F,z12F,z12F,z12F,z12F,z12F,z12F,z12F,z12F,z12F,z12F,z12F,z12F,z12F,z12F,z12F,z12F,z12F,z12F,z12F,z12F,z12F,z12F,z12F,z12F,z12F,z12F,z12F]
abbrev z12_6 : Array Bool := #[z12T,z12T,z12T,z12T,z12T,z12T,z12F,z12F,z12F,z12F,z12F,z12F,z12F,z12F,z12F,z12F,z12F,z12F,z12F,z12F,z12F,z12F,z12F,z12F,z12F,z12F,z12F,z12F,z12F,z12F,z12F,z12F,z12F,z12F,z12F,z12F,z12F,z12F,z12F,z12F,z12F,z12F,z12F,z12F,z12F,z12F,z12F,z12F,z12F,z12F,z12F,z12F,z12F,z12F,z12F,z12F,z12F,z12F,z12F,z12F,z12F,z12F,z12F,z12F]
abbrev z12_7 : Array Bool := #[z12T,z12T,z12T,z12T,z12T,z12T,z12T,z12F,z12F,z12F,z12F,z12F,z12F,z12F,z12F,z12F,z12F,z12F,z12F,z12F,z12F,z12F,z12F,z12F,z12F,z12F,z12F,z12F,z12F,z12F,z12F,z12F,z12F,z12F,z12F,z12F,z12F,z12F,z12F,z12F,z12F,z12F,z12F,z12F,z12F,z12F,z12F,z12F,z12F,z12F,z12F,z12F,z12F,z12F,z12F,z12F,z12F,z12F,z12F,z12F,z12F,z12F,z12F,z12F]
abbrev z12_8 : Array Bool := #[z12T,z12T,z12T,z12T,z12T,z12T,z12T,z12T,z12F,z12F,z12F,z12F,z12F,z12F,z12F,z12F,z12F,z12F,z12F,z12F,z12F,z12F,z12F,z12F,z12F,z12F,z12F,z12F,z12F,z12F,z12F,z12F,z12F,z12F,z12F,z12F,z12F,z12F,z12F,z12F,z12F,z12F,z12F,z12F,z12F,z12F,z12F,z12F,z12F,z12F,z12F,z12F,z12F,z12F,z12F,z12F,z12F,z12F,z12F,z12F,z12F,z12F,z12F,z12F]
abbrev z12_9 : Array Bool := #[z12T,z12T,z12T,z12T,z12T,z12T,z12T,z12T,z12F,z12T,z12F,z12F,z12F,z12F,z12F,z12F,z12F,z12F,z12F,z12F,z12F,z12F,z12F,z12F,z12F,z12F,z12F,z12F,z12F,z12F,z12F,z12F,z12F,z12F,z12F,z12F,z12F,z12F,z12F,z12F,z12F,z12F,z12F,z12F,z12F,z12F,z12F,z12F,z12F,z12F,z12F,z12F,z12F,z12F,z12F,z12F,z12F,z12F,z12F,z12F,z12F,z12F,z12F,z12F]
abbrev z12_10 : Array Bool := #[z12T,z12T,z12T,z12T,z12T,z12T,z12T,z12T,z12F,z12T,z12T,z12F,z12F,z12F,z12F,z12F,z12F,z12F,z12F,z12F,z12F,z12F,z12F,z12F,z12F,z12F,z12F,z12F,z12F,z12F,z12F,z12F,z12F,z12F,z12F,z12F,z12F,z12F,z12F,z12F,z12F,z12F,z12F,z12F,z12F,z12F,z12F,z12F,z12F,z12F,z12F,z12F,z12F,z12F,z12F,z12F,z12F,z12F,z12F,z12F,z12F,z12F,z12F,z12F]
abbrev z12_11 : Array Bool := #[z12T,z12T,z12T,z12T,z12T,z12T,z12T,z12T,z12T,z12T,z12T,z12F,z12F,z12F,z12F,z12F,z12F,z12F,z12F,z12F,z12F,z12F,z12F,z12F,z12F,z12F,z12F,z12F,z12F,z12F,z12F,z12F,z12F,z12F,z12F,z12F,z12F,z12F,z12F,z12F,z12F,z12F,z12F,z12F,z12F,z12F,z12F,z12F,z12F,z12F,z12F,z12F,z12F,z12F,z12F,z12F,z12F,z12F,z12F,z12F,z12F,z12F,z12F,z12F]
abbrev z12_12 : Array Bool := #[z12T,z12T,z12T,z12T,z12T,z12T,z12T,z12T,z12T,z12T,z12T,z12T,z12F,z12F,z12F,z12F,z12F,z12F,z12F,z12F,z12F,z12F,z12F,z12F,z12F,z12F,z12F,z12F,z12F,z12F,z12F,z12F,z12F,z12F,z12F,z12F,z12F,z12F,z12F,z12F,z12F,z12F,z12F,z12F,z12F,z12F,z12F,z12F,z12F,z12F,z12F,z12F,z12F,z12F,z12F,z12F,z12F,z12F,z12F,z12F,z12F,z12F,z12F,z12F]
abbrev z12_13 : Array Bool := #[z12T,z12T,z12T,z12T,z12T,z12T,z12T,z12T,z12T,z12T,z12T,z12T,z12T,z12F,z12F,z12F,z12F,z12F,z12F,z12F,z12F,z12F,z12F,z12F,z12F,z12F,z12F,z12F,z12F,z12F,z12F,z12F,z12F,z12F,z12F,z12F,z12F,z12F,z12F,z12F,z12F,z12F,z12F,z12F,z12F,z12F,z12F,z12F,z12F,z12F,z12F,z12F,z12F,z12F,z12F,z12F,z12F,z12F,z12F,z12F,z12F,z12F,z12F,z12F]
abbrev z12_14 : Array Bool := #[z12T,z12T,z12T,z12T,z12T,z12T,z12T,z12T,z12T,z12T,z12T,z12T,z12T,z12T,z12F,z12F,z12F,z12F,z12F,z12F,z12F,z12F,z12F,z12F,z12F,z12F,z12F,z12F,z12F,z12F,z12F,z12F,z12F,z12F,z12F,z12F,z12F,z12F,z12F,z12F,z12F,z12F,z12F,z12F,z12F,z12F,z12F,z12F,z12F,z12F,z12F,z12F,z12F,z12F,z12F,z12F,z12F,z12F,z12F,z12F,z12F,z12F,z12F,z12F]
abbrev z12_15 : Array Bool := #[z12T,z12T,z12T,z12T,z12T,z12T,z12T,z12T,z12T,z12T,z12T,z12T,z12T,z12T,z12T,z12F,z12F,z12F,z12F,z12F,z12F,z12F,z12F,z12F,z12F,z12F,z12F,z12F,z12F,z12F,z12F,z12F,z12F,z12F,z12F,z12F,z12F,z12F,z12F,z12F,z12F,z12F,z12F,z12F,z12F,z12F,z12F,z12F,z12F,z12F,z12F,z12F,z12F,z12F,z12F,z12F,z12F,z12F,z12F,z12F,z12F,z12F,z12F,z12F]
abbrev z12_16 : Array Bool := #[z12T,z12T,z12T,z12T,z12T,z12T,z12T,z12T,z12T,z12T,z12T,z12T,z12T,z12T,z12T,z12T,z12F,z12F,z12F,z12F,z12F,z12F,z12F,z12F,z12F,z12F,z12F,z12F,z12F,z12F,z12F,z12F,z12F,z12F,z12F,z12F,z12F,z12F,z12F,z12F,z12F,z12F,z12F,z12F,z12F,z12F,z12F,z12F,z12F,z12F,z12F,z12F,z12F,z12F,z12F,z12F,z12F,z12F,z12F,z12F,z12F,z12F,z12F,z12F]
abbrev z12_17 : Array Bool := #[z12T,z12T,z12T,z12T,z12T,z12T,z12T,z12T,z12T,z12T,z12T,z12T,z12T,z12T,z12T,z12T,z12F,z12T,z12F,z12F,z12F,z12F,z12F,z12F,z12F,z12F,z12F,z12F,z12F,z12F,z12F,z12F,z12F,z12F,z12F,z12F,z12F,z12F,z12F,z12F,z12F,z12F,z12F,z12F,z12F,z12F,z12F,z12F,z12F,z12F,z12F,z12F,z12F,z12F,z12F,z12F,z12F,z12F,z12F,z12F,z12F,z12F,z12F,z12F]
abbrev z12_18 : Array Bool := #[z12T,z12T,z12T,z12T,z12T,z12T,z12T,z12T,z12T,z12T,z12T,z12T,z12T,z12T,z12T,z12T,z12T,z12T,z12F,z12F,z12F,z12F,z12F,z12F,z12F,z12F,z12F,z12F,z12F,z12F,z12F,z12F,z12F,z12F,z12F,z12F,z12F,z12F,z12F,z12F,z12F,z12F,z12F,z12F,z12F,z12F,z12F,z12F,z12F,z12F,z12F,z12F,z12F,z12F,z12F,z12F,z12F,z12F,z12F,z12F,z12F,z12F,z12F,z12F]
abbrev z12_19 : Array Bool := #[z12T,z12T,z12T,z12T,z12T,z12T,z12T,z12T,z12T,z12T,z12T,z12T,z12T,z12T,z12T,z12T,z12T,z12T,z12T,z12F,z12F,z12F,z12F,z12F,z12F,z12F,z12F,z12F,z12F,z12F,z12F,z12F,z12F,z12F,z12F,z12F,z12F,z12F,z12F,z12F,z12F,z12F,z12F,z12F,z12F,z12F,z12F,z12F,z12F,z12F,z12F,z12F,z12F,z12F,z12F,z12F,z12F,z12F,z12F,z12F,z12F,z12F,z12F,z12F]
abbrev z12_20 : Array Bool := #[z12T,z12T,z12T,z12T,z12T,z12T,z12T,z12T,z12T,z12T,z12T,z12T,z12T,z12T,z12T,z12T,z12T,z12T,z12T,z12T,z12F,z12F,z12F,z12F,z12F,z12F,z12F,z12F,z12F,z12F,z12F,z12F,z12F,z12F,z12F,z12F,z12F,z12F,z12F,z12F,z12F,z12F,z12F,z12F,z12F,z12F,z12F,z12F,z12F,z12F,z12F,z12F,z12F,z12F,z12F,z12F,z12F,z12F,z12F,z12F,z12F,z12F,z12F,z12F]
abbrev z12_21 : Array Bool := #[z12T,z12T,z12T,z12T,z12T,z12T,z12T,z12T,z12T,z12T,z12T,z12T,z12T,z12T,z12T,z12T,z12T,z12T,z12T,z12T,z12T,z12F,z12F,z12F,z12F,z12F,z12F,z12F,z12F,z12F,z12F,z12F,z12F,z12F,z12F,z12F,z12F,z12F,z12F,z12F,z12F,z12F,z12F,z12F,z12F,z12F,z12F,z12F,z12F,z12F,z12F,z12F,z12F,z12F,z12F,z12F,z12F,z12F,z12F,z12F,z12F,z12F,z12F,z12F]
abbrev z12_22 : Array Bool := #[z12T,z12T,z12T,z12T,z12T,z12T,z12T,z12T,z12T,z12T,z12T,z12T,z12T,z12T,z12T,z12T,z12T,z12T,z12T,z12T,z12T,z12T,z12F,z12F,z12F,z12F,z12F,z12F,z12F,z12F,z12F,z12F,z12F,z12F,z12F,z12F,z12F,z12F,z12F,z12F,z12F,z12F,z12F,z12F,z12F,z12F,z12F,z12F,z12F,z12F,z12F,z12F,z12F,z12F,z12F,z12F,z12F,z12F,z12F,z12F,z12F,z12F,z12F,z12F]
abbrev z12_23 : Array Bool := #[z12T,z12T,z12T,z12T,z12T,z12T,z12T,z12T,z12T,z12T,z12T,z12T,z12T,z12T,z12T,z12T,z12T,z12T,z12T,z12T,z12T,z12T,z12T,z12F,z12F,z12F,z12F,z12F,z12F,z12F,z12F,z12F,z12F,z12F,z12F,z12F,z12F,z12F,z12F,z12F,z12F,z12F,z12F,z12F,z12F,z12F,z12F,z12F,z12F,z12F,z12F,z12F,z12F,z12F,z12F,z12F,z12F,z12F,z12F,z12F,z12F,z12F,z12F,z12F]
abbrev z12_24 : Array Bool := #[z12T,z12T,z12T,z12T,z12T,z12T,z12T,z12T,z12T,z12T,z12T,z12T,z12T,z12T,z12T,z12T,z12T,z12T,z12T,z12T,z12T,z12T,z12T,z12T,z12F,z12F,z12F,z12F,z12F,z12F,z12F,z12F,z12F,z12F,z12F,z12F,z12F,z12F,z12F,z12F,z12F,z12F,z12F,z12F,z12F,z12F,z12F,z12F,z12F,z12F,z12F,z12F,z12F,z12F,z12F,z12F,z12F,z12F,z12F,z12F,z12F,z12F,z12F,z12F]
abbrev z12_25 : Array Bool := #[z12T,z12T,z12T,z12T,z12T,z12T,z12T,z12T,z12T,z12T,z12T,z12T,z12T,z12T,z12T,z12T,z12T,z12T,z12T,z12T,z12T,z12T,z12T,z12T,z12T,z12F,z12F,z12F,z12F,z12F,z12F,z12F,z12F,z12F,z12F,z12F,z12F,z12F,z12F,z12F,z12F,z12F,z12F,z12F,z12F,z12F,z12F,z12F,z12F,z12F,z12F,z12F,z12F,z12F,z12F,z12F,z12F,z12F,z12F,z12F,z12F,z12F,z12F,z12F]
abbrev z12_26 : Array Bool := #[z12T,z12T,z12T,z12T,z12T,z12T,z12T,z12T,z12T,z12T,z12T,z12T,z12T,z12T,z12T,z12T,z12T,z12T,z12T,z12T,z12T,z12T,z12T,z12T,z12T,z12T,z12F,z12F,z12F,z12F,z12F,z12F,z12F,z12F,z12F,z12F,z12F,z12F,z12F,z12F,z12F,z12F,z12F,z12F,z12F,z12F,z12F,z12F,z12F,z12F,z12F,z12F,z12F,z12F,z12F,z12F,z12F,z12F,z12F,z12F,z12F,z12F,z12F,z12F]
abbrev z12_27 : Array Bool := #[z12T,z12T,z12T,z12T,z12T,z12T,z12T,z12T,z12T,z12T,z12T,z12T,z12T,z12T,z12T,z12T,z12T,z12T,z12T,z12T,z12T,z12T,z12T,z12T,z12T,z12T,z12T,z12F,z12F,z12F,z12F,z12F,z12F,z12F,z12F,z12F,z12F,z12F,z12F,z12F,z12F,z12F,z12F,z12F,z12F,z12F,z12F,z12F,z12F,z12F,z12F,z12F,z12F,z12F,z12F,z12F,z12F,z12F,z12F,z12F,z12F,z12F,z12F,z12F]
abbrev z12_28 : Array Bool := #[z12T,z12T,z12T,z12T,z12T,z12T,z12T,z12T,z12T,z12T,z12T,z12T,z12T,z12T,z12T,z12T,z12T,z12T,z12T,z12T,z12T,z12T,z12T,z12T,z12T,z12T,z12T,z12T,z12F,z12F,z12F,z12F,z12F,z12F,z12F,z12F,z12F,z12F,z12F,z12F,z12F,z12F,z12F,z12F,z12F,z12F,z12F,z12F,z12F,z12F,z12F,z12F,z12F,z12F,z12F,z12F,z12F,z12F,z12F,z12F,z12F,z12F,z12F,z12F]
abbrev z12_29 : Array Bool := #[z12T,z12T,z12T,z12T,z12T,z12T,z12T,z12T,z12T,z12T,z12T,z12T,z12T,z12T,z12T,z12T,z12T,z12T,z12T,z12T,z12T,z12T,z12T,z12T,z12T,z12T,z12T,z12T,z12T,z12F,z12F,z12F,z12F,z12F,z12F,z12F,z12F,z12F,z12F,z12F,z12F,z12F,z12F,z12F,z12F,z12F,z12F,z12F,z12F,z12F,z12F,z12F,z12F,z12F,z12F,z12F,z12F,z12F,z12F,z12F,z12F,z12F,z12F,z12F]
abbrev z12_30 : Array Bool := #[z12T,z12T,z12T,z12T,z12T,z12T,z12T,z12T,z12T,z12T,z12T,z12T,z12T,z12T,z12T,z12T,z12T,z12T,z12T,z12T,z12T,z12T,z12T,z12T,z12T,z12T,z12T,z12T,z12T,z12T,z12F,z12F,z12F,z12F,z12F,z12F,z12F,z12F,z12F,z12F,z12F,z12F,z12F,z12F,z12F,z12F,z12F,z12F,z12F,z12F,z12F,z12F,z12F,z12F,z12F,z12F,z12F,z12F,z12F,z12F,z12F,z12F,z12F,z12F]
abbrev z12_31 : Array Bool := #[z12T,z12T,z12T,z12T,z12T,z12T,z12T,z12T,z12T,z12T,z12T,z12T,z12T,z12T,z12T,z12T,z12T,z12T,z12T,z12T,z12T,z12T,z12T,z12T,z12T,z12T,z12T,z12T,z12T,z12T,z12T,z12F,z12F,z12F,z12F,z12F,z12F,z12F,z12F,z12F,z12F,z12F,z12F,z12F,z12F,z12F,z12F,z12F,z12F,z12F,z12F,z12F,z12F,z12F,z12F,z12F,z12F,z12F,z12F,z12F,z12F,z12F,z12F,z12F]
abbrev z12_32 : Array Bool := #[z12T,z12T,z12T,z12T,z12T,z12T,z12T,z12T,z12T,z12T,z12T,z12T,z12T,z12T,z12T,z12T,z12T,z12T,z12T,z12T,z12T,z12T,z12T,z12T,z12T,z12T,z12T,z12T,z12T,z12T,z12T,z12T,z12F,z12F,z12F,z12F,z12F,z12F,z12F,z12F,z12F,z12F,z12F,z12F,z12F,z12F,z12F,z12F,z12F,z12F,z12F,z12F,z12F,z12F,z12F,z12F,z12F,z12F,z12F,z12F,z12F,z12F,z12F,z12F]
abbrev z12_33 : Array Bool := #[z12T,z12T,z12T,z12T,z12T,z12T,z12T,z12T,z12T,z12T,z12T,z12T,z12T,z12T,z12T,z12T,z12T,z12T,z12T,z12T,z12T,z12T,z12T,z12T,z12T,z12T,z12T,z12T,z12T,z12T,z12T,z12T,z12T,z12F,z12F,z12F,z12F,z12F,z12F,z12F,z12F,z12F,z12F,z12F,z12F,z12F,z12F,z12F,z12F,z12F,z12F,z12F,z12F,z12F,z12F,z12F,z12F,z12F,z12F,z12F,z12F,z12F,z12F,z12F]
abbrev z12_34 : Array Bool := #[z12T,z12T,z12T,z12T,z12T,z12T,z12T,z12T,z12T,z12T,z12T,z12T,z12T,z12T,z12T,z12T,z12T,z12T,z12T,z12T,z12T,z12T,z12T,z12T,z12T,z12T,z12T,z12T,z12T,z12T,z12T,z12T,z12T,z12T,z12F,z12F,z12F,z12F,z12F,z12F,z12F,z12F,z12F,z12F,z12F,z12F,z12F,z12F,z12F,z12F,z12F,z12F,z12F,z12F,z12F,z12F,z12F,z12F,z12F,z12F,z12F,z12F,z12F,z12F]
abbrev z12_35 : Array Bool := #[z12T,z12T,z12T,z12T,z12T,z12T,z12T,z12T,z12T,z12T,z12T,z12T,z12T,z12T,z12T,z12T,z12T,z12T,z12T,z12T,z12T,z12T,z12T,z12T,z12T,z12T,z12T,z12T,z12T,z12T,z12T,z12T,z12T,z12T,z12T,z12F,z12F,z12F,z12F,z12F,z12F,z12F,z12F,z12F,z12F,z12F,z12F,z12F,z12F,z12F,z12F,z12F,z12F,z12F,z12F,z12F,z12F,z12F,z12F,z12F,z12F,z12F,z12F,z12F]
abbrev z12_36 : Array Bool := #[z12T,z12T,z12T,z12T,z12T,z12T,z12T,z12T,z12T,z12T,z12T,z12T,z12T,z12T,z12T,z12T,z12T,z12T,z12T,z12T,z12T,z12T,z12T,z12T,z12T,z12T,z12T,z12T,z12T,z12T,z12T,z12T,z12T,z12T,z12T,z12T,z12F,z12F,z12F,z12F,z12F,z12F,z12F,z12F,z12F,z12F,z12F,z12F,z12F,z12F,z12F,z12F,z12F,z12F,z12F,z12F,z12F,z12F,z12F,z12F,z12F,z12F,z12F,z12F]
abbrev z12_37 : Array Bool := #[z12T,z12T,z12T,z12T,z12T,z12T,z12T,z12T,z12T,z12T,z12T,z12T,z12T,z12T,z12T,z12T,z12T,z12T,z12T,z12T,z12T,z12T,z12T,z12T,z12T,z12T,z12T,z12T,z12T,z12T,z12T,z12T,z12T,z12T,z12T,z12T,z12T,z12F,z12F,z12F,z12F,z12F,z12F,z12F,z12F,z12F,z12F,z12F,z12F,z12F,z12F,z12F,z12F,z12F,z12F,z12F,z12F,z12F,z12F,z12F,z12F,z12F,z12F,z12F]
abbrev z12_38 : Array Bool := #[z12T,z12T,z12T,z12T,z12T,z12T,z12T,z12T,z12T,z12T,z12T,z12T,z12T,z12T,z12T,z12T,z12T,z12T,z12T,z12T,z12T,z12T,z12T,z12T,z12T,z12T,z12T,z12T,z12T,z12T,z12T,z12T,z12T,z12T,z12T,z12T,z12T,z12T,z12F,z12F,z12F,z12F,z12F,z12F,z12F,z12F,z12F,z12F,z12F,z12F,z12F,z12F,z12F,z12F,z12F,z12F,z12F,z12F,z12F,z12F,z12F,z12F,z12F,z12F]
abbrev z12_39 : Array Bool := #[z12T,z12T,z12T,z12T,z12T,z12T,z12T,z12T,z12T,z12T,z12T,z12T,z12T,z12T,z12T,z12T,z12T,z12T,z12T,z12T,z12T,z12T,z12T,z12T,z12T,z12T,z12T,z12T,z12T,z12T,z12T,z12T,z12T,z12T,z12T,z12T,z12T,z12T,z12T,z12F,z12F,z12F,z12F,z12F,z12F,z12F,z12F,z12F,z12F,z12F,z12F,z12F,z12F,z12F,z12F,z12F,z12F,z12F,z12F,z12F,z12F,z12F,z12F,z12F]
abbrev z12_40 : Array Bool := #[z12T,z12T,z12T,z12T,z12T,z12T,z12T,z12T,z12T,z12T,z12T,z12T,z12T,z12T,z12T,z12T,z12T,z12T,z12T,z12T,z12T,z12T,z12T,z12T,z12T,z12T,z12T,z12T,z12T,z12T,z12T,z12T,z12T,z12T,z12T,z12T,z12T,z12T,z12T,z12T,z12F,z12F,z12F,z12F,z12F,z12F,z12F,z12F,z12F,z12F,z12F,z12F,z12F,z12F,z12F,z12F,z12F,z12F,z12F,z12F,z12F,z12F,z12F,z12F]
abbrev z12_41 : Array Bool := #[z12T,z12T,z12T,z12T,z12T,z12T,z12T,z12T,z12T,z12T,z12T,z12T,z12T,z12T,z12T,z12T,z12T,z12T,z12T,z12T,z12T,z12T,z12T,z12T,z12T,z12T,z12T,z12T,z12T,z12T,z12T,z12T,z12T,z12T,z12T,z12T,z12T,z12T,z12T,z12T,z12T,z12F,z12F,z12F,z12F,z12F,z12F,z12F,z12F,z12F,z12F,z12F,z12F,z12F,z12F,z12F,z12F,z12F,z12F,z12F,z12F,z12F,z12F,z12F]
abbrev z12_42 : Array Bool := #[z12T,z12T,z12T,z12T,z12T,z12T,z12T,z12T,z12T,z12T,z12T,z12T,z12T,z12T,z12T,z12T,z12T,z12T,z12T,z12T,z12T,z12T,z12T,z12T,z12T,z12T,z12T,z12T,z12T,z12T,z12T,z12T,z12T,z12T,z12T,z12T,z12T,z12T,z12T,z12T,z12T,z12T,z12F,z12F,z12F,z12F,z12F,z12F,z12F,z12F,z12F,z12F,z12F,z12F,z12F,z12F,z12F,z12F,z12F,z12F,z12F,z12F,z12F,z12F]
abbrev z12_43 : Array Bool := #[z12T,z12T,z12T,z12T,z12T,z12T,z12T,z12T,z12T,z12T,z12T,z12T,z12T,z12T,z12T,z12T,z12T,z12T,z12T,z12T,z12T,z12T,z12T,z12T,z12T,z12T,z12T,z12T,z12T,z12T,z12T,z12T,z12T,z12T,z12T,z12T,z12T,z12T,z12T,z12T,z12T,z12T,z12T,z12F,z12F,z12F,z12F,z12F,z12F,z12F,z12F,z12F,z12F,z12F,z12F,z12F,z12F,z12F,z12F,z12F,z12F,z12F,z12F,z12F]
abbrev z12_44 : Array Bool := #[z12T,z12T,z12T,z12T,z12T,z12T,z12T,z12T,z12T,z12T,z12T,z12T,z12T,z12T,z12T,z12T,z12T,z12T,z12T,z12T,z12T,z12T,z12T,z12T,z12T,z12T,z12T,z12T,z12T,z12T,z12T,z12T,z12T,z12T,z12T,z12T,z12T,z12T,z12T,z12T,z12T,z12T,z12T,z12T,z12F,z12F,z12F,z12F,z12F,z12F,z12F,z12F,z12F,z12F,z12F,z12F,z12F,z12F,z12F,z12F,z12F,z12F,z12F,z12F]
abbrev z12_45 : Array Bool := #[z12T,z12T,z12T,z12T,z12T,z12T,z12T,z12T,z12T,z12T,z12T,z12T,z12T,z12T,z12T,z12T,z12T,z12T,z12T,z12T,z12T,z12T,z12T,z12T,z12T,z12T,z12T,z12T,z12T,z12T,z12T,z12T,z12T,z12T,z12T,z12T,z12T,z12T,z12T,z12T,z12T,z12T,z12T,z12T,z12T,z12F,z12F,z12F,z12F,z12F,z12F,z12F,z12F,z12F,z12F,z12F,z12F,z12F,z12F,z12F,z12F,z12F,z12F,z12F]
abbrev z12_46 : Array Bool := #[z12T,z12T,z12T,z12T,z12T,z12T,z12T,z12T,z12T,z12T,z12T,z12T,z12T,z12T,z12T,z12T,z12T,z12T,z12T,z12T,z12T,z12T,z12T,z12T,z12T,z12T,z12T,z12T,z12T,z12T,z12T,z12T,z12T,z12T,z12T,z12T,z12T,z12T,z12T,z12T,z12T,z12T,z12T,z12T,z12T,z12T,z12F,z12F,z12F,z12F,z12F,z12F,z12F,z12F,z12F,z12F,z12F,z12F,z12F,z12F,z12F,z12F,z12F,z12F]
abbrev z12_47 : Array Bool := #[z12T,z12T,z12T,z12T,z12T,z12T,z12T,z12T,z12T,z12T,z12T,z12T,z12T,z12T,z12T,z12T,z12T,z12T,z12T,z12T,z12T,z12T,z12T,z12T,z12T,z12T,z12T,z12T,z12T,z12T,z12T,z12T,z12T,z12T,z12T,z12T,z12T,z12T,z12T,z12T,z12T,z12T,z12T,z12T,z12T,z12T,z12T,z12F,z12F,z12F,z12F,z12F,z12F,z12F,z12F,z12F,z12F,z12F,z12F,z12F,z12F,z12F,z12F,z12F]
abbrev z12_48 : Array Bool := #[z12T,z12T,z12T,z12T,z12T,z12T,z12T,z12T,z12T,z12T,z12T,z12T,z12T,z12T,z12T,z12T,z12T,z12T,z12T,z12T,z12T,z12T,z12T,z12T,z12T,z12T,z12T,z12T,z12T,z12T,z12T,z12T,z12T,z12T,z12T,z12T,z12T,z12T,z12T,z12T,z12T,z12T,z12T,z12T,z12T,z12T,z12T,z12T,z12F,z12F,z12F,z12F,z12F,z12F,z12F,z12F,z12F,z12F,z12F,z12F,z12F,z12F,z12F,z12F]
abbrev z12_49 : Array Bool := #[z12T,z12T,z12T,z12T,z12T,z12T,z12T,z12T,z12T,z12T,z12T,z12T,z12T,z12T,z12T,z12T,z12T,z12T,z12T,z12T,z12T,z12T,z12T,z12T,z12T,z12T,z12T,z12T,z12T,z12T,z12T,z12T,z12T,z12T,z12T,z12T,z12T,z12T,z12T,z12T,z12T,z12T,z12T,z12T,z12T,z12T,z12T,z12T,z12T,z12F,z12F,z12F,z12F,z12F,z12F,z12F,z12F,z12F,z12F,z12F,z12F,z12F,z12F,z12F]
abbrev z12_50 : Array Bool := #[z12T,z12T,z12T,z12T,z12T,z12T,z12T,z12T,z12T,z12T,z12T,z12T,z12T,z12T,z12T,z12T,z12T,z12T,z12T,z12T,z12T,z12T,z12T,z12T,z12T,z12T,z12T,z12T,z12T,z12T,z12T,z12T,z12T,z12T,z12T,z12T,z12T,z12T,z12T,z12T,z12T,z12T,z12T,z12T,z12T,z12T,z12T,z12T,z12T,z12T,z12F,z12F,z12F,z12F,z12F,z12F,z12F,z12F,z12F,z12F,z12F,z12F,z12F,z12F]
abbrev z12_51 : Array Bool := #[z12T,z12T,z12T,z12T,z12T,z12T,z12T,z12T,z12T,z12T,z12T,z12T,z12T,z12T,z12T,z12T,z12T,z12T,z12T,z12T,z12T,z12T,z12T,z12T,z12T,z12T,z12T,z12T,z12T,z12T,z12T,z12T,z12T,z12T,z12T,z12T,z12T,z12T,z12T,z12T,z12T,z12T,z12T,z12T,z12T,z12T,z12T,z12T,z12T,z12T,z12T,z12F,z12F,z12F,z12F,z12F,z12F,z12F,z12F,z12F,z12F,z12F,z12F,z12F]
abbrev z12_52 : Array Bool := #[z12T,z12T,z12T,z12T,z12T,z12T,z12T,z12T,z12T,z12T,z12T,z12T,z12T,z12T,z12T,z12T,z12T,z12T,z12T,z12T,z12T,z12T,z12T,z12T,z12T,z12T,z12T,z12T,z12T,z12T,z12T,z12T,z12T,z12T,z12T,z12T,z12T,z12T,z12T,z12T,z12T,z12T,z12T,z12T,z12T,z12T,z12T,z12T,z12T,z12T,z12T,z12T,z12F,z12F,z12F,z12F,z12F,z12F,z12F,z12F,z12F,z12F,z12F,z12F]
abbrev z12_53 : Array Bool := #[z12T,z12T,z12T,z12T,z12T,z12T,z12T,z12T,z12T,z12T,z12T,z12T,z12T,z12T,z12T,z12T,z12T,z12T,z12T,z12T,z12T,z12T,z12T,z12T,z12T,z12T,z12T,z12T,z12T,z12T,z12T,z12T,z12T,z12T,z12T,z12T,z12T,z12T,z12T,z12T,z12T,z12T,z12T,z12T,z12T,z12T,z12T,z12T,z12T,z12T,z12T,z12T,z12T,z12F,z12F,z12F,z12F,z12F,z12F,z12F,z12F,z12F,z12F,z12F]
abbrev z12_54 : Array Bool := #[z12T,z12T,z12T,z12T,z12T,z12T,z12T,z12T,z12T,z12T,z12T,z12T,z12T,z12T,z12T,z12T,z12T,z12T,z12T,z12T,z12T,z12T,z12T,z12T,z12T,z12T,z12T,z12T,z12T,z12T,z12T,z12T,z12T,z12T,z12T,z12T,z12T,z12T,z12T,z12T,z12T,z12T,z12T,z12T,z12T,z12T,z12T,z12T,z12T,z12T,z12T,z12T,z12T,z12T,z12F,z12F,z12F,z12F,z12F,z12F,z12F,z12F,z12F,z12F]
abbrev z12_55 : Array Bool := #[z12T,z12T,z12T,z12T,z12T,z12T,z12T,z12T,z12T,z12T,z12T,z12T,z12T,z12T,z12T,z12T,z12T,z12T,z12T,z12T,z12T,z12T,z12T,z12T,z12T,z12T,z12T,z12T,z12T,z12T,z12T,z12T,z12T,z12T,z12T,z12T,z12T,z12T,z12T,z12T,z12T,z12T,z12T,z12T,z12T,z12T,z12T,z12T,z12T,z12T,z12T,z12T,z12T,z12T,z12T,z12F,z12F,z12F,z12F,z12F,z12F,z12F,z12F,z12F]
abbrev z12_56 : Array Bool := #[z12T,z12T,z12T,z12T,z12T,z12T,z12T,z12T,z12T,z12T,z12T,z12T,z12T,z12T,z12T,z12T,z12T,z12T,z12T,z12T,z12T,z12T,z12T,z12T,z12T,z12T,z12T,z12T,z12T,z12T,z12T,z12T,z12T,z12T,z12T,z12T,z12T,z12T,z12T,z12T,z12T,z12T,z12T,z12T,z12T,z12T,z12T,z12T,z12T,z12T,z12T,z12T,z12T,z12T,z12T,z12T,z12F,z12F,z12F,z12F,z12F,z12F,z12F,z12F]
abbrev z12_57 : Array Bool := #[z12T,z12T,z12T,z12T,z12T,z12T,z12T,z12T,z12T,z12T,z12T,z12T,z12T,z12T,z12T,z12T,z12T,z12T,z12T,z12T,z12T,z12T,z12T,z12T,z12T,z12T,z12T,z12T,z12T,z12T,z12T,z12T,z12T,z12T,z12T,z12T,z12T,z12T,z12T,z12T,z12T,z12T,z12T,z12T,z12T,z12T,z12T,z12T,z12T,z12T,z12T,z12T,z12T,z12T,z12T,z12T,z12T,z12F,z12F,z12F,z12F,z12F,z12F,z12F]
abbrev z12_58 : Array Bool := #[z12T,z12T,z12T,z12T,z12T,z12T,z12T,z12T,z12T,z12T,z12T,z12T,z12T,z12T,z12T,z12T,z12T,z12T,z12T,z12T,z12T,z12T,z12T,z12T,z12T,z12T,z12T,z12T,z12T,z12T,z12T,z12T,z12T,z12T,z12T,z12T,z12T,z12T,z12T,z12T,z12T,z12T,z12T,z12T,z12T,z12T,z12T,z12T,z12T,z12T,z12T,z12T,z12T,z12T,z12T,z12T,z12T,z12T,z12F,z12F,z12F,z12F,z12F,z12F]
abbrev z12_59 : Array Bool := #[z12T,z12T,z12T,z12T,z12T,z12T,z12T,z12T,z12T,z12T,z12T,z12T,z12T,z12T,z12T,z12T,z12T,z12T,z12T,z12T,z12T,z12T,z12T,z12T,z12T,z12T,z12T,z12T,z12T,z12T,z12T,z12T,z12T,z12T,z12T,z12T,z12T,z12T,z12T,z12T,z12T,z12T,z12T,z12T,z12T,z12T,z12T,z12T,z12T,z12T,z12T,z12T,z12T,z12T,z12T,z12T,z12T,z12T,z12T,z12F,z12F,z12F,z12F,z12F]
abbrev z12_60 : Array Bool := #[z12T,z12T,z12T,z12T,z12T,z12T,z12T,z12T,z12T,z12T,z12T,z12T,z12T,z12T,z12T,z12T,z12T,z12T,z12T,z12T,z12T,z12T,z12T,z12T,z12T,z12T,z12T,z12T,z12T,z12T,z12T,z12T,z12T,z12T,z12T,z12T,z12T,z12T,z12T,z12T,z12T,z12T,z12T,z12T,z12T,z12T,z12T,z12T,z12T,z12T,z12T,z12T,z12T,z12T,z12T,z12T,z12T,z12T,z12T,z12T,z12F,z12F,z12F,z12F]
abbrev z12_61 : Array Bool := #[z12T,z12T,z12T,z12T,z12T,z12T,z12T,z12T,z12T,z12T,z12T,z12T,z12T,z12T,z12T,z12T,z12T,z12T,z12T,z12T,z12T,z12T,z12T,z12T,z12T,z12T,z12T,z12T,z12T,z12T,z12T,z12T,z12T,z12T,z12T,z12T,z12T,z12T,z12T,z12T,z12T,z12T,z12T,z12T,z12T,z12T,z12T,z12T,z12T,z12T,z12T,z12T,z12T,z12T,z12T,z12T,z12T,z12T,z12T,z12T,z12T,z12F,z12F,z12F]
abbrev z12_62 : Array Bool := #[z12T,z12T,z12T,z12T,z12T,z12T,z12T,z12T,z12T,z12T,z12T,z12T,z12T,z12T,z12T,z12T,z12T,z12T,z12T,z12T,z12T,z12T,z12T,z12T,z12T,z12T,z12T,z12T,z12T,z12T,z12T,z12T,z12T,z12T,z12T,z12T,z12T,z12T,z12T,z12T,z12T,z12T,z12T,z12T,z12T,z12T,z12T,z12T,z12T,z12T,z12T,z12T,z12T,z12T,z12T,z12T,z12T,z12T,z12T,z12T,z12T,z12T,z12F,z12F]
abbrev z12_63 : Array Bool := #[z12T,z12T,z12T,z12T,z12T,z12T,z12T,z12T,z12T,z12T,z12T,z12T,z12T,z12T,z12T,z12T,z12T,z12T,z12T,z12T,z12T,z12T,z12T,z12T,z12T,z12T,z12T,z12T,z12T,z12T,z12T,z12T,z12T,z12T,z12T,z12T,z12T,z12T,z12T,z12T,z12T,z12T,z12T,z12T,z12T,z12T,z12T,z12T,z12T,z12T,z12T,z12T,z12T,z12T,z12T,z12T,z12T,z12T,z12T,z12T,z12T,z12T,z12T,z12F]
abbrev z12_64 : Array Bool := #[z12T,z12T,z12T,z12T,z12T,z12T,z12T,z12T,z12T,z12T,z12T,z12T,z12T,z12T,z12T,z12T,z12T,z12T,z12T,z12T,z12T,z12T,z12T,z12T,z12T,z12T,z12T,z12T,z12T,z12T,z12T,z12T,z12T,z12T,z12T,z12T,z12T,z12T,z12T,z12T,z12T,z12T,z12T,z12T,z12T,z12T,z12T,z12T,z12T,z12T,z12T,z12T,z12T,z12T,z12T,z12T,z12T,z12T,z12T,z12T,z12T,z12T,z12T,z12T]
abbrev z12_65 : Array Bool := #[z12T,z12T,z12T,z12T,z12T,z12T,z12T,z12T,z12T,z12T,z12T,z12T,z12T,z12T,z12T,z12T,z12T,z12T,z12T,z12T,z12T,z12T,z12T,z12T,z12T,z12T,z12T,z12T,z12T,z12T,z12T,z12T,z12T,z12T,z12T,z12T,z12F,z12T,z12F,z12F,z12F,z12F,z12F,z12F,z12F,z12F,z12F,z12F,z12F,z12F,z12F,z12F,z12F,z12F,z12F,z12F,z12F,z12F,z12F,z12F,z12F,z12F,z12F,z12F]
abbrev z12_66 : Array Bool := #[z12T,z12T,z12T,z12T,z12T,z12T,z12T,z12T,z12T,z12T,z12T,z12T,z12T,z12T,z12T,z12T,z12T,z12T,z12T,z12T,z12T,z12T,z12T,z12T,z12T,z12T,z12T,z12T,z12T,z12T,z12T,z12T,z12T,z12T,z12T,z12T,z12T,z12T,z12T,z12T,z12T,z12T,z12T,z12T,z12T,z12T,z12F,z12T,z12F,z12F,z12F,z12F,z12F,z12F,z12F,z12F,z12F,z12F,z12F,z12F,z12F,z12F,z12F,z12F]
abbrev z12_67 : Array Bool := #[z12T,z12T,z12T,z12T,z12T,z12T,z12T,z12T,z12T,z12T,z12T,z12T,z12T,z12T,z12T,z12T,z12T,z12T,z12T,z12T,z12T,z12T,z12T,z12T,z12T,z12T,z12T,z12T,z12T,z12T,z12T,z12T,z12T,z12T,z12T,z12T,z12T,z12T,z12T,z12T,z12T,z12T,z12T,z12T,z12T,z12T,z12T,z12T,z12T,z12T,z12T,z12T,z12T,z12T,z12T,z12T,z12F,z12T,z12F,z12F,z12F,z12F,z12F,z12F]
abbrev z12_68 : Array Bool := #[z12T,z12T,z12T,z12T,z12T,z12T,z12T,z12T,z12T,z12T,z12T,z12T,z12T,z12T,z12T,z12T,z12T,z12F,z12F,z12F,z12F,z12F,z12F,z12F,z12F,z12F,z12F,z12F,z12F,z12F,z12F,z12F,z12F,z12F,z12F,z12F,z12F,z12F,z12F,z12F,z12F,z12F,z12F,z12F,z12F,z12F,z12F,z12F,z12F,z12F,z12F,z12F,z12F,z12F,z12F,z12F,z12F,z12F,z12F,z12F,z12F,z12F,z12F,z12F]
abbrev z12_69 : Array Bool := #[z12T,z12T,z12T,z12T,z12T,z12T,z12T,z12T,z12T,z12F,z12F,z12F,z12F,z12F,z12F,z12F,z12F,z12F,z12F,z12F,z12F,z12F,z12F,z12F,z12F,z12F,z12F,z12F,z12F,z12F,z12F,z12F,z12F,z12F,z12F,z12F,z12F,z12F,z12F,z12F,z12F,z12F,z12F,z12F,z12F,z12F,z12F,z12F,z12F,z12F,z12F,z12F,z12F,z12F,z12F,z12F,z12F,z12F,z12F,z12F,z12F,z12F,z12F,z12F]
abbrev z12_70 : Array Bool := #[z12T,z12T,z12T,z12T,z12T,z12T,z12T,z12T,z12T,z12T,z12F,z12F,z12F,z12F,z12F,z12F,z12F,z12F,z12F,z12F,z12F,z12F,z12F,z12F,z12F,z12F,z12F,z12F,z12F,z12F,z12F,z12F,z12F,z12F,z12F,z12F,z12F,z12F,z12F,z12F,z12F,z12F,z12F,z12F,z12F,z12F,z12F,z12F,z12F,z12F,z12F,z12F,z12F,z12F,z12F,z12F,z12F,z12F,z12F,z12F,z12F,z12F,z12F,z12F]
set_option maxHeartbeats 8000000 in
set_option maxRecDepth 100000 in
theorem spec_RoadsOk.calls (k : Nat) (a0 : Int) (A1 : Option Addr) (c1 : Nat) (l1 : List (S38)) (r : Bool) (w : World) (hr1 : Kd.C k38 w A1 l1.length l1) (hc1 : l1.length ≤ c1) (h : spec_RoadsOk.f k a0 l1 = some r) :
   Calls Try.prog 33 #[.int .i64 a0,.slice A1 l1.length c1] w fun e w' => e = .returned (.bool r) ∧ Below w.heap.size w w' := by
  have hu38 := Try.underlying38
  have HR1 := zA hr1
  have HC1 := zA hc1
  clear hr1 hc1
  have HB := zA (Below.refl w.heap.size w)
  have H : ((spec_l01In.f a0 1 6).bind fun t126 => (if t126 = true then (spec_RoadsOk.j0 k a0 l1 (decide ((l1.length : Int) > 12))) else (spec_RoadsOk.j0 k a0 l1 true))) = some r := h
  clear h
  have HC3 := zA H
  clear H
  go_enter Try.func33,Try.ntmps33
  go_upto_region 1 with (fail)
  go_cut [14] (fun v14 wc => ∃ (kq : Nat) (x14_2 : Bool),v14 = .bool x14_2 ∧ Aside0 (spec_RoadsOk.j0 kq a0 l1 x14_2 = some r) ∧ Aside0 (kq ≤ k) ∧ Aside0 (Below w.heap.size w wc))
  case first =>
   have H := HC3.out
   clear HC3
   replace H := Option.bind_eq_some_iff.mp H
   obtain ⟨t126,A40,H⟩ := H
   replace H : (if t126 = true then (spec_RoadsOk.j0 k a0 l1 (decide ((l1.length : Int) > 12))) else (spec_RoadsOk.j0 k a0 l1 true)) = some r := H
   have A4 := zA A40
   clear A40
   by_cases c5 : t126 = true
   ·
    subst c5
    have H1 : (spec_RoadsOk.j0 k a0 l1 (decide ((l1.length : Int) > 12))) = some r := by rw [if_pos rfl] at H; exact H
    clear H; have H := H1; clear H1
    have H' := zA H
    clear H
    go_wp2_with (first | ((with_reducible refine gate_callee (f := 34) rfl ?_); refine goesL_ (some 8) rfl rfl Try.func34 (by kernel_rfl) rfl #[.int .i64 a0,.int .i64 1,.int .i64 6] rfl (by (try simp only [List.map_toArray,List.map_cons,List.map_nil]); first | done|rfl|(simp only [List.length_drop,List.length_take]; rfl)) ?_; (with_reducible refine (spec_l01In.calls a0 1 6 true _ A4.out).mono ?_); rintro e w' ⟨rfl,⟨nd,rfl⟩⟩; refine ⟨_,rfl,?_⟩))
    go_meet
    case rel => exact ⟨_,(decide ((l1.length : Int) > 12)),(by first|rfl|(simp; done)|(simp [*]; done)),H',⟨by first|omega|exact Nat.le_refl _⟩,⟨by repeat (first|(with_reducible first|exact HB.out|apply zC|apply zE|apply zD)|exact HB.out)⟩⟩
   ·
    replace c5 := Bool.eq_false_iff.mpr c5
    subst c5
    have H1 : (spec_RoadsOk.j0 k a0 l1 true) = some r := by rw [if_neg (show ¬ (false = true) by decide)] at H; exact H
    clear H; have H := H1; clear H1
    have H' := zA H
    clear H
    go_wp2_with (first | ((with_reducible refine gate_callee (f := 34) rfl ?_); refine goesL_ (some 8) rfl rfl Try.func34 (by kernel_rfl) rfl #[.int .i64 a0,.int .i64 1,.int .i64 6] rfl (by (try simp only [List.map_toArray,List.map_cons,List.map_nil]); first | done|rfl|(simp only [List.length_drop,List.length_take]; rfl)) ?_; (with_reducible refine (spec_l01In.calls a0 1 6 false _ A4.out).mono ?_); rintro e w' ⟨rfl,⟨nd,rfl⟩⟩; refine ⟨_,rfl,?_⟩))
    go_meet
    case rel => exact ⟨_,(true),(by first|rfl|(simp; done)|(simp [*]; done)),H',⟨by first|omega|exact Nat.le_refl _⟩,⟨by repeat (first|(with_reducible first|exact HB.out|apply zC|apply zE|apply zD)|exact HB.out)⟩⟩
  case rest =>
   clear HC3; try clear c1; try clear p2; try clear c3; try clear c5
   obtain ⟨kq,x14_2,rfl,HA,HJ2,HB⟩ := hcut
   cases kq with
   | zero => exact absurd HA.out (by simp [spec_RoadsOk.j0])
   | succ kj2 =>
    have H := HA.out
    clear HA
    simp only [spec_RoadsOk.j0] at H
    by_cases c6 : x14_2 = true
    ·
     subst c6
     have H1 : (some false) = some r := by rw [if_pos rfl] at H; exact H
     clear H; have H := H1; clear H1
     obtain rfl := Option.some.inj H
     go_wp2
     go_ret
     exact ⟨by first|rfl|(simp [errW_none,errW_some] <;> rfl)|(simp [*,errW_none,errW_some] <;> rfl),by repeat (first|(with_reducible first|exact HB.out|apply zC|apply zE|apply zD)|exact HB.out)⟩
    ·
     replace c6 := Bool.eq_false_iff.mpr c6
     subst c6
     have H1 : (spec_RoadsOk.l0 kj2 a0 l1 0) = some r := by rw [if_neg (show ¬ (false = true) by decide)] at H; exact H
     clear H; have H := H1; clear H1
     have H' := zA H
     clear H; go_wp2
     go_loopg [5] kj2 (fun kq v5 w' => ∃ (x5_2 : Int),v5 = .int .i64 x5_2 ∧ Aside0 (spec_RoadsOk.l0 kq a0 l1 x5_2 = some r) ∧ Aside0 (kq ≤ kj2) ∧ Aside0 (Below w.heap.size w w'))
     case atStart => exact ⟨(0),(by first|rfl|(simp; done)|(simp [*]; done)),H',⟨Nat.le_refl _⟩,⟨by repeat (first|(with_reducible first|exact HB.out|apply zC|apply zE|apply zD)|exact HB.out)⟩⟩
     case round =>
      clear H'; try clear c1; try clear p2; try clear c3; try clear c5; try clear c6; try clear p2
      obtain ⟨x5_2,rfl,HA,HK2,HB⟩ := hrel
      cases gk with
      | zero => exact absurd HA.out (by simp [spec_RoadsOk.l0])
      | succ k2 =>
       have H := HA.out
       clear HA
       simp only [spec_RoadsOk.l0] at H
       by_cases c7 : x5_2 < (l1.length : Int)
       ·
        rw [if_pos c7] at H
        have c7b0 : decide (x5_2 < (l1.length : Int)) = true := decide_eq_true c7
        clear c7
        by_cases c8 : 0 ≤ x5_2
        ·
         rw [if_pos c8] at H
         have c8b0 : decide (0 ≤ x5_2) = true := decide_eq_true c8
         clear c8
         have HC9 := zA H
         clear H
         have p127 : 0 ≤ (x5_2 : Int) := of_decide_eq_true (by first|(with_reducible assumption) | assumption)
         have q127 : x5_2 < (l1.length : Int) := of_decide_eq_true (by first|(with_reducible assumption) | assumption)
         obtain ⟨ad127,e127,hx127_0,hx127_1,hx127_2⟩ := at_T38 HR1.out x5_2 p127 q127
         cases e127
         replace hx127_0 := (HB.out.cell (World.block_lt_of_cell? w _ hx127_0)).trans hx127_0
         replace hx127_1 := (HB.out.cell (World.block_lt_of_cell? w _ hx127_1)).trans hx127_1
         replace hx127_2 := (HB.out.cell (World.block_lt_of_cell? w _ hx127_2)).trans hx127_2
         replace p127 := eq_true p127
         replace q127 := eq_true q127
         go_upto_region 7 with (first | ((with_reducible refine gate_dst (N := 6) rfl ?_); (try (refine gate_guard (by rfl) ?_; dsimp only)); refine box_event ?hg (N := 6) ?hd (cs := #[.int .i64 0,.int .i64 0,.int .i64 0]) (t := 38) ?hr ?_; (case hd => rfl); (case hg => rfl); (case hr => first | (go_simp; done) | (go_simp; rfl)); intro gb128 hg w10 hbox hb; have n0_ := zA (below_step (by repeat (first|(with_reducible first|exact HB.out|apply zC|apply zE|apply zD)|exact HB.out)) hb); have n1_ := zA (hbox); have n2_ := zA ((by rw [hg]; exact (below_size (by repeat (first|(with_reducible first|exact HB.out|apply zC|apply zE|apply zD)|exact HB.out))) : w.heap.size ≤ gb128)); have n3_ := zA ((by rw [hg]; exact (below_size (by repeat (first|(with_reducible first|exact HB.out|apply zC|apply zE|apply zD)|exact HB.out))) : w.heap.size ≤ gb128)); clear HB; have HB := n0_; have BK128 := n1_; have GW128 := n2_; have GE128 := n3_; clear n0_ n1_ n2_ n3_ hb hbox hg; have hcz11_0 : w10.cell? ⟨gb128,0,none⟩ = some (.int .i64 0) := (zI BK128.out 0).trans rfl; have hcz11_1 : w10.cell? ⟨gb128,1,none⟩ = some (.int .i64 0) := (zI BK128.out 1).trans rfl; have hcz11_2 : w10.cell? ⟨gb128,2,none⟩ = some (.int .i64 0) := (zI BK128.out 2).trans rfl; have hfz11_0 := blk_frozen BK128.out 0; have hfz11_1 := blk_frozen BK128.out 1; have hfz11_2 := blk_frozen BK128.out 2))
         (try simp only [Act.put,List.setIfInBounds_toArray,List.set_cons_zero,List.set_cons_succ])
         go_cut [88] (fun v88 wc => ∃ (kq : Nat) (x88_8 : Bool),v88 = .bool x88_8 ∧ Aside0 (spec_RoadsOk.j2 kq a0 l1 x5_2 x88_8 = some r) ∧ Aside0 (kq ≤ k2) ∧ Aside0 (wc.heap[gb128]? = some (.cells #[.int .i64 ((rd_T38 l1 x5_2).f0),.int .i64 ((rd_T38 l1 x5_2).f1),.int .i64 ((rd_T38 l1 x5_2).f2)] 38 (0,0))) ∧ Aside0 (Below w.heap.size w wc))
         case first =>
          have H := HC9.out
          clear HC9
          replace H := Option.bind_eq_some_iff.mp H
          obtain ⟨t129,A120,H⟩ := H
          replace H : (if t129 = true then ((spec_l01In.f ((rd_T38 l1 x5_2).f1) 0 (wrap64 (a0 - 1))).bind fun t130 => (if t130 = true then (if ((rd_T38 l1 x5_2).f0) ≥ ((rd_T38 l1 x5_2).f1) then (spec_RoadsOk.j2 k2 a0 l1 x5_2 true) else ((spec_l01In.f ((rd_T38 l1 x5_2).f2) 1 100).bind fun t131 => (if t131 = true then (if x5_2 > 0 then (if 0 ≤ (wrap64 (x5_2 - 1)) then (if (wrap64 (x5_2 - 1)) < (l1.length : Int) then (if ((rd_T38 l1 (wrap64 (x5_2 - 1))).f0) > ((rd_T38 l1 x5_2).f0) then (spec_RoadsOk.j2 k2 a0 l1 x5_2 true) else (if ((rd_T38 l1 (wrap64 (x5_2 - 1))).f0) = ((rd_T38 l1 x5_2).f0) then (spec_RoadsOk.j2 k2 a0 l1 x5_2 (decide (((rd_T38 l1 (wrap64 (x5_2 - 1))).f1) ≥ ((rd_T38 l1 x5_2).f1)))) else (spec_RoadsOk.j2 k2 a0 l1 x5_2 false))) else (none)) else (none)) else (spec_RoadsOk.j2 k2 a0 l1 x5_2 false)) else (spec_RoadsOk.j2 k2 a0 l1 x5_2 true)))) else (spec_RoadsOk.j2 k2 a0 l1 x5_2 true))) else (spec_RoadsOk.j2 k2 a0 l1 x5_2 true)) = some r := H
          have A12 := zA A120
          clear A120
          by_cases c13 : t129 = true
          ·
           subst c13
           have H1 : ((spec_l01In.f ((rd_T38 l1 x5_2).f1) 0 (wrap64 (a0 - 1))).bind fun t130 => (if t130 = true then (if ((rd_T38 l1 x5_2).f0) ≥ ((rd_T38 l1 x5_2).f1) then (spec_RoadsOk.j2 k2 a0 l1 x5_2 true) else ((spec_l01In.f ((rd_T38 l1 x5_2).f2) 1 100).bind fun t131 => (if t131 = true then (if x5_2 > 0 then (if 0 ≤ (wrap64 (x5_2 - 1)) then (if (wrap64 (x5_2 - 1)) < (l1.length : Int) then (if ((rd_T38 l1 (wrap64 (x5_2 - 1))).f0) > ((rd_T38 l1 x5_2).f0) then (spec_RoadsOk.j2 k2 a0 l1 x5_2 true) else (if ((rd_T38 l1 (wrap64 (x5_2 - 1))).f0) = ((rd_T38 l1 x5_2).f0) then (spec_RoadsOk.j2 k2 a0 l1 x5_2 (decide (((rd_T38 l1 (wrap64 (x5_2 - 1))).f1) ≥ ((rd_T38 l1 x5_2).f1)))) else (spec_RoadsOk.j2 k2 a0 l1 x5_2 false))) else (none)) else (none)) else (spec_RoadsOk.j2 k2 a0 l1 x5_2 false)) else (spec_RoadsOk.j2 k2 a0 l1 x5_2 true)))) else (spec_RoadsOk.j2 k2 a0 l1 x5_2 true))) = some r := by rw [if_pos rfl] at H; exact H
           clear H; have H := H1; clear H1
           replace H := Option.bind_eq_some_iff.mp H
           obtain ⟨t130,A140,H⟩ := H
           replace H : (if t130 = true then (if ((rd_T38 l1 x5_2).f0) ≥ ((rd_T38 l1 x5_2).f1) then (spec_RoadsOk.j2 k2 a0 l1 x5_2 true) else ((spec_l01In.f ((rd_T38 l1 x5_2).f2) 1 100).bind fun t131 => (if t131 = true then (if x5_2 > 0 then (if 0 ≤ (wrap64 (x5_2 - 1)) then (if (wrap64 (x5_2 - 1)) < (l1.length : Int) then (if ((rd_T38 l1 (wrap64 (x5_2 - 1))).f0) > ((rd_T38 l1 x5_2).f0) then (spec_RoadsOk.j2 k2 a0 l1 x5_2 true) else (if ((rd_T38 l1 (wrap64 (x5_2 - 1))).f0) = ((rd_T38 l1 x5_2).f0) then (spec_RoadsOk.j2 k2 a0 l1 x5_2 (decide (((rd_T38 l1 (wrap64 (x5_2 - 1))).f1) ≥ ((rd_T38 l1 x5_2).f1)))) else (spec_RoadsOk.j2 k2 a0 l1 x5_2 false))) else (none)) else (none)) else (spec_RoadsOk.j2 k2 a0 l1 x5_2 false)) else (spec_RoadsOk.j2 k2 a0 l1 x5_2 true)))) else (spec_RoadsOk.j2 k2 a0 l1 x5_2 true)) = some r := H
           have A14 := zA A140
           clear A140
           by_cases c15 : t130 = true
           ·
            subst c15
            have H1 : (if ((rd_T38 l1 x5_2).f0) ≥ ((rd_T38 l1 x5_2).f1) then (spec_RoadsOk.j2 k2 a0 l1 x5_2 true) else ((spec_l01In.f ((rd_T38 l1 x5_2).f2) 1 100).bind fun t131 => (if t131 = true then (if x5_2 > 0 then (if 0 ≤ (wrap64 (x5_2 - 1)) then (if (wrap64 (x5_2 - 1)) < (l1.length : Int) then (if ((rd_T38 l1 (wrap64 (x5_2 - 1))).f0) > ((rd_T38 l1 x5_2).f0) then (spec_RoadsOk.j2 k2 a0 l1 x5_2 true) else (if ((rd_T38 l1 (wrap64 (x5_2 - 1))).f0) = ((rd_T38 l1 x5_2).f0) then (spec_RoadsOk.j2 k2 a0 l1 x5_2 (decide (((rd_T38 l1 (wrap64 (x5_2 - 1))).f1) ≥ ((rd_T38 l1 x5_2).f1)))) else (spec_RoadsOk.j2 k2 a0 l1 x5_2 false))) else (none)) else (none)) else (spec_RoadsOk.j2 k2 a0 l1 x5_2 false)) else (spec_RoadsOk.j2 k2 a0 l1 x5_2 true)))) = some r := by rw [if_pos rfl] at H; exact H
            clear H; have H := H1; clear H1
            by_cases c16 : ((rd_T38 l1 x5_2).f0) ≥ ((rd_T38 l1 x5_2).f1)
            ·
             rw [if_pos c16] at H
             have c16b0 : decide (((rd_T38 l1 x5_2).f1) ≤ ((rd_T38 l1 x5_2).f0)) = true := decide_eq_true c16
             clear c16
             (first | rw [c16b0]|(simp only [i64_w,i32_w]; rw [c16b0])|skip)
             have H' := zA H
             clear H
             try go_wp2
             have n0_ : Aside0 ((((w10.setCell ⟨gb128,0,none⟩ (.int .i64 ((rd_T38 l1 x5_2).f0))).setCell ⟨gb128,1,none⟩ (.int .i64 ((rd_T38 l1 x5_2).f1))).setCell ⟨gb128,2,none⟩ (.int .i64 ((rd_T38 l1 x5_2).f2))).heap[gb128]? = some (.cells #[.int .i64 ((rd_T38 l1 x5_2).f0),.int .i64 ((rd_T38 l1 x5_2).f1),.int .i64 ((rd_T38 l1 x5_2).f2)] 38 (0,0))) := ⟨by (with_reducible repeat (first|refine zF ?_ _|refine zH ?_|refine zG ?_ _)); refine blk_put (cs := #[.int .i64 ((rd_T38 l1 x5_2).f0),.int .i64 ((rd_T38 l1 x5_2).f1),.int .i64 0]) ?_ 2 _ rfl; (with_reducible repeat (first|refine zF ?_ _|refine zH ?_|refine zG ?_ _)); refine blk_put (cs := #[.int .i64 ((rd_T38 l1 x5_2).f0),.int .i64 0,.int .i64 0]) ?_ 1 _ rfl; (with_reducible repeat (first|refine zF ?_ _|refine zH ?_|refine zG ?_ _)); refine blk_put (cs := #[.int .i64 0,.int .i64 0,.int .i64 0]) ?_ 0 _ rfl; (with_reducible repeat (first|refine zF ?_ _|refine zH ?_|refine zG ?_ _)); exact BK128.out⟩
             have n1_ : Aside0 (Below w.heap.size w (((w10.setCell ⟨gb128,0,none⟩ (.int .i64 ((rd_T38 l1 x5_2).f0))).setCell ⟨gb128,1,none⟩ (.int .i64 ((rd_T38 l1 x5_2).f1))).setCell ⟨gb128,2,none⟩ (.int .i64 ((rd_T38 l1 x5_2).f2)))) := ⟨by repeat (first|(with_reducible first|exact HB.out|apply zC|apply zE|apply zD|refine zB ?_ GE128.out)|exact HB.out)⟩
             (try clear BK128)
             (try clear HB)
             generalize (((w10.setCell ⟨gb128,0,none⟩ (.int .i64 ((rd_T38 l1 x5_2).f0))).setCell ⟨gb128,1,none⟩ (.int .i64 ((rd_T38 l1 x5_2).f1))).setCell ⟨gb128,2,none⟩ (.int .i64 ((rd_T38 l1 x5_2).f2))) = w17 at n0_ n1_ ⊢
             have BK128 := n0_
             have HB := n1_
             clear n0_ n1_
             have n0_ := zA (zH BK128.out)
             have n1_ := zA (zD HB.out)
             clear BK128 HB
             have BK128 := n0_
             have HB := n1_
             clear n0_ n1_
             refine start_ (n := 64) (S := fun w' => w'.cell? ⟨gb128,0,none⟩ = some (.int .i64 ((rd_T38 l1 x5_2).f0)) ∧ w'.cell? ⟨gb128,1,none⟩ = some (.int .i64 ((rd_T38 l1 x5_2).f1)) ∧ w'.cell? ⟨gb128,2,none⟩ = some (.int .i64 ((rd_T38 l1 x5_2).f2))) (ds := []) z12_0 (by kernel_rfl) rfl rfl ⟨(zI BK128.out 0).trans rfl,(zI BK128.out 1).trans rfl,(zI BK128.out 2).trans rfl⟩ (fun hHeld => ?_); refine with_tabW spec_RoadsOk.tab7 spec_RoadsOk.bits7 (fun HT_ HW_ => ?_)
             generalize w17.drew = w18 at BK128 HB hHeld ⊢
             refine pure_ (i := 0) (N := some 25) (v := ?_) (a' := ?_) z12_1 rfl rfl (any_of HT_.out (by kernel_rfl)) (fun _ _ _ h => h) (Or.inl ⟨by rfl,?_⟩) ?_ ?_; rotate_left
             · intro w'; go_simp; with_reducible rfl
             rotate_left
             · simp only [Act.put,List.setIfInBounds_toArray,List.set_cons_zero,List.set_cons_succ,i64_w,i32_w]; rfl
             refine pure_ (i := 2) (N := some 27) (v := ?_) (a' := ?_) z12_2 rfl rfl (any_of HT_.out (by kernel_rfl)) (fun _ _ _ h => h) (Or.inl ⟨by rfl,?_⟩) ?_ ?_; rotate_left
             · intro w'; go_simp; with_reducible rfl
             rotate_left
             · simp only [Act.put,List.setIfInBounds_toArray,List.set_cons_zero,List.set_cons_succ,i64_w,i32_w]; rfl
             refine pure_ (i := 3) (N := some 28) (v := ?_) (a' := ?_) z12_3 rfl rfl (any_of HT_.out (by kernel_rfl)) (fun _ _ _ h => h) (Or.inl ⟨by rfl,?_⟩) ?_ ?_; rotate_left
             · intro w'; go_simp; with_reducible rfl
             rotate_left
             · simp only [Act.put,List.setIfInBounds_toArray,List.set_cons_zero,List.set_cons_succ,i64_w,i32_w]; rfl
             refine take_ (i := 1) (N := some 26) (v := ?_) (a' := ?_) z12_4 rfl rfl (take_ofW HT_.out HW_.out (by kernel_rfl)) (fun _ _ _ h => h) (Or.inl ⟨by rfl,?_⟩) hHeld ?_ ?_; rotate_left
             ·
              rintro w' ⟨s0,s1,s2⟩
              go_simp; with_reducible rfl
             rotate_left
             · simp only [Act.put,List.setIfInBounds_toArray,List.set_cons_zero,List.set_cons_succ,i64_w,i32_w]; rfl
             refine one_ (i := 4) (N := some 29) z12_5 rfl rfl (one_of HT_.out (by kernel_rfl)) (by decide) (fun K hK => ?_)
             refine goes_ Try.func34 (by kernel_rfl) rfl #[.int .i64 ((rd_T38 l1 x5_2).f0),.int .i64 0,.int .i64 (wrap64 (a0 - 1))] (by rfl) rfl rfl (by (try simp only [List.map_toArray,List.map_cons,List.map_nil]); first | done|rfl|(simp only [List.length_drop,List.length_take]; rfl)) ?_
             with_reducible refine (spec_l01In.calls ((rd_T38 l1 x5_2).f0) 0 (wrap64 (a0 - 1)) true _ A12.out).mono ?_
             rintro e w' ⟨rfl,⟨nd,rfl⟩⟩
             refine ⟨_,rfl,?_⟩
             refine hK.out _ _ ⟨(zI BK128.out 0).trans rfl,(zI BK128.out 1).trans rfl,(zI BK128.out 2).trans rfl⟩ (fun hHeld => ?_)
             clear hK K
             refine norm_ (a' := ?_) ?_ ?_
             rotate_left
             ·
              show Act.put _ (some 29) _ = _
              simp only [Act.put,List.setIfInBounds_toArray,List.set_cons_zero,List.set_cons_succ,i64_w,i32_w]; rfl
             refine pure_ (i := 5) (N := some 30) (v := ?_) (a' := ?_) z12_6 rfl rfl (any_of HT_.out (by kernel_rfl)) (fun _ _ _ h => h) (Or.inl ⟨by rfl,?_⟩) ?_ ?_; rotate_left
             · intro w'; go_simp; with_reducible rfl
             rotate_left
             · simp only [Act.put,List.setIfInBounds_toArray,List.set_cons_zero,List.set_cons_succ,i64_w,i32_w]; rfl
             refine pure_ (i := 6) (N := some 31) (v := ?_) (a' := ?_) z12_7 rfl rfl (any_of HT_.out (by kernel_rfl)) (fun _ _ _ h => h) (Or.inl ⟨by rfl,?_⟩) ?_ ?_; rotate_left
             · intro w'; go_simp; with_reducible rfl
             rotate_left
             · simp only [Act.put,List.setIfInBounds_toArray,List.set_cons_zero,List.set_cons_succ,i64_w,i32_w]; rfl
             refine pure_ (i := 7) (N := some 32) (v := ?_) (a' := ?_) z12_8 rfl rfl (any_of HT_.out (by kernel_rfl)) (fun _ _ _ h => h) (Or.inl ⟨by rfl,?_⟩) ?_ ?_; rotate_left
             · intro w'; go_simp; with_reducible rfl
             rotate_left
             · simp only [Act.put,List.setIfInBounds_toArray,List.set_cons_zero,List.set_cons_succ,i64_w,i32_w]; rfl
             refine pure_ (i := 9) (N := some 34) (v := ?_) (a' := ?_) z12_9 rfl rfl (any_of HT_.out (by kernel_rfl)) (fun _ _ _ h => h) (Or.inl ⟨by rfl,?_⟩) ?_ ?_; rotate_left
             · intro w'; go_simp; with_reducible rfl
             rotate_left
             · simp only [Act.put,List.setIfInBounds_toArray,List.set_cons_zero,List.set_cons_succ,i64_w,i32_w]; rfl
             refine pure_ (i := 10) (N := some 35) (v := ?_) (a' := ?_) z12_10 rfl rfl (any_of HT_.out (by kernel_rfl)) (fun _ _ _ h => h) (Or.inl ⟨by rfl,?_⟩) ?_ ?_; rotate_left
             · intro w'; go_simp; with_reducible rfl
             rotate_left
             · simp only [Act.put,List.setIfInBounds_toArray,List.set_cons_zero,List.set_cons_succ,i64_w,i32_w]; rfl
             refine take_ (i := 8) (N := some 33) (v := ?_) (a' := ?_) z12_11 rfl rfl (take_ofW HT_.out HW_.out (by kernel_rfl)) (fun _ _ _ h => h) (Or.inl ⟨by rfl,?_⟩) hHeld ?_ ?_; rotate_left
             ·
              rintro w' ⟨s0,s1,s2⟩
              go_simp; with_reducible rfl
             rotate_left
             · simp only [Act.put,List.setIfInBounds_toArray,List.set_cons_zero,List.set_cons_succ,i64_w,i32_w]; rfl
             refine one_ (i := 11) (N := some 36) z12_12 rfl rfl (one_of HT_.out (by kernel_rfl)) (by decide) (fun K hK => ?_)
             refine goes_ Try.func34 (by kernel_rfl) rfl #[.int .i64 ((rd_T38 l1 x5_2).f1),.int .i64 0,.int .i64 (wrap64 (a0 - 1))] (by rfl) rfl rfl (by (try simp only [List.map_toArray,List.map_cons,List.map_nil]); first | done|rfl|(simp only [List.length_drop,List.length_take]; rfl)) ?_
             with_reducible refine (spec_l01In.calls ((rd_T38 l1 x5_2).f1) 0 (wrap64 (a0 - 1)) true _ A14.out).mono ?_
             rintro e w' ⟨rfl,⟨nd,rfl⟩⟩
             refine ⟨_,rfl,?_⟩
             refine hK.out _ _ ⟨(zI BK128.out 0).trans rfl,(zI BK128.out 1).trans rfl,(zI BK128.out 2).trans rfl⟩ (fun hHeld => ?_)
             clear hK K
             refine norm_ (a' := ?_) ?_ ?_
             rotate_left
             ·
              show Act.put _ (some 36) _ = _
              simp only [Act.put,List.setIfInBounds_toArray,List.set_cons_zero,List.set_cons_succ,i64_w,i32_w]; rfl
             refine pure_ (i := 12) (N := some 37) (v := ?_) (a' := ?_) z12_13 rfl rfl (any_of HT_.out (by kernel_rfl)) (fun _ _ _ h => h) (Or.inl ⟨by rfl,?_⟩) ?_ ?_; rotate_left
             · intro w'; go_simp; with_reducible rfl
             rotate_left
             · simp only [Act.put,List.setIfInBounds_toArray,List.set_cons_zero,List.set_cons_succ,i64_w,i32_w]; rfl
             refine pure_ (i := 13) (N := some 38) (v := ?_) (a' := ?_) z12_14 rfl rfl (any_of HT_.out (by kernel_rfl)) (fun _ _ _ h => h) (Or.inl ⟨by rfl,?_⟩) ?_ ?_; rotate_left
             · intro w'; go_simp; with_reducible rfl
             rotate_left
             · simp only [Act.put,List.setIfInBounds_toArray,List.set_cons_zero,List.set_cons_succ,i64_w,i32_w]; rfl
             refine pure_ (i := 14) (N := some 39) (v := ?_) (a' := ?_) z12_15 rfl rfl (any_of HT_.out (by kernel_rfl)) (fun _ _ _ h => h) (Or.inl ⟨by rfl,?_⟩) ?_ ?_; rotate_left
             · intro w'; go_simp; with_reducible rfl
             rotate_left
             · simp only [Act.put,List.setIfInBounds_toArray,List.set_cons_zero,List.set_cons_succ,i64_w,i32_w]; rfl
             refine pure_ (i := 15) (N := some 40) (v := ?_) (a' := ?_) z12_16 rfl rfl (any_of HT_.out (by kernel_rfl)) (fun _ _ _ h => h) (Or.inl ⟨by rfl,?_⟩) ?_ ?_; rotate_left
             · intro w'; go_simp; with_reducible rfl
             rotate_left
             · simp only [Act.put,List.setIfInBounds_toArray,List.set_cons_zero,List.set_cons_succ,i64_w,i32_w]; rfl
             refine pure_ (i := 17) (N := some 42) (v := ?_) (a' := ?_) z12_17 rfl rfl (any_of HT_.out (by kernel_rfl)) (fun _ _ _ h => h) (Or.inl ⟨by rfl,?_⟩) ?_ ?_; rotate_left
             · intro w'; go_simp; with_reducible rfl
             rotate_left
             · simp only [Act.put,List.setIfInBounds_toArray,List.set_cons_zero,List.set_cons_succ,i64_w,i32_w]; rfl
             refine take_ (i := 16) (N := some 41) (v := ?_) (a' := ?_) z12_18 rfl rfl (take_ofW HT_.out HW_.out (by kernel_rfl)) (fun _ _ _ h => h) (Or.inl ⟨by rfl,?_⟩) hHeld ?_ ?_; rotate_left
             ·
              rintro w' ⟨s0,s1,s2⟩
              go_simp; with_reducible rfl
             rotate_left
             · simp only [Act.put,List.setIfInBounds_toArray,List.set_cons_zero,List.set_cons_succ,i64_w,i32_w]; rfl
             refine take_ (i := 18) (N := some 43) (v := ?_) (a' := ?_) z12_19 rfl rfl (take_ofW HT_.out HW_.out (by kernel_rfl)) (fun _ _ _ h => h) (Or.inl ⟨by rfl,?_⟩) hHeld ?_ ?_; rotate_left
             ·
              rintro w' ⟨s0,s1,s2⟩
              go_simp; with_reducible rfl
             rotate_left
             · simp only [Act.put,List.setIfInBounds_toArray,List.set_cons_zero,List.set_cons_succ,i64_w,i32_w]; rfl
             refine pure_ (i := 19) (N := some 44) (v := ?_) (a' := ?_) z12_20 rfl rfl (any_of HT_.out (by kernel_rfl)) (fun _ _ _ h => h) (Or.inl ⟨by rfl,?_⟩) ?_ ?_; rotate_left
             · intro w'; go_simp; with_reducible rfl
             rotate_left
             · simp only [Act.put,List.setIfInBounds_toArray,List.set_cons_zero,List.set_cons_succ,i64_w,i32_w]; rfl
             refine pure_ (i := 20) (N := some 45) (v := ?_) (a' := ?_) z12_21 rfl rfl (any_of HT_.out (by kernel_rfl)) (fun _ _ _ h => h) (Or.inl ⟨by rfl,?_⟩) ?_ ?_; rotate_left
             · intro w'; go_simp; with_reducible rfl
             rotate_left
             · simp only [Act.put,List.setIfInBounds_toArray,List.set_cons_zero,List.set_cons_succ,i64_w,i32_w]; rfl
             refine pure_ (i := 21) (N := some 46) (v := ?_) (a' := ?_) z12_22 rfl rfl (any_of HT_.out (by kernel_rfl)) (fun _ _ _ h => h) (Or.inl ⟨by rfl,?_⟩) ?_ ?_; rotate_left
             · intro w'; go_simp; with_reducible rfl
             rotate_left
             · simp only [Act.put,List.setIfInBounds_toArray,List.set_cons_zero,List.set_cons_succ,i64_w,i32_w]; rfl
             refine pure_ (i := 22) (N := some 47) (v := undef) (a' := ?_) z12_23 rfl rfl (any_of HT_.out (by kernel_rfl)) (fun _ _ _ h => h) (Or.inr ⟨by rfl,rfl⟩) ?_ ?_; rotate_left
             · simp only [Act.put,List.setIfInBounds_toArray,List.set_cons_zero,List.set_cons_succ,i64_w,i32_w]; rfl
             refine pure_ (i := 23) (N := some 48) (v := undef) (a' := ?_) z12_24 rfl rfl (any_of HT_.out (by kernel_rfl)) (fun _ _ _ h => h) (Or.inr ⟨by rfl,rfl⟩) ?_ ?_; rotate_left
             · simp only [Act.put,List.setIfInBounds_toArray,List.set_cons_zero,List.set_cons_succ,i64_w,i32_w]; rfl
             refine pure_ (i := 24) (N := some 49) (v := undef) (a' := ?_) z12_25 rfl rfl (any_of HT_.out (by kernel_rfl)) (fun _ _ _ h => h) (Or.inr ⟨by rfl,rfl⟩) ?_ ?_; rotate_left
             · simp only [Act.put,List.setIfInBounds_toArray,List.set_cons_zero,List.set_cons_succ,i64_w,i32_w]; rfl
             refine pure_ (i := 25) (N := some 50) (v := undef) (a' := ?_) z12_26 rfl rfl (any_of HT_.out (by kernel_rfl)) (fun _ _ _ h => h) (Or.inr ⟨by rfl,rfl⟩) ?_ ?_; rotate_left
             · simp only [Act.put,List.setIfInBounds_toArray,List.set_cons_zero,List.set_cons_succ,i64_w,i32_w]; rfl
             refine pure_ (i := 26) (N := some 51) (v := ?_) (a' := ?_) z12_27 rfl rfl (any_of HT_.out (by kernel_rfl)) (fun _ _ _ h => h) (Or.inl ⟨by rfl,?_⟩) ?_ ?_; rotate_left
             · intro w'; go_simp; with_reducible rfl
             rotate_left
             · simp only [Act.put,List.setIfInBounds_toArray,List.set_cons_zero,List.set_cons_succ,i64_w,i32_w]; rfl
             refine pure_ (i := 27) (N := some 52) (v := ?_) (a' := ?_) z12_28 rfl rfl (any_of HT_.out (by kernel_rfl)) (fun _ _ _ h => h) (Or.inl ⟨by rfl,?_⟩) ?_ ?_; rotate_left
             · intro w'; go_simp; with_reducible rfl
             rotate_left
             · simp only [Act.put,List.setIfInBounds_toArray,List.set_cons_zero,List.set_cons_succ,i64_w,i32_w]; rfl
             refine pure_ (i := 28) (N := some 53) (v := undef) (a' := ?_) z12_29 rfl rfl (any_of HT_.out (by kernel_rfl)) (fun _ _ _ h => h) (Or.inr ⟨by rfl,rfl⟩) ?_ ?_; rotate_left
             · simp only [Act.put,List.setIfInBounds_toArray,List.set_cons_zero,List.set_cons_succ,i64_w,i32_w]; rfl
             refine pure_ (i := 29) (N := some 54) (v := undef) (a' := ?_) z12_30 rfl rfl (any_of HT_.out (by kernel_rfl)) (fun _ _ _ h => h) (Or.inr ⟨by rfl,rfl⟩) ?_ ?_; rotate_left
             · simp only [Act.put,List.setIfInBounds_toArray,List.set_cons_zero,List.set_cons_succ,i64_w,i32_w]; rfl
             refine pure_ (i := 30) (N := some 55) (v := undef) (a' := ?_) z12_31 rfl rfl (any_of HT_.out (by kernel_rfl)) (fun _ _ _ h => h) (Or.inr ⟨by rfl,rfl⟩) ?_ ?_; rotate_left
             · simp only [Act.put,List.setIfInBounds_toArray,List.set_cons_zero,List.set_cons_succ,i64_w,i32_w]; rfl
             refine pure_ (i := 31) (N := some 56) (v := undef) (a' := ?_) z12_32 rfl rfl (any_of HT_.out (by kernel_rfl)) (fun _ _ _ h => h) (Or.inr ⟨by rfl,rfl⟩) ?_ ?_; rotate_left
             · simp only [Act.put,List.setIfInBounds_toArray,List.set_cons_zero,List.set_cons_succ,i64_w,i32_w]; rfl
             refine pure_ (i := 32) (N := some 57) (v := undef) (a' := ?_) z12_33 rfl rfl (any_of HT_.out (by kernel_rfl)) (fun _ _ _ h => h) (Or.inr ⟨by rfl,rfl⟩) ?_ ?_; rotate_left
             · simp only [Act.put,List.setIfInBounds_toArray,List.set_cons_zero,List.set_cons_succ,i64_w,i32_w]; rfl
             refine pure_ (i := 33) (N := some 58) (v := undef) (a' := ?_) z12_34 rfl rfl (any_of HT_.out (by kernel_rfl)) (fun _ _ _ h => h) (Or.inr ⟨by rfl,rfl⟩) ?_ ?_; rotate_left
             · simp only [Act.put,List.setIfInBounds_toArray,List.set_cons_zero,List.set_cons_succ,i64_w,i32_w]; rfl
             refine pure_ (i := 34) (N := some 59) (v := undef) (a' := ?_) z12_35 rfl rfl (any_of HT_.out (by kernel_rfl)) (fun _ _ _ h => h) (Or.inr ⟨by rfl,rfl⟩) ?_ ?_; rotate_left
             · simp only [Act.put,List.setIfInBounds_toArray,List.set_cons_zero,List.set_cons_succ,i64_w,i32_w]; rfl
             refine pure_ (i := 35) (N := some 60) (v := undef) (a' := ?_) z12_36 rfl rfl (any_of HT_.out (by kernel_rfl)) (fun _ _ _ h => h) (Or.inr ⟨by rfl,rfl⟩) ?_ ?_; rotate_left
             · simp only [Act.put,List.setIfInBounds_toArray,List.set_cons_zero,List.set_cons_succ,i64_w,i32_w]; rfl
             refine pure_ (i := 36) (N := some 61) (v := undef) (a' := ?_) z12_37 rfl rfl (any_of HT_.out (by kernel_rfl)) (fun _ _ _ h => h) (Or.inr ⟨by rfl,rfl⟩) ?_ ?_; rotate_left
             · simp only [Act.put,List.setIfInBounds_toArray,List.set_cons_zero,List.set_cons_succ,i64_w,i32_w]; rfl
             refine pure_ (i := 37) (N := some 62) (v := undef) (a' := ?_) z12_38 rfl rfl (any_of HT_.out (by kernel_rfl)) (fun _ _ _ h => h) (Or.inr ⟨by rfl,rfl⟩) ?_ ?_; rotate_left
             · simp only [Act.put,List.setIfInBounds_toArray,List.set_cons_zero,List.set_cons_succ,i64_w,i32_w]; rfl
             refine pure_ (i := 38) (N := some 63) (v := undef) (a' := ?_) z12_39 rfl rfl (any_of HT_.out (by kernel_rfl)) (fun _ _ _ h => h) (Or.inr ⟨by rfl,rfl⟩) ?_ ?_; rotate_left
             · simp only [Act.put,List.setIfInBounds_toArray,List.set_cons_zero,List.set_cons_succ,i64_w,i32_w]; rfl
             refine pure_ (i := 39) (N := some 64) (v := undef) (a' := ?_) z12_40 rfl rfl (any_of HT_.out (by kernel_rfl)) (fun _ _ _ h => h) (Or.inr ⟨by rfl,rfl⟩) ?_ ?_; rotate_left
             · simp only [Act.put,List.setIfInBounds_toArray,List.set_cons_zero,List.set_cons_succ,i64_w,i32_w]; rfl
             refine pure_ (i := 40) (N := some 65) (v := undef) (a' := ?_) z12_41 rfl rfl (any_of HT_.out (by kernel_rfl)) (fun _ _ _ h => h) (Or.inr ⟨by rfl,rfl⟩) ?_ ?_; rotate_left
             · simp only [Act.put,List.setIfInBounds_toArray,List.set_cons_zero,List.set_cons_succ,i64_w,i32_w]; rfl
             refine pure_ (i := 41) (N := some 66) (v := undef) (a' := ?_) z12_42 rfl rfl (any_of HT_.out (by kernel_rfl)) (fun _ _ _ h => h) (Or.inr ⟨by rfl,rfl⟩) ?_ ?_; rotate_left
             · simp only [Act.put,List.setIfInBounds_toArray,List.set_cons_zero,List.set_cons_succ,i64_w,i32_w]; rfl
             refine pure_ (i := 42) (N := some 67) (v := undef) (a' := ?_) z12_43 rfl rfl (any_of HT_.out (by kernel_rfl)) (fun _ _ _ h => h) (Or.inr ⟨by rfl,rfl⟩) ?_ ?_; rotate_left
             · simp only [Act.put,List.setIfInBounds_toArray,List.set_cons_zero,List.set_cons_succ,i64_w,i32_w]; rfl
             refine pure_ (i := 43) (N := some 68) (v := undef) (a' := ?_) z12_44 rfl rfl (any_of HT_.out (by kernel_rfl)) (fun _ _ _ h => h) (Or.inr ⟨by rfl,rfl⟩) ?_ ?_; rotate_left
             · simp only [Act.put,List.setIfInBounds_toArray,List.set_cons_zero,List.set_cons_succ,i64_w,i32_w]; rfl
             refine pure_ (i := 44) (N := some 69) (v := undef) (a' := ?_) z12_45 rfl rfl (any_of HT_.out (by kernel_rfl)) (fun _ _ _ h => h) (Or.inr ⟨by rfl,rfl⟩) ?_ ?_; rotate_left
             · simp only [Act.put,List.setIfInBounds_toArray,List.set_cons_zero,List.set_cons_succ,i64_w,i32_w]; rfl
             refine pure_ (i := 45) (N := some 70) (v := undef) (a' := ?_) z12_46 rfl rfl (any_of HT_.out (by kernel_rfl)) (fun _ _ _ h => h) (Or.inr ⟨by rfl,rfl⟩) ?_ ?_; rotate_left
             · simp only [Act.put,List.setIfInBounds_toArray,List.set_cons_zero,List.set_cons_succ,i64_w,i32_w]; rfl
             refine pure_ (i := 46) (N := some 71) (v := undef) (a' := ?_) z12_47 rfl rfl (any_of HT_.out (by kernel_rfl)) (fun _ _ _ h => h) (Or.inr ⟨by rfl,rfl⟩) ?_ ?_; rotate_left
             · simp only [Act.put,List.setIfInBounds_toArray,List.set_cons_zero,List.set_cons_succ,i64_w,i32_w]; rfl
             refine pure_ (i := 47) (N := some 72) (v := undef) (a' := ?_) z12_48 rfl rfl (any_of HT_.out (by kernel_rfl)) (fun _ _ _ h => h) (Or.inr ⟨by rfl,rfl⟩) ?_ ?_; rotate_left
             · simp only [Act.put,List.setIfInBounds_toArray,List.set_cons_zero,List.set_cons_succ,i64_w,i32_w]; rfl
             refine pure_ (i := 48) (N := some 73) (v := undef) (a' := ?_) z12_49 rfl rfl (any_of HT_.out (by kernel_rfl)) (fun _ _ _ h => h) (Or.inr ⟨by rfl,rfl⟩) ?_ ?_; rotate_left
             · simp only [Act.put,List.setIfInBounds_toArray,List.set_cons_zero,List.set_cons_succ,i64_w,i32_w]; rfl
             refine pure_ (i := 49) (N := some 74) (v := undef) (a' := ?_) z12_50 rfl rfl (any_of HT_.out (by kernel_rfl)) (fun _ _ _ h => h) (Or.inr ⟨by rfl,rfl⟩) ?_ ?_; rotate_left
             · simp only [Act.put,List.setIfInBounds_toArray,List.set_cons_zero,List.set_cons_succ,i64_w,i32_w]; rfl
             refine pure_ (i := 50) (N := some 75) (v := undef) (a' := ?_) z12_51 rfl rfl (any_of HT_.out (by kernel_rfl)) (fun _ _ _ h => h) (Or.inr ⟨by rfl,rfl⟩) ?_ ?_; rotate_left
             · simp only [Act.put,List.setIfInBounds_toArray,List.set_cons_zero,List.set_cons_succ,i64_w,i32_w]; rfl
             refine pure_ (i := 51) (N := some 76) (v := undef) (a' := ?_) z12_52 rfl rfl (any_of HT_.out (by kernel_rfl)) (fun _ _ _ h => h) (Or.inr ⟨by rfl,rfl⟩) ?_ ?_; rotate_left
             · simp only [Act.put,List.setIfInBounds_toArray,List.set_cons_zero,List.set_cons_succ,i64_w,i32_w]; rfl
             refine pure_ (i := 52) (N := some 77) (v := undef) (a' := ?_) z12_53 rfl rfl (any_of HT_.out (by kernel_rfl)) (fun _ _ _ h => h) (Or.inr ⟨by rfl,rfl⟩) ?_ ?_; rotate_left
             · simp only [Act.put,List.setIfInBounds_toArray,List.set_cons_zero,List.set_cons_succ,i64_w,i32_w]; rfl
             refine pure_ (i := 53) (N := some 78) (v := undef) (a' := ?_) z12_54 rfl rfl (any_of HT_.out (by kernel_rfl)) (fun _ _ _ h => h) (Or.inr ⟨by rfl,rfl⟩) ?_ ?_; rotate_left
             · simp only [Act.put,List.setIfInBounds_toArray,List.set_cons_zero,List.set_cons_succ,i64_w,i32_w]; rfl
             refine pure_ (i := 54) (N := some 79) (v := undef) (a' := ?_) z12_55 rfl rfl (any_of HT_.out (by kernel_rfl)) (fun _ _ _ h => h) (Or.inr ⟨by rfl,rfl⟩) ?_ ?_; rotate_left
             · simp only [Act.put,List.setIfInBounds_toArray,List.set_cons_zero,List.set_cons_succ,i64_w,i32_w]; rfl
             refine pure_ (i := 55) (N := some 80) (v := undef) (a' := ?_) z12_56 rfl rfl (any_of HT_.out (by kernel_rfl)) (fun _ _ _ h => h) (Or.inr ⟨by rfl,rfl⟩) ?_ ?_; rotate_left
             · simp only [Act.put,List.setIfInBounds_toArray,List.set_cons_zero,List.set_cons_succ,i64_w,i32_w]; rfl
             refine pure_ (i := 56) (N := some 81) (v := undef) (a' := ?_) z12_57 rfl rfl (any_of HT_.out (by kernel_rfl)) (fun _ _ _ h => h) (Or.inr ⟨by rfl,rfl⟩) ?_ ?_; rotate_left
             · simp only [Act.put,List.setIfInBounds_toArray,List.set_cons_zero,List.set_cons_succ,i64_w,i32_w]; rfl
             refine pure_ (i := 57) (N := some 82) (v := undef) (a' := ?_) z12_58 rfl rfl (any_of HT_.out (by kernel_rfl)) (fun _ _ _ h => h) (Or.inr ⟨by rfl,rfl⟩) ?_ ?_; rotate_left
             · simp only [Act.put,List.setIfInBounds_toArray,List.set_cons_zero,List.set_cons_succ,i64_w,i32_w]; rfl
             refine pure_ (i := 58) (N := some 83) (v := undef) (a' := ?_) z12_59 rfl rfl (any_of HT_.out (by kernel_rfl)) (fun _ _ _ h => h) (Or.inr ⟨by rfl,rfl⟩) ?_ ?_; rotate_left
             · simp only [Act.put,List.setIfInBounds_toArray,List.set_cons_zero,List.set_cons_succ,i64_w,i32_w]; rfl
             refine pure_ (i := 59) (N := some 84) (v := undef) (a' := ?_) z12_60 rfl rfl (any_of HT_.out (by kernel_rfl)) (fun _ _ _ h => h) (Or.inr ⟨by rfl,rfl⟩) ?_ ?_; rotate_left
             · simp only [Act.put,List.setIfInBounds_toArray,List.set_cons_zero,List.set_cons_succ,i64_w,i32_w]; rfl
             refine pure_ (i := 60) (N := some 85) (v := undef) (a' := ?_) z12_61 rfl rfl (any_of HT_.out (by kernel_rfl)) (fun _ _ _ h => h) (Or.inr ⟨by rfl,rfl⟩) ?_ ?_; rotate_left
             · simp only [Act.put,List.setIfInBounds_toArray,List.set_cons_zero,List.set_cons_succ,i64_w,i32_w]; rfl
             refine pure_ (i := 61) (N := some 86) (v := undef) (a' := ?_) z12_62 rfl rfl (any_of HT_.out (by kernel_rfl)) (fun _ _ _ h => h) (Or.inr ⟨by rfl,rfl⟩) ?_ ?_; rotate_left
             · simp only [Act.put,List.setIfInBounds_toArray,List.set_cons_zero,List.set_cons_succ,i64_w,i32_w]; rfl
             refine pure_ (i := 62) (N := some 87) (v := undef) (a' := ?_) z12_63 rfl rfl (any_of HT_.out (by kernel_rfl)) (fun _ _ _ h => h) (Or.inr ⟨by rfl,rfl⟩) ?_ ?_; rotate_left
             · simp only [Act.put,List.setIfInBounds_toArray,List.set_cons_zero,List.set_cons_succ,i64_w,i32_w]; rfl
             refine pure_ (i := 63) (N := some 88) (v := ?_) (a' := ?_) z12_64 rfl rfl (any_of HT_.out (by kernel_rfl)) (fun _ _ _ h => h) (Or.inl ⟨by rfl,?_⟩) ?_ ?_; rotate_left
             · intro w'; go_simp; with_reducible rfl
             rotate_left
             · simp only [Act.put,List.setIfInBounds_toArray,List.set_cons_zero,List.set_cons_succ,i64_w,i32_w]; rfl
             refine done_ (done_of HT_.out (by kernel_rfl)) ?_
             try go_wp2
             go_meet
             case rel => exact ⟨_,(true),(by first|rfl|(simp; done)|(simp [*]; done)),H',⟨by have := HJ2.out; have := HK2.out; first|omega|exact Nat.le_refl _⟩,⟨(rrB9 BK128.out)⟩,⟨by repeat (first|(with_reducible first|exact HB.out|apply zC|apply zE|apply zD|refine zB ?_ GE128.out)|exact HB.out)⟩⟩
            ·
             rw [if_neg c16] at H
             have c16b0 : decide (((rd_T38 l1 x5_2).f1) ≤ ((rd_T38 l1 x5_2).f0)) = false := decide_eq_false c16
             clear c16
             (first | rw [c16b0]|(simp only [i64_w,i32_w]; rw [c16b0])|skip)
             replace H := Option.bind_eq_some_iff.mp H
             obtain ⟨t131,A190,H⟩ := H
             replace H : (if t131 = true then (if x5_2 > 0 then (if 0 ≤ (wrap64 (x5_2 - 1)) then (if (wrap64 (x5_2 - 1)) < (l1.length : Int) then (if ((rd_T38 l1 (wrap64 (x5_2 - 1))).f0) > ((rd_T38 l1 x5_2).f0) then (spec_RoadsOk.j2 k2 a0 l1 x5_2 true) else (if ((rd_T38 l1 (wrap64 (x5_2 - 1))).f0) = ((rd_T38 l1 x5_2).f0) then (spec_RoadsOk.j2 k2 a0 l1 x5_2 (decide (((rd_T38 l1 (wrap64 (x5_2 - 1))).f1) ≥ ((rd_T38 l1 x5_2).f1)))) else (spec_RoadsOk.j2 k2 a0 l1 x5_2 false))) else (none)) else (none)) else (spec_RoadsOk.j2 k2 a0 l1 x5_2 false)) else (spec_RoadsOk.j2 k2 a0 l1 x5_2 true)) = some r := H
             have A19 := zA A190
             clear A190
             by_cases c20 : t131 = true
             ·
              subst c20
              have H1 : (if x5_2 > 0 then (if 0 ≤ (wrap64 (x5_2 - 1)) then (if (wrap64 (x5_2 - 1)) < (l1.length : Int) then (if ((rd_T38 l1 (wrap64 (x5_2 - 1))).f0) > ((rd_T38 l1 x5_2).f0) then (spec_RoadsOk.j2 k2 a0 l1 x5_2 true) else (if ((rd_T38 l1 (wrap64 (x5_2 - 1))).f0) = ((rd_T38 l1 x5_2).f0) then (spec_RoadsOk.j2 k2 a0 l1 x5_2 (decide (((rd_T38 l1 (wrap64 (x5_2 - 1))).f1) ≥ ((rd_T38 l1 x5_2).f1)))) else (spec_RoadsOk.j2 k2 a0 l1 x5_2 false))) else (none)) else (none)) else (spec_RoadsOk.j2 k2 a0 l1 x5_2 false)) = some r := by rw [if_pos rfl] at H; exact H
              clear H; have H := H1; clear H1
              by_cases c21 : x5_2 > 0
              ·
               rw [if_pos c21] at H
               have c21b0 : decide (0 < x5_2) = true := decide_eq_true c21
               clear c21
               obtain ⟨ji22,hji22⟩ : ∃ j_ : Int,(wrap64 (x5_2 - 1)) = j_ := ⟨_,rfl⟩
               replace H : (if 0 ≤ (ji22) then (if (ji22) < (l1.length : Int) then (if ((rd_T38 l1 (ji22)).f0) > ((rd_T38 l1 x5_2).f0) then (spec_RoadsOk.j2 k2 a0 l1 x5_2 true) else (if ((rd_T38 l1 (ji22)).f0) = ((rd_T38 l1 x5_2).f0) then (spec_RoadsOk.j2 k2 a0 l1 x5_2 (decide (((rd_T38 l1 (ji22)).f1) ≥ ((rd_T38 l1 x5_2).f1)))) else (spec_RoadsOk.j2 k2 a0 l1 x5_2 false))) else (none)) else (none)) = some r := by first | (rw [hji22] at H; exact H)|(simp only [hji22] at H ⊢; exact H)
               (try rw [hji22] at A12)
               (try rw [hji22] at A14)
               (try rw [hji22] at A19)
               have hji22w : (IntKind.i64.wrap (x5_2 - 1)) = ji22 := (i64_w _).trans hji22
               by_cases c23 : 0 ≤ (ji22)
               ·
                rw [if_pos c23] at H
                have c23b0 : decide (0 ≤ (ji22)) = true := decide_eq_true c23
                clear c23
                by_cases c24 : (ji22) < (l1.length : Int)
                ·
                 rw [if_pos c24] at H
                 have c24b0 : decide ((ji22) < (l1.length : Int)) = true := decide_eq_true c24
                 clear c24
                 by_cases c25 : ((rd_T38 l1 (ji22)).f0) > ((rd_T38 l1 x5_2).f0)
                 ·
                  rw [if_pos c25] at H
                  have c25b0 : decide (((rd_T38 l1 x5_2).f0) < ((rd_T38 l1 (ji22)).f0)) = true := decide_eq_true c25
                  clear c25
                  have H' := zA H
                  clear H
                  try go_wp2
                  have n0_ : Aside0 ((((w10.setCell ⟨gb128,0,none⟩ (.int .i64 ((rd_T38 l1 x5_2).f0))).setCell ⟨gb128,1,none⟩ (.int .i64 ((rd_T38 l1 x5_2).f1))).setCell ⟨gb128,2,none⟩ (.int .i64 ((rd_T38 l1 x5_2).f2))).heap[gb128]? = some (.cells #[.int .i64 ((rd_T38 l1 x5_2).f0),.int .i64 ((rd_T38 l1 x5_2).f1),.int .i64 ((rd_T38 l1 x5_2).f2)] 38 (0,0))) := ⟨by (with_reducible repeat (first|refine zF ?_ _|refine zH ?_|refine zG ?_ _)); refine blk_put (cs := #[.int .i64 ((rd_T38 l1 x5_2).f0),.int .i64 ((rd_T38 l1 x5_2).f1),.int .i64 0]) ?_ 2 _ rfl; (with_reducible repeat (first|refine zF ?_ _|refine zH ?_|refine zG ?_ _)); refine blk_put (cs := #[.int .i64 ((rd_T38 l1 x5_2).f0),.int .i64 0,.int .i64 0]) ?_ 1 _ rfl; (with_reducible repeat (first|refine zF ?_ _|refine zH ?_|refine zG ?_ _)); refine blk_put (cs := #[.int .i64 0,.int .i64 0,.int .i64 0]) ?_ 0 _ rfl; (with_reducible repeat (first|refine zF ?_ _|refine zH ?_|refine zG ?_ _)); exact BK128.out⟩
                  have n1_ : Aside0 (Below w.heap.size w (((w10.setCell ⟨gb128,0,none⟩ (.int .i64 ((rd_T38 l1 x5_2).f0))).setCell ⟨gb128,1,none⟩ (.int .i64 ((rd_T38 l1 x5_2).f1))).setCell ⟨gb128,2,none⟩ (.int .i64 ((rd_T38 l1 x5_2).f2)))) := ⟨by repeat (first|(with_reducible first|exact HB.out|apply zC|apply zE|apply zD|refine zB ?_ GE128.out)|exact HB.out)⟩
                  (try clear BK128)
                  (try clear HB)
                  generalize (((w10.setCell ⟨gb128,0,none⟩ (.int .i64 ((rd_T38 l1 x5_2).f0))).setCell ⟨gb128,1,none⟩ (.int .i64 ((rd_T38 l1 x5_2).f1))).setCell ⟨gb128,2,none⟩ (.int .i64 ((rd_T38 l1 x5_2).f2))) = w26 at n0_ n1_ ⊢
                  have BK128 := n0_
                  have HB := n1_
                  clear n0_ n1_
                  have n0_ := zA (zH BK128.out)
                  have n1_ := zA (zD HB.out)
                  clear BK128 HB
                  have BK128 := n0_
                  have HB := n1_
                  clear n0_ n1_
                  have p132 : 0 ≤ ((ji22) : Int) := of_decide_eq_true (by first|(with_reducible assumption) | assumption)
                  have q132 : (ji22) < (l1.length : Int) := of_decide_eq_true (by first|(with_reducible assumption) | assumption)
                  obtain ⟨ad132,e132,hx132_0,hx132_1,hx132_2⟩ := at_T38 HR1.out (ji22) p132 q132
                  have hw132_2 := hx132_2
                  have hw132_1 := hx132_1
                  have hw132_0 := hx132_0
                  obtain rfl : ad127 = ad132 := (by injection e132)
                  replace hx132_0 := (HB.out.cell (World.block_lt_of_cell? w _ hx132_0)).trans hx132_0
                  replace hx132_1 := (HB.out.cell (World.block_lt_of_cell? w _ hx132_1)).trans hx132_1
                  replace hx132_2 := (HB.out.cell (World.block_lt_of_cell? w _ hx132_2)).trans hx132_2
                  replace p132 := eq_true p132
                  replace q132 := eq_true q132
                  refine start_ (n := 64) (S := fun w' => w'.cell? ⟨gb128,0,none⟩ = some (.int .i64 ((rd_T38 l1 x5_2).f0)) ∧ w'.cell? ⟨gb128,1,none⟩ = some (.int .i64 ((rd_T38 l1 x5_2).f1)) ∧ w'.cell? ⟨gb128,2,none⟩ = some (.int .i64 ((rd_T38 l1 x5_2).f2)) ∧ w'.cell? (ad127.add (((ji22)).toNat * 3)) = some (.int .i64 ((rd_T38 l1 (ji22)).f0)) ∧ w'.cell? ⟨(ad127.add (((ji22)).toNat * 3)).block,(ad127.add (((ji22)).toNat * 3)).off + 1,none⟩ = some (.int .i64 ((rd_T38 l1 (ji22)).f1)) ∧ w'.cell? ⟨(ad127.add (((ji22)).toNat * 3)).block,(ad127.add (((ji22)).toNat * 3)).off + 2,none⟩ = some (.int .i64 ((rd_T38 l1 (ji22)).f2))) (ds := []) z12_0 (by kernel_rfl) rfl rfl ⟨(zI BK128.out 0).trans rfl,(zI BK128.out 1).trans rfl,(zI BK128.out 2).trans rfl,((HB.out.cell (World.block_lt_of_cell? w _ hw132_0)).trans hw132_0),((HB.out.cell (World.block_lt_of_cell? w _ hw132_1)).trans hw132_1),((HB.out.cell (World.block_lt_of_cell? w _ hw132_2)).trans hw132_2)⟩ (fun hHeld => ?_); refine with_tabW spec_RoadsOk.tab7 spec_RoadsOk.bits7 (fun HT_ HW_ => ?_)
                  generalize w26.drew = w27 at BK128 HB hx132_0 hx132_1 hx132_2 hHeld ⊢
                  refine pure_ (i := 0) (N := some 25) (v := ?_) (a' := ?_) z12_1 rfl rfl (any_of HT_.out (by kernel_rfl)) (fun _ _ _ h => h) (Or.inl ⟨by rfl,?_⟩) ?_ ?_; rotate_left
                  · intro w'; go_simp; with_reducible rfl
                  rotate_left
                  · simp only [Act.put,List.setIfInBounds_toArray,List.set_cons_zero,List.set_cons_succ,i64_w,i32_w]; rfl
                  refine pure_ (i := 2) (N := some 27) (v := ?_) (a' := ?_) z12_2 rfl rfl (any_of HT_.out (by kernel_rfl)) (fun _ _ _ h => h) (Or.inl ⟨by rfl,?_⟩) ?_ ?_; rotate_left
                  · intro w'; go_simp; with_reducible rfl
                  rotate_left
                  · simp only [Act.put,List.setIfInBounds_toArray,List.set_cons_zero,List.set_cons_succ,i64_w,i32_w]; rfl
                  refine pure_ (i := 3) (N := some 28) (v := ?_) (a' := ?_) z12_3 rfl rfl (any_of HT_.out (by kernel_rfl)) (fun _ _ _ h => h) (Or.inl ⟨by rfl,?_⟩) ?_ ?_; rotate_left
                  · intro w'; go_simp; with_reducible rfl
                  rotate_left
                  · simp only [Act.put,List.setIfInBounds_toArray,List.set_cons_zero,List.set_cons_succ,i64_w,i32_w]; rfl
                  refine take_ (i := 1) (N := some 26) (v := ?_) (a' := ?_) z12_4 rfl rfl (take_ofW HT_.out HW_.out (by kernel_rfl)) (fun _ _ _ h => h) (Or.inl ⟨by rfl,?_⟩) hHeld ?_ ?_; rotate_left
                  ·
                   rintro w' ⟨s0,s1,s2,s3,s4,s5⟩
                   go_simp; with_reducible rfl
                  rotate_left
                  · simp only [Act.put,List.setIfInBounds_toArray,List.set_cons_zero,List.set_cons_succ,i64_w,i32_w]; rfl
                  refine one_ (i := 4) (N := some 29) z12_5 rfl rfl (one_of HT_.out (by kernel_rfl)) (by decide) (fun K hK => ?_)
                  refine goes_ Try.func34 (by kernel_rfl) rfl #[.int .i64 ((rd_T38 l1 x5_2).f0),.int .i64 0,.int .i64 (wrap64 (a0 - 1))] (by rfl) rfl rfl (by (try simp only [List.map_toArray,List.map_cons,List.map_nil]); first | done|rfl|(simp only [List.length_drop,List.length_take]; rfl)) ?_
                  with_reducible refine (spec_l01In.calls ((rd_T38 l1 x5_2).f0) 0 (wrap64 (a0 - 1)) true _ A12.out).mono ?_
                  rintro e w' ⟨rfl,⟨nd,rfl⟩⟩
                  refine ⟨_,rfl,?_⟩
                  refine hK.out _ _ ⟨(zI BK128.out 0).trans rfl,(zI BK128.out 1).trans rfl,(zI BK128.out 2).trans rfl,((HB.out.cell (World.block_lt_of_cell? w _ hw132_0)).trans hw132_0),((HB.out.cell (World.block_lt_of_cell? w _ hw132_1)).trans hw132_1),((HB.out.cell (World.block_lt_of_cell? w _ hw132_2)).trans hw132_2)⟩ (fun hHeld => ?_)
                  clear hK K
                  refine norm_ (a' := ?_) ?_ ?_
                  rotate_left
                  ·
                   show Act.put _ (some 29) _ = _
                   simp only [Act.put,List.setIfInBounds_toArray,List.set_cons_zero,List.set_cons_succ,i64_w,i32_w]; rfl
                  refine pure_ (i := 5) (N := some 30) (v := ?_) (a' := ?_) z12_6 rfl rfl (any_of HT_.out (by kernel_rfl)) (fun _ _ _ h => h) (Or.inl ⟨by rfl,?_⟩) ?_ ?_; rotate_left
                  · intro w'; go_simp; with_reducible rfl
                  rotate_left
                  · simp only [Act.put,List.setIfInBounds_toArray,List.set_cons_zero,List.set_cons_succ,i64_w,i32_w]; rfl
                  refine pure_ (i := 6) (N := some 31) (v := ?_) (a' := ?_) z12_7 rfl rfl (any_of HT_.out (by kernel_rfl)) (fun _ _ _ h => h) (Or.inl ⟨by rfl,?_⟩) ?_ ?_; rotate_left
                  · intro w'; go_simp; with_reducible rfl
                  rotate_left
                  · simp only [Act.put,List.setIfInBounds_toArray,List.set_cons_zero,List.set_cons_succ,i64_w,i32_w]; rfl
                  refine pure_ (i := 7) (N := some 32) (v := ?_) (a' := ?_) z12_8 rfl rfl (any_of HT_.out (by kernel_rfl)) (fun _ _ _ h => h) (Or.inl ⟨by rfl,?_⟩) ?_ ?_; rotate_left
                  · intro w'; go_simp; with_reducible rfl
                  rotate_left
                  · simp only [Act.put,List.setIfInBounds_toArray,List.set_cons_zero,List.set_cons_succ,i64_w,i32_w]; rfl
                  refine pure_ (i := 9) (N := some 34) (v := ?_) (a' := ?_) z12_9 rfl rfl (any_of HT_.out (by kernel_rfl)) (fun _ _ _ h => h) (Or.inl ⟨by rfl,?_⟩) ?_ ?_; rotate_left
                  · intro w'; go_simp; with_reducible rfl
                  rotate_left
                  · simp only [Act.put,List.setIfInBounds_toArray,List.set_cons_zero,List.set_cons_succ,i64_w,i32_w]; rfl
                  refine pure_ (i := 10) (N := some 35) (v := ?_) (a' := ?_) z12_10 rfl rfl (any_of HT_.out (by kernel_rfl)) (fun _ _ _ h => h) (Or.inl ⟨by rfl,?_⟩) ?_ ?_; rotate_left
                  · intro w'; go_simp; with_reducible rfl
                  rotate_left
                  · simp only [Act.put,List.setIfInBounds_toArray,List.set_cons_zero,List.set_cons_succ,i64_w,i32_w]; rfl
                  refine take_ (i := 8) (N := some 33) (v := ?_) (a' := ?_) z12_11 rfl rfl (take_ofW HT_.out HW_.out (by kernel_rfl)) (fun _ _ _ h => h) (Or.inl ⟨by rfl,?_⟩) hHeld ?_ ?_; rotate_left
                  ·
                   rintro w' ⟨s0,s1,s2,s3,s4,s5⟩
                   go_simp; with_reducible rfl
                  rotate_left
                  · simp only [Act.put,List.setIfInBounds_toArray,List.set_cons_zero,List.set_cons_succ,i64_w,i32_w]; rfl
                  refine one_ (i := 11) (N := some 36) z12_12 rfl rfl (one_of HT_.out (by kernel_rfl)) (by decide) (fun K hK => ?_)
                  refine goes_ Try.func34 (by kernel_rfl) rfl #[.int .i64 ((rd_T38 l1 x5_2).f1),.int .i64 0,.int .i64 (wrap64 (a0 - 1))] (by rfl) rfl rfl (by (try simp only [List.map_toArray,List.map_cons,List.map_nil]); first | done|rfl|(simp only [List.length_drop,List.length_take]; rfl)) ?_
                  with_reducible refine (spec_l01In.calls ((rd_T38 l1 x5_2).f1) 0 (wrap64 (a0 - 1)) true _ A14.out).mono ?_
                  rintro e w' ⟨rfl,⟨nd,rfl⟩⟩
                  refine ⟨_,rfl,?_⟩
                  refine hK.out _ _ ⟨(zI BK128.out 0).trans rfl,(zI BK128.out 1).trans rfl,(zI BK128.out 2).trans rfl,((HB.out.cell (World.block_lt_of_cell? w _ hw132_0)).trans hw132_0),((HB.out.cell (World.block_lt_of_cell? w _ hw132_1)).trans hw132_1),((HB.out.cell (World.block_lt_of_cell? w _ hw132_2)).trans hw132_2)⟩ (fun hHeld => ?_)
                  clear hK K
                  refine norm_ (a' := ?_) ?_ ?_
                  rotate_left
                  ·
                   show Act.put _ (some 36) _ = _
                   simp only [Act.put,List.setIfInBounds_toArray,List.set_cons_zero,List.set_cons_succ,i64_w,i32_w]; rfl
                  refine pure_ (i := 12) (N := some 37) (v := ?_) (a' := ?_) z12_13 rfl rfl (any_of HT_.out (by kernel_rfl)) (fun _ _ _ h => h) (Or.inl ⟨by rfl,?_⟩) ?_ ?_; rotate_left
                  · intro w'; go_simp; with_reducible rfl
                  rotate_left
                  · simp only [Act.put,List.setIfInBounds_toArray,List.set_cons_zero,List.set_cons_succ,i64_w,i32_w]; rfl
                  refine pure_ (i := 13) (N := some 38) (v := ?_) (a' := ?_) z12_14 rfl rfl (any_of HT_.out (by kernel_rfl)) (fun _ _ _ h => h) (Or.inl ⟨by rfl,?_⟩) ?_ ?_; rotate_left
                  · intro w'; go_simp; with_reducible rfl
                  rotate_left
                  · simp only [Act.put,List.setIfInBounds_toArray,List.set_cons_zero,List.set_cons_succ,i64_w,i32_w]; rfl
                  refine pure_ (i := 14) (N := some 39) (v := ?_) (a' := ?_) z12_15 rfl rfl (any_of HT_.out (by kernel_rfl)) (fun _ _ _ h => h) (Or.inl ⟨by rfl,?_⟩) ?_ ?_; rotate_left
                  · intro w'; go_simp; with_reducible rfl
                  rotate_left
                  · simp only [Act.put,List.setIfInBounds_toArray,List.set_cons_zero,List.set_cons_succ,i64_w,i32_w]; rfl
                  refine pure_ (i := 15) (N := some 40) (v := ?_) (a' := ?_) z12_16 rfl rfl (any_of HT_.out (by kernel_rfl)) (fun _ _ _ h => h) (Or.inl ⟨by rfl,?_⟩) ?_ ?_; rotate_left
                  · intro w'; go_simp; with_reducible rfl
                  rotate_left
                  · simp only [Act.put,List.setIfInBounds_toArray,List.set_cons_zero,List.set_cons_succ,i64_w,i32_w]; rfl
                  refine pure_ (i := 17) (N := some 42) (v := ?_) (a' := ?_) z12_17 rfl rfl (any_of HT_.out (by kernel_rfl)) (fun _ _ _ h => h) (Or.inl ⟨by rfl,?_⟩) ?_ ?_; rotate_left
                  · intro w'; go_simp; with_reducible rfl
                  rotate_left
                  · simp only [Act.put,List.setIfInBounds_toArray,List.set_cons_zero,List.set_cons_succ,i64_w,i32_w]; rfl
                  refine take_ (i := 16) (N := some 41) (v := ?_) (a' := ?_) z12_18 rfl rfl (take_ofW HT_.out HW_.out (by kernel_rfl)) (fun _ _ _ h => h) (Or.inl ⟨by rfl,?_⟩) hHeld ?_ ?_; rotate_left
                  ·
                   rintro w' ⟨s0,s1,s2,s3,s4,s5⟩
                   go_simp; with_reducible rfl
                  rotate_left
                  · simp only [Act.put,List.setIfInBounds_toArray,List.set_cons_zero,List.set_cons_succ,i64_w,i32_w]; rfl
                  refine take_ (i := 18) (N := some 43) (v := ?_) (a' := ?_) z12_19 rfl rfl (take_ofW HT_.out HW_.out (by kernel_rfl)) (fun _ _ _ h => h) (Or.inl ⟨by rfl,?_⟩) hHeld ?_ ?_; rotate_left
                  ·
                   rintro w' ⟨s0,s1,s2,s3,s4,s5⟩
                   go_simp; with_reducible rfl
                  rotate_left
                  · simp only [Act.put,List.setIfInBounds_toArray,List.set_cons_zero,List.set_cons_succ,i64_w,i32_w]; rfl
                  refine pure_ (i := 19) (N := some 44) (v := ?_) (a' := ?_) z12_20 rfl rfl (any_of HT_.out (by kernel_rfl)) (fun _ _ _ h => h) (Or.inl ⟨by rfl,?_⟩) ?_ ?_; rotate_left
                  · intro w'; go_simp; with_reducible rfl
                  rotate_left
                  · simp only [Act.put,List.setIfInBounds_toArray,List.set_cons_zero,List.set_cons_succ,i64_w,i32_w]; rfl
                  refine pure_ (i := 20) (N := some 45) (v := ?_) (a' := ?_) z12_21 rfl rfl (any_of HT_.out (by kernel_rfl)) (fun _ _ _ h => h) (Or.inl ⟨by rfl,?_⟩) ?_ ?_; rotate_left
                  · intro w'; go_simp; with_reducible rfl
                  rotate_left
                  · simp only [Act.put,List.setIfInBounds_toArray,List.set_cons_zero,List.set_cons_succ,i64_w,i32_w]; rfl
                  refine pure_ (i := 21) (N := some 46) (v := ?_) (a' := ?_) z12_22 rfl rfl (any_of HT_.out (by kernel_rfl)) (fun _ _ _ h => h) (Or.inl ⟨by rfl,?_⟩) ?_ ?_; rotate_left
                  · intro w'; go_simp; with_reducible rfl
                  rotate_left
                  · simp only [Act.put,List.setIfInBounds_toArray,List.set_cons_zero,List.set_cons_succ,i64_w,i32_w]; rfl
                  refine pure_ (i := 22) (N := some 47) (v := ?_) (a' := ?_) z12_23 rfl rfl (any_of HT_.out (by kernel_rfl)) (fun _ _ _ h => h) (Or.inl ⟨by rfl,?_⟩) ?_ ?_; rotate_left
                  · intro w'; go_simp; with_reducible rfl
                  rotate_left
                  · simp only [Act.put,List.setIfInBounds_toArray,List.set_cons_zero,List.set_cons_succ,i64_w,i32_w]; rfl
                  refine take_ (i := 23) (N := some 48) (v := ?_) (a' := ?_) z12_24 rfl rfl (take_ofW HT_.out HW_.out (by kernel_rfl)) (fun _ _ _ h => h) (Or.inl ⟨by rfl,?_⟩) hHeld ?_ ?_; rotate_left
                  ·
                   rintro w' ⟨s0,s1,s2,s3,s4,s5⟩
                   go_simp; with_reducible rfl
                  rotate_left
                  · simp only [Act.put,List.setIfInBounds_toArray,List.set_cons_zero,List.set_cons_succ,i64_w,i32_w]; rfl
                  refine one_ (i := 24) (N := some 49) z12_25 rfl rfl (one_of HT_.out (by kernel_rfl)) (by decide) (fun K hK => ?_)
                  refine goes_ Try.func34 (by kernel_rfl) rfl #[.int .i64 ((rd_T38 l1 x5_2).f2),.int .i64 1,.int .i64 100] (by rfl) rfl rfl (by (try simp only [List.map_toArray,List.map_cons,List.map_nil]); first | done|rfl|(simp only [List.length_drop,List.length_take]; rfl)) ?_
                  with_reducible refine (spec_l01In.calls ((rd_T38 l1 x5_2).f2) 1 100 true _ A19.out).mono ?_
                  rintro e w' ⟨rfl,⟨nd,rfl⟩⟩
                  refine ⟨_,rfl,?_⟩
                  refine hK.out _ _ ⟨(zI BK128.out 0).trans rfl,(zI BK128.out 1).trans rfl,(zI BK128.out 2).trans rfl,((HB.out.cell (World.block_lt_of_cell? w _ hw132_0)).trans hw132_0),((HB.out.cell (World.block_lt_of_cell? w _ hw132_1)).trans hw132_1),((HB.out.cell (World.block_lt_of_cell? w _ hw132_2)).trans hw132_2)⟩ (fun hHeld => ?_)
                  clear hK K
                  refine norm_ (a' := ?_) ?_ ?_
                  rotate_left
                  ·
                   show Act.put _ (some 49) _ = _
                   simp only [Act.put,List.setIfInBounds_toArray,List.set_cons_zero,List.set_cons_succ,i64_w,i32_w]; rfl
                  refine pure_ (i := 25) (N := some 50) (v := ?_) (a' := ?_) z12_26 rfl rfl (any_of HT_.out (by kernel_rfl)) (fun _ _ _ h => h) (Or.inl ⟨by rfl,?_⟩) ?_ ?_; rotate_left
                  · intro w'; go_simp; with_reducible rfl
                  rotate_left
                  · simp only [Act.put,List.setIfInBounds_toArray,List.set_cons_zero,List.set_cons_succ,i64_w,i32_w]; rfl
                  refine pure_ (i := 26) (N := some 51) (v := ?_) (a' := ?_) z12_27 rfl rfl (any_of HT_.out (by kernel_rfl)) (fun _ _ _ h => h) (Or.inl ⟨by rfl,?_⟩) ?_ ?_; rotate_left
                  · intro w'; go_simp; with_reducible rfl
                  rotate_left
                  · simp only [Act.put,List.setIfInBounds_toArray,List.set_cons_zero,List.set_cons_succ,i64_w,i32_w]; rfl
                  refine pure_ (i := 27) (N := some 52) (v := ?_) (a' := ?_) z12_28 rfl rfl (any_of HT_.out (by kernel_rfl)) (fun _ _ _ h => h) (Or.inl ⟨by rfl,?_⟩) ?_ ?_; rotate_left
                  · intro w'; go_simp; with_reducible rfl
                  rotate_left
                  · simp only [Act.put,List.setIfInBounds_toArray,List.set_cons_zero,List.set_cons_succ,i64_w,i32_w]; rfl
                  refine pure_ (i := 28) (N := some 53) (v := ?_) (a' := ?_) z12_29 rfl rfl (any_of HT_.out (by kernel_rfl)) (fun _ _ _ h => h) (Or.inl ⟨by rfl,?_⟩) ?_ ?_; rotate_left
                  · intro w'; go_simp; with_reducible rfl
                  rotate_left
                  · simp only [Act.put,List.setIfInBounds_toArray,List.set_cons_zero,List.set_cons_succ,i64_w,i32_w]; rfl
                  refine pure_ (i := 29) (N := some 54) (v := ?_) (a' := ?_) z12_30 rfl rfl (any_of HT_.out (by kernel_rfl)) (fun _ _ _ h => h) (Or.inl ⟨by rfl,?_⟩) ?_ ?_; rotate_left
                  · intro w'; go_simp; with_reducible rfl
                  rotate_left
                  · simp only [Act.put,List.setIfInBounds_toArray,List.set_cons_zero,List.set_cons_succ,i64_w,i32_w]; rfl
                  refine pure_ (i := 30) (N := some 55) (v := ?_) (a' := ?_) z12_31 rfl rfl (any_of HT_.out (by kernel_rfl)) (fun _ _ _ h => h) (Or.inl ⟨by rfl,?_⟩) ?_ ?_; rotate_left
                  · intro w'; go_simp; with_reducible rfl
                  rotate_left
                  · simp only [Act.put,List.setIfInBounds_toArray,List.set_cons_zero,List.set_cons_succ,i64_w,i32_w]; rfl
                  refine pure_ (i := 31) (N := some 56) (v := ?_) (a' := ?_) z12_32 rfl rfl (any_of HT_.out (by kernel_rfl)) (fun _ _ _ h => h) (Or.inl ⟨by rfl,?_⟩) ?_ ?_; rotate_left
                  · intro w'; go_simp; with_reducible rfl
                  rotate_left
                  · simp only [Act.put,List.setIfInBounds_toArray,List.set_cons_zero,List.set_cons_succ,i64_w,i32_w]; rfl
                  refine pure_ (i := 32) (N := some 57) (v := ?_) (a' := ?_) z12_33 rfl rfl (any_of HT_.out (by kernel_rfl)) (fun _ _ _ h => h) (Or.inl ⟨by rfl,?_⟩) ?_ ?_; rotate_left
                  · intro w'; go_simp; with_reducible rfl
                  rotate_left
                  · simp only [Act.put,List.setIfInBounds_toArray,List.set_cons_zero,List.set_cons_succ,i64_w,i32_w]; rfl
                  refine pure_ (i := 33) (N := some 58) (v := ?_) (a' := ?_) z12_34 rfl rfl (any_of HT_.out (by kernel_rfl)) (fun _ _ _ h => h) (Or.inl ⟨by rfl,?_⟩) ?_ ?_; rotate_left
                  · intro w'; go_simp; with_reducible rfl
                  rotate_left
                  · simp only [Act.put,List.setIfInBounds_toArray,List.set_cons_zero,List.set_cons_succ,i64_w,i32_w]; rfl
                  refine pure_ (i := 34) (N := some 59) (v := ?_) (a' := ?_) z12_35 rfl rfl (any_of HT_.out (by kernel_rfl)) (fun _ _ _ h => h) (Or.inl ⟨by rfl,?_⟩) ?_ ?_; rotate_left
                  · intro w'; go_simp; with_reducible rfl
                  rotate_left
                  · simp only [Act.put,List.setIfInBounds_toArray,List.set_cons_zero,List.set_cons_succ,i64_w,i32_w]; rfl
                  refine pure_ (i := 35) (N := some 60) (v := ?_) (a' := ?_) z12_36 rfl rfl (any_of HT_.out (by kernel_rfl)) (fun _ _ _ h => h) (Or.inl ⟨by rfl,?_⟩) ?_ ?_; rotate_left
                  · intro w'; go_simp; with_reducible rfl
                  rotate_left
                  · simp only [Act.put,List.setIfInBounds_toArray,List.set_cons_zero,List.set_cons_succ,i64_w,i32_w]; rfl
                  refine pure_ (i := 37) (N := some 62) (v := ?_) (a' := ?_) z12_65 rfl rfl (any_of HT_.out (by kernel_rfl)) (fun _ _ _ h => h) (Or.inl ⟨by rfl,?_⟩) ?_ ?_; rotate_left
                  · intro w'; go_simp; with_reducible rfl
                  rotate_left
                  · simp only [Act.put,List.setIfInBounds_toArray,List.set_cons_zero,List.set_cons_succ,i64_w,i32_w]; rfl
                  refine take_ (i := 36) (N := some 61) (v := ?_) (a' := ?_) z12_38 rfl rfl (take_ofW HT_.out HW_.out (by kernel_rfl)) (fun _ _ _ h => h) (Or.inl ⟨by rfl,?_⟩) hHeld ?_ ?_; rotate_left
                  ·
                   rintro w' ⟨s0,s1,s2,s3,s4,s5⟩
                   go_simp; with_reducible rfl
                  rotate_left
                  · simp only [Act.put,List.setIfInBounds_toArray,List.set_cons_zero,List.set_cons_succ,i64_w,i32_w]; rfl
                  refine take_ (i := 38) (N := some 63) (v := ?_) (a' := ?_) z12_39 rfl rfl (take_ofW HT_.out HW_.out (by kernel_rfl)) (fun _ _ _ h => h) (Or.inl ⟨by rfl,?_⟩) hHeld ?_ ?_; rotate_left
                  ·
                   rintro w' ⟨s0,s1,s2,s3,s4,s5⟩
                   go_simp; with_reducible rfl
                  rotate_left
                  · simp only [Act.put,List.setIfInBounds_toArray,List.set_cons_zero,List.set_cons_succ,i64_w,i32_w]; rfl
                  refine pure_ (i := 39) (N := some 64) (v := ?_) (a' := ?_) z12_40 rfl rfl (any_of HT_.out (by kernel_rfl)) (fun _ _ _ h => h) (Or.inl ⟨by rfl,?_⟩) ?_ ?_; rotate_left
                  · intro w'; go_simp; with_reducible rfl
                  rotate_left
                  · simp only [Act.put,List.setIfInBounds_toArray,List.set_cons_zero,List.set_cons_succ,i64_w,i32_w]; rfl
                  refine pure_ (i := 40) (N := some 65) (v := ?_) (a' := ?_) z12_41 rfl rfl (any_of HT_.out (by kernel_rfl)) (fun _ _ _ h => h) (Or.inl ⟨by rfl,?_⟩) ?_ ?_; rotate_left
                  · intro w'; go_simp; with_reducible rfl
                  rotate_left
                  · simp only [Act.put,List.setIfInBounds_toArray,List.set_cons_zero,List.set_cons_succ,i64_w,i32_w]; rfl
                  refine pure_ (i := 41) (N := some 66) (v := undef) (a' := ?_) z12_42 rfl rfl (any_of HT_.out (by kernel_rfl)) (fun _ _ _ h => h) (Or.inr ⟨by rfl,rfl⟩) ?_ ?_; rotate_left
                  · simp only [Act.put,List.setIfInBounds_toArray,List.set_cons_zero,List.set_cons_succ,i64_w,i32_w]; rfl
                  refine pure_ (i := 42) (N := some 67) (v := undef) (a' := ?_) z12_43 rfl rfl (any_of HT_.out (by kernel_rfl)) (fun _ _ _ h => h) (Or.inr ⟨by rfl,rfl⟩) ?_ ?_; rotate_left
                  · simp only [Act.put,List.setIfInBounds_toArray,List.set_cons_zero,List.set_cons_succ,i64_w,i32_w]; rfl
                  refine pure_ (i := 43) (N := some 68) (v := undef) (a' := ?_) z12_44 rfl rfl (any_of HT_.out (by kernel_rfl)) (fun _ _ _ h => h) (Or.inr ⟨by rfl,rfl⟩) ?_ ?_; rotate_left
                  · simp only [Act.put,List.setIfInBounds_toArray,List.set_cons_zero,List.set_cons_succ,i64_w,i32_w]; rfl
                  refine pure_ (i := 44) (N := some 69) (v := undef) (a' := ?_) z12_45 rfl rfl (any_of HT_.out (by kernel_rfl)) (fun _ _ _ h => h) (Or.inr ⟨by rfl,rfl⟩) ?_ ?_; rotate_left
                  · simp only [Act.put,List.setIfInBounds_toArray,List.set_cons_zero,List.set_cons_succ,i64_w,i32_w]; rfl
                  refine pure_ (i := 45) (N := some 70) (v := undef) (a' := ?_) z12_46 rfl rfl (any_of HT_.out (by kernel_rfl)) (fun _ _ _ h => h) (Or.inr ⟨by rfl,rfl⟩) ?_ ?_; rotate_left
                  · simp only [Act.put,List.setIfInBounds_toArray,List.set_cons_zero,List.set_cons_succ,i64_w,i32_w]; rfl
                  refine pure_ (i := 46) (N := some 71) (v := undef) (a' := ?_) z12_47 rfl rfl (any_of HT_.out (by kernel_rfl)) (fun _ _ _ h => h) (Or.inr ⟨by rfl,rfl⟩) ?_ ?_; rotate_left
                  · simp only [Act.put,List.setIfInBounds_toArray,List.set_cons_zero,List.set_cons_succ,i64_w,i32_w]; rfl
                  refine pure_ (i := 47) (N := some 72) (v := undef) (a' := ?_) z12_48 rfl rfl (any_of HT_.out (by kernel_rfl)) (fun _ _ _ h => h) (Or.inr ⟨by rfl,rfl⟩) ?_ ?_; rotate_left
                  · simp only [Act.put,List.setIfInBounds_toArray,List.set_cons_zero,List.set_cons_succ,i64_w,i32_w]; rfl
                  refine pure_ (i := 48) (N := some 73) (v := undef) (a' := ?_) z12_49 rfl rfl (any_of HT_.out (by kernel_rfl)) (fun _ _ _ h => h) (Or.inr ⟨by rfl,rfl⟩) ?_ ?_; rotate_left
                  · simp only [Act.put,List.setIfInBounds_toArray,List.set_cons_zero,List.set_cons_succ,i64_w,i32_w]; rfl
                  refine pure_ (i := 49) (N := some 74) (v := undef) (a' := ?_) z12_50 rfl rfl (any_of HT_.out (by kernel_rfl)) (fun _ _ _ h => h) (Or.inr ⟨by rfl,rfl⟩) ?_ ?_; rotate_left
                  · simp only [Act.put,List.setIfInBounds_toArray,List.set_cons_zero,List.set_cons_succ,i64_w,i32_w]; rfl
                  refine pure_ (i := 50) (N := some 75) (v := undef) (a' := ?_) z12_51 rfl rfl (any_of HT_.out (by kernel_rfl)) (fun _ _ _ h => h) (Or.inr ⟨by rfl,rfl⟩) ?_ ?_; rotate_left
                  · simp only [Act.put,List.setIfInBounds_toArray,List.set_cons_zero,List.set_cons_succ,i64_w,i32_w]; rfl
                  refine pure_ (i := 51) (N := some 76) (v := undef) (a' := ?_) z12_52 rfl rfl (any_of HT_.out (by kernel_rfl)) (fun _ _ _ h => h) (Or.inr ⟨by rfl,rfl⟩) ?_ ?_; rotate_left
                  · simp only [Act.put,List.setIfInBounds_toArray,List.set_cons_zero,List.set_cons_succ,i64_w,i32_w]; rfl
                  refine pure_ (i := 52) (N := some 77) (v := undef) (a' := ?_) z12_53 rfl rfl (any_of HT_.out (by kernel_rfl)) (fun _ _ _ h => h) (Or.inr ⟨by rfl,rfl⟩) ?_ ?_; rotate_left
                  · simp only [Act.put,List.setIfInBounds_toArray,List.set_cons_zero,List.set_cons_succ,i64_w,i32_w]; rfl
                  refine pure_ (i := 53) (N := some 78) (v := undef) (a' := ?_) z12_54 rfl rfl (any_of HT_.out (by kernel_rfl)) (fun _ _ _ h => h) (Or.inr ⟨by rfl,rfl⟩) ?_ ?_; rotate_left
                  · simp only [Act.put,List.setIfInBounds_toArray,List.set_cons_zero,List.set_cons_succ,i64_w,i32_w]; rfl
                  refine pure_ (i := 54) (N := some 79) (v := undef) (a' := ?_) z12_55 rfl rfl (any_of HT_.out (by kernel_rfl)) (fun _ _ _ h => h) (Or.inr ⟨by rfl,rfl⟩) ?_ ?_; rotate_left
                  · simp only [Act.put,List.setIfInBounds_toArray,List.set_cons_zero,List.set_cons_succ,i64_w,i32_w]; rfl
                  refine pure_ (i := 55) (N := some 80) (v := undef) (a' := ?_) z12_56 rfl rfl (any_of HT_.out (by kernel_rfl)) (fun _ _ _ h => h) (Or.inr ⟨by rfl,rfl⟩) ?_ ?_; rotate_left
                  · simp only [Act.put,List.setIfInBounds_toArray,List.set_cons_zero,List.set_cons_succ,i64_w,i32_w]; rfl
                  refine pure_ (i := 56) (N := some 81) (v := undef) (a' := ?_) z12_57 rfl rfl (any_of HT_.out (by kernel_rfl)) (fun _ _ _ h => h) (Or.inr ⟨by rfl,rfl⟩) ?_ ?_; rotate_left
                  · simp only [Act.put,List.setIfInBounds_toArray,List.set_cons_zero,List.set_cons_succ,i64_w,i32_w]; rfl
                  refine pure_ (i := 57) (N := some 82) (v := undef) (a' := ?_) z12_58 rfl rfl (any_of HT_.out (by kernel_rfl)) (fun _ _ _ h => h) (Or.inr ⟨by rfl,rfl⟩) ?_ ?_; rotate_left
                  · simp only [Act.put,List.setIfInBounds_toArray,List.set_cons_zero,List.set_cons_succ,i64_w,i32_w]; rfl
                  refine pure_ (i := 58) (N := some 83) (v := undef) (a' := ?_) z12_59 rfl rfl (any_of HT_.out (by kernel_rfl)) (fun _ _ _ h => h) (Or.inr ⟨by rfl,rfl⟩) ?_ ?_; rotate_left
                  · simp only [Act.put,List.setIfInBounds_toArray,List.set_cons_zero,List.set_cons_succ,i64_w,i32_w]; rfl
                  refine pure_ (i := 59) (N := some 84) (v := undef) (a' := ?_) z12_60 rfl rfl (any_of HT_.out (by kernel_rfl)) (fun _ _ _ h => h) (Or.inr ⟨by rfl,rfl⟩) ?_ ?_; rotate_left
                  · simp only [Act.put,List.setIfInBounds_toArray,List.set_cons_zero,List.set_cons_succ,i64_w,i32_w]; rfl
                  refine pure_ (i := 60) (N := some 85) (v := undef) (a' := ?_) z12_61 rfl rfl (any_of HT_.out (by kernel_rfl)) (fun _ _ _ h => h) (Or.inr ⟨by rfl,rfl⟩) ?_ ?_; rotate_left
                  · simp only [Act.put,List.setIfInBounds_toArray,List.set_cons_zero,List.set_cons_succ,i64_w,i32_w]; rfl
                  refine pure_ (i := 61) (N := some 86) (v := ?_) (a' := ?_) z12_62 rfl rfl (any_of HT_.out (by kernel_rfl)) (fun _ _ _ h => h) (Or.inl ⟨by rfl,?_⟩) ?_ ?_; rotate_left
                  · intro w'; go_simp; with_reducible rfl
                  rotate_left
                  · simp only [Act.put,List.setIfInBounds_toArray,List.set_cons_zero,List.set_cons_succ,i64_w,i32_w]; rfl
                  refine pure_ (i := 62) (N := some 87) (v := ?_) (a' := ?_) z12_63 rfl rfl (any_of HT_.out (by kernel_rfl)) (fun _ _ _ h => h) (Or.inl ⟨by rfl,?_⟩) ?_ ?_; rotate_left
                  · intro w'; go_simp; with_reducible rfl
                  rotate_left
                  · simp only [Act.put,List.setIfInBounds_toArray,List.set_cons_zero,List.set_cons_succ,i64_w,i32_w]; rfl
                  refine pure_ (i := 63) (N := some 88) (v := ?_) (a' := ?_) z12_64 rfl rfl (any_of HT_.out (by kernel_rfl)) (fun _ _ _ h => h) (Or.inl ⟨by rfl,?_⟩) ?_ ?_; rotate_left
                  · intro w'; go_simp; with_reducible rfl
                  rotate_left
                  · simp only [Act.put,List.setIfInBounds_toArray,List.set_cons_zero,List.set_cons_succ,i64_w,i32_w]; rfl
                  refine done_ (done_of HT_.out (by kernel_rfl)) ?_
                  try go_wp2
                  go_meet
                  case rel => exact ⟨_,(true),(by first|rfl|(simp; done)|(simp [*]; done)),H',⟨by have := HJ2.out; have := HK2.out; first|omega|exact Nat.le_refl _⟩,⟨(rrB9 BK128.out)⟩,⟨by repeat (first|(with_reducible first|exact HB.out|apply zC|apply zE|apply zD|refine zB ?_ GE128.out)|exact HB.out)⟩⟩
                 ·
                  rw [if_neg c25] at H
                  have c25b0 : decide (((rd_T38 l1 x5_2).f0) < ((rd_T38 l1 (ji22)).f0)) = false := decide_eq_false c25
                  clear c25
                  by_cases c28 : ((rd_T38 l1 (ji22)).f0) = ((rd_T38 l1 x5_2).f0)
                  ·
                   rw [if_pos c28] at H
                   have c28b0 : (((rd_T38 l1 (ji22)).f0) == ((rd_T38 l1 x5_2).f0)) = true := beq_iff_eq.mpr c28
                   have c28b1 : (((rd_T38 l1 (ji22)).f0) != ((rd_T38 l1 x5_2).f0)) = false := bne_eq_false_iff_eq.mpr c28
                   clear c28
                   have H' := zA H
                   clear H
                   try go_wp2
                   have n0_ : Aside0 ((((w10.setCell ⟨gb128,0,none⟩ (.int .i64 ((rd_T38 l1 x5_2).f0))).setCell ⟨gb128,1,none⟩ (.int .i64 ((rd_T38 l1 x5_2).f1))).setCell ⟨gb128,2,none⟩ (.int .i64 ((rd_T38 l1 x5_2).f2))).heap[gb128]? = some (.cells #[.int .i64 ((rd_T38 l1 x5_2).f0),.int .i64 ((rd_T38 l1 x5_2).f1),.int .i64 ((rd_T38 l1 x5_2).f2)] 38 (0,0))) := ⟨by (with_reducible repeat (first|refine zF ?_ _|refine zH ?_|refine zG ?_ _)); refine blk_put (cs := #[.int .i64 ((rd_T38 l1 x5_2).f0),.int .i64 ((rd_T38 l1 x5_2).f1),.int .i64 0]) ?_ 2 _ rfl; (with_reducible repeat (first|refine zF ?_ _|refine zH ?_|refine zG ?_ _)); refine blk_put (cs := #[.int .i64 ((rd_T38 l1 x5_2).f0),.int .i64 0,.int .i64 0]) ?_ 1 _ rfl; (with_reducible repeat (first|refine zF ?_ _|refine zH ?_|refine zG ?_ _)); refine blk_put (cs := #[.int .i64 0,.int .i64 0,.int .i64 0]) ?_ 0 _ rfl; (with_reducible repeat (first|refine zF ?_ _|refine zH ?_|refine zG ?_ _)); exact BK128.out⟩
                   have n1_ : Aside0 (Below w.heap.size w (((w10.setCell ⟨gb128,0,none⟩ (.int .i64 ((rd_T38 l1 x5_2).f0))).setCell ⟨gb128,1,none⟩ (.int .i64 ((rd_T38 l1 x5_2).f1))).setCell ⟨gb128,2,none⟩ (.int .i64 ((rd_T38 l1 x5_2).f2)))) := ⟨by repeat (first|(with_reducible first|exact HB.out|apply zC|apply zE|apply zD|refine zB ?_ GE128.out)|exact HB.out)⟩
                   (try clear BK128)
                   (try clear HB)
                   generalize (((w10.setCell ⟨gb128,0,none⟩ (.int .i64 ((rd_T38 l1 x5_2).f0))).setCell ⟨gb128,1,none⟩ (.int .i64 ((rd_T38 l1 x5_2).f1))).setCell ⟨gb128,2,none⟩ (.int .i64 ((rd_T38 l1 x5_2).f2))) = w29 at n0_ n1_ ⊢
                   have BK128 := n0_
                   have HB := n1_
                   clear n0_ n1_
                   have n0_ := zA (zH BK128.out)
                   have n1_ := zA (zD HB.out)
                   clear BK128 HB
                   have BK128 := n0_
                   have HB := n1_
                   clear n0_ n1_
                   have p132 : 0 ≤ ((ji22) : Int) := of_decide_eq_true (by first|(with_reducible assumption) | assumption)
                   have q132 : (ji22) < (l1.length : Int) := of_decide_eq_true (by first|(with_reducible assumption) | assumption)
                   obtain ⟨ad132,e132,hx132_0,hx132_1,hx132_2⟩ := at_T38 HR1.out (ji22) p132 q132
                   have hw132_2 := hx132_2
                   have hw132_1 := hx132_1
                   have hw132_0 := hx132_0
                   obtain rfl : ad127 = ad132 := (by injection e132)
                   replace hx132_0 := (HB.out.cell (World.block_lt_of_cell? w _ hx132_0)).trans hx132_0
                   replace hx132_1 := (HB.out.cell (World.block_lt_of_cell? w _ hx132_1)).trans hx132_1
                   replace hx132_2 := (HB.out.cell (World.block_lt_of_cell? w _ hx132_2)).trans hx132_2
                   replace p132 := eq_true p132
                   replace q132 := eq_true q132
                   have p133 : 0 ≤ ((ji22) : Int) := of_decide_eq_true (by first|(with_reducible assumption) | assumption)
                   have q133 : (ji22) < (l1.length : Int) := of_decide_eq_true (by first|(with_reducible assumption) | assumption)
                   obtain ⟨ad133,e133,hx133_0,hx133_1,hx133_2⟩ := at_T38 HR1.out (ji22) p133 q133
                   have hw133_2 := hx133_2
                   have hw133_1 := hx133_1
                   have hw133_0 := hx133_0
                   obtain rfl : ad127 = ad133 := (by injection e133)
                   replace hx133_0 := (HB.out.cell (World.block_lt_of_cell? w _ hx133_0)).trans hx133_0
                   replace hx133_1 := (HB.out.cell (World.block_lt_of_cell? w _ hx133_1)).trans hx133_1
                   replace hx133_2 := (HB.out.cell (World.block_lt_of_cell? w _ hx133_2)).trans hx133_2
                   replace p133 := eq_true p133
                   replace q133 := eq_true q133
                   have p134 : 0 ≤ ((ji22) : Int) := of_decide_eq_true (by first|(with_reducible assumption) | assumption)
                   have q134 : (ji22) < (l1.length : Int) := of_decide_eq_true (by first|(with_reducible assumption) | assumption)
                   obtain ⟨ad134,e134,hx134_0,hx134_1,hx134_2⟩ := at_T38 HR1.out (ji22) p134 q134
                   have hw134_2 := hx134_2
                   have hw134_1 := hx134_1
                   have hw134_0 := hx134_0
                   obtain rfl : ad127 = ad134 := (by injection e134)
                   replace hx134_0 := (HB.out.cell (World.block_lt_of_cell? w _ hx134_0)).trans hx134_0
                   replace hx134_1 := (HB.out.cell (World.block_lt_of_cell? w _ hx134_1)).trans hx134_1
                   replace hx134_2 := (HB.out.cell (World.block_lt_of_cell? w _ hx134_2)).trans hx134_2
                   replace p134 := eq_true p134
                   replace q134 := eq_true q134
                   refine start_ (n := 64) (S := fun w' => w'.cell? ⟨gb128,0,none⟩ = some (.int .i64 ((rd_T38 l1 x5_2).f0)) ∧ w'.cell? ⟨gb128,1,none⟩ = some (.int .i64 ((rd_T38 l1 x5_2).f1)) ∧ w'.cell? ⟨gb128,2,none⟩ = some (.int .i64 ((rd_T38 l1 x5_2).f2)) ∧ w'.cell? (ad127.add (((ji22)).toNat * 3)) = some (.int .i64 ((rd_T38 l1 (ji22)).f0)) ∧ w'.cell? ⟨(ad127.add (((ji22)).toNat * 3)).block,(ad127.add (((ji22)).toNat * 3)).off + 1,none⟩ = some (.int .i64 ((rd_T38 l1 (ji22)).f1)) ∧ w'.cell? ⟨(ad127.add (((ji22)).toNat * 3)).block,(ad127.add (((ji22)).toNat * 3)).off + 2,none⟩ = some (.int .i64 ((rd_T38 l1 (ji22)).f2)) ∧ w'.cell? (ad127.add (((ji22)).toNat * 3)) = some (.int .i64 ((rd_T38 l1 (ji22)).f0)) ∧ w'.cell? ⟨(ad127.add (((ji22)).toNat * 3)).block,(ad127.add (((ji22)).toNat * 3)).off + 1,none⟩ = some (.int .i64 ((rd_T38 l1 (ji22)).f1)) ∧ w'.cell? ⟨(ad127.add (((ji22)).toNat * 3)).block,(ad127.add (((ji22)).toNat * 3)).off + 2,none⟩ = some (.int .i64 ((rd_T38 l1 (ji22)).f2)) ∧ w'.cell? (ad127.add (((ji22)).toNat * 3)) = some (.int .i64 ((rd_T38 l1 (ji22)).f0)) ∧ w'.cell? ⟨(ad127.add (((ji22)).toNat * 3)).block,(ad127.add (((ji22)).toNat * 3)).off + 1,none⟩ = some (.int .i64 ((rd_T38 l1 (ji22)).f1)) ∧ w'.cell? ⟨(ad127.add (((ji22)).toNat * 3)).block,(ad127.add (((ji22)).toNat * 3)).off + 2,none⟩ = some (.int .i64 ((rd_T38 l1 (ji22)).f2))) (ds := []) z12_0 (by kernel_rfl) rfl rfl ⟨(zI BK128.out 0).trans rfl,(zI BK128.out 1).trans rfl,(zI BK128.out 2).trans rfl,((HB.out.cell (World.block_lt_of_cell? w _ hw132_0)).trans hw132_0),((HB.out.cell (World.block_lt_of_cell? w _ hw132_1)).trans hw132_1),((HB.out.cell (World.block_lt_of_cell? w _ hw132_2)).trans hw132_2),((HB.out.cell (World.block_lt_of_cell? w _ hw133_0)).trans hw133_0),((HB.out.cell (World.block_lt_of_cell? w _ hw133_1)).trans hw133_1),((HB.out.cell (World.block_lt_of_cell? w _ hw133_2)).trans hw133_2),((HB.out.cell (World.block_lt_of_cell? w _ hw134_0)).trans hw134_0),((HB.out.cell (World.block_lt_of_cell? w _ hw134_1)).trans hw134_1),((HB.out.cell (World.block_lt_of_cell? w _ hw134_2)).trans hw134_2)⟩ (fun hHeld => ?_); refine with_tabW spec_RoadsOk.tab7 spec_RoadsOk.bits7 (fun HT_ HW_ => ?_)
                   generalize w29.drew = w30 at BK128 HB hx132_0 hx132_1 hx132_2 hx133_0 hx133_1 hx133_2 hx134_0 hx134_1 hx134_2 hHeld ⊢
                   refine pure_ (i := 0) (N := some 25) (v := ?_) (a' := ?_) z12_1 rfl rfl (any_of HT_.out (by kernel_rfl)) (fun _ _ _ h => h) (Or.inl ⟨by rfl,?_⟩) ?_ ?_; rotate_left
                   · intro w'; go_simp; with_reducible rfl
                   rotate_left
                   · simp only [Act.put,List.setIfInBounds_toArray,List.set_cons_zero,List.set_cons_succ,i64_w,i32_w]; rfl
                   refine pure_ (i := 2) (N := some 27) (v := ?_) (a' := ?_) z12_2 rfl rfl (any_of HT_.out (by kernel_rfl)) (fun _ _ _ h => h) (Or.inl ⟨by rfl,?_⟩) ?_ ?_; rotate_left
                   · intro w'; go_simp; with_reducible rfl
                   rotate_left
                   · simp only [Act.put,List.setIfInBounds_toArray,List.set_cons_zero,List.set_cons_succ,i64_w,i32_w]; rfl
                   refine pure_ (i := 3) (N := some 28) (v := ?_) (a' := ?_) z12_3 rfl rfl (any_of HT_.out (by kernel_rfl)) (fun _ _ _ h => h) (Or.inl ⟨by rfl,?_⟩) ?_ ?_; rotate_left
                   · intro w'; go_simp; with_reducible rfl
                   rotate_left
                   · simp only [Act.put,List.setIfInBounds_toArray,List.set_cons_zero,List.set_cons_succ,i64_w,i32_w]; rfl
                   refine take_ (i := 1) (N := some 26) (v := ?_) (a' := ?_) z12_4 rfl rfl (take_ofW HT_.out HW_.out (by kernel_rfl)) (fun _ _ _ h => h) (Or.inl ⟨by rfl,?_⟩) hHeld ?_ ?_; rotate_left
                   ·
                    rintro w' ⟨s0,s1,s2,s3,s4,s5,s6,s7,s8,s9,s10,s11⟩
                    go_simp; with_reducible rfl
                   rotate_left
                   · simp only [Act.put,List.setIfInBounds_toArray,List.set_cons_zero,List.set_cons_succ,i64_w,i32_w]; rfl
                   refine one_ (i := 4) (N := some 29) z12_5 rfl rfl (one_of HT_.out (by kernel_rfl)) (by decide) (fun K hK => ?_)
                   refine goes_ Try.func34 (by kernel_rfl) rfl #[.int .i64 ((rd_T38 l1 x5_2).f0),.int .i64 0,.int .i64 (wrap64 (a0 - 1))] (by rfl) rfl rfl (by (try simp only [List.map_toArray,List.map_cons,List.map_nil]); first | done|rfl|(simp only [List.length_drop,List.length_take]; rfl)) ?_
                   with_reducible refine (spec_l01In.calls ((rd_T38 l1 x5_2).f0) 0 (wrap64 (a0 - 1)) true _ A12.out).mono ?_
                   rintro e w' ⟨rfl,⟨nd,rfl⟩⟩
                   refine ⟨_,rfl,?_⟩
                   refine hK.out _ _ ⟨(zI BK128.out 0).trans rfl,(zI BK128.out 1).trans rfl,(zI BK128.out 2).trans rfl,((HB.out.cell (World.block_lt_of_cell? w _ hw132_0)).trans hw132_0),((HB.out.cell (World.block_lt_of_cell? w _ hw132_1)).trans hw132_1),((HB.out.cell (World.block_lt_of_cell? w _ hw132_2)).trans hw132_2),((HB.out.cell (World.block_lt_of_cell? w _ hw133_0)).trans hw133_0),((HB.out.cell (World.block_lt_of_cell? w _ hw133_1)).trans hw133_1),((HB.out.cell (World.block_lt_of_cell? w _ hw133_2)).trans hw133_2),((HB.out.cell (World.block_lt_of_cell? w _ hw134_0)).trans hw134_0),((HB.out.cell (World.block_lt_of_cell? w _ hw134_1)).trans hw134_1),((HB.out.cell (World.block_lt_of_cell? w _ hw134_2)).trans hw134_2)⟩ (fun hHeld => ?_)
                   clear hK K
                   refine norm_ (a' := ?_) ?_ ?_
                   rotate_left
                   ·
                    show Act.put _ (some 29) _ = _
                    simp only [Act.put,List.setIfInBounds_toArray,List.set_cons_zero,List.set_cons_succ,i64_w,i32_w]; rfl
                   refine pure_ (i := 5) (N := some 30) (v := ?_) (a' := ?_) z12_6 rfl rfl (any_of HT_.out (by kernel_rfl)) (fun _ _ _ h => h) (Or.inl ⟨by rfl,?_⟩) ?_ ?_; rotate_left
                   · intro w'; go_simp; with_reducible rfl
                   rotate_left
                   · simp only [Act.put,List.setIfInBounds_toArray,List.set_cons_zero,List.set_cons_succ,i64_w,i32_w]; rfl
                   refine pure_ (i := 6) (N := some 31) (v := ?_) (a' := ?_) z12_7 rfl rfl (any_of HT_.out (by kernel_rfl)) (fun _ _ _ h => h) (Or.inl ⟨by rfl,?_⟩) ?_ ?_; rotate_left
                   · intro w'; go_simp; with_reducible rfl
                   rotate_left
                   · simp only [Act.put,List.setIfInBounds_toArray,List.set_cons_zero,List.set_cons_succ,i64_w,i32_w]; rfl
                   refine pure_ (i := 7) (N := some 32) (v := ?_) (a' := ?_) z12_8 rfl rfl (any_of HT_.out (by kernel_rfl)) (fun _ _ _ h => h) (Or.inl ⟨by rfl,?_⟩) ?_ ?_; rotate_left
                   · intro w'; go_simp; with_reducible rfl
                   rotate_left
                   · simp only [Act.put,List.setIfInBounds_toArray,List.set_cons_zero,List.set_cons_succ,i64_w,i32_w]; rfl
                   refine pure_ (i := 9) (N := some 34) (v := ?_) (a' := ?_) z12_9 rfl rfl (any_of HT_.out (by kernel_rfl)) (fun _ _ _ h => h) (Or.inl ⟨by rfl,?_⟩) ?_ ?_; rotate_left
                   · intro w'; go_simp; with_reducible rfl
                   rotate_left
                   · simp only [Act.put,List.setIfInBounds_toArray,List.set_cons_zero,List.set_cons_succ,i64_w,i32_w]; rfl
                   refine pure_ (i := 10) (N := some 35) (v := ?_) (a' := ?_) z12_10 rfl rfl (any_of HT_.out (by kernel_rfl)) (fun _ _ _ h => h) (Or.inl ⟨by rfl,?_⟩) ?_ ?_; rotate_left
                   · intro w'; go_simp; with_reducible rfl
                   rotate_left
                   · simp only [Act.put,List.setIfInBounds_toArray,List.set_cons_zero,List.set_cons_succ,i64_w,i32_w]; rfl
                   refine take_ (i := 8) (N := some 33) (v := ?_) (a' := ?_) z12_11 rfl rfl (take_ofW HT_.out HW_.out (by kernel_rfl)) (fun _ _ _ h => h) (Or.inl ⟨by rfl,?_⟩) hHeld ?_ ?_; rotate_left
                   ·
                    rintro w' ⟨s0,s1,s2,s3,s4,s5,s6,s7,s8,s9,s10,s11⟩
                    go_simp; with_reducible rfl
                   rotate_left
                   · simp only [Act.put,List.setIfInBounds_toArray,List.set_cons_zero,List.set_cons_succ,i64_w,i32_w]; rfl
                   refine one_ (i := 11) (N := some 36) z12_12 rfl rfl (one_of HT_.out (by kernel_rfl)) (by decide) (fun K hK => ?_)
                   refine goes_ Try.func34 (by kernel_rfl) rfl #[.int .i64 ((rd_T38 l1 x5_2).f1),.int .i64 0,.int .i64 (wrap64 (a0 - 1))] (by rfl) rfl rfl (by (try simp only [List.map_toArray,List.map_cons,List.map_nil]); first | done|rfl|(simp only [List.length_drop,List.length_take]; rfl)) ?_
                   with_reducible refine (spec_l01In.calls ((rd_T38 l1 x5_2).f1) 0 (wrap64 (a0 - 1)) true _ A14.out).mono ?_
                   rintro e w' ⟨rfl,⟨nd,rfl⟩⟩
                   refine ⟨_,rfl,?_⟩
                   refine hK.out _ _ ⟨(zI BK128.out 0).trans rfl,(zI BK128.out 1).trans rfl,(zI BK128.out 2).trans rfl,((HB.out.cell (World.block_lt_of_cell? w _ hw132_0)).trans hw132_0),((HB.out.cell (World.block_lt_of_cell? w _ hw132_1)).trans hw132_1),((HB.out.cell (World.block_lt_of_cell? w _ hw132_2)).trans hw132_2),((HB.out.cell (World.block_lt_of_cell? w _ hw133_0)).trans hw133_0),((HB.out.cell (World.block_lt_of_cell? w _ hw133_1)).trans hw133_1),((HB.out.cell (World.block_lt_of_cell? w _ hw133_2)).trans hw133_2),((HB.out.cell (World.block_lt_of_cell? w _ hw134_0)).trans hw134_0),((HB.out.cell (World.block_lt_of_cell? w _ hw134_1)).trans hw134_1),((HB.out.cell (World.block_lt_of_cell? w _ hw134_2)).trans hw134_2)⟩ (fun hHeld => ?_)
                   clear hK K
                   refine norm_ (a' := ?_) ?_ ?_
                   rotate_left
                   ·
                    show Act.put _ (some 36) _ = _
                    simp only [Act.put,List.setIfInBounds_toArray,List.set_cons_zero,List.set_cons_succ,i64_w,i32_w]; rfl
                   refine pure_ (i := 12) (N := some 37) (v := ?_) (a' := ?_) z12_13 rfl rfl (any_of HT_.out (by kernel_rfl)) (fun _ _ _ h => h) (Or.inl ⟨by rfl,?_⟩) ?_ ?_; rotate_left
                   · intro w'; go_simp; with_reducible rfl
                   rotate_left
                   · simp only [Act.put,List.setIfInBounds_toArray,List.set_cons_zero,List.set_cons_succ,i64_w,i32_w]; rfl
                   refine pure_ (i := 13) (N := some 38) (v := ?_) (a' := ?_) z12_14 rfl rfl (any_of HT_.out (by kernel_rfl)) (fun _ _ _ h => h) (Or.inl ⟨by rfl,?_⟩) ?_ ?_; rotate_left
                   · intro w'; go_simp; with_reducible rfl
                   rotate_left
                   · simp only [Act.put,List.setIfInBounds_toArray,List.set_cons_zero,List.set_cons_succ,i64_w,i32_w]; rfl
                   refine pure_ (i := 14) (N := some 39) (v := ?_) (a' := ?_) z12_15 rfl rfl (any_of HT_.out (by kernel_rfl)) (fun _ _ _ h => h) (Or.inl ⟨by rfl,?_⟩) ?_ ?_; rotate_left
                   · intro w'; go_simp; with_reducible rfl
                   rotate_left
                   · simp only [Act.put,List.setIfInBounds_toArray,List.set_cons_zero,List.set_cons_succ,i64_w,i32_w]; rfl
                   refine pure_ (i := 15) (N := some 40) (v := ?_) (a' := ?_) z12_16 rfl rfl (any_of HT_.out (by kernel_rfl)) (fun _ _ _ h => h) (Or.inl ⟨by rfl,?_⟩) ?_ ?_; rotate_left
                   · intro w'; go_simp; with_reducible rfl
                   rotate_left
                   · simp only [Act.put,List.setIfInBounds_toArray,List.set_cons_zero,List.set_cons_succ,i64_w,i32_w]; rfl
                   refine pure_ (i := 17) (N := some 42) (v := ?_) (a' := ?_) z12_17 rfl rfl (any_of HT_.out (by kernel_rfl)) (fun _ _ _ h => h) (Or.inl ⟨by rfl,?_⟩) ?_ ?_; rotate_left
                   · intro w'; go_simp; with_reducible rfl
                   rotate_left
                   · simp only [Act.put,List.setIfInBounds_toArray,List.set_cons_zero,List.set_cons_succ,i64_w,i32_w]; rfl
                   refine take_ (i := 16) (N := some 41) (v := ?_) (a' := ?_) z12_18 rfl rfl (take_ofW HT_.out HW_.out (by kernel_rfl)) (fun _ _ _ h => h) (Or.inl ⟨by rfl,?_⟩) hHeld ?_ ?_; rotate_left
                   ·
                    rintro w' ⟨s0,s1,s2,s3,s4,s5,s6,s7,s8,s9,s10,s11⟩
                    go_simp; with_reducible rfl
                   rotate_left
                   · simp only [Act.put,List.setIfInBounds_toArray,List.set_cons_zero,List.set_cons_succ,i64_w,i32_w]; rfl
                   refine take_ (i := 18) (N := some 43) (v := ?_) (a' := ?_) z12_19 rfl rfl (take_ofW HT_.out HW_.out (by kernel_rfl)) (fun _ _ _ h => h) (Or.inl ⟨by rfl,?_⟩) hHeld ?_ ?_; rotate_left
                   ·
                    rintro w' ⟨s0,s1,s2,s3,s4,s5,s6,s7,s8,s9,s10,s11⟩
                    go_simp; with_reducible rfl
                   rotate_left
                   · simp only [Act.put,List.setIfInBounds_toArray,List.set_cons_zero,List.set_cons_succ,i64_w,i32_w]; rfl
                   refine pure_ (i := 19) (N := some 44) (v := ?_) (a' := ?_) z12_20 rfl rfl (any_of HT_.out (by kernel_rfl)) (fun _ _ _ h => h) (Or.inl ⟨by rfl,?_⟩) ?_ ?_; rotate_left
                   · intro w'; go_simp; with_reducible rfl
                   rotate_left
                   · simp only [Act.put,List.setIfInBounds_toArray,List.set_cons_zero,List.set_cons_succ,i64_w,i32_w]; rfl
                   refine pure_ (i := 20) (N := some 45) (v := ?_) (a' := ?_) z12_21 rfl rfl (any_of HT_.out (by kernel_rfl)) (fun _ _ _ h => h) (Or.inl ⟨by rfl,?_⟩) ?_ ?_; rotate_left
                   · intro w'; go_simp; with_reducible rfl
                   rotate_left
                   · simp only [Act.put,List.setIfInBounds_toArray,List.set_cons_zero,List.set_cons_succ,i64_w,i32_w]; rfl
                   refine pure_ (i := 21) (N := some 46) (v := ?_) (a' := ?_) z12_22 rfl rfl (any_of HT_.out (by kernel_rfl)) (fun _ _ _ h => h) (Or.inl ⟨by rfl,?_⟩) ?_ ?_; rotate_left
                   · intro w'; go_simp; with_reducible rfl
                   rotate_left
                   · simp only [Act.put,List.setIfInBounds_toArray,List.set_cons_zero,List.set_cons_succ,i64_w,i32_w]; rfl
                   refine pure_ (i := 22) (N := some 47) (v := ?_) (a' := ?_) z12_23 rfl rfl (any_of HT_.out (by kernel_rfl)) (fun _ _ _ h => h) (Or.inl ⟨by rfl,?_⟩) ?_ ?_; rotate_left
                   · intro w'; go_simp; with_reducible rfl
                   rotate_left
                   · simp only [Act.put,List.setIfInBounds_toArray,List.set_cons_zero,List.set_cons_succ,i64_w,i32_w]; rfl
                   refine take_ (i := 23) (N := some 48) (v := ?_) (a' := ?_) z12_24 rfl rfl (take_ofW HT_.out HW_.out (by kernel_rfl)) (fun _ _ _ h => h) (Or.inl ⟨by rfl,?_⟩) hHeld ?_ ?_; rotate_left
                   ·
                    rintro w' ⟨s0,s1,s2,s3,s4,s5,s6,s7,s8,s9,s10,s11⟩
                    go_simp; with_reducible rfl
                   rotate_left
                   · simp only [Act.put,List.setIfInBounds_toArray,List.set_cons_zero,List.set_cons_succ,i64_w,i32_w]; rfl
                   refine one_ (i := 24) (N := some 49) z12_25 rfl rfl (one_of HT_.out (by kernel_rfl)) (by decide) (fun K hK => ?_)
                   refine goes_ Try.func34 (by kernel_rfl) rfl #[.int .i64 ((rd_T38 l1 x5_2).f2),.int .i64 1,.int .i64 100] (by rfl) rfl rfl (by (try simp only [List.map_toArray,List.map_cons,List.map_nil]); first | done|rfl|(simp only [List.length_drop,List.length_take]; rfl)) ?_
                   with_reducible refine (spec_l01In.calls ((rd_T38 l1 x5_2).f2) 1 100 true _ A19.out).mono ?_
                   rintro e w' ⟨rfl,⟨nd,rfl⟩⟩
                   refine ⟨_,rfl,?_⟩
                   refine hK.out _ _ ⟨(zI BK128.out 0).trans rfl,(zI BK128.out 1).trans rfl,(zI BK128.out 2).trans rfl,((HB.out.cell (World.block_lt_of_cell? w _ hw132_0)).trans hw132_0),((HB.out.cell (World.block_lt_of_cell? w _ hw132_1)).trans hw132_1),((HB.out.cell (World.block_lt_of_cell? w _ hw132_2)).trans hw132_2),((HB.out.cell (World.block_lt_of_cell? w _ hw133_0)).trans hw133_0),((HB.out.cell (World.block_lt_of_cell? w _ hw133_1)).trans hw133_1),((HB.out.cell (World.block_lt_of_cell? w _ hw133_2)).trans hw133_2),((HB.out.cell (World.block_lt_of_cell? w _ hw134_0)).trans hw134_0),((HB.out.cell (World.block_lt_of_cell? w _ hw134_1)).trans hw134_1),((HB.out.cell (World.block_lt_of_cell? w _ hw134_2)).trans hw134_2)⟩ (fun hHeld => ?_)
                   clear hK K
                   refine norm_ (a' := ?_) ?_ ?_
                   rotate_left
                   ·
                    show Act.put _ (some 49) _ = _
                    simp only [Act.put,List.setIfInBounds_toArray,List.set_cons_zero,List.set_cons_succ,i64_w,i32_w]; rfl
                   refine pure_ (i := 25) (N := some 50) (v := ?_) (a' := ?_) z12_26 rfl rfl (any_of HT_.out (by kernel_rfl)) (fun _ _ _ h => h) (Or.inl ⟨by rfl,?_⟩) ?_ ?_; rotate_left
                   · intro w'; go_simp; with_reducible rfl
                   rotate_left
                   · simp only [Act.put,List.setIfInBounds_toArray,List.set_cons_zero,List.set_cons_succ,i64_w,i32_w]; rfl
                   refine pure_ (i := 26) (N := some 51) (v := ?_) (a' := ?_) z12_27 rfl rfl (any_of HT_.out (by kernel_rfl)) (fun _ _ _ h => h) (Or.inl ⟨by rfl,?_⟩) ?_ ?_; rotate_left
                   · intro w'; go_simp; with_reducible rfl
                   rotate_left
                   · simp only [Act.put,List.setIfInBounds_toArray,List.set_cons_zero,List.set_cons_succ,i64_w,i32_w]; rfl
                   refine pure_ (i := 27) (N := some 52) (v := ?_) (a' := ?_) z12_28 rfl rfl (any_of HT_.out (by kernel_rfl)) (fun _ _ _ h => h) (Or.inl ⟨by rfl,?_⟩) ?_ ?_; rotate_left
                   · intro w'; go_simp; with_reducible rfl
                   rotate_left
                   · simp only [Act.put,List.setIfInBounds_toArray,List.set_cons_zero,List.set_cons_succ,i64_w,i32_w]; rfl
                   refine pure_ (i := 28) (N := some 53) (v := ?_) (a' := ?_) z12_29 rfl rfl (any_of HT_.out (by kernel_rfl)) (fun _ _ _ h => h) (Or.inl ⟨by rfl,?_⟩) ?_ ?_; rotate_left
                   · intro w'; go_simp; with_reducible rfl
                   rotate_left
                   · simp only [Act.put,List.setIfInBounds_toArray,List.set_cons_zero,List.set_cons_succ,i64_w,i32_w]; rfl
                   refine pure_ (i := 29) (N := some 54) (v := ?_) (a' := ?_) z12_30 rfl rfl (any_of HT_.out (by kernel_rfl)) (fun _ _ _ h => h) (Or.inl ⟨by rfl,?_⟩) ?_ ?_; rotate_left
                   · intro w'; go_simp; with_reducible rfl
                   rotate_left
                   · simp only [Act.put,List.setIfInBounds_toArray,List.set_cons_zero,List.set_cons_succ,i64_w,i32_w]; rfl
                   refine pure_ (i := 30) (N := some 55) (v := ?_) (a' := ?_) z12_31 rfl rfl (any_of HT_.out (by kernel_rfl)) (fun _ _ _ h => h) (Or.inl ⟨by rfl,?_⟩) ?_ ?_; rotate_left
                   · intro w'; go_simp; with_reducible rfl
                   rotate_left
                   · simp only [Act.put,List.setIfInBounds_toArray,List.set_cons_zero,List.set_cons_succ,i64_w,i32_w]; rfl
                   refine pure_ (i := 31) (N := some 56) (v := ?_) (a' := ?_) z12_32 rfl rfl (any_of HT_.out (by kernel_rfl)) (fun _ _ _ h => h) (Or.inl ⟨by rfl,?_⟩) ?_ ?_; rotate_left
                   · intro w'; go_simp; with_reducible rfl
                   rotate_left
                   · simp only [Act.put,List.setIfInBounds_toArray,List.set_cons_zero,List.set_cons_succ,i64_w,i32_w]; rfl
                   refine pure_ (i := 32) (N := some 57) (v := ?_) (a' := ?_) z12_33 rfl rfl (any_of HT_.out (by kernel_rfl)) (fun _ _ _ h => h) (Or.inl ⟨by rfl,?_⟩) ?_ ?_; rotate_left
                   · intro w'; go_simp; with_reducible rfl
                   rotate_left
                   · simp only [Act.put,List.setIfInBounds_toArray,List.set_cons_zero,List.set_cons_succ,i64_w,i32_w]; rfl
                   refine pure_ (i := 33) (N := some 58) (v := ?_) (a' := ?_) z12_34 rfl rfl (any_of HT_.out (by kernel_rfl)) (fun _ _ _ h => h) (Or.inl ⟨by rfl,?_⟩) ?_ ?_; rotate_left
                   · intro w'; go_simp; with_reducible rfl
                   rotate_left
                   · simp only [Act.put,List.setIfInBounds_toArray,List.set_cons_zero,List.set_cons_succ,i64_w,i32_w]; rfl
                   refine pure_ (i := 34) (N := some 59) (v := ?_) (a' := ?_) z12_35 rfl rfl (any_of HT_.out (by kernel_rfl)) (fun _ _ _ h => h) (Or.inl ⟨by rfl,?_⟩) ?_ ?_; rotate_left
                   · intro w'; go_simp; with_reducible rfl
                   rotate_left
                   · simp only [Act.put,List.setIfInBounds_toArray,List.set_cons_zero,List.set_cons_succ,i64_w,i32_w]; rfl
                   refine pure_ (i := 35) (N := some 60) (v := ?_) (a' := ?_) z12_36 rfl rfl (any_of HT_.out (by kernel_rfl)) (fun _ _ _ h => h) (Or.inl ⟨by rfl,?_⟩) ?_ ?_; rotate_left
                   · intro w'; go_simp; with_reducible rfl
                   rotate_left
                   · simp only [Act.put,List.setIfInBounds_toArray,List.set_cons_zero,List.set_cons_succ,i64_w,i32_w]; rfl
                   refine pure_ (i := 37) (N := some 62) (v := ?_) (a' := ?_) z12_65 rfl rfl (any_of HT_.out (by kernel_rfl)) (fun _ _ _ h => h) (Or.inl ⟨by rfl,?_⟩) ?_ ?_; rotate_left
                   · intro w'; go_simp; with_reducible rfl
                   rotate_left
                   · simp only [Act.put,List.setIfInBounds_toArray,List.set_cons_zero,List.set_cons_succ,i64_w,i32_w]; rfl
                   refine take_ (i := 36) (N := some 61) (v := ?_) (a' := ?_) z12_38 rfl rfl (take_ofW HT_.out HW_.out (by kernel_rfl)) (fun _ _ _ h => h) (Or.inl ⟨by rfl,?_⟩) hHeld ?_ ?_; rotate_left
                   ·
                    rintro w' ⟨s0,s1,s2,s3,s4,s5,s6,s7,s8,s9,s10,s11⟩
                    go_simp; with_reducible rfl
                   rotate_left
                   · simp only [Act.put,List.setIfInBounds_toArray,List.set_cons_zero,List.set_cons_succ,i64_w,i32_w]; rfl
                   refine take_ (i := 38) (N := some 63) (v := ?_) (a' := ?_) z12_39 rfl rfl (take_ofW HT_.out HW_.out (by kernel_rfl)) (fun _ _ _ h => h) (Or.inl ⟨by rfl,?_⟩) hHeld ?_ ?_; rotate_left
                   ·
                    rintro w' ⟨s0,s1,s2,s3,s4,s5,s6,s7,s8,s9,s10,s11⟩
                    go_simp; with_reducible rfl
                   rotate_left
                   · simp only [Act.put,List.setIfInBounds_toArray,List.set_cons_zero,List.set_cons_succ,i64_w,i32_w]; rfl
                   refine pure_ (i := 39) (N := some 64) (v := ?_) (a' := ?_) z12_40 rfl rfl (any_of HT_.out (by kernel_rfl)) (fun _ _ _ h => h) (Or.inl ⟨by rfl,?_⟩) ?_ ?_; rotate_left
                   · intro w'; go_simp; with_reducible rfl
                   rotate_left
                   · simp only [Act.put,List.setIfInBounds_toArray,List.set_cons_zero,List.set_cons_succ,i64_w,i32_w]; rfl
                   refine pure_ (i := 40) (N := some 65) (v := ?_) (a' := ?_) z12_41 rfl rfl (any_of HT_.out (by kernel_rfl)) (fun _ _ _ h => h) (Or.inl ⟨by rfl,?_⟩) ?_ ?_; rotate_left
                   · intro w'; go_simp; with_reducible rfl
                   rotate_left
                   · simp only [Act.put,List.setIfInBounds_toArray,List.set_cons_zero,List.set_cons_succ,i64_w,i32_w]; rfl
                   refine pure_ (i := 41) (N := some 66) (v := ?_) (a' := ?_) z12_42 rfl rfl (any_of HT_.out (by kernel_rfl)) (fun _ _ _ h => h) (Or.inl ⟨by rfl,?_⟩) ?_ ?_; rotate_left
                   · intro w'; go_simp; with_reducible rfl
                   rotate_left
                   · simp only [Act.put,List.setIfInBounds_toArray,List.set_cons_zero,List.set_cons_succ,i64_w,i32_w]; rfl
                   refine pure_ (i := 42) (N := some 67) (v := ?_) (a' := ?_) z12_43 rfl rfl (any_of HT_.out (by kernel_rfl)) (fun _ _ _ h => h) (Or.inl ⟨by rfl,?_⟩) ?_ ?_; rotate_left
                   · intro w'; go_simp; with_reducible rfl
                   rotate_left
                   · simp only [Act.put,List.setIfInBounds_toArray,List.set_cons_zero,List.set_cons_succ,i64_w,i32_w]; rfl
                   refine pure_ (i := 43) (N := some 68) (v := ?_) (a' := ?_) z12_44 rfl rfl (any_of HT_.out (by kernel_rfl)) (fun _ _ _ h => h) (Or.inl ⟨by rfl,?_⟩) ?_ ?_; rotate_left
                   · intro w'; go_simp; with_reducible rfl
                   rotate_left
                   · simp only [Act.put,List.setIfInBounds_toArray,List.set_cons_zero,List.set_cons_succ,i64_w,i32_w]; rfl
                   refine pure_ (i := 44) (N := some 69) (v := ?_) (a' := ?_) z12_45 rfl rfl (any_of HT_.out (by kernel_rfl)) (fun _ _ _ h => h) (Or.inl ⟨by rfl,?_⟩) ?_ ?_; rotate_left
                   · intro w'; go_simp; with_reducible rfl
                   rotate_left
                   · simp only [Act.put,List.setIfInBounds_toArray,List.set_cons_zero,List.set_cons_succ,i64_w,i32_w]; rfl
                   refine pure_ (i := 45) (N := some 70) (v := ?_) (a' := ?_) z12_46 rfl rfl (any_of HT_.out (by kernel_rfl)) (fun _ _ _ h => h) (Or.inl ⟨by rfl,?_⟩) ?_ ?_; rotate_left
                   · intro w'; go_simp; with_reducible rfl
                   rotate_left
                   · simp only [Act.put,List.setIfInBounds_toArray,List.set_cons_zero,List.set_cons_succ,i64_w,i32_w]; rfl
                   refine pure_ (i := 47) (N := some 72) (v := ?_) (a' := ?_) z12_66 rfl rfl (any_of HT_.out (by kernel_rfl)) (fun _ _ _ h => h) (Or.inl ⟨by rfl,?_⟩) ?_ ?_; rotate_left
                   · intro w'; go_simp; with_reducible rfl
                   rotate_left
                   · simp only [Act.put,List.setIfInBounds_toArray,List.set_cons_zero,List.set_cons_succ,i64_w,i32_w]; rfl
                   refine take_ (i := 46) (N := some 71) (v := ?_) (a' := ?_) z12_48 rfl rfl (take_ofW HT_.out HW_.out (by kernel_rfl)) (fun _ _ _ h => h) (Or.inl ⟨by rfl,?_⟩) hHeld ?_ ?_; rotate_left
                   ·
                    rintro w' ⟨s0,s1,s2,s3,s4,s5,s6,s7,s8,s9,s10,s11⟩
                    go_simp; with_reducible rfl
                   rotate_left
                   · simp only [Act.put,List.setIfInBounds_toArray,List.set_cons_zero,List.set_cons_succ,i64_w,i32_w]; rfl
                   refine take_ (i := 48) (N := some 73) (v := ?_) (a' := ?_) z12_49 rfl rfl (take_ofW HT_.out HW_.out (by kernel_rfl)) (fun _ _ _ h => h) (Or.inl ⟨by rfl,?_⟩) hHeld ?_ ?_; rotate_left
                   ·
                    rintro w' ⟨s0,s1,s2,s3,s4,s5,s6,s7,s8,s9,s10,s11⟩
                    go_simp; with_reducible rfl
                   rotate_left
                   · simp only [Act.put,List.setIfInBounds_toArray,List.set_cons_zero,List.set_cons_succ,i64_w,i32_w]; rfl
                   refine pure_ (i := 49) (N := some 74) (v := ?_) (a' := ?_) z12_50 rfl rfl (any_of HT_.out (by kernel_rfl)) (fun _ _ _ h => h) (Or.inl ⟨by rfl,?_⟩) ?_ ?_; rotate_left
                   · intro w'; go_simp; with_reducible rfl
                   rotate_left
                   · simp only [Act.put,List.setIfInBounds_toArray,List.set_cons_zero,List.set_cons_succ,i64_w,i32_w]; rfl
                   refine pure_ (i := 50) (N := some 75) (v := ?_) (a' := ?_) z12_51 rfl rfl (any_of HT_.out (by kernel_rfl)) (fun _ _ _ h => h) (Or.inl ⟨by rfl,?_⟩) ?_ ?_; rotate_left
                   · intro w'; go_simp; with_reducible rfl
                   rotate_left
                   · simp only [Act.put,List.setIfInBounds_toArray,List.set_cons_zero,List.set_cons_succ,i64_w,i32_w]; rfl
                   refine pure_ (i := 51) (N := some 76) (v := ?_) (a' := ?_) z12_52 rfl rfl (any_of HT_.out (by kernel_rfl)) (fun _ _ _ h => h) (Or.inl ⟨by rfl,?_⟩) ?_ ?_; rotate_left
                   · intro w'; go_simp; with_reducible rfl
                   rotate_left
                   · simp only [Act.put,List.setIfInBounds_toArray,List.set_cons_zero,List.set_cons_succ,i64_w,i32_w]; rfl
                   refine pure_ (i := 52) (N := some 77) (v := ?_) (a' := ?_) z12_53 rfl rfl (any_of HT_.out (by kernel_rfl)) (fun _ _ _ h => h) (Or.inl ⟨by rfl,?_⟩) ?_ ?_; rotate_left
                   · intro w'; go_simp; with_reducible rfl
                   rotate_left
                   · simp only [Act.put,List.setIfInBounds_toArray,List.set_cons_zero,List.set_cons_succ,i64_w,i32_w]; rfl
                   refine pure_ (i := 53) (N := some 78) (v := ?_) (a' := ?_) z12_54 rfl rfl (any_of HT_.out (by kernel_rfl)) (fun _ _ _ h => h) (Or.inl ⟨by rfl,?_⟩) ?_ ?_; rotate_left
                   · intro w'; go_simp; with_reducible rfl
                   rotate_left
                   · simp only [Act.put,List.setIfInBounds_toArray,List.set_cons_zero,List.set_cons_succ,i64_w,i32_w]; rfl
                   refine pure_ (i := 54) (N := some 79) (v := ?_) (a' := ?_) z12_55 rfl rfl (any_of HT_.out (by kernel_rfl)) (fun _ _ _ h => h) (Or.inl ⟨by rfl,?_⟩) ?_ ?_; rotate_left
                   · intro w'; go_simp; with_reducible rfl
                   rotate_left
                   · simp only [Act.put,List.setIfInBounds_toArray,List.set_cons_zero,List.set_cons_succ,i64_w,i32_w]; rfl
                   refine pure_ (i := 55) (N := some 80) (v := ?_) (a' := ?_) z12_56 rfl rfl (any_of HT_.out (by kernel_rfl)) (fun _ _ _ h => h) (Or.inl ⟨by rfl,?_⟩) ?_ ?_; rotate_left
                   · intro w'; go_simp; with_reducible rfl
                   rotate_left
                   · simp only [Act.put,List.setIfInBounds_toArray,List.set_cons_zero,List.set_cons_succ,i64_w,i32_w]; rfl
                   refine pure_ (i := 57) (N := some 82) (v := ?_) (a' := ?_) z12_67 rfl rfl (any_of HT_.out (by kernel_rfl)) (fun _ _ _ h => h) (Or.inl ⟨by rfl,?_⟩) ?_ ?_; rotate_left
                   · intro w'; go_simp; with_reducible rfl
                   rotate_left
                   · simp only [Act.put,List.setIfInBounds_toArray,List.set_cons_zero,List.set_cons_succ,i64_w,i32_w]; rfl
                   refine take_ (i := 56) (N := some 81) (v := ?_) (a' := ?_) z12_58 rfl rfl (take_ofW HT_.out HW_.out (by kernel_rfl)) (fun _ _ _ h => h) (Or.inl ⟨by rfl,?_⟩) hHeld ?_ ?_; rotate_left
                   ·
                    rintro w' ⟨s0,s1,s2,s3,s4,s5,s6,s7,s8,s9,s10,s11⟩
                    go_simp; with_reducible rfl
                   rotate_left
                   · simp only [Act.put,List.setIfInBounds_toArray,List.set_cons_zero,List.set_cons_succ,i64_w,i32_w]; rfl
                   refine take_ (i := 58) (N := some 83) (v := ?_) (a' := ?_) z12_59 rfl rfl (take_ofW HT_.out HW_.out (by kernel_rfl)) (fun _ _ _ h => h) (Or.inl ⟨by rfl,?_⟩) hHeld ?_ ?_; rotate_left
                   ·
                    rintro w' ⟨s0,s1,s2,s3,s4,s5,s6,s7,s8,s9,s10,s11⟩
                    go_simp; with_reducible rfl
                   rotate_left
                   · simp only [Act.put,List.setIfInBounds_toArray,List.set_cons_zero,List.set_cons_succ,i64_w,i32_w]; rfl
                   refine pure_ (i := 59) (N := some 84) (v := ?_) (a' := ?_) z12_60 rfl rfl (any_of HT_.out (by kernel_rfl)) (fun _ _ _ h => h) (Or.inl ⟨by rfl,?_⟩) ?_ ?_; rotate_left
                   · intro w'; go_simp; with_reducible rfl
                   rotate_left
                   · simp only [Act.put,List.setIfInBounds_toArray,List.set_cons_zero,List.set_cons_succ,i64_w,i32_w]; rfl
                   refine pure_ (i := 60) (N := some 85) (v := ?_) (a' := ?_) z12_61 rfl rfl (any_of HT_.out (by kernel_rfl)) (fun _ _ _ h => h) (Or.inl ⟨by rfl,?_⟩) ?_ ?_; rotate_left
                   · intro w'; go_simp; with_reducible rfl
                   rotate_left
                   · simp only [Act.put,List.setIfInBounds_toArray,List.set_cons_zero,List.set_cons_succ,i64_w,i32_w]; rfl
                   refine pure_ (i := 61) (N := some 86) (v := ?_) (a' := ?_) z12_62 rfl rfl (any_of HT_.out (by kernel_rfl)) (fun _ _ _ h => h) (Or.inl ⟨by rfl,?_⟩) ?_ ?_; rotate_left
                   · intro w'; go_simp; with_reducible rfl
                   rotate_left
                   · simp only [Act.put,List.setIfInBounds_toArray,List.set_cons_zero,List.set_cons_succ,i64_w,i32_w]; rfl
                   refine pure_ (i := 62) (N := some 87) (v := ?_) (a' := ?_) z12_63 rfl rfl (any_of HT_.out (by kernel_rfl)) (fun _ _ _ h => h) (Or.inl ⟨by rfl,?_⟩) ?_ ?_; rotate_left
                   · intro w'; go_simp; with_reducible rfl
                   rotate_left
                   · simp only [Act.put,List.setIfInBounds_toArray,List.set_cons_zero,List.set_cons_succ,i64_w,i32_w]; rfl
                   refine pure_ (i := 63) (N := some 88) (v := ?_) (a' := ?_) z12_64 rfl rfl (any_of HT_.out (by kernel_rfl)) (fun _ _ _ h => h) (Or.inl ⟨by rfl,?_⟩) ?_ ?_; rotate_left
                   · intro w'; go_simp; with_reducible rfl
                   rotate_left
                   · simp only [Act.put,List.setIfInBounds_toArray,List.set_cons_zero,List.set_cons_succ,i64_w,i32_w]; rfl
                   refine done_ (done_of HT_.out (by kernel_rfl)) ?_
                   try go_wp2
                   go_meet
                   case rel => exact ⟨_,(decide (((rd_T38 l1 (ji22)).f1) ≥ ((rd_T38 l1 x5_2).f1))),(by first|rfl|(simp; done)|(simp only [← hji22] <;> (first|rfl|simp))|(simp [*]; done)),H',⟨by have := HJ2.out; have := HK2.out; first|omega|exact Nat.le_refl _⟩,⟨(rrB9 BK128.out)⟩,⟨by repeat (first|(with_reducible first|exact HB.out|apply zC|apply zE|apply zD|refine zB ?_ GE128.out)|exact HB.out)⟩⟩
                  ·
                   rw [if_neg c28] at H
                   have c28b0 : (((rd_T38 l1 (ji22)).f0) == ((rd_T38 l1 x5_2).f0)) = false := beq_eq_false_iff_ne.mpr c28
                   have c28b1 : (((rd_T38 l1 (ji22)).f0) != ((rd_T38 l1 x5_2).f0)) = true := bne_iff_ne.mpr c28
                   have H' := zA H
                   clear H
                   try go_wp2
                   have n0_ : Aside0 ((((w10.setCell ⟨gb128,0,none⟩ (.int .i64 ((rd_T38 l1 x5_2).f0))).setCell ⟨gb128,1,none⟩ (.int .i64 ((rd_T38 l1 x5_2).f1))).setCell ⟨gb128,2,none⟩ (.int .i64 ((rd_T38 l1 x5_2).f2))).heap[gb128]? = some (.cells #[.int .i64 ((rd_T38 l1 x5_2).f0),.int .i64 ((rd_T38 l1 x5_2).f1),.int .i64 ((rd_T38 l1 x5_2).f2)] 38 (0,0))) := ⟨by (with_reducible repeat (first|refine zF ?_ _|refine zH ?_|refine zG ?_ _)); refine blk_put (cs := #[.int .i64 ((rd_T38 l1 x5_2).f0),.int .i64 ((rd_T38 l1 x5_2).f1),.int .i64 0]) ?_ 2 _ rfl; (with_reducible repeat (first|refine zF ?_ _|refine zH ?_|refine zG ?_ _)); refine blk_put (cs := #[.int .i64 ((rd_T38 l1 x5_2).f0),.int .i64 0,.int .i64 0]) ?_ 1 _ rfl; (with_reducible repeat (first|refine zF ?_ _|refine zH ?_|refine zG ?_ _)); refine blk_put (cs := #[.int .i64 0,.int .i64 0,.int .i64 0]) ?_ 0 _ rfl; (with_reducible repeat (first|refine zF ?_ _|refine zH ?_|refine zG ?_ _)); exact BK128.out⟩
                   have n1_ : Aside0 (Below w.heap.size w (((w10.setCell ⟨gb128,0,none⟩ (.int .i64 ((rd_T38 l1 x5_2).f0))).setCell ⟨gb128,1,none⟩ (.int .i64 ((rd_T38 l1 x5_2).f1))).setCell ⟨gb128,2,none⟩ (.int .i64 ((rd_T38 l1 x5_2).f2)))) := ⟨by repeat (first|(with_reducible first|exact HB.out|apply zC|apply zE|apply zD|refine zB ?_ GE128.out)|exact HB.out)⟩
                   (try clear BK128)
                   (try clear HB)
                   generalize (((w10.setCell ⟨gb128,0,none⟩ (.int .i64 ((rd_T38 l1 x5_2).f0))).setCell ⟨gb128,1,none⟩ (.int .i64 ((rd_T38 l1 x5_2).f1))).setCell ⟨gb128,2,none⟩ (.int .i64 ((rd_T38 l1 x5_2).f2))) = w31 at n0_ n1_ ⊢
                   have BK128 := n0_
                   have HB := n1_
                   clear n0_ n1_
                   have n0_ := zA (zH BK128.out)
                   have n1_ := zA (zD HB.out)
                   clear BK128 HB
                   have BK128 := n0_
                   have HB := n1_
                   clear n0_ n1_
                   have p132 : 0 ≤ ((ji22) : Int) := of_decide_eq_true (by first|(with_reducible assumption) | assumption)
                   have q132 : (ji22) < (l1.length : Int) := of_decide_eq_true (by first|(with_reducible assumption) | assumption)
                   obtain ⟨ad132,e132,hx132_0,hx132_1,hx132_2⟩ := at_T38 HR1.out (ji22) p132 q132
                   have hw132_2 := hx132_2
                   have hw132_1 := hx132_1
                   have hw132_0 := hx132_0
                   obtain rfl : ad127 = ad132 := (by injection e132)
                   replace hx132_0 := (HB.out.cell (World.block_lt_of_cell? w _ hx132_0)).trans hx132_0
                   replace hx132_1 := (HB.out.cell (World.block_lt_of_cell? w _ hx132_1)).trans hx132_1
                   replace hx132_2 := (HB.out.cell (World.block_lt_of_cell? w _ hx132_2)).trans hx132_2
                   replace p132 := eq_true p132
                   replace q132 := eq_true q132
                   have p133 : 0 ≤ ((ji22) : Int) := of_decide_eq_true (by first|(with_reducible assumption) | assumption)
                   have q133 : (ji22) < (l1.length : Int) := of_decide_eq_true (by first|(with_reducible assumption) | assumption)
                   obtain ⟨ad133,e133,hx133_0,hx133_1,hx133_2⟩ := at_T38 HR1.out (ji22) p133 q133
                   have hw133_2 := hx133_2
                   have hw133_1 := hx133_1
                   have hw133_0 := hx133_0
                   obtain rfl : ad127 = ad133 := (by injection e133)
                   replace hx133_0 := (HB.out.cell (World.block_lt_of_cell? w _ hx133_0)).trans hx133_0
                   replace hx133_1 := (HB.out.cell (World.block_lt_of_cell? w _ hx133_1)).trans hx133_1
                   replace hx133_2 := (HB.out.cell (World.block_lt_of_cell? w _ hx133_2)).trans hx133_2
                   replace p133 := eq_true p133
                   replace q133 := eq_true q133
                   refine start_ (n := 64) (S := fun w' => w'.cell? ⟨gb128,0,none⟩ = some (.int .i64 ((rd_T38 l1 x5_2).f0)) ∧ w'.cell? ⟨gb128,1,none⟩ = some (.int .i64 ((rd_T38 l1 x5_2).f1)) ∧ w'.cell? ⟨gb128,2,none⟩ = some (.int .i64 ((rd_T38 l1 x5_2).f2)) ∧ w'.cell? (ad127.add (((ji22)).toNat * 3)) = some (.int .i64 ((rd_T38 l1 (ji22)).f0)) ∧ w'.cell? ⟨(ad127.add (((ji22)).toNat * 3)).block,(ad127.add (((ji22)).toNat * 3)).off + 1,none⟩ = some (.int .i64 ((rd_T38 l1 (ji22)).f1)) ∧ w'.cell? ⟨(ad127.add (((ji22)).toNat * 3)).block,(ad127.add (((ji22)).toNat * 3)).off + 2,none⟩ = some (.int .i64 ((rd_T38 l1 (ji22)).f2)) ∧ w'.cell? (ad127.add (((ji22)).toNat * 3)) = some (.int .i64 ((rd_T38 l1 (ji22)).f0)) ∧ w'.cell? ⟨(ad127.add (((ji22)).toNat * 3)).block,(ad127.add (((ji22)).toNat * 3)).off + 1,none⟩ = some (.int .i64 ((rd_T38 l1 (ji22)).f1)) ∧ w'.cell? ⟨(ad127.add (((ji22)).toNat * 3)).block,(ad127.add (((ji22)).toNat * 3)).off + 2,none⟩ = some (.int .i64 ((rd_T38 l1 (ji22)).f2))) (ds := []) z12_0 (by kernel_rfl) rfl rfl ⟨(zI BK128.out 0).trans rfl,(zI BK128.out 1).trans rfl,(zI BK128.out 2).trans rfl,((HB.out.cell (World.block_lt_of_cell? w _ hw132_0)).trans hw132_0),((HB.out.cell (World.block_lt_of_cell? w _ hw132_1)).trans hw132_1),((HB.out.cell (World.block_lt_of_cell? w _ hw132_2)).trans hw132_2),((HB.out.cell (World.block_lt_of_cell? w _ hw133_0)).trans hw133_0),((HB.out.cell (World.block_lt_of_cell? w _ hw133_1)).trans hw133_1),((HB.out.cell (World.block_lt_of_cell? w _ hw133_2)).trans hw133_2)⟩ (fun hHeld => ?_); refine with_tabW spec_RoadsOk.tab7 spec_RoadsOk.bits7 (fun HT_ HW_ => ?_)
                   generalize w31.drew = w32 at BK128 HB hx132_0 hx132_1 hx132_2 hx133_0 hx133_1 hx133_2 hHeld ⊢
                   refine pure_ (i := 0) (N := some 25) (v := ?_) (a' := ?_) z12_1 rfl rfl (any_of HT_.out (by kernel_rfl)) (fun _ _ _ h => h) (Or.inl ⟨by rfl,?_⟩) ?_ ?_; rotate_left
                   · intro w'; go_simp; with_reducible rfl
                   rotate_left
                   · simp only [Act.put,List.setIfInBounds_toArray,List.set_cons_zero,List.set_cons_succ,i64_w,i32_w]; rfl
                   refine pure_ (i := 2) (N := some 27) (v := ?_) (a' := ?_) z12_2 rfl rfl (any_of HT_.out (by kernel_rfl)) (fun _ _ _ h => h) (Or.inl ⟨by rfl,?_⟩) ?_ ?_; rotate_left
                   · intro w'; go_simp; with_reducible rfl
                   rotate_left
                   · simp only [Act.put,List.setIfInBounds_toArray,List.set_cons_zero,List.set_cons_succ,i64_w,i32_w]; rfl
                   refine pure_ (i := 3) (N := some 28) (v := ?_) (a' := ?_) z12_3 rfl rfl (any_of HT_.out (by kernel_rfl)) (fun _ _ _ h => h) (Or.inl ⟨by rfl,?_⟩) ?_ ?_; rotate_left
                   · intro w'; go_simp; with_reducible rfl
                   rotate_left
                   · simp only [Act.put,List.setIfInBounds_toArray,List.set_cons_zero,List.set_cons_succ,i64_w,i32_w]; rfl
                   refine take_ (i := 1) (N := some 26) (v := ?_) (a' := ?_) z12_4 rfl rfl (take_ofW HT_.out HW_.out (by kernel_rfl)) (fun _ _ _ h => h) (Or.inl ⟨by rfl,?_⟩) hHeld ?_ ?_; rotate_left
                   ·
                    rintro w' ⟨s0,s1,s2,s3,s4,s5,s6,s7,s8⟩
                    go_simp; with_reducible rfl
                   rotate_left
                   · simp only [Act.put,List.setIfInBounds_toArray,List.set_cons_zero,List.set_cons_succ,i64_w,i32_w]; rfl
                   refine one_ (i := 4) (N := some 29) z12_5 rfl rfl (one_of HT_.out (by kernel_rfl)) (by decide) (fun K hK => ?_)
                   refine goes_ Try.func34 (by kernel_rfl) rfl #[.int .i64 ((rd_T38 l1 x5_2).f0),.int .i64 0,.int .i64 (wrap64 (a0 - 1))] (by rfl) rfl rfl (by (try simp only [List.map_toArray,List.map_cons,List.map_nil]); first | done|rfl|(simp only [List.length_drop,List.length_take]; rfl)) ?_
                   with_reducible refine (spec_l01In.calls ((rd_T38 l1 x5_2).f0) 0 (wrap64 (a0 - 1)) true _ A12.out).mono ?_
                   rintro e w' ⟨rfl,⟨nd,rfl⟩⟩
                   refine ⟨_,rfl,?_⟩
                   refine hK.out _ _ ⟨(zI BK128.out 0).trans rfl,(zI BK128.out 1).trans rfl,(zI BK128.out 2).trans rfl,((HB.out.cell (World.block_lt_of_cell? w _ hw132_0)).trans hw132_0),((HB.out.cell (World.block_lt_of_cell? w _ hw132_1)).trans hw132_1),((HB.out.cell (World.block_lt_of_cell? w _ hw132_2)).trans hw132_2),((HB.out.cell (World.block_lt_of_cell? w _ hw133_0)).trans hw133_0),((HB.out.cell (World.block_lt_of_cell? w _ hw133_1)).trans hw133_1),((HB.out.cell (World.block_lt_of_cell? w _ hw133_2)).trans hw133_2)⟩ (fun hHeld => ?_)
                   clear hK K
                   refine norm_ (a' := ?_) ?_ ?_
                   rotate_left
                   ·
                    show Act.put _ (some 29) _ = _
                    simp only [Act.put,List.setIfInBounds_toArray,List.set_cons_zero,List.set_cons_succ,i64_w,i32_w]; rfl
                   refine pure_ (i := 5) (N := some 30) (v := ?_) (a' := ?_) z12_6 rfl rfl (any_of HT_.out (by kernel_rfl)) (fun _ _ _ h => h) (Or.inl ⟨by rfl,?_⟩) ?_ ?_; rotate_left
                   · intro w'; go_simp; with_reducible rfl
                   rotate_left
                   · simp only [Act.put,List.setIfInBounds_toArray,List.set_cons_zero,List.set_cons_succ,i64_w,i32_w]; rfl
                   refine pure_ (i := 6) (N := some 31) (v := ?_) (a' := ?_) z12_7 rfl rfl (any_of HT_.out (by kernel_rfl)) (fun _ _ _ h => h) (Or.inl ⟨by rfl,?_⟩) ?_ ?_; rotate_left
                   · intro w'; go_simp; with_reducible rfl
                   rotate_left
                   · simp only [Act.put,List.setIfInBounds_toArray,List.set_cons_zero,List.set_cons_succ,i64_w,i32_w]; rfl
                   refine pure_ (i := 7) (N := some 32) (v := ?_) (a' := ?_) z12_8 rfl rfl (any_of HT_.out (by kernel_rfl)) (fun _ _ _ h => h) (Or.inl ⟨by rfl,?_⟩) ?_ ?_; rotate_left
                   · intro w'; go_simp; with_reducible rfl
                   rotate_left
                   · simp only [Act.put,List.setIfInBounds_toArray,List.set_cons_zero,List.set_cons_succ,i64_w,i32_w]; rfl
                   refine pure_ (i := 9) (N := some 34) (v := ?_) (a' := ?_) z12_9 rfl rfl (any_of HT_.out (by kernel_rfl)) (fun _ _ _ h => h) (Or.inl ⟨by rfl,?_⟩) ?_ ?_; rotate_left
                   · intro w'; go_simp; with_reducible rfl
                   rotate_left
                   · simp only [Act.put,List.setIfInBounds_toArray,List.set_cons_zero,List.set_cons_succ,i64_w,i32_w]; rfl
                   refine pure_ (i := 10) (N := some 35) (v := ?_) (a' := ?_) z12_10 rfl rfl (any_of HT_.out (by kernel_rfl)) (fun _ _ _ h => h) (Or.inl ⟨by rfl,?_⟩) ?_ ?_; rotate_left
                   · intro w'; go_simp; with_reducible rfl
                   rotate_left
                   · simp only [Act.put,List.setIfInBounds_toArray,List.set_cons_zero,List.set_cons_succ,i64_w,i32_w]; rfl
                   refine take_ (i := 8) (N := some 33) (v := ?_) (a' := ?_) z12_11 rfl rfl (take_ofW HT_.out HW_.out (by kernel_rfl)) (fun _ _ _ h => h) (Or.inl ⟨by rfl,?_⟩) hHeld ?_ ?_; rotate_left
                   ·
                    rintro w' ⟨s0,s1,s2,s3,s4,s5,s6,s7,s8⟩
                    go_simp; with_reducible rfl
                   rotate_left
                   · simp only [Act.put,List.setIfInBounds_toArray,List.set_cons_zero,List.set_cons_succ,i64_w,i32_w]; rfl
                   refine one_ (i := 11) (N := some 36) z12_12 rfl rfl (one_of HT_.out (by kernel_rfl)) (by decide) (fun K hK => ?_)
                   refine goes_ Try.func34 (by kernel_rfl) rfl #[.int .i64 ((rd_T38 l1 x5_2).f1),.int .i64 0,.int .i64 (wrap64 (a0 - 1))] (by rfl) rfl rfl (by (try simp only [List.map_toArray,List.map_cons,List.map_nil]); first | done|rfl|(simp only [List.length_drop,List.length_take]; rfl)) ?_
                   with_reducible refine (spec_l01In.calls ((rd_T38 l1 x5_2).f1) 0 (wrap64 (a0 - 1)) true _ A14.out).mono ?_
                   rintro e w' ⟨rfl,⟨nd,rfl⟩⟩
                   refine ⟨_,rfl,?_⟩
                   refine hK.out _ _ ⟨(zI BK128.out 0).trans rfl,(zI BK128.out 1).trans rfl,(zI BK128.out 2).trans rfl,((HB.out.cell (World.block_lt_of_cell? w _ hw132_0)).trans hw132_0),((HB.out.cell (World.block_lt_of_cell? w _ hw132_1)).trans hw132_1),((HB.out.cell (World.block_lt_of_cell? w _ hw132_2)).trans hw132_2),((HB.out.cell (World.block_lt_of_cell? w _ hw133_0)).trans hw133_0),((HB.out.cell (World.block_lt_of_cell? w _ hw133_1)).trans hw133_1),((HB.out.cell (World.block_lt_of_cell? w _ hw133_2)).trans hw133_2)⟩ (fun hHeld => ?_)
                   clear hK K
                   refine norm_ (a' := ?_) ?_ ?_
                   rotate_left
                   ·
                    show Act.put _ (some 36) _ = _
                    simp only [Act.put,List.setIfInBounds_toArray,List.set_cons_zero,List.set_cons_succ,i64_w,i32_w]; rfl
                   refine pure_ (i := 12) (N := some 37) (v := ?_) (a' := ?_) z12_13 rfl rfl (any_of HT_.out (by kernel_rfl)) (fun _ _ _ h => h) (Or.inl ⟨by rfl,?_⟩) ?_ ?_; rotate_left
                   · intro w'; go_simp; with_reducible rfl
                   rotate_left
                   · simp only [Act.put,List.setIfInBounds_toArray,List.set_cons_zero,List.set_cons_succ,i64_w,i32_w]; rfl
                   refine pure_ (i := 13) (N := some 38) (v := ?_) (a' := ?_) z12_14 rfl rfl (any_of HT_.out (by kernel_rfl)) (fun _ _ _ h => h) (Or.inl ⟨by rfl,?_⟩) ?_ ?_; rotate_left
                   · intro w'; go_simp; with_reducible rfl
                   rotate_left
                   · simp only [Act.put,List.setIfInBounds_toArray,List.set_cons_zero,List.set_cons_succ,i64_w,i32_w]; rfl
                   refine pure_ (i := 14) (N := some 39) (v := ?_) (a' := ?_) z12_15 rfl rfl (any_of HT_.out (by kernel_rfl)) (fun _ _ _ h => h) (Or.inl ⟨by rfl,?_⟩) ?_ ?_; rotate_left
                   · intro w'; go_simp; with_reducible rfl
                   rotate_left
                   · simp only [Act.put,List.setIfInBounds_toArray,List.set_cons_zero,List.set_cons_succ,i64_w,i32_w]; rfl
                   refine pure_ (i := 15) (N := some 40) (v := ?_) (a' := ?_) z12_16 rfl rfl (any_of HT_.out (by kernel_rfl)) (fun _ _ _ h => h) (Or.inl ⟨by rfl,?_⟩) ?_ ?_; rotate_left
                   · intro w'; go_simp; with_reducible rfl
                   rotate_left
                   · simp only [Act.put,List.setIfInBounds_toArray,List.set_cons_zero,List.set_cons_succ,i64_w,i32_w]; rfl
                   refine pure_ (i := 17) (N := some 42) (v := ?_) (a' := ?_) z12_17 rfl rfl (any_of HT_.out (by kernel_rfl)) (fun _ _ _ h => h) (Or.inl ⟨by rfl,?_⟩) ?_ ?_; rotate_left
                   · intro w'; go_simp; with_reducible rfl
                   rotate_left
                   · simp only [Act.put,List.setIfInBounds_toArray,List.set_cons_zero,List.set_cons_succ,i64_w,i32_w]; rfl
                   refine take_ (i := 16) (N := some 41) (v := ?_) (a' := ?_) z12_18 rfl rfl (take_ofW HT_.out HW_.out (by kernel_rfl)) (fun _ _ _ h => h) (Or.inl ⟨by rfl,?_⟩) hHeld ?_ ?_; rotate_left
                   ·
                    rintro w' ⟨s0,s1,s2,s3,s4,s5,s6,s7,s8⟩
                    go_simp; with_reducible rfl
                   rotate_left
                   · simp only [Act.put,List.setIfInBounds_toArray,List.set_cons_zero,List.set_cons_succ,i64_w,i32_w]; rfl
                   refine take_ (i := 18) (N := some 43) (v := ?_) (a' := ?_) z12_19 rfl rfl (take_ofW HT_.out HW_.out (by kernel_rfl)) (fun _ _ _ h => h) (Or.inl ⟨by rfl,?_⟩) hHeld ?_ ?_; rotate_left
                   ·
                    rintro w' ⟨s0,s1,s2,s3,s4,s5,s6,s7,s8⟩
                    go_simp; with_reducible rfl
                   rotate_left
                   · simp only [Act.put,List.setIfInBounds_toArray,List.set_cons_zero,List.set_cons_succ,i64_w,i32_w]; rfl
                   refine pure_ (i := 19) (N := some 44) (v := ?_) (a' := ?_) z12_20 rfl rfl (any_of HT_.out (by kernel_rfl)) (fun _ _ _ h => h) (Or.inl ⟨by rfl,?_⟩) ?_ ?_; rotate_left
                   · intro w'; go_simp; with_reducible rfl
                   rotate_left
                   · simp only [Act.put,List.setIfInBounds_toArray,List.set_cons_zero,List.set_cons_succ,i64_w,i32_w]; rfl
                   refine pure_ (i := 20) (N := some 45) (v := ?_) (a' := ?_) z12_21 rfl rfl (any_of HT_.out (by kernel_rfl)) (fun _ _ _ h => h) (Or.inl ⟨by rfl,?_⟩) ?_ ?_; rotate_left
                   · intro w'; go_simp; with_reducible rfl
                   rotate_left
                   · simp only [Act.put,List.setIfInBounds_toArray,List.set_cons_zero,List.set_cons_succ,i64_w,i32_w]; rfl
                   refine pure_ (i := 21) (N := some 46) (v := ?_) (a' := ?_) z12_22 rfl rfl (any_of HT_.out (by kernel_rfl)) (fun _ _ _ h => h) (Or.inl ⟨by rfl,?_⟩) ?_ ?_; rotate_left
                   · intro w'; go_simp; with_reducible rfl
                   rotate_left
                   · simp only [Act.put,List.setIfInBounds_toArray,List.set_cons_zero,List.set_cons_succ,i64_w,i32_w]; rfl
                   refine pure_ (i := 22) (N := some 47) (v := ?_) (a' := ?_) z12_23 rfl rfl (any_of HT_.out (by kernel_rfl)) (fun _ _ _ h => h) (Or.inl ⟨by rfl,?_⟩) ?_ ?_; rotate_left
                   · intro w'; go_simp; with_reducible rfl
                   rotate_left
                   · simp only [Act.put,List.setIfInBounds_toArray,List.set_cons_zero,List.set_cons_succ,i64_w,i32_w]; rfl
                   refine take_ (i := 23) (N := some 48) (v := ?_) (a' := ?_) z12_24 rfl rfl (take_ofW HT_.out HW_.out (by kernel_rfl)) (fun _ _ _ h => h) (Or.inl ⟨by rfl,?_⟩) hHeld ?_ ?_; rotate_left
                   ·
                    rintro w' ⟨s0,s1,s2,s3,s4,s5,s6,s7,s8⟩
                    go_simp; with_reducible rfl
                   rotate_left
                   · simp only [Act.put,List.setIfInBounds_toArray,List.set_cons_zero,List.set_cons_succ,i64_w,i32_w]; rfl
                   refine one_ (i := 24) (N := some 49) z12_25 rfl rfl (one_of HT_.out (by kernel_rfl)) (by decide) (fun K hK => ?_)
                   refine goes_ Try.func34 (by kernel_rfl) rfl #[.int .i64 ((rd_T38 l1 x5_2).f2),.int .i64 1,.int .i64 100] (by rfl) rfl rfl (by (try simp only [List.map_toArray,List.map_cons,List.map_nil]); first | done|rfl|(simp only [List.length_drop,List.length_take]; rfl)) ?_
                   with_reducible refine (spec_l01In.calls ((rd_T38 l1 x5_2).f2) 1 100 true _ A19.out).mono ?_
                   rintro e w' ⟨rfl,⟨nd,rfl⟩⟩
                   refine ⟨_,rfl,?_⟩
                   refine hK.out _ _ ⟨(zI BK128.out 0).trans rfl,(zI BK128.out 1).trans rfl,(zI BK128.out 2).trans rfl,((HB.out.cell (World.block_lt_of_cell? w _ hw132_0)).trans hw132_0),((HB.out.cell (World.block_lt_of_cell? w _ hw132_1)).trans hw132_1),((HB.out.cell (World.block_lt_of_cell? w _ hw132_2)).trans hw132_2),((HB.out.cell (World.block_lt_of_cell? w _ hw133_0)).trans hw133_0),((HB.out.cell (World.block_lt_of_cell? w _ hw133_1)).trans hw133_1),((HB.out.cell (World.block_lt_of_cell? w _ hw133_2)).trans hw133_2)⟩ (fun hHeld => ?_)
                   clear hK K
                   refine norm_ (a' := ?_) ?_ ?_
                   rotate_left
                   ·
                    show Act.put _ (some 49) _ = _
                    simp only [Act.put,List.setIfInBounds_toArray,List.set_cons_zero,List.set_cons_succ,i64_w,i32_w]; rfl
                   refine pure_ (i := 25) (N := some 50) (v := ?_) (a' := ?_) z12_26 rfl rfl (any_of HT_.out (by kernel_rfl)) (fun _ _ _ h => h) (Or.inl ⟨by rfl,?_⟩) ?_ ?_; rotate_left
                   · intro w'; go_simp; with_reducible rfl
                   rotate_left
                   · simp only [Act.put,List.setIfInBounds_toArray,List.set_cons_zero,List.set_cons_succ,i64_w,i32_w]; rfl
                   refine pure_ (i := 26) (N := some 51) (v := ?_) (a' := ?_) z12_27 rfl rfl (any_of HT_.out (by kernel_rfl)) (fun _ _ _ h => h) (Or.inl ⟨by rfl,?_⟩) ?_ ?_; rotate_left
                   · intro w'; go_simp; with_reducible rfl
                   rotate_left
                   · simp only [Act.put,List.setIfInBounds_toArray,List.set_cons_zero,List.set_cons_succ,i64_w,i32_w]; rfl
                   refine pure_ (i := 27) (N := some 52) (v := ?_) (a' := ?_) z12_28 rfl rfl (any_of HT_.out (by kernel_rfl)) (fun _ _ _ h => h) (Or.inl ⟨by rfl,?_⟩) ?_ ?_; rotate_left
                   · intro w'; go_simp; with_reducible rfl
                   rotate_left
                   · simp only [Act.put,List.setIfInBounds_toArray,List.set_cons_zero,List.set_cons_succ,i64_w,i32_w]; rfl
                   refine pure_ (i := 28) (N := some 53) (v := ?_) (a' := ?_) z12_29 rfl rfl (any_of HT_.out (by kernel_rfl)) (fun _ _ _ h => h) (Or.inl ⟨by rfl,?_⟩) ?_ ?_; rotate_left
                   · intro w'; go_simp; with_reducible rfl
                   rotate_left
                   · simp only [Act.put,List.setIfInBounds_toArray,List.set_cons_zero,List.set_cons_succ,i64_w,i32_w]; rfl
                   refine pure_ (i := 29) (N := some 54) (v := ?_) (a' := ?_) z12_30 rfl rfl (any_of HT_.out (by kernel_rfl)) (fun _ _ _ h => h) (Or.inl ⟨by rfl,?_⟩) ?_ ?_; rotate_left
                   · intro w'; go_simp; with_reducible rfl
                   rotate_left
                   · simp only [Act.put,List.setIfInBounds_toArray,List.set_cons_zero,List.set_cons_succ,i64_w,i32_w]; rfl
                   refine pure_ (i := 30) (N := some 55) (v := ?_) (a' := ?_) z12_31 rfl rfl (any_of HT_.out (by kernel_rfl)) (fun _ _ _ h => h) (Or.inl ⟨by rfl,?_⟩) ?_ ?_; rotate_left
                   · intro w'; go_simp; with_reducible rfl
                   rotate_left
                   · simp only [Act.put,List.setIfInBounds_toArray,List.set_cons_zero,List.set_cons_succ,i64_w,i32_w]; rfl
                   refine pure_ (i := 31) (N := some 56) (v := ?_) (a' := ?_) z12_32 rfl rfl (any_of HT_.out (by kernel_rfl)) (fun _ _ _ h => h) (Or.inl ⟨by rfl,?_⟩) ?_ ?_; rotate_left
                   · intro w'; go_simp; with_reducible rfl
                   rotate_left
                   · simp only [Act.put,List.setIfInBounds_toArray,List.set_cons_zero,List.set_cons_succ,i64_w,i32_w]; rfl
                   refine pure_ (i := 32) (N := some 57) (v := ?_) (a' := ?_) z12_33 rfl rfl (any_of HT_.out (by kernel_rfl)) (fun _ _ _ h => h) (Or.inl ⟨by rfl,?_⟩) ?_ ?_; rotate_left
                   · intro w'; go_simp; with_reducible rfl
                   rotate_left
                   · simp only [Act.put,List.setIfInBounds_toArray,List.set_cons_zero,List.set_cons_succ,i64_w,i32_w]; rfl
                   refine pure_ (i := 33) (N := some 58) (v := ?_) (a' := ?_) z12_34 rfl rfl (any_of HT_.out (by kernel_rfl)) (fun _ _ _ h => h) (Or.inl ⟨by rfl,?_⟩) ?_ ?_; rotate_left
                   · intro w'; go_simp; with_reducible rfl
                   rotate_left
                   · simp only [Act.put,List.setIfInBounds_toArray,List.set_cons_zero,List.set_cons_succ,i64_w,i32_w]; rfl
                   refine pure_ (i := 34) (N := some 59) (v := ?_) (a' := ?_) z12_35 rfl rfl (any_of HT_.out (by kernel_rfl)) (fun _ _ _ h => h) (Or.inl ⟨by rfl,?_⟩) ?_ ?_; rotate_left
                   · intro w'; go_simp; with_reducible rfl
                   rotate_left
                   · simp only [Act.put,List.setIfInBounds_toArray,List.set_cons_zero,List.set_cons_succ,i64_w,i32_w]; rfl
                   refine pure_ (i := 35) (N := some 60) (v := ?_) (a' := ?_) z12_36 rfl rfl (any_of HT_.out (by kernel_rfl)) (fun _ _ _ h => h) (Or.inl ⟨by rfl,?_⟩) ?_ ?_; rotate_left
                   · intro w'; go_simp; with_reducible rfl
                   rotate_left
                   · simp only [Act.put,List.setIfInBounds_toArray,List.set_cons_zero,List.set_cons_succ,i64_w,i32_w]; rfl
                   refine pure_ (i := 37) (N := some 62) (v := ?_) (a' := ?_) z12_65 rfl rfl (any_of HT_.out (by kernel_rfl)) (fun _ _ _ h => h) (Or.inl ⟨by rfl,?_⟩) ?_ ?_; rotate_left
                   · intro w'; go_simp; with_reducible rfl
                   rotate_left
                   · simp only [Act.put,List.setIfInBounds_toArray,List.set_cons_zero,List.set_cons_succ,i64_w,i32_w]; rfl
                   refine take_ (i := 36) (N := some 61) (v := ?_) (a' := ?_) z12_38 rfl rfl (take_ofW HT_.out HW_.out (by kernel_rfl)) (fun _ _ _ h => h) (Or.inl ⟨by rfl,?_⟩) hHeld ?_ ?_; rotate_left
                   ·
                    rintro w' ⟨s0,s1,s2,s3,s4,s5,s6,s7,s8⟩
                    go_simp; with_reducible rfl
                   rotate_left
                   · simp only [Act.put,List.setIfInBounds_toArray,List.set_cons_zero,List.set_cons_succ,i64_w,i32_w]; rfl
                   refine take_ (i := 38) (N := some 63) (v := ?_) (a' := ?_) z12_39 rfl rfl (take_ofW HT_.out HW_.out (by kernel_rfl)) (fun _ _ _ h => h) (Or.inl ⟨by rfl,?_⟩) hHeld ?_ ?_; rotate_left
                   ·
                    rintro w' ⟨s0,s1,s2,s3,s4,s5,s6,s7,s8⟩
                    go_simp; with_reducible rfl
                   rotate_left
                   · simp only [Act.put,List.setIfInBounds_toArray,List.set_cons_zero,List.set_cons_succ,i64_w,i32_w]; rfl
                   refine pure_ (i := 39) (N := some 64) (v := ?_) (a' := ?_) z12_40 rfl rfl (any_of HT_.out (by kernel_rfl)) (fun _ _ _ h => h) (Or.inl ⟨by rfl,?_⟩) ?_ ?_; rotate_left
                   · intro w'; go_simp; with_reducible rfl
                   rotate_left
                   · simp only [Act.put,List.setIfInBounds_toArray,List.set_cons_zero,List.set_cons_succ,i64_w,i32_w]; rfl
                   refine pure_ (i := 40) (N := some 65) (v := ?_) (a' := ?_) z12_41 rfl rfl (any_of HT_.out (by kernel_rfl)) (fun _ _ _ h => h) (Or.inl ⟨by rfl,?_⟩) ?_ ?_; rotate_left
                   · intro w'; go_simp; with_reducible rfl
                   rotate_left
                   · simp only [Act.put,List.setIfInBounds_toArray,List.set_cons_zero,List.set_cons_succ,i64_w,i32_w]; rfl
                   refine pure_ (i := 41) (N := some 66) (v := ?_) (a' := ?_) z12_42 rfl rfl (any_of HT_.out (by kernel_rfl)) (fun _ _ _ h => h) (Or.inl ⟨by rfl,?_⟩) ?_ ?_; rotate_left
                   · intro w'; go_simp; with_reducible rfl
                   rotate_left
                   · simp only [Act.put,List.setIfInBounds_toArray,List.set_cons_zero,List.set_cons_succ,i64_w,i32_w]; rfl
                   refine pure_ (i := 42) (N := some 67) (v := ?_) (a' := ?_) z12_43 rfl rfl (any_of HT_.out (by kernel_rfl)) (fun _ _ _ h => h) (Or.inl ⟨by rfl,?_⟩) ?_ ?_; rotate_left
                   · intro w'; go_simp; with_reducible rfl
                   rotate_left
                   · simp only [Act.put,List.setIfInBounds_toArray,List.set_cons_zero,List.set_cons_succ,i64_w,i32_w]; rfl
                   refine pure_ (i := 43) (N := some 68) (v := ?_) (a' := ?_) z12_44 rfl rfl (any_of HT_.out (by kernel_rfl)) (fun _ _ _ h => h) (Or.inl ⟨by rfl,?_⟩) ?_ ?_; rotate_left
                   · intro w'; go_simp; with_reducible rfl
                   rotate_left
                   · simp only [Act.put,List.setIfInBounds_toArray,List.set_cons_zero,List.set_cons_succ,i64_w,i32_w]; rfl
                   refine pure_ (i := 44) (N := some 69) (v := ?_) (a' := ?_) z12_45 rfl rfl (any_of HT_.out (by kernel_rfl)) (fun _ _ _ h => h) (Or.inl ⟨by rfl,?_⟩) ?_ ?_; rotate_left
                   · intro w'; go_simp; with_reducible rfl
                   rotate_left
                   · simp only [Act.put,List.setIfInBounds_toArray,List.set_cons_zero,List.set_cons_succ,i64_w,i32_w]; rfl
                   refine pure_ (i := 45) (N := some 70) (v := ?_) (a' := ?_) z12_46 rfl rfl (any_of HT_.out (by kernel_rfl)) (fun _ _ _ h => h) (Or.inl ⟨by rfl,?_⟩) ?_ ?_; rotate_left
                   · intro w'; go_simp; with_reducible rfl
                   rotate_left
                   · simp only [Act.put,List.setIfInBounds_toArray,List.set_cons_zero,List.set_cons_succ,i64_w,i32_w]; rfl
                   refine pure_ (i := 47) (N := some 72) (v := ?_) (a' := ?_) z12_66 rfl rfl (any_of HT_.out (by kernel_rfl)) (fun _ _ _ h => h) (Or.inl ⟨by rfl,?_⟩) ?_ ?_; rotate_left
                   · intro w'; go_simp; with_reducible rfl
                   rotate_left
                   · simp only [Act.put,List.setIfInBounds_toArray,List.set_cons_zero,List.set_cons_succ,i64_w,i32_w]; rfl
                   refine take_ (i := 46) (N := some 71) (v := ?_) (a' := ?_) z12_48 rfl rfl (take_ofW HT_.out HW_.out (by kernel_rfl)) (fun _ _ _ h => h) (Or.inl ⟨by rfl,?_⟩) hHeld ?_ ?_; rotate_left
                   ·
                    rintro w' ⟨s0,s1,s2,s3,s4,s5,s6,s7,s8⟩
                    go_simp; with_reducible rfl
                   rotate_left
                   · simp only [Act.put,List.setIfInBounds_toArray,List.set_cons_zero,List.set_cons_succ,i64_w,i32_w]; rfl
                   refine take_ (i := 48) (N := some 73) (v := ?_) (a' := ?_) z12_49 rfl rfl (take_ofW HT_.out HW_.out (by kernel_rfl)) (fun _ _ _ h => h) (Or.inl ⟨by rfl,?_⟩) hHeld ?_ ?_; rotate_left
                   ·
                    rintro w' ⟨s0,s1,s2,s3,s4,s5,s6,s7,s8⟩
                    go_simp; with_reducible rfl
                   rotate_left
                   · simp only [Act.put,List.setIfInBounds_toArray,List.set_cons_zero,List.set_cons_succ,i64_w,i32_w]; rfl
                   refine pure_ (i := 49) (N := some 74) (v := ?_) (a' := ?_) z12_50 rfl rfl (any_of HT_.out (by kernel_rfl)) (fun _ _ _ h => h) (Or.inl ⟨by rfl,?_⟩) ?_ ?_; rotate_left
                   · intro w'; go_simp; with_reducible rfl
                   rotate_left
                   · simp only [Act.put,List.setIfInBounds_toArray,List.set_cons_zero,List.set_cons_succ,i64_w,i32_w]; rfl
                   refine pure_ (i := 50) (N := some 75) (v := ?_) (a' := ?_) z12_51 rfl rfl (any_of HT_.out (by kernel_rfl)) (fun _ _ _ h => h) (Or.inl ⟨by rfl,?_⟩) ?_ ?_; rotate_left
                   · intro w'; go_simp; with_reducible rfl
                   rotate_left
                   · simp only [Act.put,List.setIfInBounds_toArray,List.set_cons_zero,List.set_cons_succ,i64_w,i32_w]; rfl
                   refine pure_ (i := 51) (N := some 76) (v := undef) (a' := ?_) z12_52 rfl rfl (any_of HT_.out (by kernel_rfl)) (fun _ _ _ h => h) (Or.inr ⟨by rfl,rfl⟩) ?_ ?_; rotate_left
                   · simp only [Act.put,List.setIfInBounds_toArray,List.set_cons_zero,List.set_cons_succ,i64_w,i32_w]; rfl
                   refine pure_ (i := 52) (N := some 77) (v := undef) (a' := ?_) z12_53 rfl rfl (any_of HT_.out (by kernel_rfl)) (fun _ _ _ h => h) (Or.inr ⟨by rfl,rfl⟩) ?_ ?_; rotate_left
                   · simp only [Act.put,List.setIfInBounds_toArray,List.set_cons_zero,List.set_cons_succ,i64_w,i32_w]; rfl
                   refine pure_ (i := 53) (N := some 78) (v := undef) (a' := ?_) z12_54 rfl rfl (any_of HT_.out (by kernel_rfl)) (fun _ _ _ h => h) (Or.inr ⟨by rfl,rfl⟩) ?_ ?_; rotate_left
                   · simp only [Act.put,List.setIfInBounds_toArray,List.set_cons_zero,List.set_cons_succ,i64_w,i32_w]; rfl
                   refine pure_ (i := 54) (N := some 79) (v := undef) (a' := ?_) z12_55 rfl rfl (any_of HT_.out (by kernel_rfl)) (fun _ _ _ h => h) (Or.inr ⟨by rfl,rfl⟩) ?_ ?_; rotate_left
                   · simp only [Act.put,List.setIfInBounds_toArray,List.set_cons_zero,List.set_cons_succ,i64_w,i32_w]; rfl
                   refine pure_ (i := 55) (N := some 80) (v := undef) (a' := ?_) z12_56 rfl rfl (any_of HT_.out (by kernel_rfl)) (fun _ _ _ h => h) (Or.inr ⟨by rfl,rfl⟩) ?_ ?_; rotate_left
                   · simp only [Act.put,List.setIfInBounds_toArray,List.set_cons_zero,List.set_cons_succ,i64_w,i32_w]; rfl
                   refine pure_ (i := 56) (N := some 81) (v := undef) (a' := ?_) z12_57 rfl rfl (any_of HT_.out (by kernel_rfl)) (fun _ _ _ h => h) (Or.inr ⟨by rfl,rfl⟩) ?_ ?_; rotate_left
                   · simp only [Act.put,List.setIfInBounds_toArray,List.set_cons_zero,List.set_cons_succ,i64_w,i32_w]; rfl
                   refine pure_ (i := 57) (N := some 82) (v := undef) (a' := ?_) z12_58 rfl rfl (any_of HT_.out (by kernel_rfl)) (fun _ _ _ h => h) (Or.inr ⟨by rfl,rfl⟩) ?_ ?_; rotate_left
                   · simp only [Act.put,List.setIfInBounds_toArray,List.set_cons_zero,List.set_cons_succ,i64_w,i32_w]; rfl
                   refine pure_ (i := 58) (N := some 83) (v := undef) (a' := ?_) z12_59 rfl rfl (any_of HT_.out (by kernel_rfl)) (fun _ _ _ h => h) (Or.inr ⟨by rfl,rfl⟩) ?_ ?_; rotate_left
                   · simp only [Act.put,List.setIfInBounds_toArray,List.set_cons_zero,List.set_cons_succ,i64_w,i32_w]; rfl
                   refine pure_ (i := 59) (N := some 84) (v := undef) (a' := ?_) z12_60 rfl rfl (any_of HT_.out (by kernel_rfl)) (fun _ _ _ h => h) (Or.inr ⟨by rfl,rfl⟩) ?_ ?_; rotate_left
                   · simp only [Act.put,List.setIfInBounds_toArray,List.set_cons_zero,List.set_cons_succ,i64_w,i32_w]; rfl
                   refine pure_ (i := 60) (N := some 85) (v := ?_) (a' := ?_) z12_61 rfl rfl (any_of HT_.out (by kernel_rfl)) (fun _ _ _ h => h) (Or.inl ⟨by rfl,?_⟩) ?_ ?_; rotate_left
                   · intro w'; go_simp; with_reducible rfl
                   rotate_left
                   · simp only [Act.put,List.setIfInBounds_toArray,List.set_cons_zero,List.set_cons_succ,i64_w,i32_w]; rfl
                   refine pure_ (i := 61) (N := some 86) (v := ?_) (a' := ?_) z12_62 rfl rfl (any_of HT_.out (by kernel_rfl)) (fun _ _ _ h => h) (Or.inl ⟨by rfl,?_⟩) ?_ ?_; rotate_left
                   · intro w'; go_simp; with_reducible rfl
                   rotate_left
                   · simp only [Act.put,List.setIfInBounds_toArray,List.set_cons_zero,List.set_cons_succ,i64_w,i32_w]; rfl
                   refine pure_ (i := 62) (N := some 87) (v := ?_) (a' := ?_) z12_63 rfl rfl (any_of HT_.out (by kernel_rfl)) (fun _ _ _ h => h) (Or.inl ⟨by rfl,?_⟩) ?_ ?_; rotate_left
                   · intro w'; go_simp; with_reducible rfl
                   rotate_left
                   · simp only [Act.put,List.setIfInBounds_toArray,List.set_cons_zero,List.set_cons_succ,i64_w,i32_w]; rfl
                   refine pure_ (i := 63) (N := some 88) (v := ?_) (a' := ?_) z12_64 rfl rfl (any_of HT_.out (by kernel_rfl)) (fun _ _ _ h => h) (Or.inl ⟨by rfl,?_⟩) ?_ ?_; rotate_left
                   · intro w'; go_simp; with_reducible rfl
                   rotate_left
                   · simp only [Act.put,List.setIfInBounds_toArray,List.set_cons_zero,List.set_cons_succ,i64_w,i32_w]; rfl
                   refine done_ (done_of HT_.out (by kernel_rfl)) ?_
                   try go_wp2
                   go_meet
                   case rel => exact ⟨_,(false),(by first|rfl|(simp; done)|(simp [*]; done)),H',⟨by have := HJ2.out; have := HK2.out; first|omega|exact Nat.le_refl _⟩,⟨(rrB9 BK128.out)⟩,⟨by repeat (first|(with_reducible first|exact HB.out|apply zC|apply zE|apply zD|refine zB ?_ GE128.out)|exact HB.out)⟩⟩
                ·
                 rw [if_neg c24] at H
                 exact absurd H (by simp)
               ·
                rw [if_neg c23] at H
                exact absurd H (by simp)
              ·
               rw [if_neg c21] at H
               have c21b0 : decide (0 < x5_2) = false := decide_eq_false c21
               clear c21
               have H' := zA H
               clear H
               try go_wp2
               have n0_ : Aside0 ((((w10.setCell ⟨gb128,0,none⟩ (.int .i64 ((rd_T38 l1 x5_2).f0))).setCell ⟨gb128,1,none⟩ (.int .i64 ((rd_T38 l1 x5_2).f1))).setCell ⟨gb128,2,none⟩ (.int .i64 ((rd_T38 l1 x5_2).f2))).heap[gb128]? = some (.cells #[.int .i64 ((rd_T38 l1 x5_2).f0),.int .i64 ((rd_T38 l1 x5_2).f1),.int .i64 ((rd_T38 l1 x5_2).f2)] 38 (0,0))) := ⟨by (with_reducible repeat (first|refine zF ?_ _|refine zH ?_|refine zG ?_ _)); refine blk_put (cs := #[.int .i64 ((rd_T38 l1 x5_2).f0),.int .i64 ((rd_T38 l1 x5_2).f1),.int .i64 0]) ?_ 2 _ rfl; (with_reducible repeat (first|refine zF ?_ _|refine zH ?_|refine zG ?_ _)); refine blk_put (cs := #[.int .i64 ((rd_T38 l1 x5_2).f0),.int .i64 0,.int .i64 0]) ?_ 1 _ rfl; (with_reducible repeat (first|refine zF ?_ _|refine zH ?_|refine zG ?_ _)); refine blk_put (cs := #[.int .i64 0,.int .i64 0,.int .i64 0]) ?_ 0 _ rfl; (with_reducible repeat (first|refine zF ?_ _|refine zH ?_|refine zG ?_ _)); exact BK128.out⟩
               have n1_ : Aside0 (Below w.heap.size w (((w10.setCell ⟨gb128,0,none⟩ (.int .i64 ((rd_T38 l1 x5_2).f0))).setCell ⟨gb128,1,none⟩ (.int .i64 ((rd_T38 l1 x5_2).f1))).setCell ⟨gb128,2,none⟩ (.int .i64 ((rd_T38 l1 x5_2).f2)))) := ⟨by repeat (first|(with_reducible first|exact HB.out|apply zC|apply zE|apply zD|refine zB ?_ GE128.out)|exact HB.out)⟩
               (try clear BK128)
               (try clear HB)
               generalize (((w10.setCell ⟨gb128,0,none⟩ (.int .i64 ((rd_T38 l1 x5_2).f0))).setCell ⟨gb128,1,none⟩ (.int .i64 ((rd_T38 l1 x5_2).f1))).setCell ⟨gb128,2,none⟩ (.int .i64 ((rd_T38 l1 x5_2).f2))) = w33 at n0_ n1_ ⊢
               have BK128 := n0_
               have HB := n1_
               clear n0_ n1_
               have n0_ := zA (zH BK128.out)
               have n1_ := zA (zD HB.out)
               clear BK128 HB
               have BK128 := n0_
               have HB := n1_
               clear n0_ n1_
               refine start_ (n := 64) (S := fun w' => w'.cell? ⟨gb128,0,none⟩ = some (.int .i64 ((rd_T38 l1 x5_2).f0)) ∧ w'.cell? ⟨gb128,1,none⟩ = some (.int .i64 ((rd_T38 l1 x5_2).f1)) ∧ w'.cell? ⟨gb128,2,none⟩ = some (.int .i64 ((rd_T38 l1 x5_2).f2))) (ds := []) z12_0 (by kernel_rfl) rfl rfl ⟨(zI BK128.out 0).trans rfl,(zI BK128.out 1).trans rfl,(zI BK128.out 2).trans rfl⟩ (fun hHeld => ?_); refine with_tabW spec_RoadsOk.tab7 spec_RoadsOk.bits7 (fun HT_ HW_ => ?_)
               generalize w33.drew = w34 at BK128 HB hHeld ⊢
               refine pure_ (i := 0) (N := some 25) (v := ?_) (a' := ?_) z12_1 rfl rfl (any_of HT_.out (by kernel_rfl)) (fun _ _ _ h => h) (Or.inl ⟨by rfl,?_⟩) ?_ ?_; rotate_left
               · intro w'; go_simp; with_reducible rfl
               rotate_left
               · simp only [Act.put,List.setIfInBounds_toArray,List.set_cons_zero,List.set_cons_succ,i64_w,i32_w]; rfl
               refine pure_ (i := 2) (N := some 27) (v := ?_) (a' := ?_) z12_2 rfl rfl (any_of HT_.out (by kernel_rfl)) (fun _ _ _ h => h) (Or.inl ⟨by rfl,?_⟩) ?_ ?_; rotate_left
               · intro w'; go_simp; with_reducible rfl
               rotate_left
               · simp only [Act.put,List.setIfInBounds_toArray,List.set_cons_zero,List.set_cons_succ,i64_w,i32_w]; rfl
               refine pure_ (i := 3) (N := some 28) (v := ?_) (a' := ?_) z12_3 rfl rfl (any_of HT_.out (by kernel_rfl)) (fun _ _ _ h => h) (Or.inl ⟨by rfl,?_⟩) ?_ ?_; rotate_left
               · intro w'; go_simp; with_reducible rfl
               rotate_left
               · simp only [Act.put,List.setIfInBounds_toArray,List.set_cons_zero,List.set_cons_succ,i64_w,i32_w]; rfl
               refine take_ (i := 1) (N := some 26) (v := ?_) (a' := ?_) z12_4 rfl rfl (take_ofW HT_.out HW_.out (by kernel_rfl)) (fun _ _ _ h => h) (Or.inl ⟨by rfl,?_⟩) hHeld ?_ ?_; rotate_left
               ·
                rintro w' ⟨s0,s1,s2⟩
                go_simp; with_reducible rfl
               rotate_left
               · simp only [Act.put,List.setIfInBounds_toArray,List.set_cons_zero,List.set_cons_succ,i64_w,i32_w]; rfl
               refine one_ (i := 4) (N := some 29) z12_5 rfl rfl (one_of HT_.out (by kernel_rfl)) (by decide) (fun K hK => ?_)
               refine goes_ Try.func34 (by kernel_rfl) rfl #[.int .i64 ((rd_T38 l1 x5_2).f0),.int .i64 0,.int .i64 (wrap64 (a0 - 1))] (by rfl) rfl rfl (by (try simp only [List.map_toArray,List.map_cons,List.map_nil]); first | done|rfl|(simp only [List.length_drop,List.length_take]; rfl)) ?_
               with_reducible refine (spec_l01In.calls ((rd_T38 l1 x5_2).f0) 0 (wrap64 (a0 - 1)) true _ A12.out).mono ?_
               rintro e w' ⟨rfl,⟨nd,rfl⟩⟩
               refine ⟨_,rfl,?_⟩
               refine hK.out _ _ ⟨(zI BK128.out 0).trans rfl,(zI BK128.out 1).trans rfl,(zI BK128.out 2).trans rfl⟩ (fun hHeld => ?_)
               clear hK K
               refine norm_ (a' := ?_) ?_ ?_
               rotate_left
               ·
                show Act.put _ (some 29) _ = _
                simp only [Act.put,List.setIfInBounds_toArray,List.set_cons_zero,List.set_cons_succ,i64_w,i32_w]; rfl
               refine pure_ (i := 5) (N := some 30) (v := ?_) (a' := ?_) z12_6 rfl rfl (any_of HT_.out (by kernel_rfl)) (fun _ _ _ h => h) (Or.inl ⟨by rfl,?_⟩) ?_ ?_; rotate_left
               · intro w'; go_simp; with_reducible rfl
               rotate_left
               · simp only [Act.put,List.setIfInBounds_toArray,List.set_cons_zero,List.set_cons_succ,i64_w,i32_w]; rfl
               refine pure_ (i := 6) (N := some 31) (v := ?_) (a' := ?_) z12_7 rfl rfl (any_of HT_.out (by kernel_rfl)) (fun _ _ _ h => h) (Or.inl ⟨by rfl,?_⟩) ?_ ?_; rotate_left
               · intro w'; go_simp; with_reducible rfl
               rotate_left
               · simp only [Act.put,List.setIfInBounds_toArray,List.set_cons_zero,List.set_cons_succ,i64_w,i32_w]; rfl
               refine pure_ (i := 7) (N := some 32) (v := ?_) (a' := ?_) z12_8 rfl rfl (any_of HT_.out (by kernel_rfl)) (fun _ _ _ h => h) (Or.inl ⟨by rfl,?_⟩) ?_ ?_; rotate_left
               · intro w'; go_simp; with_reducible rfl
               rotate_left
               · simp only [Act.put,List.setIfInBounds_toArray,List.set_cons_zero,List.set_cons_succ,i64_w,i32_w]; rfl
               refine pure_ (i := 9) (N := some 34) (v := ?_) (a' := ?_) z12_9 rfl rfl (any_of HT_.out (by kernel_rfl)) (fun _ _ _ h => h) (Or.inl ⟨by rfl,?_⟩) ?_ ?_; rotate_left
               · intro w'; go_simp; with_reducible rfl
               rotate_left
               · simp only [Act.put,List.setIfInBounds_toArray,List.set_cons_zero,List.set_cons_succ,i64_w,i32_w]; rfl
               refine pure_ (i := 10) (N := some 35) (v := ?_) (a' := ?_) z12_10 rfl rfl (any_of HT_.out (by kernel_rfl)) (fun _ _ _ h => h) (Or.inl ⟨by rfl,?_⟩) ?_ ?_; rotate_left
               · intro w'; go_simp; with_reducible rfl
               rotate_left
               · simp only [Act.put,List.setIfInBounds_toArray,List.set_cons_zero,List.set_cons_succ,i64_w,i32_w]; rfl
               refine take_ (i := 8) (N := some 33) (v := ?_) (a' := ?_) z12_11 rfl rfl (take_ofW HT_.out HW_.out (by kernel_rfl)) (fun _ _ _ h => h) (Or.inl ⟨by rfl,?_⟩) hHeld ?_ ?_; rotate_left
               ·
                rintro w' ⟨s0,s1,s2⟩
                go_simp; with_reducible rfl
               rotate_left
               · simp only [Act.put,List.setIfInBounds_toArray,List.set_cons_zero,List.set_cons_succ,i64_w,i32_w]; rfl
               refine one_ (i := 11) (N := some 36) z12_12 rfl rfl (one_of HT_.out (by kernel_rfl)) (by decide) (fun K hK => ?_)
               refine goes_ Try.func34 (by kernel_rfl) rfl #[.int .i64 ((rd_T38 l1 x5_2).f1),.int .i64 0,.int .i64 (wrap64 (a0 - 1))] (by rfl) rfl rfl (by (try simp only [List.map_toArray,List.map_cons,List.map_nil]); first | done|rfl|(simp only [List.length_drop,List.length_take]; rfl)) ?_
               with_reducible refine (spec_l01In.calls ((rd_T38 l1 x5_2).f1) 0 (wrap64 (a0 - 1)) true _ A14.out).mono ?_
               rintro e w' ⟨rfl,⟨nd,rfl⟩⟩
               refine ⟨_,rfl,?_⟩
               refine hK.out _ _ ⟨(zI BK128.out 0).trans rfl,(zI BK128.out 1).trans rfl,(zI BK128.out 2).trans rfl⟩ (fun hHeld => ?_)
               clear hK K
               refine norm_ (a' := ?_) ?_ ?_
               rotate_left
               ·
                show Act.put _ (some 36) _ = _
                simp only [Act.put,List.setIfInBounds_toArray,List.set_cons_zero,List.set_cons_succ,i64_w,i32_w]; rfl
               refine pure_ (i := 12) (N := some 37) (v := ?_) (a' := ?_) z12_13 rfl rfl (any_of HT_.out (by kernel_rfl)) (fun _ _ _ h => h) (Or.inl ⟨by rfl,?_⟩) ?_ ?_; rotate_left
               · intro w'; go_simp; with_reducible rfl
               rotate_left
               · simp only [Act.put,List.setIfInBounds_toArray,List.set_cons_zero,List.set_cons_succ,i64_w,i32_w]; rfl
               refine pure_ (i := 13) (N := some 38) (v := ?_) (a' := ?_) z12_14 rfl rfl (any_of HT_.out (by kernel_rfl)) (fun _ _ _ h => h) (Or.inl ⟨by rfl,?_⟩) ?_ ?_; rotate_left
               · intro w'; go_simp; with_reducible rfl
               rotate_left
               · simp only [Act.put,List.setIfInBounds_toArray,List.set_cons_zero,List.set_cons_succ,i64_w,i32_w]; rfl
               refine pure_ (i := 14) (N := some 39) (v := ?_) (a' := ?_) z12_15 rfl rfl (any_of HT_.out (by kernel_rfl)) (fun _ _ _ h => h) (Or.inl ⟨by rfl,?_⟩) ?_ ?_; rotate_left
               · intro w'; go_simp; with_reducible rfl
               rotate_left
               · simp only [Act.put,List.setIfInBounds_toArray,List.set_cons_zero,List.set_cons_succ,i64_w,i32_w]; rfl
               refine pure_ (i := 15) (N := some 40) (v := ?_) (a' := ?_) z12_16 rfl rfl (any_of HT_.out (by kernel_rfl)) (fun _ _ _ h => h) (Or.inl ⟨by rfl,?_⟩) ?_ ?_; rotate_left
               · intro w'; go_simp; with_reducible rfl
               rotate_left
               · simp only [Act.put,List.setIfInBounds_toArray,List.set_cons_zero,List.set_cons_succ,i64_w,i32_w]; rfl
               refine pure_ (i := 17) (N := some 42) (v := ?_) (a' := ?_) z12_17 rfl rfl (any_of HT_.out (by kernel_rfl)) (fun _ _ _ h => h) (Or.inl ⟨by rfl,?_⟩) ?_ ?_; rotate_left
               · intro w'; go_simp; with_reducible rfl
               rotate_left
               · simp only [Act.put,List.setIfInBounds_toArray,List.set_cons_zero,List.set_cons_succ,i64_w,i32_w]; rfl
               refine take_ (i := 16) (N := some 41) (v := ?_) (a' := ?_) z12_18 rfl rfl (take_ofW HT_.out HW_.out (by kernel_rfl)) (fun _ _ _ h => h) (Or.inl ⟨by rfl,?_⟩) hHeld ?_ ?_; rotate_left
               ·
                rintro w' ⟨s0,s1,s2⟩
                go_simp; with_reducible rfl
               rotate_left
               · simp only [Act.put,List.setIfInBounds_toArray,List.set_cons_zero,List.set_cons_succ,i64_w,i32_w]; rfl
               refine take_ (i := 18) (N := some 43) (v := ?_) (a' := ?_) z12_19 rfl rfl (take_ofW HT_.out HW_.out (by kernel_rfl)) (fun _ _ _ h => h) (Or.inl ⟨by rfl,?_⟩) hHeld ?_ ?_; rotate_left
               ·
                rintro w' ⟨s0,s1,s2⟩
                go_simp; with_reducible rfl
               rotate_left
               · simp only [Act.put,List.setIfInBounds_toArray,List.set_cons_zero,List.set_cons_succ,i64_w,i32_w]; rfl
               refine pure_ (i := 19) (N := some 44) (v := ?_) (a' := ?_) z12_20 rfl rfl (any_of HT_.out (by kernel_rfl)) (fun _ _ _ h => h) (Or.inl ⟨by rfl,?_⟩) ?_ ?_; rotate_left
               · intro w'; go_simp; with_reducible rfl
               rotate_left
               · simp only [Act.put,List.setIfInBounds_toArray,List.set_cons_zero,List.set_cons_succ,i64_w,i32_w]; rfl
               refine pure_ (i := 20) (N := some 45) (v := ?_) (a' := ?_) z12_21 rfl rfl (any_of HT_.out (by kernel_rfl)) (fun _ _ _ h => h) (Or.inl ⟨by rfl,?_⟩) ?_ ?_; rotate_left
               · intro w'; go_simp; with_reducible rfl
               rotate_left
               · simp only [Act.put,List.setIfInBounds_toArray,List.set_cons_zero,List.set_cons_succ,i64_w,i32_w]; rfl
               refine pure_ (i := 21) (N := some 46) (v := ?_) (a' := ?_) z12_22 rfl rfl (any_of HT_.out (by kernel_rfl)) (fun _ _ _ h => h) (Or.inl ⟨by rfl,?_⟩) ?_ ?_; rotate_left
               · intro w'; go_simp; with_reducible rfl
               rotate_left
               · simp only [Act.put,List.setIfInBounds_toArray,List.set_cons_zero,List.set_cons_succ,i64_w,i32_w]; rfl
               refine pure_ (i := 22) (N := some 47) (v := ?_) (a' := ?_) z12_23 rfl rfl (any_of HT_.out (by kernel_rfl)) (fun _ _ _ h => h) (Or.inl ⟨by rfl,?_⟩) ?_ ?_; rotate_left
               · intro w'; go_simp; with_reducible rfl
               rotate_left
               · simp only [Act.put,List.setIfInBounds_toArray,List.set_cons_zero,List.set_cons_succ,i64_w,i32_w]; rfl
               refine take_ (i := 23) (N := some 48) (v := ?_) (a' := ?_) z12_24 rfl rfl (take_ofW HT_.out HW_.out (by kernel_rfl)) (fun _ _ _ h => h) (Or.inl ⟨by rfl,?_⟩) hHeld ?_ ?_; rotate_left
               ·
                rintro w' ⟨s0,s1,s2⟩
                go_simp; with_reducible rfl
               rotate_left
               · simp only [Act.put,List.setIfInBounds_toArray,List.set_cons_zero,List.set_cons_succ,i64_w,i32_w]; rfl
               refine one_ (i := 24) (N := some 49) z12_25 rfl rfl (one_of HT_.out (by kernel_rfl)) (by decide) (fun K hK => ?_)
               refine goes_ Try.func34 (by kernel_rfl) rfl #[.int .i64 ((rd_T38 l1 x5_2).f2),.int .i64 1,.int .i64 100] (by rfl) rfl rfl (by (try simp only [List.map_toArray,List.map_cons,List.map_nil]); first | done|rfl|(simp only [List.length_drop,List.length_take]; rfl)) ?_
               with_reducible refine (spec_l01In.calls ((rd_T38 l1 x5_2).f2) 1 100 true _ A19.out).mono ?_
               rintro e w' ⟨rfl,⟨nd,rfl⟩⟩
               refine ⟨_,rfl,?_⟩
               refine hK.out _ _ ⟨(zI BK128.out 0).trans rfl,(zI BK128.out 1).trans rfl,(zI BK128.out 2).trans rfl⟩ (fun hHeld => ?_)
               clear hK K
               refine norm_ (a' := ?_) ?_ ?_
               rotate_left
               ·
                show Act.put _ (some 49) _ = _
                simp only [Act.put,List.setIfInBounds_toArray,List.set_cons_zero,List.set_cons_succ,i64_w,i32_w]; rfl
               refine pure_ (i := 25) (N := some 50) (v := ?_) (a' := ?_) z12_26 rfl rfl (any_of HT_.out (by kernel_rfl)) (fun _ _ _ h => h) (Or.inl ⟨by rfl,?_⟩) ?_ ?_; rotate_left
               · intro w'; go_simp; with_reducible rfl
               rotate_left
               · simp only [Act.put,List.setIfInBounds_toArray,List.set_cons_zero,List.set_cons_succ,i64_w,i32_w]; rfl
               refine pure_ (i := 26) (N := some 51) (v := ?_) (a' := ?_) z12_27 rfl rfl (any_of HT_.out (by kernel_rfl)) (fun _ _ _ h => h) (Or.inl ⟨by rfl,?_⟩) ?_ ?_; rotate_left
               · intro w'; go_simp; with_reducible rfl
               rotate_left
               · simp only [Act.put,List.setIfInBounds_toArray,List.set_cons_zero,List.set_cons_succ,i64_w,i32_w]; rfl
               refine pure_ (i := 27) (N := some 52) (v := ?_) (a' := ?_) z12_28 rfl rfl (any_of HT_.out (by kernel_rfl)) (fun _ _ _ h => h) (Or.inl ⟨by rfl,?_⟩) ?_ ?_; rotate_left
               · intro w'; go_simp; with_reducible rfl
               rotate_left
               · simp only [Act.put,List.setIfInBounds_toArray,List.set_cons_zero,List.set_cons_succ,i64_w,i32_w]; rfl
               refine pure_ (i := 28) (N := some 53) (v := ?_) (a' := ?_) z12_29 rfl rfl (any_of HT_.out (by kernel_rfl)) (fun _ _ _ h => h) (Or.inl ⟨by rfl,?_⟩) ?_ ?_; rotate_left
               · intro w'; go_simp; with_reducible rfl
               rotate_left
               · simp only [Act.put,List.setIfInBounds_toArray,List.set_cons_zero,List.set_cons_succ,i64_w,i32_w]; rfl
               refine pure_ (i := 29) (N := some 54) (v := ?_) (a' := ?_) z12_30 rfl rfl (any_of HT_.out (by kernel_rfl)) (fun _ _ _ h => h) (Or.inl ⟨by rfl,?_⟩) ?_ ?_; rotate_left
               · intro w'; go_simp; with_reducible rfl
               rotate_left
               · simp only [Act.put,List.setIfInBounds_toArray,List.set_cons_zero,List.set_cons_succ,i64_w,i32_w]; rfl
               refine pure_ (i := 30) (N := some 55) (v := ?_) (a' := ?_) z12_31 rfl rfl (any_of HT_.out (by kernel_rfl)) (fun _ _ _ h => h) (Or.inl ⟨by rfl,?_⟩) ?_ ?_; rotate_left
               · intro w'; go_simp; with_reducible rfl
               rotate_left
               · simp only [Act.put,List.setIfInBounds_toArray,List.set_cons_zero,List.set_cons_succ,i64_w,i32_w]; rfl
               refine pure_ (i := 31) (N := some 56) (v := undef) (a' := ?_) z12_32 rfl rfl (any_of HT_.out (by kernel_rfl)) (fun _ _ _ h => h) (Or.inr ⟨by rfl,rfl⟩) ?_ ?_; rotate_left
               · simp only [Act.put,List.setIfInBounds_toArray,List.set_cons_zero,List.set_cons_succ,i64_w,i32_w]; rfl
               refine pure_ (i := 32) (N := some 57) (v := undef) (a' := ?_) z12_33 rfl rfl (any_of HT_.out (by kernel_rfl)) (fun _ _ _ h => h) (Or.inr ⟨by rfl,rfl⟩) ?_ ?_; rotate_left
               · simp only [Act.put,List.setIfInBounds_toArray,List.set_cons_zero,List.set_cons_succ,i64_w,i32_w]; rfl
               refine pure_ (i := 33) (N := some 58) (v := undef) (a' := ?_) z12_34 rfl rfl (any_of HT_.out (by kernel_rfl)) (fun _ _ _ h => h) (Or.inr ⟨by rfl,rfl⟩) ?_ ?_; rotate_left
               · simp only [Act.put,List.setIfInBounds_toArray,List.set_cons_zero,List.set_cons_succ,i64_w,i32_w]; rfl
               refine pure_ (i := 34) (N := some 59) (v := undef) (a' := ?_) z12_35 rfl rfl (any_of HT_.out (by kernel_rfl)) (fun _ _ _ h => h) (Or.inr ⟨by rfl,rfl⟩) ?_ ?_; rotate_left
               · simp only [Act.put,List.setIfInBounds_toArray,List.set_cons_zero,List.set_cons_succ,i64_w,i32_w]; rfl
               refine pure_ (i := 35) (N := some 60) (v := undef) (a' := ?_) z12_36 rfl rfl (any_of HT_.out (by kernel_rfl)) (fun _ _ _ h => h) (Or.inr ⟨by rfl,rfl⟩) ?_ ?_; rotate_left
               · simp only [Act.put,List.setIfInBounds_toArray,List.set_cons_zero,List.set_cons_succ,i64_w,i32_w]; rfl
               refine pure_ (i := 36) (N := some 61) (v := undef) (a' := ?_) z12_37 rfl rfl (any_of HT_.out (by kernel_rfl)) (fun _ _ _ h => h) (Or.inr ⟨by rfl,rfl⟩) ?_ ?_; rotate_left
               · simp only [Act.put,List.setIfInBounds_toArray,List.set_cons_zero,List.set_cons_succ,i64_w,i32_w]; rfl
               refine pure_ (i := 37) (N := some 62) (v := undef) (a' := ?_) z12_38 rfl rfl (any_of HT_.out (by kernel_rfl)) (fun _ _ _ h => h) (Or.inr ⟨by rfl,rfl⟩) ?_ ?_; rotate_left
               · simp only [Act.put,List.setIfInBounds_toArray,List.set_cons_zero,List.set_cons_succ,i64_w,i32_w]; rfl
               refine pure_ (i := 38) (N := some 63) (v := undef) (a' := ?_) z12_39 rfl rfl (any_of HT_.out (by kernel_rfl)) (fun _ _ _ h => h) (Or.inr ⟨by rfl,rfl⟩) ?_ ?_; rotate_left
               · simp only [Act.put,List.setIfInBounds_toArray,List.set_cons_zero,List.set_cons_succ,i64_w,i32_w]; rfl
               refine pure_ (i := 39) (N := some 64) (v := undef) (a' := ?_) z12_40 rfl rfl (any_of HT_.out (by kernel_rfl)) (fun _ _ _ h => h) (Or.inr ⟨by rfl,rfl⟩) ?_ ?_; rotate_left
               · simp only [Act.put,List.setIfInBounds_toArray,List.set_cons_zero,List.set_cons_succ,i64_w,i32_w]; rfl
               refine pure_ (i := 40) (N := some 65) (v := undef) (a' := ?_) z12_41 rfl rfl (any_of HT_.out (by kernel_rfl)) (fun _ _ _ h => h) (Or.inr ⟨by rfl,rfl⟩) ?_ ?_; rotate_left
               · simp only [Act.put,List.setIfInBounds_toArray,List.set_cons_zero,List.set_cons_succ,i64_w,i32_w]; rfl
               refine pure_ (i := 41) (N := some 66) (v := undef) (a' := ?_) z12_42 rfl rfl (any_of HT_.out (by kernel_rfl)) (fun _ _ _ h => h) (Or.inr ⟨by rfl,rfl⟩) ?_ ?_; rotate_left
               · simp only [Act.put,List.setIfInBounds_toArray,List.set_cons_zero,List.set_cons_succ,i64_w,i32_w]; rfl
               refine pure_ (i := 42) (N := some 67) (v := undef) (a' := ?_) z12_43 rfl rfl (any_of HT_.out (by kernel_rfl)) (fun _ _ _ h => h) (Or.inr ⟨by rfl,rfl⟩) ?_ ?_; rotate_left
               · simp only [Act.put,List.setIfInBounds_toArray,List.set_cons_zero,List.set_cons_succ,i64_w,i32_w]; rfl
               refine pure_ (i := 43) (N := some 68) (v := undef) (a' := ?_) z12_44 rfl rfl (any_of HT_.out (by kernel_rfl)) (fun _ _ _ h => h) (Or.inr ⟨by rfl,rfl⟩) ?_ ?_; rotate_left
               · simp only [Act.put,List.setIfInBounds_toArray,List.set_cons_zero,List.set_cons_succ,i64_w,i32_w]; rfl
               refine pure_ (i := 44) (N := some 69) (v := undef) (a' := ?_) z12_45 rfl rfl (any_of HT_.out (by kernel_rfl)) (fun _ _ _ h => h) (Or.inr ⟨by rfl,rfl⟩) ?_ ?_; rotate_left
               · simp only [Act.put,List.setIfInBounds_toArray,List.set_cons_zero,List.set_cons_succ,i64_w,i32_w]; rfl
               refine pure_ (i := 45) (N := some 70) (v := undef) (a' := ?_) z12_46 rfl rfl (any_of HT_.out (by kernel_rfl)) (fun _ _ _ h => h) (Or.inr ⟨by rfl,rfl⟩) ?_ ?_; rotate_left
               · simp only [Act.put,List.setIfInBounds_toArray,List.set_cons_zero,List.set_cons_succ,i64_w,i32_w]; rfl
               refine pure_ (i := 46) (N := some 71) (v := undef) (a' := ?_) z12_47 rfl rfl (any_of HT_.out (by kernel_rfl)) (fun _ _ _ h => h) (Or.inr ⟨by rfl,rfl⟩) ?_ ?_; rotate_left
               · simp only [Act.put,List.setIfInBounds_toArray,List.set_cons_zero,List.set_cons_succ,i64_w,i32_w]; rfl
               refine pure_ (i := 47) (N := some 72) (v := undef) (a' := ?_) z12_48 rfl rfl (any_of HT_.out (by kernel_rfl)) (fun _ _ _ h => h) (Or.inr ⟨by rfl,rfl⟩) ?_ ?_; rotate_left
               · simp only [Act.put,List.setIfInBounds_toArray,List.set_cons_zero,List.set_cons_succ,i64_w,i32_w]; rfl
               refine pure_ (i := 48) (N := some 73) (v := undef) (a' := ?_) z12_49 rfl rfl (any_of HT_.out (by kernel_rfl)) (fun _ _ _ h => h) (Or.inr ⟨by rfl,rfl⟩) ?_ ?_; rotate_left
               · simp only [Act.put,List.setIfInBounds_toArray,List.set_cons_zero,List.set_cons_succ,i64_w,i32_w]; rfl
               refine pure_ (i := 49) (N := some 74) (v := undef) (a' := ?_) z12_50 rfl rfl (any_of HT_.out (by kernel_rfl)) (fun _ _ _ h => h) (Or.inr ⟨by rfl,rfl⟩) ?_ ?_; rotate_left
               · simp only [Act.put,List.setIfInBounds_toArray,List.set_cons_zero,List.set_cons_succ,i64_w,i32_w]; rfl
               refine pure_ (i := 50) (N := some 75) (v := undef) (a' := ?_) z12_51 rfl rfl (any_of HT_.out (by kernel_rfl)) (fun _ _ _ h => h) (Or.inr ⟨by rfl,rfl⟩) ?_ ?_; rotate_left
               · simp only [Act.put,List.setIfInBounds_toArray,List.set_cons_zero,List.set_cons_succ,i64_w,i32_w]; rfl
               refine pure_ (i := 51) (N := some 76) (v := undef) (a' := ?_) z12_52 rfl rfl (any_of HT_.out (by kernel_rfl)) (fun _ _ _ h => h) (Or.inr ⟨by rfl,rfl⟩) ?_ ?_; rotate_left
               · simp only [Act.put,List.setIfInBounds_toArray,List.set_cons_zero,List.set_cons_succ,i64_w,i32_w]; rfl
               refine pure_ (i := 52) (N := some 77) (v := undef) (a' := ?_) z12_53 rfl rfl (any_of HT_.out (by kernel_rfl)) (fun _ _ _ h => h) (Or.inr ⟨by rfl,rfl⟩) ?_ ?_; rotate_left
               · simp only [Act.put,List.setIfInBounds_toArray,List.set_cons_zero,List.set_cons_succ,i64_w,i32_w]; rfl
               refine pure_ (i := 53) (N := some 78) (v := undef) (a' := ?_) z12_54 rfl rfl (any_of HT_.out (by kernel_rfl)) (fun _ _ _ h => h) (Or.inr ⟨by rfl,rfl⟩) ?_ ?_; rotate_left
               · simp only [Act.put,List.setIfInBounds_toArray,List.set_cons_zero,List.set_cons_succ,i64_w,i32_w]; rfl
               refine pure_ (i := 54) (N := some 79) (v := undef) (a' := ?_) z12_55 rfl rfl (any_of HT_.out (by kernel_rfl)) (fun _ _ _ h => h) (Or.inr ⟨by rfl,rfl⟩) ?_ ?_; rotate_left
               · simp only [Act.put,List.setIfInBounds_toArray,List.set_cons_zero,List.set_cons_succ,i64_w,i32_w]; rfl
               refine pure_ (i := 55) (N := some 80) (v := undef) (a' := ?_) z12_56 rfl rfl (any_of HT_.out (by kernel_rfl)) (fun _ _ _ h => h) (Or.inr ⟨by rfl,rfl⟩) ?_ ?_; rotate_left
               · simp only [Act.put,List.setIfInBounds_toArray,List.set_cons_zero,List.set_cons_succ,i64_w,i32_w]; rfl
               refine pure_ (i := 56) (N := some 81) (v := undef) (a' := ?_) z12_57 rfl rfl (any_of HT_.out (by kernel_rfl)) (fun _ _ _ h => h) (Or.inr ⟨by rfl,rfl⟩) ?_ ?_; rotate_left
               · simp only [Act.put,List.setIfInBounds_toArray,List.set_cons_zero,List.set_cons_succ,i64_w,i32_w]; rfl
               refine pure_ (i := 57) (N := some 82) (v := undef) (a' := ?_) z12_58 rfl rfl (any_of HT_.out (by kernel_rfl)) (fun _ _ _ h => h) (Or.inr ⟨by rfl,rfl⟩) ?_ ?_; rotate_left
               · simp only [Act.put,List.setIfInBounds_toArray,List.set_cons_zero,List.set_cons_succ,i64_w,i32_w]; rfl
               refine pure_ (i := 58) (N := some 83) (v := undef) (a' := ?_) z12_59 rfl rfl (any_of HT_.out (by kernel_rfl)) (fun _ _ _ h => h) (Or.inr ⟨by rfl,rfl⟩) ?_ ?_; rotate_left
               · simp only [Act.put,List.setIfInBounds_toArray,List.set_cons_zero,List.set_cons_succ,i64_w,i32_w]; rfl
               refine pure_ (i := 59) (N := some 84) (v := undef) (a' := ?_) z12_60 rfl rfl (any_of HT_.out (by kernel_rfl)) (fun _ _ _ h => h) (Or.inr ⟨by rfl,rfl⟩) ?_ ?_; rotate_left
               · simp only [Act.put,List.setIfInBounds_toArray,List.set_cons_zero,List.set_cons_succ,i64_w,i32_w]; rfl
               refine pure_ (i := 60) (N := some 85) (v := undef) (a' := ?_) z12_61 rfl rfl (any_of HT_.out (by kernel_rfl)) (fun _ _ _ h => h) (Or.inr ⟨by rfl,rfl⟩) ?_ ?_; rotate_left
               · simp only [Act.put,List.setIfInBounds_toArray,List.set_cons_zero,List.set_cons_succ,i64_w,i32_w]; rfl
               refine pure_ (i := 61) (N := some 86) (v := undef) (a' := ?_) z12_62 rfl rfl (any_of HT_.out (by kernel_rfl)) (fun _ _ _ h => h) (Or.inr ⟨by rfl,rfl⟩) ?_ ?_; rotate_left
               · simp only [Act.put,List.setIfInBounds_toArray,List.set_cons_zero,List.set_cons_succ,i64_w,i32_w]; rfl
               refine pure_ (i := 62) (N := some 87) (v := ?_) (a' := ?_) z12_63 rfl rfl (any_of HT_.out (by kernel_rfl)) (fun _ _ _ h => h) (Or.inl ⟨by rfl,?_⟩) ?_ ?_; rotate_left
               · intro w'; go_simp; with_reducible rfl
               rotate_left
               · simp only [Act.put,List.setIfInBounds_toArray,List.set_cons_zero,List.set_cons_succ,i64_w,i32_w]; rfl
               refine pure_ (i := 63) (N := some 88) (v := ?_) (a' := ?_) z12_64 rfl rfl (any_of HT_.out (by kernel_rfl)) (fun _ _ _ h => h) (Or.inl ⟨by rfl,?_⟩) ?_ ?_; rotate_left
               · intro w'; go_simp; with_reducible rfl
               rotate_left
               · simp only [Act.put,List.setIfInBounds_toArray,List.set_cons_zero,List.set_cons_succ,i64_w,i32_w]; rfl
               refine done_ (done_of HT_.out (by kernel_rfl)) ?_
               try go_wp2
               go_meet
               case rel => exact ⟨_,(false),(by first|rfl|(simp; done)|(simp [*]; done)),H',⟨by have := HJ2.out; have := HK2.out; first|omega|exact Nat.le_refl _⟩,⟨(rrB9 BK128.out)⟩,⟨by repeat (first|(with_reducible first|exact HB.out|apply zC|apply zE|apply zD|refine zB ?_ GE128.out)|exact HB.out)⟩⟩
             ·
              replace c20 := Bool.eq_false_iff.mpr c20
              subst c20
              have H1 : (spec_RoadsOk.j2 k2 a0 l1 x5_2 true) = some r := by rw [if_neg (show ¬ (false = true) by decide)] at H; exact H
              clear H; have H := H1; clear H1
              have H' := zA H
              clear H
              try go_wp2
              have n0_ : Aside0 ((((w10.setCell ⟨gb128,0,none⟩ (.int .i64 ((rd_T38 l1 x5_2).f0))).setCell ⟨gb128,1,none⟩ (.int .i64 ((rd_T38 l1 x5_2).f1))).setCell ⟨gb128,2,none⟩ (.int .i64 ((rd_T38 l1 x5_2).f2))).heap[gb128]? = some (.cells #[.int .i64 ((rd_T38 l1 x5_2).f0),.int .i64 ((rd_T38 l1 x5_2).f1),.int .i64 ((rd_T38 l1 x5_2).f2)] 38 (0,0))) := ⟨by (with_reducible repeat (first|refine zF ?_ _|refine zH ?_|refine zG ?_ _)); refine blk_put (cs := #[.int .i64 ((rd_T38 l1 x5_2).f0),.int .i64 ((rd_T38 l1 x5_2).f1),.int .i64 0]) ?_ 2 _ rfl; (with_reducible repeat (first|refine zF ?_ _|refine zH ?_|refine zG ?_ _)); refine blk_put (cs := #[.int .i64 ((rd_T38 l1 x5_2).f0),.int .i64 0,.int .i64 0]) ?_ 1 _ rfl; (with_reducible repeat (first|refine zF ?_ _|refine zH ?_|refine zG ?_ _)); refine blk_put (cs := #[.int .i64 0,.int .i64 0,.int .i64 0]) ?_ 0 _ rfl; (with_reducible repeat (first|refine zF ?_ _|refine zH ?_|refine zG ?_ _)); exact BK128.out⟩
              have n1_ : Aside0 (Below w.heap.size w (((w10.setCell ⟨gb128,0,none⟩ (.int .i64 ((rd_T38 l1 x5_2).f0))).setCell ⟨gb128,1,none⟩ (.int .i64 ((rd_T38 l1 x5_2).f1))).setCell ⟨gb128,2,none⟩ (.int .i64 ((rd_T38 l1 x5_2).f2)))) := ⟨by repeat (first|(with_reducible first|exact HB.out|apply zC|apply zE|apply zD|refine zB ?_ GE128.out)|exact HB.out)⟩
              (try clear BK128)
              (try clear HB)
              generalize (((w10.setCell ⟨gb128,0,none⟩ (.int .i64 ((rd_T38 l1 x5_2).f0))).setCell ⟨gb128,1,none⟩ (.int .i64 ((rd_T38 l1 x5_2).f1))).setCell ⟨gb128,2,none⟩ (.int .i64 ((rd_T38 l1 x5_2).f2))) = w35 at n0_ n1_ ⊢
              have BK128 := n0_
              have HB := n1_
              clear n0_ n1_
              have n0_ := zA (zH BK128.out)
              have n1_ := zA (zD HB.out)
              clear BK128 HB
              have BK128 := n0_
              have HB := n1_
              clear n0_ n1_
              refine start_ (n := 64) (S := fun w' => w'.cell? ⟨gb128,0,none⟩ = some (.int .i64 ((rd_T38 l1 x5_2).f0)) ∧ w'.cell? ⟨gb128,1,none⟩ = some (.int .i64 ((rd_T38 l1 x5_2).f1)) ∧ w'.cell? ⟨gb128,2,none⟩ = some (.int .i64 ((rd_T38 l1 x5_2).f2))) (ds := []) z12_0 (by kernel_rfl) rfl rfl ⟨(zI BK128.out 0).trans rfl,(zI BK128.out 1).trans rfl,(zI BK128.out 2).trans rfl⟩ (fun hHeld => ?_); refine with_tabW spec_RoadsOk.tab7 spec_RoadsOk.bits7 (fun HT_ HW_ => ?_)
              generalize w35.drew = w36 at BK128 HB hHeld ⊢
              refine pure_ (i := 0) (N := some 25) (v := ?_) (a' := ?_) z12_1 rfl rfl (any_of HT_.out (by kernel_rfl)) (fun _ _ _ h => h) (Or.inl ⟨by rfl,?_⟩) ?_ ?_; rotate_left
              · intro w'; go_simp; with_reducible rfl
              rotate_left
              · simp only [Act.put,List.setIfInBounds_toArray,List.set_cons_zero,List.set_cons_succ,i64_w,i32_w]; rfl
              refine pure_ (i := 2) (N := some 27) (v := ?_) (a' := ?_) z12_2 rfl rfl (any_of HT_.out (by kernel_rfl)) (fun _ _ _ h => h) (Or.inl ⟨by rfl,?_⟩) ?_ ?_; rotate_left
              · intro w'; go_simp; with_reducible rfl
              rotate_left
              · simp only [Act.put,List.setIfInBounds_toArray,List.set_cons_zero,List.set_cons_succ,i64_w,i32_w]; rfl
              refine pure_ (i := 3) (N := some 28) (v := ?_) (a' := ?_) z12_3 rfl rfl (any_of HT_.out (by kernel_rfl)) (fun _ _ _ h => h) (Or.inl ⟨by rfl,?_⟩) ?_ ?_; rotate_left
              · intro w'; go_simp; with_reducible rfl
              rotate_left
              · simp only [Act.put,List.setIfInBounds_toArray,List.set_cons_zero,List.set_cons_succ,i64_w,i32_w]; rfl
              refine take_ (i := 1) (N := some 26) (v := ?_) (a' := ?_) z12_4 rfl rfl (take_ofW HT_.out HW_.out (by kernel_rfl)) (fun _ _ _ h => h) (Or.inl ⟨by rfl,?_⟩) hHeld ?_ ?_; rotate_left
              ·
               rintro w' ⟨s0,s1,s2⟩
               go_simp; with_reducible rfl
              rotate_left
              · simp only [Act.put,List.setIfInBounds_toArray,List.set_cons_zero,List.set_cons_succ,i64_w,i32_w]; rfl
              refine one_ (i := 4) (N := some 29) z12_5 rfl rfl (one_of HT_.out (by kernel_rfl)) (by decide) (fun K hK => ?_)
              refine goes_ Try.func34 (by kernel_rfl) rfl #[.int .i64 ((rd_T38 l1 x5_2).f0),.int .i64 0,.int .i64 (wrap64 (a0 - 1))] (by rfl) rfl rfl (by (try simp only [List.map_toArray,List.map_cons,List.map_nil]); first | done|rfl|(simp only [List.length_drop,List.length_take]; rfl)) ?_
              with_reducible refine (spec_l01In.calls ((rd_T38 l1 x5_2).f0) 0 (wrap64 (a0 - 1)) true _ A12.out).mono ?_
              rintro e w' ⟨rfl,⟨nd,rfl⟩⟩
              refine ⟨_,rfl,?_⟩
              refine hK.out _ _ ⟨(zI BK128.out 0).trans rfl,(zI BK128.out 1).trans rfl,(zI BK128.out 2).trans rfl⟩ (fun hHeld => ?_)
              clear hK K
              refine norm_ (a' := ?_) ?_ ?_
              rotate_left
              ·
               show Act.put _ (some 29) _ = _
               simp only [Act.put,List.setIfInBounds_toArray,List.set_cons_zero,List.set_cons_succ,i64_w,i32_w]; rfl
              refine pure_ (i := 5) (N := some 30) (v := ?_) (a' := ?_) z12_6 rfl rfl (any_of HT_.out (by kernel_rfl)) (fun _ _ _ h => h) (Or.inl ⟨by rfl,?_⟩) ?_ ?_; rotate_left
              · intro w'; go_simp; with_reducible rfl
              rotate_left
              · simp only [Act.put,List.setIfInBounds_toArray,List.set_cons_zero,List.set_cons_succ,i64_w,i32_w]; rfl
              refine pure_ (i := 6) (N := some 31) (v := ?_) (a' := ?_) z12_7 rfl rfl (any_of HT_.out (by kernel_rfl)) (fun _ _ _ h => h) (Or.inl ⟨by rfl,?_⟩) ?_ ?_; rotate_left
              · intro w'; go_simp; with_reducible rfl
              rotate_left
              · simp only [Act.put,List.setIfInBounds_toArray,List.set_cons_zero,List.set_cons_succ,i64_w,i32_w]; rfl
              refine pure_ (i := 7) (N := some 32) (v := ?_) (a' := ?_) z12_8 rfl rfl (any_of HT_.out (by kernel_rfl)) (fun _ _ _ h => h) (Or.inl ⟨by rfl,?_⟩) ?_ ?_; rotate_left
              · intro w'; go_simp; with_reducible rfl
              rotate_left
              · simp only [Act.put,List.setIfInBounds_toArray,List.set_cons_zero,List.set_cons_succ,i64_w,i32_w]; rfl
              refine pure_ (i := 9) (N := some 34) (v := ?_) (a' := ?_) z12_9 rfl rfl (any_of HT_.out (by kernel_rfl)) (fun _ _ _ h => h) (Or.inl ⟨by rfl,?_⟩) ?_ ?_; rotate_left
              · intro w'; go_simp; with_reducible rfl
              rotate_left
              · simp only [Act.put,List.setIfInBounds_toArray,List.set_cons_zero,List.set_cons_succ,i64_w,i32_w]; rfl
              refine pure_ (i := 10) (N := some 35) (v := ?_) (a' := ?_) z12_10 rfl rfl (any_of HT_.out (by kernel_rfl)) (fun _ _ _ h => h) (Or.inl ⟨by rfl,?_⟩) ?_ ?_; rotate_left
              · intro w'; go_simp; with_reducible rfl
              rotate_left
              · simp only [Act.put,List.setIfInBounds_toArray,List.set_cons_zero,List.set_cons_succ,i64_w,i32_w]; rfl
              refine take_ (i := 8) (N := some 33) (v := ?_) (a' := ?_) z12_11 rfl rfl (take_ofW HT_.out HW_.out (by kernel_rfl)) (fun _ _ _ h => h) (Or.inl ⟨by rfl,?_⟩) hHeld ?_ ?_; rotate_left
              ·
               rintro w' ⟨s0,s1,s2⟩
               go_simp; with_reducible rfl
              rotate_left
              · simp only [Act.put,List.setIfInBounds_toArray,List.set_cons_zero,List.set_cons_succ,i64_w,i32_w]; rfl
              refine one_ (i := 11) (N := some 36) z12_12 rfl rfl (one_of HT_.out (by kernel_rfl)) (by decide) (fun K hK => ?_)
              refine goes_ Try.func34 (by kernel_rfl) rfl #[.int .i64 ((rd_T38 l1 x5_2).f1),.int .i64 0,.int .i64 (wrap64 (a0 - 1))] (by rfl) rfl rfl (by (try simp only [List.map_toArray,List.map_cons,List.map_nil]); first | done|rfl|(simp only [List.length_drop,List.length_take]; rfl)) ?_
              with_reducible refine (spec_l01In.calls ((rd_T38 l1 x5_2).f1) 0 (wrap64 (a0 - 1)) true _ A14.out).mono ?_
              rintro e w' ⟨rfl,⟨nd,rfl⟩⟩
              refine ⟨_,rfl,?_⟩
              refine hK.out _ _ ⟨(zI BK128.out 0).trans rfl,(zI BK128.out 1).trans rfl,(zI BK128.out 2).trans rfl⟩ (fun hHeld => ?_)
              clear hK K
              refine norm_ (a' := ?_) ?_ ?_
              rotate_left
              ·
               show Act.put _ (some 36) _ = _
               simp only [Act.put,List.setIfInBounds_toArray,List.set_cons_zero,List.set_cons_succ,i64_w,i32_w]; rfl
              refine pure_ (i := 12) (N := some 37) (v := ?_) (a' := ?_) z12_13 rfl rfl (any_of HT_.out (by kernel_rfl)) (fun _ _ _ h => h) (Or.inl ⟨by rfl,?_⟩) ?_ ?_; rotate_left
              · intro w'; go_simp; with_reducible rfl
              rotate_left
              · simp only [Act.put,List.setIfInBounds_toArray,List.set_cons_zero,List.set_cons_succ,i64_w,i32_w]; rfl
              refine pure_ (i := 13) (N := some 38) (v := ?_) (a' := ?_) z12_14 rfl rfl (any_of HT_.out (by kernel_rfl)) (fun _ _ _ h => h) (Or.inl ⟨by rfl,?_⟩) ?_ ?_; rotate_left
              · intro w'; go_simp; with_reducible rfl
              rotate_left
              · simp only [Act.put,List.setIfInBounds_toArray,List.set_cons_zero,List.set_cons_succ,i64_w,i32_w]; rfl
              refine pure_ (i := 14) (N := some 39) (v := ?_) (a' := ?_) z12_15 rfl rfl (any_of HT_.out (by kernel_rfl)) (fun _ _ _ h => h) (Or.inl ⟨by rfl,?_⟩) ?_ ?_; rotate_left
              · intro w'; go_simp; with_reducible rfl
              rotate_left
              · simp only [Act.put,List.setIfInBounds_toArray,List.set_cons_zero,List.set_cons_succ,i64_w,i32_w]; rfl
              refine pure_ (i := 15) (N := some 40) (v := ?_) (a' := ?_) z12_16 rfl rfl (any_of HT_.out (by kernel_rfl)) (fun _ _ _ h => h) (Or.inl ⟨by rfl,?_⟩) ?_ ?_; rotate_left
              · intro w'; go_simp; with_reducible rfl
              rotate_left
              · simp only [Act.put,List.setIfInBounds_toArray,List.set_cons_zero,List.set_cons_succ,i64_w,i32_w]; rfl
              refine pure_ (i := 17) (N := some 42) (v := ?_) (a' := ?_) z12_17 rfl rfl (any_of HT_.out (by kernel_rfl)) (fun _ _ _ h => h) (Or.inl ⟨by rfl,?_⟩) ?_ ?_; rotate_left
              · intro w'; go_simp; with_reducible rfl
              rotate_left
              · simp only [Act.put,List.setIfInBounds_toArray,List.set_cons_zero,List.set_cons_succ,i64_w,i32_w]; rfl
              refine take_ (i := 16) (N := some 41) (v := ?_) (a' := ?_) z12_18 rfl rfl (take_ofW HT_.out HW_.out (by kernel_rfl)) (fun _ _ _ h => h) (Or.inl ⟨by rfl,?_⟩) hHeld ?_ ?_; rotate_left
              ·
               rintro w' ⟨s0,s1,s2⟩
               go_simp; with_reducible rfl
              rotate_left
              · simp only [Act.put,List.setIfInBounds_toArray,List.set_cons_zero,List.set_cons_succ,i64_w,i32_w]; rfl
              refine take_ (i := 18) (N := some 43) (v := ?_) (a' := ?_) z12_19 rfl rfl (take_ofW HT_.out HW_.out (by kernel_rfl)) (fun _ _ _ h => h) (Or.inl ⟨by rfl,?_⟩) hHeld ?_ ?_; rotate_left
              ·
               rintro w' ⟨s0,s1,s2⟩
               go_simp; with_reducible rfl
              rotate_left
              · simp only [Act.put,List.setIfInBounds_toArray,List.set_cons_zero,List.set_cons_succ,i64_w,i32_w]; rfl
              refine pure_ (i := 19) (N := some 44) (v := ?_) (a' := ?_) z12_20 rfl rfl (any_of HT_.out (by kernel_rfl)) (fun _ _ _ h => h) (Or.inl ⟨by rfl,?_⟩) ?_ ?_; rotate_left
              · intro w'; go_simp; with_reducible rfl
              rotate_left
              · simp only [Act.put,List.setIfInBounds_toArray,List.set_cons_zero,List.set_cons_succ,i64_w,i32_w]; rfl
              refine pure_ (i := 20) (N := some 45) (v := ?_) (a' := ?_) z12_21 rfl rfl (any_of HT_.out (by kernel_rfl)) (fun _ _ _ h => h) (Or.inl ⟨by rfl,?_⟩) ?_ ?_; rotate_left
              · intro w'; go_simp; with_reducible rfl
              rotate_left
              · simp only [Act.put,List.setIfInBounds_toArray,List.set_cons_zero,List.set_cons_succ,i64_w,i32_w]; rfl
              refine pure_ (i := 21) (N := some 46) (v := ?_) (a' := ?_) z12_22 rfl rfl (any_of HT_.out (by kernel_rfl)) (fun _ _ _ h => h) (Or.inl ⟨by rfl,?_⟩) ?_ ?_; rotate_left
              · intro w'; go_simp; with_reducible rfl
              rotate_left
              · simp only [Act.put,List.setIfInBounds_toArray,List.set_cons_zero,List.set_cons_succ,i64_w,i32_w]; rfl
              refine pure_ (i := 22) (N := some 47) (v := ?_) (a' := ?_) z12_23 rfl rfl (any_of HT_.out (by kernel_rfl)) (fun _ _ _ h => h) (Or.inl ⟨by rfl,?_⟩) ?_ ?_; rotate_left
              · intro w'; go_simp; with_reducible rfl
              rotate_left
              · simp only [Act.put,List.setIfInBounds_toArray,List.set_cons_zero,List.set_cons_succ,i64_w,i32_w]; rfl
              refine take_ (i := 23) (N := some 48) (v := ?_) (a' := ?_) z12_24 rfl rfl (take_ofW HT_.out HW_.out (by kernel_rfl)) (fun _ _ _ h => h) (Or.inl ⟨by rfl,?_⟩) hHeld ?_ ?_; rotate_left
              ·
               rintro w' ⟨s0,s1,s2⟩
               go_simp; with_reducible rfl
              rotate_left
              · simp only [Act.put,List.setIfInBounds_toArray,List.set_cons_zero,List.set_cons_succ,i64_w,i32_w]; rfl
              refine one_ (i := 24) (N := some 49) z12_25 rfl rfl (one_of HT_.out (by kernel_rfl)) (by decide) (fun K hK => ?_)
              refine goes_ Try.func34 (by kernel_rfl) rfl #[.int .i64 ((rd_T38 l1 x5_2).f2),.int .i64 1,.int .i64 100] (by rfl) rfl rfl (by (try simp only [List.map_toArray,List.map_cons,List.map_nil]); first | done|rfl|(simp only [List.length_drop,List.length_take]; rfl)) ?_
              with_reducible refine (spec_l01In.calls ((rd_T38 l1 x5_2).f2) 1 100 false _ A19.out).mono ?_
              rintro e w' ⟨rfl,⟨nd,rfl⟩⟩
              refine ⟨_,rfl,?_⟩
              refine hK.out _ _ ⟨(zI BK128.out 0).trans rfl,(zI BK128.out 1).trans rfl,(zI BK128.out 2).trans rfl⟩ (fun hHeld => ?_)
              clear hK K
              refine norm_ (a' := ?_) ?_ ?_
              rotate_left
              ·
               show Act.put _ (some 49) _ = _
               simp only [Act.put,List.setIfInBounds_toArray,List.set_cons_zero,List.set_cons_succ,i64_w,i32_w]; rfl
              refine pure_ (i := 25) (N := some 50) (v := ?_) (a' := ?_) z12_26 rfl rfl (any_of HT_.out (by kernel_rfl)) (fun _ _ _ h => h) (Or.inl ⟨by rfl,?_⟩) ?_ ?_; rotate_left
              · intro w'; go_simp; with_reducible rfl
              rotate_left
              · simp only [Act.put,List.setIfInBounds_toArray,List.set_cons_zero,List.set_cons_succ,i64_w,i32_w]; rfl
              refine pure_ (i := 26) (N := some 51) (v := ?_) (a' := ?_) z12_27 rfl rfl (any_of HT_.out (by kernel_rfl)) (fun _ _ _ h => h) (Or.inl ⟨by rfl,?_⟩) ?_ ?_; rotate_left
              · intro w'; go_simp; with_reducible rfl
              rotate_left
              · simp only [Act.put,List.setIfInBounds_toArray,List.set_cons_zero,List.set_cons_succ,i64_w,i32_w]; rfl
              refine pure_ (i := 27) (N := some 52) (v := ?_) (a' := ?_) z12_28 rfl rfl (any_of HT_.out (by kernel_rfl)) (fun _ _ _ h => h) (Or.inl ⟨by rfl,?_⟩) ?_ ?_; rotate_left
              · intro w'; go_simp; with_reducible rfl
              rotate_left
              · simp only [Act.put,List.setIfInBounds_toArray,List.set_cons_zero,List.set_cons_succ,i64_w,i32_w]; rfl
              refine pure_ (i := 28) (N := some 53) (v := undef) (a' := ?_) z12_29 rfl rfl (any_of HT_.out (by kernel_rfl)) (fun _ _ _ h => h) (Or.inr ⟨by rfl,rfl⟩) ?_ ?_; rotate_left
              · simp only [Act.put,List.setIfInBounds_toArray,List.set_cons_zero,List.set_cons_succ,i64_w,i32_w]; rfl
              refine pure_ (i := 29) (N := some 54) (v := undef) (a' := ?_) z12_30 rfl rfl (any_of HT_.out (by kernel_rfl)) (fun _ _ _ h => h) (Or.inr ⟨by rfl,rfl⟩) ?_ ?_; rotate_left
              · simp only [Act.put,List.setIfInBounds_toArray,List.set_cons_zero,List.set_cons_succ,i64_w,i32_w]; rfl
              refine pure_ (i := 30) (N := some 55) (v := undef) (a' := ?_) z12_31 rfl rfl (any_of HT_.out (by kernel_rfl)) (fun _ _ _ h => h) (Or.inr ⟨by rfl,rfl⟩) ?_ ?_; rotate_left
              · simp only [Act.put,List.setIfInBounds_toArray,List.set_cons_zero,List.set_cons_succ,i64_w,i32_w]; rfl
              refine pure_ (i := 31) (N := some 56) (v := undef) (a' := ?_) z12_32 rfl rfl (any_of HT_.out (by kernel_rfl)) (fun _ _ _ h => h) (Or.inr ⟨by rfl,rfl⟩) ?_ ?_; rotate_left
              · simp only [Act.put,List.setIfInBounds_toArray,List.set_cons_zero,List.set_cons_succ,i64_w,i32_w]; rfl
              refine pure_ (i := 32) (N := some 57) (v := undef) (a' := ?_) z12_33 rfl rfl (any_of HT_.out (by kernel_rfl)) (fun _ _ _ h => h) (Or.inr ⟨by rfl,rfl⟩) ?_ ?_; rotate_left
              · simp only [Act.put,List.setIfInBounds_toArray,List.set_cons_zero,List.set_cons_succ,i64_w,i32_w]; rfl
              refine pure_ (i := 33) (N := some 58) (v := undef) (a' := ?_) z12_34 rfl rfl (any_of HT_.out (by kernel_rfl)) (fun _ _ _ h => h) (Or.inr ⟨by rfl,rfl⟩) ?_ ?_; rotate_left
              · simp only [Act.put,List.setIfInBounds_toArray,List.set_cons_zero,List.set_cons_succ,i64_w,i32_w]; rfl
              refine pure_ (i := 34) (N := some 59) (v := undef) (a' := ?_) z12_35 rfl rfl (any_of HT_.out (by kernel_rfl)) (fun _ _ _ h => h) (Or.inr ⟨by rfl,rfl⟩) ?_ ?_; rotate_left
              · simp only [Act.put,List.setIfInBounds_toArray,List.set_cons_zero,List.set_cons_succ,i64_w,i32_w]; rfl
              refine pure_ (i := 35) (N := some 60) (v := undef) (a' := ?_) z12_36 rfl rfl (any_of HT_.out (by kernel_rfl)) (fun _ _ _ h => h) (Or.inr ⟨by rfl,rfl⟩) ?_ ?_; rotate_left
              · simp only [Act.put,List.setIfInBounds_toArray,List.set_cons_zero,List.set_cons_succ,i64_w,i32_w]; rfl
              refine pure_ (i := 36) (N := some 61) (v := undef) (a' := ?_) z12_37 rfl rfl (any_of HT_.out (by kernel_rfl)) (fun _ _ _ h => h) (Or.inr ⟨by rfl,rfl⟩) ?_ ?_; rotate_left
              · simp only [Act.put,List.setIfInBounds_toArray,List.set_cons_zero,List.set_cons_succ,i64_w,i32_w]; rfl
              refine pure_ (i := 37) (N := some 62) (v := undef) (a' := ?_) z12_38 rfl rfl (any_of HT_.out (by kernel_rfl)) (fun _ _ _ h => h) (Or.inr ⟨by rfl,rfl⟩) ?_ ?_; rotate_left
              · simp only [Act.put,List.setIfInBounds_toArray,List.set_cons_zero,List.set_cons_succ,i64_w,i32_w]; rfl
              refine pure_ (i := 38) (N := some 63) (v := undef) (a' := ?_) z12_39 rfl rfl (any_of HT_.out (by kernel_rfl)) (fun _ _ _ h => h) (Or.inr ⟨by rfl,rfl⟩) ?_ ?_; rotate_left
              · simp only [Act.put,List.setIfInBounds_toArray,List.set_cons_zero,List.set_cons_succ,i64_w,i32_w]; rfl
              refine pure_ (i := 39) (N := some 64) (v := undef) (a' := ?_) z12_40 rfl rfl (any_of HT_.out (by kernel_rfl)) (fun _ _ _ h => h) (Or.inr ⟨by rfl,rfl⟩) ?_ ?_; rotate_left
              · simp only [Act.put,List.setIfInBounds_toArray,List.set_cons_zero,List.set_cons_succ,i64_w,i32_w]; rfl
              refine pure_ (i := 40) (N := some 65) (v := undef) (a' := ?_) z12_41 rfl rfl (any_of HT_.out (by kernel_rfl)) (fun _ _ _ h => h) (Or.inr ⟨by rfl,rfl⟩) ?_ ?_; rotate_left
              · simp only [Act.put,List.setIfInBounds_toArray,List.set_cons_zero,List.set_cons_succ,i64_w,i32_w]; rfl
              refine pure_ (i := 41) (N := some 66) (v := undef) (a' := ?_) z12_42 rfl rfl (any_of HT_.out (by kernel_rfl)) (fun _ _ _ h => h) (Or.inr ⟨by rfl,rfl⟩) ?_ ?_; rotate_left
              · simp only [Act.put,List.setIfInBounds_toArray,List.set_cons_zero,List.set_cons_succ,i64_w,i32_w]; rfl
              refine pure_ (i := 42) (N := some 67) (v := undef) (a' := ?_) z12_43 rfl rfl (any_of HT_.out (by kernel_rfl)) (fun _ _ _ h => h) (Or.inr ⟨by rfl,rfl⟩) ?_ ?_; rotate_left
              · simp only [Act.put,List.setIfInBounds_toArray,List.set_cons_zero,List.set_cons_succ,i64_w,i32_w]; rfl
              refine pure_ (i := 43) (N := some 68) (v := undef) (a' := ?_) z12_44 rfl rfl (any_of HT_.out (by kernel_rfl)) (fun _ _ _ h => h) (Or.inr ⟨by rfl,rfl⟩) ?_ ?_; rotate_left
              · simp only [Act.put,List.setIfInBounds_toArray,List.set_cons_zero,List.set_cons_succ,i64_w,i32_w]; rfl
              refine pure_ (i := 44) (N := some 69) (v := undef) (a' := ?_) z12_45 rfl rfl (any_of HT_.out (by kernel_rfl)) (fun _ _ _ h => h) (Or.inr ⟨by rfl,rfl⟩) ?_ ?_; rotate_left
              · simp only [Act.put,List.setIfInBounds_toArray,List.set_cons_zero,List.set_cons_succ,i64_w,i32_w]; rfl
              refine pure_ (i := 45) (N := some 70) (v := undef) (a' := ?_) z12_46 rfl rfl (any_of HT_.out (by kernel_rfl)) (fun _ _ _ h => h) (Or.inr ⟨by rfl,rfl⟩) ?_ ?_; rotate_left
              · simp only [Act.put,List.setIfInBounds_toArray,List.set_cons_zero,List.set_cons_succ,i64_w,i32_w]; rfl
              refine pure_ (i := 46) (N := some 71) (v := undef) (a' := ?_) z12_47 rfl rfl (any_of HT_.out (by kernel_rfl)) (fun _ _ _ h => h) (Or.inr ⟨by rfl,rfl⟩) ?_ ?_; rotate_left
              · simp only [Act.put,List.setIfInBounds_toArray,List.set_cons_zero,List.set_cons_succ,i64_w,i32_w]; rfl
              refine pure_ (i := 47) (N := some 72) (v := undef) (a' := ?_) z12_48 rfl rfl (any_of HT_.out (by kernel_rfl)) (fun _ _ _ h => h) (Or.inr ⟨by rfl,rfl⟩) ?_ ?_; rotate_left
              · simp only [Act.put,List.setIfInBounds_toArray,List.set_cons_zero,List.set_cons_succ,i64_w,i32_w]; rfl
              refine pure_ (i := 48) (N := some 73) (v := undef) (a' := ?_) z12_49 rfl rfl (any_of HT_.out (by kernel_rfl)) (fun _ _ _ h => h) (Or.inr ⟨by rfl,rfl⟩) ?_ ?_; rotate_left
              · simp only [Act.put,List.setIfInBounds_toArray,List.set_cons_zero,List.set_cons_succ,i64_w,i32_w]; rfl
              refine pure_ (i := 49) (N := some 74) (v := undef) (a' := ?_) z12_50 rfl rfl (any_of HT_.out (by kernel_rfl)) (fun _ _ _ h => h) (Or.inr ⟨by rfl,rfl⟩) ?_ ?_; rotate_left
              · simp only [Act.put,List.setIfInBounds_toArray,List.set_cons_zero,List.set_cons_succ,i64_w,i32_w]; rfl
              refine pure_ (i := 50) (N := some 75) (v := undef) (a' := ?_) z12_51 rfl rfl (any_of HT_.out (by kernel_rfl)) (fun _ _ _ h => h) (Or.inr ⟨by rfl,rfl⟩) ?_ ?_; rotate_left
              · simp only [Act.put,List.setIfInBounds_toArray,List.set_cons_zero,List.set_cons_succ,i64_w,i32_w]; rfl
              refine pure_ (i := 51) (N := some 76) (v := undef) (a' := ?_) z12_52 rfl rfl (any_of HT_.out (by kernel_rfl)) (fun _ _ _ h => h) (Or.inr ⟨by rfl,rfl⟩) ?_ ?_; rotate_left
              · simp only [Act.put,List.setIfInBounds_toArray,List.set_cons_zero,List.set_cons_succ,i64_w,i32_w]; rfl
              refine pure_ (i := 52) (N := some 77) (v := undef) (a' := ?_) z12_53 rfl rfl (any_of HT_.out (by kernel_rfl)) (fun _ _ _ h => h) (Or.inr ⟨by rfl,rfl⟩) ?_ ?_; rotate_left
              · simp only [Act.put,List.setIfInBounds_toArray,List.set_cons_zero,List.set_cons_succ,i64_w,i32_w]; rfl
              refine pure_ (i := 53) (N := some 78) (v := undef) (a' := ?_) z12_54 rfl rfl (any_of HT_.out (by kernel_rfl)) (fun _ _ _ h => h) (Or.inr ⟨by rfl,rfl⟩) ?_ ?_; rotate_left
              · simp only [Act.put,List.setIfInBounds_toArray,List.set_cons_zero,List.set_cons_succ,i64_w,i32_w]; rfl
              refine pure_ (i := 54) (N := some 79) (v := undef) (a' := ?_) z12_55 rfl rfl (any_of HT_.out (by kernel_rfl)) (fun _ _ _ h => h) (Or.inr ⟨by rfl,rfl⟩) ?_ ?_; rotate_left
              · simp only [Act.put,List.setIfInBounds_toArray,List.set_cons_zero,List.set_cons_succ,i64_w,i32_w]; rfl
              refine pure_ (i := 55) (N := some 80) (v := undef) (a' := ?_) z12_56 rfl rfl (any_of HT_.out (by kernel_rfl)) (fun _ _ _ h => h) (Or.inr ⟨by rfl,rfl⟩) ?_ ?_; rotate_left
              · simp only [Act.put,List.setIfInBounds_toArray,List.set_cons_zero,List.set_cons_succ,i64_w,i32_w]; rfl
              refine pure_ (i := 56) (N := some 81) (v := undef) (a' := ?_) z12_57 rfl rfl (any_of HT_.out (by kernel_rfl)) (fun _ _ _ h => h) (Or.inr ⟨by rfl,rfl⟩) ?_ ?_; rotate_left
              · simp only [Act.put,List.setIfInBounds_toArray,List.set_cons_zero,List.set_cons_succ,i64_w,i32_w]; rfl
              refine pure_ (i := 57) (N := some 82) (v := undef) (a' := ?_) z12_58 rfl rfl (any_of HT_.out (by kernel_rfl)) (fun _ _ _ h => h) (Or.inr ⟨by rfl,rfl⟩) ?_ ?_; rotate_left
              · simp only [Act.put,List.setIfInBounds_toArray,List.set_cons_zero,List.set_cons_succ,i64_w,i32_w]; rfl
              refine pure_ (i := 58) (N := some 83) (v := undef) (a' := ?_) z12_59 rfl rfl (any_of HT_.out (by kernel_rfl)) (fun _ _ _ h => h) (Or.inr ⟨by rfl,rfl⟩) ?_ ?_; rotate_left
              · simp only [Act.put,List.setIfInBounds_toArray,List.set_cons_zero,List.set_cons_succ,i64_w,i32_w]; rfl
              refine pure_ (i := 59) (N := some 84) (v := undef) (a' := ?_) z12_60 rfl rfl (any_of HT_.out (by kernel_rfl)) (fun _ _ _ h => h) (Or.inr ⟨by rfl,rfl⟩) ?_ ?_; rotate_left
              · simp only [Act.put,List.setIfInBounds_toArray,List.set_cons_zero,List.set_cons_succ,i64_w,i32_w]; rfl
              refine pure_ (i := 60) (N := some 85) (v := undef) (a' := ?_) z12_61 rfl rfl (any_of HT_.out (by kernel_rfl)) (fun _ _ _ h => h) (Or.inr ⟨by rfl,rfl⟩) ?_ ?_; rotate_left
              · simp only [Act.put,List.setIfInBounds_toArray,List.set_cons_zero,List.set_cons_succ,i64_w,i32_w]; rfl
              refine pure_ (i := 61) (N := some 86) (v := undef) (a' := ?_) z12_62 rfl rfl (any_of HT_.out (by kernel_rfl)) (fun _ _ _ h => h) (Or.inr ⟨by rfl,rfl⟩) ?_ ?_; rotate_left
              · simp only [Act.put,List.setIfInBounds_toArray,List.set_cons_zero,List.set_cons_succ,i64_w,i32_w]; rfl
              refine pure_ (i := 62) (N := some 87) (v := undef) (a' := ?_) z12_63 rfl rfl (any_of HT_.out (by kernel_rfl)) (fun _ _ _ h => h) (Or.inr ⟨by rfl,rfl⟩) ?_ ?_; rotate_left
              · simp only [Act.put,List.setIfInBounds_toArray,List.set_cons_zero,List.set_cons_succ,i64_w,i32_w]; rfl
              refine pure_ (i := 63) (N := some 88) (v := ?_) (a' := ?_) z12_64 rfl rfl (any_of HT_.out (by kernel_rfl)) (fun _ _ _ h => h) (Or.inl ⟨by rfl,?_⟩) ?_ ?_; rotate_left
              · intro w'; go_simp; with_reducible rfl
              rotate_left
              · simp only [Act.put,List.setIfInBounds_toArray,List.set_cons_zero,List.set_cons_succ,i64_w,i32_w]; rfl
              refine done_ (done_of HT_.out (by kernel_rfl)) ?_
              try go_wp2
              go_meet
              case rel => exact ⟨_,(true),(by first|rfl|(simp; done)|(simp [*]; done)),H',⟨by have := HJ2.out; have := HK2.out; first|omega|exact Nat.le_refl _⟩,⟨(rrB9 BK128.out)⟩,⟨by repeat (first|(with_reducible first|exact HB.out|apply zC|apply zE|apply zD|refine zB ?_ GE128.out)|exact HB.out)⟩⟩
           ·
            replace c15 := Bool.eq_false_iff.mpr c15
            subst c15
            have H1 : (spec_RoadsOk.j2 k2 a0 l1 x5_2 true) = some r := by rw [if_neg (show ¬ (false = true) by decide)] at H; exact H
            clear H; have H := H1; clear H1
            have H' := zA H
            clear H
            try go_wp2
            have n0_ : Aside0 ((((w10.setCell ⟨gb128,0,none⟩ (.int .i64 ((rd_T38 l1 x5_2).f0))).setCell ⟨gb128,1,none⟩ (.int .i64 ((rd_T38 l1 x5_2).f1))).setCell ⟨gb128,2,none⟩ (.int .i64 ((rd_T38 l1 x5_2).f2))).heap[gb128]? = some (.cells #[.int .i64 ((rd_T38 l1 x5_2).f0),.int .i64 ((rd_T38 l1 x5_2).f1),.int .i64 ((rd_T38 l1 x5_2).f2)] 38 (0,0))) := ⟨by (with_reducible repeat (first|refine zF ?_ _|refine zH ?_|refine zG ?_ _)); refine blk_put (cs := #[.int .i64 ((rd_T38 l1 x5_2).f0),.int .i64 ((rd_T38 l1 x5_2).f1),.int .i64 0]) ?_ 2 _ rfl; (with_reducible repeat (first|refine zF ?_ _|refine zH ?_|refine zG ?_ _)); refine blk_put (cs := #[.int .i64 ((rd_T38 l1 x5_2).f0),.int .i64 0,.int .i64 0]) ?_ 1 _ rfl; (with_reducible repeat (first|refine zF ?_ _|refine zH ?_|refine zG ?_ _)); refine blk_put (cs := #[.int .i64 0,.int .i64 0,.int .i64 0]) ?_ 0 _ rfl; (with_reducible repeat (first|refine zF ?_ _|refine zH ?_|refine zG ?_ _)); exact BK128.out⟩
            have n1_ : Aside0 (Below w.heap.size w (((w10.setCell ⟨gb128,0,none⟩ (.int .i64 ((rd_T38 l1 x5_2).f0))).setCell ⟨gb128,1,none⟩ (.int .i64 ((rd_T38 l1 x5_2).f1))).setCell ⟨gb128,2,none⟩ (.int .i64 ((rd_T38 l1 x5_2).f2)))) := ⟨by repeat (first|(with_reducible first|exact HB.out|apply zC|apply zE|apply zD|refine zB ?_ GE128.out)|exact HB.out)⟩
            (try clear BK128)
            (try clear HB)
            generalize (((w10.setCell ⟨gb128,0,none⟩ (.int .i64 ((rd_T38 l1 x5_2).f0))).setCell ⟨gb128,1,none⟩ (.int .i64 ((rd_T38 l1 x5_2).f1))).setCell ⟨gb128,2,none⟩ (.int .i64 ((rd_T38 l1 x5_2).f2))) = w37 at n0_ n1_ ⊢
            have BK128 := n0_
            have HB := n1_
            clear n0_ n1_
            have n0_ := zA (zH BK128.out)
            have n1_ := zA (zD HB.out)
            clear BK128 HB
            have BK128 := n0_
            have HB := n1_
            clear n0_ n1_
            refine start_ (n := 64) (S := fun w' => w'.cell? ⟨gb128,0,none⟩ = some (.int .i64 ((rd_T38 l1 x5_2).f0)) ∧ w'.cell? ⟨gb128,1,none⟩ = some (.int .i64 ((rd_T38 l1 x5_2).f1)) ∧ w'.cell? ⟨gb128,2,none⟩ = some (.int .i64 ((rd_T38 l1 x5_2).f2))) (ds := []) z12_0 (by kernel_rfl) rfl rfl ⟨(zI BK128.out 0).trans rfl,(zI BK128.out 1).trans rfl,(zI BK128.out 2).trans rfl⟩ (fun hHeld => ?_); refine with_tabW spec_RoadsOk.tab7 spec_RoadsOk.bits7 (fun HT_ HW_ => ?_)
            generalize w37.drew = w38 at BK128 HB hHeld ⊢
            refine pure_ (i := 0) (N := some 25) (v := ?_) (a' := ?_) z12_1 rfl rfl (any_of HT_.out (by kernel_rfl)) (fun _ _ _ h => h) (Or.inl ⟨by rfl,?_⟩) ?_ ?_; rotate_left
            · intro w'; go_simp; with_reducible rfl
            rotate_left
            · simp only [Act.put,List.setIfInBounds_toArray,List.set_cons_zero,List.set_cons_succ,i64_w,i32_w]; rfl
            refine pure_ (i := 2) (N := some 27) (v := ?_) (a' := ?_) z12_2 rfl rfl (any_of HT_.out (by kernel_rfl)) (fun _ _ _ h => h) (Or.inl ⟨by rfl,?_⟩) ?_ ?_; rotate_left
            · intro w'; go_simp; with_reducible rfl
            rotate_left
            · simp only [Act.put,List.setIfInBounds_toArray,List.set_cons_zero,List.set_cons_succ,i64_w,i32_w]; rfl
            refine pure_ (i := 3) (N := some 28) (v := ?_) (a' := ?_) z12_3 rfl rfl (any_of HT_.out (by kernel_rfl)) (fun _ _ _ h => h) (Or.inl ⟨by rfl,?_⟩) ?_ ?_; rotate_left
            · intro w'; go_simp; with_reducible rfl
            rotate_left
            · simp only [Act.put,List.setIfInBounds_toArray,List.set_cons_zero,List.set_cons_succ,i64_w,i32_w]; rfl
            refine take_ (i := 1) (N := some 26) (v := ?_) (a' := ?_) z12_4 rfl rfl (take_ofW HT_.out HW_.out (by kernel_rfl)) (fun _ _ _ h => h) (Or.inl ⟨by rfl,?_⟩) hHeld ?_ ?_; rotate_left
            ·
             rintro w' ⟨s0,s1,s2⟩
             go_simp; with_reducible rfl
            rotate_left
            · simp only [Act.put,List.setIfInBounds_toArray,List.set_cons_zero,List.set_cons_succ,i64_w,i32_w]; rfl
            refine one_ (i := 4) (N := some 29) z12_5 rfl rfl (one_of HT_.out (by kernel_rfl)) (by decide) (fun K hK => ?_)
            refine goes_ Try.func34 (by kernel_rfl) rfl #[.int .i64 ((rd_T38 l1 x5_2).f0),.int .i64 0,.int .i64 (wrap64 (a0 - 1))] (by rfl) rfl rfl (by (try simp only [List.map_toArray,List.map_cons,List.map_nil]); first | done|rfl|(simp only [List.length_drop,List.length_take]; rfl)) ?_
            with_reducible refine (spec_l01In.calls ((rd_T38 l1 x5_2).f0) 0 (wrap64 (a0 - 1)) true _ A12.out).mono ?_
            rintro e w' ⟨rfl,⟨nd,rfl⟩⟩
            refine ⟨_,rfl,?_⟩
            refine hK.out _ _ ⟨(zI BK128.out 0).trans rfl,(zI BK128.out 1).trans rfl,(zI BK128.out 2).trans rfl⟩ (fun hHeld => ?_)
            clear hK K
            refine norm_ (a' := ?_) ?_ ?_
            rotate_left
            ·
             show Act.put _ (some 29) _ = _
             simp only [Act.put,List.setIfInBounds_toArray,List.set_cons_zero,List.set_cons_succ,i64_w,i32_w]; rfl
            refine pure_ (i := 5) (N := some 30) (v := ?_) (a' := ?_) z12_6 rfl rfl (any_of HT_.out (by kernel_rfl)) (fun _ _ _ h => h) (Or.inl ⟨by rfl,?_⟩) ?_ ?_; rotate_left
            · intro w'; go_simp; with_reducible rfl
            rotate_left
            · simp only [Act.put,List.setIfInBounds_toArray,List.set_cons_zero,List.set_cons_succ,i64_w,i32_w]; rfl
            refine pure_ (i := 6) (N := some 31) (v := ?_) (a' := ?_) z12_7 rfl rfl (any_of HT_.out (by kernel_rfl)) (fun _ _ _ h => h) (Or.inl ⟨by rfl,?_⟩) ?_ ?_; rotate_left
            · intro w'; go_simp; with_reducible rfl
            rotate_left
            · simp only [Act.put,List.setIfInBounds_toArray,List.set_cons_zero,List.set_cons_succ,i64_w,i32_w]; rfl
            refine pure_ (i := 7) (N := some 32) (v := ?_) (a' := ?_) z12_8 rfl rfl (any_of HT_.out (by kernel_rfl)) (fun _ _ _ h => h) (Or.inl ⟨by rfl,?_⟩) ?_ ?_; rotate_left
            · intro w'; go_simp; with_reducible rfl
            rotate_left
            · simp only [Act.put,List.setIfInBounds_toArray,List.set_cons_zero,List.set_cons_succ,i64_w,i32_w]; rfl
            refine pure_ (i := 9) (N := some 34) (v := ?_) (a' := ?_) z12_9 rfl rfl (any_of HT_.out (by kernel_rfl)) (fun _ _ _ h => h) (Or.inl ⟨by rfl,?_⟩) ?_ ?_; rotate_left
            · intro w'; go_simp; with_reducible rfl
            rotate_left
            · simp only [Act.put,List.setIfInBounds_toArray,List.set_cons_zero,List.set_cons_succ,i64_w,i32_w]; rfl
            refine pure_ (i := 10) (N := some 35) (v := ?_) (a' := ?_) z12_10 rfl rfl (any_of HT_.out (by kernel_rfl)) (fun _ _ _ h => h) (Or.inl ⟨by rfl,?_⟩) ?_ ?_; rotate_left
            · intro w'; go_simp; with_reducible rfl
            rotate_left
            · simp only [Act.put,List.setIfInBounds_toArray,List.set_cons_zero,List.set_cons_succ,i64_w,i32_w]; rfl
            refine take_ (i := 8) (N := some 33) (v := ?_) (a' := ?_) z12_11 rfl rfl (take_ofW HT_.out HW_.out (by kernel_rfl)) (fun _ _ _ h => h) (Or.inl ⟨by rfl,?_⟩) hHeld ?_ ?_; rotate_left
            ·
             rintro w' ⟨s0,s1,s2⟩
             go_simp; with_reducible rfl
            rotate_left
            · simp only [Act.put,List.setIfInBounds_toArray,List.set_cons_zero,List.set_cons_succ,i64_w,i32_w]; rfl
            refine one_ (i := 11) (N := some 36) z12_12 rfl rfl (one_of HT_.out (by kernel_rfl)) (by decide) (fun K hK => ?_)
            refine goes_ Try.func34 (by kernel_rfl) rfl #[.int .i64 ((rd_T38 l1 x5_2).f1),.int .i64 0,.int .i64 (wrap64 (a0 - 1))] (by rfl) rfl rfl (by (try simp only [List.map_toArray,List.map_cons,List.map_nil]); first | done|rfl|(simp only [List.length_drop,List.length_take]; rfl)) ?_
            with_reducible refine (spec_l01In.calls ((rd_T38 l1 x5_2).f1) 0 (wrap64 (a0 - 1)) false _ A14.out).mono ?_
            rintro e w' ⟨rfl,⟨nd,rfl⟩⟩
            refine ⟨_,rfl,?_⟩
            refine hK.out _ _ ⟨(zI BK128.out 0).trans rfl,(zI BK128.out 1).trans rfl,(zI BK128.out 2).trans rfl⟩ (fun hHeld => ?_)
            clear hK K
            refine norm_ (a' := ?_) ?_ ?_
            rotate_left
            ·
             show Act.put _ (some 36) _ = _
             simp only [Act.put,List.setIfInBounds_toArray,List.set_cons_zero,List.set_cons_succ,i64_w,i32_w]; rfl
            refine pure_ (i := 12) (N := some 37) (v := ?_) (a' := ?_) z12_13 rfl rfl (any_of HT_.out (by kernel_rfl)) (fun _ _ _ h => h) (Or.inl ⟨by rfl,?_⟩) ?_ ?_; rotate_left
            · intro w'; go_simp; with_reducible rfl
            rotate_left
            · simp only [Act.put,List.setIfInBounds_toArray,List.set_cons_zero,List.set_cons_succ,i64_w,i32_w]; rfl
            refine pure_ (i := 13) (N := some 38) (v := ?_) (a' := ?_) z12_14 rfl rfl (any_of HT_.out (by kernel_rfl)) (fun _ _ _ h => h) (Or.inl ⟨by rfl,?_⟩) ?_ ?_; rotate_left
            · intro w'; go_simp; with_reducible rfl
            rotate_left
            · simp only [Act.put,List.setIfInBounds_toArray,List.set_cons_zero,List.set_cons_succ,i64_w,i32_w]; rfl
            refine pure_ (i := 14) (N := some 39) (v := ?_) (a' := ?_) z12_15 rfl rfl (any_of HT_.out (by kernel_rfl)) (fun _ _ _ h => h) (Or.inl ⟨by rfl,?_⟩) ?_ ?_; rotate_left
            · intro w'; go_simp; with_reducible rfl
            rotate_left
            · simp only [Act.put,List.setIfInBounds_toArray,List.set_cons_zero,List.set_cons_succ,i64_w,i32_w]; rfl
            refine pure_ (i := 15) (N := some 40) (v := undef) (a' := ?_) z12_16 rfl rfl (any_of HT_.out (by kernel_rfl)) (fun _ _ _ h => h) (Or.inr ⟨by rfl,rfl⟩) ?_ ?_; rotate_left
            · simp only [Act.put,List.setIfInBounds_toArray,List.set_cons_zero,List.set_cons_succ,i64_w,i32_w]; rfl
            refine pure_ (i := 16) (N := some 41) (v := undef) (a' := ?_) z12_68 rfl rfl (any_of HT_.out (by kernel_rfl)) (fun _ _ _ h => h) (Or.inr ⟨by rfl,rfl⟩) ?_ ?_; rotate_left
            · simp only [Act.put,List.setIfInBounds_toArray,List.set_cons_zero,List.set_cons_succ,i64_w,i32_w]; rfl
            refine pure_ (i := 17) (N := some 42) (v := undef) (a' := ?_) z12_18 rfl rfl (any_of HT_.out (by kernel_rfl)) (fun _ _ _ h => h) (Or.inr ⟨by rfl,rfl⟩) ?_ ?_; rotate_left
            · simp only [Act.put,List.setIfInBounds_toArray,List.set_cons_zero,List.set_cons_succ,i64_w,i32_w]; rfl
            refine pure_ (i := 18) (N := some 43) (v := undef) (a' := ?_) z12_19 rfl rfl (any_of HT_.out (by kernel_rfl)) (fun _ _ _ h => h) (Or.inr ⟨by rfl,rfl⟩) ?_ ?_; rotate_left
            · simp only [Act.put,List.setIfInBounds_toArray,List.set_cons_zero,List.set_cons_succ,i64_w,i32_w]; rfl
            refine pure_ (i := 19) (N := some 44) (v := undef) (a' := ?_) z12_20 rfl rfl (any_of HT_.out (by kernel_rfl)) (fun _ _ _ h => h) (Or.inr ⟨by rfl,rfl⟩) ?_ ?_; rotate_left
            · simp only [Act.put,List.setIfInBounds_toArray,List.set_cons_zero,List.set_cons_succ,i64_w,i32_w]; rfl
            refine pure_ (i := 20) (N := some 45) (v := ?_) (a' := ?_) z12_21 rfl rfl (any_of HT_.out (by kernel_rfl)) (fun _ _ _ h => h) (Or.inl ⟨by rfl,?_⟩) ?_ ?_; rotate_left
            · intro w'; go_simp; with_reducible rfl
            rotate_left
            · simp only [Act.put,List.setIfInBounds_toArray,List.set_cons_zero,List.set_cons_succ,i64_w,i32_w]; rfl
            refine pure_ (i := 21) (N := some 46) (v := ?_) (a' := ?_) z12_22 rfl rfl (any_of HT_.out (by kernel_rfl)) (fun _ _ _ h => h) (Or.inl ⟨by rfl,?_⟩) ?_ ?_; rotate_left
            · intro w'; go_simp; with_reducible rfl
            rotate_left
            · simp only [Act.put,List.setIfInBounds_toArray,List.set_cons_zero,List.set_cons_succ,i64_w,i32_w]; rfl
            refine pure_ (i := 22) (N := some 47) (v := undef) (a' := ?_) z12_23 rfl rfl (any_of HT_.out (by kernel_rfl)) (fun _ _ _ h => h) (Or.inr ⟨by rfl,rfl⟩) ?_ ?_; rotate_left
            · simp only [Act.put,List.setIfInBounds_toArray,List.set_cons_zero,List.set_cons_succ,i64_w,i32_w]; rfl
            refine pure_ (i := 23) (N := some 48) (v := undef) (a' := ?_) z12_24 rfl rfl (any_of HT_.out (by kernel_rfl)) (fun _ _ _ h => h) (Or.inr ⟨by rfl,rfl⟩) ?_ ?_; rotate_left
            · simp only [Act.put,List.setIfInBounds_toArray,List.set_cons_zero,List.set_cons_succ,i64_w,i32_w]; rfl
            refine pure_ (i := 24) (N := some 49) (v := undef) (a' := ?_) z12_25 rfl rfl (any_of HT_.out (by kernel_rfl)) (fun _ _ _ h => h) (Or.inr ⟨by rfl,rfl⟩) ?_ ?_; rotate_left
            · simp only [Act.put,List.setIfInBounds_toArray,List.set_cons_zero,List.set_cons_succ,i64_w,i32_w]; rfl
            refine pure_ (i := 25) (N := some 50) (v := undef) (a' := ?_) z12_26 rfl rfl (any_of HT_.out (by kernel_rfl)) (fun _ _ _ h => h) (Or.inr ⟨by rfl,rfl⟩) ?_ ?_; rotate_left
            · simp only [Act.put,List.setIfInBounds_toArray,List.set_cons_zero,List.set_cons_succ,i64_w,i32_w]; rfl
            refine pure_ (i := 26) (N := some 51) (v := ?_) (a' := ?_) z12_27 rfl rfl (any_of HT_.out (by kernel_rfl)) (fun _ _ _ h => h) (Or.inl ⟨by rfl,?_⟩) ?_ ?_; rotate_left
            · intro w'; go_simp; with_reducible rfl
            rotate_left
            · simp only [Act.put,List.setIfInBounds_toArray,List.set_cons_zero,List.set_cons_succ,i64_w,i32_w]; rfl
            refine pure_ (i := 27) (N := some 52) (v := ?_) (a' := ?_) z12_28 rfl rfl (any_of HT_.out (by kernel_rfl)) (fun _ _ _ h => h) (Or.inl ⟨by rfl,?_⟩) ?_ ?_; rotate_left
            · intro w'; go_simp; with_reducible rfl
            rotate_left
            · simp only [Act.put,List.setIfInBounds_toArray,List.set_cons_zero,List.set_cons_succ,i64_w,i32_w]; rfl
            refine pure_ (i := 28) (N := some 53) (v := undef) (a' := ?_) z12_29 rfl rfl (any_of HT_.out (by kernel_rfl)) (fun _ _ _ h => h) (Or.inr ⟨by rfl,rfl⟩) ?_ ?_; rotate_left
            · simp only [Act.put,List.setIfInBounds_toArray,List.set_cons_zero,List.set_cons_succ,i64_w,i32_w]; rfl
            refine pure_ (i := 29) (N := some 54) (v := undef) (a' := ?_) z12_30 rfl rfl (any_of HT_.out (by kernel_rfl)) (fun _ _ _ h => h) (Or.inr ⟨by rfl,rfl⟩) ?_ ?_; rotate_left
            · simp only [Act.put,List.setIfInBounds_toArray,List.set_cons_zero,List.set_cons_succ,i64_w,i32_w]; rfl
            refine pure_ (i := 30) (N := some 55) (v := undef) (a' := ?_) z12_31 rfl rfl (any_of HT_.out (by kernel_rfl)) (fun _ _ _ h => h) (Or.inr ⟨by rfl,rfl⟩) ?_ ?_; rotate_left
            · simp only [Act.put,List.setIfInBounds_toArray,List.set_cons_zero,List.set_cons_succ,i64_w,i32_w]; rfl
            refine pure_ (i := 31) (N := some 56) (v := undef) (a' := ?_) z12_32 rfl rfl (any_of HT_.out (by kernel_rfl)) (fun _ _ _ h => h) (Or.inr ⟨by rfl,rfl⟩) ?_ ?_; rotate_left
            · simp only [Act.put,List.setIfInBounds_toArray,List.set_cons_zero,List.set_cons_succ,i64_w,i32_w]; rfl
            refine pure_ (i := 32) (N := some 57) (v := undef) (a' := ?_) z12_33 rfl rfl (any_of HT_.out (by kernel_rfl)) (fun _ _ _ h => h) (Or.inr ⟨by rfl,rfl⟩) ?_ ?_; rotate_left
            · simp only [Act.put,List.setIfInBounds_toArray,List.set_cons_zero,List.set_cons_succ,i64_w,i32_w]; rfl
            refine pure_ (i := 33) (N := some 58) (v := undef) (a' := ?_) z12_34 rfl rfl (any_of HT_.out (by kernel_rfl)) (fun _ _ _ h => h) (Or.inr ⟨by rfl,rfl⟩) ?_ ?_; rotate_left
            · simp only [Act.put,List.setIfInBounds_toArray,List.set_cons_zero,List.set_cons_succ,i64_w,i32_w]; rfl
            refine pure_ (i := 34) (N := some 59) (v := undef) (a' := ?_) z12_35 rfl rfl (any_of HT_.out (by kernel_rfl)) (fun _ _ _ h => h) (Or.inr ⟨by rfl,rfl⟩) ?_ ?_; rotate_left
            · simp only [Act.put,List.setIfInBounds_toArray,List.set_cons_zero,List.set_cons_succ,i64_w,i32_w]; rfl
            refine pure_ (i := 35) (N := some 60) (v := undef) (a' := ?_) z12_36 rfl rfl (any_of HT_.out (by kernel_rfl)) (fun _ _ _ h => h) (Or.inr ⟨by rfl,rfl⟩) ?_ ?_; rotate_left
            · simp only [Act.put,List.setIfInBounds_toArray,List.set_cons_zero,List.set_cons_succ,i64_w,i32_w]; rfl
            refine pure_ (i := 36) (N := some 61) (v := undef) (a' := ?_) z12_37 rfl rfl (any_of HT_.out (by kernel_rfl)) (fun _ _ _ h => h) (Or.inr ⟨by rfl,rfl⟩) ?_ ?_; rotate_left
            · simp only [Act.put,List.setIfInBounds_toArray,List.set_cons_zero,List.set_cons_succ,i64_w,i32_w]; rfl
            refine pure_ (i := 37) (N := some 62) (v := undef) (a' := ?_) z12_38 rfl rfl (any_of HT_.out (by kernel_rfl)) (fun _ _ _ h => h) (Or.inr ⟨by rfl,rfl⟩) ?_ ?_; rotate_left
            · simp only [Act.put,List.setIfInBounds_toArray,List.set_cons_zero,List.set_cons_succ,i64_w,i32_w]; rfl
            refine pure_ (i := 38) (N := some 63) (v := undef) (a' := ?_) z12_39 rfl rfl (any_of HT_.out (by kernel_rfl)) (fun _ _ _ h => h) (Or.inr ⟨by rfl,rfl⟩) ?_ ?_; rotate_left
            · simp only [Act.put,List.setIfInBounds_toArray,List.set_cons_zero,List.set_cons_succ,i64_w,i32_w]; rfl
            refine pure_ (i := 39) (N := some 64) (v := undef) (a' := ?_) z12_40 rfl rfl (any_of HT_.out (by kernel_rfl)) (fun _ _ _ h => h) (Or.inr ⟨by rfl,rfl⟩) ?_ ?_; rotate_left
            · simp only [Act.put,List.setIfInBounds_toArray,List.set_cons_zero,List.set_cons_succ,i64_w,i32_w]; rfl
            refine pure_ (i := 40) (N := some 65) (v := undef) (a' := ?_) z12_41 rfl rfl (any_of HT_.out (by kernel_rfl)) (fun _ _ _ h => h) (Or.inr ⟨by rfl,rfl⟩) ?_ ?_; rotate_left
            · simp only [Act.put,List.setIfInBounds_toArray,List.set_cons_zero,List.set_cons_succ,i64_w,i32_w]; rfl
            refine pure_ (i := 41) (N := some 66) (v := undef) (a' := ?_) z12_42 rfl rfl (any_of HT_.out (by kernel_rfl)) (fun _ _ _ h => h) (Or.inr ⟨by rfl,rfl⟩) ?_ ?_; rotate_left
            · simp only [Act.put,List.setIfInBounds_toArray,List.set_cons_zero,List.set_cons_succ,i64_w,i32_w]; rfl
            refine pure_ (i := 42) (N := some 67) (v := undef) (a' := ?_) z12_43 rfl rfl (any_of HT_.out (by kernel_rfl)) (fun _ _ _ h => h) (Or.inr ⟨by rfl,rfl⟩) ?_ ?_; rotate_left
            · simp only [Act.put,List.setIfInBounds_toArray,List.set_cons_zero,List.set_cons_succ,i64_w,i32_w]; rfl
            refine pure_ (i := 43) (N := some 68) (v := undef) (a' := ?_) z12_44 rfl rfl (any_of HT_.out (by kernel_rfl)) (fun _ _ _ h => h) (Or.inr ⟨by rfl,rfl⟩) ?_ ?_; rotate_left
            · simp only [Act.put,List.setIfInBounds_toArray,List.set_cons_zero,List.set_cons_succ,i64_w,i32_w]; rfl
            refine pure_ (i := 44) (N := some 69) (v := undef) (a' := ?_) z12_45 rfl rfl (any_of HT_.out (by kernel_rfl)) (fun _ _ _ h => h) (Or.inr ⟨by rfl,rfl⟩) ?_ ?_; rotate_left
            · simp only [Act.put,List.setIfInBounds_toArray,List.set_cons_zero,List.set_cons_succ,i64_w,i32_w]; rfl
            refine pure_ (i := 45) (N := some 70) (v := undef) (a' := ?_) z12_46 rfl rfl (any_of HT_.out (by kernel_rfl)) (fun _ _ _ h => h) (Or.inr ⟨by rfl,rfl⟩) ?_ ?_; rotate_left
            · simp only [Act.put,List.setIfInBounds_toArray,List.set_cons_zero,List.set_cons_succ,i64_w,i32_w]; rfl
            refine pure_ (i := 46) (N := some 71) (v := undef) (a' := ?_) z12_47 rfl rfl (any_of HT_.out (by kernel_rfl)) (fun _ _ _ h => h) (Or.inr ⟨by rfl,rfl⟩) ?_ ?_; rotate_left
            · simp only [Act.put,List.setIfInBounds_toArray,List.set_cons_zero,List.set_cons_succ,i64_w,i32_w]; rfl
            refine pure_ (i := 47) (N := some 72) (v := undef) (a' := ?_) z12_48 rfl rfl (any_of HT_.out (by kernel_rfl)) (fun _ _ _ h => h) (Or.inr ⟨by rfl,rfl⟩) ?_ ?_; rotate_left
            · simp only [Act.put,List.setIfInBounds_toArray,List.set_cons_zero,List.set_cons_succ,i64_w,i32_w]; rfl
            refine pure_ (i := 48) (N := some 73) (v := undef) (a' := ?_) z12_49 rfl rfl (any_of HT_.out (by kernel_rfl)) (fun _ _ _ h => h) (Or.inr ⟨by rfl,rfl⟩) ?_ ?_; rotate_left
            · simp only [Act.put,List.setIfInBounds_toArray,List.set_cons_zero,List.set_cons_succ,i64_w,i32_w]; rfl
            refine pure_ (i := 49) (N := some 74) (v := undef) (a' := ?_) z12_50 rfl rfl (any_of HT_.out (by kernel_rfl)) (fun _ _ _ h => h) (Or.inr ⟨by rfl,rfl⟩) ?_ ?_; rotate_left
            · simp only [Act.put,List.setIfInBounds_toArray,List.set_cons_zero,List.set_cons_succ,i64_w,i32_w]; rfl
            refine pure_ (i := 50) (N := some 75) (v := undef) (a' := ?_) z12_51 rfl rfl (any_of HT_.out (by kernel_rfl)) (fun _ _ _ h => h) (Or.inr ⟨by rfl,rfl⟩) ?_ ?_; rotate_left
            · simp only [Act.put,List.setIfInBounds_toArray,List.set_cons_zero,List.set_cons_succ,i64_w,i32_w]; rfl
            refine pure_ (i := 51) (N := some 76) (v := undef) (a' := ?_) z12_52 rfl rfl (any_of HT_.out (by kernel_rfl)) (fun _ _ _ h => h) (Or.inr ⟨by rfl,rfl⟩) ?_ ?_; rotate_left
            · simp only [Act.put,List.setIfInBounds_toArray,List.set_cons_zero,List.set_cons_succ,i64_w,i32_w]; rfl
            refine pure_ (i := 52) (N := some 77) (v := undef) (a' := ?_) z12_53 rfl rfl (any_of HT_.out (by kernel_rfl)) (fun _ _ _ h => h) (Or.inr ⟨by rfl,rfl⟩) ?_ ?_; rotate_left
            · simp only [Act.put,List.setIfInBounds_toArray,List.set_cons_zero,List.set_cons_succ,i64_w,i32_w]; rfl
            refine pure_ (i := 53) (N := some 78) (v := undef) (a' := ?_) z12_54 rfl rfl (any_of HT_.out (by kernel_rfl)) (fun _ _ _ h => h) (Or.inr ⟨by rfl,rfl⟩) ?_ ?_; rotate_left
            · simp only [Act.put,List.setIfInBounds_toArray,List.set_cons_zero,List.set_cons_succ,i64_w,i32_w]; rfl
            refine pure_ (i := 54) (N := some 79) (v := undef) (a' := ?_) z12_55 rfl rfl (any_of HT_.out (by kernel_rfl)) (fun _ _ _ h => h) (Or.inr ⟨by rfl,rfl⟩) ?_ ?_; rotate_left
            · simp only [Act.put,List.setIfInBounds_toArray,List.set_cons_zero,List.set_cons_succ,i64_w,i32_w]; rfl
            refine pure_ (i := 55) (N := some 80) (v := undef) (a' := ?_) z12_56 rfl rfl (any_of HT_.out (by kernel_rfl)) (fun _ _ _ h => h) (Or.inr ⟨by rfl,rfl⟩) ?_ ?_; rotate_left
            · simp only [Act.put,List.setIfInBounds_toArray,List.set_cons_zero,List.set_cons_succ,i64_w,i32_w]; rfl
            refine pure_ (i := 56) (N := some 81) (v := undef) (a' := ?_) z12_57 rfl rfl (any_of HT_.out (by kernel_rfl)) (fun _ _ _ h => h) (Or.inr ⟨by rfl,rfl⟩) ?_ ?_; rotate_left
            · simp only [Act.put,List.setIfInBounds_toArray,List.set_cons_zero,List.set_cons_succ,i64_w,i32_w]; rfl
            refine pure_ (i := 57) (N := some 82) (v := undef) (a' := ?_) z12_58 rfl rfl (any_of HT_.out (by kernel_rfl)) (fun _ _ _ h => h) (Or.inr ⟨by rfl,rfl⟩) ?_ ?_; rotate_left
            · simp only [Act.put,List.setIfInBounds_toArray,List.set_cons_zero,List.set_cons_succ,i64_w,i32_w]; rfl
            refine pure_ (i := 58) (N := some 83) (v := undef) (a' := ?_) z12_59 rfl rfl (any_of HT_.out (by kernel_rfl)) (fun _ _ _ h => h) (Or.inr ⟨by rfl,rfl⟩) ?_ ?_; rotate_left
            · simp only [Act.put,List.setIfInBounds_toArray,List.set_cons_zero,List.set_cons_succ,i64_w,i32_w]; rfl
            refine pure_ (i := 59) (N := some 84) (v := undef) (a' := ?_) z12_60 rfl rfl (any_of HT_.out (by kernel_rfl)) (fun _ _ _ h => h) (Or.inr ⟨by rfl,rfl⟩) ?_ ?_; rotate_left
            · simp only [Act.put,List.setIfInBounds_toArray,List.set_cons_zero,List.set_cons_succ,i64_w,i32_w]; rfl
            refine pure_ (i := 60) (N := some 85) (v := undef) (a' := ?_) z12_61 rfl rfl (any_of HT_.out (by kernel_rfl)) (fun _ _ _ h => h) (Or.inr ⟨by rfl,rfl⟩) ?_ ?_; rotate_left
            · simp only [Act.put,List.setIfInBounds_toArray,List.set_cons_zero,List.set_cons_succ,i64_w,i32_w]; rfl
            refine pure_ (i := 61) (N := some 86) (v := undef) (a' := ?_) z12_62 rfl rfl (any_of HT_.out (by kernel_rfl)) (fun _ _ _ h => h) (Or.inr ⟨by rfl,rfl⟩) ?_ ?_; rotate_left
            · simp only [Act.put,List.setIfInBounds_toArray,List.set_cons_zero,List.set_cons_succ,i64_w,i32_w]; rfl
            refine pure_ (i := 62) (N := some 87) (v := undef) (a' := ?_) z12_63 rfl rfl (any_of HT_.out (by kernel_rfl)) (fun _ _ _ h => h) (Or.inr ⟨by rfl,rfl⟩) ?_ ?_; rotate_left
            · simp only [Act.put,List.setIfInBounds_toArray,List.set_cons_zero,List.set_cons_succ,i64_w,i32_w]; rfl
            refine pure_ (i := 63) (N := some 88) (v := ?_) (a' := ?_) z12_64 rfl rfl (any_of HT_.out (by kernel_rfl)) (fun _ _ _ h => h) (Or.inl ⟨by rfl,?_⟩) ?_ ?_; rotate_left
            · intro w'; go_simp; with_reducible rfl
            rotate_left
            · simp only [Act.put,List.setIfInBounds_toArray,List.set_cons_zero,List.set_cons_succ,i64_w,i32_w]; rfl
            refine done_ (done_of HT_.out (by kernel_rfl)) ?_
            try go_wp2
            go_meet
            case rel => exact ⟨_,(true),(by first|rfl|(simp; done)|(simp [*]; done)),H',⟨by have := HJ2.out; have := HK2.out; first|omega|exact Nat.le_refl _⟩,⟨(rrB9 BK128.out)⟩,⟨by repeat (first|(with_reducible first|exact HB.out|apply zC|apply zE|apply zD|refine zB ?_ GE128.out)|exact HB.out)⟩⟩
          ·
           replace c13 := Bool.eq_false_iff.mpr c13
           subst c13
           have H1 : (spec_RoadsOk.j2 k2 a0 l1 x5_2 true) = some r := by rw [if_neg (show ¬ (false = true) by decide)] at H; exact H
           clear H; have H := H1; clear H1
           have H' := zA H
           clear H
           try go_wp2
           have n0_ : Aside0 ((((w10.setCell ⟨gb128,0,none⟩ (.int .i64 ((rd_T38 l1 x5_2).f0))).setCell ⟨gb128,1,none⟩ (.int .i64 ((rd_T38 l1 x5_2).f1))).setCell ⟨gb128,2,none⟩ (.int .i64 ((rd_T38 l1 x5_2).f2))).heap[gb128]? = some (.cells #[.int .i64 ((rd_T38 l1 x5_2).f0),.int .i64 ((rd_T38 l1 x5_2).f1),.int .i64 ((rd_T38 l1 x5_2).f2)] 38 (0,0))) := ⟨by (with_reducible repeat (first|refine zF ?_ _|refine zH ?_|refine zG ?_ _)); refine blk_put (cs := #[.int .i64 ((rd_T38 l1 x5_2).f0),.int .i64 ((rd_T38 l1 x5_2).f1),.int .i64 0]) ?_ 2 _ rfl; (with_reducible repeat (first|refine zF ?_ _|refine zH ?_|refine zG ?_ _)); refine blk_put (cs := #[.int .i64 ((rd_T38 l1 x5_2).f0),.int .i64 0,.int .i64 0]) ?_ 1 _ rfl; (with_reducible repeat (first|refine zF ?_ _|refine zH ?_|refine zG ?_ _)); refine blk_put (cs := #[.int .i64 0,.int .i64 0,.int .i64 0]) ?_ 0 _ rfl; (with_reducible repeat (first|refine zF ?_ _|refine zH ?_|refine zG ?_ _)); exact BK128.out⟩
           have n1_ : Aside0 (Below w.heap.size w (((w10.setCell ⟨gb128,0,none⟩ (.int .i64 ((rd_T38 l1 x5_2).f0))).setCell ⟨gb128,1,none⟩ (.int .i64 ((rd_T38 l1 x5_2).f1))).setCell ⟨gb128,2,none⟩ (.int .i64 ((rd_T38 l1 x5_2).f2)))) := ⟨by repeat (first|(with_reducible first|exact HB.out|apply zC|apply zE|apply zD|refine zB ?_ GE128.out)|exact HB.out)⟩
           (try clear BK128)
           (try clear HB)
           generalize (((w10.setCell ⟨gb128,0,none⟩ (.int .i64 ((rd_T38 l1 x5_2).f0))).setCell ⟨gb128,1,none⟩ (.int .i64 ((rd_T38 l1 x5_2).f1))).setCell ⟨gb128,2,none⟩ (.int .i64 ((rd_T38 l1 x5_2).f2))) = w39 at n0_ n1_ ⊢
           have BK128 := n0_
           have HB := n1_
           clear n0_ n1_
           have n0_ := zA (zH BK128.out)
           have n1_ := zA (zD HB.out)
           clear BK128 HB
           have BK128 := n0_
           have HB := n1_
           clear n0_ n1_
           refine start_ (n := 64) (S := fun w' => w'.cell? ⟨gb128,0,none⟩ = some (.int .i64 ((rd_T38 l1 x5_2).f0)) ∧ w'.cell? ⟨gb128,1,none⟩ = some (.int .i64 ((rd_T38 l1 x5_2).f1)) ∧ w'.cell? ⟨gb128,2,none⟩ = some (.int .i64 ((rd_T38 l1 x5_2).f2))) (ds := []) z12_0 (by kernel_rfl) rfl rfl ⟨(zI BK128.out 0).trans rfl,(zI BK128.out 1).trans rfl,(zI BK128.out 2).trans rfl⟩ (fun hHeld => ?_); refine with_tabW spec_RoadsOk.tab7 spec_RoadsOk.bits7 (fun HT_ HW_ => ?_)
           generalize w39.drew = w40 at BK128 HB hHeld ⊢
           refine pure_ (i := 0) (N := some 25) (v := ?_) (a' := ?_) z12_1 rfl rfl (any_of HT_.out (by kernel_rfl)) (fun _ _ _ h => h) (Or.inl ⟨by rfl,?_⟩) ?_ ?_; rotate_left
           · intro w'; go_simp; with_reducible rfl
           rotate_left
           · simp only [Act.put,List.setIfInBounds_toArray,List.set_cons_zero,List.set_cons_succ,i64_w,i32_w]; rfl
           refine pure_ (i := 2) (N := some 27) (v := ?_) (a' := ?_) z12_2 rfl rfl (any_of HT_.out (by kernel_rfl)) (fun _ _ _ h => h) (Or.inl ⟨by rfl,?_⟩) ?_ ?_; rotate_left
           · intro w'; go_simp; with_reducible rfl
           rotate_left
           · simp only [Act.put,List.setIfInBounds_toArray,List.set_cons_zero,List.set_cons_succ,i64_w,i32_w]; rfl
           refine pure_ (i := 3) (N := some 28) (v := ?_) (a' := ?_) z12_3 rfl rfl (any_of HT_.out (by kernel_rfl)) (fun _ _ _ h => h) (Or.inl ⟨by rfl,?_⟩) ?_ ?_; rotate_left
           · intro w'; go_simp; with_reducible rfl
           rotate_left
           · simp only [Act.put,List.setIfInBounds_toArray,List.set_cons_zero,List.set_cons_succ,i64_w,i32_w]; rfl
           refine take_ (i := 1) (N := some 26) (v := ?_) (a' := ?_) z12_4 rfl rfl (take_ofW HT_.out HW_.out (by kernel_rfl)) (fun _ _ _ h => h) (Or.inl ⟨by rfl,?_⟩) hHeld ?_ ?_; rotate_left
           ·
            rintro w' ⟨s0,s1,s2⟩
            go_simp; with_reducible rfl
           rotate_left
           · simp only [Act.put,List.setIfInBounds_toArray,List.set_cons_zero,List.set_cons_succ,i64_w,i32_w]; rfl
           refine one_ (i := 4) (N := some 29) z12_5 rfl rfl (one_of HT_.out (by kernel_rfl)) (by decide) (fun K hK => ?_)
           refine goes_ Try.func34 (by kernel_rfl) rfl #[.int .i64 ((rd_T38 l1 x5_2).f0),.int .i64 0,.int .i64 (wrap64 (a0 - 1))] (by rfl) rfl rfl (by (try simp only [List.map_toArray,List.map_cons,List.map_nil]); first | done|rfl|(simp only [List.length_drop,List.length_take]; rfl)) ?_
           with_reducible refine (spec_l01In.calls ((rd_T38 l1 x5_2).f0) 0 (wrap64 (a0 - 1)) false _ A12.out).mono ?_
           rintro e w' ⟨rfl,⟨nd,rfl⟩⟩
           refine ⟨_,rfl,?_⟩
           refine hK.out _ _ ⟨(zI BK128.out 0).trans rfl,(zI BK128.out 1).trans rfl,(zI BK128.out 2).trans rfl⟩ (fun hHeld => ?_)
           clear hK K
           refine norm_ (a' := ?_) ?_ ?_
           rotate_left
           ·
            show Act.put _ (some 29) _ = _
            simp only [Act.put,List.setIfInBounds_toArray,List.set_cons_zero,List.set_cons_succ,i64_w,i32_w]; rfl
           refine pure_ (i := 5) (N := some 30) (v := ?_) (a' := ?_) z12_6 rfl rfl (any_of HT_.out (by kernel_rfl)) (fun _ _ _ h => h) (Or.inl ⟨by rfl,?_⟩) ?_ ?_; rotate_left
           · intro w'; go_simp; with_reducible rfl
           rotate_left
           · simp only [Act.put,List.setIfInBounds_toArray,List.set_cons_zero,List.set_cons_succ,i64_w,i32_w]; rfl
           refine pure_ (i := 6) (N := some 31) (v := ?_) (a' := ?_) z12_7 rfl rfl (any_of HT_.out (by kernel_rfl)) (fun _ _ _ h => h) (Or.inl ⟨by rfl,?_⟩) ?_ ?_; rotate_left
           · intro w'; go_simp; with_reducible rfl
           rotate_left
           · simp only [Act.put,List.setIfInBounds_toArray,List.set_cons_zero,List.set_cons_succ,i64_w,i32_w]; rfl
           refine pure_ (i := 7) (N := some 32) (v := undef) (a' := ?_) z12_8 rfl rfl (any_of HT_.out (by kernel_rfl)) (fun _ _ _ h => h) (Or.inr ⟨by rfl,rfl⟩) ?_ ?_; rotate_left
           · simp only [Act.put,List.setIfInBounds_toArray,List.set_cons_zero,List.set_cons_succ,i64_w,i32_w]; rfl
           refine pure_ (i := 8) (N := some 33) (v := undef) (a' := ?_) z12_69 rfl rfl (any_of HT_.out (by kernel_rfl)) (fun _ _ _ h => h) (Or.inr ⟨by rfl,rfl⟩) ?_ ?_; rotate_left
           · simp only [Act.put,List.setIfInBounds_toArray,List.set_cons_zero,List.set_cons_succ,i64_w,i32_w]; rfl
           refine pure_ (i := 9) (N := some 34) (v := undef) (a' := ?_) z12_70 rfl rfl (any_of HT_.out (by kernel_rfl)) (fun _ _ _ h => h) (Or.inr ⟨by rfl,rfl⟩) ?_ ?_; rotate_left
           · simp only [Act.put,List.setIfInBounds_toArray,List.set_cons_zero,List.set_cons_succ,i64_w,i32_w]; rfl
           refine pure_ (i := 10) (N := some 35) (v := undef) (a' := ?_) z12_11 rfl rfl (any_of HT_.out (by kernel_rfl)) (fun _ _ _ h => h) (Or.inr ⟨by rfl,rfl⟩) ?_ ?_; rotate_left
           · simp only [Act.put,List.setIfInBounds_toArray,List.set_cons_zero,List.set_cons_succ,i64_w,i32_w]; rfl
           refine pure_ (i := 11) (N := some 36) (v := undef) (a' := ?_) z12_12 rfl rfl (any_of HT_.out (by kernel_rfl)) (fun _ _ _ h => h) (Or.inr ⟨by rfl,rfl⟩) ?_ ?_; rotate_left
           · simp only [Act.put,List.setIfInBounds_toArray,List.set_cons_zero,List.set_cons_succ,i64_w,i32_w]; rfl
           refine pure_ (i := 12) (N := some 37) (v := undef) (a' := ?_) z12_13 rfl rfl (any_of HT_.out (by kernel_rfl)) (fun _ _ _ h => h) (Or.inr ⟨by rfl,rfl⟩) ?_ ?_; rotate_left
           · simp only [Act.put,List.setIfInBounds_toArray,List.set_cons_zero,List.set_cons_succ,i64_w,i32_w]; rfl
           refine pure_ (i := 13) (N := some 38) (v := ?_) (a' := ?_) z12_14 rfl rfl (any_of HT_.out (by kernel_rfl)) (fun _ _ _ h => h) (Or.inl ⟨by rfl,?_⟩) ?_ ?_; rotate_left
           · intro w'; go_simp; with_reducible rfl
           rotate_left
           · simp only [Act.put,List.setIfInBounds_toArray,List.set_cons_zero,List.set_cons_succ,i64_w,i32_w]; rfl
           refine pure_ (i := 14) (N := some 39) (v := ?_) (a' := ?_) z12_15 rfl rfl (any_of HT_.out (by kernel_rfl)) (fun _ _ _ h => h) (Or.inl ⟨by rfl,?_⟩) ?_ ?_; rotate_left
           · intro w'; go_simp; with_reducible rfl
           rotate_left
           · simp only [Act.put,List.setIfInBounds_toArray,List.set_cons_zero,List.set_cons_succ,i64_w,i32_w]; rfl
           refine pure_ (i := 15) (N := some 40) (v := undef) (a' := ?_) z12_16 rfl rfl (any_of HT_.out (by kernel_rfl)) (fun _ _ _ h => h) (Or.inr ⟨by rfl,rfl⟩) ?_ ?_; rotate_left
           · simp only [Act.put,List.setIfInBounds_toArray,List.set_cons_zero,List.set_cons_succ,i64_w,i32_w]; rfl
           refine pure_ (i := 16) (N := some 41) (v := undef) (a' := ?_) z12_68 rfl rfl (any_of HT_.out (by kernel_rfl)) (fun _ _ _ h => h) (Or.inr ⟨by rfl,rfl⟩) ?_ ?_; rotate_left
           · simp only [Act.put,List.setIfInBounds_toArray,List.set_cons_zero,List.set_cons_succ,i64_w,i32_w]; rfl
           refine pure_ (i := 17) (N := some 42) (v := undef) (a' := ?_) z12_18 rfl rfl (any_of HT_.out (by kernel_rfl)) (fun _ _ _ h => h) (Or.inr ⟨by rfl,rfl⟩) ?_ ?_; rotate_left
           · simp only [Act.put,List.setIfInBounds_toArray,List.set_cons_zero,List.set_cons_succ,i64_w,i32_w]; rfl
           refine pure_ (i := 18) (N := some 43) (v := undef) (a' := ?_) z12_19 rfl rfl (any_of HT_.out (by kernel_rfl)) (fun _ _ _ h => h) (Or.inr ⟨by rfl,rfl⟩) ?_ ?_; rotate_left
           · simp only [Act.put,List.setIfInBounds_toArray,List.set_cons_zero,List.set_cons_succ,i64_w,i32_w]; rfl
           refine pure_ (i := 19) (N := some 44) (v := undef) (a' := ?_) z12_20 rfl rfl (any_of HT_.out (by kernel_rfl)) (fun _ _ _ h => h) (Or.inr ⟨by rfl,rfl⟩) ?_ ?_; rotate_left
           · simp only [Act.put,List.setIfInBounds_toArray,List.set_cons_zero,List.set_cons_succ,i64_w,i32_w]; rfl
           refine pure_ (i := 20) (N := some 45) (v := ?_) (a' := ?_) z12_21 rfl rfl (any_of HT_.out (by kernel_rfl)) (fun _ _ _ h => h) (Or.inl ⟨by rfl,?_⟩) ?_ ?_; rotate_left
           · intro w'; go_simp; with_reducible rfl
           rotate_left
           · simp only [Act.put,List.setIfInBounds_toArray,List.set_cons_zero,List.set_cons_succ,i64_w,i32_w]; rfl
           refine pure_ (i := 21) (N := some 46) (v := ?_) (a' := ?_) z12_22 rfl rfl (any_of HT_.out (by kernel_rfl)) (fun _ _ _ h => h) (Or.inl ⟨by rfl,?_⟩) ?_ ?_; rotate_left
           · intro w'; go_simp; with_reducible rfl
           rotate_left
           · simp only [Act.put,List.setIfInBounds_toArray,List.set_cons_zero,List.set_cons_succ,i64_w,i32_w]; rfl
           refine pure_ (i := 22) (N := some 47) (v := undef) (a' := ?_) z12_23 rfl rfl (any_of HT_.out (by kernel_rfl)) (fun _ _ _ h => h) (Or.inr ⟨by rfl,rfl⟩) ?_ ?_; rotate_left
           · simp only [Act.put,List.setIfInBounds_toArray,List.set_cons_zero,List.set_cons_succ,i64_w,i32_w]; rfl
           refine pure_ (i := 23) (N := some 48) (v := undef) (a' := ?_) z12_24 rfl rfl (any_of HT_.out (by kernel_rfl)) (fun _ _ _ h => h) (Or.inr ⟨by rfl,rfl⟩) ?_ ?_; rotate_left
           · simp only [Act.put,List.setIfInBounds_toArray,List.set_cons_zero,List.set_cons_succ,i64_w,i32_w]; rfl
           refine pure_ (i := 24) (N := some 49) (v := undef) (a' := ?_) z12_25 rfl rfl (any_of HT_.out (by kernel_rfl)) (fun _ _ _ h => h) (Or.inr ⟨by rfl,rfl⟩) ?_ ?_; rotate_left
           · simp only [Act.put,List.setIfInBounds_toArray,List.set_cons_zero,List.set_cons_succ,i64_w,i32_w]; rfl
           refine pure_ (i := 25) (N := some 50) (v := undef) (a' := ?_) z12_26 rfl rfl (any_of HT_.out (by kernel_rfl)) (fun _ _ _ h => h) (Or.inr ⟨by rfl,rfl⟩) ?_ ?_; rotate_left
           · simp only [Act.put,List.setIfInBounds_toArray,List.set_cons_zero,List.set_cons_succ,i64_w,i32_w]; rfl
           refine pure_ (i := 26) (N := some 51) (v := ?_) (a' := ?_) z12_27 rfl rfl (any_of HT_.out (by kernel_rfl)) (fun _ _ _ h => h) (Or.inl ⟨by rfl,?_⟩) ?_ ?_; rotate_left
           · intro w'; go_simp; with_reducible rfl
           rotate_left
           · simp only [Act.put,List.setIfInBounds_toArray,List.set_cons_zero,List.set_cons_succ,i64_w,i32_w]; rfl
           refine pure_ (i := 27) (N := some 52) (v := ?_) (a' := ?_) z12_28 rfl rfl (any_of HT_.out (by kernel_rfl)) (fun _ _ _ h => h) (Or.inl ⟨by rfl,?_⟩) ?_ ?_; rotate_left
           · intro w'; go_simp; with_reducible rfl
           rotate_left
           · simp only [Act.put,List.setIfInBounds_toArray,List.set_cons_zero,List.set_cons_succ,i64_w,i32_w]; rfl
           refine pure_ (i := 28) (N := some 53) (v := undef) (a' := ?_) z12_29 rfl rfl (any_of HT_.out (by kernel_rfl)) (fun _ _ _ h => h) (Or.inr ⟨by rfl,rfl⟩) ?_ ?_; rotate_left
           · simp only [Act.put,List.setIfInBounds_toArray,List.set_cons_zero,List.set_cons_succ,i64_w,i32_w]; rfl
           refine pure_ (i := 29) (N := some 54) (v := undef) (a' := ?_) z12_30 rfl rfl (any_of HT_.out (by kernel_rfl)) (fun _ _ _ h => h) (Or.inr ⟨by rfl,rfl⟩) ?_ ?_; rotate_left
           · simp only [Act.put,List.setIfInBounds_toArray,List.set_cons_zero,List.set_cons_succ,i64_w,i32_w]; rfl
           refine pure_ (i := 30) (N := some 55) (v := undef) (a' := ?_) z12_31 rfl rfl (any_of HT_.out (by kernel_rfl)) (fun _ _ _ h => h) (Or.inr ⟨by rfl,rfl⟩) ?_ ?_; rotate_left
           · simp only [Act.put,List.setIfInBounds_toArray,List.set_cons_zero,List.set_cons_succ,i64_w,i32_w]; rfl
           refine pure_ (i := 31) (N := some 56) (v := undef) (a' := ?_) z12_32 rfl rfl (any_of HT_.out (by kernel_rfl)) (fun _ _ _ h => h) (Or.inr ⟨by rfl,rfl⟩) ?_ ?_; rotate_left
           · simp only [Act.put,List.setIfInBounds_toArray,List.set_cons_zero,List.set_cons_succ,i64_w,i32_w]; rfl
           refine pure_ (i := 32) (N := some 57) (v := undef) (a' := ?_) z12_33 rfl rfl (any_of HT_.out (by kernel_rfl)) (fun _ _ _ h => h) (Or.inr ⟨by rfl,rfl⟩) ?_ ?_; rotate_left
           · simp only [Act.put,List.setIfInBounds_toArray,List.set_cons_zero,List.set_cons_succ,i64_w,i32_w]; rfl
           refine pure_ (i := 33) (N := some 58) (v := undef) (a' := ?_) z12_34 rfl rfl (any_of HT_.out (by kernel_rfl)) (fun _ _ _ h => h) (Or.inr ⟨by rfl,rfl⟩) ?_ ?_; rotate_left
           · simp only [Act.put,List.setIfInBounds_toArray,List.set_cons_zero,List.set_cons_succ,i64_w,i32_w]; rfl
           refine pure_ (i := 34) (N := some 59) (v := undef) (a' := ?_) z12_35 rfl rfl (any_of HT_.out (by kernel_rfl)) (fun _ _ _ h => h) (Or.inr ⟨by rfl,rfl⟩) ?_ ?_; rotate_left
           · simp only [Act.put,List.setIfInBounds_toArray,List.set_cons_zero,List.set_cons_succ,i64_w,i32_w]; rfl
           refine pure_ (i := 35) (N := some 60) (v := undef) (a' := ?_) z12_36 rfl rfl (any_of HT_.out (by kernel_rfl)) (fun _ _ _ h => h) (Or.inr ⟨by rfl,rfl⟩) ?_ ?_; rotate_left
           · simp only [Act.put,List.setIfInBounds_toArray,List.set_cons_zero,List.set_cons_succ,i64_w,i32_w]; rfl
           refine pure_ (i := 36) (N := some 61) (v := undef) (a' := ?_) z12_37 rfl rfl (any_of HT_.out (by kernel_rfl)) (fun _ _ _ h => h) (Or.inr ⟨by rfl,rfl⟩) ?_ ?_; rotate_left
           · simp only [Act.put,List.setIfInBounds_toArray,List.set_cons_zero,List.set_cons_succ,i64_w,i32_w]; rfl
           refine pure_ (i := 37) (N := some 62) (v := undef) (a' := ?_) z12_38 rfl rfl (any_of HT_.out (by kernel_rfl)) (fun _ _ _ h => h) (Or.inr ⟨by rfl,rfl⟩) ?_ ?_; rotate_left
           · simp only [Act.put,List.setIfInBounds_toArray,List.set_cons_zero,List.set_cons_succ,i64_w,i32_w]; rfl
           refine pure_ (i := 38) (N := some 63) (v := undef) (a' := ?_) z12_39 rfl rfl (any_of HT_.out (by kernel_rfl)) (fun _ _ _ h => h) (Or.inr ⟨by rfl,rfl⟩) ?_ ?_; rotate_left
           · simp only [Act.put,List.setIfInBounds_toArray,List.set_cons_zero,List.set_cons_succ,i64_w,i32_w]; rfl
           refine pure_ (i := 39) (N := some 64) (v := undef) (a' := ?_) z12_40 rfl rfl (any_of HT_.out (by kernel_rfl)) (fun _ _ _ h => h) (Or.inr ⟨by rfl,rfl⟩) ?_ ?_; rotate_left
           · simp only [Act.put,List.setIfInBounds_toArray,List.set_cons_zero,List.set_cons_succ,i64_w,i32_w]; rfl
           refine pure_ (i := 40) (N := some 65) (v := undef) (a' := ?_) z12_41 rfl rfl (any_of HT_.out (by kernel_rfl)) (fun _ _ _ h => h) (Or.inr ⟨by rfl,rfl⟩) ?_ ?_; rotate_left
           · simp only [Act.put,List.setIfInBounds_toArray,List.set_cons_zero,List.set_cons_succ,i64_w,i32_w]; rfl
           refine pure_ (i := 41) (N := some 66) (v := undef) (a' := ?_) z12_42 rfl rfl (any_of HT_.out (by kernel_rfl)) (fun _ _ _ h => h) (Or.inr ⟨by rfl,rfl⟩) ?_ ?_; rotate_left
           · simp only [Act.put,List.setIfInBounds_toArray,List.set_cons_zero,List.set_cons_succ,i64_w,i32_w]; rfl
           refine pure_ (i := 42) (N := some 67) (v := undef) (a' := ?_) z12_43 rfl rfl (any_of HT_.out (by kernel_rfl)) (fun _ _ _ h => h) (Or.inr ⟨by rfl,rfl⟩) ?_ ?_; rotate_left
           · simp only [Act.put,List.setIfInBounds_toArray,List.set_cons_zero,List.set_cons_succ,i64_w,i32_w]; rfl
           refine pure_ (i := 43) (N := some 68) (v := undef) (a' := ?_) z12_44 rfl rfl (any_of HT_.out (by kernel_rfl)) (fun _ _ _ h => h) (Or.inr ⟨by rfl,rfl⟩) ?_ ?_; rotate_left
           · simp only [Act.put,List.setIfInBounds_toArray,List.set_cons_zero,List.set_cons_succ,i64_w,i32_w]; rfl
           refine pure_ (i := 44) (N := some 69) (v := undef) (a' := ?_) z12_45 rfl rfl (any_of HT_.out (by kernel_rfl)) (fun _ _ _ h => h) (Or.inr ⟨by rfl,rfl⟩) ?_ ?_; rotate_left
           · simp only [Act.put,List.setIfInBounds_toArray,List.set_cons_zero,List.set_cons_succ,i64_w,i32_w]; rfl
           refine pure_ (i := 45) (N := some 70) (v := undef) (a' := ?_) z12_46 rfl rfl (any_of HT_.out (by kernel_rfl)) (fun _ _ _ h => h) (Or.inr ⟨by rfl,rfl⟩) ?_ ?_; rotate_left
           · simp only [Act.put,List.setIfInBounds_toArray,List.set_cons_zero,List.set_cons_succ,i64_w,i32_w]; rfl
           refine pure_ (i := 46) (N := some 71) (v := undef) (a' := ?_) z12_47 rfl rfl (any_of HT_.out (by kernel_rfl)) (fun _ _ _ h => h) (Or.inr ⟨by rfl,rfl⟩) ?_ ?_; rotate_left
           · simp only [Act.put,List.setIfInBounds_toArray,List.set_cons_zero,List.set_cons_succ,i64_w,i32_w]; rfl
           refine pure_ (i := 47) (N := some 72) (v := undef) (a' := ?_) z12_48 rfl rfl (any_of HT_.out (by kernel_rfl)) (fun _ _ _ h => h) (Or.inr ⟨by rfl,rfl⟩) ?_ ?_; rotate_left
           · simp only [Act.put,List.setIfInBounds_toArray,List.set_cons_zero,List.set_cons_succ,i64_w,i32_w]; rfl
           refine pure_ (i := 48) (N := some 73) (v := undef) (a' := ?_) z12_49 rfl rfl (any_of HT_.out (by kernel_rfl)) (fun _ _ _ h => h) (Or.inr ⟨by rfl,rfl⟩) ?_ ?_; rotate_left
           · simp only [Act.put,List.setIfInBounds_toArray,List.set_cons_zero,List.set_cons_succ,i64_w,i32_w]; rfl
           refine pure_ (i := 49) (N := some 74) (v := undef) (a' := ?_) z12_50 rfl rfl (any_of HT_.out (by kernel_rfl)) (fun _ _ _ h => h) (Or.inr ⟨by rfl,rfl⟩) ?_ ?_; rotate_left
           · simp only [Act.put,List.setIfInBounds_toArray,List.set_cons_zero,List.set_cons_succ,i64_w,i32_w]; rfl
           refine pure_ (i := 50) (N := some 75) (v := undef) (a' := ?_) z12_51 rfl rfl (any_of HT_.out (by kernel_rfl)) (fun _ _ _ h => h) (Or.inr ⟨by rfl,rfl⟩) ?_ ?_; rotate_left
           · simp only [Act.put,List.setIfInBounds_toArray,List.set_cons_zero,List.set_cons_succ,i64_w,i32_w]; rfl
           refine pure_ (i := 51) (N := some 76) (v := undef) (a' := ?_) z12_52 rfl rfl (any_of HT_.out (by kernel_rfl)) (fun _ _ _ h => h) (Or.inr ⟨by rfl,rfl⟩) ?_ ?_; rotate_left
           · simp only [Act.put,List.setIfInBounds_toArray,List.set_cons_zero,List.set_cons_succ,i64_w,i32_w]; rfl
           refine pure_ (i := 52) (N := some 77) (v := undef) (a' := ?_) z12_53 rfl rfl (any_of HT_.out (by kernel_rfl)) (fun _ _ _ h => h) (Or.inr ⟨by rfl,rfl⟩) ?_ ?_; rotate_left
           · simp only [Act.put,List.setIfInBounds_toArray,List.set_cons_zero,List.set_cons_succ,i64_w,i32_w]; rfl
           refine pure_ (i := 53) (N := some 78) (v := undef) (a' := ?_) z12_54 rfl rfl (any_of HT_.out (by kernel_rfl)) (fun _ _ _ h => h) (Or.inr ⟨by rfl,rfl⟩) ?_ ?_; rotate_left
           · simp only [Act.put,List.setIfInBounds_toArray,List.set_cons_zero,List.set_cons_succ,i64_w,i32_w]; rfl
           refine pure_ (i := 54) (N := some 79) (v := undef) (a' := ?_) z12_55 rfl rfl (any_of HT_.out (by kernel_rfl)) (fun _ _ _ h => h) (Or.inr ⟨by rfl,rfl⟩) ?_ ?_; rotate_left
           · simp only [Act.put,List.setIfInBounds_toArray,List.set_cons_zero,List.set_cons_succ,i64_w,i32_w]; rfl
           refine pure_ (i := 55) (N := some 80) (v := undef) (a' := ?_) z12_56 rfl rfl (any_of HT_.out (by kernel_rfl)) (fun _ _ _ h => h) (Or.inr ⟨by rfl,rfl⟩) ?_ ?_; rotate_left
           · simp only [Act.put,List.setIfInBounds_toArray,List.set_cons_zero,List.set_cons_succ,i64_w,i32_w]; rfl
           refine pure_ (i := 56) (N := some 81) (v := undef) (a' := ?_) z12_57 rfl rfl (any_of HT_.out (by kernel_rfl)) (fun _ _ _ h => h) (Or.inr ⟨by rfl,rfl⟩) ?_ ?_; rotate_left
           · simp only [Act.put,List.setIfInBounds_toArray,List.set_cons_zero,List.set_cons_succ,i64_w,i32_w]; rfl
           refine pure_ (i := 57) (N := some 82) (v := undef) (a' := ?_) z12_58 rfl rfl (any_of HT_.out (by kernel_rfl)) (fun _ _ _ h => h) (Or.inr ⟨by rfl,rfl⟩) ?_ ?_; rotate_left
           · simp only [Act.put,List.setIfInBounds_toArray,List.set_cons_zero,List.set_cons_succ,i64_w,i32_w]; rfl
           refine pure_ (i := 58) (N := some 83) (v := undef) (a' := ?_) z12_59 rfl rfl (any_of HT_.out (by kernel_rfl)) (fun _ _ _ h => h) (Or.inr ⟨by rfl,rfl⟩) ?_ ?_; rotate_left
           · simp only [Act.put,List.setIfInBounds_toArray,List.set_cons_zero,List.set_cons_succ,i64_w,i32_w]; rfl
           refine pure_ (i := 59) (N := some 84) (v := undef) (a' := ?_) z12_60 rfl rfl (any_of HT_.out (by kernel_rfl)) (fun _ _ _ h => h) (Or.inr ⟨by rfl,rfl⟩) ?_ ?_; rotate_left
           · simp only [Act.put,List.setIfInBounds_toArray,List.set_cons_zero,List.set_cons_succ,i64_w,i32_w]; rfl
           refine pure_ (i := 60) (N := some 85) (v := undef) (a' := ?_) z12_61 rfl rfl (any_of HT_.out (by kernel_rfl)) (fun _ _ _ h => h) (Or.inr ⟨by rfl,rfl⟩) ?_ ?_; rotate_left
           · simp only [Act.put,List.setIfInBounds_toArray,List.set_cons_zero,List.set_cons_succ,i64_w,i32_w]; rfl
           refine pure_ (i := 61) (N := some 86) (v := undef) (a' := ?_) z12_62 rfl rfl (any_of HT_.out (by kernel_rfl)) (fun _ _ _ h => h) (Or.inr ⟨by rfl,rfl⟩) ?_ ?_; rotate_left
           · simp only [Act.put,List.setIfInBounds_toArray,List.set_cons_zero,List.set_cons_succ,i64_w,i32_w]; rfl
           refine pure_ (i := 62) (N := some 87) (v := undef) (a' := ?_) z12_63 rfl rfl (any_of HT_.out (by kernel_rfl)) (fun _ _ _ h => h) (Or.inr ⟨by rfl,rfl⟩) ?_ ?_; rotate_left
           · simp only [Act.put,List.setIfInBounds_toArray,List.set_cons_zero,List.set_cons_succ,i64_w,i32_w]; rfl
           refine pure_ (i := 63) (N := some 88) (v := ?_) (a' := ?_) z12_64 rfl rfl (any_of HT_.out (by kernel_rfl)) (fun _ _ _ h => h) (Or.inl ⟨by rfl,?_⟩) ?_ ?_; rotate_left
           · intro w'; go_simp; with_reducible rfl
           rotate_left
           · simp only [Act.put,List.setIfInBounds_toArray,List.set_cons_zero,List.set_cons_succ,i64_w,i32_w]; rfl
           refine done_ (done_of HT_.out (by kernel_rfl)) ?_
           try go_wp2
           go_meet
           case rel => exact ⟨_,(true),(by first|rfl|(simp; done)|(simp [*]; done)),H',⟨by have := HJ2.out; have := HK2.out; first|omega|exact Nat.le_refl _⟩,⟨(rrB9 BK128.out)⟩,⟨by repeat (first|(with_reducible first|exact HB.out|apply zC|apply zE|apply zD|refine zB ?_ GE128.out)|exact HB.out)⟩⟩
         case rest =>
          clear HC9; try clear c1; try clear p2; try clear c3; try clear p6; try clear c13; try clear c34
          obtain ⟨kq,x88_8,rfl,HA,HJ8,BK128,HB⟩ := hcut
          cases kq with
          | zero => exact absurd HA.out (by simp [spec_RoadsOk.j2])
          | succ kj8 =>
           have H := HA.out
           clear HA
           simp only [spec_RoadsOk.j2] at H
           by_cases c41 : x88_8 = true
           ·
            subst c41
            have H1 : (some false) = some r := by rw [if_pos rfl] at H; exact H
            clear H; have H := H1; clear H1
            obtain rfl := Option.some.inj H
            go_wp2
            go_ret
            exact ⟨by first|rfl|(simp [errW_none,errW_some] <;> rfl)|(simp [*,errW_none,errW_some] <;> rfl),by repeat (first|(with_reducible first|exact HB.out|apply zC|apply zE|apply zD|refine zB ?_ GE128.out)|exact HB.out)⟩
           ·
            replace c41 := Bool.eq_false_iff.mpr c41
            subst c41
            have H1 : (spec_RoadsOk.l0 kj8 a0 l1 (wrap64 (x5_2 + 1))) = some r := by rw [if_neg (show ¬ (false = true) by decide)] at H; exact H
            clear H; have H := H1; clear H1
            have H' := zA H
            clear H; go_wp2
            go_roundg kj8
            case measure => have := HJ2.out; have := HK2.out; have := HJ8.out; omega
            case rel => exact ⟨(wrap64 (x5_2 + 1)),(by first|rfl|(simp; done)|(simp [*]; done)),H',⟨by have := HJ2.out; have := HK2.out; have := HJ8.out; omega⟩,⟨by repeat (first|(with_reducible first|exact HB.out|apply zC|apply zE|apply zD|refine zB ?_ GE128.out)|exact HB.out)⟩⟩
        ·
         rw [if_neg c8] at H
         exact absurd H (by simp)
       ·
        rw [if_neg c7] at H
        have c7b0 : decide (x5_2 < (l1.length : Int)) = false := decide_eq_false c7
        clear c7
        obtain rfl := Option.some.inj H
        go_wp2
        go_ret
        exact ⟨by first|rfl|(simp [errW_none,errW_some] <;> rfl)|(simp [*,errW_none,errW_some] <;> rfl),by repeat (first|(with_reducible first|exact HB.out|apply zC|apply zE|apply zD)|exact HB.out)⟩

end Go.Proofs.Ytokoihmjcfhemaa.PFnExactSpread
