-- Written by a program out of the translation,for this claim.
import Derived.Test.YtlidnobkkgcnlaaPFnReceivesx0
import Derived.Test.YtlidnobkkgcnlaaPFnReceivesx1
import Derived.Test.YtlidnobkkgcnlaaPFnReceivesx7
import Derived.Test.YtlidnobkkgcnlaaPFnReceivesx8
import Derived.Test.YtlidnobkkgcnlaaPFnReceivesx9
namespace Go.Proofs.Ytlidnobkkgcnlaa.PFnReceives
open Go.RowKit Go.Proofs.YtlidnobkkgcnlaaW.PrintWords Go.Proofs.YtlidnobkkgcnlaaW.PrintLast Go.Proofs.YtlidnobkkgcnlaaW.PrintMore
attribute [local go_sem] max2_int min2_int max_two min_two max_three min_three max_four min_four   -- for this text's walks alone
set_option linter.unusedVariables false
set_option linter.unusedSimpArgs false
theorem rrA10 {p q : Prop} (h : p) (f : p → q := by (intro h_; (with_reducible repeat (first | apply Kd.R_alloc | apply Kd.R_drewN | apply Kd.R_drew)); exact h_)) : q := f h
theorem rrB10 {p q : Prop} (h : p) (f : p → q := by (intro h_; (with_reducible repeat (first | refine blk_drewN ?_ _ | refine blk_drew ?_ | refine blk_alloc ?_ _)); exact h_)) : q := f h
open Go.Proofs.YtlidnobkkgcnlaaW.PrintWords.Aside0 renaming mk → zA
open Go.Proofs.YtlidnobkkgcnlaaW.PrintWords.Kd renaming R_far → zB
open Go.Proofs.YtlidnobkkgcnlaaW.PrintWords.Kd renaming R_mono → zC
open Go.Proofs.YtlidnobkkgcnlaaW.PrintWords.Kd renaming R_below → zD
open Go.Proofs.YtlidnobkkgcnlaaW.PrintWords renaming below_set → zE
open Go.Proofs.YtlidnobkkgcnlaaW.PrintWords renaming below_alloc → zF
open Go.Proofs.YtlidnobkkgcnlaaW.PrintWords renaming below_drew1 → zG
open Go.Proofs.YtlidnobkkgcnlaaW.PrintWords renaming pw_below_drewN → zH
open Go.Proofs.YtlidnobkkgcnlaaW.PrintWords renaming blk_drewN → zI
open Go.Proofs.YtlidnobkkgcnlaaW.PrintWords renaming blk_alloc → zJ
open Go.Proofs.YtlidnobkkgcnlaaW.PrintWords renaming blk_drew → zK
open Go.Proofs.YtlidnobkkgcnlaaW.PrintWords renaming blk_frozen → zL
open Go.Proofs.YtlidnobkkgcnlaaW.PrintWords renaming blk_below → zM
open Go.Proofs.YtlidnobkkgcnlaaW.PrintWords renaming blk_cell → zN
open Go.Proofs.YtlidnobkkgcnlaaW.PrintWords renaming blk_far → zO

/-! ### spec_DrawReceive: function 19 -/
def spec_DrawReceive.j0 : Nat → Int → Int → List ByteArray → Int → List ByteArray → Int → Int → ByteArray → Option (Int × Int × List ByteArray × Int × List ByteArray × Int × Int × ByteArray)
  | 0,_,_,_,_,_,_,_,_ => none
  | k + 1,x322000,x322001,x322002,x322003,x322004,x332000,x332001,x332002 => some (x322000,x322001,x322002,x322003,x322004,x332000,x332001,x332002)
def spec_DrawReceive.f (k : Nat) (l0 : List Int) : Option (Int × Int × List ByteArray × Int × List ByteArray × Int × Int × ByteArray) := (spec_l01New.f k l0).bind fun bt306 => ((spec_l06End.f k bt306.1 bt306.2.1 bt306.2.2).bind fun bt310 => ((spec_l01Below.f bt306.1 bt310.2.2.2.2.2.1 bt310.2.2.2.2.2.2 3).bind fun bt322 => ((spec_l01Below.f bt306.1 bt322.2.1 bt322.2.2 5).bind fun bt325 => ((spec_l03Name.f bt306.1 bt325.2.1 bt325.2.2).bind fun bt328 => ((spec_l01Below.f bt306.1 bt328.2.1 bt328.2.2 12).bind fun bt332 => (if bt332.1 = 0 then ((spec_l01PickInt.f bt306.1 bt332.2.1 bt332.2.2 (([(-1),9223372036854775807] : List Int))).bind fun bt338 => (spec_DrawReceive.j0 k bt310.1 bt310.2.1 bt310.2.2.1 bt310.2.2.2.1 bt310.2.2.2.2.1 bt338.1 (wrap64 (bt310.2.1 + bt325.1)) bt328.1)) else (if bt332.1 = 1 then ((spec_l01PickInt.f bt306.1 bt332.2.1 bt332.2.2 (([(-1),9223372036854775807,(-9223372036854775808)] : List Int))).bind fun bt344 => (spec_DrawReceive.j0 k bt310.1 bt310.2.1 bt310.2.2.1 bt310.2.2.2.1 bt310.2.2.2.2.1 (wrap64 (bt310.2.2.2.1 + bt322.1)) bt344.1 bt328.1)) else (if bt332.1 = 2 then ((spec_l01Below.f bt306.1 bt332.2.1 bt332.2.2 2).bind fun bt347 => ((spec_l01Long.f k (wrap64 (60 + bt347.1)) 65).bind fun t350 => (spec_DrawReceive.j0 k bt310.1 bt310.2.1 bt310.2.2.1 bt310.2.2.2.1 bt310.2.2.2.2.1 (wrap64 (bt310.2.2.2.1 + bt322.1)) (wrap64 (bt310.2.1 + bt325.1)) t350))) else (spec_DrawReceive.j0 k bt310.1 bt310.2.1 bt310.2.2.1 bt310.2.2.2.1 bt310.2.2.2.2.1 (wrap64 (bt310.2.2.2.1 + bt322.1)) (wrap64 (bt310.2.1 + bt325.1)) bt328.1)))))))))
theorem spec_DrawReceive.mono_l : ∀ k,(∀ y0 y1 y2 y3 y4 y5 y6 y7,LeO (spec_DrawReceive.j0 k y0 y1 y2 y3 y4 y5 y6 y7) (spec_DrawReceive.j0 (k + 1) y0 y1 y2 y3 y4 y5 y6 y7))
  | 0 => fun _ _ _ _ _ _ _ _ r h => by simp [spec_DrawReceive.j0] at h
  | k + 1 => by
   have ih0 := spec_DrawReceive.mono_l k
   ·
    intro y0 y1 y2 y3 y4 y5 y6 y7
    unfold spec_DrawReceive.j0
    repeat' first
   |(with_reducible exact ih0 _ _ _ _ _ _ _ _)
   |(with_reducible exact spec_l01Long.mono _ _ _)
   |(with_reducible exact spec_l01New.mono _ _)
   |(with_reducible exact spec_l06End.mono _ _ _ _)
   |(with_reducible exact LeO.refl _)
   |(with_reducible exact LeO.none _)
   |(with_reducible refine LeO.ite ?_ ?_)
   |(with_reducible refine LeO.bind ?_ (fun _ => ?_))
   |exact ih0 _ _ _ _ _ _ _ _
   |exact spec_l01Long.mono _ _ _
   |exact spec_l01New.mono _ _
   |exact spec_l06End.mono _ _ _ _
   |exact LeO.none _
   |refine LeO.ite ?_ ?_
   |refine LeO.bind ?_ (fun _ => ?_)
theorem spec_DrawReceive.mono : ∀ a0 k,LeO (spec_DrawReceive.f k a0) (spec_DrawReceive.f (k + 1) a0) := by
  intro a0 k
  have ih0 := spec_DrawReceive.mono_l k
  unfold spec_DrawReceive.f
  repeat' first
   |(with_reducible exact ih0 _ _ _ _ _ _ _ _)
   |(with_reducible exact spec_l01Long.mono _ _ _)
   |(with_reducible exact spec_l01New.mono _ _)
   |(with_reducible exact spec_l06End.mono _ _ _ _)
   |(with_reducible exact LeO.refl _)
   |(with_reducible exact LeO.none _)
   |(with_reducible refine LeO.ite ?_ ?_)
   |(with_reducible refine LeO.bind ?_ (fun _ => ?_))
   |exact ih0 _ _ _ _ _ _ _ _
   |exact spec_l01Long.mono _ _ _
   |exact spec_l01New.mono _ _
   |exact spec_l06End.mono _ _ _ _
   |exact LeO.none _
   |refine LeO.ite ?_ ?_
   |refine LeO.bind ?_ (fun _ => ?_)
def spec_DrawReceive.T3 : Bool × List (List Nat × List Nat) := (true,[([],[]),([0],[0]),([],[]),([2],[2]),([1,3],[1,3]),([],[]),([5],[5]),([],[]),([7,3],[7]),([6,8],[6,8]),([],[]),([10,8],[10]),([4,9,11],[4,9,11]),([],[]),([13,12,11,0,1,2,3,4,5,6,7,8,9,10,11,12,13],[12,13])])
def spec_DrawReceive.B3 : List Nat := [0,1,0,4,15,0,32,0,140,492,0,1420,4095,0,16383]
theorem spec_DrawReceive.tab3 : rtab .any (opsOf Try.f19 3) = spec_DrawReceive.T3 := by kernel_rfl
theorem spec_DrawReceive.bits3 : waitsOk spec_DrawReceive.T3.2 spec_DrawReceive.B3 = true := by kernel_rfl
set_option maxHeartbeats 8000000 in
set_option maxRecDepth 100000 in
theorem spec_DrawReceive.calls (k : Nat) (A0 : Option Addr) (c0 : Nat) (l0 : List Int) (r1 : Int) (r2 : Int) (r3 : List ByteArray) (r4 : Int) (r5 : List ByteArray) (r6 : Int) (r7 : Int) (r8 : ByteArray) (w : World) (hr0 : Kd.C (Kd.int .u8) w A0 l0.length l0) (hc0 : l0.length ≤ c0) (h : spec_DrawReceive.f k l0 = some (r1,r2,r3,r4,r5,r6,r7,r8)) :
   Calls Try.prog 19 #[.slice A0 l0.length c0] w fun e w' => ∃ v2_ v4_ : Value,e = .returned (.tuple #[.agg #[.int .i64 r1,.int .i64 r2,v2_,.int .i64 r4,v4_],.agg #[.int .i64 r6,.int .i64 r7,.string r8]]) ∧ Kd.R Kd.string 9 w' w.heap.size (fun k_ => some k_ ≠ (v4_ : Value).ownBlock) v2_ r3 ∧ Kd.R Kd.string 9 w' w.heap.size (fun k_ => some k_ ≠ (v2_ : Value).ownBlock) v4_ r5 ∧ Below w.heap.size w w' := by
  have hu26 := Try.underlying26
  have hu36 := Try.underlying36
  have HR0 := zA hr0
  have HC0 := zA hc0
  clear hr0 hc0
  have HB := zA (Below.refl w.heap.size w)
  have H : ((spec_l01New.f k l0).bind fun bt306 => ((spec_l06End.f k bt306.1 bt306.2.1 bt306.2.2).bind fun bt310 => ((spec_l01Below.f bt306.1 bt310.2.2.2.2.2.1 bt310.2.2.2.2.2.2 3).bind fun bt322 => ((spec_l01Below.f bt306.1 bt322.2.1 bt322.2.2 5).bind fun bt325 => ((spec_l03Name.f bt306.1 bt325.2.1 bt325.2.2).bind fun bt328 => ((spec_l01Below.f bt306.1 bt328.2.1 bt328.2.2 12).bind fun bt332 => (if bt332.1 = 0 then ((spec_l01PickInt.f bt306.1 bt332.2.1 bt332.2.2 (([(-1),9223372036854775807] : List Int))).bind fun bt338 => (spec_DrawReceive.j0 k bt310.1 bt310.2.1 bt310.2.2.1 bt310.2.2.2.1 bt310.2.2.2.2.1 bt338.1 (wrap64 (bt310.2.1 + bt325.1)) bt328.1)) else (if bt332.1 = 1 then ((spec_l01PickInt.f bt306.1 bt332.2.1 bt332.2.2 (([(-1),9223372036854775807,(-9223372036854775808)] : List Int))).bind fun bt344 => (spec_DrawReceive.j0 k bt310.1 bt310.2.1 bt310.2.2.1 bt310.2.2.2.1 bt310.2.2.2.2.1 (wrap64 (bt310.2.2.2.1 + bt322.1)) bt344.1 bt328.1)) else (if bt332.1 = 2 then ((spec_l01Below.f bt306.1 bt332.2.1 bt332.2.2 2).bind fun bt347 => ((spec_l01Long.f k (wrap64 (60 + bt347.1)) 65).bind fun t350 => (spec_DrawReceive.j0 k bt310.1 bt310.2.1 bt310.2.2.1 bt310.2.2.2.1 bt310.2.2.2.2.1 (wrap64 (bt310.2.2.2.1 + bt322.1)) (wrap64 (bt310.2.1 + bt325.1)) t350))) else (spec_DrawReceive.j0 k bt310.1 bt310.2.1 bt310.2.2.1 bt310.2.2.2.1 bt310.2.2.2.2.1 (wrap64 (bt310.2.2.2.1 + bt322.1)) (wrap64 (bt310.2.1 + bt325.1)) bt328.1)))))))))) = some (r1,r2,r3,r4,r5,r6,r7,r8) := h
  clear h
  replace H := Option.bind_eq_some_iff.mp H
  obtain ⟨⟨t306,t307,t308⟩,A20,H⟩ := H
  replace H : ((spec_l06End.f k t306 t307 t308).bind fun bt310 => ((spec_l01Below.f t306 bt310.2.2.2.2.2.1 bt310.2.2.2.2.2.2 3).bind fun bt322 => ((spec_l01Below.f t306 bt322.2.1 bt322.2.2 5).bind fun bt325 => ((spec_l03Name.f t306 bt325.2.1 bt325.2.2).bind fun bt328 => ((spec_l01Below.f t306 bt328.2.1 bt328.2.2 12).bind fun bt332 => (if bt332.1 = 0 then ((spec_l01PickInt.f t306 bt332.2.1 bt332.2.2 (([(-1),9223372036854775807] : List Int))).bind fun bt338 => (spec_DrawReceive.j0 k bt310.1 bt310.2.1 bt310.2.2.1 bt310.2.2.2.1 bt310.2.2.2.2.1 bt338.1 (wrap64 (bt310.2.1 + bt325.1)) bt328.1)) else (if bt332.1 = 1 then ((spec_l01PickInt.f t306 bt332.2.1 bt332.2.2 (([(-1),9223372036854775807,(-9223372036854775808)] : List Int))).bind fun bt344 => (spec_DrawReceive.j0 k bt310.1 bt310.2.1 bt310.2.2.1 bt310.2.2.2.1 bt310.2.2.2.2.1 (wrap64 (bt310.2.2.2.1 + bt322.1)) bt344.1 bt328.1)) else (if bt332.1 = 2 then ((spec_l01Below.f t306 bt332.2.1 bt332.2.2 2).bind fun bt347 => ((spec_l01Long.f k (wrap64 (60 + bt347.1)) 65).bind fun t350 => (spec_DrawReceive.j0 k bt310.1 bt310.2.1 bt310.2.2.1 bt310.2.2.2.1 bt310.2.2.2.2.1 (wrap64 (bt310.2.2.2.1 + bt322.1)) (wrap64 (bt310.2.1 + bt325.1)) t350))) else (spec_DrawReceive.j0 k bt310.1 bt310.2.1 bt310.2.2.1 bt310.2.2.2.1 bt310.2.2.2.2.1 (wrap64 (bt310.2.2.2.1 + bt322.1)) (wrap64 (bt310.2.1 + bt325.1)) bt328.1))))))))) = some (r1,r2,r3,r4,r5,r6,r7,r8) := H
  have A2 := zA A20
  clear A20
  replace H := Option.bind_eq_some_iff.mp H
  obtain ⟨⟨t310,t311,t312,t315,t316,t319,t320⟩,A30,H⟩ := H
  replace H : ((spec_l01Below.f t306 t319 t320 3).bind fun bt322 => ((spec_l01Below.f t306 bt322.2.1 bt322.2.2 5).bind fun bt325 => ((spec_l03Name.f t306 bt325.2.1 bt325.2.2).bind fun bt328 => ((spec_l01Below.f t306 bt328.2.1 bt328.2.2 12).bind fun bt332 => (if bt332.1 = 0 then ((spec_l01PickInt.f t306 bt332.2.1 bt332.2.2 (([(-1),9223372036854775807] : List Int))).bind fun bt338 => (spec_DrawReceive.j0 k t310 t311 t312 t315 t316 bt338.1 (wrap64 (t311 + bt325.1)) bt328.1)) else (if bt332.1 = 1 then ((spec_l01PickInt.f t306 bt332.2.1 bt332.2.2 (([(-1),9223372036854775807,(-9223372036854775808)] : List Int))).bind fun bt344 => (spec_DrawReceive.j0 k t310 t311 t312 t315 t316 (wrap64 (t315 + bt322.1)) bt344.1 bt328.1)) else (if bt332.1 = 2 then ((spec_l01Below.f t306 bt332.2.1 bt332.2.2 2).bind fun bt347 => ((spec_l01Long.f k (wrap64 (60 + bt347.1)) 65).bind fun t350 => (spec_DrawReceive.j0 k t310 t311 t312 t315 t316 (wrap64 (t315 + bt322.1)) (wrap64 (t311 + bt325.1)) t350))) else (spec_DrawReceive.j0 k t310 t311 t312 t315 t316 (wrap64 (t315 + bt322.1)) (wrap64 (t311 + bt325.1)) bt328.1)))))))) = some (r1,r2,r3,r4,r5,r6,r7,r8) := H
  have A3 := zA A30
  clear A30
  replace H := Option.bind_eq_some_iff.mp H
  obtain ⟨⟨t322,t323,t324⟩,A40,H⟩ := H
  replace H : ((spec_l01Below.f t306 t323 t324 5).bind fun bt325 => ((spec_l03Name.f t306 bt325.2.1 bt325.2.2).bind fun bt328 => ((spec_l01Below.f t306 bt328.2.1 bt328.2.2 12).bind fun bt332 => (if bt332.1 = 0 then ((spec_l01PickInt.f t306 bt332.2.1 bt332.2.2 (([(-1),9223372036854775807] : List Int))).bind fun bt338 => (spec_DrawReceive.j0 k t310 t311 t312 t315 t316 bt338.1 (wrap64 (t311 + bt325.1)) bt328.1)) else (if bt332.1 = 1 then ((spec_l01PickInt.f t306 bt332.2.1 bt332.2.2 (([(-1),9223372036854775807,(-9223372036854775808)] : List Int))).bind fun bt344 => (spec_DrawReceive.j0 k t310 t311 t312 t315 t316 (wrap64 (t315 + t322)) bt344.1 bt328.1)) else (if bt332.1 = 2 then ((spec_l01Below.f t306 bt332.2.1 bt332.2.2 2).bind fun bt347 => ((spec_l01Long.f k (wrap64 (60 + bt347.1)) 65).bind fun t350 => (spec_DrawReceive.j0 k t310 t311 t312 t315 t316 (wrap64 (t315 + t322)) (wrap64 (t311 + bt325.1)) t350))) else (spec_DrawReceive.j0 k t310 t311 t312 t315 t316 (wrap64 (t315 + t322)) (wrap64 (t311 + bt325.1)) bt328.1))))))) = some (r1,r2,r3,r4,r5,r6,r7,r8) := H
  have A4 := zA A40
  clear A40
  replace H := Option.bind_eq_some_iff.mp H
  obtain ⟨⟨t325,t326,t327⟩,A50,H⟩ := H
  replace H : ((spec_l03Name.f t306 t326 t327).bind fun bt328 => ((spec_l01Below.f t306 bt328.2.1 bt328.2.2 12).bind fun bt332 => (if bt332.1 = 0 then ((spec_l01PickInt.f t306 bt332.2.1 bt332.2.2 (([(-1),9223372036854775807] : List Int))).bind fun bt338 => (spec_DrawReceive.j0 k t310 t311 t312 t315 t316 bt338.1 (wrap64 (t311 + t325)) bt328.1)) else (if bt332.1 = 1 then ((spec_l01PickInt.f t306 bt332.2.1 bt332.2.2 (([(-1),9223372036854775807,(-9223372036854775808)] : List Int))).bind fun bt344 => (spec_DrawReceive.j0 k t310 t311 t312 t315 t316 (wrap64 (t315 + t322)) bt344.1 bt328.1)) else (if bt332.1 = 2 then ((spec_l01Below.f t306 bt332.2.1 bt332.2.2 2).bind fun bt347 => ((spec_l01Long.f k (wrap64 (60 + bt347.1)) 65).bind fun t350 => (spec_DrawReceive.j0 k t310 t311 t312 t315 t316 (wrap64 (t315 + t322)) (wrap64 (t311 + t325)) t350))) else (spec_DrawReceive.j0 k t310 t311 t312 t315 t316 (wrap64 (t315 + t322)) (wrap64 (t311 + t325)) bt328.1)))))) = some (r1,r2,r3,r4,r5,r6,r7,r8) := H
  have A5 := zA A50
  clear A50
  replace H := Option.bind_eq_some_iff.mp H
  obtain ⟨⟨t328,t329,t330⟩,A60,H⟩ := H
  replace H : ((spec_l01Below.f t306 t329 t330 12).bind fun bt332 => (if bt332.1 = 0 then ((spec_l01PickInt.f t306 bt332.2.1 bt332.2.2 (([(-1),9223372036854775807] : List Int))).bind fun bt338 => (spec_DrawReceive.j0 k t310 t311 t312 t315 t316 bt338.1 (wrap64 (t311 + t325)) t328)) else (if bt332.1 = 1 then ((spec_l01PickInt.f t306 bt332.2.1 bt332.2.2 (([(-1),9223372036854775807,(-9223372036854775808)] : List Int))).bind fun bt344 => (spec_DrawReceive.j0 k t310 t311 t312 t315 t316 (wrap64 (t315 + t322)) bt344.1 t328)) else (if bt332.1 = 2 then ((spec_l01Below.f t306 bt332.2.1 bt332.2.2 2).bind fun bt347 => ((spec_l01Long.f k (wrap64 (60 + bt347.1)) 65).bind fun t350 => (spec_DrawReceive.j0 k t310 t311 t312 t315 t316 (wrap64 (t315 + t322)) (wrap64 (t311 + t325)) t350))) else (spec_DrawReceive.j0 k t310 t311 t312 t315 t316 (wrap64 (t315 + t322)) (wrap64 (t311 + t325)) t328))))) = some (r1,r2,r3,r4,r5,r6,r7,r8) := H
  have A6 := zA A60
  clear A60
  replace H := Option.bind_eq_some_iff.mp H
  obtain ⟨⟨t332,t333,t334⟩,A70,H⟩ := H
  replace H : (if t332 = 0 then ((spec_l01PickInt.f t306 t333 t334 (([(-1),9223372036854775807] : List Int))).bind fun bt338 => (spec_DrawReceive.j0 k t310 t311 t312 t315 t316 bt338.1 (wrap64 (t311 + t325)) t328)) else (if t332 = 1 then ((spec_l01PickInt.f t306 t333 t334 (([(-1),9223372036854775807,(-9223372036854775808)] : List Int))).bind fun bt344 => (spec_DrawReceive.j0 k t310 t311 t312 t315 t316 (wrap64 (t315 + t322)) bt344.1 t328)) else (if t332 = 2 then ((spec_l01Below.f t306 t333 t334 2).bind fun bt347 => ((spec_l01Long.f k (wrap64 (60 + bt347.1)) 65).bind fun t350 => (spec_DrawReceive.j0 k t310 t311 t312 t315 t316 (wrap64 (t315 + t322)) (wrap64 (t311 + t325)) t350))) else (spec_DrawReceive.j0 k t310 t311 t312 t315 t316 (wrap64 (t315 + t322)) (wrap64 (t311 + t325)) t328)))) = some (r1,r2,r3,r4,r5,r6,r7,r8) := H
  have A7 := zA A70
  clear A70
  have HC8 := zA H
  clear H
  go_enter Try.func19,Try.ntmps19
  try go_wp2_with (first | ((with_reducible refine gate_dst (N := 2) rfl ?_); refine box_event ?hg (N := 2) ?hd (cs := #[.int .i64 0,.int .i64 0,.slice none 0 0,.int .i64 0,.slice none 0 0]) (t := 26) ?hr ?_; (case hd => rfl); (case hg => rfl); (case hr => first | (go_simp; done) | (go_simp; rfl)); intro gb304 hg w9 hbox hb; have n0_ := zA (below_step (by repeat (first|(with_reducible first|exact HB.out|apply zF|apply zH|apply zG)|exact HB.out)) hb); have n1_ := zA (hbox); have n2_ := zA ((by rw [hg]; exact (below_size (by repeat (first|(with_reducible first|exact HB.out|apply zF|apply zH|apply zG)|exact HB.out))) : w.heap.size ≤ gb304)); have n3_ := zA ((by rw [hg]; exact (below_size (by repeat (first|(with_reducible first|exact HB.out|apply zF|apply zH|apply zG)|exact HB.out))) : w.heap.size ≤ gb304)); clear HB; have HB := n0_; have BK304 := n1_; have GW304 := n2_; have GE304 := n3_; clear n0_ n1_ n2_ n3_ hb hbox hg) | ((with_reducible refine gate_dst (N := 3) rfl ?_); refine box_event ?hg (N := 3) ?hd (cs := #[.int .i64 0,.int .i64 0,.string (⟨#[]⟩ : ByteArray)]) (t := 36) ?hr ?_; (case hd => rfl); (case hg => rfl); (case hr => first | (go_simp; done) | (go_simp; rfl)); intro gb305 hg w10 hbox hb; have n0_ := zA (zM (g := gb304) (o := .cells #[.int .i64 0,.int .i64 0,.slice none 0 0,.int .i64 0,.slice none 0 0] 26 (0,0)) (rrB10 BK304.out) hb); have n1_ := zA (below_step (by repeat (first|(with_reducible first|exact HB.out|apply zF|apply zH|apply zG|refine zE ?_ GE304.out)|exact HB.out)) hb); have n2_ := zA (hbox); have n3_ := zA ((by rw [hg]; exact (below_size (by repeat (first|(with_reducible first|exact HB.out|apply zF|apply zH|apply zG|refine zE ?_ GE304.out)|exact HB.out))) : w.heap.size ≤ gb305)); have n4_ := zA ((by rw [hg]; exact (below_size (by repeat (first|(with_reducible first|exact HB.out|apply zF|apply zH|apply zG|refine zE ?_ GE304.out)|exact HB.out))) : w.heap.size ≤ gb305)); have n5_ := zA ((by rw [hg]; exact Nat.ne_of_lt (blk_lt (g := gb304) (o := .cells #[.int .i64 0,.int .i64 0,.slice none 0 0,.int .i64 0,.slice none 0 0] 26 (0,0)) (rrB10 BK304.out)) : gb304 ≠ gb305)); have n6_ := zA ((by rw [hg]; exact Nat.ne_of_gt (blk_lt (g := gb304) (o := .cells #[.int .i64 0,.int .i64 0,.slice none 0 0,.int .i64 0,.slice none 0 0] 26 (0,0)) (rrB10 BK304.out)) : gb305 ≠ gb304)); clear BK304 HB; have BK304 := n0_; have HB := n1_; have BK305 := n2_; have GW305 := n3_; have GE305 := n4_; have NB304_305 := n5_; have NB305_304 := n6_; clear n0_ n1_ n2_ n3_ n4_ n5_ n6_ hb hbox hg) | ((with_reducible refine gate_callee (f := 47) rfl ?_); refine goesL_ (some 8) rfl rfl Try.func47 (by kernel_rfl) rfl #[.slice A0 l0.length c0] rfl (by (try simp only [List.map_toArray,List.map_cons,List.map_nil]); first | done|rfl|(simp only [List.length_drop,List.length_take]; rfl)) ?_; (with_reducible refine (spec_l01New.calls k _ _ l0 t306 t307 t308 w _ ?side1 ?side2 ?side3 A2.out).mono ?_); (case side1 => repeat (first|(with_reducible first|exact HB.out|apply zF|apply zH|apply zG|refine zE ?_ GE304.out|refine zE ?_ GE305.out)|exact HB.out)); (case side2 => exact HR0.out); (case side3 => exact HC0.out); rintro e w11 ⟨g309,rfl,hi,hb,hb2⟩; refine ⟨_,rfl,?_⟩; have n0_ := zA (zM (g := gb304) (o := .cells #[.int .i64 0,.int .i64 0,.slice none 0 0,.int .i64 0,.slice none 0 0] 26 (0,0)) (rrB10 BK304.out) hb2); have n1_ := zA (zM (g := gb305) (o := .cells #[.int .i64 0,.int .i64 0,.string (⟨#[]⟩ : ByteArray)] 36 (0,0)) (rrB10 BK305.out) hb2); have n2_ := zA (hb); have n3_ := zA (hi); have n4_ := zA (IsS81.ne_blk hi (zM (g := gb304) (o := .cells #[.int .i64 0,.int .i64 0,.slice none 0 0,.int .i64 0,.slice none 0 0] 26 (0,0)) (rrB10 BK304.out) hb2) (by decide)); have n5_ := zA (Ne.symm (IsS81.ne_blk hi (zM (g := gb304) (o := .cells #[.int .i64 0,.int .i64 0,.slice none 0 0,.int .i64 0,.slice none 0 0] 26 (0,0)) (rrB10 BK304.out) hb2) (by decide))); have n6_ := zA (IsS81.ne_blk hi (zM (g := gb305) (o := .cells #[.int .i64 0,.int .i64 0,.string (⟨#[]⟩ : ByteArray)] 36 (0,0)) (rrB10 BK305.out) hb2) (by decide)); have n7_ := zA (Ne.symm (IsS81.ne_blk hi (zM (g := gb305) (o := .cells #[.int .i64 0,.int .i64 0,.string (⟨#[]⟩ : ByteArray)] 36 (0,0)) (rrB10 BK305.out) hb2) (by decide))); clear BK304 BK305 HB; have BK304 := n0_; have BK305 := n1_; have HB := n2_; have HI309 := n3_; have NB309_304 := n4_; have NB304_309 := n5_; have NB309_305 := n6_; have NB305_309 := n7_; clear n0_ n1_ n2_ n3_ n4_ n5_ n6_ n7_; (try clear hb); (try clear hb2); (try clear hk); (try clear hi)) | ((with_reducible refine gate_callee (f := 48) rfl ?_); refine goesL_ (some 10) rfl rfl Try.func48 (by kernel_rfl) rfl #[.pointer (some ⟨g309,0,none⟩)] rfl (by (try simp only [List.map_toArray,List.map_cons,List.map_nil]); first | done|rfl|(simp only [List.length_drop,List.length_take]; rfl)) ?_; (with_reducible refine (spec_l06End.calls k g309 t306 t307 t308 t310 t311 t312 t315 t316 t319 t320 w _ ?side1 ?side2 A3.out).mono ?_); (case side1 => repeat (first|(with_reducible first|exact HI309.out|apply IsS81.alloc|apply IsS81.drewN|apply IsS81.drew|apply IsS81.set_1|apply IsS81.set_2|refine IsS81.far ?_ NB309_304.out _|refine IsS81.far ?_ NB309_305.out _)|exact HI309.out)); (case side2 => repeat (first|(with_reducible first|exact HB.out|apply zF|apply zH|apply zG|refine zE ?_ (IsS81.ge HI309.out)|refine zE ?_ GE304.out|refine zE ?_ GE305.out)|exact HB.out)); rintro e w12 ⟨v313,v317,rfl,ho0,ho1,hi,hb,hk⟩; refine ⟨_,rfl,?_⟩; have n0_ := zA (KeepBut.blk hk (g' := gb304) (o := .cells #[.int .i64 0,.int .i64 0,.slice none 0 0,.int .i64 0,.slice none 0 0] 26 (0,0)) (rrB10 BK304.out) NB304_309.out (by simp)); have n1_ := zA (KeepBut.blk hk (g' := gb305) (o := .cells #[.int .i64 0,.int .i64 0,.string (⟨#[]⟩ : ByteArray)] 36 (0,0)) (rrB10 BK305.out) NB305_309.out (by simp)); have n2_ := zA (Kd.R_lower ho0 (below_size (by repeat (first|(with_reducible first|exact HB.out|apply zF|apply zH|apply zG|refine zE ?_ (IsS81.ge HI309.out)|refine zE ?_ GE304.out|refine zE ?_ GE305.out)|exact HB.out)))); have n3_ := zA (Kd.R_lower ho1 (below_size (by repeat (first|(with_reducible first|exact HB.out|apply zF|apply zH|apply zG|refine zE ?_ (IsS81.ge HI309.out)|refine zE ?_ GE304.out|refine zE ?_ GE305.out)|exact HB.out)))); have n4_ := zA (hb); have n5_ := zA (hi); clear BK304 BK305 HB HI309; have BK304 := n0_; have BK305 := n1_; have HO314 := n2_; have HO318 := n3_; have HB := n4_; have HI309 := n5_; clear n0_ n1_ n2_ n3_ n4_ n5_; (try clear hb); (try clear hb2); (try clear hk); (try clear hi); (try clear ho0); (try clear ho1)) | ((with_reducible refine gate_dst (N := 5) rfl ?_); refine box_event ?hg (N := 5) ?hd (cs := #[.int .i64 0,.int .i64 0,.slice none 0 0,.int .i64 0,.slice none 0 0]) (t := 26) ?hr ?_; (case hd => rfl); (case hg => rfl); (case hr => first | (go_simp; done) | (go_simp; rfl)); intro gb321 hg w13 hbox hb; have n0_ := zA (zD (rrA10 HO314.out) hb); have n1_ := zA (zD (rrA10 HO318.out) hb); have n2_ := zA (zM (g := gb304) (o := .cells #[.int .i64 0,.int .i64 0,.slice none 0 0,.int .i64 0,.slice none 0 0] 26 (0,0)) (rrB10 BK304.out) hb); have n3_ := zA (zM (g := gb305) (o := .cells #[.int .i64 0,.int .i64 0,.string (⟨#[]⟩ : ByteArray)] 36 (0,0)) (rrB10 BK305.out) hb); have n4_ := zA (IsS81.below (by repeat (first|(with_reducible first|exact HI309.out|apply IsS81.alloc|apply IsS81.drewN|apply IsS81.drew|apply IsS81.set_1|apply IsS81.set_2|refine IsS81.far ?_ NB309_304.out _|refine IsS81.far ?_ NB309_305.out _)|exact HI309.out)) hb); have n5_ := zA (below_step (by repeat (first|(with_reducible first|exact HB.out|apply zF|apply zH|apply zG|refine zE ?_ (IsS81.ge HI309.out)|refine zE ?_ GE304.out|refine zE ?_ GE305.out)|exact HB.out)) hb); have n6_ := zA (hbox); have n7_ := zA ((by rw [hg]; exact (below_size (by repeat (first|(with_reducible first|exact HB.out|apply zF|apply zH|apply zG|refine zE ?_ (IsS81.ge HI309.out)|refine zE ?_ GE304.out|refine zE ?_ GE305.out)|exact HB.out))) : w.heap.size ≤ gb321)); have n8_ := zA ((by rw [hg]; exact (below_size (by repeat (first|(with_reducible first|exact HB.out|apply zF|apply zH|apply zG|refine zE ?_ (IsS81.ge HI309.out)|refine zE ?_ GE304.out|refine zE ?_ GE305.out)|exact HB.out))) : w.heap.size ≤ gb321)); have n9_ := zA ((by rw [hg]; exact Nat.ne_of_lt (blk_lt (g := gb304) (o := .cells #[.int .i64 0,.int .i64 0,.slice none 0 0,.int .i64 0,.slice none 0 0] 26 (0,0)) (rrB10 BK304.out)) : gb304 ≠ gb321)); have n10_ := zA ((by rw [hg]; exact Nat.ne_of_gt (blk_lt (g := gb304) (o := .cells #[.int .i64 0,.int .i64 0,.slice none 0 0,.int .i64 0,.slice none 0 0] 26 (0,0)) (rrB10 BK304.out)) : gb321 ≠ gb304)); have n11_ := zA ((by rw [hg]; exact Nat.ne_of_lt (blk_lt (g := gb305) (o := .cells #[.int .i64 0,.int .i64 0,.string (⟨#[]⟩ : ByteArray)] 36 (0,0)) (rrB10 BK305.out)) : gb305 ≠ gb321)); have n12_ := zA ((by rw [hg]; exact Nat.ne_of_gt (blk_lt (g := gb305) (o := .cells #[.int .i64 0,.int .i64 0,.string (⟨#[]⟩ : ByteArray)] 36 (0,0)) (rrB10 BK305.out)) : gb321 ≠ gb305)); have n13_ := zA ((by rw [hg]; exact Nat.ne_of_lt (IsS81.lt (show IsS81 w _ g309 t306 t319 t320 from by repeat (first|(with_reducible first|exact HI309.out|apply IsS81.alloc|apply IsS81.drewN|apply IsS81.drew|apply IsS81.set_1|apply IsS81.set_2|refine IsS81.far ?_ NB309_304.out _|refine IsS81.far ?_ NB309_305.out _)|exact HI309.out))) : g309 ≠ gb321)); have n14_ := zA ((by rw [hg]; exact Nat.ne_of_gt (IsS81.lt (show IsS81 w _ g309 t306 t319 t320 from by repeat (first|(with_reducible first|exact HI309.out|apply IsS81.alloc|apply IsS81.drewN|apply IsS81.drew|apply IsS81.set_1|apply IsS81.set_2|refine IsS81.far ?_ NB309_304.out _|refine IsS81.far ?_ NB309_305.out _)|exact HI309.out))) : gb321 ≠ g309)); clear HO314 HO318 BK304 BK305 HI309 HB; have HO314 := n0_; have HO318 := n1_; have BK304 := n2_; have BK305 := n3_; have HI309 := n4_; have HB := n5_; have BK321 := n6_; have GW321 := n7_; have GE321 := n8_; have NB304_321 := n9_; have NB321_304 := n10_; have NB305_321 := n11_; have NB321_305 := n12_; have NB309_321 := n13_; have NB321_309 := n14_; clear n0_ n1_ n2_ n3_ n4_ n5_ n6_ n7_ n8_ n9_ n10_ n11_ n12_ n13_ n14_ hb hbox hg; have hnb14 := NB321_304.out; have hnc14 := NB304_321.out; have hnb15 := NB321_305.out; have hnc15 := NB305_321.out; have hnb16 := NB321_309.out; have hnc16 := NB309_321.out; have hcz17_0 : w13.cell? ⟨gb321,0,none⟩ = some (.int .i64 0) := (zN BK321.out 0).trans rfl; have hcz17_1 : w13.cell? ⟨gb321,1,none⟩ = some (.int .i64 0) := (zN BK321.out 1).trans rfl; have hcz17_2 : w13.cell? ⟨gb321,2,none⟩ = some (.slice none 0 0) := (zN BK321.out 2).trans rfl; have hcz17_3 : w13.cell? ⟨gb321,3,none⟩ = some (.int .i64 0) := (zN BK321.out 3).trans rfl; have hcz17_4 : w13.cell? ⟨gb321,4,none⟩ = some (.slice none 0 0) := (zN BK321.out 4).trans rfl; have hfz17_0 := zL BK321.out 0; have hfz17_1 := zL BK321.out 1; have hfz17_2 := zL BK321.out 2; have hfz17_3 := zL BK321.out 3; have hfz17_4 := zL BK321.out 4; obtain ⟨Ao18,co18,eo18⟩ := Kd.R_slice HO314.out; subst eo18; obtain ⟨Ao19,co19,eo19⟩ := Kd.R_slice HO318.out; subst eo19))
  have n0_ : Aside0 (Kd.R Kd.string 9 (((((w13.setCell ⟨gb321,0,none⟩ (.int .i64 t310)).setCell ⟨gb321,1,none⟩ (.int .i64 t311)).setCell ⟨gb321,2,none⟩ (.slice Ao18 t312.length co18)).setCell ⟨gb321,3,none⟩ (.int .i64 t315)).setCell ⟨gb321,4,none⟩ (.slice Ao19 t316.length co19)) w.heap.size (fun k_ => some k_ ≠ (.slice Ao19 t316.length co19 : Value).ownBlock) (.slice Ao18 t312.length co18) t312) := ⟨by (with_reducible repeat (first|apply Kd.R_alloc|apply Kd.R_drewN|apply Kd.R_drew)); exact zC (zB (p := ⟨gb321,4,none⟩) (zB (p := ⟨gb321,3,none⟩) (zB (p := ⟨gb321,2,none⟩) (zB (p := ⟨gb321,1,none⟩) (zB (p := ⟨gb321,0,none⟩) (Kd.R_types HO314.out BK321.out (by decide)) (fun _ h=>h.2) (.int .i64 t310)) (fun _ h=>h.2) (.int .i64 t311)) (fun _ h=>h.2) (.slice Ao18 t312.length co18)) (fun _ h=>h.2) (.int .i64 t315)) (fun _ h=>h.2) (.slice Ao19 t316.length co19)) (fun _ hk => hk.1)⟩
  have n1_ : Aside0 (Kd.R Kd.string 9 (((((w13.setCell ⟨gb321,0,none⟩ (.int .i64 t310)).setCell ⟨gb321,1,none⟩ (.int .i64 t311)).setCell ⟨gb321,2,none⟩ (.slice Ao18 t312.length co18)).setCell ⟨gb321,3,none⟩ (.int .i64 t315)).setCell ⟨gb321,4,none⟩ (.slice Ao19 t316.length co19)) w.heap.size (fun k_ => some k_ ≠ (.slice Ao18 t312.length co18 : Value).ownBlock) (.slice Ao19 t316.length co19) t316) := ⟨by (with_reducible repeat (first|apply Kd.R_alloc|apply Kd.R_drewN|apply Kd.R_drew)); exact zC (zB (p := ⟨gb321,4,none⟩) (zB (p := ⟨gb321,3,none⟩) (zB (p := ⟨gb321,2,none⟩) (zB (p := ⟨gb321,1,none⟩) (zB (p := ⟨gb321,0,none⟩) (Kd.R_types HO318.out BK321.out (by decide)) (fun _ h=>h.2) (.int .i64 t310)) (fun _ h=>h.2) (.int .i64 t311)) (fun _ h=>h.2) (.slice Ao18 t312.length co18)) (fun _ h=>h.2) (.int .i64 t315)) (fun _ h=>h.2) (.slice Ao19 t316.length co19)) (fun _ hk => hk.1)⟩
  have n2_ : Aside0 ((((((w13.setCell ⟨gb321,0,none⟩ (.int .i64 t310)).setCell ⟨gb321,1,none⟩ (.int .i64 t311)).setCell ⟨gb321,2,none⟩ (.slice Ao18 t312.length co18)).setCell ⟨gb321,3,none⟩ (.int .i64 t315)).setCell ⟨gb321,4,none⟩ (.slice Ao19 t316.length co19)).heap[gb304]? = some (.cells #[.int .i64 0,.int .i64 0,.slice none 0 0,.int .i64 0,.slice none 0 0] 26 (0,0))) := ⟨by (with_reducible repeat (first|refine zI ?_ _|refine zK ?_|refine zJ ?_ _)); refine zO ?_ NB304_321.out _; (with_reducible repeat (first|refine zI ?_ _|refine zK ?_|refine zJ ?_ _)); refine zO ?_ NB304_321.out _; (with_reducible repeat (first|refine zI ?_ _|refine zK ?_|refine zJ ?_ _)); refine zO ?_ NB304_321.out _; (with_reducible repeat (first|refine zI ?_ _|refine zK ?_|refine zJ ?_ _)); refine zO ?_ NB304_321.out _; (with_reducible repeat (first|refine zI ?_ _|refine zK ?_|refine zJ ?_ _)); refine zO ?_ NB304_321.out _; (with_reducible repeat (first|refine zI ?_ _|refine zK ?_|refine zJ ?_ _)); exact BK304.out⟩
  have n3_ : Aside0 ((((((w13.setCell ⟨gb321,0,none⟩ (.int .i64 t310)).setCell ⟨gb321,1,none⟩ (.int .i64 t311)).setCell ⟨gb321,2,none⟩ (.slice Ao18 t312.length co18)).setCell ⟨gb321,3,none⟩ (.int .i64 t315)).setCell ⟨gb321,4,none⟩ (.slice Ao19 t316.length co19)).heap[gb305]? = some (.cells #[.int .i64 0,.int .i64 0,.string (⟨#[]⟩ : ByteArray)] 36 (0,0))) := ⟨by (with_reducible repeat (first|refine zI ?_ _|refine zK ?_|refine zJ ?_ _)); refine zO ?_ NB305_321.out _; (with_reducible repeat (first|refine zI ?_ _|refine zK ?_|refine zJ ?_ _)); refine zO ?_ NB305_321.out _; (with_reducible repeat (first|refine zI ?_ _|refine zK ?_|refine zJ ?_ _)); refine zO ?_ NB305_321.out _; (with_reducible repeat (first|refine zI ?_ _|refine zK ?_|refine zJ ?_ _)); refine zO ?_ NB305_321.out _; (with_reducible repeat (first|refine zI ?_ _|refine zK ?_|refine zJ ?_ _)); refine zO ?_ NB305_321.out _; (with_reducible repeat (first|refine zI ?_ _|refine zK ?_|refine zJ ?_ _)); exact BK305.out⟩
  have n4_ : Aside0 ((((((w13.setCell ⟨gb321,0,none⟩ (.int .i64 t310)).setCell ⟨gb321,1,none⟩ (.int .i64 t311)).setCell ⟨gb321,2,none⟩ (.slice Ao18 t312.length co18)).setCell ⟨gb321,3,none⟩ (.int .i64 t315)).setCell ⟨gb321,4,none⟩ (.slice Ao19 t316.length co19)).heap[gb321]? = some (.cells #[.int .i64 t310,.int .i64 t311,.slice Ao18 t312.length co18,.int .i64 t315,.slice Ao19 t316.length co19] 26 (0,0))) := ⟨by (with_reducible repeat (first|refine zI ?_ _|refine zK ?_|refine zJ ?_ _)); refine blk_put (cs := #[.int .i64 t310,.int .i64 t311,.slice Ao18 t312.length co18,.int .i64 t315,.slice none 0 0]) ?_ 4 _ rfl; (with_reducible repeat (first|refine zI ?_ _|refine zK ?_|refine zJ ?_ _)); refine blk_put (cs := #[.int .i64 t310,.int .i64 t311,.slice Ao18 t312.length co18,.int .i64 0,.slice none 0 0]) ?_ 3 _ rfl; (with_reducible repeat (first|refine zI ?_ _|refine zK ?_|refine zJ ?_ _)); refine blk_put (cs := #[.int .i64 t310,.int .i64 t311,.slice none 0 0,.int .i64 0,.slice none 0 0]) ?_ 2 _ rfl; (with_reducible repeat (first|refine zI ?_ _|refine zK ?_|refine zJ ?_ _)); refine blk_put (cs := #[.int .i64 t310,.int .i64 0,.slice none 0 0,.int .i64 0,.slice none 0 0]) ?_ 1 _ rfl; (with_reducible repeat (first|refine zI ?_ _|refine zK ?_|refine zJ ?_ _)); refine blk_put (cs := #[.int .i64 0,.int .i64 0,.slice none 0 0,.int .i64 0,.slice none 0 0]) ?_ 0 _ rfl; (with_reducible repeat (first|refine zI ?_ _|refine zK ?_|refine zJ ?_ _)); exact BK321.out⟩
  have n5_ : Aside0 (IsS81 w (((((w13.setCell ⟨gb321,0,none⟩ (.int .i64 t310)).setCell ⟨gb321,1,none⟩ (.int .i64 t311)).setCell ⟨gb321,2,none⟩ (.slice Ao18 t312.length co18)).setCell ⟨gb321,3,none⟩ (.int .i64 t315)).setCell ⟨gb321,4,none⟩ (.slice Ao19 t316.length co19)) g309 t306 t319 t320) := ⟨by repeat (first|(with_reducible first|exact HI309.out|apply IsS81.alloc|apply IsS81.drewN|apply IsS81.drew|apply IsS81.set_1|apply IsS81.set_2|refine IsS81.far ?_ NB309_304.out _|refine IsS81.far ?_ NB309_305.out _|refine IsS81.far ?_ NB309_321.out _)|exact HI309.out)⟩
  have n6_ : Aside0 (Below w.heap.size w (((((w13.setCell ⟨gb321,0,none⟩ (.int .i64 t310)).setCell ⟨gb321,1,none⟩ (.int .i64 t311)).setCell ⟨gb321,2,none⟩ (.slice Ao18 t312.length co18)).setCell ⟨gb321,3,none⟩ (.int .i64 t315)).setCell ⟨gb321,4,none⟩ (.slice Ao19 t316.length co19))) := ⟨by repeat (first|(with_reducible first|exact HB.out|apply zF|apply zH|apply zG|refine zE ?_ (IsS81.ge HI309.out)|refine zE ?_ GE304.out|refine zE ?_ GE305.out|refine zE ?_ GE321.out)|exact HB.out)⟩
  (try clear HO314)
  (try clear HO318)
  (try clear BK304)
  (try clear BK305)
  (try clear BK321)
  (try clear HI309)
  (try clear HB)
  generalize (((((w13.setCell ⟨gb321,0,none⟩ (.int .i64 t310)).setCell ⟨gb321,1,none⟩ (.int .i64 t311)).setCell ⟨gb321,2,none⟩ (.slice Ao18 t312.length co18)).setCell ⟨gb321,3,none⟩ (.int .i64 t315)).setCell ⟨gb321,4,none⟩ (.slice Ao19 t316.length co19)) = w20 at n0_ n1_ n2_ n3_ n4_ n5_ n6_ ⊢
  have HO314 := n0_
  have HO318 := n1_
  have BK304 := n2_
  have BK305 := n3_
  have BK321 := n4_
  have HI309 := n5_
  have HB := n6_
  clear n0_ n1_ n2_ n3_ n4_ n5_ n6_
  have n0_ := zA (Kd.R_drew HO314.out)
  have n1_ := zA (Kd.R_drew HO318.out)
  have n2_ := zA (zK BK304.out)
  have n3_ := zA (zK BK305.out)
  have n4_ := zA (zK BK321.out)
  have n5_ := zA (IsS81.drew HI309.out)
  have n6_ := zA (zG HB.out)
  clear HO314 HO318 BK304 BK305 BK321 HI309 HB
  have HO314 := n0_
  have HO318 := n1_
  have BK304 := n2_
  have BK305 := n3_
  have BK321 := n4_
  have HI309 := n5_
  have HB := n6_
  clear n0_ n1_ n2_ n3_ n4_ n5_ n6_
  refine start_ (n := 15) (S := fun w' => w'.cell? ⟨gb321,0,none⟩ = some (.int .i64 t310) ∧ w'.cell? ⟨gb321,1,none⟩ = some (.int .i64 t311) ∧ w'.cell? ⟨gb321,2,none⟩ = some (.slice Ao18 t312.length co18) ∧ w'.cell? ⟨gb321,3,none⟩ = some (.int .i64 t315) ∧ w'.cell? ⟨gb321,4,none⟩ = some (.slice Ao19 t316.length co19)) (ds := []) #[false,false,false,false,false,false,false,false,false,false,false,false,false,false,false] (by kernel_rfl) rfl rfl ⟨(zN BK321.out 0).trans rfl,(zN BK321.out 1).trans rfl,(zN BK321.out 2).trans rfl,(zN BK321.out 3).trans rfl,(zN BK321.out 4).trans rfl⟩ (fun hHeld => ?_); refine with_tabW spec_DrawReceive.tab3 spec_DrawReceive.bits3 (fun HT_ HW_ => ?_)
  generalize w20.drew = w21 at HO314 HO318 BK304 BK305 BK321 HI309 HB hHeld ⊢
  refine pure_ (i := 0) (N := some 11) (v := ?_) (a' := ?_) #[true,false,false,false,false,false,false,false,false,false,false,false,false,false,false] rfl rfl (any_of HT_.out (by kernel_rfl)) (fun _ _ _ h => h) (Or.inl ⟨by rfl,?_⟩) ?_ ?_; rotate_left
  · intro w'; go_simp; with_reducible rfl
  rotate_left
  · simp only [Act.put,List.setIfInBounds_toArray,List.set_cons_zero,List.set_cons_succ,i64_w,i32_w]; rfl
  refine pure_ (i := 2) (N := some 13) (v := ?_) (a' := ?_) #[true,false,true,false,false,false,false,false,false,false,false,false,false,false,false] rfl rfl (any_of HT_.out (by kernel_rfl)) (fun _ _ _ h => h) (Or.inl ⟨by rfl,?_⟩) ?_ ?_; rotate_left
  · intro w'; go_simp; with_reducible rfl
  rotate_left
  · simp only [Act.put,List.setIfInBounds_toArray,List.set_cons_zero,List.set_cons_succ,i64_w,i32_w]; rfl
  refine pure_ (i := 5) (N := some 16) (v := ?_) (a' := ?_) #[true,false,true,false,false,true,false,false,false,false,false,false,false,false,false] rfl rfl (any_of HT_.out (by kernel_rfl)) (fun _ _ _ h => h) (Or.inl ⟨by rfl,?_⟩) ?_ ?_; rotate_left
  · intro w'; go_simp; with_reducible rfl
  rotate_left
  · simp only [Act.put,List.setIfInBounds_toArray,List.set_cons_zero,List.set_cons_succ,i64_w,i32_w]; rfl
  refine pure_ (i := 7) (N := some 18) (v := ?_) (a' := ?_) #[true,false,true,false,false,true,false,true,false,false,false,false,false,false,false] rfl rfl (any_of HT_.out (by kernel_rfl)) (fun _ _ _ h => h) (Or.inl ⟨by rfl,?_⟩) ?_ ?_; rotate_left
  · intro w'; go_simp; with_reducible rfl
  rotate_left
  · simp only [Act.put,List.setIfInBounds_toArray,List.set_cons_zero,List.set_cons_succ,i64_w,i32_w]; rfl
  refine pure_ (i := 10) (N := some 21) (v := ?_) (a' := ?_) #[true,false,true,false,false,true,false,true,false,false,true,false,false,false,false] rfl rfl (any_of HT_.out (by kernel_rfl)) (fun _ _ _ h => h) (Or.inl ⟨by rfl,?_⟩) ?_ ?_; rotate_left
  · intro w'; go_simp; with_reducible rfl
  rotate_left
  · simp only [Act.put,List.setIfInBounds_toArray,List.set_cons_zero,List.set_cons_succ,i64_w,i32_w]; rfl
  refine take_ (i := 1) (N := some 12) (v := ?_) (a' := ?_) #[true,true,true,false,false,true,false,true,false,false,true,false,false,false,false] rfl rfl (take_ofW HT_.out HW_.out (by kernel_rfl)) (fun _ _ _ h => h) (Or.inl ⟨by rfl,?_⟩) hHeld ?_ ?_; rotate_left
  ·
   rintro w' ⟨s0,s1,s2,s3,s4⟩
   go_simp; with_reducible rfl
  rotate_left
  · simp only [Act.put,List.setIfInBounds_toArray,List.set_cons_zero,List.set_cons_succ,i64_w,i32_w]; rfl
  refine take_ (i := 6) (N := some 17) (v := ?_) (a' := ?_) #[true,true,true,false,false,true,true,true,false,false,true,false,false,false,false] rfl rfl (take_ofW HT_.out HW_.out (by kernel_rfl)) (fun _ _ _ h => h) (Or.inl ⟨by rfl,?_⟩) hHeld ?_ ?_; rotate_left
  ·
   rintro w' ⟨s0,s1,s2,s3,s4⟩
   go_simp; with_reducible rfl
  rotate_left
  · simp only [Act.put,List.setIfInBounds_toArray,List.set_cons_zero,List.set_cons_succ,i64_w,i32_w]; rfl
  refine join_ (σ := Nat) 1 #[true,true,true,true,true,true,true,true,true,true,true,true,true,true,false] (fun s_ => [(14,.int .i64 t322),(19,.int .i64 t325),(22,.string t328),(6,.pointer (some ⟨s_,0,none⟩)),(15,.int .i64 (wrap64 (t315 + t322))),(20,.int .i64 (wrap64 (t311 + t325))),(23,.agg #[.int .i64 (wrap64 (t315 + t322)),.int .i64 (wrap64 (t311 + t325)),.string t328])]) (fun s_ w' => (w'.cell? ⟨gb321,0,none⟩ = some (.int .i64 t310) ∧ w'.cell? ⟨gb321,1,none⟩ = some (.int .i64 t311) ∧ w'.cell? ⟨gb321,2,none⟩ = some (.slice Ao18 t312.length co18) ∧ w'.cell? ⟨gb321,3,none⟩ = some (.int .i64 t315) ∧ w'.cell? ⟨gb321,4,none⟩ = some (.slice Ao19 t316.length co19)) ∧ (Kd.R Kd.string 9 w' w.heap.size (fun k_ => some k_ ≠ (.slice Ao19 t316.length co19 : Value).ownBlock) (.slice Ao18 t312.length co18) t312) ∧ (Kd.R Kd.string 9 w' w.heap.size (fun k_ => some k_ ≠ (.slice Ao18 t312.length co18 : Value).ownBlock) (.slice Ao19 t316.length co19) t316) ∧ (w'.heap[gb304]? = some (.cells #[.int .i64 0,.int .i64 0,.slice none 0 0,.int .i64 0,.slice none 0 0] 26 (0,0))) ∧ (w'.heap[gb305]? = some (.cells #[.int .i64 0,.int .i64 0,.string (⟨#[]⟩ : ByteArray)] 36 (0,0))) ∧ (w'.heap[gb321]? = some (.cells #[.int .i64 t310,.int .i64 t311,.slice Ao18 t312.length co18,.int .i64 t315,.slice Ao19 t316.length co19] 26 (0,0))) ∧ (w'.heap[s_]? = some (.cells #[.int .i64 0,.int .i64 0,.string (⟨#[]⟩ : ByteArray)] 36 (0,0))) ∧ (w.heap.size ≤ s_) ∧ (w.heap.size ≤ s_) ∧ (g309 ≠ s_) ∧ (s_ ≠ g309) ∧ (gb304 ≠ s_) ∧ (s_ ≠ gb304) ∧ (gb305 ≠ s_) ∧ (s_ ≠ gb305) ∧ (gb321 ≠ s_) ∧ (s_ ≠ gb321) ∧ (IsS81 w w' g309 t306 t329 t330) ∧ (Below w.heap.size w w')) ?_ ?_
  rotate_left
  ·
   intro hCont
   refine two_ (i := 3) (j := 13) (Ni := some 14) (Nj := some 6) #[true,true,true,true,false,true,true,true,false,false,true,false,false,false,false] #[true,true,true,false,false,true,true,true,false,false,true,false,false,true,false] rfl rfl rfl rfl (two_of HT_.out (by kernel_rfl)) (by decide) (by decide) (fun K hK => ?_) (fun K hK => ?_)
   ·
    skip
    refine goes_ Try.func49 (by kernel_rfl) rfl #[.pointer (some ⟨g309,0,none⟩),.int .i64 3] (by rfl) rfl rfl (by (try simp only [List.map_toArray,List.map_cons,List.map_nil]); first | done|rfl|(simp only [List.length_drop,List.length_take]; rfl)) ?_
    with_reducible refine (spec_l01Below.calls g309 t306 t319 t320 3 t322 t323 t324 w _ ?side1 ?side2 A4.out).mono ?_
    (case side1 => repeat (first|(with_reducible first|exact HI309.out|apply IsS81.alloc|apply IsS81.drewN|apply IsS81.drew|apply IsS81.set_1|apply IsS81.set_2|refine IsS81.far ?_ NB309_304.out _|refine IsS81.far ?_ NB309_305.out _|refine IsS81.far ?_ NB309_321.out _)|exact HI309.out))
    (case side2 => repeat (first|(with_reducible first|exact HB.out|apply zF|apply zH|apply zG|refine zE ?_ (IsS81.ge HI309.out)|refine zE ?_ GE304.out|refine zE ?_ GE305.out|refine zE ?_ GE321.out)|exact HB.out))
    rintro e w22 ⟨rfl,hi,hb,hk⟩
    refine ⟨_,rfl,?_⟩
    have n0_ := zA (KeepBut.blk hk (g' := gb304) (o := .cells #[.int .i64 0,.int .i64 0,.slice none 0 0,.int .i64 0,.slice none 0 0] 26 (0,0)) (rrB10 BK304.out) NB304_309.out (by simp))
    have n1_ := zA (KeepBut.blk hk (g' := gb305) (o := .cells #[.int .i64 0,.int .i64 0,.string (⟨#[]⟩ : ByteArray)] 36 (0,0)) (rrB10 BK305.out) NB305_309.out (by simp))
    have n2_ := zA (zC (Kd.R_keep (IsS81.apart (show IsS81 w _ g309 t306 t319 t320 from by repeat (first|(with_reducible first|exact HI309.out|apply IsS81.alloc|apply IsS81.drewN|apply IsS81.drew|apply IsS81.set_1|apply IsS81.set_2|refine IsS81.far ?_ NB309_304.out _|refine IsS81.far ?_ NB309_305.out _|refine IsS81.far ?_ NB309_321.out _)|exact HI309.out)) (rrA10 HO314.out) (by decide)) hk (fun _ h => h.2)) (fun _ h => h.1))
    have n3_ := zA (zC (Kd.R_keep (IsS81.apart (show IsS81 w _ g309 t306 t319 t320 from by repeat (first|(with_reducible first|exact HI309.out|apply IsS81.alloc|apply IsS81.drewN|apply IsS81.drew|apply IsS81.set_1|apply IsS81.set_2|refine IsS81.far ?_ NB309_304.out _|refine IsS81.far ?_ NB309_305.out _|refine IsS81.far ?_ NB309_321.out _)|exact HI309.out)) (rrA10 HO318.out) (by decide)) hk (fun _ h => h.2)) (fun _ h => h.1))
    have n4_ := zA (KeepBut.blk hk (g' := gb321) (o := .cells #[.int .i64 t310,.int .i64 t311,.slice Ao18 t312.length co18,.int .i64 t315,.slice Ao19 t316.length co19] 26 (0,0)) (rrB10 BK321.out) NB321_309.out (by simp))
    have n5_ := zA (hb)
    have n6_ := zA (hi)
    clear BK304 BK305 HO314 HO318 BK321 HB HI309
    have BK304 := n0_
    have BK305 := n1_
    have HO314 := n2_
    have HO318 := n3_
    have BK321 := n4_
    have HB := n5_
    have HI309 := n6_
    clear n0_ n1_ n2_ n3_ n4_ n5_ n6_
    (try clear hb)
    (try clear hb2)
    (try clear hk)
    (try clear hi)
    refine hK.out _ _ ⟨(zN BK321.out 0).trans rfl,(zN BK321.out 1).trans rfl,(zN BK321.out 2).trans rfl,(zN BK321.out 3).trans rfl,(zN BK321.out 4).trans rfl⟩ (fun hHeld => ?_)
    clear hK K
    refine norm_ (a' := ?_) ?_ ?_
    rotate_left
    ·
     show Act.put _ (some 14) _ = _
     simp only [Act.put,List.setIfInBounds_toArray,List.set_cons_zero,List.set_cons_succ,i64_w,i32_w]; rfl
    refine pure_ (i := 4) (N := some 15) (v := ?_) (a' := ?_) #[true,true,true,true,true,true,true,true,false,false,true,false,false,false,false] rfl rfl (any_of HT_.out (by kernel_rfl)) (fun _ _ _ h => h) (Or.inl ⟨by rfl,?_⟩) ?_ ?_; rotate_left
    · intro w'; go_simp; with_reducible rfl
    rotate_left
    · simp only [Act.put,List.setIfInBounds_toArray,List.set_cons_zero,List.set_cons_succ,i64_w,i32_w]; rfl
    refine two_ (i := 8) (j := 13) (Ni := some 19) (Nj := some 6) #[true,true,true,true,true,true,true,true,true,false,true,false,false,false,false] #[true,true,true,true,true,true,true,true,false,false,true,false,false,true,false] rfl rfl rfl rfl (two_of HT_.out (by kernel_rfl)) (by decide) (by decide) (fun K hK => ?_) (fun K hK => ?_)
    ·
     skip
     refine goes_ Try.func49 (by kernel_rfl) rfl #[.pointer (some ⟨g309,0,none⟩),.int .i64 5] (by rfl) rfl rfl (by (try simp only [List.map_toArray,List.map_cons,List.map_nil]); first | done|rfl|(simp only [List.length_drop,List.length_take]; rfl)) ?_
     with_reducible refine (spec_l01Below.calls g309 t306 t323 t324 5 t325 t326 t327 w _ ?side1 ?side2 A5.out).mono ?_
     (case side1 => repeat (first|(with_reducible first|exact HI309.out|apply IsS81.alloc|apply IsS81.drewN|apply IsS81.drew|apply IsS81.set_1|apply IsS81.set_2|refine IsS81.far ?_ NB309_304.out _|refine IsS81.far ?_ NB309_305.out _|refine IsS81.far ?_ NB309_321.out _)|exact HI309.out))
     (case side2 => repeat (first|(with_reducible first|exact HB.out|apply zF|apply zH|apply zG|refine zE ?_ (IsS81.ge HI309.out)|refine zE ?_ GE304.out|refine zE ?_ GE305.out|refine zE ?_ GE321.out)|exact HB.out))
     rintro e w23 ⟨rfl,hi,hb,hk⟩
     refine ⟨_,rfl,?_⟩
     have n0_ := zA (KeepBut.blk hk (g' := gb304) (o := .cells #[.int .i64 0,.int .i64 0,.slice none 0 0,.int .i64 0,.slice none 0 0] 26 (0,0)) (rrB10 BK304.out) NB304_309.out (by simp))
     have n1_ := zA (KeepBut.blk hk (g' := gb305) (o := .cells #[.int .i64 0,.int .i64 0,.string (⟨#[]⟩ : ByteArray)] 36 (0,0)) (rrB10 BK305.out) NB305_309.out (by simp))
     have n2_ := zA (zC (Kd.R_keep (IsS81.apart (show IsS81 w _ g309 t306 t323 t324 from by repeat (first|(with_reducible first|exact HI309.out|apply IsS81.alloc|apply IsS81.drewN|apply IsS81.drew|apply IsS81.set_1|apply IsS81.set_2|refine IsS81.far ?_ NB309_304.out _|refine IsS81.far ?_ NB309_305.out _|refine IsS81.far ?_ NB309_321.out _)|exact HI309.out)) (rrA10 HO314.out) (by decide)) hk (fun _ h => h.2)) (fun _ h => h.1))
     have n3_ := zA (zC (Kd.R_keep (IsS81.apart (show IsS81 w _ g309 t306 t323 t324 from by repeat (first|(with_reducible first|exact HI309.out|apply IsS81.alloc|apply IsS81.drewN|apply IsS81.drew|apply IsS81.set_1|apply IsS81.set_2|refine IsS81.far ?_ NB309_304.out _|refine IsS81.far ?_ NB309_305.out _|refine IsS81.far ?_ NB309_321.out _)|exact HI309.out)) (rrA10 HO318.out) (by decide)) hk (fun _ h => h.2)) (fun _ h => h.1))
     have n4_ := zA (KeepBut.blk hk (g' := gb321) (o := .cells #[.int .i64 t310,.int .i64 t311,.slice Ao18 t312.length co18,.int .i64 t315,.slice Ao19 t316.length co19] 26 (0,0)) (rrB10 BK321.out) NB321_309.out (by simp))
     have n5_ := zA (hb)
     have n6_ := zA (hi)
     clear BK304 BK305 HO314 HO318 BK321 HB HI309
     have BK304 := n0_
     have BK305 := n1_
     have HO314 := n2_
     have HO318 := n3_
     have BK321 := n4_
     have HB := n5_
     have HI309 := n6_
     clear n0_ n1_ n2_ n3_ n4_ n5_ n6_
     (try clear hb)
     (try clear hb2)
     (try clear hk)
     (try clear hi)
     refine hK.out _ _ ⟨(zN BK321.out 0).trans rfl,(zN BK321.out 1).trans rfl,(zN BK321.out 2).trans rfl,(zN BK321.out 3).trans rfl,(zN BK321.out 4).trans rfl⟩ (fun hHeld => ?_)
     clear hK K
     refine norm_ (a' := ?_) ?_ ?_
     rotate_left
     ·
      show Act.put _ (some 19) _ = _
      simp only [Act.put,List.setIfInBounds_toArray,List.set_cons_zero,List.set_cons_succ,i64_w,i32_w]; rfl
     refine pure_ (i := 9) (N := some 20) (v := ?_) (a' := ?_) #[true,true,true,true,true,true,true,true,true,true,true,false,false,false,false] rfl rfl (any_of HT_.out (by kernel_rfl)) (fun _ _ _ h => h) (Or.inl ⟨by rfl,?_⟩) ?_ ?_; rotate_left
     · intro w'; go_simp; with_reducible rfl
     rotate_left
     · simp only [Act.put,List.setIfInBounds_toArray,List.set_cons_zero,List.set_cons_succ,i64_w,i32_w]; rfl
     refine two_ (i := 11) (j := 13) (Ni := some 22) (Nj := some 6) #[true,true,true,true,true,true,true,true,true,true,true,true,false,false,false] #[true,true,true,true,true,true,true,true,true,true,true,false,false,true,false] rfl rfl rfl rfl (two_of HT_.out (by kernel_rfl)) (by decide) (by decide) (fun K hK => ?_) (fun K hK => ?_)
     ·
      skip
      refine goes_ Try.func50 (by kernel_rfl) rfl #[.pointer (some ⟨g309,0,none⟩)] (by rfl) rfl rfl (by (try simp only [List.map_toArray,List.map_cons,List.map_nil]); first | done|rfl|(simp only [List.length_drop,List.length_take]; rfl)) ?_
      with_reducible refine (spec_l03Name.calls g309 t306 t326 t327 t328 t329 t330 w _ ?side1 ?side2 A6.out).mono ?_
      (case side1 => repeat (first|(with_reducible first|exact HI309.out|apply IsS81.alloc|apply IsS81.drewN|apply IsS81.drew|apply IsS81.set_1|apply IsS81.set_2|refine IsS81.far ?_ NB309_304.out _|refine IsS81.far ?_ NB309_305.out _|refine IsS81.far ?_ NB309_321.out _)|exact HI309.out))
      (case side2 => repeat (first|(with_reducible first|exact HB.out|apply zF|apply zH|apply zG|refine zE ?_ (IsS81.ge HI309.out)|refine zE ?_ GE304.out|refine zE ?_ GE305.out|refine zE ?_ GE321.out)|exact HB.out))
      rintro e w24 ⟨rfl,hi,hb,hk⟩
      refine ⟨_,rfl,?_⟩
      have n0_ := zA (KeepBut.blk hk (g' := gb304) (o := .cells #[.int .i64 0,.int .i64 0,.slice none 0 0,.int .i64 0,.slice none 0 0] 26 (0,0)) (rrB10 BK304.out) NB304_309.out (by simp))
      have n1_ := zA (KeepBut.blk hk (g' := gb305) (o := .cells #[.int .i64 0,.int .i64 0,.string (⟨#[]⟩ : ByteArray)] 36 (0,0)) (rrB10 BK305.out) NB305_309.out (by simp))
      have n2_ := zA (zC (Kd.R_keep (IsS81.apart (show IsS81 w _ g309 t306 t326 t327 from by repeat (first|(with_reducible first|exact HI309.out|apply IsS81.alloc|apply IsS81.drewN|apply IsS81.drew|apply IsS81.set_1|apply IsS81.set_2|refine IsS81.far ?_ NB309_304.out _|refine IsS81.far ?_ NB309_305.out _|refine IsS81.far ?_ NB309_321.out _)|exact HI309.out)) (rrA10 HO314.out) (by decide)) hk (fun _ h => h.2)) (fun _ h => h.1))
      have n3_ := zA (zC (Kd.R_keep (IsS81.apart (show IsS81 w _ g309 t306 t326 t327 from by repeat (first|(with_reducible first|exact HI309.out|apply IsS81.alloc|apply IsS81.drewN|apply IsS81.drew|apply IsS81.set_1|apply IsS81.set_2|refine IsS81.far ?_ NB309_304.out _|refine IsS81.far ?_ NB309_305.out _|refine IsS81.far ?_ NB309_321.out _)|exact HI309.out)) (rrA10 HO318.out) (by decide)) hk (fun _ h => h.2)) (fun _ h => h.1))
      have n4_ := zA (KeepBut.blk hk (g' := gb321) (o := .cells #[.int .i64 t310,.int .i64 t311,.slice Ao18 t312.length co18,.int .i64 t315,.slice Ao19 t316.length co19] 26 (0,0)) (rrB10 BK321.out) NB321_309.out (by simp))
      have n5_ := zA (hb)
      have n6_ := zA (hi)
      clear BK304 BK305 HO314 HO318 BK321 HB HI309
      have BK304 := n0_
      have BK305 := n1_
      have HO314 := n2_
      have HO318 := n3_
      have BK321 := n4_
      have HB := n5_
      have HI309 := n6_
      clear n0_ n1_ n2_ n3_ n4_ n5_ n6_
      (try clear hb)
      (try clear hb2)
      (try clear hk)
      (try clear hi)
      refine hK.out _ _ ⟨(zN BK321.out 0).trans rfl,(zN BK321.out 1).trans rfl,(zN BK321.out 2).trans rfl,(zN BK321.out 3).trans rfl,(zN BK321.out 4).trans rfl⟩ (fun hHeld => ?_)
      clear hK K
      refine norm_ (a' := ?_) ?_ ?_
      rotate_left
      ·
       show Act.put _ (some 22) _ = _
       simp only [Act.put,List.setIfInBounds_toArray,List.set_cons_zero,List.set_cons_succ,i64_w,i32_w]; rfl
      refine pure_ (i := 12) (N := some 23) (v := ?_) (a' := ?_) #[true,true,true,true,true,true,true,true,true,true,true,true,true,false,false] rfl rfl (any_of HT_.out (by kernel_rfl)) (fun _ _ _ h => h) (Or.inl ⟨by rfl,?_⟩) ?_ ?_; rotate_left
      · intro w'; go_simp; with_reducible rfl
      rotate_left
      · simp only [Act.put,List.setIfInBounds_toArray,List.set_cons_zero,List.set_cons_succ,i64_w,i32_w]; rfl
      refine one_ (i := 13) (N := some 6) #[true,true,true,true,true,true,true,true,true,true,true,true,true,true,false] rfl rfl (one_of HT_.out (by kernel_rfl)) (by decide) (fun K hK => ?_)
      refine box_step ?hg (N := 6) ?hd (cs := #[.int .i64 0,.int .i64 0,.string (⟨#[]⟩ : ByteArray)]) (t := 36) ?hr ?_; (case hd => rfl); (case hg => rfl); (case hr => first | (go_simp; done) | (go_simp; rfl))
      intro gb331 hg w25 hbox hb
      have n0_ := zA (zD (rrA10 HO314.out) hb)
      have n1_ := zA (zD (rrA10 HO318.out) hb)
      have n2_ := zA (zM (g := gb304) (o := .cells #[.int .i64 0,.int .i64 0,.slice none 0 0,.int .i64 0,.slice none 0 0] 26 (0,0)) (rrB10 BK304.out) hb)
      have n3_ := zA (zM (g := gb305) (o := .cells #[.int .i64 0,.int .i64 0,.string (⟨#[]⟩ : ByteArray)] 36 (0,0)) (rrB10 BK305.out) hb)
      have n4_ := zA (IsS81.below (by repeat (first|(with_reducible first|exact HI309.out|apply IsS81.alloc|apply IsS81.drewN|apply IsS81.drew|apply IsS81.set_1|apply IsS81.set_2|refine IsS81.far ?_ NB309_304.out _|refine IsS81.far ?_ NB309_305.out _|refine IsS81.far ?_ NB309_321.out _)|exact HI309.out)) hb)
      have n5_ := zA (zM (g := gb321) (o := .cells #[.int .i64 t310,.int .i64 t311,.slice Ao18 t312.length co18,.int .i64 t315,.slice Ao19 t316.length co19] 26 (0,0)) (rrB10 BK321.out) hb)
      have n6_ := zA (below_step (by repeat (first|(with_reducible first|exact HB.out|apply zF|apply zH|apply zG|refine zE ?_ (IsS81.ge HI309.out)|refine zE ?_ GE304.out|refine zE ?_ GE305.out|refine zE ?_ GE321.out)|exact HB.out)) hb)
      have n7_ := zA (hbox)
      have n8_ := zA ((by rw [hg]; exact (below_size (by repeat (first|(with_reducible first|exact HB.out|apply zF|apply zH|apply zG|refine zE ?_ (IsS81.ge HI309.out)|refine zE ?_ GE304.out|refine zE ?_ GE305.out|refine zE ?_ GE321.out)|exact HB.out))) : w.heap.size ≤ gb331))
      have n9_ := zA ((by rw [hg]; exact (below_size (by repeat (first|(with_reducible first|exact HB.out|apply zF|apply zH|apply zG|refine zE ?_ (IsS81.ge HI309.out)|refine zE ?_ GE304.out|refine zE ?_ GE305.out|refine zE ?_ GE321.out)|exact HB.out))) : w.heap.size ≤ gb331))
      have n10_ := zA ((by rw [hg]; exact Nat.ne_of_lt (blk_lt (g := gb304) (o := .cells #[.int .i64 0,.int .i64 0,.slice none 0 0,.int .i64 0,.slice none 0 0] 26 (0,0)) (rrB10 BK304.out)) : gb304 ≠ gb331))
      have n11_ := zA ((by rw [hg]; exact Nat.ne_of_gt (blk_lt (g := gb304) (o := .cells #[.int .i64 0,.int .i64 0,.slice none 0 0,.int .i64 0,.slice none 0 0] 26 (0,0)) (rrB10 BK304.out)) : gb331 ≠ gb304))
      have n12_ := zA ((by rw [hg]; exact Nat.ne_of_lt (blk_lt (g := gb305) (o := .cells #[.int .i64 0,.int .i64 0,.string (⟨#[]⟩ : ByteArray)] 36 (0,0)) (rrB10 BK305.out)) : gb305 ≠ gb331))
      have n13_ := zA ((by rw [hg]; exact Nat.ne_of_gt (blk_lt (g := gb305) (o := .cells #[.int .i64 0,.int .i64 0,.string (⟨#[]⟩ : ByteArray)] 36 (0,0)) (rrB10 BK305.out)) : gb331 ≠ gb305))
      have n14_ := zA ((by rw [hg]; exact Nat.ne_of_lt (blk_lt (g := gb321) (o := .cells #[.int .i64 t310,.int .i64 t311,.slice Ao18 t312.length co18,.int .i64 t315,.slice Ao19 t316.length co19] 26 (0,0)) (rrB10 BK321.out)) : gb321 ≠ gb331))
      have n15_ := zA ((by rw [hg]; exact Nat.ne_of_gt (blk_lt (g := gb321) (o := .cells #[.int .i64 t310,.int .i64 t311,.slice Ao18 t312.length co18,.int .i64 t315,.slice Ao19 t316.length co19] 26 (0,0)) (rrB10 BK321.out)) : gb331 ≠ gb321))
      have n16_ := zA ((by rw [hg]; exact Nat.ne_of_lt (IsS81.lt (show IsS81 w _ g309 t306 t329 t330 from by repeat (first|(with_reducible first|exact HI309.out|apply IsS81.alloc|apply IsS81.drewN|apply IsS81.drew|apply IsS81.set_1|apply IsS81.set_2|refine IsS81.far ?_ NB309_304.out _|refine IsS81.far ?_ NB309_305.out _|refine IsS81.far ?_ NB309_321.out _)|exact HI309.out))) : g309 ≠ gb331))
      have n17_ := zA ((by rw [hg]; exact Nat.ne_of_gt (IsS81.lt (show IsS81 w _ g309 t306 t329 t330 from by repeat (first|(with_reducible first|exact HI309.out|apply IsS81.alloc|apply IsS81.drewN|apply IsS81.drew|apply IsS81.set_1|apply IsS81.set_2|refine IsS81.far ?_ NB309_304.out _|refine IsS81.far ?_ NB309_305.out _|refine IsS81.far ?_ NB309_321.out _)|exact HI309.out))) : gb331 ≠ g309))
      clear HO314 HO318 BK304 BK305 HI309 BK321 HB
      have HO314 := n0_
      have HO318 := n1_
      have BK304 := n2_
      have BK305 := n3_
      have HI309 := n4_
      have BK321 := n5_
      have HB := n6_
      have BK331 := n7_
      have GW331 := n8_
      have GE331 := n9_
      have NB304_331 := n10_
      have NB331_304 := n11_
      have NB305_331 := n12_
      have NB331_305 := n13_
      have NB321_331 := n14_
      have NB331_321 := n15_
      have NB309_331 := n16_
      have NB331_309 := n17_
      clear n0_ n1_ n2_ n3_ n4_ n5_ n6_ n7_ n8_ n9_ n10_ n11_ n12_ n13_ n14_ n15_ n16_ n17_ hb hbox hg
      refine hK.out _ _ ⟨(zN BK321.out 0).trans rfl,(zN BK321.out 1).trans rfl,(zN BK321.out 2).trans rfl,(zN BK321.out 3).trans rfl,(zN BK321.out 4).trans rfl⟩ (fun hHeld => ?_)
      clear hK K
      refine norm_ (a' := ?_) ?_ ?_
      rotate_left
      ·
       show Act.put _ (some 6) _ = _
       simp only [Act.put,List.setIfInBounds_toArray,List.set_cons_zero,List.set_cons_succ,i64_w,i32_w]; rfl
      exact norm_ (by simp only [putAll,Act.put,List.setIfInBounds_toArray,List.set_cons_zero,List.set_cons_succ]) (hCont (gb331) _ ⟨hHeld,(rrA10 HO314.out),(rrA10 HO318.out),(rrB10 BK304.out),(rrB10 BK305.out),(rrB10 BK321.out),(rrB10 BK331.out),GW331.out,GE331.out,NB309_331.out,NB331_309.out,NB304_331.out,NB331_304.out,NB305_331.out,NB331_305.out,NB321_331.out,NB331_321.out,(by repeat (first|(with_reducible first|exact HI309.out|apply IsS81.alloc|apply IsS81.drewN|apply IsS81.drew|apply IsS81.set_1|apply IsS81.set_2|refine IsS81.far ?_ NB309_304.out _|refine IsS81.far ?_ NB309_305.out _|refine IsS81.far ?_ NB309_321.out _|refine IsS81.far ?_ NB309_331.out _)|exact HI309.out)),(by repeat (first|(with_reducible first|exact HB.out|apply zF|apply zH|apply zG|refine zE ?_ (IsS81.ge HI309.out)|refine zE ?_ GE304.out|refine zE ?_ GE305.out|refine zE ?_ GE321.out|refine zE ?_ GE331.out)|exact HB.out))⟩)
     ·
      skip
      refine box_step ?hg (N := 6) ?hd (cs := #[.int .i64 0,.int .i64 0,.string (⟨#[]⟩ : ByteArray)]) (t := 36) ?hr ?_; (case hd => rfl); (case hg => rfl); (case hr => first | (go_simp; done) | (go_simp; rfl))
      intro gb331 hg w24 hbox hb
      have n0_ := zA (zD (rrA10 HO314.out) hb)
      have n1_ := zA (zD (rrA10 HO318.out) hb)
      have n2_ := zA (zM (g := gb304) (o := .cells #[.int .i64 0,.int .i64 0,.slice none 0 0,.int .i64 0,.slice none 0 0] 26 (0,0)) (rrB10 BK304.out) hb)
      have n3_ := zA (zM (g := gb305) (o := .cells #[.int .i64 0,.int .i64 0,.string (⟨#[]⟩ : ByteArray)] 36 (0,0)) (rrB10 BK305.out) hb)
      have n4_ := zA (IsS81.below (by repeat (first|(with_reducible first|exact HI309.out|apply IsS81.alloc|apply IsS81.drewN|apply IsS81.drew|apply IsS81.set_1|apply IsS81.set_2|refine IsS81.far ?_ NB309_304.out _|refine IsS81.far ?_ NB309_305.out _|refine IsS81.far ?_ NB309_321.out _)|exact HI309.out)) hb)
      have n5_ := zA (zM (g := gb321) (o := .cells #[.int .i64 t310,.int .i64 t311,.slice Ao18 t312.length co18,.int .i64 t315,.slice Ao19 t316.length co19] 26 (0,0)) (rrB10 BK321.out) hb)
      have n6_ := zA (below_step (by repeat (first|(with_reducible first|exact HB.out|apply zF|apply zH|apply zG|refine zE ?_ (IsS81.ge HI309.out)|refine zE ?_ GE304.out|refine zE ?_ GE305.out|refine zE ?_ GE321.out)|exact HB.out)) hb)
      have n7_ := zA (hbox)
      have n8_ := zA ((by rw [hg]; exact (below_size (by repeat (first|(with_reducible first|exact HB.out|apply zF|apply zH|apply zG|refine zE ?_ (IsS81.ge HI309.out)|refine zE ?_ GE304.out|refine zE ?_ GE305.out|refine zE ?_ GE321.out)|exact HB.out))) : w.heap.size ≤ gb331))
      have n9_ := zA ((by rw [hg]; exact (below_size (by repeat (first|(with_reducible first|exact HB.out|apply zF|apply zH|apply zG|refine zE ?_ (IsS81.ge HI309.out)|refine zE ?_ GE304.out|refine zE ?_ GE305.out|refine zE ?_ GE321.out)|exact HB.out))) : w.heap.size ≤ gb331))
      have n10_ := zA ((by rw [hg]; exact Nat.ne_of_lt (blk_lt (g := gb304) (o := .cells #[.int .i64 0,.int .i64 0,.slice none 0 0,.int .i64 0,.slice none 0 0] 26 (0,0)) (rrB10 BK304.out)) : gb304 ≠ gb331))
      have n11_ := zA ((by rw [hg]; exact Nat.ne_of_gt (blk_lt (g := gb304) (o := .cells #[.int .i64 0,.int .i64 0,.slice none 0 0,.int .i64 0,.slice none 0 0] 26 (0,0)) (rrB10 BK304.out)) : gb331 ≠ gb304))
      have n12_ := zA ((by rw [hg]; exact Nat.ne_of_lt (blk_lt (g := gb305) (o := .cells #[.int .i64 0,.int .i64 0,.string (⟨#[]⟩ : ByteArray)] 36 (0,0)) (rrB10 BK305.out)) : gb305 ≠ gb331))
      have n13_ := zA ((by rw [hg]; exact Nat.ne_of_gt (blk_lt (g := gb305) (o := .cells #[.int .i64 0,.int .i64 0,.string (⟨#[]⟩ : ByteArray)] 36 (0,0)) (rrB10 BK305.out)) : gb331 ≠ gb305))
      have n14_ := zA ((by rw [hg]; exact Nat.ne_of_lt (blk_lt (g := gb321) (o := .cells #[.int .i64 t310,.int .i64 t311,.slice Ao18 t312.length co18,.int .i64 t315,.slice Ao19 t316.length co19] 26 (0,0)) (rrB10 BK321.out)) : gb321 ≠ gb331))
      have n15_ := zA ((by rw [hg]; exact Nat.ne_of_gt (blk_lt (g := gb321) (o := .cells #[.int .i64 t310,.int .i64 t311,.slice Ao18 t312.length co18,.int .i64 t315,.slice Ao19 t316.length co19] 26 (0,0)) (rrB10 BK321.out)) : gb331 ≠ gb321))
      have n16_ := zA ((by rw [hg]; exact Nat.ne_of_lt (IsS81.lt (show IsS81 w _ g309 t306 t326 t327 from by repeat (first|(with_reducible first|exact HI309.out|apply IsS81.alloc|apply IsS81.drewN|apply IsS81.drew|apply IsS81.set_1|apply IsS81.set_2|refine IsS81.far ?_ NB309_304.out _|refine IsS81.far ?_ NB309_305.out _|refine IsS81.far ?_ NB309_321.out _)|exact HI309.out))) : g309 ≠ gb331))
      have n17_ := zA ((by rw [hg]; exact Nat.ne_of_gt (IsS81.lt (show IsS81 w _ g309 t306 t326 t327 from by repeat (first|(with_reducible first|exact HI309.out|apply IsS81.alloc|apply IsS81.drewN|apply IsS81.drew|apply IsS81.set_1|apply IsS81.set_2|refine IsS81.far ?_ NB309_304.out _|refine IsS81.far ?_ NB309_305.out _|refine IsS81.far ?_ NB309_321.out _)|exact HI309.out))) : gb331 ≠ g309))
      clear HO314 HO318 BK304 BK305 HI309 BK321 HB
      have HO314 := n0_
      have HO318 := n1_
      have BK304 := n2_
      have BK305 := n3_
      have HI309 := n4_
      have BK321 := n5_
      have HB := n6_
      have BK331 := n7_
      have GW331 := n8_
      have GE331 := n9_
      have NB304_331 := n10_
      have NB331_304 := n11_
      have NB305_331 := n12_
      have NB331_305 := n13_
      have NB321_331 := n14_
      have NB331_321 := n15_
      have NB309_331 := n16_
      have NB331_309 := n17_
      clear n0_ n1_ n2_ n3_ n4_ n5_ n6_ n7_ n8_ n9_ n10_ n11_ n12_ n13_ n14_ n15_ n16_ n17_ hb hbox hg
      refine hK.out _ _ ⟨(zN BK321.out 0).trans rfl,(zN BK321.out 1).trans rfl,(zN BK321.out 2).trans rfl,(zN BK321.out 3).trans rfl,(zN BK321.out 4).trans rfl⟩ (fun hHeld => ?_)
      clear hK K
      refine norm_ (a' := ?_) ?_ ?_
      rotate_left
      ·
       show Act.put _ (some 6) _ = _
       simp only [Act.put,List.setIfInBounds_toArray,List.set_cons_zero,List.set_cons_succ,i64_w,i32_w]; rfl
      refine one_ (i := 11) (N := some 22) #[true,true,true,true,true,true,true,true,true,true,true,true,false,true,false] rfl rfl (one_of HT_.out (by kernel_rfl)) (by decide) (fun K hK => ?_)
      refine goes_ Try.func50 (by kernel_rfl) rfl #[.pointer (some ⟨g309,0,none⟩)] (by rfl) rfl rfl (by (try simp only [List.map_toArray,List.map_cons,List.map_nil]); first | done|rfl|(simp only [List.length_drop,List.length_take]; rfl)) ?_
      with_reducible refine (spec_l03Name.calls g309 t306 t326 t327 t328 t329 t330 w _ ?side1 ?side2 A6.out).mono ?_
      (case side1 => repeat (first|(with_reducible first|exact HI309.out|apply IsS81.alloc|apply IsS81.drewN|apply IsS81.drew|apply IsS81.set_1|apply IsS81.set_2|refine IsS81.far ?_ NB309_304.out _|refine IsS81.far ?_ NB309_305.out _|refine IsS81.far ?_ NB309_321.out _|refine IsS81.far ?_ NB309_331.out _)|exact HI309.out))
      (case side2 => repeat (first|(with_reducible first|exact HB.out|apply zF|apply zH|apply zG|refine zE ?_ (IsS81.ge HI309.out)|refine zE ?_ GE304.out|refine zE ?_ GE305.out|refine zE ?_ GE321.out|refine zE ?_ GE331.out)|exact HB.out))
      rintro e w25 ⟨rfl,hi,hb,hk⟩
      refine ⟨_,rfl,?_⟩
      have n0_ := zA (KeepBut.blk hk (g' := gb304) (o := .cells #[.int .i64 0,.int .i64 0,.slice none 0 0,.int .i64 0,.slice none 0 0] 26 (0,0)) (rrB10 BK304.out) NB304_309.out (by simp))
      have n1_ := zA (KeepBut.blk hk (g' := gb305) (o := .cells #[.int .i64 0,.int .i64 0,.string (⟨#[]⟩ : ByteArray)] 36 (0,0)) (rrB10 BK305.out) NB305_309.out (by simp))
      have n2_ := zA (zC (Kd.R_keep (IsS81.apart (show IsS81 w _ g309 t306 t326 t327 from by repeat (first|(with_reducible first|exact HI309.out|apply IsS81.alloc|apply IsS81.drewN|apply IsS81.drew|apply IsS81.set_1|apply IsS81.set_2|refine IsS81.far ?_ NB309_304.out _|refine IsS81.far ?_ NB309_305.out _|refine IsS81.far ?_ NB309_321.out _|refine IsS81.far ?_ NB309_331.out _)|exact HI309.out)) (rrA10 HO314.out) (by decide)) hk (fun _ h => h.2)) (fun _ h => h.1))
      have n3_ := zA (zC (Kd.R_keep (IsS81.apart (show IsS81 w _ g309 t306 t326 t327 from by repeat (first|(with_reducible first|exact HI309.out|apply IsS81.alloc|apply IsS81.drewN|apply IsS81.drew|apply IsS81.set_1|apply IsS81.set_2|refine IsS81.far ?_ NB309_304.out _|refine IsS81.far ?_ NB309_305.out _|refine IsS81.far ?_ NB309_321.out _|refine IsS81.far ?_ NB309_331.out _)|exact HI309.out)) (rrA10 HO318.out) (by decide)) hk (fun _ h => h.2)) (fun _ h => h.1))
      have n4_ := zA (KeepBut.blk hk (g' := gb321) (o := .cells #[.int .i64 t310,.int .i64 t311,.slice Ao18 t312.length co18,.int .i64 t315,.slice Ao19 t316.length co19] 26 (0,0)) (rrB10 BK321.out) NB321_309.out (by simp))
      have n5_ := zA (KeepBut.blk hk (g' := gb331) (o := .cells #[.int .i64 0,.int .i64 0,.string (⟨#[]⟩ : ByteArray)] 36 (0,0)) (rrB10 BK331.out) NB331_309.out (by simp))
      have n6_ := zA (hb)
      have n7_ := zA (hi)
      clear BK304 BK305 HO314 HO318 BK321 BK331 HB HI309
      have BK304 := n0_
      have BK305 := n1_
      have HO314 := n2_
      have HO318 := n3_
      have BK321 := n4_
      have BK331 := n5_
      have HB := n6_
      have HI309 := n7_
      clear n0_ n1_ n2_ n3_ n4_ n5_ n6_ n7_
      (try clear hb)
      (try clear hb2)
      (try clear hk)
      (try clear hi)
      refine hK.out _ _ ⟨(zN BK321.out 0).trans rfl,(zN BK321.out 1).trans rfl,(zN BK321.out 2).trans rfl,(zN BK321.out 3).trans rfl,(zN BK321.out 4).trans rfl⟩ (fun hHeld => ?_)
      clear hK K
      refine norm_ (a' := ?_) ?_ ?_
      rotate_left
      ·
       show Act.put _ (some 22) _ = _
       simp only [Act.put,List.setIfInBounds_toArray,List.set_cons_zero,List.set_cons_succ,i64_w,i32_w]; rfl
      refine pure_ (i := 12) (N := some 23) (v := ?_) (a' := ?_) #[true,true,true,true,true,true,true,true,true,true,true,true,true,true,false] rfl rfl (any_of HT_.out (by kernel_rfl)) (fun _ _ _ h => h) (Or.inl ⟨by rfl,?_⟩) ?_ ?_; rotate_left
      · intro w'; go_simp; with_reducible rfl
      rotate_left
      · simp only [Act.put,List.setIfInBounds_toArray,List.set_cons_zero,List.set_cons_succ,i64_w,i32_w]; rfl
      exact norm_ (by simp only [putAll,Act.put,List.setIfInBounds_toArray,List.set_cons_zero,List.set_cons_succ]) (hCont (gb331) _ ⟨hHeld,(rrA10 HO314.out),(rrA10 HO318.out),(rrB10 BK304.out),(rrB10 BK305.out),(rrB10 BK321.out),(rrB10 BK331.out),GW331.out,GE331.out,NB309_331.out,NB331_309.out,NB304_331.out,NB331_304.out,NB305_331.out,NB331_305.out,NB321_331.out,NB331_321.out,(by repeat (first|(with_reducible first|exact HI309.out|apply IsS81.alloc|apply IsS81.drewN|apply IsS81.drew|apply IsS81.set_1|apply IsS81.set_2|refine IsS81.far ?_ NB309_304.out _|refine IsS81.far ?_ NB309_305.out _|refine IsS81.far ?_ NB309_321.out _|refine IsS81.far ?_ NB309_331.out _)|exact HI309.out)),(by repeat (first|(with_reducible first|exact HB.out|apply zF|apply zH|apply zG|refine zE ?_ (IsS81.ge HI309.out)|refine zE ?_ GE304.out|refine zE ?_ GE305.out|refine zE ?_ GE321.out|refine zE ?_ GE331.out)|exact HB.out))⟩)
    ·
     skip
     refine box_step ?hg (N := 6) ?hd (cs := #[.int .i64 0,.int .i64 0,.string (⟨#[]⟩ : ByteArray)]) (t := 36) ?hr ?_; (case hd => rfl); (case hg => rfl); (case hr => first | (go_simp; done) | (go_simp; rfl))
     intro gb331 hg w23 hbox hb
     have n0_ := zA (zD (rrA10 HO314.out) hb)
     have n1_ := zA (zD (rrA10 HO318.out) hb)
     have n2_ := zA (zM (g := gb304) (o := .cells #[.int .i64 0,.int .i64 0,.slice none 0 0,.int .i64 0,.slice none 0 0] 26 (0,0)) (rrB10 BK304.out) hb)
     have n3_ := zA (zM (g := gb305) (o := .cells #[.int .i64 0,.int .i64 0,.string (⟨#[]⟩ : ByteArray)] 36 (0,0)) (rrB10 BK305.out) hb)
     have n4_ := zA (IsS81.below (by repeat (first|(with_reducible first|exact HI309.out|apply IsS81.alloc|apply IsS81.drewN|apply IsS81.drew|apply IsS81.set_1|apply IsS81.set_2|refine IsS81.far ?_ NB309_304.out _|refine IsS81.far ?_ NB309_305.out _|refine IsS81.far ?_ NB309_321.out _)|exact HI309.out)) hb)
     have n5_ := zA (zM (g := gb321) (o := .cells #[.int .i64 t310,.int .i64 t311,.slice Ao18 t312.length co18,.int .i64 t315,.slice Ao19 t316.length co19] 26 (0,0)) (rrB10 BK321.out) hb)
     have n6_ := zA (below_step (by repeat (first|(with_reducible first|exact HB.out|apply zF|apply zH|apply zG|refine zE ?_ (IsS81.ge HI309.out)|refine zE ?_ GE304.out|refine zE ?_ GE305.out|refine zE ?_ GE321.out)|exact HB.out)) hb)
     have n7_ := zA (hbox)
     have n8_ := zA ((by rw [hg]; exact (below_size (by repeat (first|(with_reducible first|exact HB.out|apply zF|apply zH|apply zG|refine zE ?_ (IsS81.ge HI309.out)|refine zE ?_ GE304.out|refine zE ?_ GE305.out|refine zE ?_ GE321.out)|exact HB.out))) : w.heap.size ≤ gb331))
     have n9_ := zA ((by rw [hg]; exact (below_size (by repeat (first|(with_reducible first|exact HB.out|apply zF|apply zH|apply zG|refine zE ?_ (IsS81.ge HI309.out)|refine zE ?_ GE304.out|refine zE ?_ GE305.out|refine zE ?_ GE321.out)|exact HB.out))) : w.heap.size ≤ gb331))
     have n10_ := zA ((by rw [hg]; exact Nat.ne_of_lt (blk_lt (g := gb304) (o := .cells #[.int .i64 0,.int .i64 0,.slice none 0 0,.int .i64 0,.slice none 0 0] 26 (0,0)) (rrB10 BK304.out)) : gb304 ≠ gb331))
     have n11_ := zA ((by rw [hg]; exact Nat.ne_of_gt (blk_lt (g := gb304) (o := .cells #[.int .i64 0,.int .i64 0,.slice none 0 0,.int .i64 0,.slice none 0 0] 26 (0,0)) (rrB10 BK304.out)) : gb331 ≠ gb304))
     have n12_ := zA ((by rw [hg]; exact Nat.ne_of_lt (blk_lt (g := gb305) (o := .cells #[.int .i64 0,.int .i64 0,.string (⟨#[]⟩ : ByteArray)] 36 (0,0)) (rrB10 BK305.out)) : gb305 ≠ gb331))
     have n13_ := zA ((by rw [hg]; exact Nat.ne_of_gt (blk_lt (g := gb305) (o := .cells #[.int .i64 0,.int .i64 0,.string (⟨#[]⟩ : ByteArray)] 36 (0,0)) (rrB10 BK305.out)) : gb331 ≠ gb305))
     have n14_ := zA ((by rw [hg]; exact Nat.ne_of_lt (blk_lt (g := gb321) (o := .cells #[.int .i64 t310,.int .i64 t311,.slice Ao18 t312.length co18,.int .i64 t315,.slice Ao19 t316.length co19] 26 (0,0)) (rrB10 BK321.out)) : gb321 ≠ gb331))
     have n15_ := zA ((by rw [hg]; exact Nat.ne_of_gt (blk_lt (g := gb321) (o := .cells #[.int .i64 t310,.int .i64 t311,.slice Ao18 t312.length co18,.int .i64 t315,.slice Ao19 t316.length co19] 26 (0,0)) (rrB10 BK321.out)) : gb331 ≠ gb321))
     have n16_ := zA ((by rw [hg]; exact Nat.ne_of_lt (IsS81.lt (show IsS81 w _ g309 t306 t323 t324 from by repeat (first|(with_reducible first|exact HI309.out|apply IsS81.alloc|apply IsS81.drewN|apply IsS81.drew|apply IsS81.set_1|apply IsS81.set_2|refine IsS81.far ?_ NB309_304.out _|refine IsS81.far ?_ NB309_305.out _|refine IsS81.far ?_ NB309_321.out _)|exact HI309.out))) : g309 ≠ gb331))
     have n17_ := zA ((by rw [hg]; exact Nat.ne_of_gt (IsS81.lt (show IsS81 w _ g309 t306 t323 t324 from by repeat (first|(with_reducible first|exact HI309.out|apply IsS81.alloc|apply IsS81.drewN|apply IsS81.drew|apply IsS81.set_1|apply IsS81.set_2|refine IsS81.far ?_ NB309_304.out _|refine IsS81.far ?_ NB309_305.out _|refine IsS81.far ?_ NB309_321.out _)|exact HI309.out))) : gb331 ≠ g309))
     clear HO314 HO318 BK304 BK305 HI309 BK321 HB
     have HO314 := n0_
     have HO318 := n1_
     have BK304 := n2_
     have BK305 := n3_
     have HI309 := n4_
     have BK321 := n5_
     have HB := n6_
     have BK331 := n7_
     have GW331 := n8_
     have GE331 := n9_
     have NB304_331 := n10_
     have NB331_304 := n11_
     have NB305_331 := n12_
     have NB331_305 := n13_
     have NB321_331 := n14_
     have NB331_321 := n15_
     have NB309_331 := n16_
     have NB331_309 := n17_
     clear n0_ n1_ n2_ n3_ n4_ n5_ n6_ n7_ n8_ n9_ n10_ n11_ n12_ n13_ n14_ n15_ n16_ n17_ hb hbox hg
     refine hK.out _ _ ⟨(zN BK321.out 0).trans rfl,(zN BK321.out 1).trans rfl,(zN BK321.out 2).trans rfl,(zN BK321.out 3).trans rfl,(zN BK321.out 4).trans rfl⟩ (fun hHeld => ?_)
     clear hK K
     refine norm_ (a' := ?_) ?_ ?_
     rotate_left
     ·
      show Act.put _ (some 6) _ = _
      simp only [Act.put,List.setIfInBounds_toArray,List.set_cons_zero,List.set_cons_succ,i64_w,i32_w]; rfl
     refine one_ (i := 8) (N := some 19) #[true,true,true,true,true,true,true,true,true,false,true,false,false,true,false] rfl rfl (one_of HT_.out (by kernel_rfl)) (by decide) (fun K hK => ?_)
     refine goes_ Try.func49 (by kernel_rfl) rfl #[.pointer (some ⟨g309,0,none⟩),.int .i64 5] (by rfl) rfl rfl (by (try simp only [List.map_toArray,List.map_cons,List.map_nil]); first | done|rfl|(simp only [List.length_drop,List.length_take]; rfl)) ?_
     with_reducible refine (spec_l01Below.calls g309 t306 t323 t324 5 t325 t326 t327 w _ ?side1 ?side2 A5.out).mono ?_
     (case side1 => repeat (first|(with_reducible first|exact HI309.out|apply IsS81.alloc|apply IsS81.drewN|apply IsS81.drew|apply IsS81.set_1|apply IsS81.set_2|refine IsS81.far ?_ NB309_304.out _|refine IsS81.far ?_ NB309_305.out _|refine IsS81.far ?_ NB309_321.out _|refine IsS81.far ?_ NB309_331.out _)|exact HI309.out))
     (case side2 => repeat (first|(with_reducible first|exact HB.out|apply zF|apply zH|apply zG|refine zE ?_ (IsS81.ge HI309.out)|refine zE ?_ GE304.out|refine zE ?_ GE305.out|refine zE ?_ GE321.out|refine zE ?_ GE331.out)|exact HB.out))
     rintro e w24 ⟨rfl,hi,hb,hk⟩
     refine ⟨_,rfl,?_⟩
     have n0_ := zA (KeepBut.blk hk (g' := gb304) (o := .cells #[.int .i64 0,.int .i64 0,.slice none 0 0,.int .i64 0,.slice none 0 0] 26 (0,0)) (rrB10 BK304.out) NB304_309.out (by simp))
     have n1_ := zA (KeepBut.blk hk (g' := gb305) (o := .cells #[.int .i64 0,.int .i64 0,.string (⟨#[]⟩ : ByteArray)] 36 (0,0)) (rrB10 BK305.out) NB305_309.out (by simp))
     have n2_ := zA (zC (Kd.R_keep (IsS81.apart (show IsS81 w _ g309 t306 t323 t324 from by repeat (first|(with_reducible first|exact HI309.out|apply IsS81.alloc|apply IsS81.drewN|apply IsS81.drew|apply IsS81.set_1|apply IsS81.set_2|refine IsS81.far ?_ NB309_304.out _|refine IsS81.far ?_ NB309_305.out _|refine IsS81.far ?_ NB309_321.out _|refine IsS81.far ?_ NB309_331.out _)|exact HI309.out)) (rrA10 HO314.out) (by decide)) hk (fun _ h => h.2)) (fun _ h => h.1))
     have n3_ := zA (zC (Kd.R_keep (IsS81.apart (show IsS81 w _ g309 t306 t323 t324 from by repeat (first|(with_reducible first|exact HI309.out|apply IsS81.alloc|apply IsS81.drewN|apply IsS81.drew|apply IsS81.set_1|apply IsS81.set_2|refine IsS81.far ?_ NB309_304.out _|refine IsS81.far ?_ NB309_305.out _|refine IsS81.far ?_ NB309_321.out _|refine IsS81.far ?_ NB309_331.out _)|exact HI309.out)) (rrA10 HO318.out) (by decide)) hk (fun _ h => h.2)) (fun _ h => h.1))
     have n4_ := zA (KeepBut.blk hk (g' := gb321) (o := .cells #[.int .i64 t310,.int .i64 t311,.slice Ao18 t312.length co18,.int .i64 t315,.slice Ao19 t316.length co19] 26 (0,0)) (rrB10 BK321.out) NB321_309.out (by simp))
     have n5_ := zA (KeepBut.blk hk (g' := gb331) (o := .cells #[.int .i64 0,.int .i64 0,.string (⟨#[]⟩ : ByteArray)] 36 (0,0)) (rrB10 BK331.out) NB331_309.out (by simp))
     have n6_ := zA (hb)
     have n7_ := zA (hi)
     clear BK304 BK305 HO314 HO318 BK321 BK331 HB HI309
     have BK304 := n0_
     have BK305 := n1_
     have HO314 := n2_
     have HO318 := n3_
     have BK321 := n4_
     have BK331 := n5_
     have HB := n6_
     have HI309 := n7_
     clear n0_ n1_ n2_ n3_ n4_ n5_ n6_ n7_
     (try clear hb)
     (try clear hb2)
     (try clear hk)
     (try clear hi)
     refine hK.out _ _ ⟨(zN BK321.out 0).trans rfl,(zN BK321.out 1).trans rfl,(zN BK321.out 2).trans rfl,(zN BK321.out 3).trans rfl,(zN BK321.out 4).trans rfl⟩ (fun hHeld => ?_)
     clear hK K
     refine norm_ (a' := ?_) ?_ ?_
     rotate_left
     ·
      show Act.put _ (some 19) _ = _
      simp only [Act.put,List.setIfInBounds_toArray,List.set_cons_zero,List.set_cons_succ,i64_w,i32_w]; rfl
     refine pure_ (i := 9) (N := some 20) (v := ?_) (a' := ?_) #[true,true,true,true,true,true,true,true,true,true,true,false,false,true,false] rfl rfl (any_of HT_.out (by kernel_rfl)) (fun _ _ _ h => h) (Or.inl ⟨by rfl,?_⟩) ?_ ?_; rotate_left
     · intro w'; go_simp; with_reducible rfl
     rotate_left
     · simp only [Act.put,List.setIfInBounds_toArray,List.set_cons_zero,List.set_cons_succ,i64_w,i32_w]; rfl
     refine one_ (i := 11) (N := some 22) #[true,true,true,true,true,true,true,true,true,true,true,true,false,true,false] rfl rfl (one_of HT_.out (by kernel_rfl)) (by decide) (fun K hK => ?_)
     refine goes_ Try.func50 (by kernel_rfl) rfl #[.pointer (some ⟨g309,0,none⟩)] (by rfl) rfl rfl (by (try simp only [List.map_toArray,List.map_cons,List.map_nil]); first | done|rfl|(simp only [List.length_drop,List.length_take]; rfl)) ?_
     with_reducible refine (spec_l03Name.calls g309 t306 t326 t327 t328 t329 t330 w _ ?side1 ?side2 A6.out).mono ?_
     (case side1 => repeat (first|(with_reducible first|exact HI309.out|apply IsS81.alloc|apply IsS81.drewN|apply IsS81.drew|apply IsS81.set_1|apply IsS81.set_2|refine IsS81.far ?_ NB309_304.out _|refine IsS81.far ?_ NB309_305.out _|refine IsS81.far ?_ NB309_321.out _|refine IsS81.far ?_ NB309_331.out _)|exact HI309.out))
     (case side2 => repeat (first|(with_reducible first|exact HB.out|apply zF|apply zH|apply zG|refine zE ?_ (IsS81.ge HI309.out)|refine zE ?_ GE304.out|refine zE ?_ GE305.out|refine zE ?_ GE321.out|refine zE ?_ GE331.out)|exact HB.out))
     rintro e w25 ⟨rfl,hi,hb,hk⟩
     refine ⟨_,rfl,?_⟩
     have n0_ := zA (KeepBut.blk hk (g' := gb304) (o := .cells #[.int .i64 0,.int .i64 0,.slice none 0 0,.int .i64 0,.slice none 0 0] 26 (0,0)) (rrB10 BK304.out) NB304_309.out (by simp))
     have n1_ := zA (KeepBut.blk hk (g' := gb305) (o := .cells #[.int .i64 0,.int .i64 0,.string (⟨#[]⟩ : ByteArray)] 36 (0,0)) (rrB10 BK305.out) NB305_309.out (by simp))
     have n2_ := zA (zC (Kd.R_keep (IsS81.apart (show IsS81 w _ g309 t306 t326 t327 from by repeat (first|(with_reducible first|exact HI309.out|apply IsS81.alloc|apply IsS81.drewN|apply IsS81.drew|apply IsS81.set_1|apply IsS81.set_2|refine IsS81.far ?_ NB309_304.out _|refine IsS81.far ?_ NB309_305.out _|refine IsS81.far ?_ NB309_321.out _|refine IsS81.far ?_ NB309_331.out _)|exact HI309.out)) (rrA10 HO314.out) (by decide)) hk (fun _ h => h.2)) (fun _ h => h.1))
     have n3_ := zA (zC (Kd.R_keep (IsS81.apart (show IsS81 w _ g309 t306 t326 t327 from by repeat (first|(with_reducible first|exact HI309.out|apply IsS81.alloc|apply IsS81.drewN|apply IsS81.drew|apply IsS81.set_1|apply IsS81.set_2|refine IsS81.far ?_ NB309_304.out _|refine IsS81.far ?_ NB309_305.out _|refine IsS81.far ?_ NB309_321.out _|refine IsS81.far ?_ NB309_331.out _)|exact HI309.out)) (rrA10 HO318.out) (by decide)) hk (fun _ h => h.2)) (fun _ h => h.1))
     have n4_ := zA (KeepBut.blk hk (g' := gb321) (o := .cells #[.int .i64 t310,.int .i64 t311,.slice Ao18 t312.length co18,.int .i64 t315,.slice Ao19 t316.length co19] 26 (0,0)) (rrB10 BK321.out) NB321_309.out (by simp))
     have n5_ := zA (KeepBut.blk hk (g' := gb331) (o := .cells #[.int .i64 0,.int .i64 0,.string (⟨#[]⟩ : ByteArray)] 36 (0,0)) (rrB10 BK331.out) NB331_309.out (by simp))
     have n6_ := zA (hb)
     have n7_ := zA (hi)
     clear BK304 BK305 HO314 HO318 BK321 BK331 HB HI309
     have BK304 := n0_
     have BK305 := n1_
     have HO314 := n2_
     have HO318 := n3_
     have BK321 := n4_
     have BK331 := n5_
     have HB := n6_
     have HI309 := n7_
     clear n0_ n1_ n2_ n3_ n4_ n5_ n6_ n7_
     (try clear hb)
     (try clear hb2)
     (try clear hk)
     (try clear hi)
     refine hK.out _ _ ⟨(zN BK321.out 0).trans rfl,(zN BK321.out 1).trans rfl,(zN BK321.out 2).trans rfl,(zN BK321.out 3).trans rfl,(zN BK321.out 4).trans rfl⟩ (fun hHeld => ?_)
     clear hK K
     refine norm_ (a' := ?_) ?_ ?_
     rotate_left
     ·
      show Act.put _ (some 22) _ = _
      simp only [Act.put,List.setIfInBounds_toArray,List.set_cons_zero,List.set_cons_succ,i64_w,i32_w]; rfl
     refine pure_ (i := 12) (N := some 23) (v := ?_) (a' := ?_) #[true,true,true,true,true,true,true,true,true,true,true,true,true,true,false] rfl rfl (any_of HT_.out (by kernel_rfl)) (fun _ _ _ h => h) (Or.inl ⟨by rfl,?_⟩) ?_ ?_; rotate_left
     · intro w'; go_simp; with_reducible rfl
     rotate_left
     · simp only [Act.put,List.setIfInBounds_toArray,List.set_cons_zero,List.set_cons_succ,i64_w,i32_w]; rfl
     exact norm_ (by simp only [putAll,Act.put,List.setIfInBounds_toArray,List.set_cons_zero,List.set_cons_succ]) (hCont (gb331) _ ⟨hHeld,(rrA10 HO314.out),(rrA10 HO318.out),(rrB10 BK304.out),(rrB10 BK305.out),(rrB10 BK321.out),(rrB10 BK331.out),GW331.out,GE331.out,NB309_331.out,NB331_309.out,NB304_331.out,NB331_304.out,NB305_331.out,NB331_305.out,NB321_331.out,NB331_321.out,(by repeat (first|(with_reducible first|exact HI309.out|apply IsS81.alloc|apply IsS81.drewN|apply IsS81.drew|apply IsS81.set_1|apply IsS81.set_2|refine IsS81.far ?_ NB309_304.out _|refine IsS81.far ?_ NB309_305.out _|refine IsS81.far ?_ NB309_321.out _|refine IsS81.far ?_ NB309_331.out _)|exact HI309.out)),(by repeat (first|(with_reducible first|exact HB.out|apply zF|apply zH|apply zG|refine zE ?_ (IsS81.ge HI309.out)|refine zE ?_ GE304.out|refine zE ?_ GE305.out|refine zE ?_ GE321.out|refine zE ?_ GE331.out)|exact HB.out))⟩)
   ·
    skip
    refine box_step ?hg (N := 6) ?hd (cs := #[.int .i64 0,.int .i64 0,.string (⟨#[]⟩ : ByteArray)]) (t := 36) ?hr ?_; (case hd => rfl); (case hg => rfl); (case hr => first | (go_simp; done) | (go_simp; rfl))
    intro gb331 hg w22 hbox hb
    have n0_ := zA (zD (rrA10 HO314.out) hb)
    have n1_ := zA (zD (rrA10 HO318.out) hb)
    have n2_ := zA (zM (g := gb304) (o := .cells #[.int .i64 0,.int .i64 0,.slice none 0 0,.int .i64 0,.slice none 0 0] 26 (0,0)) (rrB10 BK304.out) hb)
    have n3_ := zA (zM (g := gb305) (o := .cells #[.int .i64 0,.int .i64 0,.string (⟨#[]⟩ : ByteArray)] 36 (0,0)) (rrB10 BK305.out) hb)
    have n4_ := zA (IsS81.below (by repeat (first|(with_reducible first|exact HI309.out|apply IsS81.alloc|apply IsS81.drewN|apply IsS81.drew|apply IsS81.set_1|apply IsS81.set_2|refine IsS81.far ?_ NB309_304.out _|refine IsS81.far ?_ NB309_305.out _|refine IsS81.far ?_ NB309_321.out _)|exact HI309.out)) hb)
    have n5_ := zA (zM (g := gb321) (o := .cells #[.int .i64 t310,.int .i64 t311,.slice Ao18 t312.length co18,.int .i64 t315,.slice Ao19 t316.length co19] 26 (0,0)) (rrB10 BK321.out) hb)
    have n6_ := zA (below_step (by repeat (first|(with_reducible first|exact HB.out|apply zF|apply zH|apply zG|refine zE ?_ (IsS81.ge HI309.out)|refine zE ?_ GE304.out|refine zE ?_ GE305.out|refine zE ?_ GE321.out)|exact HB.out)) hb)
    have n7_ := zA (hbox)
    have n8_ := zA ((by rw [hg]; exact (below_size (by repeat (first|(with_reducible first|exact HB.out|apply zF|apply zH|apply zG|refine zE ?_ (IsS81.ge HI309.out)|refine zE ?_ GE304.out|refine zE ?_ GE305.out|refine zE ?_ GE321.out)|exact HB.out))) : w.heap.size ≤ gb331))
    have n9_ := zA ((by rw [hg]; exact (below_size (by repeat (first|(with_reducible first|exact HB.out|apply zF|apply zH|apply zG|refine zE ?_ (IsS81.ge HI309.out)|refine zE ?_ GE304.out|refine zE ?_ GE305.out|refine zE ?_ GE321.out)|exact HB.out))) : w.heap.size ≤ gb331))
    have n10_ := zA ((by rw [hg]; exact Nat.ne_of_lt (blk_lt (g := gb304) (o := .cells #[.int .i64 0,.int .i64 0,.slice none 0 0,.int .i64 0,.slice none 0 0] 26 (0,0)) (rrB10 BK304.out)) : gb304 ≠ gb331))
    have n11_ := zA ((by rw [hg]; exact Nat.ne_of_gt (blk_lt (g := gb304) (o := .cells #[.int .i64 0,.int .i64 0,.slice none 0 0,.int .i64 0,.slice none 0 0] 26 (0,0)) (rrB10 BK304.out)) : gb331 ≠ gb304))
    have n12_ := zA ((by rw [hg]; exact Nat.ne_of_lt (blk_lt (g := gb305) (o := .cells #[.int .i64 0,.int .i64 0,.string (⟨#[]⟩ : ByteArray)] 36 (0,0)) (rrB10 BK305.out)) : gb305 ≠ gb331))
    have n13_ := zA ((by rw [hg]; exact Nat.ne_of_gt (blk_lt (g := gb305) (o := .cells #[.int .i64 0,.int .i64 0,.string (⟨#[]⟩ : ByteArray)] 36 (0,0)) (rrB10 BK305.out)) : gb331 ≠ gb305))
    have n14_ := zA ((by rw [hg]; exact Nat.ne_of_lt (blk_lt (g := gb321) (o := .cells #[.int .i64 t310,.int .i64 t311,.slice Ao18 t312.length co18,.int .i64 t315,.slice Ao19 t316.length co19] 26 (0,0)) (rrB10 BK321.out)) : gb321 ≠ gb331))
    have n15_ := zA ((by rw [hg]; exact Nat.ne_of_gt (blk_lt (g := gb321) (o := .cells #[.int .i64 t310,.int .i64 t311,.slice Ao18 t312.length co18,.int .i64 t315,.slice Ao19 t316.length co19] 26 (0,0)) (rrB10 BK321.out)) : gb331 ≠ gb321))
    have n16_ := zA ((by rw [hg]; exact Nat.ne_of_lt (IsS81.lt (show IsS81 w _ g309 t306 t319 t320 from by repeat (first|(with_reducible first|exact HI309.out|apply IsS81.alloc|apply IsS81.drewN|apply IsS81.drew|apply IsS81.set_1|apply IsS81.set_2|refine IsS81.far ?_ NB309_304.out _|refine IsS81.far ?_ NB309_305.out _|refine IsS81.far ?_ NB309_321.out _)|exact HI309.out))) : g309 ≠ gb331))
    have n17_ := zA ((by rw [hg]; exact Nat.ne_of_gt (IsS81.lt (show IsS81 w _ g309 t306 t319 t320 from by repeat (first|(with_reducible first|exact HI309.out|apply IsS81.alloc|apply IsS81.drewN|apply IsS81.drew|apply IsS81.set_1|apply IsS81.set_2|refine IsS81.far ?_ NB309_304.out _|refine IsS81.far ?_ NB309_305.out _|refine IsS81.far ?_ NB309_321.out _)|exact HI309.out))) : gb331 ≠ g309))
    clear HO314 HO318 BK304 BK305 HI309 BK321 HB
    have HO314 := n0_
    have HO318 := n1_
    have BK304 := n2_
    have BK305 := n3_
    have HI309 := n4_
    have BK321 := n5_
    have HB := n6_
    have BK331 := n7_
    have GW331 := n8_
    have GE331 := n9_
    have NB304_331 := n10_
    have NB331_304 := n11_
    have NB305_331 := n12_
    have NB331_305 := n13_
    have NB321_331 := n14_
    have NB331_321 := n15_
    have NB309_331 := n16_
    have NB331_309 := n17_
    clear n0_ n1_ n2_ n3_ n4_ n5_ n6_ n7_ n8_ n9_ n10_ n11_ n12_ n13_ n14_ n15_ n16_ n17_ hb hbox hg
    refine hK.out _ _ ⟨(zN BK321.out 0).trans rfl,(zN BK321.out 1).trans rfl,(zN BK321.out 2).trans rfl,(zN BK321.out 3).trans rfl,(zN BK321.out 4).trans rfl⟩ (fun hHeld => ?_)
    clear hK K
    refine norm_ (a' := ?_) ?_ ?_
    rotate_left
    ·
     show Act.put _ (some 6) _ = _
     simp only [Act.put,List.setIfInBounds_toArray,List.set_cons_zero,List.set_cons_succ,i64_w,i32_w]; rfl
    refine one_ (i := 3) (N := some 14) #[true,true,true,true,false,true,true,true,false,false,true,false,false,true,false] rfl rfl (one_of HT_.out (by kernel_rfl)) (by decide) (fun K hK => ?_)
    refine goes_ Try.func49 (by kernel_rfl) rfl #[.pointer (some ⟨g309,0,none⟩),.int .i64 3] (by rfl) rfl rfl (by (try simp only [List.map_toArray,List.map_cons,List.map_nil]); first | done|rfl|(simp only [List.length_drop,List.length_take]; rfl)) ?_
    with_reducible refine (spec_l01Below.calls g309 t306 t319 t320 3 t322 t323 t324 w _ ?side1 ?side2 A4.out).mono ?_
    (case side1 => repeat (first|(with_reducible first|exact HI309.out|apply IsS81.alloc|apply IsS81.drewN|apply IsS81.drew|apply IsS81.set_1|apply IsS81.set_2|refine IsS81.far ?_ NB309_304.out _|refine IsS81.far ?_ NB309_305.out _|refine IsS81.far ?_ NB309_321.out _|refine IsS81.far ?_ NB309_331.out _)|exact HI309.out))
    (case side2 => repeat (first|(with_reducible first|exact HB.out|apply zF|apply zH|apply zG|refine zE ?_ (IsS81.ge HI309.out)|refine zE ?_ GE304.out|refine zE ?_ GE305.out|refine zE ?_ GE321.out|refine zE ?_ GE331.out)|exact HB.out))
    rintro e w23 ⟨rfl,hi,hb,hk⟩
    refine ⟨_,rfl,?_⟩
    have n0_ := zA (KeepBut.blk hk (g' := gb304) (o := .cells #[.int .i64 0,.int .i64 0,.slice none 0 0,.int .i64 0,.slice none 0 0] 26 (0,0)) (rrB10 BK304.out) NB304_309.out (by simp))
    have n1_ := zA (KeepBut.blk hk (g' := gb305) (o := .cells #[.int .i64 0,.int .i64 0,.string (⟨#[]⟩ : ByteArray)] 36 (0,0)) (rrB10 BK305.out) NB305_309.out (by simp))
    have n2_ := zA (zC (Kd.R_keep (IsS81.apart (show IsS81 w _ g309 t306 t319 t320 from by repeat (first|(with_reducible first|exact HI309.out|apply IsS81.alloc|apply IsS81.drewN|apply IsS81.drew|apply IsS81.set_1|apply IsS81.set_2|refine IsS81.far ?_ NB309_304.out _|refine IsS81.far ?_ NB309_305.out _|refine IsS81.far ?_ NB309_321.out _|refine IsS81.far ?_ NB309_331.out _)|exact HI309.out)) (rrA10 HO314.out) (by decide)) hk (fun _ h => h.2)) (fun _ h => h.1))
    have n3_ := zA (zC (Kd.R_keep (IsS81.apart (show IsS81 w _ g309 t306 t319 t320 from by repeat (first|(with_reducible first|exact HI309.out|apply IsS81.alloc|apply IsS81.drewN|apply IsS81.drew|apply IsS81.set_1|apply IsS81.set_2|refine IsS81.far ?_ NB309_304.out _|refine IsS81.far ?_ NB309_305.out _|refine IsS81.far ?_ NB309_321.out _|refine IsS81.far ?_ NB309_331.out _)|exact HI309.out)) (rrA10 HO318.out) (by decide)) hk (fun _ h => h.2)) (fun _ h => h.1))
    have n4_ := zA (KeepBut.blk hk (g' := gb321) (o := .cells #[.int .i64 t310,.int .i64 t311,.slice Ao18 t312.length co18,.int .i64 t315,.slice Ao19 t316.length co19] 26 (0,0)) (rrB10 BK321.out) NB321_309.out (by simp))
    have n5_ := zA (KeepBut.blk hk (g' := gb331) (o := .cells #[.int .i64 0,.int .i64 0,.string (⟨#[]⟩ : ByteArray)] 36 (0,0)) (rrB10 BK331.out) NB331_309.out (by simp))
    have n6_ := zA (hb)
    have n7_ := zA (hi)
    clear BK304 BK305 HO314 HO318 BK321 BK331 HB HI309
    have BK304 := n0_
    have BK305 := n1_
    have HO314 := n2_
    have HO318 := n3_
    have BK321 := n4_
    have BK331 := n5_
    have HB := n6_
    have HI309 := n7_
    clear n0_ n1_ n2_ n3_ n4_ n5_ n6_ n7_
    (try clear hb)
    (try clear hb2)
    (try clear hk)
    (try clear hi)
    refine hK.out _ _ ⟨(zN BK321.out 0).trans rfl,(zN BK321.out 1).trans rfl,(zN BK321.out 2).trans rfl,(zN BK321.out 3).trans rfl,(zN BK321.out 4).trans rfl⟩ (fun hHeld => ?_)
    clear hK K
    refine norm_ (a' := ?_) ?_ ?_
    rotate_left
    ·
     show Act.put _ (some 14) _ = _
     simp only [Act.put,List.setIfInBounds_toArray,List.set_cons_zero,List.set_cons_succ,i64_w,i32_w]; rfl
    refine pure_ (i := 4) (N := some 15) (v := ?_) (a' := ?_) #[true,true,true,true,true,true,true,true,false,false,true,false,false,true,false] rfl rfl (any_of HT_.out (by kernel_rfl)) (fun _ _ _ h => h) (Or.inl ⟨by rfl,?_⟩) ?_ ?_; rotate_left
    · intro w'; go_simp; with_reducible rfl
    rotate_left
    · simp only [Act.put,List.setIfInBounds_toArray,List.set_cons_zero,List.set_cons_succ,i64_w,i32_w]; rfl
    refine one_ (i := 8) (N := some 19) #[true,true,true,true,true,true,true,true,true,false,true,false,false,true,false] rfl rfl (one_of HT_.out (by kernel_rfl)) (by decide) (fun K hK => ?_)
    refine goes_ Try.func49 (by kernel_rfl) rfl #[.pointer (some ⟨g309,0,none⟩),.int .i64 5] (by rfl) rfl rfl (by (try simp only [List.map_toArray,List.map_cons,List.map_nil]); first | done|rfl|(simp only [List.length_drop,List.length_take]; rfl)) ?_
    with_reducible refine (spec_l01Below.calls g309 t306 t323 t324 5 t325 t326 t327 w _ ?side1 ?side2 A5.out).mono ?_
    (case side1 => repeat (first|(with_reducible first|exact HI309.out|apply IsS81.alloc|apply IsS81.drewN|apply IsS81.drew|apply IsS81.set_1|apply IsS81.set_2|refine IsS81.far ?_ NB309_304.out _|refine IsS81.far ?_ NB309_305.out _|refine IsS81.far ?_ NB309_321.out _|refine IsS81.far ?_ NB309_331.out _)|exact HI309.out))
    (case side2 => repeat (first|(with_reducible first|exact HB.out|apply zF|apply zH|apply zG|refine zE ?_ (IsS81.ge HI309.out)|refine zE ?_ GE304.out|refine zE ?_ GE305.out|refine zE ?_ GE321.out|refine zE ?_ GE331.out)|exact HB.out))
    rintro e w24 ⟨rfl,hi,hb,hk⟩
    refine ⟨_,rfl,?_⟩
    have n0_ := zA (KeepBut.blk hk (g' := gb304) (o := .cells #[.int .i64 0,.int .i64 0,.slice none 0 0,.int .i64 0,.slice none 0 0] 26 (0,0)) (rrB10 BK304.out) NB304_309.out (by simp))
    have n1_ := zA (KeepBut.blk hk (g' := gb305) (o := .cells #[.int .i64 0,.int .i64 0,.string (⟨#[]⟩ : ByteArray)] 36 (0,0)) (rrB10 BK305.out) NB305_309.out (by simp))
    have n2_ := zA (zC (Kd.R_keep (IsS81.apart (show IsS81 w _ g309 t306 t323 t324 from by repeat (first|(with_reducible first|exact HI309.out|apply IsS81.alloc|apply IsS81.drewN|apply IsS81.drew|apply IsS81.set_1|apply IsS81.set_2|refine IsS81.far ?_ NB309_304.out _|refine IsS81.far ?_ NB309_305.out _|refine IsS81.far ?_ NB309_321.out _|refine IsS81.far ?_ NB309_331.out _)|exact HI309.out)) (rrA10 HO314.out) (by decide)) hk (fun _ h => h.2)) (fun _ h => h.1))
    have n3_ := zA (zC (Kd.R_keep (IsS81.apart (show IsS81 w _ g309 t306 t323 t324 from by repeat (first|(with_reducible first|exact HI309.out|apply IsS81.alloc|apply IsS81.drewN|apply IsS81.drew|apply IsS81.set_1|apply IsS81.set_2|refine IsS81.far ?_ NB309_304.out _|refine IsS81.far ?_ NB309_305.out _|refine IsS81.far ?_ NB309_321.out _|refine IsS81.far ?_ NB309_331.out _)|exact HI309.out)) (rrA10 HO318.out) (by decide)) hk (fun _ h => h.2)) (fun _ h => h.1))
    have n4_ := zA (KeepBut.blk hk (g' := gb321) (o := .cells #[.int .i64 t310,.int .i64 t311,.slice Ao18 t312.length co18,.int .i64 t315,.slice Ao19 t316.length co19] 26 (0,0)) (rrB10 BK321.out) NB321_309.out (by simp))
    have n5_ := zA (KeepBut.blk hk (g' := gb331) (o := .cells #[.int .i64 0,.int .i64 0,.string (⟨#[]⟩ : ByteArray)] 36 (0,0)) (rrB10 BK331.out) NB331_309.out (by simp))
    have n6_ := zA (hb)
    have n7_ := zA (hi)
    clear BK304 BK305 HO314 HO318 BK321 BK331 HB HI309
    have BK304 := n0_
    have BK305 := n1_
    have HO314 := n2_
    have HO318 := n3_
    have BK321 := n4_
    have BK331 := n5_
    have HB := n6_
    have HI309 := n7_
    clear n0_ n1_ n2_ n3_ n4_ n5_ n6_ n7_
    (try clear hb)
    (try clear hb2)
    (try clear hk)
    (try clear hi)
    refine hK.out _ _ ⟨(zN BK321.out 0).trans rfl,(zN BK321.out 1).trans rfl,(zN BK321.out 2).trans rfl,(zN BK321.out 3).trans rfl,(zN BK321.out 4).trans rfl⟩ (fun hHeld => ?_)
    clear hK K
    refine norm_ (a' := ?_) ?_ ?_
    rotate_left
    ·
     show Act.put _ (some 19) _ = _
     simp only [Act.put,List.setIfInBounds_toArray,List.set_cons_zero,List.set_cons_succ,i64_w,i32_w]; rfl
    refine pure_ (i := 9) (N := some 20) (v := ?_) (a' := ?_) #[true,true,true,true,true,true,true,true,true,true,true,false,false,true,false] rfl rfl (any_of HT_.out (by kernel_rfl)) (fun _ _ _ h => h) (Or.inl ⟨by rfl,?_⟩) ?_ ?_; rotate_left
    · intro w'; go_simp; with_reducible rfl
    rotate_left
    · simp only [Act.put,List.setIfInBounds_toArray,List.set_cons_zero,List.set_cons_succ,i64_w,i32_w]; rfl
    refine one_ (i := 11) (N := some 22) #[true,true,true,true,true,true,true,true,true,true,true,true,false,true,false] rfl rfl (one_of HT_.out (by kernel_rfl)) (by decide) (fun K hK => ?_)
    refine goes_ Try.func50 (by kernel_rfl) rfl #[.pointer (some ⟨g309,0,none⟩)] (by rfl) rfl rfl (by (try simp only [List.map_toArray,List.map_cons,List.map_nil]); first | done|rfl|(simp only [List.length_drop,List.length_take]; rfl)) ?_
    with_reducible refine (spec_l03Name.calls g309 t306 t326 t327 t328 t329 t330 w _ ?side1 ?side2 A6.out).mono ?_
    (case side1 => repeat (first|(with_reducible first|exact HI309.out|apply IsS81.alloc|apply IsS81.drewN|apply IsS81.drew|apply IsS81.set_1|apply IsS81.set_2|refine IsS81.far ?_ NB309_304.out _|refine IsS81.far ?_ NB309_305.out _|refine IsS81.far ?_ NB309_321.out _|refine IsS81.far ?_ NB309_331.out _)|exact HI309.out))
    (case side2 => repeat (first|(with_reducible first|exact HB.out|apply zF|apply zH|apply zG|refine zE ?_ (IsS81.ge HI309.out)|refine zE ?_ GE304.out|refine zE ?_ GE305.out|refine zE ?_ GE321.out|refine zE ?_ GE331.out)|exact HB.out))
    rintro e w25 ⟨rfl,hi,hb,hk⟩
    refine ⟨_,rfl,?_⟩
    have n0_ := zA (KeepBut.blk hk (g' := gb304) (o := .cells #[.int .i64 0,.int .i64 0,.slice none 0 0,.int .i64 0,.slice none 0 0] 26 (0,0)) (rrB10 BK304.out) NB304_309.out (by simp))
    have n1_ := zA (KeepBut.blk hk (g' := gb305) (o := .cells #[.int .i64 0,.int .i64 0,.string (⟨#[]⟩ : ByteArray)] 36 (0,0)) (rrB10 BK305.out) NB305_309.out (by simp))
    have n2_ := zA (zC (Kd.R_keep (IsS81.apart (show IsS81 w _ g309 t306 t326 t327 from by repeat (first|(with_reducible first|exact HI309.out|apply IsS81.alloc|apply IsS81.drewN|apply IsS81.drew|apply IsS81.set_1|apply IsS81.set_2|refine IsS81.far ?_ NB309_304.out _|refine IsS81.far ?_ NB309_305.out _|refine IsS81.far ?_ NB309_321.out _|refine IsS81.far ?_ NB309_331.out _)|exact HI309.out)) (rrA10 HO314.out) (by decide)) hk (fun _ h => h.2)) (fun _ h => h.1))
    have n3_ := zA (zC (Kd.R_keep (IsS81.apart (show IsS81 w _ g309 t306 t326 t327 from by repeat (first|(with_reducible first|exact HI309.out|apply IsS81.alloc|apply IsS81.drewN|apply IsS81.drew|apply IsS81.set_1|apply IsS81.set_2|refine IsS81.far ?_ NB309_304.out _|refine IsS81.far ?_ NB309_305.out _|refine IsS81.far ?_ NB309_321.out _|refine IsS81.far ?_ NB309_331.out _)|exact HI309.out)) (rrA10 HO318.out) (by decide)) hk (fun _ h => h.2)) (fun _ h => h.1))
    have n4_ := zA (KeepBut.blk hk (g' := gb321) (o := .cells #[.int .i64 t310,.int .i64 t311,.slice Ao18 t312.length co18,.int .i64 t315,.slice Ao19 t316.length co19] 26 (0,0)) (rrB10 BK321.out) NB321_309.out (by simp))
    have n5_ := zA (KeepBut.blk hk (g' := gb331) (o := .cells #[.int .i64 0,.int .i64 0,.string (⟨#[]⟩ : ByteArray)] 36 (0,0)) (rrB10 BK331.out) NB331_309.out (by simp))
    have n6_ := zA (hb)
    have n7_ := zA (hi)
    clear BK304 BK305 HO314 HO318 BK321 BK331 HB HI309
    have BK304 := n0_
    have BK305 := n1_
    have HO314 := n2_
    have HO318 := n3_
    have BK321 := n4_
    have BK331 := n5_
    have HB := n6_
    have HI309 := n7_
    clear n0_ n1_ n2_ n3_ n4_ n5_ n6_ n7_
    (try clear hb)
    (try clear hb2)
    (try clear hk)
    (try clear hi)
    refine hK.out _ _ ⟨(zN BK321.out 0).trans rfl,(zN BK321.out 1).trans rfl,(zN BK321.out 2).trans rfl,(zN BK321.out 3).trans rfl,(zN BK321.out 4).trans rfl⟩ (fun hHeld => ?_)
    clear hK K
    refine norm_ (a' := ?_) ?_ ?_
    rotate_left
    ·
     show Act.put _ (some 22) _ = _
     simp only [Act.put,List.setIfInBounds_toArray,List.set_cons_zero,List.set_cons_succ,i64_w,i32_w]; rfl
    refine pure_ (i := 12) (N := some 23) (v := ?_) (a' := ?_) #[true,true,true,true,true,true,true,true,true,true,true,true,true,true,false] rfl rfl (any_of HT_.out (by kernel_rfl)) (fun _ _ _ h => h) (Or.inl ⟨by rfl,?_⟩) ?_ ?_; rotate_left
    · intro w'; go_simp; with_reducible rfl
    rotate_left
    · simp only [Act.put,List.setIfInBounds_toArray,List.set_cons_zero,List.set_cons_succ,i64_w,i32_w]; rfl
    exact norm_ (by simp only [putAll,Act.put,List.setIfInBounds_toArray,List.set_cons_zero,List.set_cons_succ]) (hCont (gb331) _ ⟨hHeld,(rrA10 HO314.out),(rrA10 HO318.out),(rrB10 BK304.out),(rrB10 BK305.out),(rrB10 BK321.out),(rrB10 BK331.out),GW331.out,GE331.out,NB309_331.out,NB331_309.out,NB304_331.out,NB331_304.out,NB305_331.out,NB331_305.out,NB321_331.out,NB331_321.out,(by repeat (first|(with_reducible first|exact HI309.out|apply IsS81.alloc|apply IsS81.drewN|apply IsS81.drew|apply IsS81.set_1|apply IsS81.set_2|refine IsS81.far ?_ NB309_304.out _|refine IsS81.far ?_ NB309_305.out _|refine IsS81.far ?_ NB309_321.out _|refine IsS81.far ?_ NB309_331.out _)|exact HI309.out)),(by repeat (first|(with_reducible first|exact HB.out|apply zF|apply zH|apply zG|refine zE ?_ (IsS81.ge HI309.out)|refine zE ?_ GE304.out|refine zE ?_ GE305.out|refine zE ?_ GE321.out|refine zE ?_ GE331.out)|exact HB.out))⟩)
  rintro gb331 w26 ⟨hS_,h0_,h1_,h2_,h3_,h4_,h5_,h6_,h7_,h8_,h9_,h10_,h11_,h12_,h13_,h14_,h15_,h16_,h17_⟩
  have n0_ : Aside0 (Kd.R Kd.string 9 w26 w.heap.size (fun k_ => some k_ ≠ (.slice Ao19 t316.length co19 : Value).ownBlock) (.slice Ao18 t312.length co18) t312) := ⟨h0_⟩
  have n1_ : Aside0 (Kd.R Kd.string 9 w26 w.heap.size (fun k_ => some k_ ≠ (.slice Ao18 t312.length co18 : Value).ownBlock) (.slice Ao19 t316.length co19) t316) := ⟨h1_⟩
  have n2_ : Aside0 (w26.heap[gb304]? = some (.cells #[.int .i64 0,.int .i64 0,.slice none 0 0,.int .i64 0,.slice none 0 0] 26 (0,0))) := ⟨h2_⟩
  have n3_ : Aside0 (w26.heap[gb305]? = some (.cells #[.int .i64 0,.int .i64 0,.string (⟨#[]⟩ : ByteArray)] 36 (0,0))) := ⟨h3_⟩
  have n4_ : Aside0 (w26.heap[gb321]? = some (.cells #[.int .i64 t310,.int .i64 t311,.slice Ao18 t312.length co18,.int .i64 t315,.slice Ao19 t316.length co19] 26 (0,0))) := ⟨h4_⟩
  have n5_ : Aside0 (w26.heap[gb331]? = some (.cells #[.int .i64 0,.int .i64 0,.string (⟨#[]⟩ : ByteArray)] 36 (0,0))) := ⟨h5_⟩
  have n6_ : Aside0 (w.heap.size ≤ gb331) := ⟨h6_⟩
  have n7_ : Aside0 (w.heap.size ≤ gb331) := ⟨h7_⟩
  have n8_ : Aside0 (g309 ≠ gb331) := ⟨h8_⟩
  have n9_ : Aside0 (gb331 ≠ g309) := ⟨h9_⟩
  have n10_ : Aside0 (gb304 ≠ gb331) := ⟨h10_⟩
  have n11_ : Aside0 (gb331 ≠ gb304) := ⟨h11_⟩
  have n12_ : Aside0 (gb305 ≠ gb331) := ⟨h12_⟩
  have n13_ : Aside0 (gb331 ≠ gb305) := ⟨h13_⟩
  have n14_ : Aside0 (gb321 ≠ gb331) := ⟨h14_⟩
  have n15_ : Aside0 (gb331 ≠ gb321) := ⟨h15_⟩
  have n16_ : Aside0 (IsS81 w w26 g309 t306 t329 t330) := ⟨h16_⟩
  have n17_ : Aside0 (Below w.heap.size w w26) := ⟨h17_⟩
  clear HO314 HO318 BK304 BK305 BK321 HI309 HB h0_ h1_ h2_ h3_ h4_ h5_ h6_ h7_ h8_ h9_ h10_ h11_ h12_ h13_ h14_ h15_ h16_ h17_
  have HO314 := n0_
  have HO318 := n1_
  have BK304 := n2_
  have BK305 := n3_
  have BK321 := n4_
  have BK331 := n5_
  have GW331 := n6_
  have GE331 := n7_
  have NB309_331 := n8_
  have NB331_309 := n9_
  have NB304_331 := n10_
  have NB331_304 := n11_
  have NB305_331 := n12_
  have NB331_305 := n13_
  have NB321_331 := n14_
  have NB331_321 := n15_
  have HI309 := n16_
  have HB := n17_
  clear n0_ n1_ n2_ n3_ n4_ n5_ n6_ n7_ n8_ n9_ n10_ n11_ n12_ n13_ n14_ n15_ n16_ n17_
  have hHeld : w26.cell? ⟨gb321,0,none⟩ = some (.int .i64 t310) ∧ w26.cell? ⟨gb321,1,none⟩ = some (.int .i64 t311) ∧ w26.cell? ⟨gb321,2,none⟩ = some (.slice Ao18 t312.length co18) ∧ w26.cell? ⟨gb321,3,none⟩ = some (.int .i64 t315) ∧ w26.cell? ⟨gb321,4,none⟩ = some (.slice Ao19 t316.length co19) := hS_
  refine norm_ (a' := ?_) ?_ ?_
  rotate_left
  · simp only [putAll,Act.put,List.setIfInBounds_toArray,List.set_cons_zero,List.set_cons_succ]; rfl
  refine one_ (i := 14) (N := none) #[true,true,true,true,true,true,true,true,true,true,true,true,true,true,true] rfl rfl (one_of HT_.out (by kernel_rfl)) (by decide) (fun K hK => ?_)
  have hs27 : w26.cell? ⟨gb331,0,none⟩ = some (.int .i64 0) := (zN BK331.out 0).trans rfl
  have hfs27 := zL BK331.out 0
  have hns27_0 := NB304_331.out
  have hns27_1 := NB305_331.out
  have hns27_2 := NB321_331.out
  have hms27_0 := NB331_304.out
  have hms27_1 := NB331_305.out
  have hms27_2 := NB331_321.out
  have hs28 : w26.cell? ⟨gb331,1,none⟩ = some (.int .i64 0) := (zN BK331.out 1).trans rfl
  have hfs28 := zL BK331.out 1
  have hns28_0 := NB304_331.out
  have hns28_1 := NB305_331.out
  have hns28_2 := NB321_331.out
  have hms28_0 := NB331_304.out
  have hms28_1 := NB331_305.out
  have hms28_2 := NB331_321.out
  have hs29 : w26.cell? ⟨gb331,2,none⟩ = some (.string (⟨#[]⟩ : ByteArray)) := (zN BK331.out 2).trans rfl
  have hfs29 := zL BK331.out 2
  have hns29_0 := NB304_331.out
  have hns29_1 := NB305_331.out
  have hns29_2 := NB321_331.out
  have hms29_0 := NB331_304.out
  have hms29_1 := NB331_305.out
  have hms29_2 := NB331_321.out
  refine skip_ (w1 := ?_) (by rfl) rfl ?_ ?_
  rotate_left
  · go_simp; rfl
  refine hK.out _ _ ⟨((cell_far (p := ⟨gb331,_,none⟩) NB321_331.out _).trans (((cell_far (p := ⟨gb331,_,none⟩) NB321_331.out _).trans (((cell_far (p := ⟨gb331,_,none⟩) NB321_331.out _).trans (hHeld.1)))))),((cell_far (p := ⟨gb331,_,none⟩) NB321_331.out _).trans (((cell_far (p := ⟨gb331,_,none⟩) NB321_331.out _).trans (((cell_far (p := ⟨gb331,_,none⟩) NB321_331.out _).trans (hHeld.2.1)))))),((cell_far (p := ⟨gb331,_,none⟩) NB321_331.out _).trans (((cell_far (p := ⟨gb331,_,none⟩) NB321_331.out _).trans (((cell_far (p := ⟨gb331,_,none⟩) NB321_331.out _).trans (hHeld.2.2.1)))))),((cell_far (p := ⟨gb331,_,none⟩) NB321_331.out _).trans (((cell_far (p := ⟨gb331,_,none⟩) NB321_331.out _).trans (((cell_far (p := ⟨gb331,_,none⟩) NB321_331.out _).trans (hHeld.2.2.2.1)))))),((cell_far (p := ⟨gb331,_,none⟩) NB321_331.out _).trans (((cell_far (p := ⟨gb331,_,none⟩) NB321_331.out _).trans (((cell_far (p := ⟨gb331,_,none⟩) NB321_331.out _).trans (hHeld.2.2.2.2))))))⟩ (fun hHeld => ?_)
  clear hK K
  refine done_ (done_of HT_.out (by kernel_rfl)) ?_
  go_upto_block 0 with (first | ((with_reducible refine gate_callee (f := 49) rfl ?_); refine goesL_ (some 25) rfl rfl Try.func49 (by kernel_rfl) rfl #[.pointer (some ⟨g309,0,none⟩),.int .i64 12] rfl (by (try simp only [List.map_toArray,List.map_cons,List.map_nil]); first | done|rfl|(simp only [List.length_drop,List.length_take]; rfl)) ?_; (with_reducible refine (spec_l01Below.calls g309 t306 t329 t330 12 t332 t333 t334 w _ ?side1 ?side2 A7.out).mono ?_); (case side1 => repeat (first|(with_reducible first|exact HI309.out|apply IsS81.alloc|apply IsS81.drewN|apply IsS81.drew|apply IsS81.set_1|apply IsS81.set_2|refine IsS81.far ?_ NB309_304.out _|refine IsS81.far ?_ NB309_305.out _|refine IsS81.far ?_ NB309_321.out _|refine IsS81.far ?_ NB309_331.out _)|exact HI309.out)); (case side2 => repeat (first|(with_reducible first|exact HB.out|apply zF|apply zH|apply zG|refine zE ?_ (IsS81.ge HI309.out)|refine zE ?_ GE304.out|refine zE ?_ GE305.out|refine zE ?_ GE321.out|refine zE ?_ GE331.out)|exact HB.out)); rintro e w30 ⟨rfl,hi,hb,hk⟩; refine ⟨_,rfl,?_⟩; have n0_ := zA (KeepBut.blk hk (g' := gb304) (o := .cells #[.int .i64 0,.int .i64 0,.slice none 0 0,.int .i64 0,.slice none 0 0] 26 (0,0)) (by (with_reducible repeat (first|refine zI ?_ _|refine zK ?_|refine zJ ?_ _)); refine zO ?_ NB304_331.out _; (with_reducible repeat (first|refine zI ?_ _|refine zK ?_|refine zJ ?_ _)); refine zO ?_ NB304_331.out _; (with_reducible repeat (first|refine zI ?_ _|refine zK ?_|refine zJ ?_ _)); refine zO ?_ NB304_331.out _; (with_reducible repeat (first|refine zI ?_ _|refine zK ?_|refine zJ ?_ _)); exact BK304.out) NB304_309.out (by simp)); have n1_ := zA (KeepBut.blk hk (g' := gb305) (o := .cells #[.int .i64 0,.int .i64 0,.string (⟨#[]⟩ : ByteArray)] 36 (0,0)) (by (with_reducible repeat (first|refine zI ?_ _|refine zK ?_|refine zJ ?_ _)); refine zO ?_ NB305_331.out _; (with_reducible repeat (first|refine zI ?_ _|refine zK ?_|refine zJ ?_ _)); refine zO ?_ NB305_331.out _; (with_reducible repeat (first|refine zI ?_ _|refine zK ?_|refine zJ ?_ _)); refine zO ?_ NB305_331.out _; (with_reducible repeat (first|refine zI ?_ _|refine zK ?_|refine zJ ?_ _)); exact BK305.out) NB305_309.out (by simp)); have n2_ := zA (zC (Kd.R_keep (IsS81.apart (show IsS81 w _ g309 t306 t329 t330 from by repeat (first|(with_reducible first|exact HI309.out|apply IsS81.alloc|apply IsS81.drewN|apply IsS81.drew|apply IsS81.set_1|apply IsS81.set_2|refine IsS81.far ?_ NB309_304.out _|refine IsS81.far ?_ NB309_305.out _|refine IsS81.far ?_ NB309_321.out _|refine IsS81.far ?_ NB309_331.out _)|exact HI309.out)) (rrA10 (zC (zB (p := ⟨gb331,2,none⟩) (zB (p := ⟨gb331,1,none⟩) (zB (p := ⟨gb331,0,none⟩) (Kd.R_types HO314.out BK331.out (by decide)) (fun _ h=>h.2) (.int .i64 (wrap64 (t315 + t322)))) (fun _ h=>h.2) (.int .i64 (wrap64 (t311 + t325)))) (fun _ h=>h.2) (.string t328)) (fun _ h_ => h_.1))) (by decide)) hk (fun _ h => h.2)) (fun _ h => h.1)); have n3_ := zA (zC (Kd.R_keep (IsS81.apart (show IsS81 w _ g309 t306 t329 t330 from by repeat (first|(with_reducible first|exact HI309.out|apply IsS81.alloc|apply IsS81.drewN|apply IsS81.drew|apply IsS81.set_1|apply IsS81.set_2|refine IsS81.far ?_ NB309_304.out _|refine IsS81.far ?_ NB309_305.out _|refine IsS81.far ?_ NB309_321.out _|refine IsS81.far ?_ NB309_331.out _)|exact HI309.out)) (rrA10 (zC (zB (p := ⟨gb331,2,none⟩) (zB (p := ⟨gb331,1,none⟩) (zB (p := ⟨gb331,0,none⟩) (Kd.R_types HO318.out BK331.out (by decide)) (fun _ h=>h.2) (.int .i64 (wrap64 (t315 + t322)))) (fun _ h=>h.2) (.int .i64 (wrap64 (t311 + t325)))) (fun _ h=>h.2) (.string t328)) (fun _ h_ => h_.1))) (by decide)) hk (fun _ h => h.2)) (fun _ h => h.1)); have n4_ := zA (KeepBut.blk hk (g' := gb321) (o := .cells #[.int .i64 t310,.int .i64 t311,.slice Ao18 t312.length co18,.int .i64 t315,.slice Ao19 t316.length co19] 26 (0,0)) (by (with_reducible repeat (first|refine zI ?_ _|refine zK ?_|refine zJ ?_ _)); refine zO ?_ NB321_331.out _; (with_reducible repeat (first|refine zI ?_ _|refine zK ?_|refine zJ ?_ _)); refine zO ?_ NB321_331.out _; (with_reducible repeat (first|refine zI ?_ _|refine zK ?_|refine zJ ?_ _)); refine zO ?_ NB321_331.out _; (with_reducible repeat (first|refine zI ?_ _|refine zK ?_|refine zJ ?_ _)); exact BK321.out) NB321_309.out (by simp)); have n5_ := zA (KeepBut.blk hk (g' := gb331) (o := .cells #[.int .i64 (wrap64 (t315 + t322)),.int .i64 (wrap64 (t311 + t325)),.string t328] 36 (0,0)) (by (with_reducible repeat (first|refine zI ?_ _|refine zK ?_|refine zJ ?_ _)); refine blk_put (cs := #[.int .i64 (wrap64 (t315 + t322)),.int .i64 (wrap64 (t311 + t325)),.string (⟨#[]⟩ : ByteArray)]) ?_ 2 _ rfl; (with_reducible repeat (first|refine zI ?_ _|refine zK ?_|refine zJ ?_ _)); refine blk_put (cs := #[.int .i64 (wrap64 (t315 + t322)),.int .i64 0,.string (⟨#[]⟩ : ByteArray)]) ?_ 1 _ rfl; (with_reducible repeat (first|refine zI ?_ _|refine zK ?_|refine zJ ?_ _)); refine blk_put (cs := #[.int .i64 0,.int .i64 0,.string (⟨#[]⟩ : ByteArray)]) ?_ 0 _ rfl; (with_reducible repeat (first|refine zI ?_ _|refine zK ?_|refine zJ ?_ _)); exact BK331.out) NB331_309.out (by simp)); have n6_ := zA (hb); have n7_ := zA (hi); clear BK304 BK305 HO314 HO318 BK321 BK331 HB HI309; have BK304 := n0_; have BK305 := n1_; have HO314 := n2_; have HO318 := n3_; have BK321 := n4_; have BK331 := n5_; have HB := n6_; have HI309 := n7_; clear n0_ n1_ n2_ n3_ n4_ n5_ n6_ n7_; (try clear hb); (try clear hb2); (try clear hk); (try clear hi)))
  (try simp only [Act.put,List.setIfInBounds_toArray,List.set_cons_zero,List.set_cons_succ])
  go_cut [] (fun wc => ∃ (kq : Nat) (x332000_7 : Int) (x332001_7 : Int) (x332002_7 : ByteArray),Aside0 (spec_DrawReceive.j0 kq t310 t311 t312 t315 t316 x332000_7 x332001_7 x332002_7 = some (r1,r2,r3,r4,r5,r6,r7,r8)) ∧ Aside0 (kq ≤ k) ∧ Aside0 (Kd.R Kd.string 9 wc w.heap.size (fun k_ => some k_ ≠ ((.slice Ao19 t316.length co19) : Value).ownBlock) (.slice Ao18 t312.length co18) t312) ∧ Aside0 (Kd.R Kd.string 9 wc w.heap.size (fun k_ => some k_ ≠ ((.slice Ao18 t312.length co18) : Value).ownBlock) (.slice Ao19 t316.length co19) t316) ∧ Aside0 (wc.heap[gb304]? = some (.cells #[.int .i64 0,.int .i64 0,(.slice none 0 0),.int .i64 0,(.slice none 0 0)] 26 (0,0))) ∧ Aside0 (wc.heap[gb305]? = some (.cells #[.int .i64 0,.int .i64 0,.string (⟨#[]⟩ : ByteArray)] 36 (0,0))) ∧ Aside0 (wc.heap[gb321]? = some (.cells #[.int .i64 t310,.int .i64 t311,(.slice Ao18 t312.length co18),.int .i64 t315,(.slice Ao19 t316.length co19)] 26 (0,0))) ∧ Aside0 (wc.heap[gb331]? = some (.cells #[.int .i64 x332000_7,.int .i64 x332001_7,.string x332002_7] 36 (0,0))) ∧ Aside0 (Below w.heap.size w wc))
  case first =>
   have H := HC8.out
   clear HC8
   by_cases c31 : t332 = 0
   ·
    rw [if_pos c31] at H
    have c31b0 : (t332 == 0) = true := beq_iff_eq.mpr c31
    have c31b1 : (t332 != 0) = false := bne_eq_false_iff_eq.mpr c31
    clear c31
    (first | rw [c31b0]|(simp only [i64_w,i32_w]; rw [c31b0])|skip)
    obtain ⟨y335,hy335⟩ : ∃ y_ : List Int,y_ = (([(-1),9223372036854775807] : List Int)) := ⟨_,rfl⟩
    replace H : ((spec_l01PickInt.f t306 t333 t334 y335).bind fun bt338 => (spec_DrawReceive.j0 k t310 t311 t312 t315 t316 bt338.1 (wrap64 (t311 + t325)) t328)) = some (r1,r2,r3,r4,r5,r6,r7,r8) := by first | (rw [hy335]; with_reducible exact H) | (have H2_ := (Option.bind_some _ _).symm.trans H; rw [hy335]; with_reducible exact H2_) | (have H2_ := (Option.bind_some _ _).symm.trans H; with_reducible exact H2_)|with_reducible exact H | (rw [hy335]; exact H)|exact H
    have Ny335 := zA hy335
    clear hy335
    replace H := Option.bind_eq_some_iff.mp H
    obtain ⟨⟨t338,t339,t340⟩,A320,H⟩ := H
    replace H : (spec_DrawReceive.j0 k t310 t311 t312 t315 t316 t338 (wrap64 (t311 + t325)) t328) = some (r1,r2,r3,r4,r5,r6,r7,r8) := H
    have A32 := zA A320
    clear A320
    have H' := zA H
    clear H
    go_wp2_with (first | ((with_reducible refine gate_dst (N := 29) rfl ?_); refine Kd.R_lit (Kd.int .i64) _ 3 ?hg (N := 29) ?hd (xs := ([(-1),9223372036854775807] : List Int)) (inner := [.int .i64 (-1),.int .i64 9223372036854775807]) (ok := fun _ => True) (okp := fun _ => True) ?hr ?hp (fun _ hk => hk) trivial (Below.refl _ _) (Nat.le_refl _) (by simp) ?_; (case hd => rfl); (case hg => rfl); (case hr => first | (go_simp; done) | (go_simp; rfl)); (case hp => exact (Reps.one (show Kd.M (Kd.int .i64) _ _ _ (-1) [.int .i64 (-1)] from rfl) (Reps.one (show Kd.M (Kd.int .i64) _ _ _ 9223372036854775807 [.int .i64 9223372036854775807] from rfl) (Reps.none _ _)))); intro v336 w33 ho34 hb hg_ hnew_; clear hg_ hnew_; (first | rw [← Ny335.out] at ho34|(simp only [Int.reduceToNat] at ho34; rw [← Ny335.out] at ho34)); have n0_ := zA (zD (rrA10 HO314.out) hb); have n1_ := zA (zD (rrA10 HO318.out) hb); have n2_ := zA (Kd.R_lower ho34 (below_size (by repeat (first|(with_reducible first|exact HB.out|apply zF|apply zH|apply zG|refine zE ?_ (IsS81.ge HI309.out)|refine zE ?_ GE304.out|refine zE ?_ GE305.out|refine zE ?_ GE321.out|refine zE ?_ GE331.out)|exact HB.out)))); have n3_ := zA (zM (g := gb304) (o := .cells #[.int .i64 0,.int .i64 0,.slice none 0 0,.int .i64 0,.slice none 0 0] 26 (0,0)) (rrB10 BK304.out) hb); have n4_ := zA (zM (g := gb305) (o := .cells #[.int .i64 0,.int .i64 0,.string (⟨#[]⟩ : ByteArray)] 36 (0,0)) (rrB10 BK305.out) hb); have n5_ := zA (IsS81.below (by repeat (first|(with_reducible first|exact HI309.out|apply IsS81.alloc|apply IsS81.drewN|apply IsS81.drew|apply IsS81.set_1|apply IsS81.set_2|refine IsS81.far ?_ NB309_304.out _|refine IsS81.far ?_ NB309_305.out _|refine IsS81.far ?_ NB309_321.out _|refine IsS81.far ?_ NB309_331.out _)|exact HI309.out)) hb); have n6_ := zA (zM (g := gb321) (o := .cells #[.int .i64 t310,.int .i64 t311,.slice Ao18 t312.length co18,.int .i64 t315,.slice Ao19 t316.length co19] 26 (0,0)) (rrB10 BK321.out) hb); have n7_ := zA (zM (g := gb331) (o := .cells #[.int .i64 (wrap64 (t315 + t322)),.int .i64 (wrap64 (t311 + t325)),.string t328] 36 (0,0)) (rrB10 BK331.out) hb); have n8_ := zA (below_step (by repeat (first|(with_reducible first|exact HB.out|apply zF|apply zH|apply zG|refine zE ?_ (IsS81.ge HI309.out)|refine zE ?_ GE304.out|refine zE ?_ GE305.out|refine zE ?_ GE321.out|refine zE ?_ GE331.out)|exact HB.out)) hb); clear HO314 HO318 BK304 BK305 HI309 BK321 BK331 HB; have HO314 := n0_; have HO318 := n1_; have HO337 := n2_; have BK304 := n3_; have BK305 := n4_; have HI309 := n5_; have BK321 := n6_; have BK331 := n7_; have HB := n8_; clear n0_ n1_ n2_ n3_ n4_ n5_ n6_ n7_ n8_ hb ho34; obtain ⟨Ao35,co35,eo35⟩ := Kd.R_slice HO337.out; subst eo35) | ((with_reducible refine gate_callee (f := 51) rfl ?_); refine goesL_ (some 30) rfl rfl Try.func51 (by kernel_rfl) rfl #[.pointer (some ⟨g309,0,none⟩),.slice Ao35 y335.length co35] rfl (by (try simp only [List.map_toArray,List.map_cons,List.map_nil]); first | done|rfl|(simp only [List.length_drop,List.length_take]; rfl)) ?_; (with_reducible refine (spec_l01PickInt.calls g309 t306 t333 t334 _ _ y335 t338 t339 t340 w _ ?side1 ?side2 ?side3 ?side4 ?side5 A32.out).mono ?_); (case side1 => repeat (first|(with_reducible first|exact HI309.out|apply IsS81.alloc|apply IsS81.drewN|apply IsS81.drew|apply IsS81.set_1|apply IsS81.set_2|refine IsS81.far ?_ NB309_304.out _|refine IsS81.far ?_ NB309_305.out _|refine IsS81.far ?_ NB309_321.out _|refine IsS81.far ?_ NB309_331.out _)|exact HI309.out)); (case side2 => repeat (first|(with_reducible first|exact HB.out|apply zF|apply zH|apply zG|refine zE ?_ (IsS81.ge HI309.out)|refine zE ?_ GE304.out|refine zE ?_ GE305.out|refine zE ?_ GE321.out|refine zE ?_ GE331.out)|exact HB.out)); (case side3 => repeat (first|exact (Kd.R_reads' HO337.out).2.2|(with_reducible refine Kd.C_alloc ?_ _)|(with_reducible refine Kd.C_drewN ?_ _)|(with_reducible refine Kd.C_drew ?_))); (case side4 => exact (Kd.R_reads' HO337.out).2.1); (case side5 => exact far_slice (IsS81.own_ne HI309.out HO337.out (by decide))); rintro e w36 ⟨rfl,hi,hb,hk⟩; refine ⟨_,rfl,?_⟩; have n0_ := zA (KeepBut.blk hk (g' := gb304) (o := .cells #[.int .i64 0,.int .i64 0,.slice none 0 0,.int .i64 0,.slice none 0 0] 26 (0,0)) (rrB10 BK304.out) NB304_309.out (by simp)); have n1_ := zA (KeepBut.blk hk (g' := gb305) (o := .cells #[.int .i64 0,.int .i64 0,.string (⟨#[]⟩ : ByteArray)] 36 (0,0)) (rrB10 BK305.out) NB305_309.out (by simp)); have n2_ := zA (zC (Kd.R_keep (IsS81.apart (show IsS81 w _ g309 t306 t333 t334 from by repeat (first|(with_reducible first|exact HI309.out|apply IsS81.alloc|apply IsS81.drewN|apply IsS81.drew|apply IsS81.set_1|apply IsS81.set_2|refine IsS81.far ?_ NB309_304.out _|refine IsS81.far ?_ NB309_305.out _|refine IsS81.far ?_ NB309_321.out _|refine IsS81.far ?_ NB309_331.out _)|exact HI309.out)) (rrA10 HO314.out) (by decide)) hk (fun _ h => h.2)) (fun _ h => h.1)); have n3_ := zA (zC (Kd.R_keep (IsS81.apart (show IsS81 w _ g309 t306 t333 t334 from by repeat (first|(with_reducible first|exact HI309.out|apply IsS81.alloc|apply IsS81.drewN|apply IsS81.drew|apply IsS81.set_1|apply IsS81.set_2|refine IsS81.far ?_ NB309_304.out _|refine IsS81.far ?_ NB309_305.out _|refine IsS81.far ?_ NB309_321.out _|refine IsS81.far ?_ NB309_331.out _)|exact HI309.out)) (rrA10 HO318.out) (by decide)) hk (fun _ h => h.2)) (fun _ h => h.1)); have n4_ := zA (KeepBut.blk hk (g' := gb321) (o := .cells #[.int .i64 t310,.int .i64 t311,.slice Ao18 t312.length co18,.int .i64 t315,.slice Ao19 t316.length co19] 26 (0,0)) (rrB10 BK321.out) NB321_309.out (by simp)); have n5_ := zA (KeepBut.blk hk (g' := gb331) (o := .cells #[.int .i64 (wrap64 (t315 + t322)),.int .i64 (wrap64 (t311 + t325)),.string t328] 36 (0,0)) (rrB10 BK331.out) NB331_309.out (by simp)); have n6_ := zA (zC (Kd.R_keep (IsS81.apart (show IsS81 w _ g309 t306 t333 t334 from by repeat (first|(with_reducible first|exact HI309.out|apply IsS81.alloc|apply IsS81.drewN|apply IsS81.drew|apply IsS81.set_1|apply IsS81.set_2|refine IsS81.far ?_ NB309_304.out _|refine IsS81.far ?_ NB309_305.out _|refine IsS81.far ?_ NB309_321.out _|refine IsS81.far ?_ NB309_331.out _)|exact HI309.out)) (rrA10 HO337.out) (by decide)) hk (fun _ h => h.2)) (fun _ h => h.1)); have n7_ := zA (hb); have n8_ := zA (hi); clear BK304 BK305 HO314 HO318 BK321 BK331 HO337 HB HI309; have BK304 := n0_; have BK305 := n1_; have HO314 := n2_; have HO318 := n3_; have BK321 := n4_; have BK331 := n5_; have HO337 := n6_; have HB := n7_; have HI309 := n8_; clear n0_ n1_ n2_ n3_ n4_ n5_ n6_ n7_ n8_; (try clear hb); (try clear hb2); (try clear hk); (try clear hi); have hnb37 := NB331_304.out; have hnc37 := NB304_331.out; have hnb38 := NB331_305.out; have hnc38 := NB305_331.out; have hnb39 := NB331_321.out; have hnc39 := NB321_331.out; have hnb40 := NB331_309.out; have hnc40 := NB309_331.out; have hcz41_0 : w36.cell? ⟨gb331,0,none⟩ = some (.int .i64 (wrap64 (t315 + t322))) := (zN BK331.out 0).trans rfl; have hcz41_1 : w36.cell? ⟨gb331,1,none⟩ = some (.int .i64 (wrap64 (t311 + t325))) := (zN BK331.out 1).trans rfl; have hcz41_2 : w36.cell? ⟨gb331,2,none⟩ = some (.string t328) := (zN BK331.out 2).trans rfl; have hfz41_0 := zL BK331.out 0; have hfz41_1 := zL BK331.out 1; have hfz41_2 := zL BK331.out 2))
    go_meet
    case rel => exact ⟨_,(t338),(wrap64 (t311 + t325)),(t328),H',⟨by first|omega|exact Nat.le_refl _⟩,⟨by (with_reducible repeat (first|apply Kd.R_alloc|apply Kd.R_drewN|apply Kd.R_drew)); exact zC (zB (p := ⟨gb331,0,none⟩) (Kd.R_types HO314.out BK331.out (by decide)) (fun _ h=>h.2) (.int .i64 t338)) (fun _ hk => hk.1)⟩,⟨by (with_reducible repeat (first|apply Kd.R_alloc|apply Kd.R_drewN|apply Kd.R_drew)); exact zC (zB (p := ⟨gb331,0,none⟩) (Kd.R_types HO318.out BK331.out (by decide)) (fun _ h=>h.2) (.int .i64 t338)) (fun _ hk => hk.1)⟩,⟨by (with_reducible repeat (first|refine zI ?_ _|refine zK ?_|refine zJ ?_ _)); refine zO ?_ NB304_331.out _; (with_reducible repeat (first|refine zI ?_ _|refine zK ?_|refine zJ ?_ _)); exact BK304.out⟩,⟨by (with_reducible repeat (first|refine zI ?_ _|refine zK ?_|refine zJ ?_ _)); refine zO ?_ NB305_331.out _; (with_reducible repeat (first|refine zI ?_ _|refine zK ?_|refine zJ ?_ _)); exact BK305.out⟩,⟨by (with_reducible repeat (first|refine zI ?_ _|refine zK ?_|refine zJ ?_ _)); refine zO ?_ NB321_331.out _; (with_reducible repeat (first|refine zI ?_ _|refine zK ?_|refine zJ ?_ _)); exact BK321.out⟩,⟨by (with_reducible repeat (first|refine zI ?_ _|refine zK ?_|refine zJ ?_ _)); refine blk_put (cs := #[.int .i64 (wrap64 (t315 + t322)),.int .i64 (wrap64 (t311 + t325)),.string t328]) ?_ 0 _ rfl; (with_reducible repeat (first|refine zI ?_ _|refine zK ?_|refine zJ ?_ _)); exact BK331.out⟩,⟨by repeat (first|(with_reducible first|exact HB.out|apply zF|apply zH|apply zG|refine zE ?_ (IsS81.ge HI309.out)|refine zE ?_ GE304.out|refine zE ?_ GE305.out|refine zE ?_ GE321.out|refine zE ?_ GE331.out)|exact HB.out)⟩⟩
   ·
    rw [if_neg c31] at H
    have c31b0 : (t332 == 0) = false := beq_eq_false_iff_ne.mpr c31
    have c31b1 : (t332 != 0) = true := bne_iff_ne.mpr c31
    (first | rw [c31b0]|(simp only [i64_w,i32_w]; rw [c31b0])|skip)
    by_cases c42 : t332 = 1
    ·
     rw [if_pos c42] at H
     have c42b0 : (t332 == 1) = true := beq_iff_eq.mpr c42
     have c42b1 : (t332 != 1) = false := bne_eq_false_iff_eq.mpr c42
     clear c42
     obtain ⟨y341,hy341⟩ : ∃ y_ : List Int,y_ = (([(-1),9223372036854775807,(-9223372036854775808)] : List Int)) := ⟨_,rfl⟩
     replace H : ((spec_l01PickInt.f t306 t333 t334 y341).bind fun bt344 => (spec_DrawReceive.j0 k t310 t311 t312 t315 t316 (wrap64 (t315 + t322)) bt344.1 t328)) = some (r1,r2,r3,r4,r5,r6,r7,r8) := by first | (rw [hy341]; with_reducible exact H) | (have H2_ := (Option.bind_some _ _).symm.trans H; rw [hy341]; with_reducible exact H2_) | (have H2_ := (Option.bind_some _ _).symm.trans H; with_reducible exact H2_)|with_reducible exact H | (rw [hy341]; exact H)|exact H
     have Ny341 := zA hy341
     clear hy341
     replace H := Option.bind_eq_some_iff.mp H
     obtain ⟨⟨t344,t345,t346⟩,A430,H⟩ := H
     replace H : (spec_DrawReceive.j0 k t310 t311 t312 t315 t316 (wrap64 (t315 + t322)) t344 t328) = some (r1,r2,r3,r4,r5,r6,r7,r8) := H
     have A43 := zA A430
     clear A430
     have H' := zA H
     clear H
     go_wp2_with (first | ((with_reducible refine gate_dst (N := 35) rfl ?_); refine Kd.R_lit (Kd.int .i64) _ 3 ?hg (N := 35) ?hd (xs := ([(-1),9223372036854775807,(-9223372036854775808)] : List Int)) (inner := [.int .i64 (-1),.int .i64 9223372036854775807,.int .i64 (-9223372036854775808)]) (ok := fun _ => True) (okp := fun _ => True) ?hr ?hp (fun _ hk => hk) trivial (Below.refl _ _) (Nat.le_refl _) (by simp) ?_; (case hd => rfl); (case hg => rfl); (case hr => first | (go_simp; done) | (go_simp; rfl)); (case hp => exact (Reps.one (show Kd.M (Kd.int .i64) _ _ _ (-1) [.int .i64 (-1)] from rfl) (Reps.one (show Kd.M (Kd.int .i64) _ _ _ 9223372036854775807 [.int .i64 9223372036854775807] from rfl) (Reps.one (show Kd.M (Kd.int .i64) _ _ _ (-9223372036854775808) [.int .i64 (-9223372036854775808)] from rfl) (Reps.none _ _))))); intro v342 w44 ho45 hb hg_ hnew_; clear hg_ hnew_; (first | rw [← Ny341.out] at ho45|(simp only [Int.reduceToNat] at ho45; rw [← Ny341.out] at ho45)); have n0_ := zA (zD (rrA10 HO314.out) hb); have n1_ := zA (zD (rrA10 HO318.out) hb); have n2_ := zA (Kd.R_lower ho45 (below_size (by repeat (first|(with_reducible first|exact HB.out|apply zF|apply zH|apply zG|refine zE ?_ (IsS81.ge HI309.out)|refine zE ?_ GE304.out|refine zE ?_ GE305.out|refine zE ?_ GE321.out|refine zE ?_ GE331.out)|exact HB.out)))); have n3_ := zA (zM (g := gb304) (o := .cells #[.int .i64 0,.int .i64 0,.slice none 0 0,.int .i64 0,.slice none 0 0] 26 (0,0)) (rrB10 BK304.out) hb); have n4_ := zA (zM (g := gb305) (o := .cells #[.int .i64 0,.int .i64 0,.string (⟨#[]⟩ : ByteArray)] 36 (0,0)) (rrB10 BK305.out) hb); have n5_ := zA (IsS81.below (by repeat (first|(with_reducible first|exact HI309.out|apply IsS81.alloc|apply IsS81.drewN|apply IsS81.drew|apply IsS81.set_1|apply IsS81.set_2|refine IsS81.far ?_ NB309_304.out _|refine IsS81.far ?_ NB309_305.out _|refine IsS81.far ?_ NB309_321.out _|refine IsS81.far ?_ NB309_331.out _)|exact HI309.out)) hb); have n6_ := zA (zM (g := gb321) (o := .cells #[.int .i64 t310,.int .i64 t311,.slice Ao18 t312.length co18,.int .i64 t315,.slice Ao19 t316.length co19] 26 (0,0)) (rrB10 BK321.out) hb); have n7_ := zA (zM (g := gb331) (o := .cells #[.int .i64 (wrap64 (t315 + t322)),.int .i64 (wrap64 (t311 + t325)),.string t328] 36 (0,0)) (rrB10 BK331.out) hb); have n8_ := zA (below_step (by repeat (first|(with_reducible first|exact HB.out|apply zF|apply zH|apply zG|refine zE ?_ (IsS81.ge HI309.out)|refine zE ?_ GE304.out|refine zE ?_ GE305.out|refine zE ?_ GE321.out|refine zE ?_ GE331.out)|exact HB.out)) hb); clear HO314 HO318 BK304 BK305 HI309 BK321 BK331 HB; have HO314 := n0_; have HO318 := n1_; have HO343 := n2_; have BK304 := n3_; have BK305 := n4_; have HI309 := n5_; have BK321 := n6_; have BK331 := n7_; have HB := n8_; clear n0_ n1_ n2_ n3_ n4_ n5_ n6_ n7_ n8_ hb ho45; obtain ⟨Ao46,co46,eo46⟩ := Kd.R_slice HO343.out; subst eo46) | ((with_reducible refine gate_callee (f := 51) rfl ?_); refine goesL_ (some 36) rfl rfl Try.func51 (by kernel_rfl) rfl #[.pointer (some ⟨g309,0,none⟩),.slice Ao46 y341.length co46] rfl (by (try simp only [List.map_toArray,List.map_cons,List.map_nil]); first | done|rfl|(simp only [List.length_drop,List.length_take]; rfl)) ?_; (with_reducible refine (spec_l01PickInt.calls g309 t306 t333 t334 _ _ y341 t344 t345 t346 w _ ?side1 ?side2 ?side3 ?side4 ?side5 A43.out).mono ?_); (case side1 => repeat (first|(with_reducible first|exact HI309.out|apply IsS81.alloc|apply IsS81.drewN|apply IsS81.drew|apply IsS81.set_1|apply IsS81.set_2|refine IsS81.far ?_ NB309_304.out _|refine IsS81.far ?_ NB309_305.out _|refine IsS81.far ?_ NB309_321.out _|refine IsS81.far ?_ NB309_331.out _)|exact HI309.out)); (case side2 => repeat (first|(with_reducible first|exact HB.out|apply zF|apply zH|apply zG|refine zE ?_ (IsS81.ge HI309.out)|refine zE ?_ GE304.out|refine zE ?_ GE305.out|refine zE ?_ GE321.out|refine zE ?_ GE331.out)|exact HB.out)); (case side3 => repeat (first|exact (Kd.R_reads' HO343.out).2.2|(with_reducible refine Kd.C_alloc ?_ _)|(with_reducible refine Kd.C_drewN ?_ _)|(with_reducible refine Kd.C_drew ?_))); (case side4 => exact (Kd.R_reads' HO343.out).2.1); (case side5 => exact far_slice (IsS81.own_ne HI309.out HO343.out (by decide))); rintro e w47 ⟨rfl,hi,hb,hk⟩; refine ⟨_,rfl,?_⟩; have n0_ := zA (KeepBut.blk hk (g' := gb304) (o := .cells #[.int .i64 0,.int .i64 0,.slice none 0 0,.int .i64 0,.slice none 0 0] 26 (0,0)) (rrB10 BK304.out) NB304_309.out (by simp)); have n1_ := zA (KeepBut.blk hk (g' := gb305) (o := .cells #[.int .i64 0,.int .i64 0,.string (⟨#[]⟩ : ByteArray)] 36 (0,0)) (rrB10 BK305.out) NB305_309.out (by simp)); have n2_ := zA (zC (Kd.R_keep (IsS81.apart (show IsS81 w _ g309 t306 t333 t334 from by repeat (first|(with_reducible first|exact HI309.out|apply IsS81.alloc|apply IsS81.drewN|apply IsS81.drew|apply IsS81.set_1|apply IsS81.set_2|refine IsS81.far ?_ NB309_304.out _|refine IsS81.far ?_ NB309_305.out _|refine IsS81.far ?_ NB309_321.out _|refine IsS81.far ?_ NB309_331.out _)|exact HI309.out)) (rrA10 HO314.out) (by decide)) hk (fun _ h => h.2)) (fun _ h => h.1)); have n3_ := zA (zC (Kd.R_keep (IsS81.apart (show IsS81 w _ g309 t306 t333 t334 from by repeat (first|(with_reducible first|exact HI309.out|apply IsS81.alloc|apply IsS81.drewN|apply IsS81.drew|apply IsS81.set_1|apply IsS81.set_2|refine IsS81.far ?_ NB309_304.out _|refine IsS81.far ?_ NB309_305.out _|refine IsS81.far ?_ NB309_321.out _|refine IsS81.far ?_ NB309_331.out _)|exact HI309.out)) (rrA10 HO318.out) (by decide)) hk (fun _ h => h.2)) (fun _ h => h.1)); have n4_ := zA (KeepBut.blk hk (g' := gb321) (o := .cells #[.int .i64 t310,.int .i64 t311,.slice Ao18 t312.length co18,.int .i64 t315,.slice Ao19 t316.length co19] 26 (0,0)) (rrB10 BK321.out) NB321_309.out (by simp)); have n5_ := zA (KeepBut.blk hk (g' := gb331) (o := .cells #[.int .i64 (wrap64 (t315 + t322)),.int .i64 (wrap64 (t311 + t325)),.string t328] 36 (0,0)) (rrB10 BK331.out) NB331_309.out (by simp)); have n6_ := zA (zC (Kd.R_keep (IsS81.apart (show IsS81 w _ g309 t306 t333 t334 from by repeat (first|(with_reducible first|exact HI309.out|apply IsS81.alloc|apply IsS81.drewN|apply IsS81.drew|apply IsS81.set_1|apply IsS81.set_2|refine IsS81.far ?_ NB309_304.out _|refine IsS81.far ?_ NB309_305.out _|refine IsS81.far ?_ NB309_321.out _|refine IsS81.far ?_ NB309_331.out _)|exact HI309.out)) (rrA10 HO343.out) (by decide)) hk (fun _ h => h.2)) (fun _ h => h.1)); have n7_ := zA (hb); have n8_ := zA (hi); clear BK304 BK305 HO314 HO318 BK321 BK331 HO343 HB HI309; have BK304 := n0_; have BK305 := n1_; have HO314 := n2_; have HO318 := n3_; have BK321 := n4_; have BK331 := n5_; have HO343 := n6_; have HB := n7_; have HI309 := n8_; clear n0_ n1_ n2_ n3_ n4_ n5_ n6_ n7_ n8_; (try clear hb); (try clear hb2); (try clear hk); (try clear hi); have hnb48 := NB331_304.out; have hnc48 := NB304_331.out; have hnb49 := NB331_305.out; have hnc49 := NB305_331.out; have hnb50 := NB331_321.out; have hnc50 := NB321_331.out; have hnb51 := NB331_309.out; have hnc51 := NB309_331.out; have hcz52_0 : w47.cell? ⟨gb331,0,none⟩ = some (.int .i64 (wrap64 (t315 + t322))) := (zN BK331.out 0).trans rfl; have hcz52_1 : w47.cell? ⟨gb331,1,none⟩ = some (.int .i64 (wrap64 (t311 + t325))) := (zN BK331.out 1).trans rfl; have hcz52_2 : w47.cell? ⟨gb331,2,none⟩ = some (.string t328) := (zN BK331.out 2).trans rfl; have hfz52_0 := zL BK331.out 0; have hfz52_1 := zL BK331.out 1; have hfz52_2 := zL BK331.out 2))
     go_meet
     case rel => exact ⟨_,(wrap64 (t315 + t322)),(t344),(t328),H',⟨by first|omega|exact Nat.le_refl _⟩,⟨by (with_reducible repeat (first|apply Kd.R_alloc|apply Kd.R_drewN|apply Kd.R_drew)); exact zC (zB (p := ⟨gb331,1,none⟩) (Kd.R_types HO314.out BK331.out (by decide)) (fun _ h=>h.2) (.int .i64 t344)) (fun _ hk => hk.1)⟩,⟨by (with_reducible repeat (first|apply Kd.R_alloc|apply Kd.R_drewN|apply Kd.R_drew)); exact zC (zB (p := ⟨gb331,1,none⟩) (Kd.R_types HO318.out BK331.out (by decide)) (fun _ h=>h.2) (.int .i64 t344)) (fun _ hk => hk.1)⟩,⟨by (with_reducible repeat (first|refine zI ?_ _|refine zK ?_|refine zJ ?_ _)); refine zO ?_ NB304_331.out _; (with_reducible repeat (first|refine zI ?_ _|refine zK ?_|refine zJ ?_ _)); exact BK304.out⟩,⟨by (with_reducible repeat (first|refine zI ?_ _|refine zK ?_|refine zJ ?_ _)); refine zO ?_ NB305_331.out _; (with_reducible repeat (first|refine zI ?_ _|refine zK ?_|refine zJ ?_ _)); exact BK305.out⟩,⟨by (with_reducible repeat (first|refine zI ?_ _|refine zK ?_|refine zJ ?_ _)); refine zO ?_ NB321_331.out _; (with_reducible repeat (first|refine zI ?_ _|refine zK ?_|refine zJ ?_ _)); exact BK321.out⟩,⟨by (with_reducible repeat (first|refine zI ?_ _|refine zK ?_|refine zJ ?_ _)); refine blk_put (cs := #[.int .i64 (wrap64 (t315 + t322)),.int .i64 (wrap64 (t311 + t325)),.string t328]) ?_ 1 _ rfl; (with_reducible repeat (first|refine zI ?_ _|refine zK ?_|refine zJ ?_ _)); exact BK331.out⟩,⟨by repeat (first|(with_reducible first|exact HB.out|apply zF|apply zH|apply zG|refine zE ?_ (IsS81.ge HI309.out)|refine zE ?_ GE304.out|refine zE ?_ GE305.out|refine zE ?_ GE321.out|refine zE ?_ GE331.out)|exact HB.out)⟩⟩
    ·
     rw [if_neg c42] at H
     have c42b0 : (t332 == 1) = false := beq_eq_false_iff_ne.mpr c42
     have c42b1 : (t332 != 1) = true := bne_iff_ne.mpr c42
     by_cases c53 : t332 = 2
     ·
      rw [if_pos c53] at H
      have c53b0 : (t332 == 2) = true := beq_iff_eq.mpr c53
      have c53b1 : (t332 != 2) = false := bne_eq_false_iff_eq.mpr c53
      clear c53
      replace H := Option.bind_eq_some_iff.mp H
      obtain ⟨⟨t347,t348,t349⟩,A540,H⟩ := H
      replace H : ((spec_l01Long.f k (wrap64 (60 + t347)) 65).bind fun t350 => (spec_DrawReceive.j0 k t310 t311 t312 t315 t316 (wrap64 (t315 + t322)) (wrap64 (t311 + t325)) t350)) = some (r1,r2,r3,r4,r5,r6,r7,r8) := H
      have A54 := zA A540
      clear A540
      replace H := Option.bind_eq_some_iff.mp H
      obtain ⟨t350,A550,H⟩ := H
      replace H : (spec_DrawReceive.j0 k t310 t311 t312 t315 t316 (wrap64 (t315 + t322)) (wrap64 (t311 + t325)) t350) = some (r1,r2,r3,r4,r5,r6,r7,r8) := H
      have A55 := zA A550
      clear A550
      have H' := zA H
      clear H
      go_wp2_with (first | ((with_reducible refine gate_callee (f := 49) rfl ?_); refine goesL_ (some 41) rfl rfl Try.func49 (by kernel_rfl) rfl #[.pointer (some ⟨g309,0,none⟩),.int .i64 2] rfl (by (try simp only [List.map_toArray,List.map_cons,List.map_nil]); first | done|rfl|(simp only [List.length_drop,List.length_take]; rfl)) ?_; (with_reducible refine (spec_l01Below.calls g309 t306 t333 t334 2 t347 t348 t349 w _ ?side1 ?side2 A54.out).mono ?_); (case side1 => repeat (first|(with_reducible first|exact HI309.out|apply IsS81.alloc|apply IsS81.drewN|apply IsS81.drew|apply IsS81.set_1|apply IsS81.set_2|refine IsS81.far ?_ NB309_304.out _|refine IsS81.far ?_ NB309_305.out _|refine IsS81.far ?_ NB309_321.out _|refine IsS81.far ?_ NB309_331.out _)|exact HI309.out)); (case side2 => repeat (first|(with_reducible first|exact HB.out|apply zF|apply zH|apply zG|refine zE ?_ (IsS81.ge HI309.out)|refine zE ?_ GE304.out|refine zE ?_ GE305.out|refine zE ?_ GE321.out|refine zE ?_ GE331.out)|exact HB.out)); rintro e w56 ⟨rfl,hi,hb,hk⟩; refine ⟨_,rfl,?_⟩; have n0_ := zA (KeepBut.blk hk (g' := gb304) (o := .cells #[.int .i64 0,.int .i64 0,.slice none 0 0,.int .i64 0,.slice none 0 0] 26 (0,0)) (rrB10 BK304.out) NB304_309.out (by simp)); have n1_ := zA (KeepBut.blk hk (g' := gb305) (o := .cells #[.int .i64 0,.int .i64 0,.string (⟨#[]⟩ : ByteArray)] 36 (0,0)) (rrB10 BK305.out) NB305_309.out (by simp)); have n2_ := zA (zC (Kd.R_keep (IsS81.apart (show IsS81 w _ g309 t306 t333 t334 from by repeat (first|(with_reducible first|exact HI309.out|apply IsS81.alloc|apply IsS81.drewN|apply IsS81.drew|apply IsS81.set_1|apply IsS81.set_2|refine IsS81.far ?_ NB309_304.out _|refine IsS81.far ?_ NB309_305.out _|refine IsS81.far ?_ NB309_321.out _|refine IsS81.far ?_ NB309_331.out _)|exact HI309.out)) (rrA10 HO314.out) (by decide)) hk (fun _ h => h.2)) (fun _ h => h.1)); have n3_ := zA (zC (Kd.R_keep (IsS81.apart (show IsS81 w _ g309 t306 t333 t334 from by repeat (first|(with_reducible first|exact HI309.out|apply IsS81.alloc|apply IsS81.drewN|apply IsS81.drew|apply IsS81.set_1|apply IsS81.set_2|refine IsS81.far ?_ NB309_304.out _|refine IsS81.far ?_ NB309_305.out _|refine IsS81.far ?_ NB309_321.out _|refine IsS81.far ?_ NB309_331.out _)|exact HI309.out)) (rrA10 HO318.out) (by decide)) hk (fun _ h => h.2)) (fun _ h => h.1)); have n4_ := zA (KeepBut.blk hk (g' := gb321) (o := .cells #[.int .i64 t310,.int .i64 t311,.slice Ao18 t312.length co18,.int .i64 t315,.slice Ao19 t316.length co19] 26 (0,0)) (rrB10 BK321.out) NB321_309.out (by simp)); have n5_ := zA (KeepBut.blk hk (g' := gb331) (o := .cells #[.int .i64 (wrap64 (t315 + t322)),.int .i64 (wrap64 (t311 + t325)),.string t328] 36 (0,0)) (rrB10 BK331.out) NB331_309.out (by simp)); have n6_ := zA (hb); have n7_ := zA (hi); clear BK304 BK305 HO314 HO318 BK321 BK331 HB HI309; have BK304 := n0_; have BK305 := n1_; have HO314 := n2_; have HO318 := n3_; have BK321 := n4_; have BK331 := n5_; have HB := n6_; have HI309 := n7_; clear n0_ n1_ n2_ n3_ n4_ n5_ n6_ n7_; (try clear hb); (try clear hb2); (try clear hk); (try clear hi)) | ((with_reducible refine gate_callee (f := 52) rfl ?_); refine goesL_ (some 43) rfl rfl Try.func52 (by kernel_rfl) rfl #[.int .i64 (wrap64 (60 + t347)),.int .u8 65] rfl (by (try simp only [List.map_toArray,List.map_cons,List.map_nil]); first | done|rfl|(simp only [List.length_drop,List.length_take]; rfl)) ?_; (with_reducible refine (spec_l01Long.calls k (wrap64 (60 + t347)) 65 t350 _ A55.out).mono ?_); rintro e w57 ⟨rfl,hb⟩; refine ⟨_,rfl,?_⟩; have n0_ := zA (zD (rrA10 HO314.out) hb); have n1_ := zA (zD (rrA10 HO318.out) hb); have n2_ := zA (zM (g := gb304) (o := .cells #[.int .i64 0,.int .i64 0,.slice none 0 0,.int .i64 0,.slice none 0 0] 26 (0,0)) (rrB10 BK304.out) hb); have n3_ := zA (zM (g := gb305) (o := .cells #[.int .i64 0,.int .i64 0,.string (⟨#[]⟩ : ByteArray)] 36 (0,0)) (rrB10 BK305.out) hb); have n4_ := zA (IsS81.below (by repeat (first|(with_reducible first|exact HI309.out|apply IsS81.alloc|apply IsS81.drewN|apply IsS81.drew|apply IsS81.set_1|apply IsS81.set_2|refine IsS81.far ?_ NB309_304.out _|refine IsS81.far ?_ NB309_305.out _|refine IsS81.far ?_ NB309_321.out _|refine IsS81.far ?_ NB309_331.out _)|exact HI309.out)) hb); have n5_ := zA (zM (g := gb321) (o := .cells #[.int .i64 t310,.int .i64 t311,.slice Ao18 t312.length co18,.int .i64 t315,.slice Ao19 t316.length co19] 26 (0,0)) (rrB10 BK321.out) hb); have n6_ := zA (zM (g := gb331) (o := .cells #[.int .i64 (wrap64 (t315 + t322)),.int .i64 (wrap64 (t311 + t325)),.string t328] 36 (0,0)) (rrB10 BK331.out) hb); have n7_ := zA (below_step (by repeat (first|(with_reducible first|exact HB.out|apply zF|apply zH|apply zG|refine zE ?_ (IsS81.ge HI309.out)|refine zE ?_ GE304.out|refine zE ?_ GE305.out|refine zE ?_ GE321.out|refine zE ?_ GE331.out)|exact HB.out)) hb); clear HO314 HO318 BK304 BK305 HI309 BK321 BK331 HB; have HO314 := n0_; have HO318 := n1_; have BK304 := n2_; have BK305 := n3_; have HI309 := n4_; have BK321 := n5_; have BK331 := n6_; have HB := n7_; clear n0_ n1_ n2_ n3_ n4_ n5_ n6_ n7_; (try clear hb); (try clear hb2); (try clear hk); (try clear hi); have hnb58 := NB331_304.out; have hnc58 := NB304_331.out; have hnb59 := NB331_305.out; have hnc59 := NB305_331.out; have hnb60 := NB331_321.out; have hnc60 := NB321_331.out; have hnb61 := NB331_309.out; have hnc61 := NB309_331.out; have hcz62_0 : w57.cell? ⟨gb331,0,none⟩ = some (.int .i64 (wrap64 (t315 + t322))) := (zN BK331.out 0).trans rfl; have hcz62_1 : w57.cell? ⟨gb331,1,none⟩ = some (.int .i64 (wrap64 (t311 + t325))) := (zN BK331.out 1).trans rfl; have hcz62_2 : w57.cell? ⟨gb331,2,none⟩ = some (.string t328) := (zN BK331.out 2).trans rfl; have hfz62_0 := zL BK331.out 0; have hfz62_1 := zL BK331.out 1; have hfz62_2 := zL BK331.out 2))
      go_meet
      case rel => exact ⟨_,(wrap64 (t315 + t322)),(wrap64 (t311 + t325)),(t350),H',⟨by first|omega|exact Nat.le_refl _⟩,⟨by (with_reducible repeat (first|apply Kd.R_alloc|apply Kd.R_drewN|apply Kd.R_drew)); exact zC (zB (p := ⟨gb331,2,none⟩) (Kd.R_types HO314.out BK331.out (by decide)) (fun _ h=>h.2) (.string t350)) (fun _ hk => hk.1)⟩,⟨by (with_reducible repeat (first|apply Kd.R_alloc|apply Kd.R_drewN|apply Kd.R_drew)); exact zC (zB (p := ⟨gb331,2,none⟩) (Kd.R_types HO318.out BK331.out (by decide)) (fun _ h=>h.2) (.string t350)) (fun _ hk => hk.1)⟩,⟨by (with_reducible repeat (first|refine zI ?_ _|refine zK ?_|refine zJ ?_ _)); refine zO ?_ NB304_331.out _; (with_reducible repeat (first|refine zI ?_ _|refine zK ?_|refine zJ ?_ _)); exact BK304.out⟩,⟨by (with_reducible repeat (first|refine zI ?_ _|refine zK ?_|refine zJ ?_ _)); refine zO ?_ NB305_331.out _; (with_reducible repeat (first|refine zI ?_ _|refine zK ?_|refine zJ ?_ _)); exact BK305.out⟩,⟨by (with_reducible repeat (first|refine zI ?_ _|refine zK ?_|refine zJ ?_ _)); refine zO ?_ NB321_331.out _; (with_reducible repeat (first|refine zI ?_ _|refine zK ?_|refine zJ ?_ _)); exact BK321.out⟩,⟨by (with_reducible repeat (first|refine zI ?_ _|refine zK ?_|refine zJ ?_ _)); refine blk_put (cs := #[.int .i64 (wrap64 (t315 + t322)),.int .i64 (wrap64 (t311 + t325)),.string t328]) ?_ 2 _ rfl; (with_reducible repeat (first|refine zI ?_ _|refine zK ?_|refine zJ ?_ _)); exact BK331.out⟩,⟨by repeat (first|(with_reducible first|exact HB.out|apply zF|apply zH|apply zG|refine zE ?_ (IsS81.ge HI309.out)|refine zE ?_ GE304.out|refine zE ?_ GE305.out|refine zE ?_ GE321.out|refine zE ?_ GE331.out)|exact HB.out)⟩⟩
     ·
      rw [if_neg c53] at H
      have c53b0 : (t332 == 2) = false := beq_eq_false_iff_ne.mpr c53
      have c53b1 : (t332 != 2) = true := bne_iff_ne.mpr c53
      have H' := zA H
      clear H; go_wp2
      go_meet
      case rel => exact ⟨_,(wrap64 (t315 + t322)),(wrap64 (t311 + t325)),(t328),H',⟨by first|omega|exact Nat.le_refl _⟩,⟨(rrA10 HO314.out)⟩,⟨(rrA10 HO318.out)⟩,⟨(rrB10 BK304.out)⟩,⟨(rrB10 BK305.out)⟩,⟨(rrB10 BK321.out)⟩,⟨(rrB10 BK331.out)⟩,⟨by repeat (first|(with_reducible first|exact HB.out|apply zF|apply zH|apply zG|refine zE ?_ (IsS81.ge HI309.out)|refine zE ?_ GE304.out|refine zE ?_ GE305.out|refine zE ?_ GE321.out|refine zE ?_ GE331.out)|exact HB.out)⟩⟩
  case rest =>
   clear HC8; try clear p2; try clear c3; try clear c4; try clear c5; try clear c6; try clear p6; try clear c31; try clear c31b0; try clear c31b1; try clear c37; try clear c38; try clear c39; try clear c40; try clear c42; try clear c42b0; try clear c42b1; try clear c48; try clear c49; try clear c50; try clear c51; try clear c52; try clear c53; try clear c53b0; try clear c53b1; try clear c58; try clear c59; try clear c60; try clear c61; try clear hcz41_0; try clear hcz41_1; try clear hcz41_2; try clear hcz52_0; try clear hcz52_1; try clear hcz52_2; try clear hcz62_0; try clear hcz62_1; try clear hcz62_2; try clear hfz41_0; try clear hfz41_1; try clear hfz41_2; try clear hfz52_0; try clear hfz52_1; try clear hfz52_2; try clear hfz62_0; try clear hfz62_1; try clear hfz62_2
   obtain ⟨kq,x332000_7,x332001_7,x332002_7,HA,HJ7,HO_322002,HO_322004,BK304,BK305,BK321,BK331,HB⟩ := hcut
   cases kq with
   | zero => exact absurd HA.out (by simp [spec_DrawReceive.j0])
   | succ kj7 =>
    have H := HA.out
    clear HA
    simp only [spec_DrawReceive.j0] at H
    simp only [Option.some.injEq,Prod.mk.injEq] at H
    obtain ⟨rfl,rfl,rfl,rfl,rfl,rfl,rfl,rfl⟩ := H
    try go_wp2
    have n0_ := zA (Kd.R_drew HO_322002.out)
    have n1_ := zA (Kd.R_drew HO_322004.out)
    have n2_ := zA (zK BK304.out)
    have n3_ := zA (zK BK305.out)
    have n4_ := zA (zK BK321.out)
    have n5_ := zA (zK BK331.out)
    have n6_ := zA (zG HB.out)
    clear HO_322002 HO_322004 BK304 BK305 BK321 BK331 HB
    have HO_322002 := n0_
    have HO_322004 := n1_
    have BK304 := n2_
    have BK305 := n3_
    have BK321 := n4_
    have BK331 := n5_
    have HB := n6_
    clear n0_ n1_ n2_ n3_ n4_ n5_ n6_
    refine start_ (n := 4) (S := fun w' => w'.cell? ⟨gb321,0,none⟩ = some (.int .i64 t310) ∧ w'.cell? ⟨gb321,1,none⟩ = some (.int .i64 t311) ∧ w'.cell? ⟨gb321,2,none⟩ = some (.slice Ao18 t312.length co18) ∧ w'.cell? ⟨gb321,3,none⟩ = some (.int .i64 t315) ∧ w'.cell? ⟨gb321,4,none⟩ = some (.slice Ao19 t316.length co19) ∧ w'.cell? ⟨gb331,0,none⟩ = some (.int .i64 x332000_7) ∧ w'.cell? ⟨gb331,1,none⟩ = some (.int .i64 x332001_7) ∧ w'.cell? ⟨gb331,2,none⟩ = some (.string x332002_7)) (ds := []) #[false,false,false,false] (by kernel_rfl) rfl rfl ⟨(zN BK321.out 0).trans rfl,(zN BK321.out 1).trans rfl,(zN BK321.out 2).trans rfl,(zN BK321.out 3).trans rfl,(zN BK321.out 4).trans rfl,(zN BK331.out 0).trans rfl,(zN BK331.out 1).trans rfl,(zN BK331.out 2).trans rfl⟩ (fun hHeld => ?_)
    generalize wc.drew = w63 at HO_322002 HO_322004 BK304 BK305 BK321 BK331 HB hHeld ⊢
    refine take_ (i := 0) (N := some 45) (v := ?_) (a' := ?_) #[true,false,false,false] rfl rfl (by kernel_rfl) (fun _ _ _ h => h) (Or.inl ⟨by rfl,?_⟩) hHeld ?_ ?_; rotate_left
    ·
     rintro w' ⟨s0,s1,s2,s3,s4,s5,s6,s7⟩
     go_simp; with_reducible rfl
    rotate_left
    · simp only [Act.put,List.setIfInBounds_toArray,List.set_cons_zero,List.set_cons_succ,i64_w,i32_w]; rfl
    refine take_ (i := 1) (N := some 46) (v := ?_) (a' := ?_) #[true,true,false,false] rfl rfl (by kernel_rfl) (fun _ _ _ h => h) (Or.inl ⟨by rfl,?_⟩) hHeld ?_ ?_; rotate_left
    ·
     rintro w' ⟨s0,s1,s2,s3,s4,s5,s6,s7⟩
     go_simp; with_reducible rfl
    rotate_left
    · simp only [Act.put,List.setIfInBounds_toArray,List.set_cons_zero,List.set_cons_succ,i64_w,i32_w]; rfl
    refine one_ (i := 2) (N := none) #[true,true,true,false] rfl rfl (by kernel_rfl) (by decide) (fun K hK => ?_)
    have hs64 : w63.cell? ⟨gb304,0,none⟩ = some (.int .i64 0) := (zN BK304.out 0).trans rfl
    have hfs64 := zL BK304.out 0
    have hns64_1 := NB305_304.out
    have hns64_2 := NB321_304.out
    have hns64_3 := NB331_304.out
    have hms64_1 := NB304_305.out
    have hms64_2 := NB304_321.out
    have hms64_3 := NB304_331.out
    have hs65 : w63.cell? ⟨gb304,1,none⟩ = some (.int .i64 0) := (zN BK304.out 1).trans rfl
    have hfs65 := zL BK304.out 1
    have hns65_1 := NB305_304.out
    have hns65_2 := NB321_304.out
    have hns65_3 := NB331_304.out
    have hms65_1 := NB304_305.out
    have hms65_2 := NB304_321.out
    have hms65_3 := NB304_331.out
    have hs66 : w63.cell? ⟨gb304,2,none⟩ = some (.slice none 0 0) := (zN BK304.out 2).trans rfl
    have hfs66 := zL BK304.out 2
    have hns66_1 := NB305_304.out
    have hns66_2 := NB321_304.out
    have hns66_3 := NB331_304.out
    have hms66_1 := NB304_305.out
    have hms66_2 := NB304_321.out
    have hms66_3 := NB304_331.out
    have hs67 : w63.cell? ⟨gb304,3,none⟩ = some (.int .i64 0) := (zN BK304.out 3).trans rfl
    have hfs67 := zL BK304.out 3
    have hns67_1 := NB305_304.out
    have hns67_2 := NB321_304.out
    have hns67_3 := NB331_304.out
    have hms67_1 := NB304_305.out
    have hms67_2 := NB304_321.out
    have hms67_3 := NB304_331.out
    have hs68 : w63.cell? ⟨gb304,4,none⟩ = some (.slice none 0 0) := (zN BK304.out 4).trans rfl
    have hfs68 := zL BK304.out 4
    have hns68_1 := NB305_304.out
    have hns68_2 := NB321_304.out
    have hns68_3 := NB331_304.out
    have hms68_1 := NB304_305.out
    have hms68_2 := NB304_321.out
    have hms68_3 := NB304_331.out
    refine skip_ (w1 := ?_) (by rfl) rfl ?_ ?_
    rotate_left
    · go_simp; rfl
    refine hK.out _ _ ⟨((cell_far (p := ⟨gb304,_,none⟩) NB321_304.out _).trans (((cell_far (p := ⟨gb304,_,none⟩) NB321_304.out _).trans (((cell_far (p := ⟨gb304,_,none⟩) NB321_304.out _).trans (((cell_far (p := ⟨gb304,_,none⟩) NB321_304.out _).trans (((cell_far (p := ⟨gb304,_,none⟩) NB321_304.out _).trans (hHeld.1)))))))))),((cell_far (p := ⟨gb304,_,none⟩) NB321_304.out _).trans (((cell_far (p := ⟨gb304,_,none⟩) NB321_304.out _).trans (((cell_far (p := ⟨gb304,_,none⟩) NB321_304.out _).trans (((cell_far (p := ⟨gb304,_,none⟩) NB321_304.out _).trans (((cell_far (p := ⟨gb304,_,none⟩) NB321_304.out _).trans (hHeld.2.1)))))))))),((cell_far (p := ⟨gb304,_,none⟩) NB321_304.out _).trans (((cell_far (p := ⟨gb304,_,none⟩) NB321_304.out _).trans (((cell_far (p := ⟨gb304,_,none⟩) NB321_304.out _).trans (((cell_far (p := ⟨gb304,_,none⟩) NB321_304.out _).trans (((cell_far (p := ⟨gb304,_,none⟩) NB321_304.out _).trans (hHeld.2.2.1)))))))))),((cell_far (p := ⟨gb304,_,none⟩) NB321_304.out _).trans (((cell_far (p := ⟨gb304,_,none⟩) NB321_304.out _).trans (((cell_far (p := ⟨gb304,_,none⟩) NB321_304.out _).trans (((cell_far (p := ⟨gb304,_,none⟩) NB321_304.out _).trans (((cell_far (p := ⟨gb304,_,none⟩) NB321_304.out _).trans (hHeld.2.2.2.1)))))))))),((cell_far (p := ⟨gb304,_,none⟩) NB321_304.out _).trans (((cell_far (p := ⟨gb304,_,none⟩) NB321_304.out _).trans (((cell_far (p := ⟨gb304,_,none⟩) NB321_304.out _).trans (((cell_far (p := ⟨gb304,_,none⟩) NB321_304.out _).trans (((cell_far (p := ⟨gb304,_,none⟩) NB321_304.out _).trans (hHeld.2.2.2.2.1)))))))))),((cell_far (p := ⟨gb304,_,none⟩) NB331_304.out _).trans (((cell_far (p := ⟨gb304,_,none⟩) NB331_304.out _).trans (((cell_far (p := ⟨gb304,_,none⟩) NB331_304.out _).trans (((cell_far (p := ⟨gb304,_,none⟩) NB331_304.out _).trans (((cell_far (p := ⟨gb304,_,none⟩) NB331_304.out _).trans (hHeld.2.2.2.2.2.1)))))))))),((cell_far (p := ⟨gb304,_,none⟩) NB331_304.out _).trans (((cell_far (p := ⟨gb304,_,none⟩) NB331_304.out _).trans (((cell_far (p := ⟨gb304,_,none⟩) NB331_304.out _).trans (((cell_far (p := ⟨gb304,_,none⟩) NB331_304.out _).trans (((cell_far (p := ⟨gb304,_,none⟩) NB331_304.out _).trans (hHeld.2.2.2.2.2.2.1)))))))))),((cell_far (p := ⟨gb304,_,none⟩) NB331_304.out _).trans (((cell_far (p := ⟨gb304,_,none⟩) NB331_304.out _).trans (((cell_far (p := ⟨gb304,_,none⟩) NB331_304.out _).trans (((cell_far (p := ⟨gb304,_,none⟩) NB331_304.out _).trans (((cell_far (p := ⟨gb304,_,none⟩) NB331_304.out _).trans (hHeld.2.2.2.2.2.2.2))))))))))⟩ (fun hHeld => ?_)
    clear hK K
    refine one_ (i := 3) (N := none) #[true,true,true,true] rfl rfl (by kernel_rfl) (by decide) (fun K hK => ?_)
    have hs69 : w63.cell? ⟨gb305,0,none⟩ = some (.int .i64 0) := (zN BK305.out 0).trans rfl
    have hfs69 := zL BK305.out 0
    have hns69_0 := NB304_305.out
    have hns69_2 := NB321_305.out
    have hns69_3 := NB331_305.out
    have hms69_0 := NB305_304.out
    have hms69_2 := NB305_321.out
    have hms69_3 := NB305_331.out
    have hs70 : w63.cell? ⟨gb305,1,none⟩ = some (.int .i64 0) := (zN BK305.out 1).trans rfl
    have hfs70 := zL BK305.out 1
    have hns70_0 := NB304_305.out
    have hns70_2 := NB321_305.out
    have hns70_3 := NB331_305.out
    have hms70_0 := NB305_304.out
    have hms70_2 := NB305_321.out
    have hms70_3 := NB305_331.out
    have hs71 : w63.cell? ⟨gb305,2,none⟩ = some (.string (⟨#[]⟩ : ByteArray)) := (zN BK305.out 2).trans rfl
    have hfs71 := zL BK305.out 2
    have hns71_0 := NB304_305.out
    have hns71_2 := NB321_305.out
    have hns71_3 := NB331_305.out
    have hms71_0 := NB305_304.out
    have hms71_2 := NB305_321.out
    have hms71_3 := NB305_331.out
    refine skip_ (w1 := ?_) (by rfl) rfl ?_ ?_
    rotate_left
    · go_simp; rfl
    refine hK.out _ _ ⟨((cell_far (p := ⟨gb305,_,none⟩) NB321_305.out _).trans (((cell_far (p := ⟨gb305,_,none⟩) NB321_305.out _).trans (((cell_far (p := ⟨gb305,_,none⟩) NB321_305.out _).trans (hHeld.1)))))),((cell_far (p := ⟨gb305,_,none⟩) NB321_305.out _).trans (((cell_far (p := ⟨gb305,_,none⟩) NB321_305.out _).trans (((cell_far (p := ⟨gb305,_,none⟩) NB321_305.out _).trans (hHeld.2.1)))))),((cell_far (p := ⟨gb305,_,none⟩) NB321_305.out _).trans (((cell_far (p := ⟨gb305,_,none⟩) NB321_305.out _).trans (((cell_far (p := ⟨gb305,_,none⟩) NB321_305.out _).trans (hHeld.2.2.1)))))),((cell_far (p := ⟨gb305,_,none⟩) NB321_305.out _).trans (((cell_far (p := ⟨gb305,_,none⟩) NB321_305.out _).trans (((cell_far (p := ⟨gb305,_,none⟩) NB321_305.out _).trans (hHeld.2.2.2.1)))))),((cell_far (p := ⟨gb305,_,none⟩) NB321_305.out _).trans (((cell_far (p := ⟨gb305,_,none⟩) NB321_305.out _).trans (((cell_far (p := ⟨gb305,_,none⟩) NB321_305.out _).trans (hHeld.2.2.2.2.1)))))),((cell_far (p := ⟨gb305,_,none⟩) NB331_305.out _).trans (((cell_far (p := ⟨gb305,_,none⟩) NB331_305.out _).trans (((cell_far (p := ⟨gb305,_,none⟩) NB331_305.out _).trans (hHeld.2.2.2.2.2.1)))))),((cell_far (p := ⟨gb305,_,none⟩) NB331_305.out _).trans (((cell_far (p := ⟨gb305,_,none⟩) NB331_305.out _).trans (((cell_far (p := ⟨gb305,_,none⟩) NB331_305.out _).trans (hHeld.2.2.2.2.2.2.1)))))),((cell_far (p := ⟨gb305,_,none⟩) NB331_305.out _).trans (((cell_far (p := ⟨gb305,_,none⟩) NB331_305.out _).trans (((cell_far (p := ⟨gb305,_,none⟩) NB331_305.out _).trans (hHeld.2.2.2.2.2.2.2))))))⟩ (fun hHeld => ?_)
    clear hK K
    refine done_ (by kernel_rfl) ?_
    try go_wp2
    refine bodyPost_ret (results_cc rfl _ _ gb304 gb305 26 36 #[.int .i64 t310,.int .i64 t311,.slice Ao18 t312.length co18,.int .i64 t315,.slice Ao19 t316.length co19] #[.int .i64 x332000_7,.int .i64 x332001_7,.string x332002_7] (0,0) (0,0) _ _ rfl (by (with_reducible repeat (first|refine zI ?_ _|refine zK ?_|refine zJ ?_ _)); refine zO ?_ NB304_305.out _; (with_reducible repeat (first|refine zI ?_ _|refine zK ?_|refine zJ ?_ _)); refine zO ?_ NB304_305.out _; (with_reducible repeat (first|refine zI ?_ _|refine zK ?_|refine zJ ?_ _)); refine zO ?_ NB304_305.out _; (with_reducible repeat (first|refine zI ?_ _|refine zK ?_|refine zJ ?_ _)); refine blk_put (cs := #[.int .i64 t310,.int .i64 t311,.slice Ao18 t312.length co18,.int .i64 t315,.slice none 0 0]) ?_ 4 _ rfl; (with_reducible repeat (first|refine zI ?_ _|refine zK ?_|refine zJ ?_ _)); refine blk_put (cs := #[.int .i64 t310,.int .i64 t311,.slice Ao18 t312.length co18,.int .i64 0,.slice none 0 0]) ?_ 3 _ rfl; (with_reducible repeat (first|refine zI ?_ _|refine zK ?_|refine zJ ?_ _)); refine blk_put (cs := #[.int .i64 t310,.int .i64 t311,.slice none 0 0,.int .i64 0,.slice none 0 0]) ?_ 2 _ rfl; (with_reducible repeat (first|refine zI ?_ _|refine zK ?_|refine zJ ?_ _)); refine blk_put (cs := #[.int .i64 t310,.int .i64 0,.slice none 0 0,.int .i64 0,.slice none 0 0]) ?_ 1 _ rfl; (with_reducible repeat (first|refine zI ?_ _|refine zK ?_|refine zJ ?_ _)); refine blk_put (cs := #[.int .i64 0,.int .i64 0,.slice none 0 0,.int .i64 0,.slice none 0 0]) ?_ 0 _ rfl; (with_reducible repeat (first|refine zI ?_ _|refine zK ?_|refine zJ ?_ _)); exact BK304.out) Try.underlying26 rfl (by kernel_rfl) rfl (by (with_reducible repeat (first|refine zI ?_ _|refine zK ?_|refine zJ ?_ _)); refine blk_put (cs := #[.int .i64 x332000_7,.int .i64 x332001_7,.string (⟨#[]⟩ : ByteArray)]) ?_ 2 _ rfl; (with_reducible repeat (first|refine zI ?_ _|refine zK ?_|refine zJ ?_ _)); refine blk_put (cs := #[.int .i64 x332000_7,.int .i64 0,.string (⟨#[]⟩ : ByteArray)]) ?_ 1 _ rfl; (with_reducible repeat (first|refine zI ?_ _|refine zK ?_|refine zJ ?_ _)); refine blk_put (cs := #[.int .i64 0,.int .i64 0,.string (⟨#[]⟩ : ByteArray)]) ?_ 0 _ rfl; (with_reducible repeat (first|refine zI ?_ _|refine zK ?_|refine zJ ?_ _)); refine zO ?_ NB305_304.out _; (with_reducible repeat (first|refine zI ?_ _|refine zK ?_|refine zJ ?_ _)); refine zO ?_ NB305_304.out _; (with_reducible repeat (first|refine zI ?_ _|refine zK ?_|refine zJ ?_ _)); refine zO ?_ NB305_304.out _; (with_reducible repeat (first|refine zI ?_ _|refine zK ?_|refine zJ ?_ _)); refine zO ?_ NB305_304.out _; (with_reducible repeat (first|refine zI ?_ _|refine zK ?_|refine zJ ?_ _)); refine zO ?_ NB305_304.out _; (with_reducible repeat (first|refine zI ?_ _|refine zK ?_|refine zJ ?_ _)); exact BK305.out) Try.underlying36 rfl (by kernel_rfl)) rfl ?_
    exact ⟨_,_,by first|rfl|(simp [errW_none,errW_some] <;> rfl)|(simp [*,errW_none,errW_some] <;> rfl),by (with_reducible repeat (first|apply Kd.R_alloc|apply Kd.R_drewN|apply Kd.R_drew)); exact zC (zB (p := ⟨gb305,2,none⟩) (zB (p := ⟨gb305,1,none⟩) (zB (p := ⟨gb305,0,none⟩) (zB (p := ⟨gb304,4,none⟩) (zB (p := ⟨gb304,3,none⟩) (zB (p := ⟨gb304,2,none⟩) (zB (p := ⟨gb304,1,none⟩) (zB (p := ⟨gb304,0,none⟩) (Kd.R_types (Kd.R_types HO_322002.out BK304.out (by decide)) BK305.out (by decide)) (fun _ hk => hk.1.2) (.int .i64 t310)) (fun _ hk => hk.1.2) (.int .i64 t311)) (fun _ hk => hk.1.2) (.slice Ao18 t312.length co18)) (fun _ hk => hk.1.2) (.int .i64 t315)) (fun _ hk => hk.1.2) (.slice Ao19 t316.length co19)) (fun _ h=>h.2) (.int .i64 x332000_7)) (fun _ h=>h.2) (.int .i64 x332001_7)) (fun _ h=>h.2) (.string x332002_7)) (fun _ hk => hk.1.1),by (with_reducible repeat (first|apply Kd.R_alloc|apply Kd.R_drewN|apply Kd.R_drew)); exact zC (zB (p := ⟨gb305,2,none⟩) (zB (p := ⟨gb305,1,none⟩) (zB (p := ⟨gb305,0,none⟩) (zB (p := ⟨gb304,4,none⟩) (zB (p := ⟨gb304,3,none⟩) (zB (p := ⟨gb304,2,none⟩) (zB (p := ⟨gb304,1,none⟩) (zB (p := ⟨gb304,0,none⟩) (Kd.R_types (Kd.R_types HO_322004.out BK304.out (by decide)) BK305.out (by decide)) (fun _ hk => hk.1.2) (.int .i64 t310)) (fun _ hk => hk.1.2) (.int .i64 t311)) (fun _ hk => hk.1.2) (.slice Ao18 t312.length co18)) (fun _ hk => hk.1.2) (.int .i64 t315)) (fun _ hk => hk.1.2) (.slice Ao19 t316.length co19)) (fun _ h=>h.2) (.int .i64 x332000_7)) (fun _ h=>h.2) (.int .i64 x332001_7)) (fun _ h=>h.2) (.string x332002_7)) (fun _ hk => hk.1.1),by repeat (first|(with_reducible first|exact HB.out|apply zF|apply zH|apply zG|refine zE ?_ GE304.out|refine zE ?_ GE305.out|refine zE ?_ GE321.out|refine zE ?_ GE331.out)|exact HB.out)⟩

end Go.Proofs.Ytlidnobkkgcnlaa.PFnReceives
