-- Written by a program out of the translation,for this claim.
import Derived.Test.YtokoihmjcfhemaaPFnExactSpreadx0
import Derived.Test.YtokoihmjcfhemaaPFnExactSpreadx1
import Derived.Test.YtokoihmjcfhemaaPFnExactSpreadx2
import Derived.Test.YtokoihmjcfhemaaPFnExactSpreadx4
import Derived.Test.YtokoihmjcfhemaaPFnExactSpreadx5
import Derived.Test.YtokoihmjcfhemaaPFnExactSpreadx6
import Derived.Test.YtokoihmjcfhemaaPFnExactSpreadx7
import Derived.Test.YtokoihmjcfhemaaPFnExactSpreadx8
import Derived.Test.YtokoihmjcfhemaaPFnExactSpreadx15
import Derived.Test.YtokoihmjcfhemaaPFnExactSpreadx17
import Derived.Test.YtokoihmjcfhemaaPFnExactSpreadx24
import Derived.Test.YtokoihmjcfhemaaPFnExactSpreadx25
import Derived.Test.YtokoihmjcfhemaaPFnExactSpreadx26
namespace Go.Proofs.Ytokoihmjcfhemaa.PFnExactSpread
open Go.RowKit Go.Proofs.YtokoihmjcfhemaaW.PrintWords Go.Proofs.YtokoihmjcfhemaaW.PrintLast Go.Proofs.YtokoihmjcfhemaaW.PrintMore
attribute [local go_sem] max2_int min2_int max_two min_two max_three min_three max_four min_four   -- for this text's walks alone
set_option linter.unusedVariables false
set_option linter.unusedSimpArgs false
theorem rrA27 {p q : Prop} (h : p) (f : p → q := by (intro h_; (with_reducible repeat (first | apply Kd.R_alloc | apply Kd.R_drewN | apply Kd.R_drew)); exact h_)) : q := f h
open Go.Proofs.YtokoihmjcfhemaaW.PrintWords.Aside0 renaming mk → zA
open Go.Proofs.YtokoihmjcfhemaaW.PrintWords.Kd renaming R_below → zB
open Go.Proofs.YtokoihmjcfhemaaW.PrintWords.Kd renaming R_reads' → zC
open Go.Proofs.YtokoihmjcfhemaaW.PrintWords renaming below_alloc → zD
open Go.Proofs.YtokoihmjcfhemaaW.PrintWords renaming below_drew1 → zE
open Go.Proofs.YtokoihmjcfhemaaW.PrintWords renaming pw_below_drewN → zF
open Go.Proofs.YtokoihmjcfhemaaW.PrintWords renaming below_step → zG

/-! ### laws_FnExactSpread: function 6 -/
mutual
def laws_FnExactSpread.j0 : Nat → Int → List (S53) → Int → List (List Int) → List Int → Int → List (S38) → List (List Int) → List Int → Int → Bool → Option (Bool)
  | 0,_,_,_,_,_,_,_,_,_,_,_ => none
  | k + 1,x0,x1,x2,x3,x10,x11,x12,x13,x14,x15,x61 => if x61 = true then (some false) else ((laws_toRoadS.f k x1).bind fun t286 => ((laws_eqRoadS.f k x12 t286).bind fun t289 => (if t289 = true then ((laws_toIntSS.f k x3).bind fun t290 => ((laws_eqIntSS.f k x13 t290).bind fun t293 => (if t293 = true then ((laws_markRoadS.f k x12 1).bind fun bt294 => ((laws_markIntSS.f k x13 bt294.1).bind fun t296 => (if t296 < 0 then (laws_FnExactSpread.j1 k x0 x1 x2 x3 x10 x11 x14 true) else ((laws_eqIntS.f k x14 x10).bind fun t297 => (if t297 = true then (laws_FnExactSpread.j1 k x0 x1 x2 x3 x10 x11 x14 (x15 != x11)) else (laws_FnExactSpread.j1 k x0 x1 x2 x3 x10 x11 x14 true)))))) else (some false)))) else (some false))))
def laws_FnExactSpread.j1 : Nat → Int → List (S53) → Int → List (List Int) → List Int → Int → List Int → Bool → Option (Bool)
  | 0,_,_,_,_,_,_,_,_ => none
  | k + 1,x0,x1,x2,x3,x10,x11,x14,x90 => if x90 = true then (some false) else ((laws_markIntS.f k x14 1).bind fun bt298 => ((laws_heldIntS.f k bt298.2 1).bind fun t300 => (if t300 < 0 then (some false) else (if t300 = bt298.1 then ((laws_toRoadS.f k x1).bind fun t301 => ((laws_toIntSS.f k x3).bind fun t304 => ((impl_Spread.f k x0 t301 x2 t304).bind fun bt307 => ((laws_eqIntS.f k bt307.1 x10).bind fun t311 => (if t311 = true then (laws_FnExactSpread.j2 k bt298.2 bt298.1 (bt307.2 != x11)) else (laws_FnExactSpread.j2 k bt298.2 bt298.1 true)))))) else (some false)))))
def laws_FnExactSpread.j2 : Nat → List Int → Int → Bool → Option (Bool)
  | 0,_,_,_ => none
  | k + 1,x14,x17,x120 => if x120 = true then (some false) else ((laws_heldIntS.f k x14 1).bind fun t312 => (if t312 < 0 then (some false) else (if t312 = x17 then (some true) else (some false))))
end
def laws_FnExactSpread.f (k : Nat) (a0 : Int) (l1 : List (S53)) (a2 : Int) (l3 : List (List Int)) : Option (Bool) := (laws_szRoadS.f l1 1048576).bind fun t263 => (if t263 < 0 then (some true) else ((laws_szIntSS.f k l3 t263).bind fun t264 => (if t264 < 0 then (some true) else ((laws_toRoadS.f k l1).bind fun t265 => ((laws_toIntSS.f k l3).bind fun t268 => ((spec_Spread.f k a0 t265 a2 t268).bind fun bt271 => ((laws_toRoadS.f k l1).bind fun t275 => ((laws_toIntSS.f k l3).bind fun t278 => ((impl_Spread.f k a0 t275 a2 t278).bind fun bt281 => ((laws_eqIntS.f k bt281.1 bt271.1).bind fun t285 => (if t285 = true then (laws_FnExactSpread.j0 k a0 l1 a2 l3 bt271.1 bt271.2 t275 t278 bt281.1 bt281.2 (bt281.2 != bt271.2)) else (laws_FnExactSpread.j0 k a0 l1 a2 l3 bt271.1 bt271.2 t275 t278 bt281.1 bt281.2 true))))))))))))
theorem laws_FnExactSpread.mono_l : ∀ k,(∀ y0 y1 y2 y3 y4 y5 y6 y7 y8 y9 y10,LeO (laws_FnExactSpread.j0 k y0 y1 y2 y3 y4 y5 y6 y7 y8 y9 y10) (laws_FnExactSpread.j0 (k + 1) y0 y1 y2 y3 y4 y5 y6 y7 y8 y9 y10)) ∧ (∀ y0 y1 y2 y3 y4 y5 y6 y7,LeO (laws_FnExactSpread.j1 k y0 y1 y2 y3 y4 y5 y6 y7) (laws_FnExactSpread.j1 (k + 1) y0 y1 y2 y3 y4 y5 y6 y7)) ∧ (∀ y0 y1 y2,LeO (laws_FnExactSpread.j2 k y0 y1 y2) (laws_FnExactSpread.j2 (k + 1) y0 y1 y2))
  | 0 => ⟨fun _ _ _ _ _ _ _ _ _ _ _ r h => by simp [laws_FnExactSpread.j0] at h,fun _ _ _ _ _ _ _ _ r h => by simp [laws_FnExactSpread.j1] at h,fun _ _ _ r h => by simp [laws_FnExactSpread.j2] at h⟩
  | k + 1 => by
   obtain ⟨ih0,ih1,ih2⟩ := laws_FnExactSpread.mono_l k
   refine ⟨?_,?_,?_⟩
   ·
    intro y0 y1 y2 y3 y4 y5 y6 y7 y8 y9 y10
    unfold laws_FnExactSpread.j0
    repeat' first
   |(with_reducible exact ih0 _ _ _ _ _ _ _ _ _ _ _)
   |(with_reducible exact ih1 _ _ _ _ _ _ _ _)
   |(with_reducible exact ih2 _ _ _)
   |(with_reducible exact impl_Spread.mono _ _ _ _ _)
   |(with_reducible exact laws_eqIntS.mono _ _ _)
   |(with_reducible exact laws_eqIntSS.mono _ _ _)
   |(with_reducible exact laws_eqRoadS.mono _ _ _)
   |(with_reducible exact laws_heldIntS.mono _ _ _)
   |(with_reducible exact laws_markIntS.mono _ _ _)
   |(with_reducible exact laws_markIntSS.mono _ _ _)
   |(with_reducible exact laws_markRoadS.mono _ _ _)
   |(with_reducible exact laws_szIntSS.mono _ _ _)
   |(with_reducible exact laws_toIntSS.mono _ _)
   |(with_reducible exact laws_toRoadS.mono _ _)
   |(with_reducible exact spec_Spread.mono _ _ _ _ _)
   |(with_reducible exact LeO.refl _)
   |(with_reducible exact LeO.none _)
   |(with_reducible refine LeO.ite ?_ ?_)
   |(with_reducible refine LeO.bind ?_ (fun _ => ?_))
   |exact ih0 _ _ _ _ _ _ _ _ _ _ _
   |exact ih1 _ _ _ _ _ _ _ _
   |exact ih2 _ _ _
   |exact impl_Spread.mono _ _ _ _ _
   |exact laws_eqIntS.mono _ _ _
   |exact laws_eqIntSS.mono _ _ _
   |exact laws_eqRoadS.mono _ _ _
   |exact laws_heldIntS.mono _ _ _
   |exact laws_markIntS.mono _ _ _
   |exact laws_markIntSS.mono _ _ _
   |exact laws_markRoadS.mono _ _ _
   |exact laws_szIntSS.mono _ _ _
   |exact laws_toIntSS.mono _ _
   |exact laws_toRoadS.mono _ _
   |exact spec_Spread.mono _ _ _ _ _
   |exact LeO.none _
   |refine LeO.ite ?_ ?_
   |refine LeO.bind ?_ (fun _ => ?_)
   ·
    intro y0 y1 y2 y3 y4 y5 y6 y7
    unfold laws_FnExactSpread.j1
    repeat' first
   |(with_reducible exact ih0 _ _ _ _ _ _ _ _ _ _ _)
   |(with_reducible exact ih1 _ _ _ _ _ _ _ _)
   |(with_reducible exact ih2 _ _ _)
   |(with_reducible exact impl_Spread.mono _ _ _ _ _)
   |(with_reducible exact laws_eqIntS.mono _ _ _)
   |(with_reducible exact laws_eqIntSS.mono _ _ _)
   |(with_reducible exact laws_eqRoadS.mono _ _ _)
   |(with_reducible exact laws_heldIntS.mono _ _ _)
   |(with_reducible exact laws_markIntS.mono _ _ _)
   |(with_reducible exact laws_markIntSS.mono _ _ _)
   |(with_reducible exact laws_markRoadS.mono _ _ _)
   |(with_reducible exact laws_szIntSS.mono _ _ _)
   |(with_reducible exact laws_toIntSS.mono _ _)
   |(with_reducible exact laws_toRoadS.mono _ _)
   |(with_reducible exact spec_Spread.mono _ _ _ _ _)
   |(with_reducible exact LeO.refl _)
   |(with_reducible exact LeO.none _)
   |(with_reducible refine LeO.ite ?_ ?_)
   |(with_reducible refine LeO.bind ?_ (fun _ => ?_))
   |exact ih0 _ _ _ _ _ _ _ _ _ _ _
   |exact ih1 _ _ _ _ _ _ _ _
   |exact ih2 _ _ _
   |exact impl_Spread.mono _ _ _ _ _
   |exact laws_eqIntS.mono _ _ _
   |exact laws_eqIntSS.mono _ _ _
   |exact laws_eqRoadS.mono _ _ _
   |exact laws_heldIntS.mono _ _ _
   |exact laws_markIntS.mono _ _ _
   |exact laws_markIntSS.mono _ _ _
   |exact laws_markRoadS.mono _ _ _
   |exact laws_szIntSS.mono _ _ _
   |exact laws_toIntSS.mono _ _
   |exact laws_toRoadS.mono _ _
   |exact spec_Spread.mono _ _ _ _ _
   |exact LeO.none _
   |refine LeO.ite ?_ ?_
   |refine LeO.bind ?_ (fun _ => ?_)
   ·
    intro y0 y1 y2
    unfold laws_FnExactSpread.j2
    repeat' first
   |(with_reducible exact ih0 _ _ _ _ _ _ _ _ _ _ _)
   |(with_reducible exact ih1 _ _ _ _ _ _ _ _)
   |(with_reducible exact ih2 _ _ _)
   |(with_reducible exact impl_Spread.mono _ _ _ _ _)
   |(with_reducible exact laws_eqIntS.mono _ _ _)
   |(with_reducible exact laws_eqIntSS.mono _ _ _)
   |(with_reducible exact laws_eqRoadS.mono _ _ _)
   |(with_reducible exact laws_heldIntS.mono _ _ _)
   |(with_reducible exact laws_markIntS.mono _ _ _)
   |(with_reducible exact laws_markIntSS.mono _ _ _)
   |(with_reducible exact laws_markRoadS.mono _ _ _)
   |(with_reducible exact laws_szIntSS.mono _ _ _)
   |(with_reducible exact laws_toIntSS.mono _ _)
   |(with_reducible exact laws_toRoadS.mono _ _)
   |(with_reducible exact spec_Spread.mono _ _ _ _ _)
   |(with_reducible exact LeO.refl _)
   |(with_reducible exact LeO.none _)
   |(with_reducible refine LeO.ite ?_ ?_)
   |(with_reducible refine LeO.bind ?_ (fun _ => ?_))
   |exact ih0 _ _ _ _ _ _ _ _ _ _ _
   |exact ih1 _ _ _ _ _ _ _ _
   |exact ih2 _ _ _
   |exact impl_Spread.mono _ _ _ _ _
   |exact laws_eqIntS.mono _ _ _
   |exact laws_eqIntSS.mono _ _ _
   |exact laws_eqRoadS.mono _ _ _
   |exact laws_heldIntS.mono _ _ _
   |exact laws_markIntS.mono _ _ _
   |exact laws_markIntSS.mono _ _ _
   |exact laws_markRoadS.mono _ _ _
   |exact laws_szIntSS.mono _ _ _
   |exact laws_toIntSS.mono _ _
   |exact laws_toRoadS.mono _ _
   |exact spec_Spread.mono _ _ _ _ _
   |exact LeO.none _
   |refine LeO.ite ?_ ?_
   |refine LeO.bind ?_ (fun _ => ?_)
theorem laws_FnExactSpread.mono : ∀ a0 a1 a2 a3 k,LeO (laws_FnExactSpread.f k a0 a1 a2 a3) (laws_FnExactSpread.f (k + 1) a0 a1 a2 a3) := by
  intro a0 a1 a2 a3 k
  obtain ⟨ih0,ih1,ih2⟩ := laws_FnExactSpread.mono_l k
  unfold laws_FnExactSpread.f
  repeat' first
   |(with_reducible exact ih0 _ _ _ _ _ _ _ _ _ _ _)
   |(with_reducible exact ih1 _ _ _ _ _ _ _ _)
   |(with_reducible exact ih2 _ _ _)
   |(with_reducible exact impl_Spread.mono _ _ _ _ _)
   |(with_reducible exact laws_eqIntS.mono _ _ _)
   |(with_reducible exact laws_eqIntSS.mono _ _ _)
   |(with_reducible exact laws_eqRoadS.mono _ _ _)
   |(with_reducible exact laws_heldIntS.mono _ _ _)
   |(with_reducible exact laws_markIntS.mono _ _ _)
   |(with_reducible exact laws_markIntSS.mono _ _ _)
   |(with_reducible exact laws_markRoadS.mono _ _ _)
   |(with_reducible exact laws_szIntSS.mono _ _ _)
   |(with_reducible exact laws_toIntSS.mono _ _)
   |(with_reducible exact laws_toRoadS.mono _ _)
   |(with_reducible exact spec_Spread.mono _ _ _ _ _)
   |(with_reducible exact LeO.refl _)
   |(with_reducible exact LeO.none _)
   |(with_reducible refine LeO.ite ?_ ?_)
   |(with_reducible refine LeO.bind ?_ (fun _ => ?_))
   |exact ih0 _ _ _ _ _ _ _ _ _ _ _
   |exact ih1 _ _ _ _ _ _ _ _
   |exact ih2 _ _ _
   |exact impl_Spread.mono _ _ _ _ _
   |exact laws_eqIntS.mono _ _ _
   |exact laws_eqIntSS.mono _ _ _
   |exact laws_eqRoadS.mono _ _ _
   |exact laws_heldIntS.mono _ _ _
   |exact laws_markIntS.mono _ _ _
   |exact laws_markIntSS.mono _ _ _
   |exact laws_markRoadS.mono _ _ _
   |exact laws_szIntSS.mono _ _ _
   |exact laws_toIntSS.mono _ _
   |exact laws_toRoadS.mono _ _
   |exact spec_Spread.mono _ _ _ _ _
   |exact LeO.none _
   |refine LeO.ite ?_ ?_
   |refine LeO.bind ?_ (fun _ => ?_)
set_option maxHeartbeats 8000000 in
set_option maxRecDepth 100000 in
theorem laws_FnExactSpread.calls (k : Nat) (a0 : Int) (A1 : Option Addr) (c1 : Nat) (l1 : List (S53)) (a2 : Int) (A3 : Option Addr) (c3 : Nat) (l3 : List (List Int)) (r : Bool) (w : World) (hr1 : Kd.C k53 w A1 l1.length l1) (hc1 : l1.length ≤ c1) (hr3 : Kd.C (Kd.slice 3 (Kd.int .i64)) w A3 l3.length l3) (hc3 : l3.length ≤ c3) (h : laws_FnExactSpread.f k a0 l1 a2 l3 = some r) :
   Calls Try.prog 6 #[.int .i64 a0,.slice A1 l1.length c1,.int .i64 a2,.slice A3 l3.length c3] w fun e w' => e = .returned (.bool r) ∧ Below w.heap.size w w' := by
  have HR1 := zA hr1
  have HC1 := zA hc1
  clear hr1 hc1
  have HR3 := zA hr3
  have HC3 := zA hc3
  clear hr3 hc3
  have HB := zA (Below.refl w.heap.size w)
  have H : ((laws_szRoadS.f l1 1048576).bind fun t263 => (if t263 < 0 then (some true) else ((laws_szIntSS.f k l3 t263).bind fun t264 => (if t264 < 0 then (some true) else ((laws_toRoadS.f k l1).bind fun t265 => ((laws_toIntSS.f k l3).bind fun t268 => ((spec_Spread.f k a0 t265 a2 t268).bind fun bt271 => ((laws_toRoadS.f k l1).bind fun t275 => ((laws_toIntSS.f k l3).bind fun t278 => ((impl_Spread.f k a0 t275 a2 t278).bind fun bt281 => ((laws_eqIntS.f k bt281.1 bt271.1).bind fun t285 => (if t285 = true then (laws_FnExactSpread.j0 k a0 l1 a2 l3 bt271.1 bt271.2 t275 t278 bt281.1 bt281.2 (bt281.2 != bt271.2)) else (laws_FnExactSpread.j0 k a0 l1 a2 l3 bt271.1 bt271.2 t275 t278 bt281.1 bt281.2 true))))))))))))) = some r := h
  clear h
  replace H := Option.bind_eq_some_iff.mp H
  obtain ⟨t263,A50,H⟩ := H
  replace H : (if t263 < 0 then (some true) else ((laws_szIntSS.f k l3 t263).bind fun t264 => (if t264 < 0 then (some true) else ((laws_toRoadS.f k l1).bind fun t265 => ((laws_toIntSS.f k l3).bind fun t268 => ((spec_Spread.f k a0 t265 a2 t268).bind fun bt271 => ((laws_toRoadS.f k l1).bind fun t275 => ((laws_toIntSS.f k l3).bind fun t278 => ((impl_Spread.f k a0 t275 a2 t278).bind fun bt281 => ((laws_eqIntS.f k bt281.1 bt271.1).bind fun t285 => (if t285 = true then (laws_FnExactSpread.j0 k a0 l1 a2 l3 bt271.1 bt271.2 t275 t278 bt281.1 bt281.2 (bt281.2 != bt271.2)) else (laws_FnExactSpread.j0 k a0 l1 a2 l3 bt271.1 bt271.2 t275 t278 bt281.1 bt281.2 true)))))))))))) = some r := H
  have A5 := zA A50
  clear A50
  by_cases c6 : t263 < 0
  ·
   rw [if_pos c6] at H
   have c6b0 : decide (t263 < 0) = true := decide_eq_true c6
   clear c6
   obtain rfl := Option.some.inj H
   go_enter Try.func6,Try.ntmps6
   go_wp2_with (first | ((with_reducible refine gate_callee (f := 8) rfl ?_); refine goesL_ (some 23) rfl rfl Try.func8 (by kernel_rfl) rfl #[.slice A1 l1.length c1,.int .i64 1048576] rfl (by (try simp only [List.map_toArray,List.map_cons,List.map_nil]); first | done|rfl|(simp only [List.length_drop,List.length_take]; rfl)) ?_; (with_reducible refine (laws_szRoadS.calls _ _ l1 1048576 t263 _ ?side1 ?side2 A5.out).mono ?_); (case side1 => repeat (first|exact HR1.out|(with_reducible refine Kd.C_alloc ?_ _)|(with_reducible refine Kd.C_drewN ?_ _)|(with_reducible refine Kd.C_drew ?_))); (case side2 => exact HC1.out); rintro e w' ⟨rfl,⟨nd,rfl⟩⟩; refine ⟨_,rfl,?_⟩))
   go_ret
   exact ⟨by first|rfl|(simp [errW_none,errW_some] <;> rfl)|(simp [*,errW_none,errW_some] <;> rfl),by repeat (first|(with_reducible first|exact HB.out|apply zD|apply zF|apply zE)|exact HB.out)⟩
  ·
   rw [if_neg c6] at H
   have c6b0 : decide (t263 < 0) = false := decide_eq_false c6
   clear c6
   replace H := Option.bind_eq_some_iff.mp H
   obtain ⟨t264,A70,H⟩ := H
   replace H : (if t264 < 0 then (some true) else ((laws_toRoadS.f k l1).bind fun t265 => ((laws_toIntSS.f k l3).bind fun t268 => ((spec_Spread.f k a0 t265 a2 t268).bind fun bt271 => ((laws_toRoadS.f k l1).bind fun t275 => ((laws_toIntSS.f k l3).bind fun t278 => ((impl_Spread.f k a0 t275 a2 t278).bind fun bt281 => ((laws_eqIntS.f k bt281.1 bt271.1).bind fun t285 => (if t285 = true then (laws_FnExactSpread.j0 k a0 l1 a2 l3 bt271.1 bt271.2 t275 t278 bt281.1 bt281.2 (bt281.2 != bt271.2)) else (laws_FnExactSpread.j0 k a0 l1 a2 l3 bt271.1 bt271.2 t275 t278 bt281.1 bt281.2 true)))))))))) = some r := H
   have A7 := zA A70
   clear A70
   by_cases c8 : t264 < 0
   ·
    rw [if_pos c8] at H
    have c8b0 : decide (t264 < 0) = true := decide_eq_true c8
    clear c8
    obtain rfl := Option.some.inj H
    go_enter Try.func6,Try.ntmps6
    go_wp2_with (first | ((with_reducible refine gate_callee (f := 8) rfl ?_); refine goesL_ (some 23) rfl rfl Try.func8 (by kernel_rfl) rfl #[.slice A1 l1.length c1,.int .i64 1048576] rfl (by (try simp only [List.map_toArray,List.map_cons,List.map_nil]); first | done|rfl|(simp only [List.length_drop,List.length_take]; rfl)) ?_; (with_reducible refine (laws_szRoadS.calls _ _ l1 1048576 t263 _ ?side1 ?side2 A5.out).mono ?_); (case side1 => repeat (first|exact HR1.out|(with_reducible refine Kd.C_alloc ?_ _)|(with_reducible refine Kd.C_drewN ?_ _)|(with_reducible refine Kd.C_drew ?_))); (case side2 => exact HC1.out); rintro e w' ⟨rfl,⟨nd,rfl⟩⟩; refine ⟨_,rfl,?_⟩) | ((with_reducible refine gate_callee (f := 23) rfl ?_); refine goesL_ (some 28) rfl rfl Try.func23 (by kernel_rfl) rfl #[.slice A3 l3.length c3,.int .i64 t263] rfl (by (try simp only [List.map_toArray,List.map_cons,List.map_nil]); first | done|rfl|(simp only [List.length_drop,List.length_take]; rfl)) ?_; (with_reducible refine (laws_szIntSS.calls k _ _ l3 t263 t264 _ ?side1 ?side2 A7.out).mono ?_); (case side1 => repeat (first|exact HR3.out|(with_reducible refine Kd.C_alloc ?_ _)|(with_reducible refine Kd.C_drewN ?_ _)|(with_reducible refine Kd.C_drew ?_))); (case side2 => exact HC3.out); rintro e w' ⟨rfl,⟨nd,rfl⟩⟩; refine ⟨_,rfl,?_⟩))
    go_ret
    exact ⟨by first|rfl|(simp [errW_none,errW_some] <;> rfl)|(simp [*,errW_none,errW_some] <;> rfl),by repeat (first|(with_reducible first|exact HB.out|apply zD|apply zF|apply zE)|exact HB.out)⟩
   ·
    rw [if_neg c8] at H
    have c8b0 : decide (t264 < 0) = false := decide_eq_false c8
    clear c8
    replace H := Option.bind_eq_some_iff.mp H
    obtain ⟨t265,A90,H⟩ := H
    replace H : ((laws_toIntSS.f k l3).bind fun t268 => ((spec_Spread.f k a0 t265 a2 t268).bind fun bt271 => ((laws_toRoadS.f k l1).bind fun t275 => ((laws_toIntSS.f k l3).bind fun t278 => ((impl_Spread.f k a0 t275 a2 t278).bind fun bt281 => ((laws_eqIntS.f k bt281.1 bt271.1).bind fun t285 => (if t285 = true then (laws_FnExactSpread.j0 k a0 l1 a2 l3 bt271.1 bt271.2 t275 t278 bt281.1 bt281.2 (bt281.2 != bt271.2)) else (laws_FnExactSpread.j0 k a0 l1 a2 l3 bt271.1 bt271.2 t275 t278 bt281.1 bt281.2 true)))))))) = some r := H
    have A9 := zA A90
    clear A90
    replace H := Option.bind_eq_some_iff.mp H
    obtain ⟨t268,A100,H⟩ := H
    replace H : ((spec_Spread.f k a0 t265 a2 t268).bind fun bt271 => ((laws_toRoadS.f k l1).bind fun t275 => ((laws_toIntSS.f k l3).bind fun t278 => ((impl_Spread.f k a0 t275 a2 t278).bind fun bt281 => ((laws_eqIntS.f k bt281.1 bt271.1).bind fun t285 => (if t285 = true then (laws_FnExactSpread.j0 k a0 l1 a2 l3 bt271.1 bt271.2 t275 t278 bt281.1 bt281.2 (bt281.2 != bt271.2)) else (laws_FnExactSpread.j0 k a0 l1 a2 l3 bt271.1 bt271.2 t275 t278 bt281.1 bt281.2 true))))))) = some r := H
    have A10 := zA A100
    clear A100
    replace H := Option.bind_eq_some_iff.mp H
    obtain ⟨⟨t271,t272⟩,A110,H⟩ := H
    replace H : ((laws_toRoadS.f k l1).bind fun t275 => ((laws_toIntSS.f k l3).bind fun t278 => ((impl_Spread.f k a0 t275 a2 t278).bind fun bt281 => ((laws_eqIntS.f k bt281.1 t271).bind fun t285 => (if t285 = true then (laws_FnExactSpread.j0 k a0 l1 a2 l3 t271 t272 t275 t278 bt281.1 bt281.2 (bt281.2 != t272)) else (laws_FnExactSpread.j0 k a0 l1 a2 l3 t271 t272 t275 t278 bt281.1 bt281.2 true)))))) = some r := H
    have A11 := zA A110
    clear A110
    replace H := Option.bind_eq_some_iff.mp H
    obtain ⟨t275,A120,H⟩ := H
    replace H : ((laws_toIntSS.f k l3).bind fun t278 => ((impl_Spread.f k a0 t275 a2 t278).bind fun bt281 => ((laws_eqIntS.f k bt281.1 t271).bind fun t285 => (if t285 = true then (laws_FnExactSpread.j0 k a0 l1 a2 l3 t271 t272 t275 t278 bt281.1 bt281.2 (bt281.2 != t272)) else (laws_FnExactSpread.j0 k a0 l1 a2 l3 t271 t272 t275 t278 bt281.1 bt281.2 true))))) = some r := H
    have A12 := zA A120
    clear A120
    replace H := Option.bind_eq_some_iff.mp H
    obtain ⟨t278,A130,H⟩ := H
    replace H : ((impl_Spread.f k a0 t275 a2 t278).bind fun bt281 => ((laws_eqIntS.f k bt281.1 t271).bind fun t285 => (if t285 = true then (laws_FnExactSpread.j0 k a0 l1 a2 l3 t271 t272 t275 t278 bt281.1 bt281.2 (bt281.2 != t272)) else (laws_FnExactSpread.j0 k a0 l1 a2 l3 t271 t272 t275 t278 bt281.1 bt281.2 true)))) = some r := H
    have A13 := zA A130
    clear A130
    replace H := Option.bind_eq_some_iff.mp H
    obtain ⟨⟨t281,t282⟩,A140,H⟩ := H
    replace H : ((laws_eqIntS.f k t281 t271).bind fun t285 => (if t285 = true then (laws_FnExactSpread.j0 k a0 l1 a2 l3 t271 t272 t275 t278 t281 t282 (t282 != t272)) else (laws_FnExactSpread.j0 k a0 l1 a2 l3 t271 t272 t275 t278 t281 t282 true))) = some r := H
    have A14 := zA A140
    clear A140
    have HC15 := zA H
    clear H
    go_enter Try.func6,Try.ntmps6
    go_upto_region 12 with (first | ((with_reducible refine gate_callee (f := 8) rfl ?_); refine goesL_ (some 23) rfl rfl Try.func8 (by kernel_rfl) rfl #[.slice A1 l1.length c1,.int .i64 1048576] rfl (by (try simp only [List.map_toArray,List.map_cons,List.map_nil]); first | done|rfl|(simp only [List.length_drop,List.length_take]; rfl)) ?_; (with_reducible refine (laws_szRoadS.calls _ _ l1 1048576 t263 _ ?side1 ?side2 A5.out).mono ?_); (case side1 => repeat (first|exact HR1.out|(with_reducible refine Kd.C_alloc ?_ _)|(with_reducible refine Kd.C_drewN ?_ _)|(with_reducible refine Kd.C_drew ?_))); (case side2 => exact HC1.out); rintro e w' ⟨rfl,⟨nd,rfl⟩⟩; refine ⟨_,rfl,?_⟩) | ((with_reducible refine gate_callee (f := 23) rfl ?_); refine goesL_ (some 28) rfl rfl Try.func23 (by kernel_rfl) rfl #[.slice A3 l3.length c3,.int .i64 t263] rfl (by (try simp only [List.map_toArray,List.map_cons,List.map_nil]); first | done|rfl|(simp only [List.length_drop,List.length_take]; rfl)) ?_; (with_reducible refine (laws_szIntSS.calls k _ _ l3 t263 t264 _ ?side1 ?side2 A7.out).mono ?_); (case side1 => repeat (first|exact HR3.out|(with_reducible refine Kd.C_alloc ?_ _)|(with_reducible refine Kd.C_drewN ?_ _)|(with_reducible refine Kd.C_drew ?_))); (case side2 => exact HC3.out); rintro e w' ⟨rfl,⟨nd,rfl⟩⟩; refine ⟨_,rfl,?_⟩) | ((with_reducible refine gate_callee (f := 10) rfl ?_); refine goesL_ (some 34) rfl rfl Try.func10 (by kernel_rfl) rfl #[.slice A1 l1.length c1] rfl (by (try simp only [List.map_toArray,List.map_cons,List.map_nil]); first | done|rfl|(simp only [List.length_drop,List.length_take]; rfl)) ?_; (with_reducible refine (laws_toRoadS.calls k _ _ l1 t265 _ ?side1 ?side2 A9.out).mono ?_); (case side1 => repeat (first|exact HR1.out|(with_reducible refine Kd.C_alloc ?_ _)|(with_reducible refine Kd.C_drewN ?_ _)|(with_reducible refine Kd.C_drew ?_))); (case side2 => exact HC1.out); rintro e w16 ⟨v266,rfl,ho0,hb⟩; refine ⟨_,rfl,?_⟩; have n0_ := zA (Kd.R_lower ho0 (below_size (by repeat (first|(with_reducible first|exact HB.out|apply zD|apply zF|apply zE)|exact HB.out)))); have n1_ := zA (zG (by repeat (first|(with_reducible first|exact HB.out|apply zD|apply zF|apply zE)|exact HB.out)) hb); clear HB; have HO267 := n0_; have HB := n1_; clear n0_ n1_; (try clear hb); (try clear hb2); (try clear hk); (try clear hi); (try clear ho0)) | ((with_reducible refine gate_callee (f := 25) rfl ?_); refine goesL_ (some 37) rfl rfl Try.func25 (by kernel_rfl) rfl #[.slice A3 l3.length c3] rfl (by (try simp only [List.map_toArray,List.map_cons,List.map_nil]); first | done|rfl|(simp only [List.length_drop,List.length_take]; rfl)) ?_; (with_reducible refine (laws_toIntSS.calls k _ _ l3 t268 _ ?side1 ?side2 A10.out).mono ?_); (case side1 => repeat (first|exact (Kd.C_below HR3.out HB.out)|(with_reducible refine Kd.C_alloc ?_ _)|(with_reducible refine Kd.C_drewN ?_ _)|(with_reducible refine Kd.C_drew ?_))); (case side2 => exact HC3.out); rintro e w17 ⟨v269,rfl,ho0,hb⟩; refine ⟨_,rfl,?_⟩; have n0_ := zA (zB (rrA27 HO267.out) hb); have n1_ := zA (Kd.S_lower ho0 (below_size (by repeat (first|(with_reducible first|exact HB.out|apply zD|apply zF|apply zE)|exact HB.out)))); have n2_ := zA (zG (by repeat (first|(with_reducible first|exact HB.out|apply zD|apply zF|apply zE)|exact HB.out)) hb); clear HO267 HB; have HO267 := n0_; have HO270 := n1_; have HB := n2_; clear n0_ n1_ n2_; (try clear hb); (try clear hb2); (try clear hk); (try clear hi); (try clear ho0); obtain ⟨Ao18,co18,eo18⟩ := Kd.R_slice HO267.out; subst eo18; obtain ⟨Ao19,co19,eo19⟩ := Kd.S_slice HO270.out; subst eo19) | ((with_reducible refine gate_callee (f := 24) rfl ?_); refine goesL_ (some 38) rfl rfl Try.func24 (by kernel_rfl) rfl #[.int .i64 a0,.slice Ao18 t265.length co18,.int .i64 a2,.slice Ao19 t268.length co19] rfl (by (try simp only [List.map_toArray,List.map_cons,List.map_nil]); first | done|rfl|(simp only [List.length_drop,List.length_take]; rfl)) ?_; (with_reducible refine (spec_Spread.calls k a0 _ _ t265 a2 _ _ t268 t271 t272 _ ?side1 ?side2 ?side3 ?side4 A11.out).mono ?_); (case side1 => repeat (first|exact (zC HO267.out).2.2|(with_reducible refine Kd.C_alloc ?_ _)|(with_reducible refine Kd.C_drewN ?_ _)|(with_reducible refine Kd.C_drew ?_))); (case side2 => exact (zC HO267.out).2.1); (case side3 => repeat (first|exact (Kd.S_reads' HO270.out).2.2|(with_reducible refine Kd.C_alloc ?_ _)|(with_reducible refine Kd.C_drewN ?_ _)|(with_reducible refine Kd.C_drew ?_))); (case side4 => exact (Kd.S_reads' HO270.out).2.1); rintro e w20 ⟨v273,rfl,ho0,hb⟩; refine ⟨_,rfl,?_⟩; have n0_ := zA (zB (rrA27 HO267.out) hb); have n1_ := zA (Kd.S_elder' (by (with_reducible repeat (first|apply Kd.S_alloc|apply Kd.S_drewN|apply Kd.S_drew)); exact HO270.out) (Kd.R_base ho0) hb); have n2_ := zA (Kd.R_lower ho0 (below_size (by repeat (first|(with_reducible first|exact HB.out|apply zD|apply zF|apply zE)|exact HB.out)))); have n3_ := zA (zG (by repeat (first|(with_reducible first|exact HB.out|apply zD|apply zF|apply zE)|exact HB.out)) hb); clear HO267 HO270 HB; have HO267 := n0_; have HO270 := n1_; have HO274 := n2_; have HB := n3_; clear n0_ n1_ n2_ n3_; (try clear hb); (try clear hb2); (try clear hk); (try clear hi); (try clear ho0)) | ((with_reducible refine gate_callee (f := 10) rfl ?_); refine goesL_ (some 42) rfl rfl Try.func10 (by kernel_rfl) rfl #[.slice A1 l1.length c1] rfl (by (try simp only [List.map_toArray,List.map_cons,List.map_nil]); first | done|rfl|(simp only [List.length_drop,List.length_take]; rfl)) ?_; (with_reducible refine (laws_toRoadS.calls k _ _ l1 t275 _ ?side1 ?side2 A12.out).mono ?_); (case side1 => repeat (first|exact (Kd.C_below HR1.out HB.out)|(with_reducible refine Kd.C_alloc ?_ _)|(with_reducible refine Kd.C_drewN ?_ _)|(with_reducible refine Kd.C_drew ?_))); (case side2 => exact HC1.out); rintro e w21 ⟨v276,rfl,ho0,hb⟩; refine ⟨_,rfl,?_⟩; have n0_ := zA (Kd.R_elder' (rrA27 HO267.out) (Kd.R_base ho0) hb); have n1_ := zA (Kd.S_below (by (with_reducible repeat (first|apply Kd.S_alloc|apply Kd.S_drewN|apply Kd.S_drew)); exact HO270.out) hb); have n2_ := zA (zB (rrA27 HO274.out) hb); have n3_ := zA (Kd.R_lower (Kd.R_new' ho0 (Kd.R_lt (rrA27 HO267.out))) (below_size (by repeat (first|(with_reducible first|exact HB.out|apply zD|apply zF|apply zE)|exact HB.out)))); have n4_ := zA (zG (by repeat (first|(with_reducible first|exact HB.out|apply zD|apply zF|apply zE)|exact HB.out)) hb); clear HO267 HO270 HO274 HB; have HO267 := n0_; have HO270 := n1_; have HO274 := n2_; have HO277 := n3_; have HB := n4_; clear n0_ n1_ n2_ n3_ n4_; (try clear hb); (try clear hb2); (try clear hk); (try clear hi); (try clear ho0)) | ((with_reducible refine gate_callee (f := 25) rfl ?_); refine goesL_ (some 44) rfl rfl Try.func25 (by kernel_rfl) rfl #[.slice A3 l3.length c3] rfl (by (try simp only [List.map_toArray,List.map_cons,List.map_nil]); first | done|rfl|(simp only [List.length_drop,List.length_take]; rfl)) ?_; (with_reducible refine (laws_toIntSS.calls k _ _ l3 t278 _ ?side1 ?side2 A13.out).mono ?_); (case side1 => repeat (first|exact (Kd.C_below HR3.out HB.out)|(with_reducible refine Kd.C_alloc ?_ _)|(with_reducible refine Kd.C_drewN ?_ _)|(with_reducible refine Kd.C_drew ?_))); (case side2 => exact HC3.out); rintro e w22 ⟨v279,rfl,ho0,hb⟩; refine ⟨_,rfl,?_⟩; have n0_ := zA (zB (rrA27 HO267.out) hb); have n1_ := zA (Kd.S_elder' (by (with_reducible repeat (first|apply Kd.S_alloc|apply Kd.S_drewN|apply Kd.S_drew)); exact HO270.out) (Kd.S_base ho0) hb); have n2_ := zA (zB (rrA27 HO274.out) hb); have n3_ := zA (zB (rrA27 HO277.out) hb); have n4_ := zA (Kd.S_lower (Kd.S_new' (Kd.S_new' ho0 (Kd.S_lt (by (with_reducible repeat (first|apply Kd.S_alloc|apply Kd.S_drewN|apply Kd.S_drew)); exact HO270.out))) (Kd.R_lt (rrA27 HO274.out))) (below_size (by repeat (first|(with_reducible first|exact HB.out|apply zD|apply zF|apply zE)|exact HB.out)))); have n5_ := zA (zG (by repeat (first|(with_reducible first|exact HB.out|apply zD|apply zF|apply zE)|exact HB.out)) hb); clear HO267 HO270 HO274 HO277 HB; have HO267 := n0_; have HO270 := n1_; have HO274 := n2_; have HO277 := n3_; have HO280 := n4_; have HB := n5_; clear n0_ n1_ n2_ n3_ n4_ n5_; (try clear hb); (try clear hb2); (try clear hk); (try clear hi); (try clear ho0); obtain ⟨Ao23,co23,eo23⟩ := Kd.R_slice HO277.out; subst eo23; obtain ⟨Ao24,co24,eo24⟩ := Kd.S_slice HO280.out; subst eo24) | ((with_reducible refine gate_callee (f := 26) rfl ?_); refine goesL_ (some 50) rfl rfl Try.func26 (by kernel_rfl) rfl #[.int .i64 a0,.slice Ao23 t275.length co23,.int .i64 a2,.slice Ao24 t278.length co24] rfl (by (try simp only [List.map_toArray,List.map_cons,List.map_nil]); first | done|rfl|(simp only [List.length_drop,List.length_take]; rfl)) ?_; (with_reducible refine (impl_Spread.calls k a0 _ _ t275 a2 _ _ t278 t281 t282 _ ?side1 ?side2 ?side3 ?side4 A14.out).mono ?_); (case side1 => repeat (first|exact (zC HO277.out).2.2|(with_reducible refine Kd.C_alloc ?_ _)|(with_reducible refine Kd.C_drewN ?_ _)|(with_reducible refine Kd.C_drew ?_))); (case side2 => exact (zC HO277.out).2.1); (case side3 => repeat (first|exact (Kd.S_reads' HO280.out).2.2|(with_reducible refine Kd.C_alloc ?_ _)|(with_reducible refine Kd.C_drewN ?_ _)|(with_reducible refine Kd.C_drew ?_))); (case side4 => exact (Kd.S_reads' HO280.out).2.1); rintro e w25 ⟨v283,rfl,ho0,hb⟩; refine ⟨_,rfl,?_⟩; have n0_ := zA (zB (rrA27 HO267.out) hb); have n1_ := zA (Kd.S_elder' (by (with_reducible repeat (first|apply Kd.S_alloc|apply Kd.S_drewN|apply Kd.S_drew)); exact HO270.out) (Kd.R_base ho0) hb); have n2_ := zA (Kd.R_elder' (rrA27 HO274.out) (Kd.R_base ho0) hb); have n3_ := zA (zB (rrA27 HO277.out) hb); have n4_ := zA (Kd.S_elder' (by (with_reducible repeat (first|apply Kd.S_alloc|apply Kd.S_drewN|apply Kd.S_drew)); exact HO280.out) (Kd.R_base ho0) hb); have n5_ := zA (Kd.R_lower (Kd.R_new' ho0 (Kd.R_lt (rrA27 HO274.out))) (below_size (by repeat (first|(with_reducible first|exact HB.out|apply zD|apply zF|apply zE)|exact HB.out)))); have n6_ := zA (zG (by repeat (first|(with_reducible first|exact HB.out|apply zD|apply zF|apply zE)|exact HB.out)) hb); clear HO267 HO270 HO274 HO277 HO280 HB; have HO267 := n0_; have HO270 := n1_; have HO274 := n2_; have HO277 := n3_; have HO280 := n4_; have HO284 := n5_; have HB := n6_; clear n0_ n1_ n2_ n3_ n4_ n5_ n6_; (try clear hb); (try clear hb2); (try clear hk); (try clear hi); (try clear ho0)))
    (try simp only [Act.put,List.setIfInBounds_toArray,List.set_cons_zero,List.set_cons_succ])
    go_cut [61] (fun v61 wc => ∃ (kq : Nat) (x61_14 : Bool),v61 = .bool x61_14 ∧ Aside0 (laws_FnExactSpread.j0 kq a0 l1 a2 l3 t271 t272 t275 t278 t281 t282 x61_14 = some r) ∧ Aside0 (kq ≤ k) ∧ Aside0 (Kd.R (Kd.int .i64) 3 wc w.heap.size (fun k_ => some k_ ≠ (v283 : Value).ownBlock) v273 t271) ∧ Aside0 (Kd.R k38 38 wc w.heap.size (fun _ => True) (.slice Ao23 t275.length co23) t275) ∧ Aside0 (Kd.S (Kd.slice 3 (Kd.int .i64)) 24 wc w.heap.size (fun k_ => some k_ ≠ (v273 : Value).ownBlock ∧ some k_ ≠ (v283 : Value).ownBlock) (.slice Ao24 t278.length co24) t278) ∧ Aside0 (Kd.R (Kd.int .i64) 3 wc w.heap.size (fun k_ => some k_ ≠ (v273 : Value).ownBlock) v283 t281) ∧ Aside0 (Below w.heap.size w wc))
    case first =>
     have H := HC15.out
     clear HC15
     replace H := Option.bind_eq_some_iff.mp H
     obtain ⟨t285,A260,H⟩ := H
     replace H : (if t285 = true then (laws_FnExactSpread.j0 k a0 l1 a2 l3 t271 t272 t275 t278 t281 t282 (t282 != t272)) else (laws_FnExactSpread.j0 k a0 l1 a2 l3 t271 t272 t275 t278 t281 t282 true)) = some r := H
     have A26 := zA A260
     clear A260
     by_cases c27 : t285 = true
     ·
      subst c27
      have H1 : (laws_FnExactSpread.j0 k a0 l1 a2 l3 t271 t272 t275 t278 t281 t282 (t282 != t272)) = some r := by rw [if_pos rfl] at H; exact H
      clear H; have H := H1; clear H1
      have H' := zA H
      clear H
      obtain ⟨Ao28,co28,eo28⟩ := Kd.R_slice HO284.out
      subst eo28
      obtain ⟨Ao29,co29,eo29⟩ := Kd.R_slice HO274.out
      subst eo29
      go_wp2_with (first | ((with_reducible refine gate_callee (f := 12) rfl ?_); refine goesL_ (some 55) rfl rfl Try.func12 (by kernel_rfl) rfl #[.slice Ao28 t281.length co28,.slice Ao29 t271.length co29] rfl (by (try simp only [List.map_toArray,List.map_cons,List.map_nil]); first | done|rfl|(simp only [List.length_drop,List.length_take]; rfl)) ?_; (with_reducible refine (laws_eqIntS.calls k _ _ t281 _ _ t271 true _ ?side1 ?side2 ?side3 ?side4 A26.out).mono ?_); (case side1 => repeat (first|exact (zC HO284.out).2.2|(with_reducible refine Kd.C_alloc ?_ _)|(with_reducible refine Kd.C_drewN ?_ _)|(with_reducible refine Kd.C_drew ?_))); (case side2 => exact (zC HO284.out).2.1); (case side3 => repeat (first|exact (zC HO274.out).2.2|(with_reducible refine Kd.C_alloc ?_ _)|(with_reducible refine Kd.C_drewN ?_ _)|(with_reducible refine Kd.C_drew ?_))); (case side4 => exact (zC HO274.out).2.1); rintro e w' ⟨rfl,⟨nd,rfl⟩⟩; refine ⟨_,rfl,?_⟩))
      go_meet
      case rel => exact ⟨_,((t282 != t272)),(by first|rfl|(simp; done)|(simp [*]; done)),H',⟨by first|omega|exact Nat.le_refl _⟩,⟨by (with_reducible repeat (first|apply Kd.R_alloc|apply Kd.R_drewN|apply Kd.R_drew)); exact Kd.R_mono HO274.out (fun _ h=>h.2)⟩,⟨by (with_reducible repeat (first|apply Kd.R_alloc|apply Kd.R_drewN|apply Kd.R_drew)); exact Kd.R_mono HO277.out (fun _ hk => trivial)⟩,⟨by (with_reducible repeat (first|apply Kd.S_alloc|apply Kd.S_drewN|apply Kd.S_drew)); exact Kd.S_mono HO280.out (fun _ hk => ⟨hk.1.2,hk.2⟩)⟩,⟨by (with_reducible repeat (first|apply Kd.R_alloc|apply Kd.R_drewN|apply Kd.R_drew)); exact Kd.R_mono HO284.out (fun _ h=>h.2)⟩,⟨by repeat (first|(with_reducible first|exact HB.out|apply zD|apply zF|apply zE)|exact HB.out)⟩⟩
     ·
      replace c27 := Bool.eq_false_iff.mpr c27
      subst c27
      have H1 : (laws_FnExactSpread.j0 k a0 l1 a2 l3 t271 t272 t275 t278 t281 t282 true) = some r := by rw [if_neg (show ¬ (false = true) by decide)] at H; exact H
      clear H; have H := H1; clear H1
      have H' := zA H
      clear H
      obtain ⟨Ao30,co30,eo30⟩ := Kd.R_slice HO284.out
      subst eo30
      obtain ⟨Ao31,co31,eo31⟩ := Kd.R_slice HO274.out
      subst eo31
      go_wp2_with (first | ((with_reducible refine gate_callee (f := 12) rfl ?_); refine goesL_ (some 55) rfl rfl Try.func12 (by kernel_rfl) rfl #[.slice Ao30 t281.length co30,.slice Ao31 t271.length co31] rfl (by (try simp only [List.map_toArray,List.map_cons,List.map_nil]); first | done|rfl|(simp only [List.length_drop,List.length_take]; rfl)) ?_; (with_reducible refine (laws_eqIntS.calls k _ _ t281 _ _ t271 false _ ?side1 ?side2 ?side3 ?side4 A26.out).mono ?_); (case side1 => repeat (first|exact (zC HO284.out).2.2|(with_reducible refine Kd.C_alloc ?_ _)|(with_reducible refine Kd.C_drewN ?_ _)|(with_reducible refine Kd.C_drew ?_))); (case side2 => exact (zC HO284.out).2.1); (case side3 => repeat (first|exact (zC HO274.out).2.2|(with_reducible refine Kd.C_alloc ?_ _)|(with_reducible refine Kd.C_drewN ?_ _)|(with_reducible refine Kd.C_drew ?_))); (case side4 => exact (zC HO274.out).2.1); rintro e w' ⟨rfl,⟨nd,rfl⟩⟩; refine ⟨_,rfl,?_⟩))
      go_meet
      case rel => exact ⟨_,(true),(by first|rfl|(simp; done)|(simp [*]; done)),H',⟨by first|omega|exact Nat.le_refl _⟩,⟨by (with_reducible repeat (first|apply Kd.R_alloc|apply Kd.R_drewN|apply Kd.R_drew)); exact Kd.R_mono HO274.out (fun _ h=>h.2)⟩,⟨by (with_reducible repeat (first|apply Kd.R_alloc|apply Kd.R_drewN|apply Kd.R_drew)); exact Kd.R_mono HO277.out (fun _ hk => trivial)⟩,⟨by (with_reducible repeat (first|apply Kd.S_alloc|apply Kd.S_drewN|apply Kd.S_drew)); exact Kd.S_mono HO280.out (fun _ hk => ⟨hk.1.2,hk.2⟩)⟩,⟨by (with_reducible repeat (first|apply Kd.R_alloc|apply Kd.R_drewN|apply Kd.R_drew)); exact Kd.R_mono HO284.out (fun _ h=>h.2)⟩,⟨by repeat (first|(with_reducible first|exact HB.out|apply zD|apply zF|apply zE)|exact HB.out)⟩⟩
    case rest =>
     clear HC15; try clear c1; try clear c2; try clear p2; try clear c3; try clear c6; try clear c6b0; try clear c8; try clear c8b0; try clear c10; try clear c12; try clear c23; try clear c24; try clear c25; try clear c26; try clear c27
     obtain ⟨kq,x61_14,rfl,HA,HJ14,HO_10,HO_12,HO_13,HO_14,HB⟩ := hcut
     cases kq with
     | zero => exact absurd HA.out (by simp [laws_FnExactSpread.j0])
     | succ kj14 =>
      have H := HA.out
      clear HA
      simp only [laws_FnExactSpread.j0] at H
      by_cases c32 : x61_14 = true
      ·
       subst c32
       have H1 : (some false) = some r := by rw [if_pos rfl] at H; exact H
       clear H; have H := H1; clear H1
       obtain rfl := Option.some.inj H
       go_wp2
       go_ret
       exact ⟨by first|rfl|(simp [errW_none,errW_some] <;> rfl)|(simp [*,errW_none,errW_some] <;> rfl),by repeat (first|(with_reducible first|exact HB.out|apply zD|apply zF|apply zE)|exact HB.out)⟩
      ·
       replace c32 := Bool.eq_false_iff.mpr c32
       subst c32
       have H1 : ((laws_toRoadS.f kj14 l1).bind fun t286 => ((laws_eqRoadS.f kj14 t275 t286).bind fun t289 => (if t289 = true then ((laws_toIntSS.f kj14 l3).bind fun t290 => ((laws_eqIntSS.f kj14 t278 t290).bind fun t293 => (if t293 = true then ((laws_markRoadS.f kj14 t275 1).bind fun bt294 => ((laws_markIntSS.f kj14 t278 bt294.1).bind fun t296 => (if t296 < 0 then (laws_FnExactSpread.j1 kj14 a0 l1 a2 l3 t271 t272 t281 true) else ((laws_eqIntS.f kj14 t281 t271).bind fun t297 => (if t297 = true then (laws_FnExactSpread.j1 kj14 a0 l1 a2 l3 t271 t272 t281 (t282 != t272)) else (laws_FnExactSpread.j1 kj14 a0 l1 a2 l3 t271 t272 t281 true)))))) else (some false)))) else (some false)))) = some r := by rw [if_neg (show ¬ (false = true) by decide)] at H; exact H
       clear H; have H := H1; clear H1
       replace H := Option.bind_eq_some_iff.mp H
       obtain ⟨t286,A330,H⟩ := H
       replace H : ((laws_eqRoadS.f kj14 t275 t286).bind fun t289 => (if t289 = true then ((laws_toIntSS.f kj14 l3).bind fun t290 => ((laws_eqIntSS.f kj14 t278 t290).bind fun t293 => (if t293 = true then ((laws_markRoadS.f kj14 t275 1).bind fun bt294 => ((laws_markIntSS.f kj14 t278 bt294.1).bind fun t296 => (if t296 < 0 then (laws_FnExactSpread.j1 kj14 a0 l1 a2 l3 t271 t272 t281 true) else ((laws_eqIntS.f kj14 t281 t271).bind fun t297 => (if t297 = true then (laws_FnExactSpread.j1 kj14 a0 l1 a2 l3 t271 t272 t281 (t282 != t272)) else (laws_FnExactSpread.j1 kj14 a0 l1 a2 l3 t271 t272 t281 true)))))) else (some false)))) else (some false))) = some r := H
       have A33 := zA A330
       clear A330
       replace H := Option.bind_eq_some_iff.mp H
       obtain ⟨t289,A340,H⟩ := H
       replace H : (if t289 = true then ((laws_toIntSS.f kj14 l3).bind fun t290 => ((laws_eqIntSS.f kj14 t278 t290).bind fun t293 => (if t293 = true then ((laws_markRoadS.f kj14 t275 1).bind fun bt294 => ((laws_markIntSS.f kj14 t278 bt294.1).bind fun t296 => (if t296 < 0 then (laws_FnExactSpread.j1 kj14 a0 l1 a2 l3 t271 t272 t281 true) else ((laws_eqIntS.f kj14 t281 t271).bind fun t297 => (if t297 = true then (laws_FnExactSpread.j1 kj14 a0 l1 a2 l3 t271 t272 t281 (t282 != t272)) else (laws_FnExactSpread.j1 kj14 a0 l1 a2 l3 t271 t272 t281 true)))))) else (some false)))) else (some false)) = some r := H
       have A34 := zA A340
       clear A340
       by_cases c35 : t289 = true
       ·
        subst c35
        have H1 : ((laws_toIntSS.f kj14 l3).bind fun t290 => ((laws_eqIntSS.f kj14 t278 t290).bind fun t293 => (if t293 = true then ((laws_markRoadS.f kj14 t275 1).bind fun bt294 => ((laws_markIntSS.f kj14 t278 bt294.1).bind fun t296 => (if t296 < 0 then (laws_FnExactSpread.j1 kj14 a0 l1 a2 l3 t271 t272 t281 true) else ((laws_eqIntS.f kj14 t281 t271).bind fun t297 => (if t297 = true then (laws_FnExactSpread.j1 kj14 a0 l1 a2 l3 t271 t272 t281 (t282 != t272)) else (laws_FnExactSpread.j1 kj14 a0 l1 a2 l3 t271 t272 t281 true)))))) else (some false)))) = some r := by rw [if_pos rfl] at H; exact H
        clear H; have H := H1; clear H1
        replace H := Option.bind_eq_some_iff.mp H
        obtain ⟨t290,A360,H⟩ := H
        replace H : ((laws_eqIntSS.f kj14 t278 t290).bind fun t293 => (if t293 = true then ((laws_markRoadS.f kj14 t275 1).bind fun bt294 => ((laws_markIntSS.f kj14 t278 bt294.1).bind fun t296 => (if t296 < 0 then (laws_FnExactSpread.j1 kj14 a0 l1 a2 l3 t271 t272 t281 true) else ((laws_eqIntS.f kj14 t281 t271).bind fun t297 => (if t297 = true then (laws_FnExactSpread.j1 kj14 a0 l1 a2 l3 t271 t272 t281 (t282 != t272)) else (laws_FnExactSpread.j1 kj14 a0 l1 a2 l3 t271 t272 t281 true)))))) else (some false))) = some r := H
        have A36 := zA A360
        clear A360
        replace H := Option.bind_eq_some_iff.mp H
        obtain ⟨t293,A370,H⟩ := H
        replace H : (if t293 = true then ((laws_markRoadS.f kj14 t275 1).bind fun bt294 => ((laws_markIntSS.f kj14 t278 bt294.1).bind fun t296 => (if t296 < 0 then (laws_FnExactSpread.j1 kj14 a0 l1 a2 l3 t271 t272 t281 true) else ((laws_eqIntS.f kj14 t281 t271).bind fun t297 => (if t297 = true then (laws_FnExactSpread.j1 kj14 a0 l1 a2 l3 t271 t272 t281 (t282 != t272)) else (laws_FnExactSpread.j1 kj14 a0 l1 a2 l3 t271 t272 t281 true)))))) else (some false)) = some r := H
        have A37 := zA A370
        clear A370
        by_cases c38 : t293 = true
        ·
         subst c38
         have H1 : ((laws_markRoadS.f kj14 t275 1).bind fun bt294 => ((laws_markIntSS.f kj14 t278 bt294.1).bind fun t296 => (if t296 < 0 then (laws_FnExactSpread.j1 kj14 a0 l1 a2 l3 t271 t272 t281 true) else ((laws_eqIntS.f kj14 t281 t271).bind fun t297 => (if t297 = true then (laws_FnExactSpread.j1 kj14 a0 l1 a2 l3 t271 t272 t281 (t282 != t272)) else (laws_FnExactSpread.j1 kj14 a0 l1 a2 l3 t271 t272 t281 true)))))) = some r := by rw [if_pos rfl] at H; exact H
         clear H; have H := H1; clear H1
         replace H := Option.bind_eq_some_iff.mp H
         obtain ⟨⟨t294,t295⟩,A390,H⟩ := H
         replace H : ((laws_markIntSS.f kj14 t278 t294).bind fun t296 => (if t296 < 0 then (laws_FnExactSpread.j1 kj14 a0 l1 a2 l3 t271 t272 t281 true) else ((laws_eqIntS.f kj14 t281 t271).bind fun t297 => (if t297 = true then (laws_FnExactSpread.j1 kj14 a0 l1 a2 l3 t271 t272 t281 (t282 != t272)) else (laws_FnExactSpread.j1 kj14 a0 l1 a2 l3 t271 t272 t281 true))))) = some r := H
         have A39 := zA A390
         clear A390
         replace H := Option.bind_eq_some_iff.mp H
         obtain ⟨t296,A400,H⟩ := H
         replace H : (if t296 < 0 then (laws_FnExactSpread.j1 kj14 a0 l1 a2 l3 t271 t272 t281 true) else ((laws_eqIntS.f kj14 t281 t271).bind fun t297 => (if t297 = true then (laws_FnExactSpread.j1 kj14 a0 l1 a2 l3 t271 t272 t281 (t282 != t272)) else (laws_FnExactSpread.j1 kj14 a0 l1 a2 l3 t271 t272 t281 true)))) = some r := H
         have A40 := zA A400
         clear A400
         have HC41 := zA H
         clear H
         go_upto_region 21 with (first | ((with_reducible refine gate_callee (f := 10) rfl ?_); refine goesL_ (some 64) rfl rfl Try.func10 (by kernel_rfl) rfl #[.slice A1 l1.length c1] rfl (by (try simp only [List.map_toArray,List.map_cons,List.map_nil]); first | done|rfl|(simp only [List.length_drop,List.length_take]; rfl)) ?_; (with_reducible refine (laws_toRoadS.calls kj14 _ _ l1 t286 _ ?side1 ?side2 A33.out).mono ?_); (case side1 => repeat (first|exact (Kd.C_below HR1.out HB.out)|(with_reducible refine Kd.C_alloc ?_ _)|(with_reducible refine Kd.C_drewN ?_ _)|(with_reducible refine Kd.C_drew ?_))); (case side2 => exact HC1.out); rintro e w42 ⟨v287,rfl,ho0,hb⟩; refine ⟨_,rfl,?_⟩; have n0_ := zA (zB (rrA27 HO_10.out) hb); have n1_ := zA (Kd.R_elder' (rrA27 HO_12.out) (Kd.R_base ho0) hb); have n2_ := zA (Kd.S_below (by (with_reducible repeat (first|apply Kd.S_alloc|apply Kd.S_drewN|apply Kd.S_drew)); exact HO_13.out) hb); have n3_ := zA (zB (rrA27 HO_14.out) hb); have n4_ := zA (Kd.R_lower (Kd.R_new' ho0 (Kd.R_lt (rrA27 HO_12.out))) (below_size (by repeat (first|(with_reducible first|exact HB.out|apply zD|apply zF|apply zE)|exact HB.out)))); have n5_ := zA (zG (by repeat (first|(with_reducible first|exact HB.out|apply zD|apply zF|apply zE)|exact HB.out)) hb); clear HO_10 HO_12 HO_13 HO_14 HB; have HO_10 := n0_; have HO_12 := n1_; have HO_13 := n2_; have HO_14 := n3_; have HO288 := n4_; have HB := n5_; clear n0_ n1_ n2_ n3_ n4_ n5_; (try clear hb); (try clear hb2); (try clear hk); (try clear hi); (try clear ho0); obtain ⟨Ao43,co43,eo43⟩ := Kd.R_slice HO288.out; subst eo43) | ((with_reducible refine gate_callee (f := 13) rfl ?_); refine goesL_ (some 65) rfl rfl Try.func13 (by kernel_rfl) rfl #[.slice Ao23 t275.length co23,.slice Ao43 t286.length co43] rfl (by (try simp only [List.map_toArray,List.map_cons,List.map_nil]); first | done|rfl|(simp only [List.length_drop,List.length_take]; rfl)) ?_; (with_reducible refine (laws_eqRoadS.calls kj14 _ _ t275 _ _ t286 true _ ?side1 ?side2 ?side3 ?side4 A34.out).mono ?_); (case side1 => repeat (first|exact (zC HO_12.out).2.2|(with_reducible refine Kd.C_alloc ?_ _)|(with_reducible refine Kd.C_drewN ?_ _)|(with_reducible refine Kd.C_drew ?_))); (case side2 => exact (zC HO_12.out).2.1); (case side3 => repeat (first|exact (zC HO288.out).2.2|(with_reducible refine Kd.C_alloc ?_ _)|(with_reducible refine Kd.C_drewN ?_ _)|(with_reducible refine Kd.C_drew ?_))); (case side4 => exact (zC HO288.out).2.1); rintro e w44 ⟨rfl,hb⟩; refine ⟨_,rfl,?_⟩; have n0_ := zA (zB (rrA27 HO_10.out) hb); have n1_ := zA (zB (rrA27 HO_12.out) hb); have n2_ := zA (Kd.S_below (by (with_reducible repeat (first|apply Kd.S_alloc|apply Kd.S_drewN|apply Kd.S_drew)); exact HO_13.out) hb); have n3_ := zA (zB (rrA27 HO_14.out) hb); have n4_ := zA (zB (rrA27 HO288.out) hb); have n5_ := zA (zG (by repeat (first|(with_reducible first|exact HB.out|apply zD|apply zF|apply zE)|exact HB.out)) hb); clear HO_10 HO_12 HO_13 HO_14 HO288 HB; have HO_10 := n0_; have HO_12 := n1_; have HO_13 := n2_; have HO_14 := n3_; have HO288 := n4_; have HB := n5_; clear n0_ n1_ n2_ n3_ n4_ n5_; (try clear hb); (try clear hb2); (try clear hk); (try clear hi)) | ((with_reducible refine gate_callee (f := 25) rfl ?_); refine goesL_ (some 69) rfl rfl Try.func25 (by kernel_rfl) rfl #[.slice A3 l3.length c3] rfl (by (try simp only [List.map_toArray,List.map_cons,List.map_nil]); first | done|rfl|(simp only [List.length_drop,List.length_take]; rfl)) ?_; (with_reducible refine (laws_toIntSS.calls kj14 _ _ l3 t290 _ ?side1 ?side2 A36.out).mono ?_); (case side1 => repeat (first|exact (Kd.C_below HR3.out HB.out)|(with_reducible refine Kd.C_alloc ?_ _)|(with_reducible refine Kd.C_drewN ?_ _)|(with_reducible refine Kd.C_drew ?_))); (case side2 => exact HC3.out); rintro e w45 ⟨v291,rfl,ho0,hb⟩; refine ⟨_,rfl,?_⟩; have n0_ := zA (zB (rrA27 HO_10.out) hb); have n1_ := zA (zB (rrA27 HO_12.out) hb); have n2_ := zA (Kd.S_elder' (by (with_reducible repeat (first|apply Kd.S_alloc|apply Kd.S_drewN|apply Kd.S_drew)); exact HO_13.out) (Kd.S_base ho0) hb); have n3_ := zA (zB (rrA27 HO_14.out) hb); have n4_ := zA (zB (rrA27 HO288.out) hb); have n5_ := zA (Kd.S_lower (Kd.S_new' (Kd.S_new' (Kd.S_new' ho0 (Kd.R_lt (rrA27 HO_10.out))) (Kd.S_lt (by (with_reducible repeat (first|apply Kd.S_alloc|apply Kd.S_drewN|apply Kd.S_drew)); exact HO_13.out))) (Kd.R_lt (rrA27 HO_14.out))) (below_size (by repeat (first|(with_reducible first|exact HB.out|apply zD|apply zF|apply zE)|exact HB.out)))); have n6_ := zA (zG (by repeat (first|(with_reducible first|exact HB.out|apply zD|apply zF|apply zE)|exact HB.out)) hb); clear HO_10 HO_12 HO_13 HO_14 HO288 HB; have HO_10 := n0_; have HO_12 := n1_; have HO_13 := n2_; have HO_14 := n3_; have HO288 := n4_; have HO292 := n5_; have HB := n6_; clear n0_ n1_ n2_ n3_ n4_ n5_ n6_; (try clear hb); (try clear hb2); (try clear hk); (try clear hi); (try clear ho0); obtain ⟨Ao46,co46,eo46⟩ := Kd.S_slice HO292.out; subst eo46) | ((with_reducible refine gate_callee (f := 27) rfl ?_); refine goesL_ (some 70) rfl rfl Try.func27 (by kernel_rfl) rfl #[.slice Ao24 t278.length co24,.slice Ao46 t290.length co46] rfl (by (try simp only [List.map_toArray,List.map_cons,List.map_nil]); first | done|rfl|(simp only [List.length_drop,List.length_take]; rfl)) ?_; (with_reducible refine (laws_eqIntSS.calls kj14 _ _ t278 _ _ t290 true _ ?side1 ?side2 ?side3 ?side4 A37.out).mono ?_); (case side1 => repeat (first|exact (Kd.S_reads' HO_13.out).2.2|(with_reducible refine Kd.C_alloc ?_ _)|(with_reducible refine Kd.C_drewN ?_ _)|(with_reducible refine Kd.C_drew ?_))); (case side2 => exact (Kd.S_reads' HO_13.out).2.1); (case side3 => repeat (first|exact (Kd.S_reads' HO292.out).2.2|(with_reducible refine Kd.C_alloc ?_ _)|(with_reducible refine Kd.C_drewN ?_ _)|(with_reducible refine Kd.C_drew ?_))); (case side4 => exact (Kd.S_reads' HO292.out).2.1); rintro e w' ⟨rfl,⟨nd,rfl⟩⟩; refine ⟨_,rfl,?_⟩) | ((with_reducible refine gate_callee (f := 14) rfl ?_); refine goesL_ (some 74) rfl rfl Try.func14 (by kernel_rfl) rfl #[.slice Ao23 t275.length co23,.int .i64 1] rfl (by (try simp only [List.map_toArray,List.map_cons,List.map_nil]); first | done|rfl|(simp only [List.length_drop,List.length_take]; rfl)) ?_; (with_reducible refine (laws_markRoadS.calls kj14 (fun k_ => some k_ = (.slice Ao23 t275.length co23 : Value).ownBlock) (.slice Ao23 t275.length co23) t275 1 t294 t295 w _ ?side1 ?side2 A39.out).mono ?_); (case side1 => repeat (first|(with_reducible first|exact HB.out|apply zD|apply zF|apply zE)|exact HB.out)); (case side2 => exact Kd.R_tight rfl HO_12.out); rintro e w47 ⟨rfl,hy0,hb,hkp⟩; refine ⟨_,rfl,?_⟩; have n0_ := zA (Kd.R_mono (ok' := fun k_ => some k_ ≠ (v283 : Value).ownBlock) (Kd.R_keptB ((Kd.R_apart' HO_10.out (Kd.R_typed HO_12.out) (by decide))) hkp (fun k_ hk_ hs_ => (hk_.2) hs_)) (fun k_ hk_ => hk_.1.1)); have n1_ := zA (Kd.R_reok rfl hy0 (fun k_ e_ => HO_12.out.1 k_ e_)); have n2_ := zA (Kd.S_mono (ok' := fun k_ => some k_ ≠ (v273 : Value).ownBlock ∧ some k_ ≠ (v283 : Value).ownBlock ∧ some k_ ≠ (.slice Ao46 t290.length co46 : Value).ownBlock) (Kd.S_keptB ((Kd.S_apart' HO_13.out (Kd.R_typed HO_12.out) (by decide))) hkp (fun k_ hk_ hs_ => (hk_.2) hs_)) (fun k_ hk_ => ⟨hk_.1.1.1.1,hk_.1.1.1.2,hk_.1.1.2⟩)); have n3_ := zA (Kd.R_mono (ok' := fun k_ => some k_ ≠ (v273 : Value).ownBlock) (Kd.R_keptB ((Kd.R_apart' HO_14.out (Kd.R_typed HO_12.out) (by decide))) hkp (fun k_ hk_ hs_ => (hk_.2) hs_)) (fun k_ hk_ => hk_.1.1)); have n4_ := zA (Kd.R_mono (ok' := fun k_ => some k_ ≠ (.slice Ao23 t275.length co23 : Value).ownBlock) (Kd.R_keptB (HO288.out) hkp (fun k_ hk_ hs_ => (hk_.2) hs_)) (fun k_ hk_ => hk_.1.2)); have n5_ := zA (Kd.S_mono (ok' := fun k_ => some k_ ≠ (v273 : Value).ownBlock ∧ some k_ ≠ (.slice Ao24 t278.length co24 : Value).ownBlock ∧ some k_ ≠ (v283 : Value).ownBlock) (Kd.S_keptB ((Kd.S_apart' HO292.out (Kd.R_typed HO_12.out) (by decide))) hkp (fun k_ hk_ hs_ => (hk_.2) hs_)) (fun k_ hk_ => ⟨hk_.1.1.1.1.2,hk_.1.1.1.2,hk_.1.1.2⟩)); have n6_ := zA (hb); clear HO_10 HO_12 HO_13 HO_14 HO288 HO292 HB; have HO_10 := n0_; have HO_12 := n1_; have HO_13 := n2_; have HO_14 := n3_; have HO288 := n4_; have HO292 := n5_; have HB := n6_; clear n0_ n1_ n2_ n3_ n4_ n5_ n6_; (try clear hb); (try clear hkp); (try clear hy0)) | ((with_reducible refine gate_callee (f := 28) rfl ?_); refine goesL_ (some 77) rfl rfl Try.func28 (by kernel_rfl) rfl #[.slice Ao24 t278.length co24,.int .i64 t294] rfl (by (try simp only [List.map_toArray,List.map_cons,List.map_nil]); first | done|rfl|(simp only [List.length_drop,List.length_take]; rfl)) ?_; refine (laws_markIntSS.marks kj14 _ _ t278 t294 t296 w _ (by repeat (first|(with_reducible first|exact HB.out|apply zD|apply zF|apply zE)|exact HB.out)) (by (with_reducible repeat (first|apply Kd.S_alloc|apply Kd.S_drewN|apply Kd.S_drew)); exact Kd.S_apart' (Kd.S_apart' HO_13.out (Kd.R_typed HO_12.out) (by decide)) (Kd.R_typed HO288.out) (by decide)) A40.out).mono ?_; rintro e w48 ⟨rfl,hb,hkp⟩; refine ⟨_,rfl,?_⟩; have n0_ := zA (Kd.R_reok rfl (Kd.R_kept (Kd.R_tight rfl (rrA27 HO_10.out)) hkp (fun k_ hk hs => by first|exact hs.2 hk|exact hs.1.2 hk|exact hs.1.1.2 hk|exact hs.1.1.1.2 hk|exact hs.1.1.1.1.2 hk|exact hs.1.1.1.1.1.2 hk|exact hs hk|exact hs.2.1 hk|exact hs.2.2 hk|exact hs.1 hk|exact hs.1.1 hk|exact hs.1.2.1 hk|exact hs.1.2.2 hk|exact hs.1.2.2.1 hk|exact hs.1.1.2.1 hk|exact hs.1.1.2.2 hk|exact hs.1.1.1 hk|exact hs.1.1.1.1 hk|exact hs.2.2.1 hk|exact hs.2.2.2 hk|exact hs.2.2.2.1 hk|exact hs.2.2.2.2 hk|exact hs.1.1.1.1.1.1.2 hk)) (fun k_ e_ => HO_10.out.1 k_ e_)); have n1_ := zA (Kd.R_reok rfl (Kd.R_kept (Kd.R_tight rfl (rrA27 HO_12.out)) hkp (fun k_ hk hs => by first|exact hs.2 hk|exact hs.1.2 hk|exact hs.1.1.2 hk|exact hs.1.1.1.2 hk|exact hs.1.1.1.1.2 hk|exact hs.1.1.1.1.1.2 hk|exact hs hk|exact hs.2.1 hk|exact hs.2.2 hk|exact hs.1 hk|exact hs.1.1 hk|exact hs.1.2.1 hk|exact hs.1.2.2 hk|exact hs.1.2.2.1 hk|exact hs.1.1.2.1 hk|exact hs.1.1.2.2 hk|exact hs.1.1.1 hk|exact hs.1.1.1.1 hk|exact hs.2.2.1 hk|exact hs.2.2.2 hk|exact hs.2.2.2.1 hk|exact hs.2.2.2.2 hk|exact hs.1.1.1.1.1.1.2 hk)) (fun k_ e_ => HO_12.out.1 k_ e_)); have n2_ := zA (Kd.S_nil (α := Int) (Kd.int .i64) 3 w48 w.heap.size (fun _ => True)); have n3_ := zA (Kd.R_reok rfl (Kd.R_kept (Kd.R_tight rfl (rrA27 HO_14.out)) hkp (fun k_ hk hs => by first|exact hs.2 hk|exact hs.1.2 hk|exact hs.1.1.2 hk|exact hs.1.1.1.2 hk|exact hs.1.1.1.1.2 hk|exact hs.1.1.1.1.1.2 hk|exact hs hk|exact hs.2.1 hk|exact hs.2.2 hk|exact hs.1 hk|exact hs.1.1 hk|exact hs.1.2.1 hk|exact hs.1.2.2 hk|exact hs.1.2.2.1 hk|exact hs.1.1.2.1 hk|exact hs.1.1.2.2 hk|exact hs.1.1.1 hk|exact hs.1.1.1.1 hk|exact hs.2.2.1 hk|exact hs.2.2.2 hk|exact hs.2.2.2.1 hk|exact hs.2.2.2.2 hk|exact hs.1.1.1.1.1.1.2 hk)) (fun k_ e_ => HO_14.out.1 k_ e_)); have n4_ := zA (Kd.R_reok rfl (Kd.R_kept (Kd.R_tight rfl (rrA27 HO288.out)) hkp (fun k_ hk hs => by first|exact hs.2 hk|exact hs.1.2 hk|exact hs.1.1.2 hk|exact hs.1.1.1.2 hk|exact hs.1.1.1.1.2 hk|exact hs.1.1.1.1.1.2 hk|exact hs hk|exact hs.2.1 hk|exact hs.2.2 hk|exact hs.1 hk|exact hs.1.1 hk|exact hs.1.2.1 hk|exact hs.1.2.2 hk|exact hs.1.2.2.1 hk|exact hs.1.1.2.1 hk|exact hs.1.1.2.2 hk|exact hs.1.1.1 hk|exact hs.1.1.1.1 hk|exact hs.2.2.1 hk|exact hs.2.2.2 hk|exact hs.2.2.2.1 hk|exact hs.2.2.2.2 hk|exact hs.1.1.1.1.1.1.2 hk)) (fun k_ e_ => HO288.out.1 k_ e_)); have n5_ := zA (Kd.S_nil (α := Int) (Kd.int .i64) 3 w48 w.heap.size (fun _ => True)); have n6_ := zA hb; clear HO_10 HO_12 HO_13 HO_14 HO288 HO292 HB; have HO_10 := n0_; have HO_12 := n1_; have HO_13 := n2_; have HO_14 := n3_; have HO288 := n4_; have HO292 := n5_; have HB := n6_; clear n0_ n1_ n2_ n3_ n4_ n5_ n6_; (try clear hb); (try clear hkp); (try clear hb2); (try clear hk); (try clear hi)))
         (try simp only [Act.put,List.setIfInBounds_toArray,List.set_cons_zero,List.set_cons_succ])
         go_cut [90] (fun v90 wc => ∃ (kq : Nat) (x90_40 : Bool),v90 = .bool x90_40 ∧ Aside0 (laws_FnExactSpread.j1 kq a0 l1 a2 l3 t271 t272 t281 x90_40 = some r) ∧ Aside0 (kq ≤ kj14) ∧ Aside0 (Kd.R (Kd.int .i64) 3 wc w.heap.size (fun k_ => some k_ ≠ (v283 : Value).ownBlock) v273 t271) ∧ Aside0 (Kd.R (Kd.int .i64) 3 wc w.heap.size (fun k_ => some k_ ≠ (v273 : Value).ownBlock) v283 t281) ∧ Aside0 (Below w.heap.size w wc))
         case first =>
          have H := HC41.out
          clear HC41
          by_cases c49 : t296 < 0
          ·
           rw [if_pos c49] at H
           have c49b0 : decide (t296 < 0) = true := decide_eq_true c49
           clear c49
           (first | rw [c49b0]|(simp only [i64_w,i32_w]; rw [c49b0])|skip)
           have H' := zA H
           clear H; go_wp2
           go_meet
           case rel => exact ⟨_,(true),(by first|rfl|(simp; done)|(simp [*]; done)),H',⟨by have := HJ14.out; first|omega|exact Nat.le_refl _⟩,⟨(rrA27 HO_10.out)⟩,⟨(rrA27 HO_14.out)⟩,⟨by repeat (first|(with_reducible first|exact HB.out|apply zD|apply zF|apply zE)|exact HB.out)⟩⟩
          ·
           rw [if_neg c49] at H
           have c49b0 : decide (t296 < 0) = false := decide_eq_false c49
           clear c49
           (first | rw [c49b0]|(simp only [i64_w,i32_w]; rw [c49b0])|skip)
           replace H := Option.bind_eq_some_iff.mp H
           obtain ⟨t297,A500,H⟩ := H
           replace H : (if t297 = true then (laws_FnExactSpread.j1 kj14 a0 l1 a2 l3 t271 t272 t281 (t282 != t272)) else (laws_FnExactSpread.j1 kj14 a0 l1 a2 l3 t271 t272 t281 true)) = some r := H
           have A50 := zA A500
           clear A500
           by_cases c51 : t297 = true
           ·
            subst c51
            have H1 : (laws_FnExactSpread.j1 kj14 a0 l1 a2 l3 t271 t272 t281 (t282 != t272)) = some r := by rw [if_pos rfl] at H; exact H
            clear H; have H := H1; clear H1
            have H' := zA H
            clear H
            obtain ⟨Ao52,co52,eo52⟩ := Kd.R_slice HO_14.out
            subst eo52
            obtain ⟨Ao53,co53,eo53⟩ := Kd.R_slice HO_10.out
            subst eo53
            go_wp2_with (first | (go_at_call 12; (with_reducible refine (laws_eqIntS.calls kj14 _ _ t281 _ _ t271 true _ ?side1 ?side2 ?side3 ?side4 A50.out).mono ?_); (case side1 => repeat (first|exact (zC HO_14.out).2.2|(with_reducible refine Kd.C_alloc ?_ _)|(with_reducible refine Kd.C_drewN ?_ _)|(with_reducible refine Kd.C_drew ?_))); (case side2 => exact (zC HO_14.out).2.1); (case side3 => repeat (first|exact (zC HO_10.out).2.2|(with_reducible refine Kd.C_alloc ?_ _)|(with_reducible refine Kd.C_drewN ?_ _)|(with_reducible refine Kd.C_drew ?_))); (case side4 => exact (zC HO_10.out).2.1); rintro e w' ⟨rfl,⟨nd,rfl⟩⟩))
            go_meet
            case rel => exact ⟨_,((t282 != t272)),(by first|rfl|(simp; done)|(simp [*]; done)),H',⟨by have := HJ14.out; first|omega|exact Nat.le_refl _⟩,⟨(rrA27 HO_10.out)⟩,⟨(rrA27 HO_14.out)⟩,⟨by repeat (first|(with_reducible first|exact HB.out|apply zD|apply zF|apply zE)|exact HB.out)⟩⟩
           ·
            replace c51 := Bool.eq_false_iff.mpr c51
            subst c51
            have H1 : (laws_FnExactSpread.j1 kj14 a0 l1 a2 l3 t271 t272 t281 true) = some r := by rw [if_neg (show ¬ (false = true) by decide)] at H; exact H
            clear H; have H := H1; clear H1
            have H' := zA H
            clear H
            obtain ⟨Ao54,co54,eo54⟩ := Kd.R_slice HO_14.out
            subst eo54
            obtain ⟨Ao55,co55,eo55⟩ := Kd.R_slice HO_10.out
            subst eo55
            go_wp2_with (first | (go_at_call 12; (with_reducible refine (laws_eqIntS.calls kj14 _ _ t281 _ _ t271 false _ ?side1 ?side2 ?side3 ?side4 A50.out).mono ?_); (case side1 => repeat (first|exact (zC HO_14.out).2.2|(with_reducible refine Kd.C_alloc ?_ _)|(with_reducible refine Kd.C_drewN ?_ _)|(with_reducible refine Kd.C_drew ?_))); (case side2 => exact (zC HO_14.out).2.1); (case side3 => repeat (first|exact (zC HO_10.out).2.2|(with_reducible refine Kd.C_alloc ?_ _)|(with_reducible refine Kd.C_drewN ?_ _)|(with_reducible refine Kd.C_drew ?_))); (case side4 => exact (zC HO_10.out).2.1); rintro e w' ⟨rfl,⟨nd,rfl⟩⟩))
            go_meet
            case rel => exact ⟨_,(true),(by first|rfl|(simp; done)|(simp [*]; done)),H',⟨by have := HJ14.out; first|omega|exact Nat.le_refl _⟩,⟨(rrA27 HO_10.out)⟩,⟨(rrA27 HO_14.out)⟩,⟨by repeat (first|(with_reducible first|exact HB.out|apply zD|apply zF|apply zE)|exact HB.out)⟩⟩
         case rest =>
          clear HC41; try clear c1; try clear c2; try clear p2; try clear c3; try clear c4; try clear c5; try clear c6; try clear c6b0; try clear c8; try clear c8b0; try clear c10; try clear c12; try clear c13; try clear c14; try clear c23; try clear c24; try clear c25; try clear c26; try clear c27; try clear c28; try clear c32; try clear c35; try clear c38; try clear c49; try clear c49b0; try clear c51; try clear p2
          obtain ⟨kq,x90_40,rfl,HA,HJ40,HO_10,HO_14,HB⟩ := hcut
          cases kq with
          | zero => exact absurd HA.out (by simp [laws_FnExactSpread.j1])
          | succ kj40 =>
           have H := HA.out
           clear HA
           simp only [laws_FnExactSpread.j1] at H
           by_cases c56 : x90_40 = true
           ·
            subst c56
            have H1 : (some false) = some r := by rw [if_pos rfl] at H; exact H
            clear H; have H := H1; clear H1
            obtain rfl := Option.some.inj H
            go_wp2
            go_ret
            exact ⟨by first|rfl|(simp [errW_none,errW_some] <;> rfl)|(simp [*,errW_none,errW_some] <;> rfl),by repeat (first|(with_reducible first|exact HB.out|apply zD|apply zF|apply zE)|exact HB.out)⟩
           ·
            replace c56 := Bool.eq_false_iff.mpr c56
            subst c56
            have H1 : ((laws_markIntS.f kj40 t281 1).bind fun bt298 => ((laws_heldIntS.f kj40 bt298.2 1).bind fun t300 => (if t300 < 0 then (some false) else (if t300 = bt298.1 then ((laws_toRoadS.f kj40 l1).bind fun t301 => ((laws_toIntSS.f kj40 l3).bind fun t304 => ((impl_Spread.f kj40 a0 t301 a2 t304).bind fun bt307 => ((laws_eqIntS.f kj40 bt307.1 t271).bind fun t311 => (if t311 = true then (laws_FnExactSpread.j2 kj40 bt298.2 bt298.1 (bt307.2 != t272)) else (laws_FnExactSpread.j2 kj40 bt298.2 bt298.1 true)))))) else (some false))))) = some r := by rw [if_neg (show ¬ (false = true) by decide)] at H; exact H
            clear H; have H := H1; clear H1
            replace H := Option.bind_eq_some_iff.mp H
            obtain ⟨⟨t298,t299⟩,A570,H⟩ := H
            replace H : ((laws_heldIntS.f kj40 t299 1).bind fun t300 => (if t300 < 0 then (some false) else (if t300 = t298 then ((laws_toRoadS.f kj40 l1).bind fun t301 => ((laws_toIntSS.f kj40 l3).bind fun t304 => ((impl_Spread.f kj40 a0 t301 a2 t304).bind fun bt307 => ((laws_eqIntS.f kj40 bt307.1 t271).bind fun t311 => (if t311 = true then (laws_FnExactSpread.j2 kj40 t299 t298 (bt307.2 != t272)) else (laws_FnExactSpread.j2 kj40 t299 t298 true)))))) else (some false)))) = some r := H
            have A57 := zA A570
            clear A570
            replace H := Option.bind_eq_some_iff.mp H
            obtain ⟨t300,A580,H⟩ := H
            replace H : (if t300 < 0 then (some false) else (if t300 = t298 then ((laws_toRoadS.f kj40 l1).bind fun t301 => ((laws_toIntSS.f kj40 l3).bind fun t304 => ((impl_Spread.f kj40 a0 t301 a2 t304).bind fun bt307 => ((laws_eqIntS.f kj40 bt307.1 t271).bind fun t311 => (if t311 = true then (laws_FnExactSpread.j2 kj40 t299 t298 (bt307.2 != t272)) else (laws_FnExactSpread.j2 kj40 t299 t298 true)))))) else (some false))) = some r := H
            have A58 := zA A580
            clear A580
            by_cases c59 : t300 < 0
            ·
             rw [if_pos c59] at H
             have c59b0 : decide (t300 < 0) = true := decide_eq_true c59
             clear c59
             obtain rfl := Option.some.inj H
             obtain ⟨Ao60,co60,eo60⟩ := Kd.R_slice HO_14.out
             subst eo60
             go_wp2_with (first | ((with_reducible refine gate_callee (f := 15) rfl ?_); refine goesL_ (some 93) rfl rfl Try.func15 (by kernel_rfl) rfl #[.slice Ao60 t281.length co60,.int .i64 1] rfl (by (try simp only [List.map_toArray,List.map_cons,List.map_nil]); first | done|rfl|(simp only [List.length_drop,List.length_take]; rfl)) ?_; (with_reducible refine (laws_markIntS.calls kj40 (fun k_ => some k_ = (.slice Ao60 t281.length co60 : Value).ownBlock) (.slice Ao60 t281.length co60) t281 1 t298 t299 w _ ?side1 ?side2 A57.out).mono ?_); (case side1 => repeat (first|(with_reducible first|exact HB.out|apply zD|apply zF|apply zE)|exact HB.out)); (case side2 => exact Kd.R_tight rfl HO_14.out); rintro e w61 ⟨rfl,hy0,hb,hkp⟩; refine ⟨_,rfl,?_⟩; have n0_ := zA (Kd.R_mono (ok' := fun k_ => some k_ ≠ (.slice Ao60 t281.length co60 : Value).ownBlock) (Kd.R_keptB (HO_10.out) hkp (fun k_ hk_ hs_ => (hk_) hs_)) (fun k_ hk_ => hk_.1)); have n1_ := zA (Kd.R_reok rfl hy0 (fun k_ e_ => HO_14.out.1 k_ e_)); have n2_ := zA (hb); clear HO_10 HO_14 HB; have HO_10 := n0_; have HO_14 := n1_; have HB := n2_; clear n0_ n1_ n2_; (try clear hb); (try clear hkp); (try clear hy0)) | ((with_reducible refine gate_callee (f := 16) rfl ?_); refine goesL_ (some 96) rfl rfl Try.func16 (by kernel_rfl) rfl #[.slice Ao60 t299.length co60,.int .i64 1] rfl (by (try simp only [List.map_toArray,List.map_cons,List.map_nil]); first | done | (rw [show t299.length = t281.length from (zC HO_14.out).1.symm] <;> rfl)|rfl|(simp only [List.length_drop,List.length_take]; rfl)) ?_; (with_reducible refine (laws_heldIntS.calls kj40 _ _ t299 1 t300 _ ?side1 ?side2 A58.out).mono ?_); (case side1 => repeat (first|exact (zC HO_14.out).2.2|(with_reducible refine Kd.C_alloc ?_ _)|(with_reducible refine Kd.C_drewN ?_ _)|(with_reducible refine Kd.C_drew ?_))); (case side2 => rw [show t299.length = t281.length from (zC HO_14.out).1.symm]; exact (zC HO_14.out).2.1); rintro e w' ⟨rfl,⟨nd,rfl⟩⟩; refine ⟨_,rfl,?_⟩))
             go_ret
             exact ⟨by first|rfl|(simp [errW_none,errW_some] <;> rfl)|(simp [*,errW_none,errW_some] <;> rfl),by repeat (first|(with_reducible first|exact HB.out|apply zD|apply zF|apply zE)|exact HB.out)⟩
            ·
             rw [if_neg c59] at H
             have c59b0 : decide (t300 < 0) = false := decide_eq_false c59
             clear c59
             by_cases c62 : t300 = t298
             ·
              rw [if_pos c62] at H
              have c62b0 : (t300 == t298) = true := beq_iff_eq.mpr c62
              have c62b1 : (t300 != t298) = false := bne_eq_false_iff_eq.mpr c62
              clear c62
              replace H := Option.bind_eq_some_iff.mp H
              obtain ⟨t301,A630,H⟩ := H
              replace H : ((laws_toIntSS.f kj40 l3).bind fun t304 => ((impl_Spread.f kj40 a0 t301 a2 t304).bind fun bt307 => ((laws_eqIntS.f kj40 bt307.1 t271).bind fun t311 => (if t311 = true then (laws_FnExactSpread.j2 kj40 t299 t298 (bt307.2 != t272)) else (laws_FnExactSpread.j2 kj40 t299 t298 true))))) = some r := H
              have A63 := zA A630
              clear A630
              replace H := Option.bind_eq_some_iff.mp H
              obtain ⟨t304,A640,H⟩ := H
              replace H : ((impl_Spread.f kj40 a0 t301 a2 t304).bind fun bt307 => ((laws_eqIntS.f kj40 bt307.1 t271).bind fun t311 => (if t311 = true then (laws_FnExactSpread.j2 kj40 t299 t298 (bt307.2 != t272)) else (laws_FnExactSpread.j2 kj40 t299 t298 true)))) = some r := H
              have A64 := zA A640
              clear A640
              replace H := Option.bind_eq_some_iff.mp H
              obtain ⟨⟨t307,t308⟩,A650,H⟩ := H
              replace H : ((laws_eqIntS.f kj40 t307 t271).bind fun t311 => (if t311 = true then (laws_FnExactSpread.j2 kj40 t299 t298 (t308 != t272)) else (laws_FnExactSpread.j2 kj40 t299 t298 true))) = some r := H
              have A65 := zA A650
              clear A650
              have HC66 := zA H
              clear H
              obtain ⟨Ao67,co67,eo67⟩ := Kd.R_slice HO_14.out
              subst eo67
              go_upto_region 32 with (first | ((with_reducible refine gate_callee (f := 15) rfl ?_); refine goesL_ (some 93) rfl rfl Try.func15 (by kernel_rfl) rfl #[.slice Ao67 t281.length co67,.int .i64 1] rfl (by (try simp only [List.map_toArray,List.map_cons,List.map_nil]); first | done|rfl|(simp only [List.length_drop,List.length_take]; rfl)) ?_; (with_reducible refine (laws_markIntS.calls kj40 (fun k_ => some k_ = (.slice Ao67 t281.length co67 : Value).ownBlock) (.slice Ao67 t281.length co67) t281 1 t298 t299 w _ ?side1 ?side2 A57.out).mono ?_); (case side1 => repeat (first|(with_reducible first|exact HB.out|apply zD|apply zF|apply zE)|exact HB.out)); (case side2 => exact Kd.R_tight rfl HO_14.out); rintro e w68 ⟨rfl,hy0,hb,hkp⟩; refine ⟨_,rfl,?_⟩; have n0_ := zA (Kd.R_mono (ok' := fun k_ => some k_ ≠ (.slice Ao67 t281.length co67 : Value).ownBlock) (Kd.R_keptB (HO_10.out) hkp (fun k_ hk_ hs_ => (hk_) hs_)) (fun k_ hk_ => hk_.1)); have n1_ := zA (Kd.R_reok rfl hy0 (fun k_ e_ => HO_14.out.1 k_ e_)); have n2_ := zA (hb); clear HO_10 HO_14 HB; have HO_10 := n0_; have HO_14 := n1_; have HB := n2_; clear n0_ n1_ n2_; (try clear hb); (try clear hkp); (try clear hy0)) | ((with_reducible refine gate_callee (f := 16) rfl ?_); refine goesL_ (some 96) rfl rfl Try.func16 (by kernel_rfl) rfl #[.slice Ao67 t299.length co67,.int .i64 1] rfl (by (try simp only [List.map_toArray,List.map_cons,List.map_nil]); first | done | (rw [show t299.length = t281.length from (zC HO_14.out).1.symm] <;> rfl)|rfl|(simp only [List.length_drop,List.length_take]; rfl)) ?_; (with_reducible refine (laws_heldIntS.calls kj40 _ _ t299 1 t300 _ ?side1 ?side2 A58.out).mono ?_); (case side1 => repeat (first|exact (zC HO_14.out).2.2|(with_reducible refine Kd.C_alloc ?_ _)|(with_reducible refine Kd.C_drewN ?_ _)|(with_reducible refine Kd.C_drew ?_))); (case side2 => rw [show t299.length = t281.length from (zC HO_14.out).1.symm]; exact (zC HO_14.out).2.1); rintro e w' ⟨rfl,⟨nd,rfl⟩⟩; refine ⟨_,rfl,?_⟩) | ((with_reducible refine gate_callee (f := 10) rfl ?_); refine goesL_ (some 105) rfl rfl Try.func10 (by kernel_rfl) rfl #[.slice A1 l1.length c1] rfl (by (try simp only [List.map_toArray,List.map_cons,List.map_nil]); first | done|rfl|(simp only [List.length_drop,List.length_take]; rfl)) ?_; (with_reducible refine (laws_toRoadS.calls kj40 _ _ l1 t301 _ ?side1 ?side2 A63.out).mono ?_); (case side1 => repeat (first|exact (Kd.C_below HR1.out (by repeat (first|(with_reducible first|exact HB.out|apply zD|apply zF|apply zE)|exact HB.out)))|(with_reducible refine Kd.C_alloc ?_ _)|(with_reducible refine Kd.C_drewN ?_ _)|(with_reducible refine Kd.C_drew ?_))); (case side2 => exact HC1.out); rintro e w69 ⟨v302,rfl,ho0,hb⟩; refine ⟨_,rfl,?_⟩; have n0_ := zA (zB (rrA27 HO_10.out) hb); have n1_ := zA (zB (rrA27 HO_14.out) hb); have n2_ := zA (Kd.R_lower ho0 (below_size (by repeat (first|(with_reducible first|exact HB.out|apply zD|apply zF|apply zE)|exact HB.out)))); have n3_ := zA (zG (by repeat (first|(with_reducible first|exact HB.out|apply zD|apply zF|apply zE)|exact HB.out)) hb); clear HO_10 HO_14 HB; have HO_10 := n0_; have HO_14 := n1_; have HO303 := n2_; have HB := n3_; clear n0_ n1_ n2_ n3_; (try clear hb); (try clear hb2); (try clear hk); (try clear hi); (try clear ho0)) | ((with_reducible refine gate_callee (f := 25) rfl ?_); refine goesL_ (some 108) rfl rfl Try.func25 (by kernel_rfl) rfl #[.slice A3 l3.length c3] rfl (by (try simp only [List.map_toArray,List.map_cons,List.map_nil]); first | done|rfl|(simp only [List.length_drop,List.length_take]; rfl)) ?_; (with_reducible refine (laws_toIntSS.calls kj40 _ _ l3 t304 _ ?side1 ?side2 A64.out).mono ?_); (case side1 => repeat (first|exact (Kd.C_below HR3.out HB.out)|(with_reducible refine Kd.C_alloc ?_ _)|(with_reducible refine Kd.C_drewN ?_ _)|(with_reducible refine Kd.C_drew ?_))); (case side2 => exact HC3.out); rintro e w70 ⟨v305,rfl,ho0,hb⟩; refine ⟨_,rfl,?_⟩; have n0_ := zA (zB (rrA27 HO_10.out) hb); have n1_ := zA (zB (rrA27 HO_14.out) hb); have n2_ := zA (zB (rrA27 HO303.out) hb); have n3_ := zA (Kd.S_lower (Kd.S_new' (Kd.S_new' ho0 (Kd.R_lt (rrA27 HO_10.out))) (Kd.R_lt (rrA27 HO_14.out))) (below_size (by repeat (first|(with_reducible first|exact HB.out|apply zD|apply zF|apply zE)|exact HB.out)))); have n4_ := zA (zG (by repeat (first|(with_reducible first|exact HB.out|apply zD|apply zF|apply zE)|exact HB.out)) hb); clear HO_10 HO_14 HO303 HB; have HO_10 := n0_; have HO_14 := n1_; have HO303 := n2_; have HO306 := n3_; have HB := n4_; clear n0_ n1_ n2_ n3_ n4_; (try clear hb); (try clear hb2); (try clear hk); (try clear hi); (try clear ho0); obtain ⟨Ao71,co71,eo71⟩ := Kd.R_slice HO303.out; subst eo71; obtain ⟨Ao72,co72,eo72⟩ := Kd.S_slice HO306.out; subst eo72) | ((with_reducible refine gate_callee (f := 26) rfl ?_); refine goesL_ (some 109) rfl rfl Try.func26 (by kernel_rfl) rfl #[.int .i64 a0,.slice Ao71 t301.length co71,.int .i64 a2,.slice Ao72 t304.length co72] rfl (by (try simp only [List.map_toArray,List.map_cons,List.map_nil]); first | done|rfl|(simp only [List.length_drop,List.length_take]; rfl)) ?_; (with_reducible refine (impl_Spread.calls kj40 a0 _ _ t301 a2 _ _ t304 t307 t308 _ ?side1 ?side2 ?side3 ?side4 A65.out).mono ?_); (case side1 => repeat (first|exact (zC HO303.out).2.2|(with_reducible refine Kd.C_alloc ?_ _)|(with_reducible refine Kd.C_drewN ?_ _)|(with_reducible refine Kd.C_drew ?_))); (case side2 => exact (zC HO303.out).2.1); (case side3 => repeat (first|exact (Kd.S_reads' HO306.out).2.2|(with_reducible refine Kd.C_alloc ?_ _)|(with_reducible refine Kd.C_drewN ?_ _)|(with_reducible refine Kd.C_drew ?_))); (case side4 => exact (Kd.S_reads' HO306.out).2.1); rintro e w73 ⟨v309,rfl,ho0,hb⟩; refine ⟨_,rfl,?_⟩; have n0_ := zA (Kd.R_elder' (rrA27 HO_10.out) (Kd.R_base ho0) hb); have n1_ := zA (Kd.R_elder' (rrA27 HO_14.out) (Kd.R_base ho0) hb); have n2_ := zA (zB (rrA27 HO303.out) hb); have n3_ := zA (Kd.S_elder' (by (with_reducible repeat (first|apply Kd.S_alloc|apply Kd.S_drewN|apply Kd.S_drew)); exact HO306.out) (Kd.R_base ho0) hb); have n4_ := zA (Kd.R_lower (Kd.R_new' (Kd.R_new' ho0 (Kd.R_lt (rrA27 HO_10.out))) (Kd.R_lt (rrA27 HO_14.out))) (below_size (by repeat (first|(with_reducible first|exact HB.out|apply zD|apply zF|apply zE)|exact HB.out)))); have n5_ := zA (zG (by repeat (first|(with_reducible first|exact HB.out|apply zD|apply zF|apply zE)|exact HB.out)) hb); clear HO_10 HO_14 HO303 HO306 HB; have HO_10 := n0_; have HO_14 := n1_; have HO303 := n2_; have HO306 := n3_; have HO310 := n4_; have HB := n5_; clear n0_ n1_ n2_ n3_ n4_ n5_; (try clear hb); (try clear hb2); (try clear hk); (try clear hi); (try clear ho0)))
              (try simp only [Act.put,List.setIfInBounds_toArray,List.set_cons_zero,List.set_cons_succ])
              go_cut [120] (fun v120 wc => ∃ (kq : Nat) (x120_65 : Bool),v120 = .bool x120_65 ∧ Aside0 (laws_FnExactSpread.j2 kq t299 t298 x120_65 = some r) ∧ Aside0 (kq ≤ kj40) ∧ Aside0 (Kd.R (Kd.int .i64) 3 wc w.heap.size (fun _ => True) (.slice Ao67 t281.length co67) t299) ∧ Aside0 (Below w.heap.size w wc))
              case first =>
               have H := HC66.out
               clear HC66
               replace H := Option.bind_eq_some_iff.mp H
               obtain ⟨t311,A740,H⟩ := H
               replace H : (if t311 = true then (laws_FnExactSpread.j2 kj40 t299 t298 (t308 != t272)) else (laws_FnExactSpread.j2 kj40 t299 t298 true)) = some r := H
               have A74 := zA A740
               clear A740
               by_cases c75 : t311 = true
               ·
                subst c75
                have H1 : (laws_FnExactSpread.j2 kj40 t299 t298 (t308 != t272)) = some r := by rw [if_pos rfl] at H; exact H
                clear H; have H := H1; clear H1
                have H' := zA H
                clear H
                obtain ⟨Ao76,co76,eo76⟩ := Kd.R_slice HO310.out
                subst eo76
                obtain ⟨Ao77,co77,eo77⟩ := Kd.R_slice HO_10.out
                subst eo77
                go_wp2_with (first | ((with_reducible refine gate_callee (f := 12) rfl ?_); refine goesL_ (some 114) rfl rfl Try.func12 (by kernel_rfl) rfl #[.slice Ao76 t307.length co76,.slice Ao77 t271.length co77] rfl (by (try simp only [List.map_toArray,List.map_cons,List.map_nil]); first | done|rfl|(simp only [List.length_drop,List.length_take]; rfl)) ?_; (with_reducible refine (laws_eqIntS.calls kj40 _ _ t307 _ _ t271 true _ ?side1 ?side2 ?side3 ?side4 A74.out).mono ?_); (case side1 => repeat (first|exact (zC HO310.out).2.2|(with_reducible refine Kd.C_alloc ?_ _)|(with_reducible refine Kd.C_drewN ?_ _)|(with_reducible refine Kd.C_drew ?_))); (case side2 => exact (zC HO310.out).2.1); (case side3 => repeat (first|exact (zC HO_10.out).2.2|(with_reducible refine Kd.C_alloc ?_ _)|(with_reducible refine Kd.C_drewN ?_ _)|(with_reducible refine Kd.C_drew ?_))); (case side4 => exact (zC HO_10.out).2.1); rintro e w' ⟨rfl,⟨nd,rfl⟩⟩; refine ⟨_,rfl,?_⟩))
                go_meet
                case rel => exact ⟨_,((t308 != t272)),(by first|rfl|(simp; done)|(simp [*]; done)),H',⟨by have := HJ14.out; have := HJ40.out; first|omega|exact Nat.le_refl _⟩,⟨by (with_reducible repeat (first|apply Kd.R_alloc|apply Kd.R_drewN|apply Kd.R_drew)); exact Kd.R_mono HO_14.out (fun _ hk => trivial)⟩,⟨by repeat (first|(with_reducible first|exact HB.out|apply zD|apply zF|apply zE)|exact HB.out)⟩⟩
               ·
                replace c75 := Bool.eq_false_iff.mpr c75
                subst c75
                have H1 : (laws_FnExactSpread.j2 kj40 t299 t298 true) = some r := by rw [if_neg (show ¬ (false = true) by decide)] at H; exact H
                clear H; have H := H1; clear H1
                have H' := zA H
                clear H
                obtain ⟨Ao78,co78,eo78⟩ := Kd.R_slice HO310.out
                subst eo78
                obtain ⟨Ao79,co79,eo79⟩ := Kd.R_slice HO_10.out
                subst eo79
                go_wp2_with (first | ((with_reducible refine gate_callee (f := 12) rfl ?_); refine goesL_ (some 114) rfl rfl Try.func12 (by kernel_rfl) rfl #[.slice Ao78 t307.length co78,.slice Ao79 t271.length co79] rfl (by (try simp only [List.map_toArray,List.map_cons,List.map_nil]); first | done|rfl|(simp only [List.length_drop,List.length_take]; rfl)) ?_; (with_reducible refine (laws_eqIntS.calls kj40 _ _ t307 _ _ t271 false _ ?side1 ?side2 ?side3 ?side4 A74.out).mono ?_); (case side1 => repeat (first|exact (zC HO310.out).2.2|(with_reducible refine Kd.C_alloc ?_ _)|(with_reducible refine Kd.C_drewN ?_ _)|(with_reducible refine Kd.C_drew ?_))); (case side2 => exact (zC HO310.out).2.1); (case side3 => repeat (first|exact (zC HO_10.out).2.2|(with_reducible refine Kd.C_alloc ?_ _)|(with_reducible refine Kd.C_drewN ?_ _)|(with_reducible refine Kd.C_drew ?_))); (case side4 => exact (zC HO_10.out).2.1); rintro e w' ⟨rfl,⟨nd,rfl⟩⟩; refine ⟨_,rfl,?_⟩))
                go_meet
                case rel => exact ⟨_,(true),(by first|rfl|(simp; done)|(simp [*]; done)),H',⟨by have := HJ14.out; have := HJ40.out; first|omega|exact Nat.le_refl _⟩,⟨by (with_reducible repeat (first|apply Kd.R_alloc|apply Kd.R_drewN|apply Kd.R_drew)); exact Kd.R_mono HO_14.out (fun _ hk => trivial)⟩,⟨by repeat (first|(with_reducible first|exact HB.out|apply zD|apply zF|apply zE)|exact HB.out)⟩⟩
              case rest =>
               clear HC66; try clear c1; try clear c2; try clear p2; try clear c3; try clear c4; try clear c5; try clear c6; try clear c6b0; try clear c7; try clear c8; try clear c8b0; try clear c10; try clear c12; try clear c13; try clear c14; try clear c15; try clear c16; try clear c23; try clear c24; try clear c25; try clear c26; try clear c27; try clear c28; try clear c32; try clear c35; try clear c38; try clear c49; try clear c49b0; try clear c51; try clear c56; try clear c59; try clear c59b0; try clear c62; try clear c62b0; try clear c62b1; try clear c75; try clear p2
               obtain ⟨kq,x120_65,rfl,HA,HJ65,HO_14,HB⟩ := hcut
               have hl14_65 := (zC HO_14.out).1
               rw [hl14_65] at HO_14
               (try simp only [hl14_65])
               cases kq with
               | zero => exact absurd HA.out (by simp [laws_FnExactSpread.j2])
               | succ kj65 =>
                have H := HA.out
                clear HA
                simp only [laws_FnExactSpread.j2] at H
                by_cases c80 : x120_65 = true
                ·
                 subst c80
                 have H1 : (some false) = some r := by rw [if_pos rfl] at H; exact H
                 clear H; have H := H1; clear H1
                 obtain rfl := Option.some.inj H
                 go_wp2
                 go_ret
                 exact ⟨by first|rfl|(simp [errW_none,errW_some] <;> rfl)|(simp [*,errW_none,errW_some] <;> rfl),by repeat (first|(with_reducible first|exact HB.out|apply zD|apply zF|apply zE)|exact HB.out)⟩
                ·
                 replace c80 := Bool.eq_false_iff.mpr c80
                 subst c80
                 have H1 : ((laws_heldIntS.f kj65 t299 1).bind fun t312 => (if t312 < 0 then (some false) else (if t312 = t298 then (some true) else (some false)))) = some r := by rw [if_neg (show ¬ (false = true) by decide)] at H; exact H
                 clear H; have H := H1; clear H1
                 replace H := Option.bind_eq_some_iff.mp H
                 obtain ⟨t312,A810,H⟩ := H
                 replace H : (if t312 < 0 then (some false) else (if t312 = t298 then (some true) else (some false))) = some r := H
                 have A81 := zA A810
                 clear A810
                 by_cases c82 : t312 < 0
                 ·
                  rw [if_pos c82] at H
                  have c82b0 : decide (t312 < 0) = true := decide_eq_true c82
                  clear c82
                  obtain rfl := Option.some.inj H
                  go_wp2_with (first | ((with_reducible refine gate_callee (f := 16) rfl ?_); refine goesL_ (some 123) rfl rfl Try.func16 (by kernel_rfl) rfl #[.slice Ao67 t299.length co67,.int .i64 1] rfl (by (try simp only [List.map_toArray,List.map_cons,List.map_nil]); first | done|rfl|(simp only [List.length_drop,List.length_take]; rfl)) ?_; (with_reducible refine (laws_heldIntS.calls kj65 _ _ t299 1 t312 _ ?side1 ?side2 A81.out).mono ?_); (case side1 => repeat (first|exact (zC HO_14.out).2.2|(with_reducible refine Kd.C_alloc ?_ _)|(with_reducible refine Kd.C_drewN ?_ _)|(with_reducible refine Kd.C_drew ?_))); (case side2 => exact (zC HO_14.out).2.1); rintro e w' ⟨rfl,⟨nd,rfl⟩⟩; refine ⟨_,rfl,?_⟩))
                  go_ret
                  exact ⟨by first|rfl|(simp [errW_none,errW_some] <;> rfl)|(simp [*,errW_none,errW_some] <;> rfl),by repeat (first|(with_reducible first|exact HB.out|apply zD|apply zF|apply zE)|exact HB.out)⟩
                 ·
                  rw [if_neg c82] at H
                  have c82b0 : decide (t312 < 0) = false := decide_eq_false c82
                  clear c82
                  by_cases c83 : t312 = t298
                  ·
                   rw [if_pos c83] at H
                   have c83b0 : (t312 == t298) = true := beq_iff_eq.mpr c83
                   have c83b1 : (t312 != t298) = false := bne_eq_false_iff_eq.mpr c83
                   clear c83
                   obtain rfl := Option.some.inj H
                   go_wp2_with (first | ((with_reducible refine gate_callee (f := 16) rfl ?_); refine goesL_ (some 123) rfl rfl Try.func16 (by kernel_rfl) rfl #[.slice Ao67 t299.length co67,.int .i64 1] rfl (by (try simp only [List.map_toArray,List.map_cons,List.map_nil]); first | done|rfl|(simp only [List.length_drop,List.length_take]; rfl)) ?_; (with_reducible refine (laws_heldIntS.calls kj65 _ _ t299 1 t312 _ ?side1 ?side2 A81.out).mono ?_); (case side1 => repeat (first|exact (zC HO_14.out).2.2|(with_reducible refine Kd.C_alloc ?_ _)|(with_reducible refine Kd.C_drewN ?_ _)|(with_reducible refine Kd.C_drew ?_))); (case side2 => exact (zC HO_14.out).2.1); rintro e w' ⟨rfl,⟨nd,rfl⟩⟩; refine ⟨_,rfl,?_⟩))
                   go_ret
                   exact ⟨by first|rfl|(simp [errW_none,errW_some] <;> rfl)|(simp [*,errW_none,errW_some] <;> rfl),by repeat (first|(with_reducible first|exact HB.out|apply zD|apply zF|apply zE)|exact HB.out)⟩
                  ·
                   rw [if_neg c83] at H
                   have c83b0 : (t312 == t298) = false := beq_eq_false_iff_ne.mpr c83
                   have c83b1 : (t312 != t298) = true := bne_iff_ne.mpr c83
                   obtain rfl := Option.some.inj H
                   go_wp2_with (first | ((with_reducible refine gate_callee (f := 16) rfl ?_); refine goesL_ (some 123) rfl rfl Try.func16 (by kernel_rfl) rfl #[.slice Ao67 t299.length co67,.int .i64 1] rfl (by (try simp only [List.map_toArray,List.map_cons,List.map_nil]); first | done|rfl|(simp only [List.length_drop,List.length_take]; rfl)) ?_; (with_reducible refine (laws_heldIntS.calls kj65 _ _ t299 1 t312 _ ?side1 ?side2 A81.out).mono ?_); (case side1 => repeat (first|exact (zC HO_14.out).2.2|(with_reducible refine Kd.C_alloc ?_ _)|(with_reducible refine Kd.C_drewN ?_ _)|(with_reducible refine Kd.C_drew ?_))); (case side2 => exact (zC HO_14.out).2.1); rintro e w' ⟨rfl,⟨nd,rfl⟩⟩; refine ⟨_,rfl,?_⟩))
                   go_ret
                   exact ⟨by first|rfl|(simp [errW_none,errW_some] <;> rfl)|(simp [*,errW_none,errW_some] <;> rfl),by repeat (first|(with_reducible first|exact HB.out|apply zD|apply zF|apply zE)|exact HB.out)⟩
             ·
              rw [if_neg c62] at H
              have c62b0 : (t300 == t298) = false := beq_eq_false_iff_ne.mpr c62
              have c62b1 : (t300 != t298) = true := bne_iff_ne.mpr c62
              obtain rfl := Option.some.inj H
              obtain ⟨Ao84,co84,eo84⟩ := Kd.R_slice HO_14.out
              subst eo84
              go_wp2_with (first | ((with_reducible refine gate_callee (f := 15) rfl ?_); refine goesL_ (some 93) rfl rfl Try.func15 (by kernel_rfl) rfl #[.slice Ao84 t281.length co84,.int .i64 1] rfl (by (try simp only [List.map_toArray,List.map_cons,List.map_nil]); first | done|rfl|(simp only [List.length_drop,List.length_take]; rfl)) ?_; (with_reducible refine (laws_markIntS.calls kj40 (fun k_ => some k_ = (.slice Ao84 t281.length co84 : Value).ownBlock) (.slice Ao84 t281.length co84) t281 1 t298 t299 w _ ?side1 ?side2 A57.out).mono ?_); (case side1 => repeat (first|(with_reducible first|exact HB.out|apply zD|apply zF|apply zE)|exact HB.out)); (case side2 => exact Kd.R_tight rfl HO_14.out); rintro e w85 ⟨rfl,hy0,hb,hkp⟩; refine ⟨_,rfl,?_⟩; have n0_ := zA (Kd.R_mono (ok' := fun k_ => some k_ ≠ (.slice Ao84 t281.length co84 : Value).ownBlock) (Kd.R_keptB (HO_10.out) hkp (fun k_ hk_ hs_ => (hk_) hs_)) (fun k_ hk_ => hk_.1)); have n1_ := zA (Kd.R_reok rfl hy0 (fun k_ e_ => HO_14.out.1 k_ e_)); have n2_ := zA (hb); clear HO_10 HO_14 HB; have HO_10 := n0_; have HO_14 := n1_; have HB := n2_; clear n0_ n1_ n2_; (try clear hb); (try clear hkp); (try clear hy0)) | ((with_reducible refine gate_callee (f := 16) rfl ?_); refine goesL_ (some 96) rfl rfl Try.func16 (by kernel_rfl) rfl #[.slice Ao84 t299.length co84,.int .i64 1] rfl (by (try simp only [List.map_toArray,List.map_cons,List.map_nil]); first | done | (rw [show t299.length = t281.length from (zC HO_14.out).1.symm] <;> rfl)|rfl|(simp only [List.length_drop,List.length_take]; rfl)) ?_; (with_reducible refine (laws_heldIntS.calls kj40 _ _ t299 1 t300 _ ?side1 ?side2 A58.out).mono ?_); (case side1 => repeat (first|exact (zC HO_14.out).2.2|(with_reducible refine Kd.C_alloc ?_ _)|(with_reducible refine Kd.C_drewN ?_ _)|(with_reducible refine Kd.C_drew ?_))); (case side2 => rw [show t299.length = t281.length from (zC HO_14.out).1.symm]; exact (zC HO_14.out).2.1); rintro e w' ⟨rfl,⟨nd,rfl⟩⟩; refine ⟨_,rfl,?_⟩))
              go_ret
              exact ⟨by first|rfl|(simp [errW_none,errW_some] <;> rfl)|(simp [*,errW_none,errW_some] <;> rfl),by repeat (first|(with_reducible first|exact HB.out|apply zD|apply zF|apply zE)|exact HB.out)⟩
        ·
         replace c38 := Bool.eq_false_iff.mpr c38
         subst c38
         have H1 : (some false) = some r := by rw [if_neg (show ¬ (false = true) by decide)] at H; exact H
         clear H; have H := H1; clear H1
         obtain rfl := Option.some.inj H
         go_wp2_with (first | ((with_reducible refine gate_callee (f := 10) rfl ?_); refine goesL_ (some 64) rfl rfl Try.func10 (by kernel_rfl) rfl #[.slice A1 l1.length c1] rfl (by (try simp only [List.map_toArray,List.map_cons,List.map_nil]); first | done|rfl|(simp only [List.length_drop,List.length_take]; rfl)) ?_; (with_reducible refine (laws_toRoadS.calls kj14 _ _ l1 t286 _ ?side1 ?side2 A33.out).mono ?_); (case side1 => repeat (first|exact (Kd.C_below HR1.out HB.out)|(with_reducible refine Kd.C_alloc ?_ _)|(with_reducible refine Kd.C_drewN ?_ _)|(with_reducible refine Kd.C_drew ?_))); (case side2 => exact HC1.out); rintro e w86 ⟨v287,rfl,ho0,hb⟩; refine ⟨_,rfl,?_⟩; have n0_ := zA (zB (rrA27 HO_10.out) hb); have n1_ := zA (Kd.R_elder' (rrA27 HO_12.out) (Kd.R_base ho0) hb); have n2_ := zA (Kd.S_below (by (with_reducible repeat (first|apply Kd.S_alloc|apply Kd.S_drewN|apply Kd.S_drew)); exact HO_13.out) hb); have n3_ := zA (zB (rrA27 HO_14.out) hb); have n4_ := zA (Kd.R_lower (Kd.R_new' ho0 (Kd.R_lt (rrA27 HO_12.out))) (below_size (by repeat (first|(with_reducible first|exact HB.out|apply zD|apply zF|apply zE)|exact HB.out)))); have n5_ := zA (zG (by repeat (first|(with_reducible first|exact HB.out|apply zD|apply zF|apply zE)|exact HB.out)) hb); clear HO_10 HO_12 HO_13 HO_14 HB; have HO_10 := n0_; have HO_12 := n1_; have HO_13 := n2_; have HO_14 := n3_; have HO288 := n4_; have HB := n5_; clear n0_ n1_ n2_ n3_ n4_ n5_; (try clear hb); (try clear hb2); (try clear hk); (try clear hi); (try clear ho0); obtain ⟨Ao87,co87,eo87⟩ := Kd.R_slice HO288.out; subst eo87) | ((with_reducible refine gate_callee (f := 13) rfl ?_); refine goesL_ (some 65) rfl rfl Try.func13 (by kernel_rfl) rfl #[.slice Ao23 t275.length co23,.slice Ao87 t286.length co87] rfl (by (try simp only [List.map_toArray,List.map_cons,List.map_nil]); first | done|rfl|(simp only [List.length_drop,List.length_take]; rfl)) ?_; (with_reducible refine (laws_eqRoadS.calls kj14 _ _ t275 _ _ t286 true _ ?side1 ?side2 ?side3 ?side4 A34.out).mono ?_); (case side1 => repeat (first|exact (zC HO_12.out).2.2|(with_reducible refine Kd.C_alloc ?_ _)|(with_reducible refine Kd.C_drewN ?_ _)|(with_reducible refine Kd.C_drew ?_))); (case side2 => exact (zC HO_12.out).2.1); (case side3 => repeat (first|exact (zC HO288.out).2.2|(with_reducible refine Kd.C_alloc ?_ _)|(with_reducible refine Kd.C_drewN ?_ _)|(with_reducible refine Kd.C_drew ?_))); (case side4 => exact (zC HO288.out).2.1); rintro e w88 ⟨rfl,hb⟩; refine ⟨_,rfl,?_⟩; have n0_ := zA (zB (rrA27 HO_10.out) hb); have n1_ := zA (zB (rrA27 HO_12.out) hb); have n2_ := zA (Kd.S_below (by (with_reducible repeat (first|apply Kd.S_alloc|apply Kd.S_drewN|apply Kd.S_drew)); exact HO_13.out) hb); have n3_ := zA (zB (rrA27 HO_14.out) hb); have n4_ := zA (zB (rrA27 HO288.out) hb); have n5_ := zA (zG (by repeat (first|(with_reducible first|exact HB.out|apply zD|apply zF|apply zE)|exact HB.out)) hb); clear HO_10 HO_12 HO_13 HO_14 HO288 HB; have HO_10 := n0_; have HO_12 := n1_; have HO_13 := n2_; have HO_14 := n3_; have HO288 := n4_; have HB := n5_; clear n0_ n1_ n2_ n3_ n4_ n5_; (try clear hb); (try clear hb2); (try clear hk); (try clear hi)) | ((with_reducible refine gate_callee (f := 25) rfl ?_); refine goesL_ (some 69) rfl rfl Try.func25 (by kernel_rfl) rfl #[.slice A3 l3.length c3] rfl (by (try simp only [List.map_toArray,List.map_cons,List.map_nil]); first | done|rfl|(simp only [List.length_drop,List.length_take]; rfl)) ?_; (with_reducible refine (laws_toIntSS.calls kj14 _ _ l3 t290 _ ?side1 ?side2 A36.out).mono ?_); (case side1 => repeat (first|exact (Kd.C_below HR3.out HB.out)|(with_reducible refine Kd.C_alloc ?_ _)|(with_reducible refine Kd.C_drewN ?_ _)|(with_reducible refine Kd.C_drew ?_))); (case side2 => exact HC3.out); rintro e w89 ⟨v291,rfl,ho0,hb⟩; refine ⟨_,rfl,?_⟩; have n0_ := zA (zB (rrA27 HO_10.out) hb); have n1_ := zA (zB (rrA27 HO_12.out) hb); have n2_ := zA (Kd.S_elder' (by (with_reducible repeat (first|apply Kd.S_alloc|apply Kd.S_drewN|apply Kd.S_drew)); exact HO_13.out) (Kd.S_base ho0) hb); have n3_ := zA (zB (rrA27 HO_14.out) hb); have n4_ := zA (zB (rrA27 HO288.out) hb); have n5_ := zA (Kd.S_lower (Kd.S_new' (Kd.S_new' (Kd.S_new' ho0 (Kd.R_lt (rrA27 HO_10.out))) (Kd.S_lt (by (with_reducible repeat (first|apply Kd.S_alloc|apply Kd.S_drewN|apply Kd.S_drew)); exact HO_13.out))) (Kd.R_lt (rrA27 HO_14.out))) (below_size (by repeat (first|(with_reducible first|exact HB.out|apply zD|apply zF|apply zE)|exact HB.out)))); have n6_ := zA (zG (by repeat (first|(with_reducible first|exact HB.out|apply zD|apply zF|apply zE)|exact HB.out)) hb); clear HO_10 HO_12 HO_13 HO_14 HO288 HB; have HO_10 := n0_; have HO_12 := n1_; have HO_13 := n2_; have HO_14 := n3_; have HO288 := n4_; have HO292 := n5_; have HB := n6_; clear n0_ n1_ n2_ n3_ n4_ n5_ n6_; (try clear hb); (try clear hb2); (try clear hk); (try clear hi); (try clear ho0); obtain ⟨Ao90,co90,eo90⟩ := Kd.S_slice HO292.out; subst eo90) | ((with_reducible refine gate_callee (f := 27) rfl ?_); refine goesL_ (some 70) rfl rfl Try.func27 (by kernel_rfl) rfl #[.slice Ao24 t278.length co24,.slice Ao90 t290.length co90] rfl (by (try simp only [List.map_toArray,List.map_cons,List.map_nil]); first | done|rfl|(simp only [List.length_drop,List.length_take]; rfl)) ?_; (with_reducible refine (laws_eqIntSS.calls kj14 _ _ t278 _ _ t290 false _ ?side1 ?side2 ?side3 ?side4 A37.out).mono ?_); (case side1 => repeat (first|exact (Kd.S_reads' HO_13.out).2.2|(with_reducible refine Kd.C_alloc ?_ _)|(with_reducible refine Kd.C_drewN ?_ _)|(with_reducible refine Kd.C_drew ?_))); (case side2 => exact (Kd.S_reads' HO_13.out).2.1); (case side3 => repeat (first|exact (Kd.S_reads' HO292.out).2.2|(with_reducible refine Kd.C_alloc ?_ _)|(with_reducible refine Kd.C_drewN ?_ _)|(with_reducible refine Kd.C_drew ?_))); (case side4 => exact (Kd.S_reads' HO292.out).2.1); rintro e w' ⟨rfl,⟨nd,rfl⟩⟩; refine ⟨_,rfl,?_⟩))
         go_ret
         exact ⟨by first|rfl|(simp [errW_none,errW_some] <;> rfl)|(simp [*,errW_none,errW_some] <;> rfl),by repeat (first|(with_reducible first|exact HB.out|apply zD|apply zF|apply zE)|exact HB.out)⟩
       ·
        replace c35 := Bool.eq_false_iff.mpr c35
        subst c35
        have H1 : (some false) = some r := by rw [if_neg (show ¬ (false = true) by decide)] at H; exact H
        clear H; have H := H1; clear H1
        obtain rfl := Option.some.inj H
        go_wp2_with (first | ((with_reducible refine gate_callee (f := 10) rfl ?_); refine goesL_ (some 64) rfl rfl Try.func10 (by kernel_rfl) rfl #[.slice A1 l1.length c1] rfl (by (try simp only [List.map_toArray,List.map_cons,List.map_nil]); first | done|rfl|(simp only [List.length_drop,List.length_take]; rfl)) ?_; (with_reducible refine (laws_toRoadS.calls kj14 _ _ l1 t286 _ ?side1 ?side2 A33.out).mono ?_); (case side1 => repeat (first|exact (Kd.C_below HR1.out HB.out)|(with_reducible refine Kd.C_alloc ?_ _)|(with_reducible refine Kd.C_drewN ?_ _)|(with_reducible refine Kd.C_drew ?_))); (case side2 => exact HC1.out); rintro e w91 ⟨v287,rfl,ho0,hb⟩; refine ⟨_,rfl,?_⟩; have n0_ := zA (zB (rrA27 HO_10.out) hb); have n1_ := zA (Kd.R_elder' (rrA27 HO_12.out) (Kd.R_base ho0) hb); have n2_ := zA (Kd.S_below (by (with_reducible repeat (first|apply Kd.S_alloc|apply Kd.S_drewN|apply Kd.S_drew)); exact HO_13.out) hb); have n3_ := zA (zB (rrA27 HO_14.out) hb); have n4_ := zA (Kd.R_lower (Kd.R_new' ho0 (Kd.R_lt (rrA27 HO_12.out))) (below_size (by repeat (first|(with_reducible first|exact HB.out|apply zD|apply zF|apply zE)|exact HB.out)))); have n5_ := zA (zG (by repeat (first|(with_reducible first|exact HB.out|apply zD|apply zF|apply zE)|exact HB.out)) hb); clear HO_10 HO_12 HO_13 HO_14 HB; have HO_10 := n0_; have HO_12 := n1_; have HO_13 := n2_; have HO_14 := n3_; have HO288 := n4_; have HB := n5_; clear n0_ n1_ n2_ n3_ n4_ n5_; (try clear hb); (try clear hb2); (try clear hk); (try clear hi); (try clear ho0); obtain ⟨Ao92,co92,eo92⟩ := Kd.R_slice HO288.out; subst eo92) | ((with_reducible refine gate_callee (f := 13) rfl ?_); refine goesL_ (some 65) rfl rfl Try.func13 (by kernel_rfl) rfl #[.slice Ao23 t275.length co23,.slice Ao92 t286.length co92] rfl (by (try simp only [List.map_toArray,List.map_cons,List.map_nil]); first | done|rfl|(simp only [List.length_drop,List.length_take]; rfl)) ?_; (with_reducible refine (laws_eqRoadS.calls kj14 _ _ t275 _ _ t286 false _ ?side1 ?side2 ?side3 ?side4 A34.out).mono ?_); (case side1 => repeat (first|exact (zC HO_12.out).2.2|(with_reducible refine Kd.C_alloc ?_ _)|(with_reducible refine Kd.C_drewN ?_ _)|(with_reducible refine Kd.C_drew ?_))); (case side2 => exact (zC HO_12.out).2.1); (case side3 => repeat (first|exact (zC HO288.out).2.2|(with_reducible refine Kd.C_alloc ?_ _)|(with_reducible refine Kd.C_drewN ?_ _)|(with_reducible refine Kd.C_drew ?_))); (case side4 => exact (zC HO288.out).2.1); rintro e w93 ⟨rfl,hb⟩; refine ⟨_,rfl,?_⟩; have n0_ := zA (zB (rrA27 HO_10.out) hb); have n1_ := zA (zB (rrA27 HO_12.out) hb); have n2_ := zA (Kd.S_below (by (with_reducible repeat (first|apply Kd.S_alloc|apply Kd.S_drewN|apply Kd.S_drew)); exact HO_13.out) hb); have n3_ := zA (zB (rrA27 HO_14.out) hb); have n4_ := zA (zB (rrA27 HO288.out) hb); have n5_ := zA (zG (by repeat (first|(with_reducible first|exact HB.out|apply zD|apply zF|apply zE)|exact HB.out)) hb); clear HO_10 HO_12 HO_13 HO_14 HO288 HB; have HO_10 := n0_; have HO_12 := n1_; have HO_13 := n2_; have HO_14 := n3_; have HO288 := n4_; have HB := n5_; clear n0_ n1_ n2_ n3_ n4_ n5_; (try clear hb); (try clear hb2); (try clear hk); (try clear hi)))
        go_ret
        exact ⟨by first|rfl|(simp [errW_none,errW_some] <;> rfl)|(simp [*,errW_none,errW_some] <;> rfl),by repeat (first|(with_reducible first|exact HB.out|apply zD|apply zF|apply zE)|exact HB.out)⟩

end Go.Proofs.Ytokoihmjcfhemaa.PFnExactSpread
