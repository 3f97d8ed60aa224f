-- Written by a program out of the translation, for this claim.
import Derived.Test.YtokoihmjcfhemaaPFnSitesx0
import Derived.Test.YtokoihmjcfhemaaPFnSitesx2
import Derived.Test.YtokoihmjcfhemaaPFnSitesx4
import Derived.Test.YtokoihmjcfhemaaPFnSitesx8
import Derived.Test.YtokoihmjcfhemaaPFnSitesx9
import Derived.Test.YtokoihmjcfhemaaPFnSitesx10
import Derived.Test.YtokoihmjcfhemaaPFnSitesx13
import Derived.Test.YtokoihmjcfhemaaPFnSitesx14
namespace Go.Proofs.Ytokoihmjcfhemaa.PFnSites
open Go.RowKit Go.Proofs.YtokoihmjcfhemaaW.PrintWords Go.Proofs.YtokoihmjcfhemaaW.PrintLast Go.Proofs.YtokoihmjcfhemaaW.PrintMore
attribute [local go_sem] max2_int min2_int max_two min_two max_three min_three max_four min_four   -- for this text's walks alone
set_option linter.unusedVariables false
set_option linter.unusedSimpArgs false

/-! ### laws_FnSites: function 5 -/
mutual
def laws_FnSites.l0 : Nat → Int → List (S38) → Int → Option (Bool)
  | 0, _, _, _ => none
  | k + 1, x3, x4, x5 => if x5 < x3 then ((impl_Distances.f k x3 x4 x5).bind fun t214 => ((impl_TreeOf.f k x3 x4 x5).bind fun t217 => (if (t214.length : Int) = x3 then (if (t217.length : Int) = x3 then (if 0 ≤ x5 then (if x5 < (t214.length : Int) then (if (rd t214 x5) = 0 then (if x5 < (t217.length : Int) then (if (rd t217 x5) = (-1) then ((spec_TreeOf.f k x3 x4 x5).bind fun t222 => ((laws_sameInts.f k t217 t222).bind fun t225 => (laws_FnSites.j1 k x3 x4 x5 t214 t217 (!t225)))) else (laws_FnSites.j1 k x3 x4 x5 t214 t217 true)) else (none)) else (laws_FnSites.j1 k x3 x4 x5 t214 t217 true)) else (none)) else (none)) else (laws_FnSites.j1 k x3 x4 x5 t214 t217 true)) else (laws_FnSites.j1 k x3 x4 x5 t214 t217 true)))) else ((impl_RoadsOk.f k x3 x4).bind fun t213 => (some t213))
def laws_FnSites.j1 : Nat → Int → List (S38) → Int → List Int → List Int → Bool → Option (Bool)
  | 0, _, _, _, _, _, _ => none
  | k + 1, x3, x4, x5, x6, x7, x63 => if x63 = true then (some false) else (laws_FnSites.l1 k x3 x4 x5 x6 x7 0)
def laws_FnSites.l1 : Nat → Int → List (S38) → Int → List Int → List Int → Int → Option (Bool)
  | 0, _, _, _, _, _, _ => none
  | k + 1, x3, x4, x5, x6, x7, x8 => if x8 < (x4.length : Int) then (if 0 ≤ x8 then (if 0 ≤ ((rd_T38 x4 x8).f0) then (if ((rd_T38 x4 x8).f0) < (x6.length : Int) then (if 0 ≤ ((rd_T38 x4 x8).f1) then (if ((rd_T38 x4 x8).f1) < (x6.length : Int) then (if ((decide ((rd x6 ((rd_T38 x4 x8).f0)) < 0)) != (decide ((rd x6 ((rd_T38 x4 x8).f1)) < 0))) = true then (laws_FnSites.j3 k x3 x4 x5 x6 x7 x8 true ((rd_T38 x4 x8).f0) ((rd_T38 x4 x8).f1) ((rd_T38 x4 x8).f2)) else (if (rd x6 ((rd_T38 x4 x8).f0)) ≥ 0 then (if (rd x6 ((rd_T38 x4 x8).f1)) > (wrap64 ((rd x6 ((rd_T38 x4 x8).f0)) + ((rd_T38 x4 x8).f2))) then (laws_FnSites.j3 k x3 x4 x5 x6 x7 x8 true ((rd_T38 x4 x8).f0) ((rd_T38 x4 x8).f1) ((rd_T38 x4 x8).f2)) else (laws_FnSites.j3 k x3 x4 x5 x6 x7 x8 (decide ((rd x6 ((rd_T38 x4 x8).f0)) > (wrap64 ((rd x6 ((rd_T38 x4 x8).f1)) + ((rd_T38 x4 x8).f2))))) ((rd_T38 x4 x8).f0) ((rd_T38 x4 x8).f1) ((rd_T38 x4 x8).f2))) else (laws_FnSites.j3 k x3 x4 x5 x6 x7 x8 false ((rd_T38 x4 x8).f0) ((rd_T38 x4 x8).f1) ((rd_T38 x4 x8).f2)))) else (none)) else (none)) else (none)) else (none)) else (none)) else (laws_FnSites.l2 k x3 x4 x5 x6 x7 0)
def laws_FnSites.j3 : Nat → Int → List (S38) → Int → List Int → List Int → Int → Bool → Int → Int → Int → Option (Bool)
  | 0, _, _, _, _, _, _, _, _, _, _ => none
  | k + 1, x3, x4, x5, x6, x7, x8, x126, x228000, x228001, x228002 => if x126 = true then (some false) else (if 0 ≤ x228001 then (if x228001 < (x7.length : Int) then (if (rd x7 x228001) = x228000 then (if x228001 < (x6.length : Int) then (if 0 ≤ x228000 then (if x228000 < (x6.length : Int) then (if (rd x6 x228001) = (wrap64 ((rd x6 x228000) + x228002)) then (laws_FnSites.l1 k x3 x4 x5 x6 x7 (wrap64 (x8 + 1))) else (some false)) else (none)) else (none)) else (none)) else (laws_FnSites.l1 k x3 x4 x5 x6 x7 (wrap64 (x8 + 1)))) else (none)) else (none))
def laws_FnSites.l2 : Nat → Int → List (S38) → Int → List Int → List Int → Int → Option (Bool)
  | 0, _, _, _, _, _, _ => none
  | k + 1, x3, x4, x5, x6, x7, x10 => if x10 < x3 then (if x10 = x5 then (laws_FnSites.l2 k x3 x4 x5 x6 x7 (wrap64 (x10 + 1))) else (if 0 ≤ x10 then (if x10 < (x7.length : Int) then (if x10 < (x6.length : Int) then (if ((decide ((rd x7 x10) ≥ 0)) != (decide ((rd x6 x10) ≥ 0))) = true then (some false) else (laws_FnSites.l2 k x3 x4 x5 x6 x7 (wrap64 (x10 + 1)))) else (none)) else (none)) else (none))) else (laws_FnSites.l0 k x3 x4 (wrap64 (x5 + 1)))
end
def laws_FnSites.f (k : Nat) (l0 : List Int) : Option (Bool) := (laws_big.f l0).bind fun t208 => (if t208 = true then (some true) else ((spec_DrawRoads.f k l0).bind fun bt209 => (laws_FnSites.l0 k bt209.1 bt209.2 0)))
theorem laws_FnSites.mono_l : ∀ k, (∀ y0 y1 y2, LeO (laws_FnSites.l0 k y0 y1 y2) (laws_FnSites.l0 (k + 1) y0 y1 y2)) ∧ (∀ y0 y1 y2 y3 y4 y5, LeO (laws_FnSites.j1 k y0 y1 y2 y3 y4 y5) (laws_FnSites.j1 (k + 1) y0 y1 y2 y3 y4 y5)) ∧ (∀ y0 y1 y2 y3 y4 y5, LeO (laws_FnSites.l1 k y0 y1 y2 y3 y4 y5) (laws_FnSites.l1 (k + 1) y0 y1 y2 y3 y4 y5)) ∧ (∀ y0 y1 y2 y3 y4 y5 y6 y7 y8 y9, LeO (laws_FnSites.j3 k y0 y1 y2 y3 y4 y5 y6 y7 y8 y9) (laws_FnSites.j3 (k + 1) y0 y1 y2 y3 y4 y5 y6 y7 y8 y9)) ∧ (∀ y0 y1 y2 y3 y4 y5, LeO (laws_FnSites.l2 k y0 y1 y2 y3 y4 y5) (laws_FnSites.l2 (k + 1) y0 y1 y2 y3 y4 y5))
  | 0 => ⟨fun _ _ _ r h => by simp [laws_FnSites.l0] at h, fun _ _ _ _ _ _ r h => by simp [laws_FnSites.j1] at h, fun _ _ _ _ _ _ r h => by simp [laws_FnSites.l1] at h, fun _ _ _ _ _ _ _ _ _ _ r h => by simp [laws_FnSites.j3] at h, fun _ _ _ _ _ _ r h => by simp [laws_FnSites.l2] at h⟩
  | k + 1 => by
    obtain ⟨ih0, ih1, ih2, ih3, ih4⟩ := laws_FnSites.mono_l k
    refine ⟨?_, ?_, ?_, ?_, ?_⟩
    · intro y0 y1 y2
      unfold laws_FnSites.l0
      repeat' first
      | (with_reducible exact ih0 _ _ _)
      | (with_reducible exact ih1 _ _ _ _ _ _)
      | (with_reducible exact ih2 _ _ _ _ _ _)
      | (with_reducible exact ih3 _ _ _ _ _ _ _ _ _ _)
      | (with_reducible exact ih4 _ _ _ _ _ _)
      | (with_reducible exact impl_Distances.mono _ _ _ _)
      | (with_reducible exact impl_RoadsOk.mono _ _ _)
      | (with_reducible exact impl_TreeOf.mono _ _ _ _)
      | (with_reducible exact laws_sameInts.mono _ _ _)
      | (with_reducible exact spec_DrawRoads.mono _ _)
      | (with_reducible exact spec_TreeOf.mono _ _ _ _)
      | (with_reducible exact LeO.refl _)
      | (with_reducible exact LeO.none _)
      | (with_reducible refine LeO.ite ?_ ?_)
      | (with_reducible refine LeO.bind ?_ (fun _ => ?_))
      | exact ih0 _ _ _
      | exact ih1 _ _ _ _ _ _
      | exact ih2 _ _ _ _ _ _
      | exact ih3 _ _ _ _ _ _ _ _ _ _
      | exact ih4 _ _ _ _ _ _
      | exact impl_Distances.mono _ _ _ _
      | exact impl_RoadsOk.mono _ _ _
      | exact impl_TreeOf.mono _ _ _ _
      | exact laws_sameInts.mono _ _ _
      | exact spec_DrawRoads.mono _ _
      | exact spec_TreeOf.mono _ _ _ _
      | exact LeO.none _
      | refine LeO.ite ?_ ?_
      | refine LeO.bind ?_ (fun _ => ?_)
    · intro y0 y1 y2 y3 y4 y5
      unfold laws_FnSites.j1
      repeat' first
      | (with_reducible exact ih0 _ _ _)
      | (with_reducible exact ih1 _ _ _ _ _ _)
      | (with_reducible exact ih2 _ _ _ _ _ _)
      | (with_reducible exact ih3 _ _ _ _ _ _ _ _ _ _)
      | (with_reducible exact ih4 _ _ _ _ _ _)
      | (with_reducible exact impl_Distances.mono _ _ _ _)
      | (with_reducible exact impl_RoadsOk.mono _ _ _)
      | (with_reducible exact impl_TreeOf.mono _ _ _ _)
      | (with_reducible exact laws_sameInts.mono _ _ _)
      | (with_reducible exact spec_DrawRoads.mono _ _)
      | (with_reducible exact spec_TreeOf.mono _ _ _ _)
      | (with_reducible exact LeO.refl _)
      | (with_reducible exact LeO.none _)
      | (with_reducible refine LeO.ite ?_ ?_)
      | (with_reducible refine LeO.bind ?_ (fun _ => ?_))
      | exact ih0 _ _ _
      | exact ih1 _ _ _ _ _ _
      | exact ih2 _ _ _ _ _ _
      | exact ih3 _ _ _ _ _ _ _ _ _ _
      | exact ih4 _ _ _ _ _ _
      | exact impl_Distances.mono _ _ _ _
      | exact impl_RoadsOk.mono _ _ _
      | exact impl_TreeOf.mono _ _ _ _
      | exact laws_sameInts.mono _ _ _
      | exact spec_DrawRoads.mono _ _
      | exact spec_TreeOf.mono _ _ _ _
      | exact LeO.none _
      | refine LeO.ite ?_ ?_
      | refine LeO.bind ?_ (fun _ => ?_)
    · intro y0 y1 y2 y3 y4 y5
      unfold laws_FnSites.l1
      repeat' first
      | (with_reducible exact ih0 _ _ _)
      | (with_reducible exact ih1 _ _ _ _ _ _)
      | (with_reducible exact ih2 _ _ _ _ _ _)
      | (with_reducible exact ih3 _ _ _ _ _ _ _ _ _ _)
      | (with_reducible exact ih4 _ _ _ _ _ _)
      | (with_reducible exact impl_Distances.mono _ _ _ _)
      | (with_reducible exact impl_RoadsOk.mono _ _ _)
      | (with_reducible exact impl_TreeOf.mono _ _ _ _)
      | (with_reducible exact laws_sameInts.mono _ _ _)
      | (with_reducible exact spec_DrawRoads.mono _ _)
      | (with_reducible exact spec_TreeOf.mono _ _ _ _)
      | (with_reducible exact LeO.refl _)
      | (with_reducible exact LeO.none _)
      | (with_reducible refine LeO.ite ?_ ?_)
      | (with_reducible refine LeO.bind ?_ (fun _ => ?_))
      | exact ih0 _ _ _
      | exact ih1 _ _ _ _ _ _
      | exact ih2 _ _ _ _ _ _
      | exact ih3 _ _ _ _ _ _ _ _ _ _
      | exact ih4 _ _ _ _ _ _
      | exact impl_Distances.mono _ _ _ _
      | exact impl_RoadsOk.mono _ _ _
      | exact impl_TreeOf.mono _ _ _ _
      | exact laws_sameInts.mono _ _ _
      | exact spec_DrawRoads.mono _ _
      | exact spec_TreeOf.mono _ _ _ _
      | exact LeO.none _
      | refine LeO.ite ?_ ?_
      | refine LeO.bind ?_ (fun _ => ?_)
    · intro y0 y1 y2 y3 y4 y5 y6 y7 y8 y9
      unfold laws_FnSites.j3
      repeat' first
      | (with_reducible exact ih0 _ _ _)
      | (with_reducible exact ih1 _ _ _ _ _ _)
      | (with_reducible exact ih2 _ _ _ _ _ _)
      | (with_reducible exact ih3 _ _ _ _ _ _ _ _ _ _)
      | (with_reducible exact ih4 _ _ _ _ _ _)
      | (with_reducible exact impl_Distances.mono _ _ _ _)
      | (with_reducible exact impl_RoadsOk.mono _ _ _)
      | (with_reducible exact impl_TreeOf.mono _ _ _ _)
      | (with_reducible exact laws_sameInts.mono _ _ _)
      | (with_reducible exact spec_DrawRoads.mono _ _)
      | (with_reducible exact spec_TreeOf.mono _ _ _ _)
      | (with_reducible exact LeO.refl _)
      | (with_reducible exact LeO.none _)
      | (with_reducible refine LeO.ite ?_ ?_)
      | (with_reducible refine LeO.bind ?_ (fun _ => ?_))
      | exact ih0 _ _ _
      | exact ih1 _ _ _ _ _ _
      | exact ih2 _ _ _ _ _ _
      | exact ih3 _ _ _ _ _ _ _ _ _ _
      | exact ih4 _ _ _ _ _ _
      | exact impl_Distances.mono _ _ _ _
      | exact impl_RoadsOk.mono _ _ _
      | exact impl_TreeOf.mono _ _ _ _
      | exact laws_sameInts.mono _ _ _
      | exact spec_DrawRoads.mono _ _
      | exact spec_TreeOf.mono _ _ _ _
      | exact LeO.none _
      | refine LeO.ite ?_ ?_
      | refine LeO.bind ?_ (fun _ => ?_)
    · intro y0 y1 y2 y3 y4 y5
      unfold laws_FnSites.l2
      repeat' first
      | (with_reducible exact ih0 _ _ _)
      | (with_reducible exact ih1 _ _ _ _ _ _)
      | (with_reducible exact ih2 _ _ _ _ _ _)
      | (with_reducible exact ih3 _ _ _ _ _ _ _ _ _ _)
      | (with_reducible exact ih4 _ _ _ _ _ _)
      | (with_reducible exact impl_Distances.mono _ _ _ _)
      | (with_reducible exact impl_RoadsOk.mono _ _ _)
      | (with_reducible exact impl_TreeOf.mono _ _ _ _)
      | (with_reducible exact laws_sameInts.mono _ _ _)
      | (with_reducible exact spec_DrawRoads.mono _ _)
      | (with_reducible exact spec_TreeOf.mono _ _ _ _)
      | (with_reducible exact LeO.refl _)
      | (with_reducible exact LeO.none _)
      | (with_reducible refine LeO.ite ?_ ?_)
      | (with_reducible refine LeO.bind ?_ (fun _ => ?_))
      | exact ih0 _ _ _
      | exact ih1 _ _ _ _ _ _
      | exact ih2 _ _ _ _ _ _
      | exact ih3 _ _ _ _ _ _ _ _ _ _
      | exact ih4 _ _ _ _ _ _
      | exact impl_Distances.mono _ _ _ _
      | exact impl_RoadsOk.mono _ _ _
      | exact impl_TreeOf.mono _ _ _ _
      | exact laws_sameInts.mono _ _ _
      | exact spec_DrawRoads.mono _ _
      | exact spec_TreeOf.mono _ _ _ _
      | exact LeO.none _
      | refine LeO.ite ?_ ?_
      | refine LeO.bind ?_ (fun _ => ?_)
theorem laws_FnSites.mono : ∀ a0 k, LeO (laws_FnSites.f k a0) (laws_FnSites.f (k + 1) a0) := by
  intro a0 k
  obtain ⟨ih0, ih1, ih2, ih3, ih4⟩ := laws_FnSites.mono_l k
  unfold laws_FnSites.f
  repeat' first
      | (with_reducible exact ih0 _ _ _)
      | (with_reducible exact ih1 _ _ _ _ _ _)
      | (with_reducible exact ih2 _ _ _ _ _ _)
      | (with_reducible exact ih3 _ _ _ _ _ _ _ _ _ _)
      | (with_reducible exact ih4 _ _ _ _ _ _)
      | (with_reducible exact impl_Distances.mono _ _ _ _)
      | (with_reducible exact impl_RoadsOk.mono _ _ _)
      | (with_reducible exact impl_TreeOf.mono _ _ _ _)
      | (with_reducible exact laws_sameInts.mono _ _ _)
      | (with_reducible exact spec_DrawRoads.mono _ _)
      | (with_reducible exact spec_TreeOf.mono _ _ _ _)
      | (with_reducible exact LeO.refl _)
      | (with_reducible exact LeO.none _)
      | (with_reducible refine LeO.ite ?_ ?_)
      | (with_reducible refine LeO.bind ?_ (fun _ => ?_))
      | exact ih0 _ _ _
      | exact ih1 _ _ _ _ _ _
      | exact ih2 _ _ _ _ _ _
      | exact ih3 _ _ _ _ _ _ _ _ _ _
      | exact ih4 _ _ _ _ _ _
      | exact impl_Distances.mono _ _ _ _
      | exact impl_RoadsOk.mono _ _ _
      | exact impl_TreeOf.mono _ _ _ _
      | exact laws_sameInts.mono _ _ _
      | exact spec_DrawRoads.mono _ _
      | exact spec_TreeOf.mono _ _ _ _
      | exact LeO.none _
      | refine LeO.ite ?_ ?_
      | refine LeO.bind ?_ (fun _ => ?_)
set_option maxHeartbeats 8000000 in
set_option maxRecDepth 100000 in
theorem laws_FnSites.calls (k : Nat) (A0 : Option Addr) (c0 : Nat) (l0 : List Int) (r : Bool) (w : World) (hr0 : Kd.C (Kd.int .u8) w A0 l0.length l0) (hc0 : l0.length ≤ c0) (h : laws_FnSites.f k l0 = some r) :
    Calls Try.prog 5 #[.slice A0 l0.length c0] w fun e w' => e = .returned (.bool r) ∧ Below w.heap.size w w' := by
  have hu38 := Try.underlying38
  have HR0 := Aside0.mk hr0
  have HC0 := Aside0.mk hc0
  clear hr0 hc0
  have HB := Aside0.mk (Below.refl w.heap.size w)
  have H : ((laws_big.f l0).bind fun t208 => (if t208 = true then (some true) else ((spec_DrawRoads.f k l0).bind fun bt209 => (laws_FnSites.l0 k bt209.1 bt209.2 0)))) = some r := h
  clear h
  replace H := Option.bind_eq_some_iff.mp H
  obtain ⟨t208, A20, H⟩ := H
  replace H : (if t208 = true then (some true) else ((spec_DrawRoads.f k l0).bind fun bt209 => (laws_FnSites.l0 k bt209.1 bt209.2 0))) = some r := H
  have A2 := Aside0.mk A20
  clear A20
  by_cases c3 : t208 = true
  · subst c3
    have H1 : (some true) = some r := by rw [if_pos rfl] at H; exact H
    clear H
    have H := H1
    clear H1
    obtain rfl := Option.some.inj H
    go_enter Try.func5, Try.ntmps5
    go_wp2_with (first | (go_at_call 19; (with_reducible refine (laws_big.calls _ _ l0 true _ ?side1 ?side2 A2.out).mono ?_); (case side1 => repeat (first | exact HR0.out | (with_reducible refine Kd.C_alloc ?_ _) | (with_reducible refine Kd.C_drewN ?_ _) | (with_reducible refine Kd.C_drew ?_))); (case side2 => exact HC0.out); rintro e w' ⟨rfl, ⟨nd, rfl⟩⟩; (try first | exact ⟨rfl, _, World.drewN_drewN _ _ _⟩ | exact ⟨rfl, _, Eq.trans (World.drewN_drewN _ _ _) (congrArg (World.drewN _) (Nat.add_assoc _ _ _))⟩)))
    repeat (go_quiet (first | (go_at_call 19; (with_reducible refine (laws_big.calls _ _ l0 true _ ?side1 ?side2 A2.out).mono ?_); (case side1 => repeat (first | exact HR0.out | (with_reducible refine Kd.C_alloc ?_ _) | (with_reducible refine Kd.C_drewN ?_ _) | (with_reducible refine Kd.C_drew ?_))); (case side2 => exact HC0.out); rintro e w' ⟨rfl, ⟨nd, rfl⟩⟩; (try first | exact ⟨rfl, _, World.drewN_drewN _ _ _⟩ | exact ⟨rfl, _, Eq.trans (World.drewN_drewN _ _ _) (congrArg (World.drewN _) (Nat.add_assoc _ _ _))⟩))); try go_wp2_with (first | (go_at_call 19; (with_reducible refine (laws_big.calls _ _ l0 true _ ?side1 ?side2 A2.out).mono ?_); (case side1 => repeat (first | exact HR0.out | (with_reducible refine Kd.C_alloc ?_ _) | (with_reducible refine Kd.C_drewN ?_ _) | (with_reducible refine Kd.C_drew ?_))); (case side2 => exact HC0.out); rintro e w' ⟨rfl, ⟨nd, rfl⟩⟩; (try first | exact ⟨rfl, _, World.drewN_drewN _ _ _⟩ | exact ⟨rfl, _, Eq.trans (World.drewN_drewN _ _ _) (congrArg (World.drewN _) (Nat.add_assoc _ _ _))⟩))))
    go_ret
    exact ⟨by first | rfl | (simp [errW_none, errW_some] <;> rfl) | (simp [*, errW_none, errW_some] <;> rfl), by repeat (first | (with_reducible first | exact HB.out | apply below_alloc | apply pw_below_drewN | apply below_drew1) | exact HB.out)⟩
  · replace c3 := Bool.eq_false_iff.mpr c3
    subst c3
    have H1 : ((spec_DrawRoads.f k l0).bind fun bt209 => (laws_FnSites.l0 k bt209.1 bt209.2 0)) = some r := by rw [if_neg (show ¬ (false = true) by decide)] at H; exact H
    clear H
    have H := H1
    clear H1
    replace H := Option.bind_eq_some_iff.mp H
    obtain ⟨⟨t209, t210⟩, A40, H⟩ := H
    replace H : (laws_FnSites.l0 k t209 t210 0) = some r := H
    have A4 := Aside0.mk A40
    clear A40
    have H' := Aside0.mk H
    clear H
    go_enter Try.func5, Try.ntmps5
    go_wp2_with (first | (go_at_call 19; (with_reducible refine (laws_big.calls _ _ l0 false _ ?side1 ?side2 A2.out).mono ?_); (case side1 => repeat (first | exact HR0.out | (with_reducible refine Kd.C_alloc ?_ _) | (with_reducible refine Kd.C_drewN ?_ _) | (with_reducible refine Kd.C_drew ?_))); (case side2 => exact HC0.out); rintro e w' ⟨rfl, ⟨nd, rfl⟩⟩; (try first | exact ⟨rfl, _, World.drewN_drewN _ _ _⟩ | exact ⟨rfl, _, Eq.trans (World.drewN_drewN _ _ _) (congrArg (World.drewN _) (Nat.add_assoc _ _ _))⟩)) | (go_at_call 20; (with_reducible refine (spec_DrawRoads.calls k _ _ l0 t209 t210 _ ?side1 ?side2 A4.out).mono ?_); (case side1 => repeat (first | exact HR0.out | (with_reducible refine Kd.C_alloc ?_ _) | (with_reducible refine Kd.C_drewN ?_ _) | (with_reducible refine Kd.C_drew ?_))); (case side2 => exact HC0.out); rintro e w5 ⟨v211, rfl, ho0, hb⟩; have n0_ := Aside0.mk (Kd.R_lower ho0 (below_size (by repeat (first | (with_reducible first | exact HB.out | apply below_alloc | apply pw_below_drewN | apply below_drew1) | exact HB.out)))); have n1_ := Aside0.mk (below_step (by repeat (first | (with_reducible first | exact HB.out | apply below_alloc | apply pw_below_drewN | apply below_drew1) | exact HB.out)) hb); clear HB; have HO212 := n0_; have HB := n1_; clear n0_ n1_; (try clear hb); (try clear hb2); (try clear hk); (try clear hi); (try clear ho0)))
    repeat (go_quiet (first | (go_at_call 19; (with_reducible refine (laws_big.calls _ _ l0 false _ ?side1 ?side2 A2.out).mono ?_); (case side1 => repeat (first | exact HR0.out | (with_reducible refine Kd.C_alloc ?_ _) | (with_reducible refine Kd.C_drewN ?_ _) | (with_reducible refine Kd.C_drew ?_))); (case side2 => exact HC0.out); rintro e w' ⟨rfl, ⟨nd, rfl⟩⟩; (try first | exact ⟨rfl, _, World.drewN_drewN _ _ _⟩ | exact ⟨rfl, _, Eq.trans (World.drewN_drewN _ _ _) (congrArg (World.drewN _) (Nat.add_assoc _ _ _))⟩)) | (go_at_call 20; (with_reducible refine (spec_DrawRoads.calls k _ _ l0 t209 t210 _ ?side1 ?side2 A4.out).mono ?_); (case side1 => repeat (first | exact HR0.out | (with_reducible refine Kd.C_alloc ?_ _) | (with_reducible refine Kd.C_drewN ?_ _) | (with_reducible refine Kd.C_drew ?_))); (case side2 => exact HC0.out); rintro e w5 ⟨v211, rfl, ho0, hb⟩; have n0_ := Aside0.mk (Kd.R_lower ho0 (below_size (by repeat (first | (with_reducible first | exact HB.out | apply below_alloc | apply pw_below_drewN | apply below_drew1) | exact HB.out)))); have n1_ := Aside0.mk (below_step (by repeat (first | (with_reducible first | exact HB.out | apply below_alloc | apply pw_below_drewN | apply below_drew1) | exact HB.out)) hb); clear HB; have HO212 := n0_; have HB := n1_; clear n0_ n1_; (try clear hb); (try clear hb2); (try clear hk); (try clear hi); (try clear ho0))); try go_wp2_with (first | (go_at_call 19; (with_reducible refine (laws_big.calls _ _ l0 false _ ?side1 ?side2 A2.out).mono ?_); (case side1 => repeat (first | exact HR0.out | (with_reducible refine Kd.C_alloc ?_ _) | (with_reducible refine Kd.C_drewN ?_ _) | (with_reducible refine Kd.C_drew ?_))); (case side2 => exact HC0.out); rintro e w' ⟨rfl, ⟨nd, rfl⟩⟩; (try first | exact ⟨rfl, _, World.drewN_drewN _ _ _⟩ | exact ⟨rfl, _, Eq.trans (World.drewN_drewN _ _ _) (congrArg (World.drewN _) (Nat.add_assoc _ _ _))⟩)) | (go_at_call 20; (with_reducible refine (spec_DrawRoads.calls k _ _ l0 t209 t210 _ ?side1 ?side2 A4.out).mono ?_); (case side1 => repeat (first | exact HR0.out | (with_reducible refine Kd.C_alloc ?_ _) | (with_reducible refine Kd.C_drewN ?_ _) | (with_reducible refine Kd.C_drew ?_))); (case side2 => exact HC0.out); rintro e w5 ⟨v211, rfl, ho0, hb⟩; have n0_ := Aside0.mk (Kd.R_lower ho0 (below_size (by repeat (first | (with_reducible first | exact HB.out | apply below_alloc | apply pw_below_drewN | apply below_drew1) | exact HB.out)))); have n1_ := Aside0.mk (below_step (by repeat (first | (with_reducible first | exact HB.out | apply below_alloc | apply pw_below_drewN | apply below_drew1) | exact HB.out)) hb); clear HB; have HO212 := n0_; have HB := n1_; clear n0_ n1_; (try clear hb); (try clear hb2); (try clear hk); (try clear hi); (try clear ho0))))
    go_loopg [5] k (fun kq v5 w' => ∃ (x5_1 : Int), v5 = .int .i64 x5_1 ∧ Aside0 (laws_FnSites.l0 kq t209 t210 x5_1 = some r) ∧ Aside0 (kq ≤ k) ∧ Aside0 (Kd.R k38 38 w' w.heap.size (fun _ => True) v211 t210) ∧ Aside0 (Below w.heap.size w w'))
    case atStart => exact ⟨(0), (by first | rfl | (simp; done) | (simp [*]; done)), H', ⟨Nat.le_refl _⟩, ⟨by (with_reducible repeat (first | apply Kd.R_alloc | apply Kd.R_drewN | apply Kd.R_drew)); exact HO212.out⟩, ⟨by repeat (first | (with_reducible first | exact HB.out | apply below_alloc | apply pw_below_drewN | apply below_drew1) | exact HB.out)⟩⟩
    case round =>
      clear H'
      try clear p2
      try clear c3
      try clear c5
      obtain ⟨x5_1, rfl, HA, HK1, HO_4, HB⟩ := hrel
      cases gk with
      | zero => exact absurd HA.out (by simp [laws_FnSites.l0])
      | succ k1 =>
        have H := HA.out
        clear HA
        simp only [laws_FnSites.l0] at H
        by_cases c6 : x5_1 < t209
        · rw [if_pos c6] at H
          have c6b0 : decide (x5_1 < t209) = true := decide_eq_true c6
          clear c6
          replace H := Option.bind_eq_some_iff.mp H
          obtain ⟨t214, A70, H⟩ := H
          replace H : ((impl_TreeOf.f k1 t209 t210 x5_1).bind fun t217 => (if (t214.length : Int) = t209 then (if (t217.length : Int) = t209 then (if 0 ≤ x5_1 then (if x5_1 < (t214.length : Int) then (if (rd t214 x5_1) = 0 then (if x5_1 < (t217.length : Int) then (if (rd t217 x5_1) = (-1) then ((spec_TreeOf.f k1 t209 t210 x5_1).bind fun t222 => ((laws_sameInts.f k1 t217 t222).bind fun t225 => (laws_FnSites.j1 k1 t209 t210 x5_1 t214 t217 (!t225)))) else (laws_FnSites.j1 k1 t209 t210 x5_1 t214 t217 true)) else (none)) else (laws_FnSites.j1 k1 t209 t210 x5_1 t214 t217 true)) else (none)) else (none)) else (laws_FnSites.j1 k1 t209 t210 x5_1 t214 t217 true)) else (laws_FnSites.j1 k1 t209 t210 x5_1 t214 t217 true))) = some r := H
          have A7 := Aside0.mk A70
          clear A70
          replace H := Option.bind_eq_some_iff.mp H
          obtain ⟨t217, A80, H⟩ := H
          replace H : (if (t214.length : Int) = t209 then (if (t217.length : Int) = t209 then (if 0 ≤ x5_1 then (if x5_1 < (t214.length : Int) then (if (rd t214 x5_1) = 0 then (if x5_1 < (t217.length : Int) then (if (rd t217 x5_1) = (-1) then ((spec_TreeOf.f k1 t209 t210 x5_1).bind fun t222 => ((laws_sameInts.f k1 t217 t222).bind fun t225 => (laws_FnSites.j1 k1 t209 t210 x5_1 t214 t217 (!t225)))) else (laws_FnSites.j1 k1 t209 t210 x5_1 t214 t217 true)) else (none)) else (laws_FnSites.j1 k1 t209 t210 x5_1 t214 t217 true)) else (none)) else (none)) else (laws_FnSites.j1 k1 t209 t210 x5_1 t214 t217 true)) else (laws_FnSites.j1 k1 t209 t210 x5_1 t214 t217 true)) = some r := H
          have A8 := Aside0.mk A80
          clear A80
          have HC9 := Aside0.mk H
          clear H
          obtain ⟨Ao10, co10, eo10⟩ := Kd.R_slice HO_4.out
          subst eo10
          go_upto_region 9 with (first | (go_at_call 11; (with_reducible refine (impl_Distances.calls k1 t209 _ _ t210 x5_1 t214 _ ?side1 ?side2 A7.out).mono ?_); (case side1 => repeat (first | exact (Kd.R_reads' HO_4.out).2.2 | (with_reducible refine Kd.C_alloc ?_ _) | (with_reducible refine Kd.C_drewN ?_ _) | (with_reducible refine Kd.C_drew ?_))); (case side2 => exact (Kd.R_reads' HO_4.out).2.1); rintro e w11 ⟨v215, rfl, ho0, hb⟩; have n0_ := Aside0.mk (Kd.R_below (by (with_reducible repeat (first | apply Kd.R_alloc | apply Kd.R_drewN | apply Kd.R_drew)); exact HO_4.out) hb); have n1_ := Aside0.mk (Kd.R_lower ho0 (below_size (by repeat (first | (with_reducible first | exact HB.out | apply below_alloc | apply pw_below_drewN | apply below_drew1) | exact HB.out)))); have n2_ := Aside0.mk (below_step (by repeat (first | (with_reducible first | exact HB.out | apply below_alloc | apply pw_below_drewN | apply below_drew1) | exact HB.out)) hb); clear HO_4; clear HB; have HO_4 := n0_; have HO216 := n1_; have HB := n2_; clear n0_ n1_ n2_; (try clear hb); (try clear hb2); (try clear hk); (try clear hi); (try clear ho0)) | (go_at_call 18; (with_reducible refine (impl_TreeOf.calls k1 t209 _ _ t210 x5_1 t217 _ ?side1 ?side2 A8.out).mono ?_); (case side1 => repeat (first | exact (Kd.R_reads' HO_4.out).2.2 | (with_reducible refine Kd.C_alloc ?_ _) | (with_reducible refine Kd.C_drewN ?_ _) | (with_reducible refine Kd.C_drew ?_))); (case side2 => exact (Kd.R_reads' HO_4.out).2.1); rintro e w12 ⟨v218, rfl, ho0, hb⟩; have n0_ := Aside0.mk (Kd.R_below (by (with_reducible repeat (first | apply Kd.R_alloc | apply Kd.R_drewN | apply Kd.R_drew)); exact HO_4.out) hb); have n1_ := Aside0.mk (Kd.R_elder' (by (with_reducible repeat (first | apply Kd.R_alloc | apply Kd.R_drewN | apply Kd.R_drew)); exact HO216.out) (Kd.R_base ho0) hb); have n2_ := Aside0.mk (Kd.R_lower (Kd.R_new' ho0 (Kd.R_lt (by (with_reducible repeat (first | apply Kd.R_alloc | apply Kd.R_drewN | apply Kd.R_drew)); exact HO216.out))) (below_size (by repeat (first | (with_reducible first | exact HB.out | apply below_alloc | apply pw_below_drewN | apply below_drew1) | exact HB.out)))); have n3_ := Aside0.mk (below_step (by repeat (first | (with_reducible first | exact HB.out | apply below_alloc | apply pw_below_drewN | apply below_drew1) | exact HB.out)) hb); clear HO_4; clear HO216; clear HB; have HO_4 := n0_; have HO216 := n1_; have HO219 := n2_; have HB := n3_; clear n0_ n1_ n2_ n3_; (try clear hb); (try clear hb2); (try clear hk); (try clear hi); (try clear ho0)))
          repeat (go_quiet (first | (go_at_call 11; (with_reducible refine (impl_Distances.calls k1 t209 _ _ t210 x5_1 t214 _ ?side1 ?side2 A7.out).mono ?_); (case side1 => repeat (first | exact (Kd.R_reads' HO_4.out).2.2 | (with_reducible refine Kd.C_alloc ?_ _) | (with_reducible refine Kd.C_drewN ?_ _) | (with_reducible refine Kd.C_drew ?_))); (case side2 => exact (Kd.R_reads' HO_4.out).2.1); rintro e w11 ⟨v215, rfl, ho0, hb⟩; have n0_ := Aside0.mk (Kd.R_below (by (with_reducible repeat (first | apply Kd.R_alloc | apply Kd.R_drewN | apply Kd.R_drew)); exact HO_4.out) hb); have n1_ := Aside0.mk (Kd.R_lower ho0 (below_size (by repeat (first | (with_reducible first | exact HB.out | apply below_alloc | apply pw_below_drewN | apply below_drew1) | exact HB.out)))); have n2_ := Aside0.mk (below_step (by repeat (first | (with_reducible first | exact HB.out | apply below_alloc | apply pw_below_drewN | apply below_drew1) | exact HB.out)) hb); clear HO_4; clear HB; have HO_4 := n0_; have HO216 := n1_; have HB := n2_; clear n0_ n1_ n2_; (try clear hb); (try clear hb2); (try clear hk); (try clear hi); (try clear ho0)) | (go_at_call 18; (with_reducible refine (impl_TreeOf.calls k1 t209 _ _ t210 x5_1 t217 _ ?side1 ?side2 A8.out).mono ?_); (case side1 => repeat (first | exact (Kd.R_reads' HO_4.out).2.2 | (with_reducible refine Kd.C_alloc ?_ _) | (with_reducible refine Kd.C_drewN ?_ _) | (with_reducible refine Kd.C_drew ?_))); (case side2 => exact (Kd.R_reads' HO_4.out).2.1); rintro e w12 ⟨v218, rfl, ho0, hb⟩; have n0_ := Aside0.mk (Kd.R_below (by (with_reducible repeat (first | apply Kd.R_alloc | apply Kd.R_drewN | apply Kd.R_drew)); exact HO_4.out) hb); have n1_ := Aside0.mk (Kd.R_elder' (by (with_reducible repeat (first | apply Kd.R_alloc | apply Kd.R_drewN | apply Kd.R_drew)); exact HO216.out) (Kd.R_base ho0) hb); have n2_ := Aside0.mk (Kd.R_lower (Kd.R_new' ho0 (Kd.R_lt (by (with_reducible repeat (first | apply Kd.R_alloc | apply Kd.R_drewN | apply Kd.R_drew)); exact HO216.out))) (below_size (by repeat (first | (with_reducible first | exact HB.out | apply below_alloc | apply pw_below_drewN | apply below_drew1) | exact HB.out)))); have n3_ := Aside0.mk (below_step (by repeat (first | (with_reducible first | exact HB.out | apply below_alloc | apply pw_below_drewN | apply below_drew1) | exact HB.out)) hb); clear HO_4; clear HO216; clear HB; have HO_4 := n0_; have HO216 := n1_; have HO219 := n2_; have HB := n3_; clear n0_ n1_ n2_ n3_; (try clear hb); (try clear hb2); (try clear hk); (try clear hi); (try clear ho0))); go_upto_region 9 with (first | (go_at_call 11; (with_reducible refine (impl_Distances.calls k1 t209 _ _ t210 x5_1 t214 _ ?side1 ?side2 A7.out).mono ?_); (case side1 => repeat (first | exact (Kd.R_reads' HO_4.out).2.2 | (with_reducible refine Kd.C_alloc ?_ _) | (with_reducible refine Kd.C_drewN ?_ _) | (with_reducible refine Kd.C_drew ?_))); (case side2 => exact (Kd.R_reads' HO_4.out).2.1); rintro e w11 ⟨v215, rfl, ho0, hb⟩; have n0_ := Aside0.mk (Kd.R_below (by (with_reducible repeat (first | apply Kd.R_alloc | apply Kd.R_drewN | apply Kd.R_drew)); exact HO_4.out) hb); have n1_ := Aside0.mk (Kd.R_lower ho0 (below_size (by repeat (first | (with_reducible first | exact HB.out | apply below_alloc | apply pw_below_drewN | apply below_drew1) | exact HB.out)))); have n2_ := Aside0.mk (below_step (by repeat (first | (with_reducible first | exact HB.out | apply below_alloc | apply pw_below_drewN | apply below_drew1) | exact HB.out)) hb); clear HO_4; clear HB; have HO_4 := n0_; have HO216 := n1_; have HB := n2_; clear n0_ n1_ n2_; (try clear hb); (try clear hb2); (try clear hk); (try clear hi); (try clear ho0)) | (go_at_call 18; (with_reducible refine (impl_TreeOf.calls k1 t209 _ _ t210 x5_1 t217 _ ?side1 ?side2 A8.out).mono ?_); (case side1 => repeat (first | exact (Kd.R_reads' HO_4.out).2.2 | (with_reducible refine Kd.C_alloc ?_ _) | (with_reducible refine Kd.C_drewN ?_ _) | (with_reducible refine Kd.C_drew ?_))); (case side2 => exact (Kd.R_reads' HO_4.out).2.1); rintro e w12 ⟨v218, rfl, ho0, hb⟩; have n0_ := Aside0.mk (Kd.R_below (by (with_reducible repeat (first | apply Kd.R_alloc | apply Kd.R_drewN | apply Kd.R_drew)); exact HO_4.out) hb); have n1_ := Aside0.mk (Kd.R_elder' (by (with_reducible repeat (first | apply Kd.R_alloc | apply Kd.R_drewN | apply Kd.R_drew)); exact HO216.out) (Kd.R_base ho0) hb); have n2_ := Aside0.mk (Kd.R_lower (Kd.R_new' ho0 (Kd.R_lt (by (with_reducible repeat (first | apply Kd.R_alloc | apply Kd.R_drewN | apply Kd.R_drew)); exact HO216.out))) (below_size (by repeat (first | (with_reducible first | exact HB.out | apply below_alloc | apply pw_below_drewN | apply below_drew1) | exact HB.out)))); have n3_ := Aside0.mk (below_step (by repeat (first | (with_reducible first | exact HB.out | apply below_alloc | apply pw_below_drewN | apply below_drew1) | exact HB.out)) hb); clear HO_4; clear HO216; clear HB; have HO_4 := n0_; have HO216 := n1_; have HO219 := n2_; have HB := n3_; clear n0_ n1_ n2_ n3_; (try clear hb); (try clear hb2); (try clear hk); (try clear hi); (try clear ho0))))
          (try simp only [Act.put, List.setIfInBounds_toArray, List.set_cons_zero, List.set_cons_succ])
          go_cut [63] (fun v63 wc => ∃ (kq : Nat) (x63_8 : Bool), v63 = .bool x63_8 ∧ Aside0 (laws_FnSites.j1 kq t209 t210 x5_1 t214 t217 x63_8 = some r) ∧ Aside0 (kq ≤ k1) ∧ Aside0 (Kd.R k38 38 wc w.heap.size (fun _ => True) (.slice Ao10 t210.length co10) t210) ∧ Aside0 (Kd.R (Kd.int .i64) 3 wc w.heap.size (fun k_ => some k_ ≠ (v218 : Value).ownBlock) v215 t214) ∧ Aside0 (Kd.R (Kd.int .i64) 3 wc w.heap.size (fun k_ => some k_ ≠ (v215 : Value).ownBlock) v218 t217) ∧ Aside0 (Below w.heap.size w wc))
          case first =>
            have H := HC9.out
            clear HC9
            by_cases c13 : (t214.length : Int) = t209
            · rw [if_pos c13] at H
              have c13b0 : ((t214.length : Int) == t209) = true := beq_iff_eq.mpr c13
              have c13b1 : ((t214.length : Int) != t209) = false := bne_eq_false_iff_eq.mpr c13
              clear c13
              (first | rw [c13b0] | (simp only [i64_w, i32_w]; rw [c13b0]) | skip)
              by_cases c14 : (t217.length : Int) = t209
              · rw [if_pos c14] at H
                have c14b0 : ((t217.length : Int) == t209) = true := beq_iff_eq.mpr c14
                have c14b1 : ((t217.length : Int) != t209) = false := bne_eq_false_iff_eq.mpr c14
                clear c14
                by_cases c15 : 0 ≤ x5_1
                · rw [if_pos c15] at H
                  have c15b0 : decide (0 ≤ x5_1) = true := decide_eq_true c15
                  clear c15
                  by_cases c16 : x5_1 < (t214.length : Int)
                  · rw [if_pos c16] at H
                    have c16b0 : decide (x5_1 < (t214.length : Int)) = true := decide_eq_true c16
                    clear c16
                    by_cases c17 : (rd t214 x5_1) = 0
                    · rw [if_pos c17] at H
                      have c17b0 : ((rd t214 x5_1) == 0) = true := beq_iff_eq.mpr c17
                      have c17b1 : ((rd t214 x5_1) != 0) = false := bne_eq_false_iff_eq.mpr c17
                      clear c17
                      by_cases c18 : x5_1 < (t217.length : Int)
                      · rw [if_pos c18] at H
                        have c18b0 : decide (x5_1 < (t217.length : Int)) = true := decide_eq_true c18
                        clear c18
                        by_cases c19 : (rd t217 x5_1) = (-1)
                        · rw [if_pos c19] at H
                          have c19b0 : ((rd t217 x5_1) == (-1)) = true := beq_iff_eq.mpr c19
                          have c19b1 : ((rd t217 x5_1) != (-1)) = false := bne_eq_false_iff_eq.mpr c19
                          clear c19
                          replace H := Option.bind_eq_some_iff.mp H
                          obtain ⟨t222, A200, H⟩ := H
                          replace H : ((laws_sameInts.f k1 t217 t222).bind fun t225 => (laws_FnSites.j1 k1 t209 t210 x5_1 t214 t217 (!t225))) = some r := H
                          have A20 := Aside0.mk A200
                          clear A200
                          replace H := Option.bind_eq_some_iff.mp H
                          obtain ⟨t225, A210, H⟩ := H
                          replace H : (laws_FnSites.j1 k1 t209 t210 x5_1 t214 t217 (!t225)) = some r := H
                          have A21 := Aside0.mk A210
                          clear A210
                          have H' := Aside0.mk H
                          clear H
                          obtain ⟨Ao22, co22, eo22⟩ := Kd.R_slice HO216.out
                          subst eo22
                          obtain ⟨Ao23, co23, eo23⟩ := Kd.R_slice HO219.out
                          subst eo23
                          have p220 : 0 ≤ (x5_1 : Int) := of_decide_eq_true (by first | (with_reducible assumption) | assumption)
                          have q220 : x5_1 < (t214.length : Int) := of_decide_eq_true (by first | (with_reducible assumption) | assumption)
                          obtain ⟨ad220, e220, hx220_0⟩ := Kd.at_int (Kd.R_reads' HO216.out).2.2 x5_1 p220 q220
                          cases e220
                          replace p220 := eq_true p220
                          replace q220 := eq_true q220
                          have p221 : 0 ≤ (x5_1 : Int) := of_decide_eq_true (by first | (with_reducible assumption) | assumption)
                          have q221 : x5_1 < (t217.length : Int) := of_decide_eq_true (by first | (with_reducible assumption) | assumption)
                          obtain ⟨ad221, e221, hx221_0⟩ := Kd.at_int (Kd.R_reads' HO219.out).2.2 x5_1 p221 q221
                          cases e221
                          replace p221 := eq_true p221
                          replace q221 := eq_true q221
                          go_wp2_with (first | (go_at_call 17; (with_reducible refine (spec_TreeOf.calls k1 t209 _ _ t210 x5_1 t222 _ ?side1 ?side2 A20.out).mono ?_); (case side1 => repeat (first | exact (Kd.R_reads' HO_4.out).2.2 | (with_reducible refine Kd.C_alloc ?_ _) | (with_reducible refine Kd.C_drewN ?_ _) | (with_reducible refine Kd.C_drew ?_))); (case side2 => exact (Kd.R_reads' HO_4.out).2.1); rintro e w24 ⟨v223, rfl, ho0, hb⟩; have n0_ := Aside0.mk (Kd.R_below (by (with_reducible repeat (first | apply Kd.R_alloc | apply Kd.R_drewN | apply Kd.R_drew)); exact HO_4.out) hb); have n1_ := Aside0.mk (Kd.R_elder' (by (with_reducible repeat (first | apply Kd.R_alloc | apply Kd.R_drewN | apply Kd.R_drew)); exact HO216.out) (Kd.R_base ho0) hb); have n2_ := Aside0.mk (Kd.R_elder' (by (with_reducible repeat (first | apply Kd.R_alloc | apply Kd.R_drewN | apply Kd.R_drew)); exact HO219.out) (Kd.R_base ho0) hb); have n3_ := Aside0.mk (Kd.R_lower (Kd.R_new' (Kd.R_new' ho0 (Kd.R_lt (by (with_reducible repeat (first | apply Kd.R_alloc | apply Kd.R_drewN | apply Kd.R_drew)); exact HO216.out))) (Kd.R_lt (by (with_reducible repeat (first | apply Kd.R_alloc | apply Kd.R_drewN | apply Kd.R_drew)); exact HO219.out))) (below_size (by repeat (first | (with_reducible first | exact HB.out | apply below_alloc | apply pw_below_drewN | apply below_drew1) | exact HB.out)))); have n4_ := Aside0.mk (below_step (by repeat (first | (with_reducible first | exact HB.out | apply below_alloc | apply pw_below_drewN | apply below_drew1) | exact HB.out)) hb); clear HO_4; clear HO216; clear HO219; clear HB; have HO_4 := n0_; have HO216 := n1_; have HO219 := n2_; have HO224 := n3_; have HB := n4_; clear n0_ n1_ n2_ n3_ n4_; (try clear hb); (try clear hb2); (try clear hk); (try clear hi); (try clear ho0); obtain ⟨Ao25, co25, eo25⟩ := Kd.R_slice HO224.out; subst eo25) | (go_at_call 21; (with_reducible refine (laws_sameInts.calls k1 _ _ t217 _ _ t222 t225 _ ?side1 ?side2 ?side3 ?side4 A21.out).mono ?_); (case side1 => repeat (first | exact (Kd.R_reads' HO219.out).2.2 | (with_reducible refine Kd.C_alloc ?_ _) | (with_reducible refine Kd.C_drewN ?_ _) | (with_reducible refine Kd.C_drew ?_))); (case side2 => exact (Kd.R_reads' HO219.out).2.1); (case side3 => repeat (first | exact (Kd.R_reads' HO224.out).2.2 | (with_reducible refine Kd.C_alloc ?_ _) | (with_reducible refine Kd.C_drewN ?_ _) | (with_reducible refine Kd.C_drew ?_))); (case side4 => exact (Kd.R_reads' HO224.out).2.1); rintro e w' ⟨rfl, ⟨nd, rfl⟩⟩; (try first | exact ⟨rfl, _, World.drewN_drewN _ _ _⟩ | exact ⟨rfl, _, Eq.trans (World.drewN_drewN _ _ _) (congrArg (World.drewN _) (Nat.add_assoc _ _ _))⟩)))
                          repeat (go_quiet (first | (go_at_call 17; (with_reducible refine (spec_TreeOf.calls k1 t209 _ _ t210 x5_1 t222 _ ?side1 ?side2 A20.out).mono ?_); (case side1 => repeat (first | exact (Kd.R_reads' HO_4.out).2.2 | (with_reducible refine Kd.C_alloc ?_ _) | (with_reducible refine Kd.C_drewN ?_ _) | (with_reducible refine Kd.C_drew ?_))); (case side2 => exact (Kd.R_reads' HO_4.out).2.1); rintro e w24 ⟨v223, rfl, ho0, hb⟩; have n0_ := Aside0.mk (Kd.R_below (by (with_reducible repeat (first | apply Kd.R_alloc | apply Kd.R_drewN | apply Kd.R_drew)); exact HO_4.out) hb); have n1_ := Aside0.mk (Kd.R_elder' (by (with_reducible repeat (first | apply Kd.R_alloc | apply Kd.R_drewN | apply Kd.R_drew)); exact HO216.out) (Kd.R_base ho0) hb); have n2_ := Aside0.mk (Kd.R_elder' (by (with_reducible repeat (first | apply Kd.R_alloc | apply Kd.R_drewN | apply Kd.R_drew)); exact HO219.out) (Kd.R_base ho0) hb); have n3_ := Aside0.mk (Kd.R_lower (Kd.R_new' (Kd.R_new' ho0 (Kd.R_lt (by (with_reducible repeat (first | apply Kd.R_alloc | apply Kd.R_drewN | apply Kd.R_drew)); exact HO216.out))) (Kd.R_lt (by (with_reducible repeat (first | apply Kd.R_alloc | apply Kd.R_drewN | apply Kd.R_drew)); exact HO219.out))) (below_size (by repeat (first | (with_reducible first | exact HB.out | apply below_alloc | apply pw_below_drewN | apply below_drew1) | exact HB.out)))); have n4_ := Aside0.mk (below_step (by repeat (first | (with_reducible first | exact HB.out | apply below_alloc | apply pw_below_drewN | apply below_drew1) | exact HB.out)) hb); clear HO_4; clear HO216; clear HO219; clear HB; have HO_4 := n0_; have HO216 := n1_; have HO219 := n2_; have HO224 := n3_; have HB := n4_; clear n0_ n1_ n2_ n3_ n4_; (try clear hb); (try clear hb2); (try clear hk); (try clear hi); (try clear ho0); obtain ⟨Ao25, co25, eo25⟩ := Kd.R_slice HO224.out; subst eo25) | (go_at_call 21; (with_reducible refine (laws_sameInts.calls k1 _ _ t217 _ _ t222 t225 _ ?side1 ?side2 ?side3 ?side4 A21.out).mono ?_); (case side1 => repeat (first | exact (Kd.R_reads' HO219.out).2.2 | (with_reducible refine Kd.C_alloc ?_ _) | (with_reducible refine Kd.C_drewN ?_ _) | (with_reducible refine Kd.C_drew ?_))); (case side2 => exact (Kd.R_reads' HO219.out).2.1); (case side3 => repeat (first | exact (Kd.R_reads' HO224.out).2.2 | (with_reducible refine Kd.C_alloc ?_ _) | (with_reducible refine Kd.C_drewN ?_ _) | (with_reducible refine Kd.C_drew ?_))); (case side4 => exact (Kd.R_reads' HO224.out).2.1); rintro e w' ⟨rfl, ⟨nd, rfl⟩⟩; (try first | exact ⟨rfl, _, World.drewN_drewN _ _ _⟩ | exact ⟨rfl, _, Eq.trans (World.drewN_drewN _ _ _) (congrArg (World.drewN _) (Nat.add_assoc _ _ _))⟩))); try go_wp2_with (first | (go_at_call 17; (with_reducible refine (spec_TreeOf.calls k1 t209 _ _ t210 x5_1 t222 _ ?side1 ?side2 A20.out).mono ?_); (case side1 => repeat (first | exact (Kd.R_reads' HO_4.out).2.2 | (with_reducible refine Kd.C_alloc ?_ _) | (with_reducible refine Kd.C_drewN ?_ _) | (with_reducible refine Kd.C_drew ?_))); (case side2 => exact (Kd.R_reads' HO_4.out).2.1); rintro e w24 ⟨v223, rfl, ho0, hb⟩; have n0_ := Aside0.mk (Kd.R_below (by (with_reducible repeat (first | apply Kd.R_alloc | apply Kd.R_drewN | apply Kd.R_drew)); exact HO_4.out) hb); have n1_ := Aside0.mk (Kd.R_elder' (by (with_reducible repeat (first | apply Kd.R_alloc | apply Kd.R_drewN | apply Kd.R_drew)); exact HO216.out) (Kd.R_base ho0) hb); have n2_ := Aside0.mk (Kd.R_elder' (by (with_reducible repeat (first | apply Kd.R_alloc | apply Kd.R_drewN | apply Kd.R_drew)); exact HO219.out) (Kd.R_base ho0) hb); have n3_ := Aside0.mk (Kd.R_lower (Kd.R_new' (Kd.R_new' ho0 (Kd.R_lt (by (with_reducible repeat (first | apply Kd.R_alloc | apply Kd.R_drewN | apply Kd.R_drew)); exact HO216.out))) (Kd.R_lt (by (with_reducible repeat (first | apply Kd.R_alloc | apply Kd.R_drewN | apply Kd.R_drew)); exact HO219.out))) (below_size (by repeat (first | (with_reducible first | exact HB.out | apply below_alloc | apply pw_below_drewN | apply below_drew1) | exact HB.out)))); have n4_ := Aside0.mk (below_step (by repeat (first | (with_reducible first | exact HB.out | apply below_alloc | apply pw_below_drewN | apply below_drew1) | exact HB.out)) hb); clear HO_4; clear HO216; clear HO219; clear HB; have HO_4 := n0_; have HO216 := n1_; have HO219 := n2_; have HO224 := n3_; have HB := n4_; clear n0_ n1_ n2_ n3_ n4_; (try clear hb); (try clear hb2); (try clear hk); (try clear hi); (try clear ho0); obtain ⟨Ao25, co25, eo25⟩ := Kd.R_slice HO224.out; subst eo25) | (go_at_call 21; (with_reducible refine (laws_sameInts.calls k1 _ _ t217 _ _ t222 t225 _ ?side1 ?side2 ?side3 ?side4 A21.out).mono ?_); (case side1 => repeat (first | exact (Kd.R_reads' HO219.out).2.2 | (with_reducible refine Kd.C_alloc ?_ _) | (with_reducible refine Kd.C_drewN ?_ _) | (with_reducible refine Kd.C_drew ?_))); (case side2 => exact (Kd.R_reads' HO219.out).2.1); (case side3 => repeat (first | exact (Kd.R_reads' HO224.out).2.2 | (with_reducible refine Kd.C_alloc ?_ _) | (with_reducible refine Kd.C_drewN ?_ _) | (with_reducible refine Kd.C_drew ?_))); (case side4 => exact (Kd.R_reads' HO224.out).2.1); rintro e w' ⟨rfl, ⟨nd, rfl⟩⟩; (try first | exact ⟨rfl, _, World.drewN_drewN _ _ _⟩ | exact ⟨rfl, _, Eq.trans (World.drewN_drewN _ _ _) (congrArg (World.drewN _) (Nat.add_assoc _ _ _))⟩))))
                          go_meet
                          case rel => exact ⟨_, (!t225), (by first | rfl | (simp; done) | (simp [*]; done)), H', ⟨by have := HK1.out; first | omega | exact Nat.le_refl _⟩, ⟨by (with_reducible repeat (first | apply Kd.R_alloc | apply Kd.R_drewN | apply Kd.R_drew)); exact HO_4.out⟩, ⟨by (with_reducible repeat (first | apply Kd.R_alloc | apply Kd.R_drewN | apply Kd.R_drew)); exact Kd.R_mono HO216.out (fun _ hk => hk.1.2)⟩, ⟨by (with_reducible repeat (first | apply Kd.R_alloc | apply Kd.R_drewN | apply Kd.R_drew)); exact Kd.R_mono HO219.out (fun _ hk => hk.1.2)⟩, ⟨by repeat (first | (with_reducible first | exact HB.out | apply below_alloc | apply pw_below_drewN | apply below_drew1) | exact HB.out)⟩⟩
                        · rw [if_neg c19] at H
                          have c19b0 : ((rd t217 x5_1) == (-1)) = false := beq_eq_false_iff_ne.mpr c19
                          have c19b1 : ((rd t217 x5_1) != (-1)) = true := bne_iff_ne.mpr c19
                          have H' := Aside0.mk H
                          clear H
                          obtain ⟨Ao26, co26, eo26⟩ := Kd.R_slice HO216.out
                          subst eo26
                          obtain ⟨Ao27, co27, eo27⟩ := Kd.R_slice HO219.out
                          subst eo27
                          have p220 : 0 ≤ (x5_1 : Int) := of_decide_eq_true (by first | (with_reducible assumption) | assumption)
                          have q220 : x5_1 < (t214.length : Int) := of_decide_eq_true (by first | (with_reducible assumption) | assumption)
                          obtain ⟨ad220, e220, hx220_0⟩ := Kd.at_int (Kd.R_reads' HO216.out).2.2 x5_1 p220 q220
                          cases e220
                          replace p220 := eq_true p220
                          replace q220 := eq_true q220
                          have p221 : 0 ≤ (x5_1 : Int) := of_decide_eq_true (by first | (with_reducible assumption) | assumption)
                          have q221 : x5_1 < (t217.length : Int) := of_decide_eq_true (by first | (with_reducible assumption) | assumption)
                          obtain ⟨ad221, e221, hx221_0⟩ := Kd.at_int (Kd.R_reads' HO219.out).2.2 x5_1 p221 q221
                          cases e221
                          replace p221 := eq_true p221
                          replace q221 := eq_true q221
                          go_wp2
                          repeat (go_quiet (fail); try go_wp2)
                          go_meet
                          case rel => exact ⟨_, (true), (by first | rfl | (simp; done) | (simp [*]; done)), H', ⟨by have := HK1.out; first | omega | exact Nat.le_refl _⟩, ⟨by (with_reducible repeat (first | apply Kd.R_alloc | apply Kd.R_drewN | apply Kd.R_drew)); exact HO_4.out⟩, ⟨by (with_reducible repeat (first | apply Kd.R_alloc | apply Kd.R_drewN | apply Kd.R_drew)); exact Kd.R_mono HO216.out (fun _ hk => hk.2)⟩, ⟨by (with_reducible repeat (first | apply Kd.R_alloc | apply Kd.R_drewN | apply Kd.R_drew)); exact Kd.R_mono HO219.out (fun _ hk => hk.2)⟩, ⟨by repeat (first | (with_reducible first | exact HB.out | apply below_alloc | apply pw_below_drewN | apply below_drew1) | exact HB.out)⟩⟩
                      · rw [if_neg c18] at H
                        exact absurd H (by simp)
                    · rw [if_neg c17] at H
                      have c17b0 : ((rd t214 x5_1) == 0) = false := beq_eq_false_iff_ne.mpr c17
                      have c17b1 : ((rd t214 x5_1) != 0) = true := bne_iff_ne.mpr c17
                      have H' := Aside0.mk H
                      clear H
                      obtain ⟨Ao28, co28, eo28⟩ := Kd.R_slice HO216.out
                      subst eo28
                      obtain ⟨Ao29, co29, eo29⟩ := Kd.R_slice HO219.out
                      subst eo29
                      have p220 : 0 ≤ (x5_1 : Int) := of_decide_eq_true (by first | (with_reducible assumption) | assumption)
                      have q220 : x5_1 < (t214.length : Int) := of_decide_eq_true (by first | (with_reducible assumption) | assumption)
                      obtain ⟨ad220, e220, hx220_0⟩ := Kd.at_int (Kd.R_reads' HO216.out).2.2 x5_1 p220 q220
                      cases e220
                      replace p220 := eq_true p220
                      replace q220 := eq_true q220
                      go_wp2
                      repeat (go_quiet (fail); try go_wp2)
                      go_meet
                      case rel => exact ⟨_, (true), (by first | rfl | (simp; done) | (simp [*]; done)), H', ⟨by have := HK1.out; first | omega | exact Nat.le_refl _⟩, ⟨by (with_reducible repeat (first | apply Kd.R_alloc | apply Kd.R_drewN | apply Kd.R_drew)); exact HO_4.out⟩, ⟨by (with_reducible repeat (first | apply Kd.R_alloc | apply Kd.R_drewN | apply Kd.R_drew)); exact Kd.R_mono HO216.out (fun _ hk => hk.2)⟩, ⟨by (with_reducible repeat (first | apply Kd.R_alloc | apply Kd.R_drewN | apply Kd.R_drew)); exact Kd.R_mono HO219.out (fun _ hk => hk.2)⟩, ⟨by repeat (first | (with_reducible first | exact HB.out | apply below_alloc | apply pw_below_drewN | apply below_drew1) | exact HB.out)⟩⟩
                  · rw [if_neg c16] at H
                    exact absurd H (by simp)
                · rw [if_neg c15] at H
                  exact absurd H (by simp)
              · rw [if_neg c14] at H
                have c14b0 : ((t217.length : Int) == t209) = false := beq_eq_false_iff_ne.mpr c14
                have c14b1 : ((t217.length : Int) != t209) = true := bne_iff_ne.mpr c14
                have H' := Aside0.mk H
                clear H
                obtain ⟨Ao30, co30, eo30⟩ := Kd.R_slice HO216.out
                subst eo30
                obtain ⟨Ao31, co31, eo31⟩ := Kd.R_slice HO219.out
                subst eo31
                go_wp2
                repeat (go_quiet (fail); try go_wp2)
                go_meet
                case rel => exact ⟨_, (true), (by first | rfl | (simp; done) | (simp [*]; done)), H', ⟨by have := HK1.out; first | omega | exact Nat.le_refl _⟩, ⟨by (with_reducible repeat (first | apply Kd.R_alloc | apply Kd.R_drewN | apply Kd.R_drew)); exact HO_4.out⟩, ⟨by (with_reducible repeat (first | apply Kd.R_alloc | apply Kd.R_drewN | apply Kd.R_drew)); exact Kd.R_mono HO216.out (fun _ hk => hk.2)⟩, ⟨by (with_reducible repeat (first | apply Kd.R_alloc | apply Kd.R_drewN | apply Kd.R_drew)); exact Kd.R_mono HO219.out (fun _ hk => hk.2)⟩, ⟨by repeat (first | (with_reducible first | exact HB.out | apply below_alloc | apply pw_below_drewN | apply below_drew1) | exact HB.out)⟩⟩
            · rw [if_neg c13] at H
              have c13b0 : ((t214.length : Int) == t209) = false := beq_eq_false_iff_ne.mpr c13
              have c13b1 : ((t214.length : Int) != t209) = true := bne_iff_ne.mpr c13
              (first | rw [c13b0] | (simp only [i64_w, i32_w]; rw [c13b0]) | skip)
              have H' := Aside0.mk H
              clear H
              obtain ⟨Ao32, co32, eo32⟩ := Kd.R_slice HO216.out
              subst eo32
              go_wp2
              repeat (go_quiet (fail); try go_wp2)
              go_meet
              case rel => exact ⟨_, (true), (by first | rfl | (simp; done) | (simp [*]; done)), H', ⟨by have := HK1.out; first | omega | exact Nat.le_refl _⟩, ⟨by (with_reducible repeat (first | apply Kd.R_alloc | apply Kd.R_drewN | apply Kd.R_drew)); exact HO_4.out⟩, ⟨by (with_reducible repeat (first | apply Kd.R_alloc | apply Kd.R_drewN | apply Kd.R_drew)); exact Kd.R_mono HO216.out (fun _ hk => hk.2)⟩, ⟨by (with_reducible repeat (first | apply Kd.R_alloc | apply Kd.R_drewN | apply Kd.R_drew)); exact Kd.R_mono HO219.out (fun _ hk => hk.2)⟩, ⟨by repeat (first | (with_reducible first | exact HB.out | apply below_alloc | apply pw_below_drewN | apply below_drew1) | exact HB.out)⟩⟩
          case rest =>
            clear HC9
            try clear c1
            try clear p2
            try clear q2
            try clear hx2
            try clear c3
            try clear c5
            try clear c6
            try clear c6b0
            try clear c13
            try clear c13b0
            try clear c13b1
            try clear c14
            try clear c14b0
            try clear c14b1
            try clear c15
            try clear c15b0
            try clear c16
            try clear c16b0
            try clear c17
            try clear c17b0
            try clear c17b1
            try clear c18
            try clear c18b0
            try clear c19
            try clear c19b0
            try clear c19b1
            try clear p22
            try clear q22
            try clear hx22
            try clear hx220_0
            try clear hx221_0
            try clear p2
            try clear p220
            try clear p221
            try clear q220
            try clear q221
            obtain ⟨kq, x63_8, rfl, HA, HJ8, HO_4, HO_6, HO_7, HB⟩ := hcut
            cases kq with
            | zero => exact absurd HA.out (by simp [laws_FnSites.j1])
            | succ kj8 =>
              have H := HA.out
              clear HA
              simp only [laws_FnSites.j1] at H
              by_cases c33 : x63_8 = true
              · subst c33
                have H1 : (some false) = some r := by rw [if_pos rfl] at H; exact H
                clear H
                have H := H1
                clear H1
                obtain rfl := Option.some.inj H
                go_wp2
                repeat (go_quiet (fail); try go_wp2)
                go_ret
                exact ⟨by first | rfl | (simp [errW_none, errW_some] <;> rfl) | (simp [*, errW_none, errW_some] <;> rfl), by repeat (first | (with_reducible first | exact HB.out | apply below_alloc | apply pw_below_drewN | apply below_drew1) | exact HB.out)⟩
              · replace c33 := Bool.eq_false_iff.mpr c33
                subst c33
                have H1 : (laws_FnSites.l1 kj8 t209 t210 x5_1 t214 t217 0) = some r := by rw [if_neg (show ¬ (false = true) by decide)] at H; exact H
                clear H
                have H := H1
                clear H1
                have H' := Aside0.mk H
                clear H
                go_wp2
                repeat (go_quiet (fail); try go_wp2)
                go_loopg [8] kj8 (fun kq v8 w' => ∃ (x8_3 : Int), v8 = .int .i64 x8_3 ∧ Aside0 (laws_FnSites.l1 kq t209 t210 x5_1 t214 t217 x8_3 = some r) ∧ Aside0 (kq ≤ kj8) ∧ Aside0 (Kd.R k38 38 w' w.heap.size (fun _ => True) (.slice Ao10 t210.length co10) t210) ∧ Aside0 (Kd.R (Kd.int .i64) 3 w' w.heap.size (fun k_ => some k_ ≠ (v218 : Value).ownBlock) v215 t214) ∧ Aside0 (Kd.R (Kd.int .i64) 3 w' w.heap.size (fun k_ => some k_ ≠ (v215 : Value).ownBlock) v218 t217) ∧ Aside0 (Below w.heap.size w w'))
                case atStart => exact ⟨(0), (by first | rfl | (simp; done) | (simp [*]; done)), H', ⟨Nat.le_refl _⟩, ⟨by (with_reducible repeat (first | apply Kd.R_alloc | apply Kd.R_drewN | apply Kd.R_drew)); exact HO_4.out⟩, ⟨by (with_reducible repeat (first | apply Kd.R_alloc | apply Kd.R_drewN | apply Kd.R_drew)); exact HO_6.out⟩, ⟨by (with_reducible repeat (first | apply Kd.R_alloc | apply Kd.R_drewN | apply Kd.R_drew)); exact HO_7.out⟩, ⟨by repeat (first | (with_reducible first | exact HB.out | apply below_alloc | apply pw_below_drewN | apply below_drew1) | exact HB.out)⟩⟩
                case round =>
                  clear H'
                  try clear c1
                  try clear p2
                  try clear q2
                  try clear hx2
                  try clear c3
                  try clear c5
                  try clear c6
                  try clear c6b0
                  try clear c13
                  try clear c13b0
                  try clear c13b1
                  try clear c14
                  try clear c14b0
                  try clear c14b1
                  try clear c15
                  try clear c15b0
                  try clear c16
                  try clear c16b0
                  try clear c17
                  try clear c17b0
                  try clear c17b1
                  try clear c18
                  try clear c18b0
                  try clear c19
                  try clear c19b0
                  try clear c19b1
                  try clear p22
                  try clear q22
                  try clear hx22
                  try clear c33
                  try clear hx220_0
                  try clear hx221_0
                  try clear p2
                  try clear p22
                  try clear p220
                  try clear p221
                  try clear q2
                  try clear q22
                  try clear q220
                  try clear q221
                  obtain ⟨x8_3, rfl, HA, HK3, HO_4, HO_6, HO_7, HB⟩ := hrel
                  cases gk with
                  | zero => exact absurd HA.out (by simp [laws_FnSites.l1])
                  | succ k3 =>
                    have H := HA.out
                    clear HA
                    simp only [laws_FnSites.l1] at H
                    by_cases c34 : x8_3 < (t210.length : Int)
                    · rw [if_pos c34] at H
                      have c34b0 : decide (x8_3 < (t210.length : Int)) = true := decide_eq_true c34
                      clear c34
                      by_cases c35 : 0 ≤ x8_3
                      · rw [if_pos c35] at H
                        have c35b0 : decide (0 ≤ x8_3) = true := decide_eq_true c35
                        clear c35
                        have HC36 := Aside0.mk H
                        clear H
                        have p226 : 0 ≤ (x8_3 : Int) := of_decide_eq_true (by first | (with_reducible assumption) | assumption)
                        have q226 : x8_3 < (t210.length : Int) := of_decide_eq_true (by first | (with_reducible assumption) | assumption)
                        obtain ⟨ad226, e226, hx226_0, hx226_1, hx226_2⟩ := at_T38 (Kd.R_reads' HO_4.out).2.2 x8_3 p226 q226
                        cases e226
                        replace p226 := eq_true p226
                        replace q226 := eq_true q226
                        go_upto_region 15 with (first | ((with_reducible refine gate_dst (N := 9) rfl ?_); (try (refine gate_guard (by rfl) ?_; dsimp only)); refine box_event ?hg (N := 9) ?hd (cs := #[.int .i64 0, .int .i64 0, .int .i64 0]) (t := 38) ?hr ?_; (case hd => rfl); (case hg => rfl); (case hr => first | (go_simp; done) | (go_simp; rfl)); intro gb227 hg w37 hbox hb; have n0_ := Aside0.mk (Kd.R_below (Kd.R_elderB (by (with_reducible repeat (first | apply Kd.R_alloc | apply Kd.R_drewN | apply Kd.R_drew)); exact HO_4.out) gb227 (Nat.le_of_eq hg.symm)) hb); have n1_ := Aside0.mk (Kd.R_below (by (with_reducible repeat (first | apply Kd.R_alloc | apply Kd.R_drewN | apply Kd.R_drew)); exact HO_6.out) hb); have n2_ := Aside0.mk (Kd.R_below (by (with_reducible repeat (first | apply Kd.R_alloc | apply Kd.R_drewN | apply Kd.R_drew)); exact HO_7.out) hb); have n3_ := Aside0.mk (below_step (by repeat (first | (with_reducible first | exact HB.out | apply below_alloc | apply pw_below_drewN | apply below_drew1) | exact HB.out)) hb); have n4_ := Aside0.mk (hbox); have n5_ := Aside0.mk ((by rw [hg]; exact (below_size (by repeat (first | (with_reducible first | exact HB.out | apply below_alloc | apply pw_below_drewN | apply below_drew1) | exact HB.out))) : w.heap.size ≤ gb227)); have n6_ := Aside0.mk ((by rw [hg]; exact (below_size (by repeat (first | (with_reducible first | exact HB.out | apply below_alloc | apply pw_below_drewN | apply below_drew1) | exact HB.out))) : w.heap.size ≤ gb227)); clear HO_4; clear HO_6; clear HO_7; clear HB; have HO_4 := n0_; have HO_6 := n1_; have HO_7 := n2_; have HB := n3_; have BK227 := n4_; have GW227 := n5_; have GE227 := n6_; clear n0_ n1_ n2_ n3_ n4_ n5_ n6_; clear hb hbox hg; have hcz38_0 : w37.cell? ⟨gb227, 0, none⟩ = some (.int .i64 0) := (blk_cell BK227.out 0).trans rfl; have hcz38_1 : w37.cell? ⟨gb227, 1, none⟩ = some (.int .i64 0) := (blk_cell BK227.out 1).trans rfl; have hcz38_2 : w37.cell? ⟨gb227, 2, none⟩ = some (.int .i64 0) := (blk_cell BK227.out 2).trans rfl; have hfz38_0 := blk_frozen BK227.out 0; have hfz38_1 := blk_frozen BK227.out 1; have hfz38_2 := blk_frozen BK227.out 2))
                        repeat (go_quiet (first | ((with_reducible refine gate_dst (N := 9) rfl ?_); (try (refine gate_guard (by rfl) ?_; dsimp only)); refine box_event ?hg (N := 9) ?hd (cs := #[.int .i64 0, .int .i64 0, .int .i64 0]) (t := 38) ?hr ?_; (case hd => rfl); (case hg => rfl); (case hr => first | (go_simp; done) | (go_simp; rfl)); intro gb227 hg w37 hbox hb; have n0_ := Aside0.mk (Kd.R_below (Kd.R_elderB (by (with_reducible repeat (first | apply Kd.R_alloc | apply Kd.R_drewN | apply Kd.R_drew)); exact HO_4.out) gb227 (Nat.le_of_eq hg.symm)) hb); have n1_ := Aside0.mk (Kd.R_below (by (with_reducible repeat (first | apply Kd.R_alloc | apply Kd.R_drewN | apply Kd.R_drew)); exact HO_6.out) hb); have n2_ := Aside0.mk (Kd.R_below (by (with_reducible repeat (first | apply Kd.R_alloc | apply Kd.R_drewN | apply Kd.R_drew)); exact HO_7.out) hb); have n3_ := Aside0.mk (below_step (by repeat (first | (with_reducible first | exact HB.out | apply below_alloc | apply pw_below_drewN | apply below_drew1) | exact HB.out)) hb); have n4_ := Aside0.mk (hbox); have n5_ := Aside0.mk ((by rw [hg]; exact (below_size (by repeat (first | (with_reducible first | exact HB.out | apply below_alloc | apply pw_below_drewN | apply below_drew1) | exact HB.out))) : w.heap.size ≤ gb227)); have n6_ := Aside0.mk ((by rw [hg]; exact (below_size (by repeat (first | (with_reducible first | exact HB.out | apply below_alloc | apply pw_below_drewN | apply below_drew1) | exact HB.out))) : w.heap.size ≤ gb227)); clear HO_4; clear HO_6; clear HO_7; clear HB; have HO_4 := n0_; have HO_6 := n1_; have HO_7 := n2_; have HB := n3_; have BK227 := n4_; have GW227 := n5_; have GE227 := n6_; clear n0_ n1_ n2_ n3_ n4_ n5_ n6_; clear hb hbox hg; have hcz38_0 : w37.cell? ⟨gb227, 0, none⟩ = some (.int .i64 0) := (blk_cell BK227.out 0).trans rfl; have hcz38_1 : w37.cell? ⟨gb227, 1, none⟩ = some (.int .i64 0) := (blk_cell BK227.out 1).trans rfl; have hcz38_2 : w37.cell? ⟨gb227, 2, none⟩ = some (.int .i64 0) := (blk_cell BK227.out 2).trans rfl; have hfz38_0 := blk_frozen BK227.out 0; have hfz38_1 := blk_frozen BK227.out 1; have hfz38_2 := blk_frozen BK227.out 2)); go_upto_region 15 with (first | ((with_reducible refine gate_dst (N := 9) rfl ?_); (try (refine gate_guard (by rfl) ?_; dsimp only)); refine box_event ?hg (N := 9) ?hd (cs := #[.int .i64 0, .int .i64 0, .int .i64 0]) (t := 38) ?hr ?_; (case hd => rfl); (case hg => rfl); (case hr => first | (go_simp; done) | (go_simp; rfl)); intro gb227 hg w37 hbox hb; have n0_ := Aside0.mk (Kd.R_below (Kd.R_elderB (by (with_reducible repeat (first | apply Kd.R_alloc | apply Kd.R_drewN | apply Kd.R_drew)); exact HO_4.out) gb227 (Nat.le_of_eq hg.symm)) hb); have n1_ := Aside0.mk (Kd.R_below (by (with_reducible repeat (first | apply Kd.R_alloc | apply Kd.R_drewN | apply Kd.R_drew)); exact HO_6.out) hb); have n2_ := Aside0.mk (Kd.R_below (by (with_reducible repeat (first | apply Kd.R_alloc | apply Kd.R_drewN | apply Kd.R_drew)); exact HO_7.out) hb); have n3_ := Aside0.mk (below_step (by repeat (first | (with_reducible first | exact HB.out | apply below_alloc | apply pw_below_drewN | apply below_drew1) | exact HB.out)) hb); have n4_ := Aside0.mk (hbox); have n5_ := Aside0.mk ((by rw [hg]; exact (below_size (by repeat (first | (with_reducible first | exact HB.out | apply below_alloc | apply pw_below_drewN | apply below_drew1) | exact HB.out))) : w.heap.size ≤ gb227)); have n6_ := Aside0.mk ((by rw [hg]; exact (below_size (by repeat (first | (with_reducible first | exact HB.out | apply below_alloc | apply pw_below_drewN | apply below_drew1) | exact HB.out))) : w.heap.size ≤ gb227)); clear HO_4; clear HO_6; clear HO_7; clear HB; have HO_4 := n0_; have HO_6 := n1_; have HO_7 := n2_; have HB := n3_; have BK227 := n4_; have GW227 := n5_; have GE227 := n6_; clear n0_ n1_ n2_ n3_ n4_ n5_ n6_; clear hb hbox hg; have hcz38_0 : w37.cell? ⟨gb227, 0, none⟩ = some (.int .i64 0) := (blk_cell BK227.out 0).trans rfl; have hcz38_1 : w37.cell? ⟨gb227, 1, none⟩ = some (.int .i64 0) := (blk_cell BK227.out 1).trans rfl; have hcz38_2 : w37.cell? ⟨gb227, 2, none⟩ = some (.int .i64 0) := (blk_cell BK227.out 2).trans rfl; have hfz38_0 := blk_frozen BK227.out 0; have hfz38_1 := blk_frozen BK227.out 1; have hfz38_2 := blk_frozen BK227.out 2)))
                        (try simp only [Act.put, List.setIfInBounds_toArray, List.set_cons_zero, List.set_cons_succ])
                        go_cut [126] (fun v126 wc => ∃ (kq : Nat) (x126_35 : Bool), v126 = .bool x126_35 ∧ Aside0 (laws_FnSites.j3 kq t209 t210 x5_1 t214 t217 x8_3 x126_35 ((rd_T38 t210 x8_3).f0) ((rd_T38 t210 x8_3).f1) ((rd_T38 t210 x8_3).f2) = some r) ∧ Aside0 (kq ≤ k3) ∧ Aside0 (Kd.R k38 38 wc w.heap.size (fun k_ => k_ ≠ gb227) (.slice (some ad226) t210.length co10) t210) ∧ Aside0 (Kd.R (Kd.int .i64) 3 wc w.heap.size (fun k_ => some k_ ≠ (v218 : Value).ownBlock) v215 t214) ∧ Aside0 (Kd.R (Kd.int .i64) 3 wc w.heap.size (fun k_ => some k_ ≠ (v215 : Value).ownBlock) v218 t217) ∧ Aside0 (wc.heap[gb227]? = some (.cells #[.int .i64 ((rd_T38 t210 x8_3).f0), .int .i64 ((rd_T38 t210 x8_3).f1), .int .i64 ((rd_T38 t210 x8_3).f2)] 38 (0, 0))) ∧ Aside0 (Below w.heap.size w wc))
                        case first =>
                          have H := HC36.out
                          clear HC36
                          by_cases c39 : 0 ≤ ((rd_T38 t210 x8_3).f0)
                          · rw [if_pos c39] at H
                            have c39b0 : decide (0 ≤ ((rd_T38 t210 x8_3).f0)) = true := decide_eq_true c39
                            clear c39
                            (first | rw [c39b0] | (simp only [i64_w, i32_w]; rw [c39b0]) | skip)
                            by_cases c40 : ((rd_T38 t210 x8_3).f0) < (t214.length : Int)
                            · rw [if_pos c40] at H
                              have c40b0 : decide (((rd_T38 t210 x8_3).f0) < (t214.length : Int)) = true := decide_eq_true c40
                              clear c40
                              by_cases c41 : 0 ≤ ((rd_T38 t210 x8_3).f1)
                              · rw [if_pos c41] at H
                                have c41b0 : decide (0 ≤ ((rd_T38 t210 x8_3).f1)) = true := decide_eq_true c41
                                clear c41
                                by_cases c42 : ((rd_T38 t210 x8_3).f1) < (t214.length : Int)
                                · rw [if_pos c42] at H
                                  have c42b0 : decide (((rd_T38 t210 x8_3).f1) < (t214.length : Int)) = true := decide_eq_true c42
                                  clear c42
                                  by_cases c43 : ((decide ((rd t214 ((rd_T38 t210 x8_3).f0)) < 0)) != (decide ((rd t214 ((rd_T38 t210 x8_3).f1)) < 0))) = true
                                  · rw [if_pos c43] at H
                                    have c43b0 : ((decide ((rd t214 ((rd_T38 t210 x8_3).f0)) < 0)) != (decide ((rd t214 ((rd_T38 t210 x8_3).f1)) < 0))) = true := c43
                                    (try (have c43b1 : decide ((decide ((rd t214 ((rd_T38 t210 x8_3).f0)) < 0)) = (decide ((rd t214 ((rd_T38 t210 x8_3).f1)) < 0))) = false := by simpa using c43))
                                    (try (have c43b2 : ((decide ((rd t214 ((rd_T38 t210 x8_3).f0)) < 0)) == (decide ((rd t214 ((rd_T38 t210 x8_3).f1)) < 0))) = false := by simpa using c43))
                                    (try (have c43b3 : ¬ ((decide ((rd t214 ((rd_T38 t210 x8_3).f0)) < 0)) = (decide ((rd t214 ((rd_T38 t210 x8_3).f1)) < 0))) := by simpa using c43))
                                    clear c43
                                    have H' := Aside0.mk H
                                    clear H
                                    have hcz44_0 : w37.cell? ⟨gb227, 0, none⟩ = some (.int .i64 0) := (blk_cell BK227.out 0).trans rfl
                                    have hcz44_1 : w37.cell? ⟨gb227, 1, none⟩ = some (.int .i64 0) := (blk_cell BK227.out 1).trans rfl
                                    have hcz44_2 : w37.cell? ⟨gb227, 2, none⟩ = some (.int .i64 0) := (blk_cell BK227.out 2).trans rfl
                                    have hfz44_0 := blk_frozen BK227.out 0
                                    have hfz44_1 := blk_frozen BK227.out 1
                                    have hfz44_2 := blk_frozen BK227.out 2
                                    obtain ⟨Ao45, co45, eo45⟩ := Kd.R_slice HO_6.out
                                    subst eo45
                                    have p228 : 0 ≤ (((rd_T38 t210 x8_3).f0) : Int) := of_decide_eq_true (by first | (with_reducible assumption) | assumption)
                                    have q228 : ((rd_T38 t210 x8_3).f0) < (t214.length : Int) := of_decide_eq_true (by first | (with_reducible assumption) | assumption)
                                    obtain ⟨ad228, e228, hx228_0⟩ := Kd.at_int (Kd.R_reads' HO_6.out).2.2 ((rd_T38 t210 x8_3).f0) p228 q228
                                    cases e228
                                    have hn228_0 : ad228.block ≠ gb227 := Kd.own_blk (Kd.R_ne HO_6.out BK227.out (by decide))
                                    have hn228_1 : ad228.block ≠ gb227 := Kd.own_blk (Kd.R_ne HO_6.out BK227.out (by decide))
                                    have hn228_2 : ad228.block ≠ gb227 := Kd.own_blk (Kd.R_ne HO_6.out BK227.out (by decide))
                                    replace hx228_0 := (cell_far (p := ⟨gb227, 0, none⟩) (by first | (rw [add_block]; exact hn228_0) | (show (Addr.add _ _).block ≠ _; rw [add_block]; exact hn228_0) | exact hn228_0) (.int .i64 ((rd_T38 t210 x8_3).f0))).trans hx228_0
                                    replace hx228_0 := (cell_far (p := ⟨gb227, 1, none⟩) (by first | (rw [add_block]; exact hn228_1) | (show (Addr.add _ _).block ≠ _; rw [add_block]; exact hn228_1) | exact hn228_1) (.int .i64 ((rd_T38 t210 x8_3).f1))).trans hx228_0
                                    replace hx228_0 := (cell_far (p := ⟨gb227, 2, none⟩) (by first | (rw [add_block]; exact hn228_2) | (show (Addr.add _ _).block ≠ _; rw [add_block]; exact hn228_2) | exact hn228_2) (.int .i64 ((rd_T38 t210 x8_3).f2))).trans hx228_0
                                    (try have hy228_0 := fun (n_ : Nat) => (show (((((w37.drewN n_).setCell ⟨gb227, 0, none⟩ (.int .i64 ((rd_T38 t210 x8_3).f0))).setCell ⟨gb227, 1, none⟩ (.int .i64 ((rd_T38 t210 x8_3).f1))).setCell ⟨gb227, 2, none⟩ (.int .i64 ((rd_T38 t210 x8_3).f2)))).cell? _ = some _ from hx228_0))
                                    clear hn228_0
                                    clear hn228_1
                                    clear hn228_2
                                    replace p228 := eq_true p228
                                    replace q228 := eq_true q228
                                    have p229 : 0 ≤ (((rd_T38 t210 x8_3).f1) : Int) := of_decide_eq_true (by first | (with_reducible assumption) | assumption)
                                    have q229 : ((rd_T38 t210 x8_3).f1) < (t214.length : Int) := of_decide_eq_true (by first | (with_reducible assumption) | assumption)
                                    obtain ⟨ad229, e229, hx229_0⟩ := Kd.at_int (Kd.R_reads' HO_6.out).2.2 ((rd_T38 t210 x8_3).f1) p229 q229
                                    obtain rfl : ad228 = ad229 := (by injection e229)
                                    have hn229_0 : ad228.block ≠ gb227 := Kd.own_blk (Kd.R_ne HO_6.out BK227.out (by decide))
                                    have hn229_1 : ad228.block ≠ gb227 := Kd.own_blk (Kd.R_ne HO_6.out BK227.out (by decide))
                                    have hn229_2 : ad228.block ≠ gb227 := Kd.own_blk (Kd.R_ne HO_6.out BK227.out (by decide))
                                    replace hx229_0 := (cell_far (p := ⟨gb227, 0, none⟩) (by first | (rw [add_block]; exact hn229_0) | (show (Addr.add _ _).block ≠ _; rw [add_block]; exact hn229_0) | exact hn229_0) (.int .i64 ((rd_T38 t210 x8_3).f0))).trans hx229_0
                                    replace hx229_0 := (cell_far (p := ⟨gb227, 1, none⟩) (by first | (rw [add_block]; exact hn229_1) | (show (Addr.add _ _).block ≠ _; rw [add_block]; exact hn229_1) | exact hn229_1) (.int .i64 ((rd_T38 t210 x8_3).f1))).trans hx229_0
                                    replace hx229_0 := (cell_far (p := ⟨gb227, 2, none⟩) (by first | (rw [add_block]; exact hn229_2) | (show (Addr.add _ _).block ≠ _; rw [add_block]; exact hn229_2) | exact hn229_2) (.int .i64 ((rd_T38 t210 x8_3).f2))).trans hx229_0
                                    (try have hy229_0 := fun (n_ : Nat) => (show (((((w37.drewN n_).setCell ⟨gb227, 0, none⟩ (.int .i64 ((rd_T38 t210 x8_3).f0))).setCell ⟨gb227, 1, none⟩ (.int .i64 ((rd_T38 t210 x8_3).f1))).setCell ⟨gb227, 2, none⟩ (.int .i64 ((rd_T38 t210 x8_3).f2)))).cell? _ = some _ from hx229_0))
                                    clear hn229_0
                                    clear hn229_1
                                    clear hn229_2
                                    replace p229 := eq_true p229
                                    replace q229 := eq_true q229
                                    go_wp2
                                    repeat (go_quiet (fail); try go_wp2)
                                    go_meet
                                    case rel => exact ⟨_, (true), (by first | rfl | (simp; done) | (simp [*]; done)), H', ⟨by have := HK1.out; have := HJ8.out; have := HK3.out; first | omega | exact Nat.le_refl _⟩, ⟨by (with_reducible repeat (first | apply Kd.R_alloc | apply Kd.R_drewN | apply Kd.R_drew)); exact Kd.R_mono (Kd.R_far (p := ⟨gb227, 2, none⟩) (Kd.R_far (p := ⟨gb227, 1, none⟩) (Kd.R_far (p := ⟨gb227, 0, none⟩) (Kd.R_mono HO_4.out (fun k_ hk => (⟨hk, hk.2⟩ : _ ∧ k_ ≠ gb227))) (fun _ hk => hk.2) (.int .i64 ((rd_T38 t210 x8_3).f0))) (fun _ hk => hk.2) (.int .i64 ((rd_T38 t210 x8_3).f1))) (fun _ hk => hk.2) (.int .i64 ((rd_T38 t210 x8_3).f2))) (fun _ hk => hk.1.2)⟩, ⟨by (with_reducible repeat (first | apply Kd.R_alloc | apply Kd.R_drewN | apply Kd.R_drew)); exact Kd.R_mono (Kd.R_far (p := ⟨gb227, 2, none⟩) (Kd.R_far (p := ⟨gb227, 1, none⟩) (Kd.R_far (p := ⟨gb227, 0, none⟩) (Kd.R_types HO_6.out BK227.out (by decide)) (fun _ hk => hk.2) (.int .i64 ((rd_T38 t210 x8_3).f0))) (fun _ hk => hk.2) (.int .i64 ((rd_T38 t210 x8_3).f1))) (fun _ hk => hk.2) (.int .i64 ((rd_T38 t210 x8_3).f2))) (fun _ hk => hk.1)⟩, ⟨by (with_reducible repeat (first | apply Kd.R_alloc | apply Kd.R_drewN | apply Kd.R_drew)); exact Kd.R_mono (Kd.R_far (p := ⟨gb227, 2, none⟩) (Kd.R_far (p := ⟨gb227, 1, none⟩) (Kd.R_far (p := ⟨gb227, 0, none⟩) (Kd.R_types HO_7.out BK227.out (by decide)) (fun _ hk => hk.2) (.int .i64 ((rd_T38 t210 x8_3).f0))) (fun _ hk => hk.2) (.int .i64 ((rd_T38 t210 x8_3).f1))) (fun _ hk => hk.2) (.int .i64 ((rd_T38 t210 x8_3).f2))) (fun _ hk => hk.1)⟩, ⟨by (with_reducible repeat (first | refine blk_drewN ?_ _ | refine blk_drew ?_ | refine blk_alloc ?_ _)); refine blk_put (cs := #[.int .i64 ((rd_T38 t210 x8_3).f0), .int .i64 ((rd_T38 t210 x8_3).f1), .int .i64 0]) ?_ 2 _ rfl; (with_reducible repeat (first | refine blk_drewN ?_ _ | refine blk_drew ?_ | refine blk_alloc ?_ _)); refine blk_put (cs := #[.int .i64 ((rd_T38 t210 x8_3).f0), .int .i64 0, .int .i64 0]) ?_ 1 _ rfl; (with_reducible repeat (first | refine blk_drewN ?_ _ | refine blk_drew ?_ | refine blk_alloc ?_ _)); refine blk_put (cs := #[.int .i64 0, .int .i64 0, .int .i64 0]) ?_ 0 _ rfl; (with_reducible repeat (first | refine blk_drewN ?_ _ | refine blk_drew ?_ | refine blk_alloc ?_ _)); exact BK227.out⟩, ⟨by repeat (first | (with_reducible first | exact HB.out | apply below_alloc | apply pw_below_drewN | apply below_drew1 | refine below_set ?_ GE227.out) | exact HB.out)⟩⟩
                                  · rw [if_neg c43] at H
                                    have c43b0 : ((decide ((rd t214 ((rd_T38 t210 x8_3).f0)) < 0)) != (decide ((rd t214 ((rd_T38 t210 x8_3).f1)) < 0))) = false := by simpa using c43
                                    (try (have c43b1 : decide ((decide ((rd t214 ((rd_T38 t210 x8_3).f0)) < 0)) = (decide ((rd t214 ((rd_T38 t210 x8_3).f1)) < 0))) = true := by simpa using c43))
                                    (try (have c43b2 : ((decide ((rd t214 ((rd_T38 t210 x8_3).f0)) < 0)) == (decide ((rd t214 ((rd_T38 t210 x8_3).f1)) < 0))) = true := by simpa using c43))
                                    clear c43
                                    by_cases c46 : (rd t214 ((rd_T38 t210 x8_3).f0)) ≥ 0
                                    · rw [if_pos c46] at H
                                      have c46b0 : decide (0 ≤ (rd t214 ((rd_T38 t210 x8_3).f0))) = true := decide_eq_true c46
                                      clear c46
                                      by_cases c47 : (rd t214 ((rd_T38 t210 x8_3).f1)) > (wrap64 ((rd t214 ((rd_T38 t210 x8_3).f0)) + ((rd_T38 t210 x8_3).f2)))
                                      · rw [if_pos c47] at H
                                        have c47b0 : decide ((wrap64 ((rd t214 ((rd_T38 t210 x8_3).f0)) + ((rd_T38 t210 x8_3).f2))) < (rd t214 ((rd_T38 t210 x8_3).f1))) = true := decide_eq_true c47
                                        clear c47
                                        have H' := Aside0.mk H
                                        clear H
                                        have hcz48_0 : w37.cell? ⟨gb227, 0, none⟩ = some (.int .i64 0) := (blk_cell BK227.out 0).trans rfl
                                        have hcz48_1 : w37.cell? ⟨gb227, 1, none⟩ = some (.int .i64 0) := (blk_cell BK227.out 1).trans rfl
                                        have hcz48_2 : w37.cell? ⟨gb227, 2, none⟩ = some (.int .i64 0) := (blk_cell BK227.out 2).trans rfl
                                        have hfz48_0 := blk_frozen BK227.out 0
                                        have hfz48_1 := blk_frozen BK227.out 1
                                        have hfz48_2 := blk_frozen BK227.out 2
                                        obtain ⟨Ao49, co49, eo49⟩ := Kd.R_slice HO_6.out
                                        subst eo49
                                        have p228 : 0 ≤ (((rd_T38 t210 x8_3).f0) : Int) := of_decide_eq_true (by first | (with_reducible assumption) | assumption)
                                        have q228 : ((rd_T38 t210 x8_3).f0) < (t214.length : Int) := of_decide_eq_true (by first | (with_reducible assumption) | assumption)
                                        obtain ⟨ad228, e228, hx228_0⟩ := Kd.at_int (Kd.R_reads' HO_6.out).2.2 ((rd_T38 t210 x8_3).f0) p228 q228
                                        cases e228
                                        have hn228_0 : ad228.block ≠ gb227 := Kd.own_blk (Kd.R_ne HO_6.out BK227.out (by decide))
                                        have hn228_1 : ad228.block ≠ gb227 := Kd.own_blk (Kd.R_ne HO_6.out BK227.out (by decide))
                                        have hn228_2 : ad228.block ≠ gb227 := Kd.own_blk (Kd.R_ne HO_6.out BK227.out (by decide))
                                        replace hx228_0 := (cell_far (p := ⟨gb227, 0, none⟩) (by first | (rw [add_block]; exact hn228_0) | (show (Addr.add _ _).block ≠ _; rw [add_block]; exact hn228_0) | exact hn228_0) (.int .i64 ((rd_T38 t210 x8_3).f0))).trans hx228_0
                                        replace hx228_0 := (cell_far (p := ⟨gb227, 1, none⟩) (by first | (rw [add_block]; exact hn228_1) | (show (Addr.add _ _).block ≠ _; rw [add_block]; exact hn228_1) | exact hn228_1) (.int .i64 ((rd_T38 t210 x8_3).f1))).trans hx228_0
                                        replace hx228_0 := (cell_far (p := ⟨gb227, 2, none⟩) (by first | (rw [add_block]; exact hn228_2) | (show (Addr.add _ _).block ≠ _; rw [add_block]; exact hn228_2) | exact hn228_2) (.int .i64 ((rd_T38 t210 x8_3).f2))).trans hx228_0
                                        (try have hy228_0 := fun (n_ : Nat) => (show (((((w37.drewN n_).setCell ⟨gb227, 0, none⟩ (.int .i64 ((rd_T38 t210 x8_3).f0))).setCell ⟨gb227, 1, none⟩ (.int .i64 ((rd_T38 t210 x8_3).f1))).setCell ⟨gb227, 2, none⟩ (.int .i64 ((rd_T38 t210 x8_3).f2)))).cell? _ = some _ from hx228_0))
                                        clear hn228_0
                                        clear hn228_1
                                        clear hn228_2
                                        replace p228 := eq_true p228
                                        replace q228 := eq_true q228
                                        have p229 : 0 ≤ (((rd_T38 t210 x8_3).f1) : Int) := of_decide_eq_true (by first | (with_reducible assumption) | assumption)
                                        have q229 : ((rd_T38 t210 x8_3).f1) < (t214.length : Int) := of_decide_eq_true (by first | (with_reducible assumption) | assumption)
                                        obtain ⟨ad229, e229, hx229_0⟩ := Kd.at_int (Kd.R_reads' HO_6.out).2.2 ((rd_T38 t210 x8_3).f1) p229 q229
                                        obtain rfl : ad228 = ad229 := (by injection e229)
                                        have hn229_0 : ad228.block ≠ gb227 := Kd.own_blk (Kd.R_ne HO_6.out BK227.out (by decide))
                                        have hn229_1 : ad228.block ≠ gb227 := Kd.own_blk (Kd.R_ne HO_6.out BK227.out (by decide))
                                        have hn229_2 : ad228.block ≠ gb227 := Kd.own_blk (Kd.R_ne HO_6.out BK227.out (by decide))
                                        replace hx229_0 := (cell_far (p := ⟨gb227, 0, none⟩) (by first | (rw [add_block]; exact hn229_0) | (show (Addr.add _ _).block ≠ _; rw [add_block]; exact hn229_0) | exact hn229_0) (.int .i64 ((rd_T38 t210 x8_3).f0))).trans hx229_0
                                        replace hx229_0 := (cell_far (p := ⟨gb227, 1, none⟩) (by first | (rw [add_block]; exact hn229_1) | (show (Addr.add _ _).block ≠ _; rw [add_block]; exact hn229_1) | exact hn229_1) (.int .i64 ((rd_T38 t210 x8_3).f1))).trans hx229_0
                                        replace hx229_0 := (cell_far (p := ⟨gb227, 2, none⟩) (by first | (rw [add_block]; exact hn229_2) | (show (Addr.add _ _).block ≠ _; rw [add_block]; exact hn229_2) | exact hn229_2) (.int .i64 ((rd_T38 t210 x8_3).f2))).trans hx229_0
                                        (try have hy229_0 := fun (n_ : Nat) => (show (((((w37.drewN n_).setCell ⟨gb227, 0, none⟩ (.int .i64 ((rd_T38 t210 x8_3).f0))).setCell ⟨gb227, 1, none⟩ (.int .i64 ((rd_T38 t210 x8_3).f1))).setCell ⟨gb227, 2, none⟩ (.int .i64 ((rd_T38 t210 x8_3).f2)))).cell? _ = some _ from hx229_0))
                                        clear hn229_0
                                        clear hn229_1
                                        clear hn229_2
                                        replace p229 := eq_true p229
                                        replace q229 := eq_true q229
                                        have p230 : 0 ≤ (((rd_T38 t210 x8_3).f0) : Int) := of_decide_eq_true (by first | (with_reducible assumption) | assumption)
                                        have q230 : ((rd_T38 t210 x8_3).f0) < (t214.length : Int) := of_decide_eq_true (by first | (with_reducible assumption) | assumption)
                                        obtain ⟨ad230, e230, hx230_0⟩ := Kd.at_int (Kd.R_reads' HO_6.out).2.2 ((rd_T38 t210 x8_3).f0) p230 q230
                                        obtain rfl : ad228 = ad230 := (by injection e230)
                                        have hn230_0 : ad228.block ≠ gb227 := Kd.own_blk (Kd.R_ne HO_6.out BK227.out (by decide))
                                        have hn230_1 : ad228.block ≠ gb227 := Kd.own_blk (Kd.R_ne HO_6.out BK227.out (by decide))
                                        have hn230_2 : ad228.block ≠ gb227 := Kd.own_blk (Kd.R_ne HO_6.out BK227.out (by decide))
                                        replace hx230_0 := (cell_far (p := ⟨gb227, 0, none⟩) (by first | (rw [add_block]; exact hn230_0) | (show (Addr.add _ _).block ≠ _; rw [add_block]; exact hn230_0) | exact hn230_0) (.int .i64 ((rd_T38 t210 x8_3).f0))).trans hx230_0
                                        replace hx230_0 := (cell_far (p := ⟨gb227, 1, none⟩) (by first | (rw [add_block]; exact hn230_1) | (show (Addr.add _ _).block ≠ _; rw [add_block]; exact hn230_1) | exact hn230_1) (.int .i64 ((rd_T38 t210 x8_3).f1))).trans hx230_0
                                        replace hx230_0 := (cell_far (p := ⟨gb227, 2, none⟩) (by first | (rw [add_block]; exact hn230_2) | (show (Addr.add _ _).block ≠ _; rw [add_block]; exact hn230_2) | exact hn230_2) (.int .i64 ((rd_T38 t210 x8_3).f2))).trans hx230_0
                                        (try have hy230_0 := fun (n_ : Nat) => (show (((((w37.drewN n_).setCell ⟨gb227, 0, none⟩ (.int .i64 ((rd_T38 t210 x8_3).f0))).setCell ⟨gb227, 1, none⟩ (.int .i64 ((rd_T38 t210 x8_3).f1))).setCell ⟨gb227, 2, none⟩ (.int .i64 ((rd_T38 t210 x8_3).f2)))).cell? _ = some _ from hx230_0))
                                        clear hn230_0
                                        clear hn230_1
                                        clear hn230_2
                                        replace p230 := eq_true p230
                                        replace q230 := eq_true q230
                                        have p231 : 0 ≤ (((rd_T38 t210 x8_3).f1) : Int) := of_decide_eq_true (by first | (with_reducible assumption) | assumption)
                                        have q231 : ((rd_T38 t210 x8_3).f1) < (t214.length : Int) := of_decide_eq_true (by first | (with_reducible assumption) | assumption)
                                        obtain ⟨ad231, e231, hx231_0⟩ := Kd.at_int (Kd.R_reads' HO_6.out).2.2 ((rd_T38 t210 x8_3).f1) p231 q231
                                        obtain rfl : ad228 = ad231 := (by injection e231)
                                        have hn231_0 : ad228.block ≠ gb227 := Kd.own_blk (Kd.R_ne HO_6.out BK227.out (by decide))
                                        have hn231_1 : ad228.block ≠ gb227 := Kd.own_blk (Kd.R_ne HO_6.out BK227.out (by decide))
                                        have hn231_2 : ad228.block ≠ gb227 := Kd.own_blk (Kd.R_ne HO_6.out BK227.out (by decide))
                                        replace hx231_0 := (cell_far (p := ⟨gb227, 0, none⟩) (by first | (rw [add_block]; exact hn231_0) | (show (Addr.add _ _).block ≠ _; rw [add_block]; exact hn231_0) | exact hn231_0) (.int .i64 ((rd_T38 t210 x8_3).f0))).trans hx231_0
                                        replace hx231_0 := (cell_far (p := ⟨gb227, 1, none⟩) (by first | (rw [add_block]; exact hn231_1) | (show (Addr.add _ _).block ≠ _; rw [add_block]; exact hn231_1) | exact hn231_1) (.int .i64 ((rd_T38 t210 x8_3).f1))).trans hx231_0
                                        replace hx231_0 := (cell_far (p := ⟨gb227, 2, none⟩) (by first | (rw [add_block]; exact hn231_2) | (show (Addr.add _ _).block ≠ _; rw [add_block]; exact hn231_2) | exact hn231_2) (.int .i64 ((rd_T38 t210 x8_3).f2))).trans hx231_0
                                        (try have hy231_0 := fun (n_ : Nat) => (show (((((w37.drewN n_).setCell ⟨gb227, 0, none⟩ (.int .i64 ((rd_T38 t210 x8_3).f0))).setCell ⟨gb227, 1, none⟩ (.int .i64 ((rd_T38 t210 x8_3).f1))).setCell ⟨gb227, 2, none⟩ (.int .i64 ((rd_T38 t210 x8_3).f2)))).cell? _ = some _ from hx231_0))
                                        clear hn231_0
                                        clear hn231_1
                                        clear hn231_2
                                        replace p231 := eq_true p231
                                        replace q231 := eq_true q231
                                        have p232 : 0 ≤ (((rd_T38 t210 x8_3).f0) : Int) := of_decide_eq_true (by first | (with_reducible assumption) | assumption)
                                        have q232 : ((rd_T38 t210 x8_3).f0) < (t214.length : Int) := of_decide_eq_true (by first | (with_reducible assumption) | assumption)
                                        obtain ⟨ad232, e232, hx232_0⟩ := Kd.at_int (Kd.R_reads' HO_6.out).2.2 ((rd_T38 t210 x8_3).f0) p232 q232
                                        obtain rfl : ad228 = ad232 := (by injection e232)
                                        have hn232_0 : ad228.block ≠ gb227 := Kd.own_blk (Kd.R_ne HO_6.out BK227.out (by decide))
                                        have hn232_1 : ad228.block ≠ gb227 := Kd.own_blk (Kd.R_ne HO_6.out BK227.out (by decide))
                                        have hn232_2 : ad228.block ≠ gb227 := Kd.own_blk (Kd.R_ne HO_6.out BK227.out (by decide))
                                        replace hx232_0 := (cell_far (p := ⟨gb227, 0, none⟩) (by first | (rw [add_block]; exact hn232_0) | (show (Addr.add _ _).block ≠ _; rw [add_block]; exact hn232_0) | exact hn232_0) (.int .i64 ((rd_T38 t210 x8_3).f0))).trans hx232_0
                                        replace hx232_0 := (cell_far (p := ⟨gb227, 1, none⟩) (by first | (rw [add_block]; exact hn232_1) | (show (Addr.add _ _).block ≠ _; rw [add_block]; exact hn232_1) | exact hn232_1) (.int .i64 ((rd_T38 t210 x8_3).f1))).trans hx232_0
                                        replace hx232_0 := (cell_far (p := ⟨gb227, 2, none⟩) (by first | (rw [add_block]; exact hn232_2) | (show (Addr.add _ _).block ≠ _; rw [add_block]; exact hn232_2) | exact hn232_2) (.int .i64 ((rd_T38 t210 x8_3).f2))).trans hx232_0
                                        (try have hy232_0 := fun (n_ : Nat) => (show (((((w37.drewN n_).setCell ⟨gb227, 0, none⟩ (.int .i64 ((rd_T38 t210 x8_3).f0))).setCell ⟨gb227, 1, none⟩ (.int .i64 ((rd_T38 t210 x8_3).f1))).setCell ⟨gb227, 2, none⟩ (.int .i64 ((rd_T38 t210 x8_3).f2)))).cell? _ = some _ from hx232_0))
                                        clear hn232_0
                                        clear hn232_1
                                        clear hn232_2
                                        replace p232 := eq_true p232
                                        replace q232 := eq_true q232
                                        go_wp2
                                        repeat (go_quiet (fail); try go_wp2)
                                        go_meet
                                        case rel => exact ⟨_, (true), (by first | rfl | (simp; done) | (simp [*]; done)), H', ⟨by have := HK1.out; have := HJ8.out; have := HK3.out; first | omega | exact Nat.le_refl _⟩, ⟨by (with_reducible repeat (first | apply Kd.R_alloc | apply Kd.R_drewN | apply Kd.R_drew)); exact Kd.R_mono (Kd.R_far (p := ⟨gb227, 2, none⟩) (Kd.R_far (p := ⟨gb227, 1, none⟩) (Kd.R_far (p := ⟨gb227, 0, none⟩) (Kd.R_mono HO_4.out (fun k_ hk => (⟨hk, hk.2⟩ : _ ∧ k_ ≠ gb227))) (fun _ hk => hk.2) (.int .i64 ((rd_T38 t210 x8_3).f0))) (fun _ hk => hk.2) (.int .i64 ((rd_T38 t210 x8_3).f1))) (fun _ hk => hk.2) (.int .i64 ((rd_T38 t210 x8_3).f2))) (fun _ hk => hk.1.2)⟩, ⟨by (with_reducible repeat (first | apply Kd.R_alloc | apply Kd.R_drewN | apply Kd.R_drew)); exact Kd.R_mono (Kd.R_far (p := ⟨gb227, 2, none⟩) (Kd.R_far (p := ⟨gb227, 1, none⟩) (Kd.R_far (p := ⟨gb227, 0, none⟩) (Kd.R_types HO_6.out BK227.out (by decide)) (fun _ hk => hk.2) (.int .i64 ((rd_T38 t210 x8_3).f0))) (fun _ hk => hk.2) (.int .i64 ((rd_T38 t210 x8_3).f1))) (fun _ hk => hk.2) (.int .i64 ((rd_T38 t210 x8_3).f2))) (fun _ hk => hk.1)⟩, ⟨by (with_reducible repeat (first | apply Kd.R_alloc | apply Kd.R_drewN | apply Kd.R_drew)); exact Kd.R_mono (Kd.R_far (p := ⟨gb227, 2, none⟩) (Kd.R_far (p := ⟨gb227, 1, none⟩) (Kd.R_far (p := ⟨gb227, 0, none⟩) (Kd.R_types HO_7.out BK227.out (by decide)) (fun _ hk => hk.2) (.int .i64 ((rd_T38 t210 x8_3).f0))) (fun _ hk => hk.2) (.int .i64 ((rd_T38 t210 x8_3).f1))) (fun _ hk => hk.2) (.int .i64 ((rd_T38 t210 x8_3).f2))) (fun _ hk => hk.1)⟩, ⟨by (with_reducible repeat (first | refine blk_drewN ?_ _ | refine blk_drew ?_ | refine blk_alloc ?_ _)); refine blk_put (cs := #[.int .i64 ((rd_T38 t210 x8_3).f0), .int .i64 ((rd_T38 t210 x8_3).f1), .int .i64 0]) ?_ 2 _ rfl; (with_reducible repeat (first | refine blk_drewN ?_ _ | refine blk_drew ?_ | refine blk_alloc ?_ _)); refine blk_put (cs := #[.int .i64 ((rd_T38 t210 x8_3).f0), .int .i64 0, .int .i64 0]) ?_ 1 _ rfl; (with_reducible repeat (first | refine blk_drewN ?_ _ | refine blk_drew ?_ | refine blk_alloc ?_ _)); refine blk_put (cs := #[.int .i64 0, .int .i64 0, .int .i64 0]) ?_ 0 _ rfl; (with_reducible repeat (first | refine blk_drewN ?_ _ | refine blk_drew ?_ | refine blk_alloc ?_ _)); exact BK227.out⟩, ⟨by repeat (first | (with_reducible first | exact HB.out | apply below_alloc | apply pw_below_drewN | apply below_drew1 | refine below_set ?_ GE227.out) | exact HB.out)⟩⟩
                                      · rw [if_neg c47] at H
                                        have c47b0 : decide ((wrap64 ((rd t214 ((rd_T38 t210 x8_3).f0)) + ((rd_T38 t210 x8_3).f2))) < (rd t214 ((rd_T38 t210 x8_3).f1))) = false := decide_eq_false c47
                                        clear c47
                                        have H' := Aside0.mk H
                                        clear H
                                        have hcz50_0 : w37.cell? ⟨gb227, 0, none⟩ = some (.int .i64 0) := (blk_cell BK227.out 0).trans rfl
                                        have hcz50_1 : w37.cell? ⟨gb227, 1, none⟩ = some (.int .i64 0) := (blk_cell BK227.out 1).trans rfl
                                        have hcz50_2 : w37.cell? ⟨gb227, 2, none⟩ = some (.int .i64 0) := (blk_cell BK227.out 2).trans rfl
                                        have hfz50_0 := blk_frozen BK227.out 0
                                        have hfz50_1 := blk_frozen BK227.out 1
                                        have hfz50_2 := blk_frozen BK227.out 2
                                        obtain ⟨Ao51, co51, eo51⟩ := Kd.R_slice HO_6.out
                                        subst eo51
                                        have p228 : 0 ≤ (((rd_T38 t210 x8_3).f0) : Int) := of_decide_eq_true (by first | (with_reducible assumption) | assumption)
                                        have q228 : ((rd_T38 t210 x8_3).f0) < (t214.length : Int) := of_decide_eq_true (by first | (with_reducible assumption) | assumption)
                                        obtain ⟨ad228, e228, hx228_0⟩ := Kd.at_int (Kd.R_reads' HO_6.out).2.2 ((rd_T38 t210 x8_3).f0) p228 q228
                                        cases e228
                                        have hn228_0 : ad228.block ≠ gb227 := Kd.own_blk (Kd.R_ne HO_6.out BK227.out (by decide))
                                        have hn228_1 : ad228.block ≠ gb227 := Kd.own_blk (Kd.R_ne HO_6.out BK227.out (by decide))
                                        have hn228_2 : ad228.block ≠ gb227 := Kd.own_blk (Kd.R_ne HO_6.out BK227.out (by decide))
                                        replace hx228_0 := (cell_far (p := ⟨gb227, 0, none⟩) (by first | (rw [add_block]; exact hn228_0) | (show (Addr.add _ _).block ≠ _; rw [add_block]; exact hn228_0) | exact hn228_0) (.int .i64 ((rd_T38 t210 x8_3).f0))).trans hx228_0
                                        replace hx228_0 := (cell_far (p := ⟨gb227, 1, none⟩) (by first | (rw [add_block]; exact hn228_1) | (show (Addr.add _ _).block ≠ _; rw [add_block]; exact hn228_1) | exact hn228_1) (.int .i64 ((rd_T38 t210 x8_3).f1))).trans hx228_0
                                        replace hx228_0 := (cell_far (p := ⟨gb227, 2, none⟩) (by first | (rw [add_block]; exact hn228_2) | (show (Addr.add _ _).block ≠ _; rw [add_block]; exact hn228_2) | exact hn228_2) (.int .i64 ((rd_T38 t210 x8_3).f2))).trans hx228_0
                                        (try have hy228_0 := fun (n_ : Nat) => (show (((((w37.drewN n_).setCell ⟨gb227, 0, none⟩ (.int .i64 ((rd_T38 t210 x8_3).f0))).setCell ⟨gb227, 1, none⟩ (.int .i64 ((rd_T38 t210 x8_3).f1))).setCell ⟨gb227, 2, none⟩ (.int .i64 ((rd_T38 t210 x8_3).f2)))).cell? _ = some _ from hx228_0))
                                        clear hn228_0
                                        clear hn228_1
                                        clear hn228_2
                                        replace p228 := eq_true p228
                                        replace q228 := eq_true q228
                                        have p229 : 0 ≤ (((rd_T38 t210 x8_3).f1) : Int) := of_decide_eq_true (by first | (with_reducible assumption) | assumption)
                                        have q229 : ((rd_T38 t210 x8_3).f1) < (t214.length : Int) := of_decide_eq_true (by first | (with_reducible assumption) | assumption)
                                        obtain ⟨ad229, e229, hx229_0⟩ := Kd.at_int (Kd.R_reads' HO_6.out).2.2 ((rd_T38 t210 x8_3).f1) p229 q229
                                        obtain rfl : ad228 = ad229 := (by injection e229)
                                        have hn229_0 : ad228.block ≠ gb227 := Kd.own_blk (Kd.R_ne HO_6.out BK227.out (by decide))
                                        have hn229_1 : ad228.block ≠ gb227 := Kd.own_blk (Kd.R_ne HO_6.out BK227.out (by decide))
                                        have hn229_2 : ad228.block ≠ gb227 := Kd.own_blk (Kd.R_ne HO_6.out BK227.out (by decide))
                                        replace hx229_0 := (cell_far (p := ⟨gb227, 0, none⟩) (by first | (rw [add_block]; exact hn229_0) | (show (Addr.add _ _).block ≠ _; rw [add_block]; exact hn229_0) | exact hn229_0) (.int .i64 ((rd_T38 t210 x8_3).f0))).trans hx229_0
                                        replace hx229_0 := (cell_far (p := ⟨gb227, 1, none⟩) (by first | (rw [add_block]; exact hn229_1) | (show (Addr.add _ _).block ≠ _; rw [add_block]; exact hn229_1) | exact hn229_1) (.int .i64 ((rd_T38 t210 x8_3).f1))).trans hx229_0
                                        replace hx229_0 := (cell_far (p := ⟨gb227, 2, none⟩) (by first | (rw [add_block]; exact hn229_2) | (show (Addr.add _ _).block ≠ _; rw [add_block]; exact hn229_2) | exact hn229_2) (.int .i64 ((rd_T38 t210 x8_3).f2))).trans hx229_0
                                        (try have hy229_0 := fun (n_ : Nat) => (show (((((w37.drewN n_).setCell ⟨gb227, 0, none⟩ (.int .i64 ((rd_T38 t210 x8_3).f0))).setCell ⟨gb227, 1, none⟩ (.int .i64 ((rd_T38 t210 x8_3).f1))).setCell ⟨gb227, 2, none⟩ (.int .i64 ((rd_T38 t210 x8_3).f2)))).cell? _ = some _ from hx229_0))
                                        clear hn229_0
                                        clear hn229_1
                                        clear hn229_2
                                        replace p229 := eq_true p229
                                        replace q229 := eq_true q229
                                        have p230 : 0 ≤ (((rd_T38 t210 x8_3).f0) : Int) := of_decide_eq_true (by first | (with_reducible assumption) | assumption)
                                        have q230 : ((rd_T38 t210 x8_3).f0) < (t214.length : Int) := of_decide_eq_true (by first | (with_reducible assumption) | assumption)
                                        obtain ⟨ad230, e230, hx230_0⟩ := Kd.at_int (Kd.R_reads' HO_6.out).2.2 ((rd_T38 t210 x8_3).f0) p230 q230
                                        obtain rfl : ad228 = ad230 := (by injection e230)
                                        have hn230_0 : ad228.block ≠ gb227 := Kd.own_blk (Kd.R_ne HO_6.out BK227.out (by decide))
                                        have hn230_1 : ad228.block ≠ gb227 := Kd.own_blk (Kd.R_ne HO_6.out BK227.out (by decide))
                                        have hn230_2 : ad228.block ≠ gb227 := Kd.own_blk (Kd.R_ne HO_6.out BK227.out (by decide))
                                        replace hx230_0 := (cell_far (p := ⟨gb227, 0, none⟩) (by first | (rw [add_block]; exact hn230_0) | (show (Addr.add _ _).block ≠ _; rw [add_block]; exact hn230_0) | exact hn230_0) (.int .i64 ((rd_T38 t210 x8_3).f0))).trans hx230_0
                                        replace hx230_0 := (cell_far (p := ⟨gb227, 1, none⟩) (by first | (rw [add_block]; exact hn230_1) | (show (Addr.add _ _).block ≠ _; rw [add_block]; exact hn230_1) | exact hn230_1) (.int .i64 ((rd_T38 t210 x8_3).f1))).trans hx230_0
                                        replace hx230_0 := (cell_far (p := ⟨gb227, 2, none⟩) (by first | (rw [add_block]; exact hn230_2) | (show (Addr.add _ _).block ≠ _; rw [add_block]; exact hn230_2) | exact hn230_2) (.int .i64 ((rd_T38 t210 x8_3).f2))).trans hx230_0
                                        (try have hy230_0 := fun (n_ : Nat) => (show (((((w37.drewN n_).setCell ⟨gb227, 0, none⟩ (.int .i64 ((rd_T38 t210 x8_3).f0))).setCell ⟨gb227, 1, none⟩ (.int .i64 ((rd_T38 t210 x8_3).f1))).setCell ⟨gb227, 2, none⟩ (.int .i64 ((rd_T38 t210 x8_3).f2)))).cell? _ = some _ from hx230_0))
                                        clear hn230_0
                                        clear hn230_1
                                        clear hn230_2
                                        replace p230 := eq_true p230
                                        replace q230 := eq_true q230
                                        have p231 : 0 ≤ (((rd_T38 t210 x8_3).f1) : Int) := of_decide_eq_true (by first | (with_reducible assumption) | assumption)
                                        have q231 : ((rd_T38 t210 x8_3).f1) < (t214.length : Int) := of_decide_eq_true (by first | (with_reducible assumption) | assumption)
                                        obtain ⟨ad231, e231, hx231_0⟩ := Kd.at_int (Kd.R_reads' HO_6.out).2.2 ((rd_T38 t210 x8_3).f1) p231 q231
                                        obtain rfl : ad228 = ad231 := (by injection e231)
                                        have hn231_0 : ad228.block ≠ gb227 := Kd.own_blk (Kd.R_ne HO_6.out BK227.out (by decide))
                                        have hn231_1 : ad228.block ≠ gb227 := Kd.own_blk (Kd.R_ne HO_6.out BK227.out (by decide))
                                        have hn231_2 : ad228.block ≠ gb227 := Kd.own_blk (Kd.R_ne HO_6.out BK227.out (by decide))
                                        replace hx231_0 := (cell_far (p := ⟨gb227, 0, none⟩) (by first | (rw [add_block]; exact hn231_0) | (show (Addr.add _ _).block ≠ _; rw [add_block]; exact hn231_0) | exact hn231_0) (.int .i64 ((rd_T38 t210 x8_3).f0))).trans hx231_0
                                        replace hx231_0 := (cell_far (p := ⟨gb227, 1, none⟩) (by first | (rw [add_block]; exact hn231_1) | (show (Addr.add _ _).block ≠ _; rw [add_block]; exact hn231_1) | exact hn231_1) (.int .i64 ((rd_T38 t210 x8_3).f1))).trans hx231_0
                                        replace hx231_0 := (cell_far (p := ⟨gb227, 2, none⟩) (by first | (rw [add_block]; exact hn231_2) | (show (Addr.add _ _).block ≠ _; rw [add_block]; exact hn231_2) | exact hn231_2) (.int .i64 ((rd_T38 t210 x8_3).f2))).trans hx231_0
                                        (try have hy231_0 := fun (n_ : Nat) => (show (((((w37.drewN n_).setCell ⟨gb227, 0, none⟩ (.int .i64 ((rd_T38 t210 x8_3).f0))).setCell ⟨gb227, 1, none⟩ (.int .i64 ((rd_T38 t210 x8_3).f1))).setCell ⟨gb227, 2, none⟩ (.int .i64 ((rd_T38 t210 x8_3).f2)))).cell? _ = some _ from hx231_0))
                                        clear hn231_0
                                        clear hn231_1
                                        clear hn231_2
                                        replace p231 := eq_true p231
                                        replace q231 := eq_true q231
                                        have p232 : 0 ≤ (((rd_T38 t210 x8_3).f0) : Int) := of_decide_eq_true (by first | (with_reducible assumption) | assumption)
                                        have q232 : ((rd_T38 t210 x8_3).f0) < (t214.length : Int) := of_decide_eq_true (by first | (with_reducible assumption) | assumption)
                                        obtain ⟨ad232, e232, hx232_0⟩ := Kd.at_int (Kd.R_reads' HO_6.out).2.2 ((rd_T38 t210 x8_3).f0) p232 q232
                                        obtain rfl : ad228 = ad232 := (by injection e232)
                                        have hn232_0 : ad228.block ≠ gb227 := Kd.own_blk (Kd.R_ne HO_6.out BK227.out (by decide))
                                        have hn232_1 : ad228.block ≠ gb227 := Kd.own_blk (Kd.R_ne HO_6.out BK227.out (by decide))
                                        have hn232_2 : ad228.block ≠ gb227 := Kd.own_blk (Kd.R_ne HO_6.out BK227.out (by decide))
                                        replace hx232_0 := (cell_far (p := ⟨gb227, 0, none⟩) (by first | (rw [add_block]; exact hn232_0) | (show (Addr.add _ _).block ≠ _; rw [add_block]; exact hn232_0) | exact hn232_0) (.int .i64 ((rd_T38 t210 x8_3).f0))).trans hx232_0
                                        replace hx232_0 := (cell_far (p := ⟨gb227, 1, none⟩) (by first | (rw [add_block]; exact hn232_1) | (show (Addr.add _ _).block ≠ _; rw [add_block]; exact hn232_1) | exact hn232_1) (.int .i64 ((rd_T38 t210 x8_3).f1))).trans hx232_0
                                        replace hx232_0 := (cell_far (p := ⟨gb227, 2, none⟩) (by first | (rw [add_block]; exact hn232_2) | (show (Addr.add _ _).block ≠ _; rw [add_block]; exact hn232_2) | exact hn232_2) (.int .i64 ((rd_T38 t210 x8_3).f2))).trans hx232_0
                                        (try have hy232_0 := fun (n_ : Nat) => (show (((((w37.drewN n_).setCell ⟨gb227, 0, none⟩ (.int .i64 ((rd_T38 t210 x8_3).f0))).setCell ⟨gb227, 1, none⟩ (.int .i64 ((rd_T38 t210 x8_3).f1))).setCell ⟨gb227, 2, none⟩ (.int .i64 ((rd_T38 t210 x8_3).f2)))).cell? _ = some _ from hx232_0))
                                        clear hn232_0
                                        clear hn232_1
                                        clear hn232_2
                                        replace p232 := eq_true p232
                                        replace q232 := eq_true q232
                                        have p233 : 0 ≤ (((rd_T38 t210 x8_3).f0) : Int) := of_decide_eq_true (by first | (with_reducible assumption) | assumption)
                                        have q233 : ((rd_T38 t210 x8_3).f0) < (t214.length : Int) := of_decide_eq_true (by first | (with_reducible assumption) | assumption)
                                        obtain ⟨ad233, e233, hx233_0⟩ := Kd.at_int (Kd.R_reads' HO_6.out).2.2 ((rd_T38 t210 x8_3).f0) p233 q233
                                        obtain rfl : ad228 = ad233 := (by injection e233)
                                        have hn233_0 : ad228.block ≠ gb227 := Kd.own_blk (Kd.R_ne HO_6.out BK227.out (by decide))
                                        have hn233_1 : ad228.block ≠ gb227 := Kd.own_blk (Kd.R_ne HO_6.out BK227.out (by decide))
                                        have hn233_2 : ad228.block ≠ gb227 := Kd.own_blk (Kd.R_ne HO_6.out BK227.out (by decide))
                                        replace hx233_0 := (cell_far (p := ⟨gb227, 0, none⟩) (by first | (rw [add_block]; exact hn233_0) | (show (Addr.add _ _).block ≠ _; rw [add_block]; exact hn233_0) | exact hn233_0) (.int .i64 ((rd_T38 t210 x8_3).f0))).trans hx233_0
                                        replace hx233_0 := (cell_far (p := ⟨gb227, 1, none⟩) (by first | (rw [add_block]; exact hn233_1) | (show (Addr.add _ _).block ≠ _; rw [add_block]; exact hn233_1) | exact hn233_1) (.int .i64 ((rd_T38 t210 x8_3).f1))).trans hx233_0
                                        replace hx233_0 := (cell_far (p := ⟨gb227, 2, none⟩) (by first | (rw [add_block]; exact hn233_2) | (show (Addr.add _ _).block ≠ _; rw [add_block]; exact hn233_2) | exact hn233_2) (.int .i64 ((rd_T38 t210 x8_3).f2))).trans hx233_0
                                        (try have hy233_0 := fun (n_ : Nat) => (show (((((w37.drewN n_).setCell ⟨gb227, 0, none⟩ (.int .i64 ((rd_T38 t210 x8_3).f0))).setCell ⟨gb227, 1, none⟩ (.int .i64 ((rd_T38 t210 x8_3).f1))).setCell ⟨gb227, 2, none⟩ (.int .i64 ((rd_T38 t210 x8_3).f2)))).cell? _ = some _ from hx233_0))
                                        clear hn233_0
                                        clear hn233_1
                                        clear hn233_2
                                        replace p233 := eq_true p233
                                        replace q233 := eq_true q233
                                        have p234 : 0 ≤ (((rd_T38 t210 x8_3).f1) : Int) := of_decide_eq_true (by first | (with_reducible assumption) | assumption)
                                        have q234 : ((rd_T38 t210 x8_3).f1) < (t214.length : Int) := of_decide_eq_true (by first | (with_reducible assumption) | assumption)
                                        obtain ⟨ad234, e234, hx234_0⟩ := Kd.at_int (Kd.R_reads' HO_6.out).2.2 ((rd_T38 t210 x8_3).f1) p234 q234
                                        obtain rfl : ad228 = ad234 := (by injection e234)
                                        have hn234_0 : ad228.block ≠ gb227 := Kd.own_blk (Kd.R_ne HO_6.out BK227.out (by decide))
                                        have hn234_1 : ad228.block ≠ gb227 := Kd.own_blk (Kd.R_ne HO_6.out BK227.out (by decide))
                                        have hn234_2 : ad228.block ≠ gb227 := Kd.own_blk (Kd.R_ne HO_6.out BK227.out (by decide))
                                        replace hx234_0 := (cell_far (p := ⟨gb227, 0, none⟩) (by first | (rw [add_block]; exact hn234_0) | (show (Addr.add _ _).block ≠ _; rw [add_block]; exact hn234_0) | exact hn234_0) (.int .i64 ((rd_T38 t210 x8_3).f0))).trans hx234_0
                                        replace hx234_0 := (cell_far (p := ⟨gb227, 1, none⟩) (by first | (rw [add_block]; exact hn234_1) | (show (Addr.add _ _).block ≠ _; rw [add_block]; exact hn234_1) | exact hn234_1) (.int .i64 ((rd_T38 t210 x8_3).f1))).trans hx234_0
                                        replace hx234_0 := (cell_far (p := ⟨gb227, 2, none⟩) (by first | (rw [add_block]; exact hn234_2) | (show (Addr.add _ _).block ≠ _; rw [add_block]; exact hn234_2) | exact hn234_2) (.int .i64 ((rd_T38 t210 x8_3).f2))).trans hx234_0
                                        (try have hy234_0 := fun (n_ : Nat) => (show (((((w37.drewN n_).setCell ⟨gb227, 0, none⟩ (.int .i64 ((rd_T38 t210 x8_3).f0))).setCell ⟨gb227, 1, none⟩ (.int .i64 ((rd_T38 t210 x8_3).f1))).setCell ⟨gb227, 2, none⟩ (.int .i64 ((rd_T38 t210 x8_3).f2)))).cell? _ = some _ from hx234_0))
                                        clear hn234_0
                                        clear hn234_1
                                        clear hn234_2
                                        replace p234 := eq_true p234
                                        replace q234 := eq_true q234
                                        go_wp2
                                        repeat (go_quiet (fail); try go_wp2)
                                        go_meet
                                        case rel => exact ⟨_, (decide ((rd t214 ((rd_T38 t210 x8_3).f0)) > (wrap64 ((rd t214 ((rd_T38 t210 x8_3).f1)) + ((rd_T38 t210 x8_3).f2))))), (by first | rfl | (simp; done) | (simp [*]; done)), H', ⟨by have := HK1.out; have := HJ8.out; have := HK3.out; first | omega | exact Nat.le_refl _⟩, ⟨by (with_reducible repeat (first | apply Kd.R_alloc | apply Kd.R_drewN | apply Kd.R_drew)); exact Kd.R_mono (Kd.R_far (p := ⟨gb227, 2, none⟩) (Kd.R_far (p := ⟨gb227, 1, none⟩) (Kd.R_far (p := ⟨gb227, 0, none⟩) (Kd.R_mono HO_4.out (fun k_ hk => (⟨hk, hk.2⟩ : _ ∧ k_ ≠ gb227))) (fun _ hk => hk.2) (.int .i64 ((rd_T38 t210 x8_3).f0))) (fun _ hk => hk.2) (.int .i64 ((rd_T38 t210 x8_3).f1))) (fun _ hk => hk.2) (.int .i64 ((rd_T38 t210 x8_3).f2))) (fun _ hk => hk.1.2)⟩, ⟨by (with_reducible repeat (first | apply Kd.R_alloc | apply Kd.R_drewN | apply Kd.R_drew)); exact Kd.R_mono (Kd.R_far (p := ⟨gb227, 2, none⟩) (Kd.R_far (p := ⟨gb227, 1, none⟩) (Kd.R_far (p := ⟨gb227, 0, none⟩) (Kd.R_types HO_6.out BK227.out (by decide)) (fun _ hk => hk.2) (.int .i64 ((rd_T38 t210 x8_3).f0))) (fun _ hk => hk.2) (.int .i64 ((rd_T38 t210 x8_3).f1))) (fun _ hk => hk.2) (.int .i64 ((rd_T38 t210 x8_3).f2))) (fun _ hk => hk.1)⟩, ⟨by (with_reducible repeat (first | apply Kd.R_alloc | apply Kd.R_drewN | apply Kd.R_drew)); exact Kd.R_mono (Kd.R_far (p := ⟨gb227, 2, none⟩) (Kd.R_far (p := ⟨gb227, 1, none⟩) (Kd.R_far (p := ⟨gb227, 0, none⟩) (Kd.R_types HO_7.out BK227.out (by decide)) (fun _ hk => hk.2) (.int .i64 ((rd_T38 t210 x8_3).f0))) (fun _ hk => hk.2) (.int .i64 ((rd_T38 t210 x8_3).f1))) (fun _ hk => hk.2) (.int .i64 ((rd_T38 t210 x8_3).f2))) (fun _ hk => hk.1)⟩, ⟨by (with_reducible repeat (first | refine blk_drewN ?_ _ | refine blk_drew ?_ | refine blk_alloc ?_ _)); refine blk_put (cs := #[.int .i64 ((rd_T38 t210 x8_3).f0), .int .i64 ((rd_T38 t210 x8_3).f1), .int .i64 0]) ?_ 2 _ rfl; (with_reducible repeat (first | refine blk_drewN ?_ _ | refine blk_drew ?_ | refine blk_alloc ?_ _)); refine blk_put (cs := #[.int .i64 ((rd_T38 t210 x8_3).f0), .int .i64 0, .int .i64 0]) ?_ 1 _ rfl; (with_reducible repeat (first | refine blk_drewN ?_ _ | refine blk_drew ?_ | refine blk_alloc ?_ _)); refine blk_put (cs := #[.int .i64 0, .int .i64 0, .int .i64 0]) ?_ 0 _ rfl; (with_reducible repeat (first | refine blk_drewN ?_ _ | refine blk_drew ?_ | refine blk_alloc ?_ _)); exact BK227.out⟩, ⟨by repeat (first | (with_reducible first | exact HB.out | apply below_alloc | apply pw_below_drewN | apply below_drew1 | refine below_set ?_ GE227.out) | exact HB.out)⟩⟩
                                    · rw [if_neg c46] at H
                                      have c46b0 : decide (0 ≤ (rd t214 ((rd_T38 t210 x8_3).f0))) = false := decide_eq_false c46
                                      clear c46
                                      have H' := Aside0.mk H
                                      clear H
                                      have hcz52_0 : w37.cell? ⟨gb227, 0, none⟩ = some (.int .i64 0) := (blk_cell BK227.out 0).trans rfl
                                      have hcz52_1 : w37.cell? ⟨gb227, 1, none⟩ = some (.int .i64 0) := (blk_cell BK227.out 1).trans rfl
                                      have hcz52_2 : w37.cell? ⟨gb227, 2, none⟩ = some (.int .i64 0) := (blk_cell BK227.out 2).trans rfl
                                      have hfz52_0 := blk_frozen BK227.out 0
                                      have hfz52_1 := blk_frozen BK227.out 1
                                      have hfz52_2 := blk_frozen BK227.out 2
                                      obtain ⟨Ao53, co53, eo53⟩ := Kd.R_slice HO_6.out
                                      subst eo53
                                      have p228 : 0 ≤ (((rd_T38 t210 x8_3).f0) : Int) := of_decide_eq_true (by first | (with_reducible assumption) | assumption)
                                      have q228 : ((rd_T38 t210 x8_3).f0) < (t214.length : Int) := of_decide_eq_true (by first | (with_reducible assumption) | assumption)
                                      obtain ⟨ad228, e228, hx228_0⟩ := Kd.at_int (Kd.R_reads' HO_6.out).2.2 ((rd_T38 t210 x8_3).f0) p228 q228
                                      cases e228
                                      have hn228_0 : ad228.block ≠ gb227 := Kd.own_blk (Kd.R_ne HO_6.out BK227.out (by decide))
                                      have hn228_1 : ad228.block ≠ gb227 := Kd.own_blk (Kd.R_ne HO_6.out BK227.out (by decide))
                                      have hn228_2 : ad228.block ≠ gb227 := Kd.own_blk (Kd.R_ne HO_6.out BK227.out (by decide))
                                      replace hx228_0 := (cell_far (p := ⟨gb227, 0, none⟩) (by first | (rw [add_block]; exact hn228_0) | (show (Addr.add _ _).block ≠ _; rw [add_block]; exact hn228_0) | exact hn228_0) (.int .i64 ((rd_T38 t210 x8_3).f0))).trans hx228_0
                                      replace hx228_0 := (cell_far (p := ⟨gb227, 1, none⟩) (by first | (rw [add_block]; exact hn228_1) | (show (Addr.add _ _).block ≠ _; rw [add_block]; exact hn228_1) | exact hn228_1) (.int .i64 ((rd_T38 t210 x8_3).f1))).trans hx228_0
                                      replace hx228_0 := (cell_far (p := ⟨gb227, 2, none⟩) (by first | (rw [add_block]; exact hn228_2) | (show (Addr.add _ _).block ≠ _; rw [add_block]; exact hn228_2) | exact hn228_2) (.int .i64 ((rd_T38 t210 x8_3).f2))).trans hx228_0
                                      (try have hy228_0 := fun (n_ : Nat) => (show (((((w37.drewN n_).setCell ⟨gb227, 0, none⟩ (.int .i64 ((rd_T38 t210 x8_3).f0))).setCell ⟨gb227, 1, none⟩ (.int .i64 ((rd_T38 t210 x8_3).f1))).setCell ⟨gb227, 2, none⟩ (.int .i64 ((rd_T38 t210 x8_3).f2)))).cell? _ = some _ from hx228_0))
                                      clear hn228_0
                                      clear hn228_1
                                      clear hn228_2
                                      replace p228 := eq_true p228
                                      replace q228 := eq_true q228
                                      have p229 : 0 ≤ (((rd_T38 t210 x8_3).f1) : Int) := of_decide_eq_true (by first | (with_reducible assumption) | assumption)
                                      have q229 : ((rd_T38 t210 x8_3).f1) < (t214.length : Int) := of_decide_eq_true (by first | (with_reducible assumption) | assumption)
                                      obtain ⟨ad229, e229, hx229_0⟩ := Kd.at_int (Kd.R_reads' HO_6.out).2.2 ((rd_T38 t210 x8_3).f1) p229 q229
                                      obtain rfl : ad228 = ad229 := (by injection e229)
                                      have hn229_0 : ad228.block ≠ gb227 := Kd.own_blk (Kd.R_ne HO_6.out BK227.out (by decide))
                                      have hn229_1 : ad228.block ≠ gb227 := Kd.own_blk (Kd.R_ne HO_6.out BK227.out (by decide))
                                      have hn229_2 : ad228.block ≠ gb227 := Kd.own_blk (Kd.R_ne HO_6.out BK227.out (by decide))
                                      replace hx229_0 := (cell_far (p := ⟨gb227, 0, none⟩) (by first | (rw [add_block]; exact hn229_0) | (show (Addr.add _ _).block ≠ _; rw [add_block]; exact hn229_0) | exact hn229_0) (.int .i64 ((rd_T38 t210 x8_3).f0))).trans hx229_0
                                      replace hx229_0 := (cell_far (p := ⟨gb227, 1, none⟩) (by first | (rw [add_block]; exact hn229_1) | (show (Addr.add _ _).block ≠ _; rw [add_block]; exact hn229_1) | exact hn229_1) (.int .i64 ((rd_T38 t210 x8_3).f1))).trans hx229_0
                                      replace hx229_0 := (cell_far (p := ⟨gb227, 2, none⟩) (by first | (rw [add_block]; exact hn229_2) | (show (Addr.add _ _).block ≠ _; rw [add_block]; exact hn229_2) | exact hn229_2) (.int .i64 ((rd_T38 t210 x8_3).f2))).trans hx229_0
                                      (try have hy229_0 := fun (n_ : Nat) => (show (((((w37.drewN n_).setCell ⟨gb227, 0, none⟩ (.int .i64 ((rd_T38 t210 x8_3).f0))).setCell ⟨gb227, 1, none⟩ (.int .i64 ((rd_T38 t210 x8_3).f1))).setCell ⟨gb227, 2, none⟩ (.int .i64 ((rd_T38 t210 x8_3).f2)))).cell? _ = some _ from hx229_0))
                                      clear hn229_0
                                      clear hn229_1
                                      clear hn229_2
                                      replace p229 := eq_true p229
                                      replace q229 := eq_true q229
                                      have p230 : 0 ≤ (((rd_T38 t210 x8_3).f0) : Int) := of_decide_eq_true (by first | (with_reducible assumption) | assumption)
                                      have q230 : ((rd_T38 t210 x8_3).f0) < (t214.length : Int) := of_decide_eq_true (by first | (with_reducible assumption) | assumption)
                                      obtain ⟨ad230, e230, hx230_0⟩ := Kd.at_int (Kd.R_reads' HO_6.out).2.2 ((rd_T38 t210 x8_3).f0) p230 q230
                                      obtain rfl : ad228 = ad230 := (by injection e230)
                                      have hn230_0 : ad228.block ≠ gb227 := Kd.own_blk (Kd.R_ne HO_6.out BK227.out (by decide))
                                      have hn230_1 : ad228.block ≠ gb227 := Kd.own_blk (Kd.R_ne HO_6.out BK227.out (by decide))
                                      have hn230_2 : ad228.block ≠ gb227 := Kd.own_blk (Kd.R_ne HO_6.out BK227.out (by decide))
                                      replace hx230_0 := (cell_far (p := ⟨gb227, 0, none⟩) (by first | (rw [add_block]; exact hn230_0) | (show (Addr.add _ _).block ≠ _; rw [add_block]; exact hn230_0) | exact hn230_0) (.int .i64 ((rd_T38 t210 x8_3).f0))).trans hx230_0
                                      replace hx230_0 := (cell_far (p := ⟨gb227, 1, none⟩) (by first | (rw [add_block]; exact hn230_1) | (show (Addr.add _ _).block ≠ _; rw [add_block]; exact hn230_1) | exact hn230_1) (.int .i64 ((rd_T38 t210 x8_3).f1))).trans hx230_0
                                      replace hx230_0 := (cell_far (p := ⟨gb227, 2, none⟩) (by first | (rw [add_block]; exact hn230_2) | (show (Addr.add _ _).block ≠ _; rw [add_block]; exact hn230_2) | exact hn230_2) (.int .i64 ((rd_T38 t210 x8_3).f2))).trans hx230_0
                                      (try have hy230_0 := fun (n_ : Nat) => (show (((((w37.drewN n_).setCell ⟨gb227, 0, none⟩ (.int .i64 ((rd_T38 t210 x8_3).f0))).setCell ⟨gb227, 1, none⟩ (.int .i64 ((rd_T38 t210 x8_3).f1))).setCell ⟨gb227, 2, none⟩ (.int .i64 ((rd_T38 t210 x8_3).f2)))).cell? _ = some _ from hx230_0))
                                      clear hn230_0
                                      clear hn230_1
                                      clear hn230_2
                                      replace p230 := eq_true p230
                                      replace q230 := eq_true q230
                                      go_wp2
                                      repeat (go_quiet (fail); try go_wp2)
                                      go_meet
                                      case rel => exact ⟨_, (false), (by first | rfl | (simp; done) | (simp [*]; done)), H', ⟨by have := HK1.out; have := HJ8.out; have := HK3.out; first | omega | exact Nat.le_refl _⟩, ⟨by (with_reducible repeat (first | apply Kd.R_alloc | apply Kd.R_drewN | apply Kd.R_drew)); exact Kd.R_mono (Kd.R_far (p := ⟨gb227, 2, none⟩) (Kd.R_far (p := ⟨gb227, 1, none⟩) (Kd.R_far (p := ⟨gb227, 0, none⟩) (Kd.R_mono HO_4.out (fun k_ hk => (⟨hk, hk.2⟩ : _ ∧ k_ ≠ gb227))) (fun _ hk => hk.2) (.int .i64 ((rd_T38 t210 x8_3).f0))) (fun _ hk => hk.2) (.int .i64 ((rd_T38 t210 x8_3).f1))) (fun _ hk => hk.2) (.int .i64 ((rd_T38 t210 x8_3).f2))) (fun _ hk => hk.1.2)⟩, ⟨by (with_reducible repeat (first | apply Kd.R_alloc | apply Kd.R_drewN | apply Kd.R_drew)); exact Kd.R_mono (Kd.R_far (p := ⟨gb227, 2, none⟩) (Kd.R_far (p := ⟨gb227, 1, none⟩) (Kd.R_far (p := ⟨gb227, 0, none⟩) (Kd.R_types HO_6.out BK227.out (by decide)) (fun _ hk => hk.2) (.int .i64 ((rd_T38 t210 x8_3).f0))) (fun _ hk => hk.2) (.int .i64 ((rd_T38 t210 x8_3).f1))) (fun _ hk => hk.2) (.int .i64 ((rd_T38 t210 x8_3).f2))) (fun _ hk => hk.1)⟩, ⟨by (with_reducible repeat (first | apply Kd.R_alloc | apply Kd.R_drewN | apply Kd.R_drew)); exact Kd.R_mono (Kd.R_far (p := ⟨gb227, 2, none⟩) (Kd.R_far (p := ⟨gb227, 1, none⟩) (Kd.R_far (p := ⟨gb227, 0, none⟩) (Kd.R_types HO_7.out BK227.out (by decide)) (fun _ hk => hk.2) (.int .i64 ((rd_T38 t210 x8_3).f0))) (fun _ hk => hk.2) (.int .i64 ((rd_T38 t210 x8_3).f1))) (fun _ hk => hk.2) (.int .i64 ((rd_T38 t210 x8_3).f2))) (fun _ hk => hk.1)⟩, ⟨by (with_reducible repeat (first | refine blk_drewN ?_ _ | refine blk_drew ?_ | refine blk_alloc ?_ _)); refine blk_put (cs := #[.int .i64 ((rd_T38 t210 x8_3).f0), .int .i64 ((rd_T38 t210 x8_3).f1), .int .i64 0]) ?_ 2 _ rfl; (with_reducible repeat (first | refine blk_drewN ?_ _ | refine blk_drew ?_ | refine blk_alloc ?_ _)); refine blk_put (cs := #[.int .i64 ((rd_T38 t210 x8_3).f0), .int .i64 0, .int .i64 0]) ?_ 1 _ rfl; (with_reducible repeat (first | refine blk_drewN ?_ _ | refine blk_drew ?_ | refine blk_alloc ?_ _)); refine blk_put (cs := #[.int .i64 0, .int .i64 0, .int .i64 0]) ?_ 0 _ rfl; (with_reducible repeat (first | refine blk_drewN ?_ _ | refine blk_drew ?_ | refine blk_alloc ?_ _)); exact BK227.out⟩, ⟨by repeat (first | (with_reducible first | exact HB.out | apply below_alloc | apply pw_below_drewN | apply below_drew1 | refine below_set ?_ GE227.out) | exact HB.out)⟩⟩
                                · rw [if_neg c42] at H
                                  exact absurd H (by simp)
                              · rw [if_neg c41] at H
                                exact absurd H (by simp)
                            · rw [if_neg c40] at H
                              exact absurd H (by simp)
                          · rw [if_neg c39] at H
                            exact absurd H (by simp)
                        case rest =>
                          clear HC36
                          try clear c1
                          try clear p2
                          try clear q2
                          try clear hx2
                          try clear c3
                          try clear c4
                          try clear c5
                          try clear c6
                          try clear c6b0
                          try clear p6
                          try clear c13
                          try clear c13b0
                          try clear c13b1
                          try clear c14
                          try clear c14b0
                          try clear c14b1
                          try clear c15
                          try clear c15b0
                          try clear c16
                          try clear c16b0
                          try clear c17
                          try clear c17b0
                          try clear c17b1
                          try clear c18
                          try clear c18b0
                          try clear c19
                          try clear c19b0
                          try clear c19b1
                          try clear p22
                          try clear q22
                          try clear hx22
                          try clear p23
                          try clear q23
                          try clear hx23
                          try clear c33
                          try clear c34
                          try clear c34b0
                          try clear c35
                          try clear c35b0
                          try clear c39
                          try clear c39b0
                          try clear c40
                          try clear c40b0
                          try clear c41
                          try clear c41b0
                          try clear c42
                          try clear c42b0
                          try clear c43
                          try clear c43b0
                          try clear c43b1
                          try clear c43b2
                          try clear c46
                          try clear c46b0
                          try clear c47
                          try clear c47b0
                          try clear hcz38_0
                          try clear hcz38_1
                          try clear hcz38_2
                          try clear hcz44_0
                          try clear hcz44_1
                          try clear hcz44_2
                          try clear hcz48_0
                          try clear hcz48_1
                          try clear hcz48_2
                          try clear hcz50_0
                          try clear hcz50_1
                          try clear hcz50_2
                          try clear hcz52_0
                          try clear hcz52_1
                          try clear hcz52_2
                          try clear hfz38_0
                          try clear hfz38_1
                          try clear hfz38_2
                          try clear hfz44_0
                          try clear hfz44_1
                          try clear hfz44_2
                          try clear hfz48_0
                          try clear hfz48_1
                          try clear hfz48_2
                          try clear hfz50_0
                          try clear hfz50_1
                          try clear hfz50_2
                          try clear hfz52_0
                          try clear hfz52_1
                          try clear hfz52_2
                          try clear hx220_0
                          try clear hx221_0
                          try clear hx226_0
                          try clear hx226_1
                          try clear hx226_2
                          try clear hx228_0
                          try clear hx229_0
                          try clear hx230_0
                          try clear hx231_0
                          try clear hx232_0
                          try clear hx233_0
                          try clear hx234_0
                          try clear p2
                          try clear p22
                          try clear p220
                          try clear p221
                          try clear p226
                          try clear p228
                          try clear p229
                          try clear p230
                          try clear p231
                          try clear p232
                          try clear p233
                          try clear p234
                          try clear q2
                          try clear q22
                          try clear q220
                          try clear q221
                          try clear q226
                          try clear q228
                          try clear q229
                          try clear q230
                          try clear q231
                          try clear q232
                          try clear q233
                          try clear q234
                          obtain ⟨kq, x126_35, rfl, HA, HJ35, HO_4, HO_6, HO_7, BK227, HB⟩ := hcut
                          cases kq with
                          | zero => exact absurd HA.out (by simp [laws_FnSites.j3])
                          | succ kj35 =>
                            have H := HA.out
                            clear HA
                            simp only [laws_FnSites.j3] at H
                            by_cases c54 : x126_35 = true
                            · subst c54
                              have H1 : (some false) = some r := by rw [if_pos rfl] at H; exact H
                              clear H
                              have H := H1
                              clear H1
                              obtain rfl := Option.some.inj H
                              go_wp2
                              repeat (go_quiet (fail); try go_wp2)
                              go_ret
                              exact ⟨by first | rfl | (simp [errW_none, errW_some] <;> rfl) | (simp [*, errW_none, errW_some] <;> rfl), by repeat (first | (with_reducible first | exact HB.out | apply below_alloc | apply pw_below_drewN | apply below_drew1 | refine below_set ?_ GE227.out) | exact HB.out)⟩
                            · replace c54 := Bool.eq_false_iff.mpr c54
                              subst c54
                              have H1 : (if 0 ≤ ((rd_T38 t210 x8_3).f1) then (if ((rd_T38 t210 x8_3).f1) < (t217.length : Int) then (if (rd t217 ((rd_T38 t210 x8_3).f1)) = ((rd_T38 t210 x8_3).f0) then (if ((rd_T38 t210 x8_3).f1) < (t214.length : Int) then (if 0 ≤ ((rd_T38 t210 x8_3).f0) then (if ((rd_T38 t210 x8_3).f0) < (t214.length : Int) then (if (rd t214 ((rd_T38 t210 x8_3).f1)) = (wrap64 ((rd t214 ((rd_T38 t210 x8_3).f0)) + ((rd_T38 t210 x8_3).f2))) then (laws_FnSites.l1 kj35 t209 t210 x5_1 t214 t217 (wrap64 (x8_3 + 1))) else (some false)) else (none)) else (none)) else (none)) else (laws_FnSites.l1 kj35 t209 t210 x5_1 t214 t217 (wrap64 (x8_3 + 1)))) else (none)) else (none)) = some r := by rw [if_neg (show ¬ (false = true) by decide)] at H; exact H
                              clear H
                              have H := H1
                              clear H1
                              by_cases c55 : 0 ≤ ((rd_T38 t210 x8_3).f1)
                              · rw [if_pos c55] at H
                                have c55b0 : decide (0 ≤ ((rd_T38 t210 x8_3).f1)) = true := decide_eq_true c55
                                clear c55
                                by_cases c56 : ((rd_T38 t210 x8_3).f1) < (t217.length : Int)
                                · rw [if_pos c56] at H
                                  have c56b0 : decide (((rd_T38 t210 x8_3).f1) < (t217.length : Int)) = true := decide_eq_true c56
                                  clear c56
                                  by_cases c57 : (rd t217 ((rd_T38 t210 x8_3).f1)) = ((rd_T38 t210 x8_3).f0)
                                  · rw [if_pos c57] at H
                                    have c57b0 : ((rd t217 ((rd_T38 t210 x8_3).f1)) == ((rd_T38 t210 x8_3).f0)) = true := beq_iff_eq.mpr c57
                                    have c57b1 : ((rd t217 ((rd_T38 t210 x8_3).f1)) != ((rd_T38 t210 x8_3).f0)) = false := bne_eq_false_iff_eq.mpr c57
                                    clear c57
                                    by_cases c58 : ((rd_T38 t210 x8_3).f1) < (t214.length : Int)
                                    · rw [if_pos c58] at H
                                      have c58b0 : decide (((rd_T38 t210 x8_3).f1) < (t214.length : Int)) = true := decide_eq_true c58
                                      clear c58
                                      by_cases c59 : 0 ≤ ((rd_T38 t210 x8_3).f0)
                                      · rw [if_pos c59] at H
                                        have c59b0 : decide (0 ≤ ((rd_T38 t210 x8_3).f0)) = true := decide_eq_true c59
                                        clear c59
                                        by_cases c60 : ((rd_T38 t210 x8_3).f0) < (t214.length : Int)
                                        · rw [if_pos c60] at H
                                          have c60b0 : decide (((rd_T38 t210 x8_3).f0) < (t214.length : Int)) = true := decide_eq_true c60
                                          clear c60
                                          by_cases c61 : (rd t214 ((rd_T38 t210 x8_3).f1)) = (wrap64 ((rd t214 ((rd_T38 t210 x8_3).f0)) + ((rd_T38 t210 x8_3).f2)))
                                          · rw [if_pos c61] at H
                                            have c61b0 : ((rd t214 ((rd_T38 t210 x8_3).f1)) == (wrap64 ((rd t214 ((rd_T38 t210 x8_3).f0)) + ((rd_T38 t210 x8_3).f2)))) = true := beq_iff_eq.mpr c61
                                            have c61b1 : ((rd t214 ((rd_T38 t210 x8_3).f1)) != (wrap64 ((rd t214 ((rd_T38 t210 x8_3).f0)) + ((rd_T38 t210 x8_3).f2)))) = false := bne_eq_false_iff_eq.mpr c61
                                            clear c61
                                            have H' := Aside0.mk H
                                            clear H
                                            have hcz62_0 : wc.cell? ⟨gb227, 0, none⟩ = some (.int .i64 ((rd_T38 t210 x8_3).f0)) := (blk_cell BK227.out 0).trans rfl
                                            have hcz62_1 : wc.cell? ⟨gb227, 1, none⟩ = some (.int .i64 ((rd_T38 t210 x8_3).f1)) := (blk_cell BK227.out 1).trans rfl
                                            have hcz62_2 : wc.cell? ⟨gb227, 2, none⟩ = some (.int .i64 ((rd_T38 t210 x8_3).f2)) := (blk_cell BK227.out 2).trans rfl
                                            have hfz62_0 := blk_frozen BK227.out 0
                                            have hfz62_1 := blk_frozen BK227.out 1
                                            have hfz62_2 := blk_frozen BK227.out 2
                                            obtain ⟨Ao63, co63, eo63⟩ := Kd.R_slice HO_7.out
                                            subst eo63
                                            have p235 : 0 ≤ (((rd_T38 t210 x8_3).f1) : Int) := of_decide_eq_true (by first | (with_reducible assumption) | assumption)
                                            have q235 : ((rd_T38 t210 x8_3).f1) < (t217.length : Int) := of_decide_eq_true (by first | (with_reducible assumption) | assumption)
                                            obtain ⟨ad235, e235, hx235_0⟩ := Kd.at_int (Kd.R_reads' HO_7.out).2.2 ((rd_T38 t210 x8_3).f1) p235 q235
                                            cases e235
                                            replace p235 := eq_true p235
                                            replace q235 := eq_true q235
                                            obtain ⟨Ao64, co64, eo64⟩ := Kd.R_slice HO_6.out
                                            subst eo64
                                            have p236 : 0 ≤ (((rd_T38 t210 x8_3).f1) : Int) := of_decide_eq_true (by first | (with_reducible assumption) | assumption)
                                            have q236 : ((rd_T38 t210 x8_3).f1) < (t214.length : Int) := of_decide_eq_true (by first | (with_reducible assumption) | assumption)
                                            obtain ⟨ad236, e236, hx236_0⟩ := Kd.at_int (Kd.R_reads' HO_6.out).2.2 ((rd_T38 t210 x8_3).f1) p236 q236
                                            cases e236
                                            replace p236 := eq_true p236
                                            replace q236 := eq_true q236
                                            have p237 : 0 ≤ (((rd_T38 t210 x8_3).f0) : Int) := of_decide_eq_true (by first | (with_reducible assumption) | assumption)
                                            have q237 : ((rd_T38 t210 x8_3).f0) < (t214.length : Int) := of_decide_eq_true (by first | (with_reducible assumption) | assumption)
                                            obtain ⟨ad237, e237, hx237_0⟩ := Kd.at_int (Kd.R_reads' HO_6.out).2.2 ((rd_T38 t210 x8_3).f0) p237 q237
                                            obtain rfl : ad236 = ad237 := (by injection e237)
                                            replace p237 := eq_true p237
                                            replace q237 := eq_true q237
                                            go_wp2
                                            repeat (go_quiet (fail); try go_wp2)
                                            go_roundg kj35
                                            case measure => have := HK1.out; have := HJ8.out; have := HK3.out; have := HJ35.out; omega
                                            case rel => exact ⟨(wrap64 (x8_3 + 1)), (by first | rfl | (simp; done) | (simp [*]; done)), H', ⟨by have := HK1.out; have := HJ8.out; have := HK3.out; have := HJ35.out; omega⟩, ⟨by (with_reducible repeat (first | apply Kd.R_alloc | apply Kd.R_drewN | apply Kd.R_drew)); exact Kd.R_mono HO_4.out (fun _ hk => trivial)⟩, ⟨by (with_reducible repeat (first | apply Kd.R_alloc | apply Kd.R_drewN | apply Kd.R_drew)); exact HO_6.out⟩, ⟨by (with_reducible repeat (first | apply Kd.R_alloc | apply Kd.R_drewN | apply Kd.R_drew)); exact HO_7.out⟩, ⟨by repeat (first | (with_reducible first | exact HB.out | apply below_alloc | apply pw_below_drewN | apply below_drew1 | refine below_set ?_ GE227.out) | exact HB.out)⟩⟩
                                          · rw [if_neg c61] at H
                                            have c61b0 : ((rd t214 ((rd_T38 t210 x8_3).f1)) == (wrap64 ((rd t214 ((rd_T38 t210 x8_3).f0)) + ((rd_T38 t210 x8_3).f2)))) = false := beq_eq_false_iff_ne.mpr c61
                                            have c61b1 : ((rd t214 ((rd_T38 t210 x8_3).f1)) != (wrap64 ((rd t214 ((rd_T38 t210 x8_3).f0)) + ((rd_T38 t210 x8_3).f2)))) = true := bne_iff_ne.mpr c61
                                            obtain rfl := Option.some.inj H
                                            have hcz65_0 : wc.cell? ⟨gb227, 0, none⟩ = some (.int .i64 ((rd_T38 t210 x8_3).f0)) := (blk_cell BK227.out 0).trans rfl
                                            have hcz65_1 : wc.cell? ⟨gb227, 1, none⟩ = some (.int .i64 ((rd_T38 t210 x8_3).f1)) := (blk_cell BK227.out 1).trans rfl
                                            have hcz65_2 : wc.cell? ⟨gb227, 2, none⟩ = some (.int .i64 ((rd_T38 t210 x8_3).f2)) := (blk_cell BK227.out 2).trans rfl
                                            have hfz65_0 := blk_frozen BK227.out 0
                                            have hfz65_1 := blk_frozen BK227.out 1
                                            have hfz65_2 := blk_frozen BK227.out 2
                                            obtain ⟨Ao66, co66, eo66⟩ := Kd.R_slice HO_7.out
                                            subst eo66
                                            have p235 : 0 ≤ (((rd_T38 t210 x8_3).f1) : Int) := of_decide_eq_true (by first | (with_reducible assumption) | assumption)
                                            have q235 : ((rd_T38 t210 x8_3).f1) < (t217.length : Int) := of_decide_eq_true (by first | (with_reducible assumption) | assumption)
                                            obtain ⟨ad235, e235, hx235_0⟩ := Kd.at_int (Kd.R_reads' HO_7.out).2.2 ((rd_T38 t210 x8_3).f1) p235 q235
                                            cases e235
                                            replace p235 := eq_true p235
                                            replace q235 := eq_true q235
                                            obtain ⟨Ao67, co67, eo67⟩ := Kd.R_slice HO_6.out
                                            subst eo67
                                            have p236 : 0 ≤ (((rd_T38 t210 x8_3).f1) : Int) := of_decide_eq_true (by first | (with_reducible assumption) | assumption)
                                            have q236 : ((rd_T38 t210 x8_3).f1) < (t214.length : Int) := of_decide_eq_true (by first | (with_reducible assumption) | assumption)
                                            obtain ⟨ad236, e236, hx236_0⟩ := Kd.at_int (Kd.R_reads' HO_6.out).2.2 ((rd_T38 t210 x8_3).f1) p236 q236
                                            cases e236
                                            replace p236 := eq_true p236
                                            replace q236 := eq_true q236
                                            have p237 : 0 ≤ (((rd_T38 t210 x8_3).f0) : Int) := of_decide_eq_true (by first | (with_reducible assumption) | assumption)
                                            have q237 : ((rd_T38 t210 x8_3).f0) < (t214.length : Int) := of_decide_eq_true (by first | (with_reducible assumption) | assumption)
                                            obtain ⟨ad237, e237, hx237_0⟩ := Kd.at_int (Kd.R_reads' HO_6.out).2.2 ((rd_T38 t210 x8_3).f0) p237 q237
                                            obtain rfl : ad236 = ad237 := (by injection e237)
                                            replace p237 := eq_true p237
                                            replace q237 := eq_true q237
                                            go_wp2
                                            repeat (go_quiet (fail); try go_wp2)
                                            go_ret
                                            exact ⟨by first | rfl | (simp [errW_none, errW_some] <;> rfl) | (simp [*, errW_none, errW_some] <;> rfl), by repeat (first | (with_reducible first | exact HB.out | apply below_alloc | apply pw_below_drewN | apply below_drew1 | refine below_set ?_ GE227.out) | exact HB.out)⟩
                                        · rw [if_neg c60] at H
                                          exact absurd H (by simp)
                                      · rw [if_neg c59] at H
                                        exact absurd H (by simp)
                                    · rw [if_neg c58] at H
                                      exact absurd H (by simp)
                                  · rw [if_neg c57] at H
                                    have c57b0 : ((rd t217 ((rd_T38 t210 x8_3).f1)) == ((rd_T38 t210 x8_3).f0)) = false := beq_eq_false_iff_ne.mpr c57
                                    have c57b1 : ((rd t217 ((rd_T38 t210 x8_3).f1)) != ((rd_T38 t210 x8_3).f0)) = true := bne_iff_ne.mpr c57
                                    have H' := Aside0.mk H
                                    clear H
                                    have hcz68_0 : wc.cell? ⟨gb227, 0, none⟩ = some (.int .i64 ((rd_T38 t210 x8_3).f0)) := (blk_cell BK227.out 0).trans rfl
                                    have hcz68_1 : wc.cell? ⟨gb227, 1, none⟩ = some (.int .i64 ((rd_T38 t210 x8_3).f1)) := (blk_cell BK227.out 1).trans rfl
                                    have hcz68_2 : wc.cell? ⟨gb227, 2, none⟩ = some (.int .i64 ((rd_T38 t210 x8_3).f2)) := (blk_cell BK227.out 2).trans rfl
                                    have hfz68_0 := blk_frozen BK227.out 0
                                    have hfz68_1 := blk_frozen BK227.out 1
                                    have hfz68_2 := blk_frozen BK227.out 2
                                    obtain ⟨Ao69, co69, eo69⟩ := Kd.R_slice HO_7.out
                                    subst eo69
                                    have p235 : 0 ≤ (((rd_T38 t210 x8_3).f1) : Int) := of_decide_eq_true (by first | (with_reducible assumption) | assumption)
                                    have q235 : ((rd_T38 t210 x8_3).f1) < (t217.length : Int) := of_decide_eq_true (by first | (with_reducible assumption) | assumption)
                                    obtain ⟨ad235, e235, hx235_0⟩ := Kd.at_int (Kd.R_reads' HO_7.out).2.2 ((rd_T38 t210 x8_3).f1) p235 q235
                                    cases e235
                                    replace p235 := eq_true p235
                                    replace q235 := eq_true q235
                                    go_wp2
                                    repeat (go_quiet (fail); try go_wp2)
                                    go_roundg kj35
                                    case measure => have := HK1.out; have := HJ8.out; have := HK3.out; have := HJ35.out; omega
                                    case rel => exact ⟨(wrap64 (x8_3 + 1)), (by first | rfl | (simp; done) | (simp [*]; done)), H', ⟨by have := HK1.out; have := HJ8.out; have := HK3.out; have := HJ35.out; omega⟩, ⟨by (with_reducible repeat (first | apply Kd.R_alloc | apply Kd.R_drewN | apply Kd.R_drew)); exact Kd.R_mono HO_4.out (fun _ hk => trivial)⟩, ⟨by (with_reducible repeat (first | apply Kd.R_alloc | apply Kd.R_drewN | apply Kd.R_drew)); exact HO_6.out⟩, ⟨by (with_reducible repeat (first | apply Kd.R_alloc | apply Kd.R_drewN | apply Kd.R_drew)); exact HO_7.out⟩, ⟨by repeat (first | (with_reducible first | exact HB.out | apply below_alloc | apply pw_below_drewN | apply below_drew1 | refine below_set ?_ GE227.out) | exact HB.out)⟩⟩
                                · rw [if_neg c56] at H
                                  exact absurd H (by simp)
                              · rw [if_neg c55] at H
                                exact absurd H (by simp)
                      · rw [if_neg c35] at H
                        exact absurd H (by simp)
                    · rw [if_neg c34] at H
                      have c34b0 : decide (x8_3 < (t210.length : Int)) = false := decide_eq_false c34
                      clear c34
                      have H' := Aside0.mk H
                      clear H
                      go_wp2
                      repeat (go_quiet (fail); try go_wp2)
                      go_loopg [10] k3 (fun kq v10 w' => ∃ (x10_4 : Int), v10 = .int .i64 x10_4 ∧ Aside0 (laws_FnSites.l2 kq t209 t210 x5_1 t214 t217 x10_4 = some r) ∧ Aside0 (kq ≤ k3) ∧ Aside0 (Kd.R k38 38 w' w.heap.size (fun _ => True) (.slice Ao10 t210.length co10) t210) ∧ Aside0 (Kd.R (Kd.int .i64) 3 w' w.heap.size (fun k_ => some k_ ≠ (v218 : Value).ownBlock) v215 t214) ∧ Aside0 (Kd.R (Kd.int .i64) 3 w' w.heap.size (fun k_ => some k_ ≠ (v215 : Value).ownBlock) v218 t217) ∧ Aside0 (Below w.heap.size w w'))
                      case atStart => exact ⟨(0), (by first | rfl | (simp; done) | (simp [*]; done)), H', ⟨Nat.le_refl _⟩, ⟨by (with_reducible repeat (first | apply Kd.R_alloc | apply Kd.R_drewN | apply Kd.R_drew)); exact HO_4.out⟩, ⟨by (with_reducible repeat (first | apply Kd.R_alloc | apply Kd.R_drewN | apply Kd.R_drew)); exact HO_6.out⟩, ⟨by (with_reducible repeat (first | apply Kd.R_alloc | apply Kd.R_drewN | apply Kd.R_drew)); exact HO_7.out⟩, ⟨by repeat (first | (with_reducible first | exact HB.out | apply below_alloc | apply pw_below_drewN | apply below_drew1) | exact HB.out)⟩⟩
                      case round =>
                        clear H'
                        try clear c1
                        try clear p2
                        try clear q2
                        try clear hx2
                        try clear c3
                        try clear c4
                        try clear c5
                        try clear c6
                        try clear c6b0
                        try clear p6
                        try clear c13
                        try clear c13b0
                        try clear c13b1
                        try clear c14
                        try clear c14b0
                        try clear c14b1
                        try clear c15
                        try clear c15b0
                        try clear c16
                        try clear c16b0
                        try clear c17
                        try clear c17b0
                        try clear c17b1
                        try clear c18
                        try clear c18b0
                        try clear c19
                        try clear c19b0
                        try clear c19b1
                        try clear p22
                        try clear q22
                        try clear hx22
                        try clear p23
                        try clear q23
                        try clear hx23
                        try clear c33
                        try clear c34
                        try clear c34b0
                        try clear c35
                        try clear c35b0
                        try clear c39
                        try clear c39b0
                        try clear c40
                        try clear c40b0
                        try clear c41
                        try clear c41b0
                        try clear c42
                        try clear c42b0
                        try clear c43
                        try clear c43b0
                        try clear c43b1
                        try clear c43b2
                        try clear c46
                        try clear c46b0
                        try clear c47
                        try clear c47b0
                        try clear c54
                        try clear c55
                        try clear c55b0
                        try clear c56
                        try clear c56b0
                        try clear c57
                        try clear c57b0
                        try clear c57b1
                        try clear c58
                        try clear c58b0
                        try clear c59
                        try clear c59b0
                        try clear c60
                        try clear c60b0
                        try clear c61
                        try clear c61b0
                        try clear c61b1
                        try clear p64
                        try clear hcz38_0
                        try clear hcz38_1
                        try clear hcz38_2
                        try clear hcz44_0
                        try clear hcz44_1
                        try clear hcz44_2
                        try clear hcz48_0
                        try clear hcz48_1
                        try clear hcz48_2
                        try clear hcz50_0
                        try clear hcz50_1
                        try clear hcz50_2
                        try clear hcz52_0
                        try clear hcz52_1
                        try clear hcz52_2
                        try clear hcz62_0
                        try clear hcz62_1
                        try clear hcz62_2
                        try clear hcz65_0
                        try clear hcz65_1
                        try clear hcz65_2
                        try clear hcz68_0
                        try clear hcz68_1
                        try clear hcz68_2
                        try clear hfz38_0
                        try clear hfz38_1
                        try clear hfz38_2
                        try clear hfz44_0
                        try clear hfz44_1
                        try clear hfz44_2
                        try clear hfz48_0
                        try clear hfz48_1
                        try clear hfz48_2
                        try clear hfz50_0
                        try clear hfz50_1
                        try clear hfz50_2
                        try clear hfz52_0
                        try clear hfz52_1
                        try clear hfz52_2
                        try clear hfz62_0
                        try clear hfz62_1
                        try clear hfz62_2
                        try clear hfz65_0
                        try clear hfz65_1
                        try clear hfz65_2
                        try clear hfz68_0
                        try clear hfz68_1
                        try clear hfz68_2
                        try clear hx220_0
                        try clear hx221_0
                        try clear hx226_0
                        try clear hx226_1
                        try clear hx226_2
                        try clear hx228_0
                        try clear hx229_0
                        try clear hx230_0
                        try clear hx231_0
                        try clear hx232_0
                        try clear hx233_0
                        try clear hx234_0
                        try clear hx235_0
                        try clear hx236_0
                        try clear hx237_0
                        try clear p2
                        try clear p22
                        try clear p220
                        try clear p221
                        try clear p226
                        try clear p228
                        try clear p229
                        try clear p23
                        try clear p230
                        try clear p231
                        try clear p232
                        try clear p233
                        try clear p234
                        try clear p235
                        try clear p236
                        try clear p237
                        try clear p6
                        try clear q2
                        try clear q22
                        try clear q220
                        try clear q221
                        try clear q226
                        try clear q228
                        try clear q229
                        try clear q23
                        try clear q230
                        try clear q231
                        try clear q232
                        try clear q233
                        try clear q234
                        try clear q235
                        try clear q236
                        try clear q237
                        obtain ⟨x10_4, rfl, HA, HK4, HO_4, HO_6, HO_7, HB⟩ := hrel
                        cases gk with
                        | zero => exact absurd HA.out (by simp [laws_FnSites.l2])
                        | succ k4 =>
                          have H := HA.out
                          clear HA
                          simp only [laws_FnSites.l2] at H
                          by_cases c70 : x10_4 < t209
                          · rw [if_pos c70] at H
                            have c70b0 : decide (x10_4 < t209) = true := decide_eq_true c70
                            clear c70
                            by_cases c71 : x10_4 = x5_1
                            · rw [if_pos c71] at H
                              have c71b0 : (x10_4 == x5_1) = true := beq_iff_eq.mpr c71
                              have c71b1 : (x10_4 != x5_1) = false := bne_eq_false_iff_eq.mpr c71
                              clear c71
                              have H' := Aside0.mk H
                              clear H
                              go_wp2
                              repeat (go_quiet (fail); try go_wp2)
                              go_roundg k4
                              case measure => have := HK1.out; have := HJ8.out; have := HK3.out; have := HK4.out; omega
                              case rel => exact ⟨(wrap64 (x10_4 + 1)), (by first | rfl | (simp; done) | (simp [*]; done)), H', ⟨by have := HK1.out; have := HJ8.out; have := HK3.out; have := HK4.out; omega⟩, ⟨by (with_reducible repeat (first | apply Kd.R_alloc | apply Kd.R_drewN | apply Kd.R_drew)); exact HO_4.out⟩, ⟨by (with_reducible repeat (first | apply Kd.R_alloc | apply Kd.R_drewN | apply Kd.R_drew)); exact HO_6.out⟩, ⟨by (with_reducible repeat (first | apply Kd.R_alloc | apply Kd.R_drewN | apply Kd.R_drew)); exact HO_7.out⟩, ⟨by repeat (first | (with_reducible first | exact HB.out | apply below_alloc | apply pw_below_drewN | apply below_drew1) | exact HB.out)⟩⟩
                            · rw [if_neg c71] at H
                              have c71b0 : (x10_4 == x5_1) = false := beq_eq_false_iff_ne.mpr c71
                              have c71b1 : (x10_4 != x5_1) = true := bne_iff_ne.mpr c71
                              by_cases c72 : 0 ≤ x10_4
                              · rw [if_pos c72] at H
                                have c72b0 : decide (0 ≤ x10_4) = true := decide_eq_true c72
                                clear c72
                                by_cases c73 : x10_4 < (t217.length : Int)
                                · rw [if_pos c73] at H
                                  have c73b0 : decide (x10_4 < (t217.length : Int)) = true := decide_eq_true c73
                                  clear c73
                                  by_cases c74 : x10_4 < (t214.length : Int)
                                  · rw [if_pos c74] at H
                                    have c74b0 : decide (x10_4 < (t214.length : Int)) = true := decide_eq_true c74
                                    clear c74
                                    by_cases c75 : ((decide ((rd t217 x10_4) ≥ 0)) != (decide ((rd t214 x10_4) ≥ 0))) = true
                                    · rw [if_pos c75] at H
                                      have c75b0 : ((decide ((rd t217 x10_4) ≥ 0)) != (decide ((rd t214 x10_4) ≥ 0))) = true := c75
                                      (try (have c75b1 : decide ((decide ((rd t217 x10_4) ≥ 0)) = (decide ((rd t214 x10_4) ≥ 0))) = false := by simpa using c75))
                                      (try (have c75b2 : ((decide ((rd t217 x10_4) ≥ 0)) == (decide ((rd t214 x10_4) ≥ 0))) = false := by simpa using c75))
                                      (try (have c75b3 : ¬ ((decide ((rd t217 x10_4) ≥ 0)) = (decide ((rd t214 x10_4) ≥ 0))) := by simpa using c75))
                                      clear c75
                                      obtain rfl := Option.some.inj H
                                      obtain ⟨Ao76, co76, eo76⟩ := Kd.R_slice HO_7.out
                                      subst eo76
                                      have p238 : 0 ≤ (x10_4 : Int) := of_decide_eq_true (by first | (with_reducible assumption) | assumption)
                                      have q238 : x10_4 < (t217.length : Int) := of_decide_eq_true (by first | (with_reducible assumption) | assumption)
                                      obtain ⟨ad238, e238, hx238_0⟩ := Kd.at_int (Kd.R_reads' HO_7.out).2.2 x10_4 p238 q238
                                      cases e238
                                      replace p238 := eq_true p238
                                      replace q238 := eq_true q238
                                      obtain ⟨Ao77, co77, eo77⟩ := Kd.R_slice HO_6.out
                                      subst eo77
                                      have p239 : 0 ≤ (x10_4 : Int) := of_decide_eq_true (by first | (with_reducible assumption) | assumption)
                                      have q239 : x10_4 < (t214.length : Int) := of_decide_eq_true (by first | (with_reducible assumption) | assumption)
                                      obtain ⟨ad239, e239, hx239_0⟩ := Kd.at_int (Kd.R_reads' HO_6.out).2.2 x10_4 p239 q239
                                      cases e239
                                      replace p239 := eq_true p239
                                      replace q239 := eq_true q239
                                      go_wp2
                                      repeat (go_quiet (fail); try go_wp2)
                                      go_ret
                                      exact ⟨by first | rfl | (simp [errW_none, errW_some] <;> rfl) | (simp [*, errW_none, errW_some] <;> rfl), by repeat (first | (with_reducible first | exact HB.out | apply below_alloc | apply pw_below_drewN | apply below_drew1) | exact HB.out)⟩
                                    · rw [if_neg c75] at H
                                      have c75b0 : ((decide ((rd t217 x10_4) ≥ 0)) != (decide ((rd t214 x10_4) ≥ 0))) = false := by simpa using c75
                                      (try (have c75b1 : decide ((decide ((rd t217 x10_4) ≥ 0)) = (decide ((rd t214 x10_4) ≥ 0))) = true := by simpa using c75))
                                      (try (have c75b2 : ((decide ((rd t217 x10_4) ≥ 0)) == (decide ((rd t214 x10_4) ≥ 0))) = true := by simpa using c75))
                                      clear c75
                                      have H' := Aside0.mk H
                                      clear H
                                      obtain ⟨Ao78, co78, eo78⟩ := Kd.R_slice HO_7.out
                                      subst eo78
                                      have p238 : 0 ≤ (x10_4 : Int) := of_decide_eq_true (by first | (with_reducible assumption) | assumption)
                                      have q238 : x10_4 < (t217.length : Int) := of_decide_eq_true (by first | (with_reducible assumption) | assumption)
                                      obtain ⟨ad238, e238, hx238_0⟩ := Kd.at_int (Kd.R_reads' HO_7.out).2.2 x10_4 p238 q238
                                      cases e238
                                      replace p238 := eq_true p238
                                      replace q238 := eq_true q238
                                      obtain ⟨Ao79, co79, eo79⟩ := Kd.R_slice HO_6.out
                                      subst eo79
                                      have p239 : 0 ≤ (x10_4 : Int) := of_decide_eq_true (by first | (with_reducible assumption) | assumption)
                                      have q239 : x10_4 < (t214.length : Int) := of_decide_eq_true (by first | (with_reducible assumption) | assumption)
                                      obtain ⟨ad239, e239, hx239_0⟩ := Kd.at_int (Kd.R_reads' HO_6.out).2.2 x10_4 p239 q239
                                      cases e239
                                      replace p239 := eq_true p239
                                      replace q239 := eq_true q239
                                      go_wp2
                                      repeat (go_quiet (fail); try go_wp2)
                                      go_roundg k4
                                      case measure => have := HK1.out; have := HJ8.out; have := HK3.out; have := HK4.out; omega
                                      case rel => exact ⟨(wrap64 (x10_4 + 1)), (by first | rfl | (simp; done) | (simp [*]; done)), H', ⟨by have := HK1.out; have := HJ8.out; have := HK3.out; have := HK4.out; omega⟩, ⟨by (with_reducible repeat (first | apply Kd.R_alloc | apply Kd.R_drewN | apply Kd.R_drew)); exact HO_4.out⟩, ⟨by (with_reducible repeat (first | apply Kd.R_alloc | apply Kd.R_drewN | apply Kd.R_drew)); exact HO_6.out⟩, ⟨by (with_reducible repeat (first | apply Kd.R_alloc | apply Kd.R_drewN | apply Kd.R_drew)); exact HO_7.out⟩, ⟨by repeat (first | (with_reducible first | exact HB.out | apply below_alloc | apply pw_below_drewN | apply below_drew1) | exact HB.out)⟩⟩
                                  · rw [if_neg c74] at H
                                    exact absurd H (by simp)
                                · rw [if_neg c73] at H
                                  exact absurd H (by simp)
                              · rw [if_neg c72] at H
                                exact absurd H (by simp)
                          · rw [if_neg c70] at H
                            have c70b0 : decide (x10_4 < t209) = false := decide_eq_false c70
                            clear c70
                            have H' := Aside0.mk H
                            clear H
                            go_wp2
                            repeat (go_quiet (fail); try go_wp2)
                            go_roundg k4
                            case measure => have := HK1.out; have := HJ8.out; have := HK3.out; have := HK4.out; omega
                            case rel => exact ⟨(wrap64 (x5_1 + 1)), (by first | rfl | (simp; done) | (simp [*]; done)), H', ⟨by have := HK1.out; have := HJ8.out; have := HK3.out; have := HK4.out; omega⟩, ⟨by (with_reducible repeat (first | apply Kd.R_alloc | apply Kd.R_drewN | apply Kd.R_drew)); exact HO_4.out⟩, ⟨by repeat (first | (with_reducible first | exact HB.out | apply below_alloc | apply pw_below_drewN | apply below_drew1) | exact HB.out)⟩⟩
        · rw [if_neg c6] at H
          have c6b0 : decide (x5_1 < t209) = false := decide_eq_false c6
          clear c6
          replace H := Option.bind_eq_some_iff.mp H
          obtain ⟨t213, A800, H⟩ := H
          replace H : (some t213) = some r := H
          have A80 := Aside0.mk A800
          clear A800
          obtain rfl := Option.some.inj H
          obtain ⟨Ao81, co81, eo81⟩ := Kd.R_slice HO_4.out
          subst eo81
          go_wp2_with (first | (go_at_call 22; (with_reducible refine (impl_RoadsOk.calls k1 t209 _ _ t210 t213 _ ?side1 ?side2 A80.out).mono ?_); (case side1 => repeat (first | exact (Kd.R_reads' HO_4.out).2.2 | (with_reducible refine Kd.C_alloc ?_ _) | (with_reducible refine Kd.C_drewN ?_ _) | (with_reducible refine Kd.C_drew ?_))); (case side2 => exact (Kd.R_reads' HO_4.out).2.1); rintro e w82 ⟨rfl, hb⟩; have n0_ := Aside0.mk (Kd.R_below (by (with_reducible repeat (first | apply Kd.R_alloc | apply Kd.R_drewN | apply Kd.R_drew)); exact HO_4.out) hb); have n1_ := Aside0.mk (below_step (by repeat (first | (with_reducible first | exact HB.out | apply below_alloc | apply pw_below_drewN | apply below_drew1) | exact HB.out)) hb); clear HO_4; clear HB; have HO_4 := n0_; have HB := n1_; clear n0_ n1_; (try clear hb); (try clear hb2); (try clear hk); (try clear hi)))
          repeat (go_quiet (first | (go_at_call 22; (with_reducible refine (impl_RoadsOk.calls k1 t209 _ _ t210 t213 _ ?side1 ?side2 A80.out).mono ?_); (case side1 => repeat (first | exact (Kd.R_reads' HO_4.out).2.2 | (with_reducible refine Kd.C_alloc ?_ _) | (with_reducible refine Kd.C_drewN ?_ _) | (with_reducible refine Kd.C_drew ?_))); (case side2 => exact (Kd.R_reads' HO_4.out).2.1); rintro e w82 ⟨rfl, hb⟩; have n0_ := Aside0.mk (Kd.R_below (by (with_reducible repeat (first | apply Kd.R_alloc | apply Kd.R_drewN | apply Kd.R_drew)); exact HO_4.out) hb); have n1_ := Aside0.mk (below_step (by repeat (first | (with_reducible first | exact HB.out | apply below_alloc | apply pw_below_drewN | apply below_drew1) | exact HB.out)) hb); clear HO_4; clear HB; have HO_4 := n0_; have HB := n1_; clear n0_ n1_; (try clear hb); (try clear hb2); (try clear hk); (try clear hi))); try go_wp2_with (first | (go_at_call 22; (with_reducible refine (impl_RoadsOk.calls k1 t209 _ _ t210 t213 _ ?side1 ?side2 A80.out).mono ?_); (case side1 => repeat (first | exact (Kd.R_reads' HO_4.out).2.2 | (with_reducible refine Kd.C_alloc ?_ _) | (with_reducible refine Kd.C_drewN ?_ _) | (with_reducible refine Kd.C_drew ?_))); (case side2 => exact (Kd.R_reads' HO_4.out).2.1); rintro e w82 ⟨rfl, hb⟩; have n0_ := Aside0.mk (Kd.R_below (by (with_reducible repeat (first | apply Kd.R_alloc | apply Kd.R_drewN | apply Kd.R_drew)); exact HO_4.out) hb); have n1_ := Aside0.mk (below_step (by repeat (first | (with_reducible first | exact HB.out | apply below_alloc | apply pw_below_drewN | apply below_drew1) | exact HB.out)) hb); clear HO_4; clear HB; have HO_4 := n0_; have HB := n1_; clear n0_ n1_; (try clear hb); (try clear hb2); (try clear hk); (try clear hi))))
          go_ret
          exact ⟨by first | rfl | (simp [errW_none, errW_some] <;> rfl) | (simp [*, errW_none, errW_some] <;> rfl), by repeat (first | (with_reducible first | exact HB.out | apply below_alloc | apply pw_below_drewN | apply below_drew1) | exact HB.out)⟩

/-- THE ONE PURE STATEMENT of laws_FnSites: yours. -/
def laws_FnSites.Pure : Prop := ∀ (l0 : List Int), l0.length ≤ maxLen → l0.length * 1 ≤ 140737488351232 → (∀ x ∈ l0, (Lit.int .u8 x).wf = true) → ∃ k, laws_FnSites.f k l0 = some true
theorem laws_FnSites.walk (P : laws_FnSites.Pure) (a0 : Option Addr) (len0 cap0 : Nat) (z0 : List Int) (w : World) (w0 : (a0 = none ∧ len0 = 0 ∧ cap0 = 0 ∧ z0 = []) ∨ ∃ x, a0 = some x ∧ len0 ≤ cap0 ∧ cap0 ≤ maxLen ∧ z0.length = cap0 ∧ (∀ i, i < z0.length → w.cell? (x.add i) = some (.int .u8 (z0.getD i 0))) ∧ ∀ n ∈ z0, (Lit.int .u8 n).wf = true) (y0 : len0 * 1 ≤ 140737488351232) :
    Calls Try.prog 5 #[.slice a0 len0 cap0] w fun e w' => e = .returned (.bool true) ∧ Below w.heap.size w w' := by
  obtain ⟨l0, rfl, hr0, hm0, hw0, hc0⟩ := ReadsInt.ofRowC w0
  obtain ⟨k, h⟩ := P l0 hm0 y0 hw0
  refine (laws_FnSites.calls k _ _ l0 true w (Kd.C_of_reads (d := (0 : Int)) (h1 := fun _ => rfl) hr0) hc0 h).mono ?_
  rintro e w' ⟨rfl, hd⟩
  exact ⟨rfl, hd⟩

end Go.Proofs.Ytokoihmjcfhemaa.PFnSites
