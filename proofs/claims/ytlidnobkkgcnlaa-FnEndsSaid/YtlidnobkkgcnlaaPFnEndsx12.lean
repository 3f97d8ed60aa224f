-- Written by a program out of the translation, for this claim.
import Derived.Test.YtlidnobkkgcnlaaPFnEndsx0
import Derived.Test.YtlidnobkkgcnlaaPFnEndsx2
import Derived.Test.YtlidnobkkgcnlaaPFnEndsx3
import Derived.Test.YtlidnobkkgcnlaaPFnEndsx4
import Derived.Test.YtlidnobkkgcnlaaPFnEndsx5
import Derived.Test.YtlidnobkkgcnlaaPFnEndsx6
import Derived.Test.YtlidnobkkgcnlaaPFnEndsx7
import Derived.Test.YtlidnobkkgcnlaaPFnEndsx11
namespace Go.Proofs.Ytlidnobkkgcnlaa.PFnEnds
open Go.RowKit Go.Proofs.YtlidnobkkgcnlaaW.PrintWords Go.Proofs.YtlidnobkkgcnlaaW.PrintLast Go.Proofs.YtlidnobkkgcnlaaW.PrintMore
attribute [local go_sem] max2_int min2_int max_two min_two max_three min_three max_four min_four   -- for this text's walks alone
set_option linter.unusedVariables false
set_option linter.unusedSimpArgs false
theorem rrA {p q : Prop} (h : p) (f : p → q := by (intro h_; (with_reducible repeat (first | apply Kd.R_alloc | apply Kd.R_drewN | apply Kd.R_drew)); exact h_)) : q := f h
theorem rrB {p q : Prop} (h : p) (f : p → q := by (intro h_; (with_reducible repeat (first | refine blk_drewN ?_ _ | refine blk_drew ?_ | refine blk_alloc ?_ _)); exact h_)) : q := f h

/-! ### laws_FnEnds: function 8 -/
mutual
def laws_FnEnds.j0 : Nat → List ByteArray → Option (Bool)
  | 0, _ => none
  | k + 1, x3 => laws_FnEnds.l0 k x3 0 0 0 0 ([] : List ByteArray) 0 ([] : List ByteArray)
def laws_FnEnds.l0 : Nat → List ByteArray → Int → Int → Int → Int → List ByteArray → Int → List ByteArray → Option (Bool)
  | 0, _, _, _, _, _, _, _, _ => none
  | k + 1, x3, x6, x7, x274000, x274001, x274002, x274003, x274004 => if x7 < (x3.length : Int) then (if 0 ≤ x7 then ((impl_Offer.f k x274000 x274001 x274002 x274003 x274004 (rdOf ByteArray.empty x3 x7)).bind fun bt275 => (if bt275.2.2.2.2.2 = true then (laws_FnEnds.l0 k x3 (wrap64 (x6 + 1)) (wrap64 (x7 + 1)) bt275.1 bt275.2.1 bt275.2.2.1 bt275.2.2.2.1 bt275.2.2.2.2.1) else (laws_FnEnds.l0 k x3 x6 (wrap64 (x7 + 1)) x274000 x274001 x274002 x274003 x274004))) else (none)) else (laws_FnEnds.l1 k x6 0 x274000 x274001 x274002 x274003 x274004 0 0 ([] : List ByteArray) 0 ([] : List ByteArray))
def laws_FnEnds.l1 : Nat → Int → Int → Int → Int → List ByteArray → Int → List ByteArray → Int → Int → List ByteArray → Int → List ByteArray → Option (Bool)
  | 0, _, _, _, _, _, _, _, _, _, _, _, _ => none
  | k + 1, x6, x11, x274000, x274001, x274002, x274003, x274004, x287000, x287001, x287002, x287003, x287004 => if x11 < 12 then ((impl_SendNew.f k x274000 x274001 x274002 x274003 x274004).bind fun bt287 => ((impl_SendAgain.f k bt287.1 bt287.2.1 bt287.2.2.1 bt287.2.2.2.1 bt287.2.2.2.2.1).bind fun t300 => (if bt287.2.2.2.2.2.length + t300.length < 4398046511104 then (laws_FnEnds.l2 k x6 x11 (bt287.2.2.2.2.2 ++ t300) 0 bt287.1 bt287.2.1 bt287.2.2.1 bt287.2.2.2.1 bt287.2.2.2.2.1 x287000 x287001 x287002 x287003 x287004) else (none)))) else (if (x287004.length : Int) = x6 then (if x287003 = x6 then (if x274001 = x6 then (some ((x274002.length : Int) == 0)) else (some false)) else (some false)) else (some false))
def laws_FnEnds.l2 : Nat → Int → Int → List (S36) → Int → Int → Int → List ByteArray → Int → List ByteArray → Int → Int → List ByteArray → Int → List ByteArray → Option (Bool)
  | 0, _, _, _, _, _, _, _, _, _, _, _, _, _, _ => none
  | k + 1, x6, x11, x13, x14, x274000, x274001, x274002, x274003, x274004, x287000, x287001, x287002, x287003, x287004 => if x14 < (x13.length : Int) then (if 0 ≤ x14 then ((impl_Receive.f k x287000 x287001 x287002 x287003 x287004 ((rd_T36 x13 x14).f0) ((rd_T36 x13 x14).f1) ((rd_T36 x13 x14).f2)).bind fun bt307 => (laws_FnEnds.l2 k x6 x11 x13 (wrap64 (x14 + 1)) x274000 x274001 x274002 x274003 x274004 bt307.1 bt307.2.1 bt307.2.2.1 bt307.2.2.2.1 bt307.2.2.2.2.1)) else (none)) else ((impl_SendAgain.f k x287000 x287001 x287002 x287003 x287004).bind fun t317 => (laws_FnEnds.l3 k x6 x11 t317 0 x274000 x274001 x274002 x274003 x274004 x287000 x287001 x287002 x287003 x287004))
def laws_FnEnds.l3 : Nat → Int → Int → List (S36) → Int → Int → Int → List ByteArray → Int → List ByteArray → Int → Int → List ByteArray → Int → List ByteArray → Option (Bool)
  | 0, _, _, _, _, _, _, _, _, _, _, _, _, _, _ => none
  | k + 1, x6, x11, x15, x16, x274000, x274001, x274002, x274003, x274004, x287000, x287001, x287002, x287003, x287004 => if x16 < (x15.length : Int) then (if 0 ≤ x16 then ((impl_Receive.f k x274000 x274001 x274002 x274003 x274004 ((rd_T36 x15 x16).f0) ((rd_T36 x15 x16).f1) ((rd_T36 x15 x16).f2)).bind fun bt321 => (laws_FnEnds.l3 k x6 x11 x15 (wrap64 (x16 + 1)) bt321.1 bt321.2.1 bt321.2.2.1 bt321.2.2.2.1 bt321.2.2.2.2.1 x287000 x287001 x287002 x287003 x287004)) else (none)) else ((impl_EndOk.f k x274000 x274001 x274002 x274003 x274004).bind fun t331 => (if t331 = true then ((impl_EndOk.f k x287000 x287001 x287002 x287003 x287004).bind fun t332 => (if t332 = true then (laws_FnEnds.l1 k x6 (wrap64 (x11 + 1)) x274000 x274001 x274002 x274003 x274004 x287000 x287001 x287002 x287003 x287004) else (some false))) else (some false)))
end
def laws_FnEnds.f (k : Nat) (l0 : List Int) : Option (Bool) := (laws_big.f l0).bind fun t263 => (if t263 = true then (some true) else ((spec_DrawTalk.f k l0).bind fun bt264 => (if (bt264.1.length : Int) > 8 then (if 8 ≤ (bt264.1.length : Int) then (laws_FnEnds.j0 k (bt264.1.take (8 : Int).toNat)) else (none)) else (laws_FnEnds.j0 k bt264.1))))
theorem laws_FnEnds.mono_l : ∀ k, (∀ y0, LeO (laws_FnEnds.j0 k y0) (laws_FnEnds.j0 (k + 1) y0)) ∧ (∀ y0 y1 y2 y3 y4 y5 y6 y7, LeO (laws_FnEnds.l0 k y0 y1 y2 y3 y4 y5 y6 y7) (laws_FnEnds.l0 (k + 1) y0 y1 y2 y3 y4 y5 y6 y7)) ∧ (∀ y0 y1 y2 y3 y4 y5 y6 y7 y8 y9 y10 y11, LeO (laws_FnEnds.l1 k y0 y1 y2 y3 y4 y5 y6 y7 y8 y9 y10 y11) (laws_FnEnds.l1 (k + 1) y0 y1 y2 y3 y4 y5 y6 y7 y8 y9 y10 y11)) ∧ (∀ y0 y1 y2 y3 y4 y5 y6 y7 y8 y9 y10 y11 y12 y13, LeO (laws_FnEnds.l2 k y0 y1 y2 y3 y4 y5 y6 y7 y8 y9 y10 y11 y12 y13) (laws_FnEnds.l2 (k + 1) y0 y1 y2 y3 y4 y5 y6 y7 y8 y9 y10 y11 y12 y13)) ∧ (∀ y0 y1 y2 y3 y4 y5 y6 y7 y8 y9 y10 y11 y12 y13, LeO (laws_FnEnds.l3 k y0 y1 y2 y3 y4 y5 y6 y7 y8 y9 y10 y11 y12 y13) (laws_FnEnds.l3 (k + 1) y0 y1 y2 y3 y4 y5 y6 y7 y8 y9 y10 y11 y12 y13))
  | 0 => ⟨fun _ r h => by simp [laws_FnEnds.j0] at h, fun _ _ _ _ _ _ _ _ r h => by simp [laws_FnEnds.l0] at h, fun _ _ _ _ _ _ _ _ _ _ _ _ r h => by simp [laws_FnEnds.l1] at h, fun _ _ _ _ _ _ _ _ _ _ _ _ _ _ r h => by simp [laws_FnEnds.l2] at h, fun _ _ _ _ _ _ _ _ _ _ _ _ _ _ r h => by simp [laws_FnEnds.l3] at h⟩
  | k + 1 => by
   obtain ⟨ih0, ih1, ih2, ih3, ih4⟩ := laws_FnEnds.mono_l k
   refine ⟨?_, ?_, ?_, ?_, ?_⟩
   ·
    intro y0
    unfold laws_FnEnds.j0
    repeat' first
    | (with_reducible exact ih0 _)
    | (with_reducible exact ih1 _ _ _ _ _ _ _ _)
    | (with_reducible exact ih2 _ _ _ _ _ _ _ _ _ _ _ _)
    | (with_reducible exact ih3 _ _ _ _ _ _ _ _ _ _ _ _ _ _)
    | (with_reducible exact ih4 _ _ _ _ _ _ _ _ _ _ _ _ _ _)
    | (with_reducible exact impl_EndOk.mono _ _ _ _ _ _)
    | (with_reducible exact impl_Offer.mono _ _ _ _ _ _ _)
    | (with_reducible exact impl_Receive.mono _ _ _ _ _ _ _ _ _)
    | (with_reducible exact impl_SendAgain.mono _ _ _ _ _ _)
    | (with_reducible exact impl_SendNew.mono _ _ _ _ _ _)
    | (with_reducible exact spec_DrawTalk.mono _ _)
    | (with_reducible exact LeO.refl _)
    | (with_reducible exact LeO.none _)
    | (with_reducible refine LeO.ite ?_ ?_)
    | (with_reducible refine LeO.bind ?_ (fun _ => ?_))
    | exact ih0 _
    | exact ih1 _ _ _ _ _ _ _ _
    | exact ih2 _ _ _ _ _ _ _ _ _ _ _ _
    | exact ih3 _ _ _ _ _ _ _ _ _ _ _ _ _ _
    | exact ih4 _ _ _ _ _ _ _ _ _ _ _ _ _ _
    | exact impl_EndOk.mono _ _ _ _ _ _
    | exact impl_Offer.mono _ _ _ _ _ _ _
    | exact impl_Receive.mono _ _ _ _ _ _ _ _ _
    | exact impl_SendAgain.mono _ _ _ _ _ _
    | exact impl_SendNew.mono _ _ _ _ _ _
    | exact spec_DrawTalk.mono _ _
    | exact LeO.none _
    | refine LeO.ite ?_ ?_
    | refine LeO.bind ?_ (fun _ => ?_)
   ·
    intro y0 y1 y2 y3 y4 y5 y6 y7
    unfold laws_FnEnds.l0
    repeat' first
    | (with_reducible exact ih0 _)
    | (with_reducible exact ih1 _ _ _ _ _ _ _ _)
    | (with_reducible exact ih2 _ _ _ _ _ _ _ _ _ _ _ _)
    | (with_reducible exact ih3 _ _ _ _ _ _ _ _ _ _ _ _ _ _)
    | (with_reducible exact ih4 _ _ _ _ _ _ _ _ _ _ _ _ _ _)
    | (with_reducible exact impl_EndOk.mono _ _ _ _ _ _)
    | (with_reducible exact impl_Offer.mono _ _ _ _ _ _ _)
    | (with_reducible exact impl_Receive.mono _ _ _ _ _ _ _ _ _)
    | (with_reducible exact impl_SendAgain.mono _ _ _ _ _ _)
    | (with_reducible exact impl_SendNew.mono _ _ _ _ _ _)
    | (with_reducible exact spec_DrawTalk.mono _ _)
    | (with_reducible exact LeO.refl _)
    | (with_reducible exact LeO.none _)
    | (with_reducible refine LeO.ite ?_ ?_)
    | (with_reducible refine LeO.bind ?_ (fun _ => ?_))
    | exact ih0 _
    | exact ih1 _ _ _ _ _ _ _ _
    | exact ih2 _ _ _ _ _ _ _ _ _ _ _ _
    | exact ih3 _ _ _ _ _ _ _ _ _ _ _ _ _ _
    | exact ih4 _ _ _ _ _ _ _ _ _ _ _ _ _ _
    | exact impl_EndOk.mono _ _ _ _ _ _
    | exact impl_Offer.mono _ _ _ _ _ _ _
    | exact impl_Receive.mono _ _ _ _ _ _ _ _ _
    | exact impl_SendAgain.mono _ _ _ _ _ _
    | exact impl_SendNew.mono _ _ _ _ _ _
    | exact spec_DrawTalk.mono _ _
    | exact LeO.none _
    | refine LeO.ite ?_ ?_
    | refine LeO.bind ?_ (fun _ => ?_)
   ·
    intro y0 y1 y2 y3 y4 y5 y6 y7 y8 y9 y10 y11
    unfold laws_FnEnds.l1
    repeat' first
    | (with_reducible exact ih0 _)
    | (with_reducible exact ih1 _ _ _ _ _ _ _ _)
    | (with_reducible exact ih2 _ _ _ _ _ _ _ _ _ _ _ _)
    | (with_reducible exact ih3 _ _ _ _ _ _ _ _ _ _ _ _ _ _)
    | (with_reducible exact ih4 _ _ _ _ _ _ _ _ _ _ _ _ _ _)
    | (with_reducible exact impl_EndOk.mono _ _ _ _ _ _)
    | (with_reducible exact impl_Offer.mono _ _ _ _ _ _ _)
    | (with_reducible exact impl_Receive.mono _ _ _ _ _ _ _ _ _)
    | (with_reducible exact impl_SendAgain.mono _ _ _ _ _ _)
    | (with_reducible exact impl_SendNew.mono _ _ _ _ _ _)
    | (with_reducible exact spec_DrawTalk.mono _ _)
    | (with_reducible exact LeO.refl _)
    | (with_reducible exact LeO.none _)
    | (with_reducible refine LeO.ite ?_ ?_)
    | (with_reducible refine LeO.bind ?_ (fun _ => ?_))
    | exact ih0 _
    | exact ih1 _ _ _ _ _ _ _ _
    | exact ih2 _ _ _ _ _ _ _ _ _ _ _ _
    | exact ih3 _ _ _ _ _ _ _ _ _ _ _ _ _ _
    | exact ih4 _ _ _ _ _ _ _ _ _ _ _ _ _ _
    | exact impl_EndOk.mono _ _ _ _ _ _
    | exact impl_Offer.mono _ _ _ _ _ _ _
    | exact impl_Receive.mono _ _ _ _ _ _ _ _ _
    | exact impl_SendAgain.mono _ _ _ _ _ _
    | exact impl_SendNew.mono _ _ _ _ _ _
    | exact spec_DrawTalk.mono _ _
    | exact LeO.none _
    | refine LeO.ite ?_ ?_
    | refine LeO.bind ?_ (fun _ => ?_)
   ·
    intro y0 y1 y2 y3 y4 y5 y6 y7 y8 y9 y10 y11 y12 y13
    unfold laws_FnEnds.l2
    repeat' first
    | (with_reducible exact ih0 _)
    | (with_reducible exact ih1 _ _ _ _ _ _ _ _)
    | (with_reducible exact ih2 _ _ _ _ _ _ _ _ _ _ _ _)
    | (with_reducible exact ih3 _ _ _ _ _ _ _ _ _ _ _ _ _ _)
    | (with_reducible exact ih4 _ _ _ _ _ _ _ _ _ _ _ _ _ _)
    | (with_reducible exact impl_EndOk.mono _ _ _ _ _ _)
    | (with_reducible exact impl_Offer.mono _ _ _ _ _ _ _)
    | (with_reducible exact impl_Receive.mono _ _ _ _ _ _ _ _ _)
    | (with_reducible exact impl_SendAgain.mono _ _ _ _ _ _)
    | (with_reducible exact impl_SendNew.mono _ _ _ _ _ _)
    | (with_reducible exact spec_DrawTalk.mono _ _)
    | (with_reducible exact LeO.refl _)
    | (with_reducible exact LeO.none _)
    | (with_reducible refine LeO.ite ?_ ?_)
    | (with_reducible refine LeO.bind ?_ (fun _ => ?_))
    | exact ih0 _
    | exact ih1 _ _ _ _ _ _ _ _
    | exact ih2 _ _ _ _ _ _ _ _ _ _ _ _
    | exact ih3 _ _ _ _ _ _ _ _ _ _ _ _ _ _
    | exact ih4 _ _ _ _ _ _ _ _ _ _ _ _ _ _
    | exact impl_EndOk.mono _ _ _ _ _ _
    | exact impl_Offer.mono _ _ _ _ _ _ _
    | exact impl_Receive.mono _ _ _ _ _ _ _ _ _
    | exact impl_SendAgain.mono _ _ _ _ _ _
    | exact impl_SendNew.mono _ _ _ _ _ _
    | exact spec_DrawTalk.mono _ _
    | exact LeO.none _
    | refine LeO.ite ?_ ?_
    | refine LeO.bind ?_ (fun _ => ?_)
   ·
    intro y0 y1 y2 y3 y4 y5 y6 y7 y8 y9 y10 y11 y12 y13
    unfold laws_FnEnds.l3
    repeat' first
    | (with_reducible exact ih0 _)
    | (with_reducible exact ih1 _ _ _ _ _ _ _ _)
    | (with_reducible exact ih2 _ _ _ _ _ _ _ _ _ _ _ _)
    | (with_reducible exact ih3 _ _ _ _ _ _ _ _ _ _ _ _ _ _)
    | (with_reducible exact ih4 _ _ _ _ _ _ _ _ _ _ _ _ _ _)
    | (with_reducible exact impl_EndOk.mono _ _ _ _ _ _)
    | (with_reducible exact impl_Offer.mono _ _ _ _ _ _ _)
    | (with_reducible exact impl_Receive.mono _ _ _ _ _ _ _ _ _)
    | (with_reducible exact impl_SendAgain.mono _ _ _ _ _ _)
    | (with_reducible exact impl_SendNew.mono _ _ _ _ _ _)
    | (with_reducible exact spec_DrawTalk.mono _ _)
    | (with_reducible exact LeO.refl _)
    | (with_reducible exact LeO.none _)
    | (with_reducible refine LeO.ite ?_ ?_)
    | (with_reducible refine LeO.bind ?_ (fun _ => ?_))
    | exact ih0 _
    | exact ih1 _ _ _ _ _ _ _ _
    | exact ih2 _ _ _ _ _ _ _ _ _ _ _ _
    | exact ih3 _ _ _ _ _ _ _ _ _ _ _ _ _ _
    | exact ih4 _ _ _ _ _ _ _ _ _ _ _ _ _ _
    | exact impl_EndOk.mono _ _ _ _ _ _
    | exact impl_Offer.mono _ _ _ _ _ _ _
    | exact impl_Receive.mono _ _ _ _ _ _ _ _ _
    | exact impl_SendAgain.mono _ _ _ _ _ _
    | exact impl_SendNew.mono _ _ _ _ _ _
    | exact spec_DrawTalk.mono _ _
    | exact LeO.none _
    | refine LeO.ite ?_ ?_
    | refine LeO.bind ?_ (fun _ => ?_)
theorem laws_FnEnds.mono : ∀ a0 k, LeO (laws_FnEnds.f k a0) (laws_FnEnds.f (k + 1) a0) := by
  intro a0 k
  obtain ⟨ih0, ih1, ih2, ih3, ih4⟩ := laws_FnEnds.mono_l k
  unfold laws_FnEnds.f
  repeat' first
    | (with_reducible exact ih0 _)
    | (with_reducible exact ih1 _ _ _ _ _ _ _ _)
    | (with_reducible exact ih2 _ _ _ _ _ _ _ _ _ _ _ _)
    | (with_reducible exact ih3 _ _ _ _ _ _ _ _ _ _ _ _ _ _)
    | (with_reducible exact ih4 _ _ _ _ _ _ _ _ _ _ _ _ _ _)
    | (with_reducible exact impl_EndOk.mono _ _ _ _ _ _)
    | (with_reducible exact impl_Offer.mono _ _ _ _ _ _ _)
    | (with_reducible exact impl_Receive.mono _ _ _ _ _ _ _ _ _)
    | (with_reducible exact impl_SendAgain.mono _ _ _ _ _ _)
    | (with_reducible exact impl_SendNew.mono _ _ _ _ _ _)
    | (with_reducible exact spec_DrawTalk.mono _ _)
    | (with_reducible exact LeO.refl _)
    | (with_reducible exact LeO.none _)
    | (with_reducible refine LeO.ite ?_ ?_)
    | (with_reducible refine LeO.bind ?_ (fun _ => ?_))
    | exact ih0 _
    | exact ih1 _ _ _ _ _ _ _ _
    | exact ih2 _ _ _ _ _ _ _ _ _ _ _ _
    | exact ih3 _ _ _ _ _ _ _ _ _ _ _ _ _ _
    | exact ih4 _ _ _ _ _ _ _ _ _ _ _ _ _ _
    | exact impl_EndOk.mono _ _ _ _ _ _
    | exact impl_Offer.mono _ _ _ _ _ _ _
    | exact impl_Receive.mono _ _ _ _ _ _ _ _ _
    | exact impl_SendAgain.mono _ _ _ _ _ _
    | exact impl_SendNew.mono _ _ _ _ _ _
    | exact spec_DrawTalk.mono _ _
    | exact LeO.none _
    | refine LeO.ite ?_ ?_
    | refine LeO.bind ?_ (fun _ => ?_)
def laws_FnEnds.T11 : Bool × List (List Nat × List Nat) := (true, [([], []), ([], []), ([], []), ([1, 2], [1, 2]), ([3], [3]), ([0, 4], [0, 4]), ([5], [5]), ([6], [6]), ([6], [6]), ([], []), ([9, 7, 5, 0, 1, 2, 3, 4, 5, 6, 7, 9], [7, 9]), ([8, 10, 0, 1, 2, 3, 4, 5, 6, 7, 8, 9, 10], [8])])
def laws_FnEnds.B11 : List Nat := [0, 0, 0, 6, 14, 31, 63, 127, 127, 0, 767, 2047]
theorem laws_FnEnds.tab11 : rtab .any (opsOf Try.f8 11) = laws_FnEnds.T11 := by kernel_rfl
theorem laws_FnEnds.bits11 : waitsOk laws_FnEnds.T11.2 laws_FnEnds.B11 = true := by kernel_rfl
def laws_FnEnds.T25 : Bool × List (List Nat × List Nat) := (true, [([], []), ([], []), ([], []), ([1, 2], [1, 2]), ([3], [3]), ([0, 4], [0, 4]), ([5], [5]), ([6], [6]), ([6], [6]), ([7, 5, 0, 1, 2, 3, 4, 5, 6, 7], [7])])
def laws_FnEnds.B25 : List Nat := [0, 0, 0, 6, 14, 31, 63, 127, 127, 255]
theorem laws_FnEnds.tab25 : rtab .any (opsOf Try.f8 25) = laws_FnEnds.T25 := by kernel_rfl
theorem laws_FnEnds.bits25 : waitsOk laws_FnEnds.T25.2 laws_FnEnds.B25 = true := by kernel_rfl
def laws_FnEnds.T30 : Bool × List (List Nat × List Nat) := (true, [([], []), ([], []), ([], []), ([1, 2], [1, 2]), ([3], [3]), ([0, 4], [0, 4]), ([5], [5]), ([6], [6]), ([6], [6]), ([7, 5, 0, 1, 2, 3, 4, 5, 6, 7], [7])])
def laws_FnEnds.B30 : List Nat := [0, 0, 0, 6, 14, 31, 63, 127, 127, 255]
theorem laws_FnEnds.tab30 : rtab .any (opsOf Try.f8 30) = laws_FnEnds.T30 := by kernel_rfl
theorem laws_FnEnds.bits30 : waitsOk laws_FnEnds.T30.2 laws_FnEnds.B30 = true := by kernel_rfl
set_option maxHeartbeats 8000000 in
set_option maxRecDepth 100000 in
theorem laws_FnEnds.calls (k : Nat) (A0 : Option Addr) (c0 : Nat) (l0 : List Int) (r : Bool) (w : World) (hr0 : Kd.C (Kd.int .u8) w A0 l0.length l0) (hc0 : l0.length ≤ c0) (h : laws_FnEnds.f k l0 = some r) :
   Calls Try.prog 8 #[.slice A0 l0.length c0] w fun e w' => e = .returned (.bool r) ∧ Below w.heap.size w w' := by
  have hu26 := Try.underlying26
  have hu36 := Try.underlying36
  have HR0 := Aside0.mk hr0
  have HC0 := Aside0.mk hc0
  clear hr0 hc0
  have HB := Aside0.mk (Below.refl w.heap.size w)
  have H : ((laws_big.f l0).bind fun t263 => (if t263 = true then (some true) else ((spec_DrawTalk.f k l0).bind fun bt264 => (if (bt264.1.length : Int) > 8 then (if 8 ≤ (bt264.1.length : Int) then (laws_FnEnds.j0 k (bt264.1.take (8 : Int).toNat)) else (none)) else (laws_FnEnds.j0 k bt264.1))))) = some r := h
  clear h
  replace H := Option.bind_eq_some_iff.mp H
  obtain ⟨t263, A20, H⟩ := H
  replace H : (if t263 = true then (some true) else ((spec_DrawTalk.f k l0).bind fun bt264 => (if (bt264.1.length : Int) > 8 then (if 8 ≤ (bt264.1.length : Int) then (laws_FnEnds.j0 k (bt264.1.take (8 : Int).toNat)) else (none)) else (laws_FnEnds.j0 k bt264.1)))) = some r := H
  have A2 := Aside0.mk A20
  clear A20
  by_cases c3 : t263 = true
  ·
   subst c3
   have H1 : (some true) = some r := by rw [if_pos rfl] at H; exact H
   clear H; have H := H1; clear H1
   obtain rfl := Option.some.inj H
   go_enter Try.func8, Try.ntmps8
   go_wp2_with (first | ((with_reducible refine gate_callee (f := 18) rfl ?_); refine goesL_ (some 18) rfl rfl Try.func18 (by kernel_rfl) rfl #[.slice A0 l0.length c0] rfl (by (try simp only [List.map_toArray, List.map_cons, List.map_nil]); first | done | rfl | (simp only [List.length_drop, List.length_take]; rfl)) ?_; (with_reducible refine (laws_big.calls _ _ l0 true _ ?side1 ?side2 A2.out).mono ?_); (case side1 => repeat (first | exact HR0.out | (with_reducible refine Kd.C_alloc ?_ _) | (with_reducible refine Kd.C_drewN ?_ _) | (with_reducible refine Kd.C_drew ?_))); (case side2 => exact HC0.out); rintro e w' ⟨rfl, ⟨nd, rfl⟩⟩; refine ⟨_, rfl, ?_⟩))
   go_ret
   exact ⟨by first | rfl | (simp [errW_none, errW_some] <;> rfl) | (simp [*, errW_none, errW_some] <;> rfl), by repeat (first | (with_reducible first | exact HB.out | apply below_alloc | apply pw_below_drewN | apply below_drew1) | exact HB.out)⟩
  ·
   replace c3 := Bool.eq_false_iff.mpr c3
   subst c3
   have H1 : ((spec_DrawTalk.f k l0).bind fun bt264 => (if (bt264.1.length : Int) > 8 then (if 8 ≤ (bt264.1.length : Int) then (laws_FnEnds.j0 k (bt264.1.take (8 : Int).toNat)) else (none)) else (laws_FnEnds.j0 k bt264.1))) = some r := by rw [if_neg (show ¬ (false = true) by decide)] at H; exact H
   clear H; have H := H1; clear H1
   replace H := Option.bind_eq_some_iff.mp H
   obtain ⟨⟨t264, t265⟩, A40, H⟩ := H
   replace H : (if (t264.length : Int) > 8 then (if 8 ≤ (t264.length : Int) then (laws_FnEnds.j0 k (t264.take (8 : Int).toNat)) else (none)) else (laws_FnEnds.j0 k t264)) = some r := H
   have A4 := Aside0.mk A40
   clear A40
   have HC5 := Aside0.mk H
   clear H
   go_enter Try.func8, Try.ntmps8
   go_upto_if 26 with (first | ((with_reducible refine gate_callee (f := 18) rfl ?_); refine goesL_ (some 18) rfl rfl Try.func18 (by kernel_rfl) rfl #[.slice A0 l0.length c0] rfl (by (try simp only [List.map_toArray, List.map_cons, List.map_nil]); first | done | rfl | (simp only [List.length_drop, List.length_take]; rfl)) ?_; (with_reducible refine (laws_big.calls _ _ l0 false _ ?side1 ?side2 A2.out).mono ?_); (case side1 => repeat (first | exact HR0.out | (with_reducible refine Kd.C_alloc ?_ _) | (with_reducible refine Kd.C_drewN ?_ _) | (with_reducible refine Kd.C_drew ?_))); (case side2 => exact HC0.out); rintro e w' ⟨rfl, ⟨nd, rfl⟩⟩; refine ⟨_, rfl, ?_⟩) | ((with_reducible refine gate_callee (f := 33) rfl ?_); refine goesL_ (some 21) rfl rfl Try.func33 (by kernel_rfl) rfl #[.slice A0 l0.length c0] rfl (by (try simp only [List.map_toArray, List.map_cons, List.map_nil]); first | done | rfl | (simp only [List.length_drop, List.length_take]; rfl)) ?_; (with_reducible refine (spec_DrawTalk.calls k _ _ l0 t264 t265 _ ?side1 ?side2 A4.out).mono ?_); (case side1 => repeat (first | exact HR0.out | (with_reducible refine Kd.C_alloc ?_ _) | (with_reducible refine Kd.C_drewN ?_ _) | (with_reducible refine Kd.C_drew ?_))); (case side2 => exact HC0.out); rintro e w6 ⟨v266, v268, rfl, ho0, ho1, hb⟩; refine ⟨_, rfl, ?_⟩; have n0_ := Aside0.mk (Kd.R_lower ho0 (below_size (by repeat (first | (with_reducible first | exact HB.out | apply below_alloc | apply pw_below_drewN | apply below_drew1) | exact HB.out)))); have n1_ := Aside0.mk (Kd.R_lower ho1 (below_size (by repeat (first | (with_reducible first | exact HB.out | apply below_alloc | apply pw_below_drewN | apply below_drew1) | exact HB.out)))); have n2_ := Aside0.mk (below_step (by repeat (first | (with_reducible first | exact HB.out | apply below_alloc | apply pw_below_drewN | apply below_drew1) | exact HB.out)) hb); clear HB; have HO267 := n0_; have HO269 := n1_; have HB := n2_; clear n0_ n1_ n2_; (try clear hb); (try clear hb2); (try clear hk); (try clear hi); (try clear ho0); (try clear ho1); obtain ⟨Ao7, co7, eo7⟩ := Kd.R_slice HO267.out; subst eo7))
   (try simp only [Act.put, List.setIfInBounds_toArray, List.set_cons_zero, List.set_cons_succ])
   go_cut [3] (fun v3 wc => ∃ (kq : Nat) (x3_4 : List ByteArray), Aside0 (laws_FnEnds.j0 kq x3_4 = some r) ∧ Aside0 (kq ≤ k) ∧ Aside0 (Kd.R Kd.string 9 wc w.heap.size (fun _ => True) v3 x3_4) ∧ Aside0 (Below w.heap.size w wc))
   case first =>
    have H := HC5.out
    clear HC5
    by_cases c8 : (t264.length : Int) > 8
    ·
     rw [if_pos c8] at H
     have c8b0 : decide (8 < (t264.length : Int)) = true := decide_eq_true c8
     have c8b1 : decide (8 < t264.length) = true := decide_eq_true (by omega)
     clear c8
     (first | rw [c8b0] | (simp only [i64_w, i32_w]; rw [c8b0]) | skip)
     by_cases c9 : 8 ≤ (t264.length : Int)
     ·
      rw [if_pos c9] at H
      have c9b0 := eq_true c9
      have c9b1 : decide (8 ≤ (t264.length : Int)) = true := decide_eq_true c9
      clear c9
      obtain ⟨y270, hy270⟩ : ∃ y_ : List ByteArray, y_ = (t264.take (8 : Int).toNat) := ⟨_, rfl⟩
      replace H : (laws_FnEnds.j0 k y270) = some r := by first | (rw [hy270]; with_reducible exact H) | (have H2_ := (Option.bind_some _ _).symm.trans H; rw [hy270]; with_reducible exact H2_) | (have H2_ := (Option.bind_some _ _).symm.trans H; with_reducible exact H2_) | with_reducible exact H | (rw [hy270]; exact H) | exact H
      have Ny270 := Aside0.mk hy270
      clear hy270
      have H' := Aside0.mk H
      clear H
      have q10 : (8 : Int) ≤ ((t264.length : Int) : Int) := of_decide_eq_true (by first | (with_reducible assumption) | assumption)
      obtain ⟨i010, hi010, _, hsz10, _⟩ := info_parts info9
      have hcut10 := cut_to (P := Try.prog) 22 9 .i64 Try.underlying22 hi010 Ao7 t264.length co7 8 (by omega) q10 (Kd.R_reads' HO267.out).2.1
      have hr10 := Kd.R_take (m := (8 : Int).toNat) HO267.out (by omega)
      have hy10 : y270.length = (8 : Int).toNat := (by rw [Ny270.out, List.length_take]; omega)
      rw [← Ny270.out] at hr10
      rw [← hy10] at hr10 hcut10
      clear hy10 hi010 hsz10 HO267
      have HO272 := Aside0.mk hr10
      clear hr10
      replace q10 := eq_true q10
      go_wp2
      go_meet
      case rel => exact ⟨_, (y270), H', ⟨by first | omega | exact Nat.le_refl _⟩, ⟨(rrA HO272.out)⟩, ⟨by repeat (first | (with_reducible first | exact HB.out | apply below_alloc | apply pw_below_drewN | apply below_drew1) | exact HB.out)⟩⟩
     ·
      rw [if_neg c9] at H
      exact absurd H (by simp)
    ·
     rw [if_neg c8] at H
     have c8b0 : decide (8 < (t264.length : Int)) = false := decide_eq_false c8
     have c8b1 : decide (8 < t264.length) = false := decide_eq_false (by omega)
     clear c8
     (first | rw [c8b0] | (simp only [i64_w, i32_w]; rw [c8b0]) | skip)
     have H' := Aside0.mk H
     clear H; go_wp2
     go_meet
     case rel => exact ⟨_, (t264), H', ⟨by first | omega | exact Nat.le_refl _⟩, ⟨(rrA HO267.out)⟩, ⟨by repeat (first | (with_reducible first | exact HB.out | apply below_alloc | apply pw_below_drewN | apply below_drew1) | exact HB.out)⟩⟩
   case rest =>
    clear HC5
    try clear c1
    try clear q1
    try clear p2
    try clear c3
    try clear c8
    try clear c8b0
    try clear c8b1
    try clear c9
    try clear c9b0
    try clear c9b1
    try clear q10
    try clear q10
    obtain ⟨kq, x3_4, HA, HJ4, HO_3, HB⟩ := hcut
    cases kq with
    | zero => exact absurd HA.out (by simp [laws_FnEnds.j0])
    | succ kj4 =>
     have H := HA.out
     clear HA
     simp only [laws_FnEnds.j0] at H
     have H' := Aside0.mk H
     clear H
     go_wp2_with (first | ((with_reducible refine gate_dst (N := 5) rfl ?_); (try (refine gate_guard (by rfl) ?_; dsimp only)); refine box_event ?hg (N := 5) ?hd (cs := #[.int .i64 0, .int .i64 0, .slice none 0 0, .int .i64 0, .slice none 0 0]) (t := 26) ?hr ?_; (case hd => rfl); (case hg => rfl); (case hr => first | (go_simp; done) | (go_simp; rfl)); intro gb273 hg w11 hbox hb; have n0_ := Aside0.mk (Kd.R_below (rrA HO_3.out) hb); have n1_ := Aside0.mk (below_step (by repeat (first | (with_reducible first | exact HB.out | apply below_alloc | apply pw_below_drewN | apply below_drew1) | exact HB.out)) hb); have n2_ := Aside0.mk (hbox); have n3_ := Aside0.mk ((by rw [hg]; exact (below_size (by repeat (first | (with_reducible first | exact HB.out | apply below_alloc | apply pw_below_drewN | apply below_drew1) | exact HB.out))) : w.heap.size ≤ gb273)); have n4_ := Aside0.mk ((by rw [hg]; exact (below_size (by repeat (first | (with_reducible first | exact HB.out | apply below_alloc | apply pw_below_drewN | apply below_drew1) | exact HB.out))) : w.heap.size ≤ gb273)); clear HO_3; clear HB; have HO_3 := n0_; have HB := n1_; have BK273 := n2_; have GW273 := n3_; have GE273 := n4_; clear n0_ n1_ n2_ n3_ n4_; clear hb hbox hg; have hcz12_0 : w11.cell? ⟨gb273, 0, none⟩ = some (.int .i64 0) := (blk_cell BK273.out 0).trans rfl; have hcz12_1 : w11.cell? ⟨gb273, 1, none⟩ = some (.int .i64 0) := (blk_cell BK273.out 1).trans rfl; have hcz12_2 : w11.cell? ⟨gb273, 2, none⟩ = some (.slice none 0 0) := (blk_cell BK273.out 2).trans rfl; have hcz12_3 : w11.cell? ⟨gb273, 3, none⟩ = some (.int .i64 0) := (blk_cell BK273.out 3).trans rfl; have hcz12_4 : w11.cell? ⟨gb273, 4, none⟩ = some (.slice none 0 0) := (blk_cell BK273.out 4).trans rfl; have hfz12_0 := blk_frozen BK273.out 0; have hfz12_1 := blk_frozen BK273.out 1; have hfz12_2 := blk_frozen BK273.out 2; have hfz12_3 := blk_frozen BK273.out 3; have hfz12_4 := blk_frozen BK273.out 4))
     go_loopg [6, 7] kj4 (fun kq v6 v7 w' => ∃ (x6_2 : Int) (x7_2 : Int) (x274000_2 : Int) (x274001_2 : Int) (x274002_2 : List ByteArray) (x274003_2 : Int) (x274004_2 : List ByteArray) (u274002 : Value) (u274004 : Value), v6 = .int .i64 x6_2 ∧ v7 = .int .i64 x7_2 ∧ Aside0 (laws_FnEnds.l0 kq x3_4 x6_2 x7_2 x274000_2 x274001_2 x274002_2 x274003_2 x274004_2 = some r) ∧ Aside0 (kq ≤ kj4) ∧ Aside0 (Kd.R Kd.string 9 w' w.heap.size (fun k_ => some k_ ≠ (u274002 : Value).ownBlock ∧ some k_ ≠ (u274004 : Value).ownBlock) u3 x3_4) ∧ Aside0 (Kd.Q Kd.string 9 w' w.heap.size (fun k_ => some k_ ≠ (u3 : Value).ownBlock ∧ some k_ ≠ (u274004 : Value).ownBlock) u274002 x274002_2) ∧ Aside0 (Kd.R Kd.string 9 w' w.heap.size (fun k_ => some k_ ≠ (u3 : Value).ownBlock ∧ some k_ ≠ (u274002 : Value).ownBlock) u274004 x274004_2) ∧ Aside0 (w'.heap[gb273]? = some (.cells #[.int .i64 x274000_2, .int .i64 x274001_2, u274002, .int .i64 x274003_2, u274004] 26 (0, 0))) ∧ Aside0 (Below w.heap.size w w'))
     case atStart => exact ⟨(0), (0), (0), (0), (([] : List ByteArray)), (0), (([] : List ByteArray)), (.slice none 0 0), (.slice none 0 0), (by first | rfl | (simp; done) | (simp [*]; done)), (by first | rfl | (simp; done) | (simp [*]; done)), H', ⟨Nat.le_refl _⟩, ⟨by (with_reducible repeat (first | apply Kd.R_alloc | apply Kd.R_drewN | apply Kd.R_drew)); exact Kd.R_mono (Kd.R_far (p := ⟨gb273, 4, none⟩) (Kd.R_far (p := ⟨gb273, 3, none⟩) (Kd.R_far (p := ⟨gb273, 2, none⟩) (Kd.R_far (p := ⟨gb273, 1, none⟩) (Kd.R_far (p := ⟨gb273, 0, none⟩) (Kd.R_types HO_3.out BK273.out (by decide)) (fun _ hk => hk.2) (.int .i64 0)) (fun _ hk => hk.2) (.int .i64 0)) (fun _ hk => hk.2) (.slice none 0 0)) (fun _ hk => hk.2) (.int .i64 0)) (fun _ hk => hk.2) (.slice none 0 0)) (fun _ hk => ⟨(by simp [Value.ownBlock]), (by simp [Value.ownBlock])⟩)⟩, ⟨Kd.Q_of_R (by first | exact Kd.R_nil _ _ _ _ _ | exact Kd.N_nil _ _ _ _ _ | exact Kd.V_nil _ _ _ _ _ | exact Kd.Q_nil _ _ _ _ _ | exact Kd.S_nil _ _ _ _ _)⟩, ⟨by first | exact Kd.R_nil _ _ _ _ _ | exact Kd.N_nil _ _ _ _ _ | exact Kd.V_nil _ _ _ _ _ | exact Kd.Q_nil _ _ _ _ _ | exact Kd.S_nil _ _ _ _ _⟩, ⟨by (with_reducible repeat (first | refine blk_drewN ?_ _ | refine blk_drew ?_ | refine blk_alloc ?_ _)); refine blk_put (cs := #[.int .i64 0, .int .i64 0, .slice none 0 0, .int .i64 0, .slice none 0 0]) ?_ 4 _ rfl; (with_reducible repeat (first | refine blk_drewN ?_ _ | refine blk_drew ?_ | refine blk_alloc ?_ _)); refine blk_put (cs := #[.int .i64 0, .int .i64 0, .slice none 0 0, .int .i64 0, .slice none 0 0]) ?_ 3 _ rfl; (with_reducible repeat (first | refine blk_drewN ?_ _ | refine blk_drew ?_ | refine blk_alloc ?_ _)); refine blk_put (cs := #[.int .i64 0, .int .i64 0, .slice none 0 0, .int .i64 0, .slice none 0 0]) ?_ 2 _ rfl; (with_reducible repeat (first | refine blk_drewN ?_ _ | refine blk_drew ?_ | refine blk_alloc ?_ _)); refine blk_put (cs := #[.int .i64 0, .int .i64 0, .slice none 0 0, .int .i64 0, .slice none 0 0]) ?_ 1 _ rfl; (with_reducible repeat (first | refine blk_drewN ?_ _ | refine blk_drew ?_ | refine blk_alloc ?_ _)); refine blk_put (cs := #[.int .i64 0, .int .i64 0, .slice none 0 0, .int .i64 0, .slice none 0 0]) ?_ 0 _ rfl; (with_reducible repeat (first | refine blk_drewN ?_ _ | refine blk_drew ?_ | refine blk_alloc ?_ _)); exact BK273.out⟩, ⟨by repeat (first | (with_reducible first | exact HB.out | apply below_alloc | apply pw_below_drewN | apply below_drew1 | refine below_set ?_ GE273.out) | exact HB.out)⟩⟩
     case round =>
      clear H'
      try clear c1
      try clear q1
      try clear p2
      try clear c3
      try clear c8
      try clear c8b0
      try clear c8b1
      try clear c9
      try clear c9b0
      try clear c9b1
      try clear q10
      try clear hcz12_0
      try clear hcz12_1
      try clear hcz12_2
      try clear hcz12_3
      try clear hcz12_4
      try clear hfz12_0
      try clear hfz12_1
      try clear hfz12_2
      try clear hfz12_3
      try clear hfz12_4
      try clear p2
      try clear q1
      try clear q10
      obtain ⟨x6_2, x7_2, x274000_2, x274001_2, x274002_2, x274003_2, x274004_2, u274002, u274004, rfl, rfl, HA, HK2, HO_3, HO_274002, HO_274004, BK273, HB⟩ := hrel
      cases gk with
      | zero => exact absurd HA.out (by simp [laws_FnEnds.l0])
      | succ k2 =>
       have H := HA.out
       clear HA
       simp only [laws_FnEnds.l0] at H
       by_cases c13 : x7_2 < (x3_4.length : Int)
       ·
        rw [if_pos c13] at H
        have c13b0 : decide (x7_2 < (x3_4.length : Int)) = true := decide_eq_true c13
        clear c13
        by_cases c14 : 0 ≤ x7_2
        ·
         rw [if_pos c14] at H
         have c14b0 : decide (0 ≤ x7_2) = true := decide_eq_true c14
         clear c14
         replace H := Option.bind_eq_some_iff.mp H
         obtain ⟨⟨t275, t276, t277, t280, t281, t284⟩, A150, H⟩ := H
         replace H : (if t284 = true then (laws_FnEnds.l0 k2 x3_4 (wrap64 (x6_2 + 1)) (wrap64 (x7_2 + 1)) t275 t276 t277 t280 t281) else (laws_FnEnds.l0 k2 x3_4 x6_2 (wrap64 (x7_2 + 1)) x274000_2 x274001_2 x274002_2 x274003_2 x274004_2)) = some r := H
         have A15 := Aside0.mk A150
         clear A150
         by_cases c16 : t284 = true
         ·
          subst c16
          have H1 : (laws_FnEnds.l0 k2 x3_4 (wrap64 (x6_2 + 1)) (wrap64 (x7_2 + 1)) t275 t276 t277 t280 t281) = some r := by rw [if_pos rfl] at H; exact H
          clear H; have H := H1; clear H1
          have H' := Aside0.mk H
          clear H
          obtain ⟨Ao17, co17, eo17⟩ := Kd.R_slice HO_3.out
          subst eo17
          obtain ⟨Ao18, co18, eo18, _⟩ := Kd.Q_slice HO_274002.out
          subst eo18
          obtain ⟨Ao19, co19, eo19⟩ := Kd.R_slice HO_274004.out
          subst eo19
          try go_wp2
          have n0_ := Aside0.mk (Kd.R_drew HO_3.out)
          have n1_ := Aside0.mk (Kd.Q_drew HO_274002.out)
          have n2_ := Aside0.mk (Kd.R_drew HO_274004.out)
          have n3_ := Aside0.mk (blk_drew BK273.out)
          have n4_ := Aside0.mk (below_drew1 HB.out)
          clear HO_3; clear HO_274002; clear HO_274004; clear BK273; clear HB
          have HO_3 := n0_
          have HO_274002 := n1_
          have HO_274004 := n2_
          have BK273 := n3_
          have HB := n4_
          clear n0_ n1_ n2_ n3_ n4_
          have p274 : 0 ≤ (x7_2 : Int) := of_decide_eq_true (by first | (with_reducible assumption) | assumption)
          have q274 : x7_2 < (x3_4.length : Int) := of_decide_eq_true (by first | (with_reducible assumption) | assumption)
          obtain ⟨ad274, e274, hx274_0⟩ := Kd.at_string (Kd.R_reads' HO_3.out).2.2 x7_2 p274 q274
          cases e274
          replace p274 := eq_true p274
          replace q274 := eq_true q274
          refine start_ (n := 12) (S := fun w' => w'.cell? ⟨gb273, 0, none⟩ = some (.int .i64 x274000_2) ∧ w'.cell? ⟨gb273, 1, none⟩ = some (.int .i64 x274001_2) ∧ w'.cell? ⟨gb273, 2, none⟩ = some (.slice Ao18 x274002_2.length co18) ∧ w'.cell? ⟨gb273, 3, none⟩ = some (.int .i64 x274003_2) ∧ w'.cell? ⟨gb273, 4, none⟩ = some (.slice Ao19 x274004_2.length co19) ∧ w'.cell? (ad274.add (x7_2).toNat) = some (.string (rdOf ByteArray.empty x3_4 x7_2))) (ds := []) #[false, false, false, false, false, false, false, false, false, false, false, false] (by kernel_rfl) rfl rfl ⟨(blk_cell BK273.out 0).trans rfl, (blk_cell BK273.out 1).trans rfl, (blk_cell BK273.out 2).trans rfl, (blk_cell BK273.out 3).trans rfl, (blk_cell BK273.out 4).trans rfl, hx274_0⟩ (fun hHeld => ?_); refine with_tabW laws_FnEnds.tab11 laws_FnEnds.bits11 (fun HT_ HW_ => ?_)
          generalize wr.drew = w20 at HO_3 HO_274002 HO_274004 BK273 HB hx274_0 hHeld ⊢
          refine pure_ (i := 1) (N := some 38) (v := ?_) (a' := ?_) #[false, true, false, false, false, false, false, false, false, false, false, false] rfl rfl (any_of HT_.out (by kernel_rfl)) (fun _ _ _ h => h) (Or.inl ⟨by rfl, ?_⟩) ?_ ?_; rotate_left
          · intro w'; go_simp; with_reducible rfl
          rotate_left
          · simp only [Act.put, List.setIfInBounds_toArray, List.set_cons_zero, List.set_cons_succ, i64_w, i32_w]; rfl
          refine pure_ (i := 2) (N := some 39) (v := ?_) (a' := ?_) #[false, true, true, false, false, false, false, false, false, false, false, false] rfl rfl (any_of HT_.out (by kernel_rfl)) (fun _ _ _ h => h) (Or.inl ⟨by rfl, ?_⟩) ?_ ?_; rotate_left
          · intro w'; go_simp; with_reducible rfl
          rotate_left
          · simp only [Act.put, List.setIfInBounds_toArray, List.set_cons_zero, List.set_cons_succ, i64_w, i32_w]; rfl
          refine pure_ (i := 3) (N := some 40) (v := ?_) (a' := ?_) #[false, true, true, true, false, false, false, false, false, false, false, false] rfl rfl (any_of HT_.out (by kernel_rfl)) (fun _ _ _ h => h) (Or.inl ⟨by rfl, ?_⟩) ?_ ?_; rotate_left
          · intro w'; go_simp; with_reducible rfl
          rotate_left
          · simp only [Act.put, List.setIfInBounds_toArray, List.set_cons_zero, List.set_cons_succ, i64_w, i32_w]; rfl
          refine take_ (i := 0) (N := some 37) (v := ?_) (a' := ?_) #[true, true, true, true, false, false, false, false, false, false, false, false] rfl rfl (take_ofW HT_.out HW_.out (by kernel_rfl)) (fun _ _ _ h => h) (Or.inl ⟨by rfl, ?_⟩) hHeld ?_ ?_; rotate_left
          ·
           rintro w' ⟨s0, s1, s2, s3, s4, s5⟩
           go_simp; with_reducible rfl
          rotate_left
          · simp only [Act.put, List.setIfInBounds_toArray, List.set_cons_zero, List.set_cons_succ, i64_w, i32_w]; rfl
          refine take_ (i := 4) (N := some 41) (v := ?_) (a' := ?_) #[true, true, true, true, true, false, false, false, false, false, false, false] rfl rfl (take_ofW HT_.out HW_.out (by kernel_rfl)) (fun _ _ _ h => h) (Or.inl ⟨by rfl, ?_⟩) hHeld ?_ ?_; rotate_left
          ·
           rintro w' ⟨s0, s1, s2, s3, s4, s5⟩
           go_simp; with_reducible rfl
          rotate_left
          · simp only [Act.put, List.setIfInBounds_toArray, List.set_cons_zero, List.set_cons_succ, i64_w, i32_w]; rfl
          refine join_ (σ := Value × Value × Nat) 2 #[true, true, true, true, true, true, true, true, true, true, false, false] (fun s_ => [(42, .tuple #[.agg #[.int .i64 t275, .int .i64 t276, s_.1, .int .i64 t280, s_.2.1], .bool true]), (8, .pointer (some ⟨s_.2.2, 0, none⟩)), (36, .tuple #[.agg #[.int .i64 t275, .int .i64 t276, s_.1, .int .i64 t280, s_.2.1], .bool true]), (43, .agg #[.int .i64 t275, .int .i64 t276, s_.1, .int .i64 t280, s_.2.1]), (44, .bool true)]) (fun s_ w' => (w'.cell? ⟨gb273, 0, none⟩ = some (.int .i64 x274000_2) ∧ w'.cell? ⟨gb273, 1, none⟩ = some (.int .i64 x274001_2) ∧ w'.cell? ⟨gb273, 2, none⟩ = some (.slice Ao18 x274002_2.length co18) ∧ w'.cell? ⟨gb273, 3, none⟩ = some (.int .i64 x274003_2) ∧ w'.cell? ⟨gb273, 4, none⟩ = some (.slice Ao19 x274004_2.length co19) ∧ w'.cell? (ad274.add (x7_2).toNat) = some (.string (rdOf ByteArray.empty x3_4 x7_2))) ∧ (Kd.R Kd.string 9 w' w.heap.size (fun k_ => some k_ ≠ (s_.2.1 : Value).ownBlock ∧ some k_ ≠ (.slice Ao18 x274002_2.length co18 : Value).ownBlock ∧ some k_ ≠ (.slice Ao19 x274004_2.length co19 : Value).ownBlock ∧ some k_ ≠ (.slice (some ad274) x3_4.length co17 : Value).ownBlock) s_.1 t277) ∧ (Kd.R Kd.string 9 w' w.heap.size (fun k_ => some k_ ≠ (s_.1 : Value).ownBlock ∧ some k_ ≠ (.slice Ao18 x274002_2.length co18 : Value).ownBlock ∧ some k_ ≠ (.slice Ao19 x274004_2.length co19 : Value).ownBlock ∧ some k_ ≠ (.slice (some ad274) x3_4.length co17 : Value).ownBlock) s_.2.1 t281) ∧ (Kd.Q Kd.string 9 w' w.heap.size (fun k_ => some k_ ≠ (s_.1 : Value).ownBlock ∧ some k_ ≠ (s_.2.1 : Value).ownBlock ∧ some k_ ≠ (.slice Ao19 x274004_2.length co19 : Value).ownBlock ∧ some k_ ≠ (.slice (some ad274) x3_4.length co17 : Value).ownBlock) (.slice Ao18 x274002_2.length co18) x274002_2) ∧ (Kd.R Kd.string 9 w' w.heap.size (fun k_ => some k_ ≠ (s_.1 : Value).ownBlock ∧ some k_ ≠ (s_.2.1 : Value).ownBlock ∧ some k_ ≠ (.slice Ao18 x274002_2.length co18 : Value).ownBlock ∧ some k_ ≠ (.slice (some ad274) x3_4.length co17 : Value).ownBlock) (.slice Ao19 x274004_2.length co19) x274004_2) ∧ (Kd.R Kd.string 9 w' w.heap.size (fun k_ => some k_ ≠ (s_.1 : Value).ownBlock ∧ some k_ ≠ (s_.2.1 : Value).ownBlock ∧ some k_ ≠ (.slice Ao18 x274002_2.length co18 : Value).ownBlock ∧ some k_ ≠ (.slice Ao19 x274004_2.length co19 : Value).ownBlock) (.slice (some ad274) x3_4.length co17) x3_4) ∧ (w'.heap[gb273]? = some (.cells #[.int .i64 x274000_2, .int .i64 x274001_2, .slice Ao18 x274002_2.length co18, .int .i64 x274003_2, .slice Ao19 x274004_2.length co19] 26 (0, 0))) ∧ (w'.heap[s_.2.2]? = some (.cells #[.int .i64 0, .int .i64 0, .slice none 0 0, .int .i64 0, .slice none 0 0] 26 (0, 0))) ∧ (w.heap.size ≤ s_.2.2) ∧ (w.heap.size ≤ s_.2.2) ∧ (gb273 ≠ s_.2.2) ∧ (s_.2.2 ≠ gb273) ∧ (Below w.heap.size w w')) ?_ ?_
          rotate_left
          ·
           intro hCont
           refine two_ (i := 5) (j := 9) (Ni := some 42) (Nj := some 8) #[true, true, true, true, true, true, false, false, false, false, false, false] #[true, true, true, true, true, false, false, false, false, true, false, false] rfl rfl rfl rfl (two_of HT_.out (by kernel_rfl)) (by decide) (by decide) (fun K hK => ?_) (fun K hK => ?_)
           ·
            skip
            refine goes_ Try.func14 (by kernel_rfl) rfl #[.agg #[.int .i64 x274000_2, .int .i64 x274001_2, .slice Ao18 x274002_2.length co18, .int .i64 x274003_2, .slice Ao19 x274004_2.length co19], .string (rdOf ByteArray.empty x3_4 x7_2)] (by rfl) rfl rfl (by (try simp only [List.map_toArray, List.map_cons, List.map_nil]); first | done | rfl | (simp only [List.length_drop, List.length_take]; rfl)) ?_
            with_reducible refine (impl_Offer.calls k2 x274000_2 x274001_2 _ _ x274002_2 x274003_2 _ _ x274004_2 (rdOf ByteArray.empty x3_4 x7_2) t275 t276 t277 t280 t281 true _ ?side1 ?side2 ?side3 ?side4 A15.out).mono ?_
            (case side1 => repeat (first | exact (Kd.Q_reads' HO_274002.out).2.2 | (with_reducible refine Kd.C_alloc ?_ _) | (with_reducible refine Kd.C_drewN ?_ _) | (with_reducible refine Kd.C_drew ?_)))
            (case side2 => exact (Kd.Q_reads' HO_274002.out).2.1)
            (case side3 => repeat (first | exact (Kd.R_reads' HO_274004.out).2.2 | (with_reducible refine Kd.C_alloc ?_ _) | (with_reducible refine Kd.C_drewN ?_ _) | (with_reducible refine Kd.C_drew ?_)))
            (case side4 => exact (Kd.R_reads' HO_274004.out).2.1)
            rintro e w21 ⟨v278, v282, rfl, ho0, ho1, hb⟩
            have HS5_ := (hb.cell (World.block_lt_of_cell? _ _ (hHeld.2.2.2.2.2))).trans (hHeld.2.2.2.2.2)
            refine ⟨_, rfl, ?_⟩
            have n0_ := Aside0.mk (Kd.R_mono (Kd.R_told (Kd.R_told (Kd.R_old (rrA HO_3.out) hb) (Kd.R_base ho0)) (Kd.R_base ho1)) (fun _ h_ => h_.1))
            have n1_ := Aside0.mk (Kd.Q_mono (Kd.Q_told (Kd.Q_told (Kd.Q_old (by (with_reducible repeat (first | apply Kd.Q_alloc | apply Kd.Q_drewN | apply Kd.Q_drew)); exact HO_274002.out) hb) (Kd.R_base ho0)) (Kd.R_base ho1)) (fun _ h_ => h_.1))
            have n2_ := Aside0.mk (Kd.R_mono (Kd.R_told (Kd.R_told (Kd.R_old (rrA HO_274004.out) hb) (Kd.R_base ho0)) (Kd.R_base ho1)) (fun _ h_ => h_.1))
            have n3_ := Aside0.mk (Kd.R_lower (Kd.R_new' (Kd.R_new' (Kd.R_new' ho0 (Kd.R_lt (rrA HO_3.out))) (Kd.Q_lt (by (with_reducible repeat (first | apply Kd.Q_alloc | apply Kd.Q_drewN | apply Kd.Q_drew)); exact HO_274002.out))) (Kd.R_lt (rrA HO_274004.out))) (below_size (by repeat (first | (with_reducible first | exact HB.out | apply below_alloc | apply pw_below_drewN | apply below_drew1 | refine below_set ?_ GE273.out) | exact HB.out))))
            have n4_ := Aside0.mk (Kd.R_lower (Kd.R_new' (Kd.R_new' (Kd.R_new' ho1 (Kd.R_lt (rrA HO_3.out))) (Kd.Q_lt (by (with_reducible repeat (first | apply Kd.Q_alloc | apply Kd.Q_drewN | apply Kd.Q_drew)); exact HO_274002.out))) (Kd.R_lt (rrA HO_274004.out))) (below_size (by repeat (first | (with_reducible first | exact HB.out | apply below_alloc | apply pw_below_drewN | apply below_drew1 | refine below_set ?_ GE273.out) | exact HB.out))))
            have n5_ := Aside0.mk (blk_below (g := gb273) (o := .cells #[.int .i64 x274000_2, .int .i64 x274001_2, .slice Ao18 x274002_2.length co18, .int .i64 x274003_2, .slice Ao19 x274004_2.length co19] 26 (0, 0)) (rrB BK273.out) hb)
            have n6_ := Aside0.mk (below_step (by repeat (first | (with_reducible first | exact HB.out | apply below_alloc | apply pw_below_drewN | apply below_drew1 | refine below_set ?_ GE273.out) | exact HB.out)) hb)
            clear HO_3; clear HO_274002; clear HO_274004; clear BK273; clear HB
            have HO_3 := n0_
            have HO_274002 := n1_
            have HO_274004 := n2_
            have HO279 := n3_
            have HO283 := n4_
            have BK273 := n5_
            have HB := n6_
            clear n0_ n1_ n2_ n3_ n4_ n5_ n6_
            (try clear hb)
            (try clear hb2)
            (try clear hk)
            (try clear hi)
            (try clear ho0)
            (try clear ho1)
            refine hK.out _ _ ⟨(blk_cell BK273.out 0).trans rfl, (blk_cell BK273.out 1).trans rfl, (blk_cell BK273.out 2).trans rfl, (blk_cell BK273.out 3).trans rfl, (blk_cell BK273.out 4).trans rfl, HS5_⟩ (fun hHeld => ?_)
            clear hK K
            refine norm_ (a' := ?_) ?_ ?_
            rotate_left
            ·
             show Act.put _ (some 42) _ = _
             simp only [Act.put, List.setIfInBounds_toArray, List.set_cons_zero, List.set_cons_succ, i64_w, i32_w]; rfl
            refine pure_ (i := 6) (N := some 36) (v := ?_) (a' := ?_) #[true, true, true, true, true, true, true, false, false, false, false, false] rfl rfl (any_of HT_.out (by kernel_rfl)) (fun _ _ _ h => h) (Or.inl ⟨by rfl, ?_⟩) ?_ ?_; rotate_left
            · intro w'; go_simp; with_reducible rfl
            rotate_left
            · simp only [Act.put, List.setIfInBounds_toArray, List.set_cons_zero, List.set_cons_succ, i64_w, i32_w]; rfl
            refine pure_ (i := 7) (N := some 43) (v := ?_) (a' := ?_) #[true, true, true, true, true, true, true, true, false, false, false, false] rfl rfl (any_of HT_.out (by kernel_rfl)) (fun _ _ _ h => h) (Or.inl ⟨by rfl, ?_⟩) ?_ ?_; rotate_left
            · intro w'; go_simp; with_reducible rfl
            rotate_left
            · simp only [Act.put, List.setIfInBounds_toArray, List.set_cons_zero, List.set_cons_succ, i64_w, i32_w]; rfl
            refine pure_ (i := 8) (N := some 44) (v := ?_) (a' := ?_) #[true, true, true, true, true, true, true, true, true, false, false, false] rfl rfl (any_of HT_.out (by kernel_rfl)) (fun _ _ _ h => h) (Or.inl ⟨by rfl, ?_⟩) ?_ ?_; rotate_left
            · intro w'; go_simp; with_reducible rfl
            rotate_left
            · simp only [Act.put, List.setIfInBounds_toArray, List.set_cons_zero, List.set_cons_succ, i64_w, i32_w]; rfl
            refine one_ (i := 9) (N := some 8) #[true, true, true, true, true, true, true, true, true, true, false, false] rfl rfl (one_of HT_.out (by kernel_rfl)) (by decide) (fun K hK => ?_)
            refine box_step ?hg (N := 8) ?hd (cs := #[.int .i64 0, .int .i64 0, .slice none 0 0, .int .i64 0, .slice none 0 0]) (t := 26) ?hr ?_; (case hd => rfl); (case hg => rfl); (case hr => first | (go_simp; done) | (go_simp; rfl))
            intro gb285 hg w22 hbox hb
            have HS5_ := (hb.cell (World.block_lt_of_cell? _ _ (hHeld.2.2.2.2.2))).trans (hHeld.2.2.2.2.2)
            have n0_ := Aside0.mk (Kd.R_below (rrA HO_3.out) hb)
            have n1_ := Aside0.mk (Kd.Q_below (by (with_reducible repeat (first | apply Kd.Q_alloc | apply Kd.Q_drewN | apply Kd.Q_drew)); exact HO_274002.out) hb)
            have n2_ := Aside0.mk (Kd.R_below (rrA HO_274004.out) hb)
            have n3_ := Aside0.mk (Kd.R_below (rrA HO279.out) hb)
            have n4_ := Aside0.mk (Kd.R_below (rrA HO283.out) hb)
            have n5_ := Aside0.mk (blk_below (g := gb273) (o := .cells #[.int .i64 x274000_2, .int .i64 x274001_2, .slice Ao18 x274002_2.length co18, .int .i64 x274003_2, .slice Ao19 x274004_2.length co19] 26 (0, 0)) (rrB BK273.out) hb)
            have n6_ := Aside0.mk (below_step (by repeat (first | (with_reducible first | exact HB.out | apply below_alloc | apply pw_below_drewN | apply below_drew1 | refine below_set ?_ GE273.out) | exact HB.out)) hb)
            have n7_ := Aside0.mk (hbox)
            have n8_ := Aside0.mk ((by rw [hg]; exact (below_size (by repeat (first | (with_reducible first | exact HB.out | apply below_alloc | apply pw_below_drewN | apply below_drew1 | refine below_set ?_ GE273.out) | exact HB.out))) : w.heap.size ≤ gb285))
            have n9_ := Aside0.mk ((by rw [hg]; exact (below_size (by repeat (first | (with_reducible first | exact HB.out | apply below_alloc | apply pw_below_drewN | apply below_drew1 | refine below_set ?_ GE273.out) | exact HB.out))) : w.heap.size ≤ gb285))
            have n10_ := Aside0.mk ((by rw [hg]; exact Nat.ne_of_lt (blk_lt (g := gb273) (o := .cells #[.int .i64 x274000_2, .int .i64 x274001_2, .slice Ao18 x274002_2.length co18, .int .i64 x274003_2, .slice Ao19 x274004_2.length co19] 26 (0, 0)) (rrB BK273.out)) : gb273 ≠ gb285))
            have n11_ := Aside0.mk ((by rw [hg]; exact Nat.ne_of_gt (blk_lt (g := gb273) (o := .cells #[.int .i64 x274000_2, .int .i64 x274001_2, .slice Ao18 x274002_2.length co18, .int .i64 x274003_2, .slice Ao19 x274004_2.length co19] 26 (0, 0)) (rrB BK273.out)) : gb285 ≠ gb273))
            clear HO_3; clear HO_274002; clear HO_274004; clear HO279; clear HO283; clear BK273; clear HB
            have HO_3 := n0_
            have HO_274002 := n1_
            have HO_274004 := n2_
            have HO279 := n3_
            have HO283 := n4_
            have BK273 := n5_
            have HB := n6_
            have BK285 := n7_
            have GW285 := n8_
            have GE285 := n9_
            have NB273_285 := n10_
            have NB285_273 := n11_
            clear n0_ n1_ n2_ n3_ n4_ n5_ n6_ n7_ n8_ n9_ n10_ n11_; clear hb hbox hg
            refine hK.out _ _ ⟨(blk_cell BK273.out 0).trans rfl, (blk_cell BK273.out 1).trans rfl, (blk_cell BK273.out 2).trans rfl, (blk_cell BK273.out 3).trans rfl, (blk_cell BK273.out 4).trans rfl, HS5_⟩ (fun hHeld => ?_)
            clear hK K
            refine norm_ (a' := ?_) ?_ ?_
            rotate_left
            ·
             show Act.put _ (some 8) _ = _
             simp only [Act.put, List.setIfInBounds_toArray, List.set_cons_zero, List.set_cons_succ, i64_w, i32_w]; rfl
            exact norm_ (by simp only [putAll, Act.put, List.setIfInBounds_toArray, List.set_cons_zero, List.set_cons_succ]) (hCont (v278, v282, gb285) _ ⟨hHeld, (by (with_reducible repeat (first | apply Kd.R_alloc | apply Kd.R_drewN | apply Kd.R_drew)); exact Kd.R_mono HO279.out (fun _ hk => ⟨hk.1.1.1, ⟨hk.1.2, ⟨hk.2, hk.1.1.2⟩⟩⟩)), (by (with_reducible repeat (first | apply Kd.R_alloc | apply Kd.R_drewN | apply Kd.R_drew)); exact Kd.R_mono HO283.out (fun _ hk => ⟨hk.1.1.1, ⟨hk.1.2, ⟨hk.2, hk.1.1.2⟩⟩⟩)), (by (with_reducible repeat (first | apply Kd.Q_alloc | apply Kd.Q_drewN | apply Kd.Q_drew)); exact Kd.Q_mono HO_274002.out (fun _ hk => ⟨hk.1.2, ⟨hk.2, ⟨hk.1.1.2, hk.1.1.1⟩⟩⟩)), (by (with_reducible repeat (first | apply Kd.R_alloc | apply Kd.R_drewN | apply Kd.R_drew)); exact Kd.R_mono HO_274004.out (fun _ hk => ⟨hk.1.2, ⟨hk.2, ⟨hk.1.1.2, hk.1.1.1⟩⟩⟩)), (by (with_reducible repeat (first | apply Kd.R_alloc | apply Kd.R_drewN | apply Kd.R_drew)); exact Kd.R_mono HO_3.out (fun _ hk => ⟨hk.1.2, ⟨hk.2, ⟨hk.1.1.1, hk.1.1.2⟩⟩⟩)), (rrB BK273.out), (rrB BK285.out), GW285.out, GE285.out, NB273_285.out, NB285_273.out, (by repeat (first | (with_reducible first | exact HB.out | apply below_alloc | apply pw_below_drewN | apply below_drew1 | refine below_set ?_ GE273.out | refine below_set ?_ GE285.out) | exact HB.out))⟩)
           ·
            skip
            refine box_step ?hg (N := 8) ?hd (cs := #[.int .i64 0, .int .i64 0, .slice none 0 0, .int .i64 0, .slice none 0 0]) (t := 26) ?hr ?_; (case hd => rfl); (case hg => rfl); (case hr => first | (go_simp; done) | (go_simp; rfl))
            intro gb285 hg w21 hbox hb
            have HS5_ := (hb.cell (World.block_lt_of_cell? _ _ (hHeld.2.2.2.2.2))).trans (hHeld.2.2.2.2.2)
            have n0_ := Aside0.mk (Kd.R_below (rrA HO_3.out) hb)
            have n1_ := Aside0.mk (Kd.Q_below (by (with_reducible repeat (first | apply Kd.Q_alloc | apply Kd.Q_drewN | apply Kd.Q_drew)); exact HO_274002.out) hb)
            have n2_ := Aside0.mk (Kd.R_below (rrA HO_274004.out) hb)
            have n3_ := Aside0.mk (blk_below (g := gb273) (o := .cells #[.int .i64 x274000_2, .int .i64 x274001_2, .slice Ao18 x274002_2.length co18, .int .i64 x274003_2, .slice Ao19 x274004_2.length co19] 26 (0, 0)) (rrB BK273.out) hb)
            have n4_ := Aside0.mk (below_step (by repeat (first | (with_reducible first | exact HB.out | apply below_alloc | apply pw_below_drewN | apply below_drew1 | refine below_set ?_ GE273.out) | exact HB.out)) hb)
            have n5_ := Aside0.mk (hbox)
            have n6_ := Aside0.mk ((by rw [hg]; exact (below_size (by repeat (first | (with_reducible first | exact HB.out | apply below_alloc | apply pw_below_drewN | apply below_drew1 | refine below_set ?_ GE273.out) | exact HB.out))) : w.heap.size ≤ gb285))
            have n7_ := Aside0.mk ((by rw [hg]; exact (below_size (by repeat (first | (with_reducible first | exact HB.out | apply below_alloc | apply pw_below_drewN | apply below_drew1 | refine below_set ?_ GE273.out) | exact HB.out))) : w.heap.size ≤ gb285))
            have n8_ := Aside0.mk ((by rw [hg]; exact Nat.ne_of_lt (blk_lt (g := gb273) (o := .cells #[.int .i64 x274000_2, .int .i64 x274001_2, .slice Ao18 x274002_2.length co18, .int .i64 x274003_2, .slice Ao19 x274004_2.length co19] 26 (0, 0)) (rrB BK273.out)) : gb273 ≠ gb285))
            have n9_ := Aside0.mk ((by rw [hg]; exact Nat.ne_of_gt (blk_lt (g := gb273) (o := .cells #[.int .i64 x274000_2, .int .i64 x274001_2, .slice Ao18 x274002_2.length co18, .int .i64 x274003_2, .slice Ao19 x274004_2.length co19] 26 (0, 0)) (rrB BK273.out)) : gb285 ≠ gb273))
            clear HO_3; clear HO_274002; clear HO_274004; clear BK273; clear HB
            have HO_3 := n0_
            have HO_274002 := n1_
            have HO_274004 := n2_
            have BK273 := n3_
            have HB := n4_
            have BK285 := n5_
            have GW285 := n6_
            have GE285 := n7_
            have NB273_285 := n8_
            have NB285_273 := n9_
            clear n0_ n1_ n2_ n3_ n4_ n5_ n6_ n7_ n8_ n9_; clear hb hbox hg
            refine hK.out _ _ ⟨(blk_cell BK273.out 0).trans rfl, (blk_cell BK273.out 1).trans rfl, (blk_cell BK273.out 2).trans rfl, (blk_cell BK273.out 3).trans rfl, (blk_cell BK273.out 4).trans rfl, HS5_⟩ (fun hHeld => ?_)
            clear hK K
            refine norm_ (a' := ?_) ?_ ?_
            rotate_left
            ·
             show Act.put _ (some 8) _ = _
             simp only [Act.put, List.setIfInBounds_toArray, List.set_cons_zero, List.set_cons_succ, i64_w, i32_w]; rfl
            refine one_ (i := 5) (N := some 42) #[true, true, true, true, true, true, false, false, false, true, false, false] rfl rfl (one_of HT_.out (by kernel_rfl)) (by decide) (fun K hK => ?_)
            refine goes_ Try.func14 (by kernel_rfl) rfl #[.agg #[.int .i64 x274000_2, .int .i64 x274001_2, .slice Ao18 x274002_2.length co18, .int .i64 x274003_2, .slice Ao19 x274004_2.length co19], .string (rdOf ByteArray.empty x3_4 x7_2)] (by rfl) rfl rfl (by (try simp only [List.map_toArray, List.map_cons, List.map_nil]); first | done | rfl | (simp only [List.length_drop, List.length_take]; rfl)) ?_
            with_reducible refine (impl_Offer.calls k2 x274000_2 x274001_2 _ _ x274002_2 x274003_2 _ _ x274004_2 (rdOf ByteArray.empty x3_4 x7_2) t275 t276 t277 t280 t281 true _ ?side1 ?side2 ?side3 ?side4 A15.out).mono ?_
            (case side1 => repeat (first | exact (Kd.Q_reads' HO_274002.out).2.2 | (with_reducible refine Kd.C_alloc ?_ _) | (with_reducible refine Kd.C_drewN ?_ _) | (with_reducible refine Kd.C_drew ?_)))
            (case side2 => exact (Kd.Q_reads' HO_274002.out).2.1)
            (case side3 => repeat (first | exact (Kd.R_reads' HO_274004.out).2.2 | (with_reducible refine Kd.C_alloc ?_ _) | (with_reducible refine Kd.C_drewN ?_ _) | (with_reducible refine Kd.C_drew ?_)))
            (case side4 => exact (Kd.R_reads' HO_274004.out).2.1)
            rintro e w22 ⟨v278, v282, rfl, ho0, ho1, hb⟩
            have HS5_ := (hb.cell (World.block_lt_of_cell? _ _ (hHeld.2.2.2.2.2))).trans (hHeld.2.2.2.2.2)
            refine ⟨_, rfl, ?_⟩
            have n0_ := Aside0.mk (Kd.R_mono (Kd.R_told (Kd.R_told (Kd.R_old (rrA HO_3.out) hb) (Kd.R_base ho0)) (Kd.R_base ho1)) (fun _ h_ => h_.1))
            have n1_ := Aside0.mk (Kd.Q_mono (Kd.Q_told (Kd.Q_told (Kd.Q_old (by (with_reducible repeat (first | apply Kd.Q_alloc | apply Kd.Q_drewN | apply Kd.Q_drew)); exact HO_274002.out) hb) (Kd.R_base ho0)) (Kd.R_base ho1)) (fun _ h_ => h_.1))
            have n2_ := Aside0.mk (Kd.R_mono (Kd.R_told (Kd.R_told (Kd.R_old (rrA HO_274004.out) hb) (Kd.R_base ho0)) (Kd.R_base ho1)) (fun _ h_ => h_.1))
            have n3_ := Aside0.mk (Kd.R_lower (Kd.R_new' (Kd.R_new' (Kd.R_new' ho0 (Kd.R_lt (rrA HO_3.out))) (Kd.Q_lt (by (with_reducible repeat (first | apply Kd.Q_alloc | apply Kd.Q_drewN | apply Kd.Q_drew)); exact HO_274002.out))) (Kd.R_lt (rrA HO_274004.out))) (below_size (by repeat (first | (with_reducible first | exact HB.out | apply below_alloc | apply pw_below_drewN | apply below_drew1 | refine below_set ?_ GE273.out | refine below_set ?_ GE285.out) | exact HB.out))))
            have n4_ := Aside0.mk (Kd.R_lower (Kd.R_new' (Kd.R_new' (Kd.R_new' ho1 (Kd.R_lt (rrA HO_3.out))) (Kd.Q_lt (by (with_reducible repeat (first | apply Kd.Q_alloc | apply Kd.Q_drewN | apply Kd.Q_drew)); exact HO_274002.out))) (Kd.R_lt (rrA HO_274004.out))) (below_size (by repeat (first | (with_reducible first | exact HB.out | apply below_alloc | apply pw_below_drewN | apply below_drew1 | refine below_set ?_ GE273.out | refine below_set ?_ GE285.out) | exact HB.out))))
            have n5_ := Aside0.mk (blk_below (g := gb273) (o := .cells #[.int .i64 x274000_2, .int .i64 x274001_2, .slice Ao18 x274002_2.length co18, .int .i64 x274003_2, .slice Ao19 x274004_2.length co19] 26 (0, 0)) (rrB BK273.out) hb)
            have n6_ := Aside0.mk (blk_below (g := gb285) (o := .cells #[.int .i64 0, .int .i64 0, .slice none 0 0, .int .i64 0, .slice none 0 0] 26 (0, 0)) (rrB BK285.out) hb)
            have n7_ := Aside0.mk (below_step (by repeat (first | (with_reducible first | exact HB.out | apply below_alloc | apply pw_below_drewN | apply below_drew1 | refine below_set ?_ GE273.out | refine below_set ?_ GE285.out) | exact HB.out)) hb)
            clear HO_3; clear HO_274002; clear HO_274004; clear BK273; clear BK285; clear HB
            have HO_3 := n0_
            have HO_274002 := n1_
            have HO_274004 := n2_
            have HO279 := n3_
            have HO283 := n4_
            have BK273 := n5_
            have BK285 := n6_
            have HB := n7_
            clear n0_ n1_ n2_ n3_ n4_ n5_ n6_ n7_
            (try clear hb)
            (try clear hb2)
            (try clear hk)
            (try clear hi)
            (try clear ho0)
            (try clear ho1)
            refine hK.out _ _ ⟨(blk_cell BK273.out 0).trans rfl, (blk_cell BK273.out 1).trans rfl, (blk_cell BK273.out 2).trans rfl, (blk_cell BK273.out 3).trans rfl, (blk_cell BK273.out 4).trans rfl, HS5_⟩ (fun hHeld => ?_)
            clear hK K
            refine norm_ (a' := ?_) ?_ ?_
            rotate_left
            ·
             show Act.put _ (some 42) _ = _
             simp only [Act.put, List.setIfInBounds_toArray, List.set_cons_zero, List.set_cons_succ, i64_w, i32_w]; rfl
            refine pure_ (i := 6) (N := some 36) (v := ?_) (a' := ?_) #[true, true, true, true, true, true, true, false, false, true, false, false] rfl rfl (any_of HT_.out (by kernel_rfl)) (fun _ _ _ h => h) (Or.inl ⟨by rfl, ?_⟩) ?_ ?_; rotate_left
            · intro w'; go_simp; with_reducible rfl
            rotate_left
            · simp only [Act.put, List.setIfInBounds_toArray, List.set_cons_zero, List.set_cons_succ, i64_w, i32_w]; rfl
            refine pure_ (i := 7) (N := some 43) (v := ?_) (a' := ?_) #[true, true, true, true, true, true, true, true, false, true, false, false] rfl rfl (any_of HT_.out (by kernel_rfl)) (fun _ _ _ h => h) (Or.inl ⟨by rfl, ?_⟩) ?_ ?_; rotate_left
            · intro w'; go_simp; with_reducible rfl
            rotate_left
            · simp only [Act.put, List.setIfInBounds_toArray, List.set_cons_zero, List.set_cons_succ, i64_w, i32_w]; rfl
            refine pure_ (i := 8) (N := some 44) (v := ?_) (a' := ?_) #[true, true, true, true, true, true, true, true, true, true, false, false] rfl rfl (any_of HT_.out (by kernel_rfl)) (fun _ _ _ h => h) (Or.inl ⟨by rfl, ?_⟩) ?_ ?_; rotate_left
            · intro w'; go_simp; with_reducible rfl
            rotate_left
            · simp only [Act.put, List.setIfInBounds_toArray, List.set_cons_zero, List.set_cons_succ, i64_w, i32_w]; rfl
            exact norm_ (by simp only [putAll, Act.put, List.setIfInBounds_toArray, List.set_cons_zero, List.set_cons_succ]) (hCont (v278, v282, gb285) _ ⟨hHeld, (by (with_reducible repeat (first | apply Kd.R_alloc | apply Kd.R_drewN | apply Kd.R_drew)); exact Kd.R_mono HO279.out (fun _ hk => ⟨hk.1.1.1, ⟨hk.1.2, ⟨hk.2, hk.1.1.2⟩⟩⟩)), (by (with_reducible repeat (first | apply Kd.R_alloc | apply Kd.R_drewN | apply Kd.R_drew)); exact Kd.R_mono HO283.out (fun _ hk => ⟨hk.1.1.1, ⟨hk.1.2, ⟨hk.2, hk.1.1.2⟩⟩⟩)), (by (with_reducible repeat (first | apply Kd.Q_alloc | apply Kd.Q_drewN | apply Kd.Q_drew)); exact Kd.Q_mono HO_274002.out (fun _ hk => ⟨hk.1.2, ⟨hk.2, ⟨hk.1.1.2, hk.1.1.1⟩⟩⟩)), (by (with_reducible repeat (first | apply Kd.R_alloc | apply Kd.R_drewN | apply Kd.R_drew)); exact Kd.R_mono HO_274004.out (fun _ hk => ⟨hk.1.2, ⟨hk.2, ⟨hk.1.1.2, hk.1.1.1⟩⟩⟩)), (by (with_reducible repeat (first | apply Kd.R_alloc | apply Kd.R_drewN | apply Kd.R_drew)); exact Kd.R_mono HO_3.out (fun _ hk => ⟨hk.1.2, ⟨hk.2, ⟨hk.1.1.1, hk.1.1.2⟩⟩⟩)), (rrB BK273.out), (rrB BK285.out), GW285.out, GE285.out, NB273_285.out, NB285_273.out, (by repeat (first | (with_reducible first | exact HB.out | apply below_alloc | apply pw_below_drewN | apply below_drew1 | refine below_set ?_ GE273.out | refine below_set ?_ GE285.out) | exact HB.out))⟩)
          rintro ⟨v278, v282, gb285⟩ w23 ⟨hS_, h0_, h1_, h2_, h3_, h4_, h5_, h6_, h7_, h8_, h9_, h10_, h11_⟩
          have n0_ : Aside0 (Kd.R Kd.string 9 w23 w.heap.size (fun k_ => some k_ ≠ (v282 : Value).ownBlock ∧ some k_ ≠ (.slice Ao18 x274002_2.length co18 : Value).ownBlock ∧ some k_ ≠ (.slice Ao19 x274004_2.length co19 : Value).ownBlock ∧ some k_ ≠ (.slice (some ad274) x3_4.length co17 : Value).ownBlock) v278 t277) := ⟨h0_⟩
          have n1_ : Aside0 (Kd.R Kd.string 9 w23 w.heap.size (fun k_ => some k_ ≠ (v278 : Value).ownBlock ∧ some k_ ≠ (.slice Ao18 x274002_2.length co18 : Value).ownBlock ∧ some k_ ≠ (.slice Ao19 x274004_2.length co19 : Value).ownBlock ∧ some k_ ≠ (.slice (some ad274) x3_4.length co17 : Value).ownBlock) v282 t281) := ⟨h1_⟩
          have n2_ : Aside0 (Kd.Q Kd.string 9 w23 w.heap.size (fun k_ => some k_ ≠ (v278 : Value).ownBlock ∧ some k_ ≠ (v282 : Value).ownBlock ∧ some k_ ≠ (.slice Ao19 x274004_2.length co19 : Value).ownBlock ∧ some k_ ≠ (.slice (some ad274) x3_4.length co17 : Value).ownBlock) (.slice Ao18 x274002_2.length co18) x274002_2) := ⟨h2_⟩
          have n3_ : Aside0 (Kd.R Kd.string 9 w23 w.heap.size (fun k_ => some k_ ≠ (v278 : Value).ownBlock ∧ some k_ ≠ (v282 : Value).ownBlock ∧ some k_ ≠ (.slice Ao18 x274002_2.length co18 : Value).ownBlock ∧ some k_ ≠ (.slice (some ad274) x3_4.length co17 : Value).ownBlock) (.slice Ao19 x274004_2.length co19) x274004_2) := ⟨h3_⟩
          have n4_ : Aside0 (Kd.R Kd.string 9 w23 w.heap.size (fun k_ => some k_ ≠ (v278 : Value).ownBlock ∧ some k_ ≠ (v282 : Value).ownBlock ∧ some k_ ≠ (.slice Ao18 x274002_2.length co18 : Value).ownBlock ∧ some k_ ≠ (.slice Ao19 x274004_2.length co19 : Value).ownBlock) (.slice (some ad274) x3_4.length co17) x3_4) := ⟨h4_⟩
          have n5_ : Aside0 (w23.heap[gb273]? = some (.cells #[.int .i64 x274000_2, .int .i64 x274001_2, .slice Ao18 x274002_2.length co18, .int .i64 x274003_2, .slice Ao19 x274004_2.length co19] 26 (0, 0))) := ⟨h5_⟩
          have n6_ : Aside0 (w23.heap[gb285]? = some (.cells #[.int .i64 0, .int .i64 0, .slice none 0 0, .int .i64 0, .slice none 0 0] 26 (0, 0))) := ⟨h6_⟩
          have n7_ : Aside0 (w.heap.size ≤ gb285) := ⟨h7_⟩
          have n8_ : Aside0 (w.heap.size ≤ gb285) := ⟨h8_⟩
          have n9_ : Aside0 (gb273 ≠ gb285) := ⟨h9_⟩
          have n10_ : Aside0 (gb285 ≠ gb273) := ⟨h10_⟩
          have n11_ : Aside0 (Below w.heap.size w w23) := ⟨h11_⟩
          clear HO_3; clear HO_274002; clear HO_274004; clear BK273; clear HB; clear h0_ h1_ h2_ h3_ h4_ h5_ h6_ h7_ h8_ h9_ h10_ h11_
          have HO279 := n0_
          have HO283 := n1_
          have HO_274002 := n2_
          have HO_274004 := n3_
          have HO_3 := n4_
          have BK273 := n5_
          have BK285 := n6_
          have GW285 := n7_
          have GE285 := n8_
          have NB273_285 := n9_
          have NB285_273 := n10_
          have HB := n11_
          clear n0_ n1_ n2_ n3_ n4_ n5_ n6_ n7_ n8_ n9_ n10_ n11_
          have hHeld : w23.cell? ⟨gb273, 0, none⟩ = some (.int .i64 x274000_2) ∧ w23.cell? ⟨gb273, 1, none⟩ = some (.int .i64 x274001_2) ∧ w23.cell? ⟨gb273, 2, none⟩ = some (.slice Ao18 x274002_2.length co18) ∧ w23.cell? ⟨gb273, 3, none⟩ = some (.int .i64 x274003_2) ∧ w23.cell? ⟨gb273, 4, none⟩ = some (.slice Ao19 x274004_2.length co19) ∧ w23.cell? (ad274.add (x7_2).toNat) = some (.string (rdOf ByteArray.empty x3_4 x7_2)) := hS_
          obtain ⟨Ao26, co26, eo26⟩ := Kd.R_slice HO279.out
          (first | subst eo26 | (injection eo26 with f1_ f2_ f3_; have f4_ := f1_.symm; have f5_ := f3_.symm; clear f1_ f2_ f3_; subst f4_; subst f5_))
          obtain ⟨Ao29, co29, eo29⟩ := Kd.R_slice HO283.out
          (first | subst eo29 | (injection eo29 with f1_ f2_ f3_; have f4_ := f1_.symm; have f5_ := f3_.symm; clear f1_ f2_ f3_; subst f4_; subst f5_))
          refine norm_ (a' := ?_) ?_ ?_
          rotate_left
          · simp only [putAll, Act.put, List.setIfInBounds_toArray, List.set_cons_zero, List.set_cons_succ]; rfl
          refine one_ (i := 10) (N := none) #[true, true, true, true, true, true, true, true, true, true, true, false] rfl rfl (one_of HT_.out (by kernel_rfl)) (by decide) (fun K hK => ?_)
          have hs24 : w23.cell? ⟨gb285, 0, none⟩ = some (.int .i64 0) := (blk_cell BK285.out 0).trans rfl
          have hfs24 := blk_frozen BK285.out 0
          have hns24_0 := NB273_285.out
          have hms24_0 := NB285_273.out
          have hs25 : w23.cell? ⟨gb285, 1, none⟩ = some (.int .i64 0) := (blk_cell BK285.out 1).trans rfl
          have hfs25 := blk_frozen BK285.out 1
          have hns25_0 := NB273_285.out
          have hms25_0 := NB285_273.out
          have hs27 : w23.cell? ⟨gb285, 2, none⟩ = some (.slice none 0 0) := (blk_cell BK285.out 2).trans rfl
          have hfs27 := blk_frozen BK285.out 2
          have hns27_0 := NB273_285.out
          have hms27_0 := NB285_273.out
          have hs28 : w23.cell? ⟨gb285, 3, none⟩ = some (.int .i64 0) := (blk_cell BK285.out 3).trans rfl
          have hfs28 := blk_frozen BK285.out 3
          have hns28_0 := NB273_285.out
          have hms28_0 := NB285_273.out
          have hs30 : w23.cell? ⟨gb285, 4, none⟩ = some (.slice none 0 0) := (blk_cell BK285.out 4).trans rfl
          have hfs30 := blk_frozen BK285.out 4
          have hns30_0 := NB273_285.out
          have hms30_0 := NB285_273.out
          refine skip_ (w1 := ?_) (by rfl) rfl ?_ ?_
          rotate_left
          · go_simp; rfl
          refine hK.out _ _ ⟨((cell_far (p := ⟨gb285, _, none⟩) NB273_285.out _).trans (((cell_far (p := ⟨gb285, _, none⟩) NB273_285.out _).trans (((cell_far (p := ⟨gb285, _, none⟩) NB273_285.out _).trans (((cell_far (p := ⟨gb285, _, none⟩) NB273_285.out _).trans (((cell_far (p := ⟨gb285, _, none⟩) NB273_285.out _).trans (hHeld.1)))))))))), ((cell_far (p := ⟨gb285, _, none⟩) NB273_285.out _).trans (((cell_far (p := ⟨gb285, _, none⟩) NB273_285.out _).trans (((cell_far (p := ⟨gb285, _, none⟩) NB273_285.out _).trans (((cell_far (p := ⟨gb285, _, none⟩) NB273_285.out _).trans (((cell_far (p := ⟨gb285, _, none⟩) NB273_285.out _).trans (hHeld.2.1)))))))))), ((cell_far (p := ⟨gb285, _, none⟩) NB273_285.out _).trans (((cell_far (p := ⟨gb285, _, none⟩) NB273_285.out _).trans (((cell_far (p := ⟨gb285, _, none⟩) NB273_285.out _).trans (((cell_far (p := ⟨gb285, _, none⟩) NB273_285.out _).trans (((cell_far (p := ⟨gb285, _, none⟩) NB273_285.out _).trans (hHeld.2.2.1)))))))))), ((cell_far (p := ⟨gb285, _, none⟩) NB273_285.out _).trans (((cell_far (p := ⟨gb285, _, none⟩) NB273_285.out _).trans (((cell_far (p := ⟨gb285, _, none⟩) NB273_285.out _).trans (((cell_far (p := ⟨gb285, _, none⟩) NB273_285.out _).trans (((cell_far (p := ⟨gb285, _, none⟩) NB273_285.out _).trans (hHeld.2.2.2.1)))))))))), ((cell_far (p := ⟨gb285, _, none⟩) NB273_285.out _).trans (((cell_far (p := ⟨gb285, _, none⟩) NB273_285.out _).trans (((cell_far (p := ⟨gb285, _, none⟩) NB273_285.out _).trans (((cell_far (p := ⟨gb285, _, none⟩) NB273_285.out _).trans (((cell_far (p := ⟨gb285, _, none⟩) NB273_285.out _).trans (hHeld.2.2.2.2.1)))))))))), ((cell_far (p := ⟨gb285, _, none⟩) (by first | exact Kd.own_blk (Kd.R_ne HO_3.out BK285.out (by decide)) | (rw [add_block]; exact Kd.own_blk (Kd.R_ne HO_3.out BK285.out (by decide))) | (show (Addr.add _ _).block ≠ _; rw [add_block]; exact Kd.own_blk (Kd.R_ne HO_3.out BK285.out (by decide))) | (dsimp only; exact Kd.own_blk (Kd.R_ne HO_3.out BK285.out (by decide)))) _).trans (((cell_far (p := ⟨gb285, _, none⟩) (by first | exact Kd.own_blk (Kd.R_ne HO_3.out BK285.out (by decide)) | (rw [add_block]; exact Kd.own_blk (Kd.R_ne HO_3.out BK285.out (by decide))) | (show (Addr.add _ _).block ≠ _; rw [add_block]; exact Kd.own_blk (Kd.R_ne HO_3.out BK285.out (by decide))) | (dsimp only; exact Kd.own_blk (Kd.R_ne HO_3.out BK285.out (by decide)))) _).trans (((cell_far (p := ⟨gb285, _, none⟩) (by first | exact Kd.own_blk (Kd.R_ne HO_3.out BK285.out (by decide)) | (rw [add_block]; exact Kd.own_blk (Kd.R_ne HO_3.out BK285.out (by decide))) | (show (Addr.add _ _).block ≠ _; rw [add_block]; exact Kd.own_blk (Kd.R_ne HO_3.out BK285.out (by decide))) | (dsimp only; exact Kd.own_blk (Kd.R_ne HO_3.out BK285.out (by decide)))) _).trans (((cell_far (p := ⟨gb285, _, none⟩) (by first | exact Kd.own_blk (Kd.R_ne HO_3.out BK285.out (by decide)) | (rw [add_block]; exact Kd.own_blk (Kd.R_ne HO_3.out BK285.out (by decide))) | (show (Addr.add _ _).block ≠ _; rw [add_block]; exact Kd.own_blk (Kd.R_ne HO_3.out BK285.out (by decide))) | (dsimp only; exact Kd.own_blk (Kd.R_ne HO_3.out BK285.out (by decide)))) _).trans (((cell_far (p := ⟨gb285, _, none⟩) (by first | exact Kd.own_blk (Kd.R_ne HO_3.out BK285.out (by decide)) | (rw [add_block]; exact Kd.own_blk (Kd.R_ne HO_3.out BK285.out (by decide))) | (show (Addr.add _ _).block ≠ _; rw [add_block]; exact Kd.own_blk (Kd.R_ne HO_3.out BK285.out (by decide))) | (dsimp only; exact Kd.own_blk (Kd.R_ne HO_3.out BK285.out (by decide)))) _).trans (hHeld.2.2.2.2.2))))))))))⟩ (fun hHeld => ?_)
          clear hK K
          refine pure_ (i := 11) (N := some 9) (v := ?_) (a' := ?_) #[true, true, true, true, true, true, true, true, true, true, true, true] rfl rfl (any_of HT_.out (by kernel_rfl)) (fun _ _ _ h => h) (Or.inl ⟨by rfl, ?_⟩) ?_ ?_; rotate_left
          · intro w'; go_simp; with_reducible rfl
          rotate_left
          · simp only [Act.put, List.setIfInBounds_toArray, List.set_cons_zero, List.set_cons_succ, i64_w, i32_w]; rfl
          refine done_ (done_of HT_.out (by kernel_rfl)) ?_
          have hnb31 := NB285_273.out
          have hnc31 := NB273_285.out
          have hcz32_0 : w23.cell? ⟨gb285, 0, none⟩ = some (.int .i64 0) := (blk_cell BK285.out 0).trans rfl
          have hcz32_1 : w23.cell? ⟨gb285, 1, none⟩ = some (.int .i64 0) := (blk_cell BK285.out 1).trans rfl
          have hcz32_2 : w23.cell? ⟨gb285, 2, none⟩ = some (.slice none 0 0) := (blk_cell BK285.out 2).trans rfl
          have hcz32_3 : w23.cell? ⟨gb285, 3, none⟩ = some (.int .i64 0) := (blk_cell BK285.out 3).trans rfl
          have hcz32_4 : w23.cell? ⟨gb285, 4, none⟩ = some (.slice none 0 0) := (blk_cell BK285.out 4).trans rfl
          have hfz32_0 := blk_frozen BK285.out 0
          have hfz32_1 := blk_frozen BK285.out 1
          have hfz32_2 := blk_frozen BK285.out 2
          have hfz32_3 := blk_frozen BK285.out 3
          have hfz32_4 := blk_frozen BK285.out 4
          have hcz33_0 : w23.cell? ⟨gb273, 0, none⟩ = some (.int .i64 x274000_2) := (blk_cell BK273.out 0).trans rfl
          have hcz33_1 : w23.cell? ⟨gb273, 1, none⟩ = some (.int .i64 x274001_2) := (blk_cell BK273.out 1).trans rfl
          have hcz33_2 : w23.cell? ⟨gb273, 2, none⟩ = some (.slice Ao18 x274002_2.length co18) := (blk_cell BK273.out 2).trans rfl
          have hcz33_3 : w23.cell? ⟨gb273, 3, none⟩ = some (.int .i64 x274003_2) := (blk_cell BK273.out 3).trans rfl
          have hcz33_4 : w23.cell? ⟨gb273, 4, none⟩ = some (.slice Ao19 x274004_2.length co19) := (blk_cell BK273.out 4).trans rfl
          have hfz33_0 := blk_frozen BK273.out 0
          have hfz33_1 := blk_frozen BK273.out 1
          have hfz33_2 := blk_frozen BK273.out 2
          have hfz33_3 := blk_frozen BK273.out 3
          have hfz33_4 := blk_frozen BK273.out 4
          try go_wp2
          go_roundg k2
          case measure => have := HJ4.out; have := HK2.out; omega
          case rel => exact ⟨(wrap64 (x6_2 + 1)), (wrap64 (x7_2 + 1)), (t275), (t276), (t277), (t280), (t281), (.slice Ao26 t277.length co26), (.slice Ao29 t281.length co29), (by first | rfl | (simp; done) | (simp [*]; done)), (by first | rfl | (simp; done) | (simp [*]; done)), H', ⟨by have := HJ4.out; have := HK2.out; omega⟩, ⟨by (with_reducible repeat (first | apply Kd.R_alloc | apply Kd.R_drewN | apply Kd.R_drew)); exact Kd.R_mono (Kd.R_far (p := ⟨gb273, 4, none⟩) (Kd.R_far (p := ⟨gb273, 3, none⟩) (Kd.R_far (p := ⟨gb273, 2, none⟩) (Kd.R_far (p := ⟨gb273, 1, none⟩) (Kd.R_far (p := ⟨gb273, 0, none⟩) (Kd.R_far (p := ⟨gb285, 4, none⟩) (Kd.R_far (p := ⟨gb285, 3, none⟩) (Kd.R_far (p := ⟨gb285, 2, none⟩) (Kd.R_far (p := ⟨gb285, 1, none⟩) (Kd.R_far (p := ⟨gb285, 0, none⟩) (Kd.R_types (Kd.R_types HO_3.out BK285.out (by decide)) BK273.out (by decide)) (fun _ hk => hk.1.2) (.int .i64 t275)) (fun _ hk => hk.1.2) (.int .i64 t276)) (fun _ hk => hk.1.2) (.slice Ao26 t277.length co26)) (fun _ hk => hk.1.2) (.int .i64 t280)) (fun _ hk => hk.1.2) (.slice Ao29 t281.length co29)) (fun _ hk => hk.2) (.int .i64 t275)) (fun _ hk => hk.2) (.int .i64 t276)) (fun _ hk => hk.2) (.slice Ao26 t277.length co26)) (fun _ hk => hk.2) (.int .i64 t280)) (fun _ hk => hk.2) (.slice Ao29 t281.length co29)) (fun _ hk => ⟨hk.1.1.1, hk.1.1.2.1⟩)⟩, ⟨Kd.Q_of_R (by (with_reducible repeat (first | apply Kd.R_alloc | apply Kd.R_drewN | apply Kd.R_drew)); exact Kd.R_mono (Kd.R_far (p := ⟨gb273, 4, none⟩) (Kd.R_far (p := ⟨gb273, 3, none⟩) (Kd.R_far (p := ⟨gb273, 2, none⟩) (Kd.R_far (p := ⟨gb273, 1, none⟩) (Kd.R_far (p := ⟨gb273, 0, none⟩) (Kd.R_far (p := ⟨gb285, 4, none⟩) (Kd.R_far (p := ⟨gb285, 3, none⟩) (Kd.R_far (p := ⟨gb285, 2, none⟩) (Kd.R_far (p := ⟨gb285, 1, none⟩) (Kd.R_far (p := ⟨gb285, 0, none⟩) (Kd.R_types (Kd.R_types HO279.out BK285.out (by decide)) BK273.out (by decide)) (fun _ hk => hk.1.2) (.int .i64 t275)) (fun _ hk => hk.1.2) (.int .i64 t276)) (fun _ hk => hk.1.2) (.slice Ao26 t277.length co26)) (fun _ hk => hk.1.2) (.int .i64 t280)) (fun _ hk => hk.1.2) (.slice Ao29 t281.length co29)) (fun _ hk => hk.2) (.int .i64 t275)) (fun _ hk => hk.2) (.int .i64 t276)) (fun _ hk => hk.2) (.slice Ao26 t277.length co26)) (fun _ hk => hk.2) (.int .i64 t280)) (fun _ hk => hk.2) (.slice Ao29 t281.length co29)) (fun _ hk => ⟨hk.1.1.2.2.2, hk.1.1.1⟩))⟩, ⟨by (with_reducible repeat (first | apply Kd.R_alloc | apply Kd.R_drewN | apply Kd.R_drew)); exact Kd.R_mono (Kd.R_far (p := ⟨gb273, 4, none⟩) (Kd.R_far (p := ⟨gb273, 3, none⟩) (Kd.R_far (p := ⟨gb273, 2, none⟩) (Kd.R_far (p := ⟨gb273, 1, none⟩) (Kd.R_far (p := ⟨gb273, 0, none⟩) (Kd.R_far (p := ⟨gb285, 4, none⟩) (Kd.R_far (p := ⟨gb285, 3, none⟩) (Kd.R_far (p := ⟨gb285, 2, none⟩) (Kd.R_far (p := ⟨gb285, 1, none⟩) (Kd.R_far (p := ⟨gb285, 0, none⟩) (Kd.R_types (Kd.R_types HO283.out BK285.out (by decide)) BK273.out (by decide)) (fun _ hk => hk.1.2) (.int .i64 t275)) (fun _ hk => hk.1.2) (.int .i64 t276)) (fun _ hk => hk.1.2) (.slice Ao26 t277.length co26)) (fun _ hk => hk.1.2) (.int .i64 t280)) (fun _ hk => hk.1.2) (.slice Ao29 t281.length co29)) (fun _ hk => hk.2) (.int .i64 t275)) (fun _ hk => hk.2) (.int .i64 t276)) (fun _ hk => hk.2) (.slice Ao26 t277.length co26)) (fun _ hk => hk.2) (.int .i64 t280)) (fun _ hk => hk.2) (.slice Ao29 t281.length co29)) (fun _ hk => ⟨hk.1.1.2.2.2, hk.1.1.1⟩)⟩, ⟨by (with_reducible repeat (first | refine blk_drewN ?_ _ | refine blk_drew ?_ | refine blk_alloc ?_ _)); refine blk_put (cs := #[.int .i64 t275, .int .i64 t276, .slice Ao26 t277.length co26, .int .i64 t280, .slice Ao19 x274004_2.length co19]) ?_ 4 _ rfl; (with_reducible repeat (first | refine blk_drewN ?_ _ | refine blk_drew ?_ | refine blk_alloc ?_ _)); refine blk_put (cs := #[.int .i64 t275, .int .i64 t276, .slice Ao26 t277.length co26, .int .i64 x274003_2, .slice Ao19 x274004_2.length co19]) ?_ 3 _ rfl; (with_reducible repeat (first | refine blk_drewN ?_ _ | refine blk_drew ?_ | refine blk_alloc ?_ _)); refine blk_put (cs := #[.int .i64 t275, .int .i64 t276, .slice Ao18 x274002_2.length co18, .int .i64 x274003_2, .slice Ao19 x274004_2.length co19]) ?_ 2 _ rfl; (with_reducible repeat (first | refine blk_drewN ?_ _ | refine blk_drew ?_ | refine blk_alloc ?_ _)); refine blk_put (cs := #[.int .i64 t275, .int .i64 x274001_2, .slice Ao18 x274002_2.length co18, .int .i64 x274003_2, .slice Ao19 x274004_2.length co19]) ?_ 1 _ rfl; (with_reducible repeat (first | refine blk_drewN ?_ _ | refine blk_drew ?_ | refine blk_alloc ?_ _)); refine blk_put (cs := #[.int .i64 x274000_2, .int .i64 x274001_2, .slice Ao18 x274002_2.length co18, .int .i64 x274003_2, .slice Ao19 x274004_2.length co19]) ?_ 0 _ rfl; (with_reducible repeat (first | refine blk_drewN ?_ _ | refine blk_drew ?_ | refine blk_alloc ?_ _)); refine blk_far ?_ NB273_285.out _; (with_reducible repeat (first | refine blk_drewN ?_ _ | refine blk_drew ?_ | refine blk_alloc ?_ _)); refine blk_far ?_ NB273_285.out _; (with_reducible repeat (first | refine blk_drewN ?_ _ | refine blk_drew ?_ | refine blk_alloc ?_ _)); refine blk_far ?_ NB273_285.out _; (with_reducible repeat (first | refine blk_drewN ?_ _ | refine blk_drew ?_ | refine blk_alloc ?_ _)); refine blk_far ?_ NB273_285.out _; (with_reducible repeat (first | refine blk_drewN ?_ _ | refine blk_drew ?_ | refine blk_alloc ?_ _)); refine blk_far ?_ NB273_285.out _; (with_reducible repeat (first | refine blk_drewN ?_ _ | refine blk_drew ?_ | refine blk_alloc ?_ _)); exact BK273.out⟩, ⟨by repeat (first | (with_reducible first | exact HB.out | apply below_alloc | apply pw_below_drewN | apply below_drew1 | refine below_set ?_ GE273.out | refine below_set ?_ GE285.out) | exact HB.out)⟩⟩
         ·
          replace c16 := Bool.eq_false_iff.mpr c16
          subst c16
          have H1 : (laws_FnEnds.l0 k2 x3_4 x6_2 (wrap64 (x7_2 + 1)) x274000_2 x274001_2 x274002_2 x274003_2 x274004_2) = some r := by rw [if_neg (show ¬ (false = true) by decide)] at H; exact H
          clear H; have H := H1; clear H1
          have H' := Aside0.mk H
          clear H
          obtain ⟨Ao34, co34, eo34⟩ := Kd.R_slice HO_3.out
          subst eo34
          obtain ⟨Ao35, co35, eo35, _⟩ := Kd.Q_slice HO_274002.out
          subst eo35
          obtain ⟨Ao36, co36, eo36⟩ := Kd.R_slice HO_274004.out
          subst eo36
          try go_wp2
          have n0_ := Aside0.mk (Kd.R_drew HO_3.out)
          have n1_ := Aside0.mk (Kd.Q_drew HO_274002.out)
          have n2_ := Aside0.mk (Kd.R_drew HO_274004.out)
          have n3_ := Aside0.mk (blk_drew BK273.out)
          have n4_ := Aside0.mk (below_drew1 HB.out)
          clear HO_3; clear HO_274002; clear HO_274004; clear BK273; clear HB
          have HO_3 := n0_
          have HO_274002 := n1_
          have HO_274004 := n2_
          have BK273 := n3_
          have HB := n4_
          clear n0_ n1_ n2_ n3_ n4_
          have p274 : 0 ≤ (x7_2 : Int) := of_decide_eq_true (by first | (with_reducible assumption) | assumption)
          have q274 : x7_2 < (x3_4.length : Int) := of_decide_eq_true (by first | (with_reducible assumption) | assumption)
          obtain ⟨ad274, e274, hx274_0⟩ := Kd.at_string (Kd.R_reads' HO_3.out).2.2 x7_2 p274 q274
          cases e274
          replace p274 := eq_true p274
          replace q274 := eq_true q274
          refine start_ (n := 12) (S := fun w' => w'.cell? ⟨gb273, 0, none⟩ = some (.int .i64 x274000_2) ∧ w'.cell? ⟨gb273, 1, none⟩ = some (.int .i64 x274001_2) ∧ w'.cell? ⟨gb273, 2, none⟩ = some (.slice Ao35 x274002_2.length co35) ∧ w'.cell? ⟨gb273, 3, none⟩ = some (.int .i64 x274003_2) ∧ w'.cell? ⟨gb273, 4, none⟩ = some (.slice Ao36 x274004_2.length co36) ∧ w'.cell? (ad274.add (x7_2).toNat) = some (.string (rdOf ByteArray.empty x3_4 x7_2))) (ds := []) #[false, false, false, false, false, false, false, false, false, false, false, false] (by kernel_rfl) rfl rfl ⟨(blk_cell BK273.out 0).trans rfl, (blk_cell BK273.out 1).trans rfl, (blk_cell BK273.out 2).trans rfl, (blk_cell BK273.out 3).trans rfl, (blk_cell BK273.out 4).trans rfl, hx274_0⟩ (fun hHeld => ?_); refine with_tabW laws_FnEnds.tab11 laws_FnEnds.bits11 (fun HT_ HW_ => ?_)
          generalize wr.drew = w37 at HO_3 HO_274002 HO_274004 BK273 HB hx274_0 hHeld ⊢
          refine pure_ (i := 1) (N := some 38) (v := ?_) (a' := ?_) #[false, true, false, false, false, false, false, false, false, false, false, false] rfl rfl (any_of HT_.out (by kernel_rfl)) (fun _ _ _ h => h) (Or.inl ⟨by rfl, ?_⟩) ?_ ?_; rotate_left
          · intro w'; go_simp; with_reducible rfl
          rotate_left
          · simp only [Act.put, List.setIfInBounds_toArray, List.set_cons_zero, List.set_cons_succ, i64_w, i32_w]; rfl
          refine pure_ (i := 2) (N := some 39) (v := ?_) (a' := ?_) #[false, true, true, false, false, false, false, false, false, false, false, false] rfl rfl (any_of HT_.out (by kernel_rfl)) (fun _ _ _ h => h) (Or.inl ⟨by rfl, ?_⟩) ?_ ?_; rotate_left
          · intro w'; go_simp; with_reducible rfl
          rotate_left
          · simp only [Act.put, List.setIfInBounds_toArray, List.set_cons_zero, List.set_cons_succ, i64_w, i32_w]; rfl
          refine pure_ (i := 3) (N := some 40) (v := ?_) (a' := ?_) #[false, true, true, true, false, false, false, false, false, false, false, false] rfl rfl (any_of HT_.out (by kernel_rfl)) (fun _ _ _ h => h) (Or.inl ⟨by rfl, ?_⟩) ?_ ?_; rotate_left
          · intro w'; go_simp; with_reducible rfl
          rotate_left
          · simp only [Act.put, List.setIfInBounds_toArray, List.set_cons_zero, List.set_cons_succ, i64_w, i32_w]; rfl
          refine take_ (i := 0) (N := some 37) (v := ?_) (a' := ?_) #[true, true, true, true, false, false, false, false, false, false, false, false] rfl rfl (take_ofW HT_.out HW_.out (by kernel_rfl)) (fun _ _ _ h => h) (Or.inl ⟨by rfl, ?_⟩) hHeld ?_ ?_; rotate_left
          ·
           rintro w' ⟨s0, s1, s2, s3, s4, s5⟩
           go_simp; with_reducible rfl
          rotate_left
          · simp only [Act.put, List.setIfInBounds_toArray, List.set_cons_zero, List.set_cons_succ, i64_w, i32_w]; rfl
          refine take_ (i := 4) (N := some 41) (v := ?_) (a' := ?_) #[true, true, true, true, true, false, false, false, false, false, false, false] rfl rfl (take_ofW HT_.out HW_.out (by kernel_rfl)) (fun _ _ _ h => h) (Or.inl ⟨by rfl, ?_⟩) hHeld ?_ ?_; rotate_left
          ·
           rintro w' ⟨s0, s1, s2, s3, s4, s5⟩
           go_simp; with_reducible rfl
          rotate_left
          · simp only [Act.put, List.setIfInBounds_toArray, List.set_cons_zero, List.set_cons_succ, i64_w, i32_w]; rfl
          refine join_ (σ := Value × Value × Nat) 2 #[true, true, true, true, true, true, true, true, true, true, false, false] (fun s_ => [(42, .tuple #[.agg #[.int .i64 t275, .int .i64 t276, s_.1, .int .i64 t280, s_.2.1], .bool false]), (8, .pointer (some ⟨s_.2.2, 0, none⟩)), (36, .tuple #[.agg #[.int .i64 t275, .int .i64 t276, s_.1, .int .i64 t280, s_.2.1], .bool false]), (43, .agg #[.int .i64 t275, .int .i64 t276, s_.1, .int .i64 t280, s_.2.1]), (44, .bool false)]) (fun s_ w' => (w'.cell? ⟨gb273, 0, none⟩ = some (.int .i64 x274000_2) ∧ w'.cell? ⟨gb273, 1, none⟩ = some (.int .i64 x274001_2) ∧ w'.cell? ⟨gb273, 2, none⟩ = some (.slice Ao35 x274002_2.length co35) ∧ w'.cell? ⟨gb273, 3, none⟩ = some (.int .i64 x274003_2) ∧ w'.cell? ⟨gb273, 4, none⟩ = some (.slice Ao36 x274004_2.length co36) ∧ w'.cell? (ad274.add (x7_2).toNat) = some (.string (rdOf ByteArray.empty x3_4 x7_2))) ∧ (Kd.R Kd.string 9 w' w.heap.size (fun k_ => some k_ ≠ (s_.2.1 : Value).ownBlock ∧ some k_ ≠ (.slice Ao35 x274002_2.length co35 : Value).ownBlock ∧ some k_ ≠ (.slice Ao36 x274004_2.length co36 : Value).ownBlock ∧ some k_ ≠ (.slice (some ad274) x3_4.length co34 : Value).ownBlock) s_.1 t277) ∧ (Kd.R Kd.string 9 w' w.heap.size (fun k_ => some k_ ≠ (s_.1 : Value).ownBlock ∧ some k_ ≠ (.slice Ao35 x274002_2.length co35 : Value).ownBlock ∧ some k_ ≠ (.slice Ao36 x274004_2.length co36 : Value).ownBlock ∧ some k_ ≠ (.slice (some ad274) x3_4.length co34 : Value).ownBlock) s_.2.1 t281) ∧ (Kd.Q Kd.string 9 w' w.heap.size (fun k_ => some k_ ≠ (s_.1 : Value).ownBlock ∧ some k_ ≠ (s_.2.1 : Value).ownBlock ∧ some k_ ≠ (.slice Ao36 x274004_2.length co36 : Value).ownBlock ∧ some k_ ≠ (.slice (some ad274) x3_4.length co34 : Value).ownBlock) (.slice Ao35 x274002_2.length co35) x274002_2) ∧ (Kd.R Kd.string 9 w' w.heap.size (fun k_ => some k_ ≠ (s_.1 : Value).ownBlock ∧ some k_ ≠ (s_.2.1 : Value).ownBlock ∧ some k_ ≠ (.slice Ao35 x274002_2.length co35 : Value).ownBlock ∧ some k_ ≠ (.slice (some ad274) x3_4.length co34 : Value).ownBlock) (.slice Ao36 x274004_2.length co36) x274004_2) ∧ (Kd.R Kd.string 9 w' w.heap.size (fun k_ => some k_ ≠ (s_.1 : Value).ownBlock ∧ some k_ ≠ (s_.2.1 : Value).ownBlock ∧ some k_ ≠ (.slice Ao35 x274002_2.length co35 : Value).ownBlock ∧ some k_ ≠ (.slice Ao36 x274004_2.length co36 : Value).ownBlock) (.slice (some ad274) x3_4.length co34) x3_4) ∧ (w'.heap[gb273]? = some (.cells #[.int .i64 x274000_2, .int .i64 x274001_2, .slice Ao35 x274002_2.length co35, .int .i64 x274003_2, .slice Ao36 x274004_2.length co36] 26 (0, 0))) ∧ (w'.heap[s_.2.2]? = some (.cells #[.int .i64 0, .int .i64 0, .slice none 0 0, .int .i64 0, .slice none 0 0] 26 (0, 0))) ∧ (w.heap.size ≤ s_.2.2) ∧ (w.heap.size ≤ s_.2.2) ∧ (gb273 ≠ s_.2.2) ∧ (s_.2.2 ≠ gb273) ∧ (Below w.heap.size w w')) ?_ ?_
          rotate_left
          ·
           intro hCont
           refine two_ (i := 5) (j := 9) (Ni := some 42) (Nj := some 8) #[true, true, true, true, true, true, false, false, false, false, false, false] #[true, true, true, true, true, false, false, false, false, true, false, false] rfl rfl rfl rfl (two_of HT_.out (by kernel_rfl)) (by decide) (by decide) (fun K hK => ?_) (fun K hK => ?_)
           ·
            skip
            refine goes_ Try.func14 (by kernel_rfl) rfl #[.agg #[.int .i64 x274000_2, .int .i64 x274001_2, .slice Ao35 x274002_2.length co35, .int .i64 x274003_2, .slice Ao36 x274004_2.length co36], .string (rdOf ByteArray.empty x3_4 x7_2)] (by rfl) rfl rfl (by (try simp only [List.map_toArray, List.map_cons, List.map_nil]); first | done | rfl | (simp only [List.length_drop, List.length_take]; rfl)) ?_
            with_reducible refine (impl_Offer.calls k2 x274000_2 x274001_2 _ _ x274002_2 x274003_2 _ _ x274004_2 (rdOf ByteArray.empty x3_4 x7_2) t275 t276 t277 t280 t281 false _ ?side1 ?side2 ?side3 ?side4 A15.out).mono ?_
            (case side1 => repeat (first | exact (Kd.Q_reads' HO_274002.out).2.2 | (with_reducible refine Kd.C_alloc ?_ _) | (with_reducible refine Kd.C_drewN ?_ _) | (with_reducible refine Kd.C_drew ?_)))
            (case side2 => exact (Kd.Q_reads' HO_274002.out).2.1)
            (case side3 => repeat (first | exact (Kd.R_reads' HO_274004.out).2.2 | (with_reducible refine Kd.C_alloc ?_ _) | (with_reducible refine Kd.C_drewN ?_ _) | (with_reducible refine Kd.C_drew ?_)))
            (case side4 => exact (Kd.R_reads' HO_274004.out).2.1)
            rintro e w38 ⟨v278, v282, rfl, ho0, ho1, hb⟩
            have HS5_ := (hb.cell (World.block_lt_of_cell? _ _ (hHeld.2.2.2.2.2))).trans (hHeld.2.2.2.2.2)
            refine ⟨_, rfl, ?_⟩
            have n0_ := Aside0.mk (Kd.R_mono (Kd.R_told (Kd.R_told (Kd.R_old (rrA HO_3.out) hb) (Kd.R_base ho0)) (Kd.R_base ho1)) (fun _ h_ => h_.1))
            have n1_ := Aside0.mk (Kd.Q_mono (Kd.Q_told (Kd.Q_told (Kd.Q_old (by (with_reducible repeat (first | apply Kd.Q_alloc | apply Kd.Q_drewN | apply Kd.Q_drew)); exact HO_274002.out) hb) (Kd.R_base ho0)) (Kd.R_base ho1)) (fun _ h_ => h_.1))
            have n2_ := Aside0.mk (Kd.R_mono (Kd.R_told (Kd.R_told (Kd.R_old (rrA HO_274004.out) hb) (Kd.R_base ho0)) (Kd.R_base ho1)) (fun _ h_ => h_.1))
            have n3_ := Aside0.mk (Kd.R_lower (Kd.R_new' (Kd.R_new' (Kd.R_new' ho0 (Kd.R_lt (rrA HO_3.out))) (Kd.Q_lt (by (with_reducible repeat (first | apply Kd.Q_alloc | apply Kd.Q_drewN | apply Kd.Q_drew)); exact HO_274002.out))) (Kd.R_lt (rrA HO_274004.out))) (below_size (by repeat (first | (with_reducible first | exact HB.out | apply below_alloc | apply pw_below_drewN | apply below_drew1 | refine below_set ?_ GE273.out) | exact HB.out))))
            have n4_ := Aside0.mk (Kd.R_lower (Kd.R_new' (Kd.R_new' (Kd.R_new' ho1 (Kd.R_lt (rrA HO_3.out))) (Kd.Q_lt (by (with_reducible repeat (first | apply Kd.Q_alloc | apply Kd.Q_drewN | apply Kd.Q_drew)); exact HO_274002.out))) (Kd.R_lt (rrA HO_274004.out))) (below_size (by repeat (first | (with_reducible first | exact HB.out | apply below_alloc | apply pw_below_drewN | apply below_drew1 | refine below_set ?_ GE273.out) | exact HB.out))))
            have n5_ := Aside0.mk (blk_below (g := gb273) (o := .cells #[.int .i64 x274000_2, .int .i64 x274001_2, .slice Ao35 x274002_2.length co35, .int .i64 x274003_2, .slice Ao36 x274004_2.length co36] 26 (0, 0)) (rrB BK273.out) hb)
            have n6_ := Aside0.mk (below_step (by repeat (first | (with_reducible first | exact HB.out | apply below_alloc | apply pw_below_drewN | apply below_drew1 | refine below_set ?_ GE273.out) | exact HB.out)) hb)
            clear HO_3; clear HO_274002; clear HO_274004; clear BK273; clear HB
            have HO_3 := n0_
            have HO_274002 := n1_
            have HO_274004 := n2_
            have HO279 := n3_
            have HO283 := n4_
            have BK273 := n5_
            have HB := n6_
            clear n0_ n1_ n2_ n3_ n4_ n5_ n6_
            (try clear hb)
            (try clear hb2)
            (try clear hk)
            (try clear hi)
            (try clear ho0)
            (try clear ho1)
            refine hK.out _ _ ⟨(blk_cell BK273.out 0).trans rfl, (blk_cell BK273.out 1).trans rfl, (blk_cell BK273.out 2).trans rfl, (blk_cell BK273.out 3).trans rfl, (blk_cell BK273.out 4).trans rfl, HS5_⟩ (fun hHeld => ?_)
            clear hK K
            refine norm_ (a' := ?_) ?_ ?_
            rotate_left
            ·
             show Act.put _ (some 42) _ = _
             simp only [Act.put, List.setIfInBounds_toArray, List.set_cons_zero, List.set_cons_succ, i64_w, i32_w]; rfl
            refine pure_ (i := 6) (N := some 36) (v := ?_) (a' := ?_) #[true, true, true, true, true, true, true, false, false, false, false, false] rfl rfl (any_of HT_.out (by kernel_rfl)) (fun _ _ _ h => h) (Or.inl ⟨by rfl, ?_⟩) ?_ ?_; rotate_left
            · intro w'; go_simp; with_reducible rfl
            rotate_left
            · simp only [Act.put, List.setIfInBounds_toArray, List.set_cons_zero, List.set_cons_succ, i64_w, i32_w]; rfl
            refine pure_ (i := 7) (N := some 43) (v := ?_) (a' := ?_) #[true, true, true, true, true, true, true, true, false, false, false, false] rfl rfl (any_of HT_.out (by kernel_rfl)) (fun _ _ _ h => h) (Or.inl ⟨by rfl, ?_⟩) ?_ ?_; rotate_left
            · intro w'; go_simp; with_reducible rfl
            rotate_left
            · simp only [Act.put, List.setIfInBounds_toArray, List.set_cons_zero, List.set_cons_succ, i64_w, i32_w]; rfl
            refine pure_ (i := 8) (N := some 44) (v := ?_) (a' := ?_) #[true, true, true, true, true, true, true, true, true, false, false, false] rfl rfl (any_of HT_.out (by kernel_rfl)) (fun _ _ _ h => h) (Or.inl ⟨by rfl, ?_⟩) ?_ ?_; rotate_left
            · intro w'; go_simp; with_reducible rfl
            rotate_left
            · simp only [Act.put, List.setIfInBounds_toArray, List.set_cons_zero, List.set_cons_succ, i64_w, i32_w]; rfl
            refine one_ (i := 9) (N := some 8) #[true, true, true, true, true, true, true, true, true, true, false, false] rfl rfl (one_of HT_.out (by kernel_rfl)) (by decide) (fun K hK => ?_)
            refine box_step ?hg (N := 8) ?hd (cs := #[.int .i64 0, .int .i64 0, .slice none 0 0, .int .i64 0, .slice none 0 0]) (t := 26) ?hr ?_; (case hd => rfl); (case hg => rfl); (case hr => first | (go_simp; done) | (go_simp; rfl))
            intro gb285 hg w39 hbox hb
            have HS5_ := (hb.cell (World.block_lt_of_cell? _ _ (hHeld.2.2.2.2.2))).trans (hHeld.2.2.2.2.2)
            have n0_ := Aside0.mk (Kd.R_below (rrA HO_3.out) hb)
            have n1_ := Aside0.mk (Kd.Q_below (by (with_reducible repeat (first | apply Kd.Q_alloc | apply Kd.Q_drewN | apply Kd.Q_drew)); exact HO_274002.out) hb)
            have n2_ := Aside0.mk (Kd.R_below (rrA HO_274004.out) hb)
            have n3_ := Aside0.mk (Kd.R_below (rrA HO279.out) hb)
            have n4_ := Aside0.mk (Kd.R_below (rrA HO283.out) hb)
            have n5_ := Aside0.mk (blk_below (g := gb273) (o := .cells #[.int .i64 x274000_2, .int .i64 x274001_2, .slice Ao35 x274002_2.length co35, .int .i64 x274003_2, .slice Ao36 x274004_2.length co36] 26 (0, 0)) (rrB BK273.out) hb)
            have n6_ := Aside0.mk (below_step (by repeat (first | (with_reducible first | exact HB.out | apply below_alloc | apply pw_below_drewN | apply below_drew1 | refine below_set ?_ GE273.out) | exact HB.out)) hb)
            have n7_ := Aside0.mk (hbox)
            have n8_ := Aside0.mk ((by rw [hg]; exact (below_size (by repeat (first | (with_reducible first | exact HB.out | apply below_alloc | apply pw_below_drewN | apply below_drew1 | refine below_set ?_ GE273.out) | exact HB.out))) : w.heap.size ≤ gb285))
            have n9_ := Aside0.mk ((by rw [hg]; exact (below_size (by repeat (first | (with_reducible first | exact HB.out | apply below_alloc | apply pw_below_drewN | apply below_drew1 | refine below_set ?_ GE273.out) | exact HB.out))) : w.heap.size ≤ gb285))
            have n10_ := Aside0.mk ((by rw [hg]; exact Nat.ne_of_lt (blk_lt (g := gb273) (o := .cells #[.int .i64 x274000_2, .int .i64 x274001_2, .slice Ao35 x274002_2.length co35, .int .i64 x274003_2, .slice Ao36 x274004_2.length co36] 26 (0, 0)) (rrB BK273.out)) : gb273 ≠ gb285))
            have n11_ := Aside0.mk ((by rw [hg]; exact Nat.ne_of_gt (blk_lt (g := gb273) (o := .cells #[.int .i64 x274000_2, .int .i64 x274001_2, .slice Ao35 x274002_2.length co35, .int .i64 x274003_2, .slice Ao36 x274004_2.length co36] 26 (0, 0)) (rrB BK273.out)) : gb285 ≠ gb273))
            clear HO_3; clear HO_274002; clear HO_274004; clear HO279; clear HO283; clear BK273; clear HB
            have HO_3 := n0_
            have HO_274002 := n1_
            have HO_274004 := n2_
            have HO279 := n3_
            have HO283 := n4_
            have BK273 := n5_
            have HB := n6_
            have BK285 := n7_
            have GW285 := n8_
            have GE285 := n9_
            have NB273_285 := n10_
            have NB285_273 := n11_
            clear n0_ n1_ n2_ n3_ n4_ n5_ n6_ n7_ n8_ n9_ n10_ n11_; clear hb hbox hg
            refine hK.out _ _ ⟨(blk_cell BK273.out 0).trans rfl, (blk_cell BK273.out 1).trans rfl, (blk_cell BK273.out 2).trans rfl, (blk_cell BK273.out 3).trans rfl, (blk_cell BK273.out 4).trans rfl, HS5_⟩ (fun hHeld => ?_)
            clear hK K
            refine norm_ (a' := ?_) ?_ ?_
            rotate_left
            ·
             show Act.put _ (some 8) _ = _
             simp only [Act.put, List.setIfInBounds_toArray, List.set_cons_zero, List.set_cons_succ, i64_w, i32_w]; rfl
            exact norm_ (by simp only [putAll, Act.put, List.setIfInBounds_toArray, List.set_cons_zero, List.set_cons_succ]) (hCont (v278, v282, gb285) _ ⟨hHeld, (by (with_reducible repeat (first | apply Kd.R_alloc | apply Kd.R_drewN | apply Kd.R_drew)); exact Kd.R_mono HO279.out (fun _ hk => ⟨hk.1.1.1, ⟨hk.1.2, ⟨hk.2, hk.1.1.2⟩⟩⟩)), (by (with_reducible repeat (first | apply Kd.R_alloc | apply Kd.R_drewN | apply Kd.R_drew)); exact Kd.R_mono HO283.out (fun _ hk => ⟨hk.1.1.1, ⟨hk.1.2, ⟨hk.2, hk.1.1.2⟩⟩⟩)), (by (with_reducible repeat (first | apply Kd.Q_alloc | apply Kd.Q_drewN | apply Kd.Q_drew)); exact Kd.Q_mono HO_274002.out (fun _ hk => ⟨hk.1.2, ⟨hk.2, ⟨hk.1.1.2, hk.1.1.1⟩⟩⟩)), (by (with_reducible repeat (first | apply Kd.R_alloc | apply Kd.R_drewN | apply Kd.R_drew)); exact Kd.R_mono HO_274004.out (fun _ hk => ⟨hk.1.2, ⟨hk.2, ⟨hk.1.1.2, hk.1.1.1⟩⟩⟩)), (by (with_reducible repeat (first | apply Kd.R_alloc | apply Kd.R_drewN | apply Kd.R_drew)); exact Kd.R_mono HO_3.out (fun _ hk => ⟨hk.1.2, ⟨hk.2, ⟨hk.1.1.1, hk.1.1.2⟩⟩⟩)), (rrB BK273.out), (rrB BK285.out), GW285.out, GE285.out, NB273_285.out, NB285_273.out, (by repeat (first | (with_reducible first | exact HB.out | apply below_alloc | apply pw_below_drewN | apply below_drew1 | refine below_set ?_ GE273.out | refine below_set ?_ GE285.out) | exact HB.out))⟩)
           ·
            skip
            refine box_step ?hg (N := 8) ?hd (cs := #[.int .i64 0, .int .i64 0, .slice none 0 0, .int .i64 0, .slice none 0 0]) (t := 26) ?hr ?_; (case hd => rfl); (case hg => rfl); (case hr => first | (go_simp; done) | (go_simp; rfl))
            intro gb285 hg w38 hbox hb
            have HS5_ := (hb.cell (World.block_lt_of_cell? _ _ (hHeld.2.2.2.2.2))).trans (hHeld.2.2.2.2.2)
            have n0_ := Aside0.mk (Kd.R_below (rrA HO_3.out) hb)
            have n1_ := Aside0.mk (Kd.Q_below (by (with_reducible repeat (first | apply Kd.Q_alloc | apply Kd.Q_drewN | apply Kd.Q_drew)); exact HO_274002.out) hb)
            have n2_ := Aside0.mk (Kd.R_below (rrA HO_274004.out) hb)
            have n3_ := Aside0.mk (blk_below (g := gb273) (o := .cells #[.int .i64 x274000_2, .int .i64 x274001_2, .slice Ao35 x274002_2.length co35, .int .i64 x274003_2, .slice Ao36 x274004_2.length co36] 26 (0, 0)) (rrB BK273.out) hb)
            have n4_ := Aside0.mk (below_step (by repeat (first | (with_reducible first | exact HB.out | apply below_alloc | apply pw_below_drewN | apply below_drew1 | refine below_set ?_ GE273.out) | exact HB.out)) hb)
            have n5_ := Aside0.mk (hbox)
            have n6_ := Aside0.mk ((by rw [hg]; exact (below_size (by repeat (first | (with_reducible first | exact HB.out | apply below_alloc | apply pw_below_drewN | apply below_drew1 | refine below_set ?_ GE273.out) | exact HB.out))) : w.heap.size ≤ gb285))
            have n7_ := Aside0.mk ((by rw [hg]; exact (below_size (by repeat (first | (with_reducible first | exact HB.out | apply below_alloc | apply pw_below_drewN | apply below_drew1 | refine below_set ?_ GE273.out) | exact HB.out))) : w.heap.size ≤ gb285))
            have n8_ := Aside0.mk ((by rw [hg]; exact Nat.ne_of_lt (blk_lt (g := gb273) (o := .cells #[.int .i64 x274000_2, .int .i64 x274001_2, .slice Ao35 x274002_2.length co35, .int .i64 x274003_2, .slice Ao36 x274004_2.length co36] 26 (0, 0)) (rrB BK273.out)) : gb273 ≠ gb285))
            have n9_ := Aside0.mk ((by rw [hg]; exact Nat.ne_of_gt (blk_lt (g := gb273) (o := .cells #[.int .i64 x274000_2, .int .i64 x274001_2, .slice Ao35 x274002_2.length co35, .int .i64 x274003_2, .slice Ao36 x274004_2.length co36] 26 (0, 0)) (rrB BK273.out)) : gb285 ≠ gb273))
            clear HO_3; clear HO_274002; clear HO_274004; clear BK273; clear HB
            have HO_3 := n0_
            have HO_274002 := n1_
            have HO_274004 := n2_
            have BK273 := n3_
            have HB := n4_
            have BK285 := n5_
            have GW285 := n6_
            have GE285 := n7_
            have NB273_285 := n8_
            have NB285_273 := n9_
            clear n0_ n1_ n2_ n3_ n4_ n5_ n6_ n7_ n8_ n9_; clear hb hbox hg
            refine hK.out _ _ ⟨(blk_cell BK273.out 0).trans rfl, (blk_cell BK273.out 1).trans rfl, (blk_cell BK273.out 2).trans rfl, (blk_cell BK273.out 3).trans rfl, (blk_cell BK273.out 4).trans rfl, HS5_⟩ (fun hHeld => ?_)
            clear hK K
            refine norm_ (a' := ?_) ?_ ?_
            rotate_left
            ·
             show Act.put _ (some 8) _ = _
             simp only [Act.put, List.setIfInBounds_toArray, List.set_cons_zero, List.set_cons_succ, i64_w, i32_w]; rfl
            refine one_ (i := 5) (N := some 42) #[true, true, true, true, true, true, false, false, false, true, false, false] rfl rfl (one_of HT_.out (by kernel_rfl)) (by decide) (fun K hK => ?_)
            refine goes_ Try.func14 (by kernel_rfl) rfl #[.agg #[.int .i64 x274000_2, .int .i64 x274001_2, .slice Ao35 x274002_2.length co35, .int .i64 x274003_2, .slice Ao36 x274004_2.length co36], .string (rdOf ByteArray.empty x3_4 x7_2)] (by rfl) rfl rfl (by (try simp only [List.map_toArray, List.map_cons, List.map_nil]); first | done | rfl | (simp only [List.length_drop, List.length_take]; rfl)) ?_
            with_reducible refine (impl_Offer.calls k2 x274000_2 x274001_2 _ _ x274002_2 x274003_2 _ _ x274004_2 (rdOf ByteArray.empty x3_4 x7_2) t275 t276 t277 t280 t281 false _ ?side1 ?side2 ?side3 ?side4 A15.out).mono ?_
            (case side1 => repeat (first | exact (Kd.Q_reads' HO_274002.out).2.2 | (with_reducible refine Kd.C_alloc ?_ _) | (with_reducible refine Kd.C_drewN ?_ _) | (with_reducible refine Kd.C_drew ?_)))
            (case side2 => exact (Kd.Q_reads' HO_274002.out).2.1)
            (case side3 => repeat (first | exact (Kd.R_reads' HO_274004.out).2.2 | (with_reducible refine Kd.C_alloc ?_ _) | (with_reducible refine Kd.C_drewN ?_ _) | (with_reducible refine Kd.C_drew ?_)))
            (case side4 => exact (Kd.R_reads' HO_274004.out).2.1)
            rintro e w39 ⟨v278, v282, rfl, ho0, ho1, hb⟩
            have HS5_ := (hb.cell (World.block_lt_of_cell? _ _ (hHeld.2.2.2.2.2))).trans (hHeld.2.2.2.2.2)
            refine ⟨_, rfl, ?_⟩
            have n0_ := Aside0.mk (Kd.R_mono (Kd.R_told (Kd.R_told (Kd.R_old (rrA HO_3.out) hb) (Kd.R_base ho0)) (Kd.R_base ho1)) (fun _ h_ => h_.1))
            have n1_ := Aside0.mk (Kd.Q_mono (Kd.Q_told (Kd.Q_told (Kd.Q_old (by (with_reducible repeat (first | apply Kd.Q_alloc | apply Kd.Q_drewN | apply Kd.Q_drew)); exact HO_274002.out) hb) (Kd.R_base ho0)) (Kd.R_base ho1)) (fun _ h_ => h_.1))
            have n2_ := Aside0.mk (Kd.R_mono (Kd.R_told (Kd.R_told (Kd.R_old (rrA HO_274004.out) hb) (Kd.R_base ho0)) (Kd.R_base ho1)) (fun _ h_ => h_.1))
            have n3_ := Aside0.mk (Kd.R_lower (Kd.R_new' (Kd.R_new' (Kd.R_new' ho0 (Kd.R_lt (rrA HO_3.out))) (Kd.Q_lt (by (with_reducible repeat (first | apply Kd.Q_alloc | apply Kd.Q_drewN | apply Kd.Q_drew)); exact HO_274002.out))) (Kd.R_lt (rrA HO_274004.out))) (below_size (by repeat (first | (with_reducible first | exact HB.out | apply below_alloc | apply pw_below_drewN | apply below_drew1 | refine below_set ?_ GE273.out | refine below_set ?_ GE285.out) | exact HB.out))))
            have n4_ := Aside0.mk (Kd.R_lower (Kd.R_new' (Kd.R_new' (Kd.R_new' ho1 (Kd.R_lt (rrA HO_3.out))) (Kd.Q_lt (by (with_reducible repeat (first | apply Kd.Q_alloc | apply Kd.Q_drewN | apply Kd.Q_drew)); exact HO_274002.out))) (Kd.R_lt (rrA HO_274004.out))) (below_size (by repeat (first | (with_reducible first | exact HB.out | apply below_alloc | apply pw_below_drewN | apply below_drew1 | refine below_set ?_ GE273.out | refine below_set ?_ GE285.out) | exact HB.out))))
            have n5_ := Aside0.mk (blk_below (g := gb273) (o := .cells #[.int .i64 x274000_2, .int .i64 x274001_2, .slice Ao35 x274002_2.length co35, .int .i64 x274003_2, .slice Ao36 x274004_2.length co36] 26 (0, 0)) (rrB BK273.out) hb)
            have n6_ := Aside0.mk (blk_below (g := gb285) (o := .cells #[.int .i64 0, .int .i64 0, .slice none 0 0, .int .i64 0, .slice none 0 0] 26 (0, 0)) (rrB BK285.out) hb)
            have n7_ := Aside0.mk (below_step (by repeat (first | (with_reducible first | exact HB.out | apply below_alloc | apply pw_below_drewN | apply below_drew1 | refine below_set ?_ GE273.out | refine below_set ?_ GE285.out) | exact HB.out)) hb)
            clear HO_3; clear HO_274002; clear HO_274004; clear BK273; clear BK285; clear HB
            have HO_3 := n0_
            have HO_274002 := n1_
            have HO_274004 := n2_
            have HO279 := n3_
            have HO283 := n4_
            have BK273 := n5_
            have BK285 := n6_
            have HB := n7_
            clear n0_ n1_ n2_ n3_ n4_ n5_ n6_ n7_
            (try clear hb)
            (try clear hb2)
            (try clear hk)
            (try clear hi)
            (try clear ho0)
            (try clear ho1)
            refine hK.out _ _ ⟨(blk_cell BK273.out 0).trans rfl, (blk_cell BK273.out 1).trans rfl, (blk_cell BK273.out 2).trans rfl, (blk_cell BK273.out 3).trans rfl, (blk_cell BK273.out 4).trans rfl, HS5_⟩ (fun hHeld => ?_)
            clear hK K
            refine norm_ (a' := ?_) ?_ ?_
            rotate_left
            ·
             show Act.put _ (some 42) _ = _
             simp only [Act.put, List.setIfInBounds_toArray, List.set_cons_zero, List.set_cons_succ, i64_w, i32_w]; rfl
            refine pure_ (i := 6) (N := some 36) (v := ?_) (a' := ?_) #[true, true, true, true, true, true, true, false, false, true, false, false] rfl rfl (any_of HT_.out (by kernel_rfl)) (fun _ _ _ h => h) (Or.inl ⟨by rfl, ?_⟩) ?_ ?_; rotate_left
            · intro w'; go_simp; with_reducible rfl
            rotate_left
            · simp only [Act.put, List.setIfInBounds_toArray, List.set_cons_zero, List.set_cons_succ, i64_w, i32_w]; rfl
            refine pure_ (i := 7) (N := some 43) (v := ?_) (a' := ?_) #[true, true, true, true, true, true, true, true, false, true, false, false] rfl rfl (any_of HT_.out (by kernel_rfl)) (fun _ _ _ h => h) (Or.inl ⟨by rfl, ?_⟩) ?_ ?_; rotate_left
            · intro w'; go_simp; with_reducible rfl
            rotate_left
            · simp only [Act.put, List.setIfInBounds_toArray, List.set_cons_zero, List.set_cons_succ, i64_w, i32_w]; rfl
            refine pure_ (i := 8) (N := some 44) (v := ?_) (a' := ?_) #[true, true, true, true, true, true, true, true, true, true, false, false] rfl rfl (any_of HT_.out (by kernel_rfl)) (fun _ _ _ h => h) (Or.inl ⟨by rfl, ?_⟩) ?_ ?_; rotate_left
            · intro w'; go_simp; with_reducible rfl
            rotate_left
            · simp only [Act.put, List.setIfInBounds_toArray, List.set_cons_zero, List.set_cons_succ, i64_w, i32_w]; rfl
            exact norm_ (by simp only [putAll, Act.put, List.setIfInBounds_toArray, List.set_cons_zero, List.set_cons_succ]) (hCont (v278, v282, gb285) _ ⟨hHeld, (by (with_reducible repeat (first | apply Kd.R_alloc | apply Kd.R_drewN | apply Kd.R_drew)); exact Kd.R_mono HO279.out (fun _ hk => ⟨hk.1.1.1, ⟨hk.1.2, ⟨hk.2, hk.1.1.2⟩⟩⟩)), (by (with_reducible repeat (first | apply Kd.R_alloc | apply Kd.R_drewN | apply Kd.R_drew)); exact Kd.R_mono HO283.out (fun _ hk => ⟨hk.1.1.1, ⟨hk.1.2, ⟨hk.2, hk.1.1.2⟩⟩⟩)), (by (with_reducible repeat (first | apply Kd.Q_alloc | apply Kd.Q_drewN | apply Kd.Q_drew)); exact Kd.Q_mono HO_274002.out (fun _ hk => ⟨hk.1.2, ⟨hk.2, ⟨hk.1.1.2, hk.1.1.1⟩⟩⟩)), (by (with_reducible repeat (first | apply Kd.R_alloc | apply Kd.R_drewN | apply Kd.R_drew)); exact Kd.R_mono HO_274004.out (fun _ hk => ⟨hk.1.2, ⟨hk.2, ⟨hk.1.1.2, hk.1.1.1⟩⟩⟩)), (by (with_reducible repeat (first | apply Kd.R_alloc | apply Kd.R_drewN | apply Kd.R_drew)); exact Kd.R_mono HO_3.out (fun _ hk => ⟨hk.1.2, ⟨hk.2, ⟨hk.1.1.1, hk.1.1.2⟩⟩⟩)), (rrB BK273.out), (rrB BK285.out), GW285.out, GE285.out, NB273_285.out, NB285_273.out, (by repeat (first | (with_reducible first | exact HB.out | apply below_alloc | apply pw_below_drewN | apply below_drew1 | refine below_set ?_ GE273.out | refine below_set ?_ GE285.out) | exact HB.out))⟩)
          rintro ⟨v278, v282, gb285⟩ w40 ⟨hS_, h0_, h1_, h2_, h3_, h4_, h5_, h6_, h7_, h8_, h9_, h10_, h11_⟩
          have n0_ : Aside0 (Kd.R Kd.string 9 w40 w.heap.size (fun k_ => some k_ ≠ (v282 : Value).ownBlock ∧ some k_ ≠ (.slice Ao35 x274002_2.length co35 : Value).ownBlock ∧ some k_ ≠ (.slice Ao36 x274004_2.length co36 : Value).ownBlock ∧ some k_ ≠ (.slice (some ad274) x3_4.length co34 : Value).ownBlock) v278 t277) := ⟨h0_⟩
          have n1_ : Aside0 (Kd.R Kd.string 9 w40 w.heap.size (fun k_ => some k_ ≠ (v278 : Value).ownBlock ∧ some k_ ≠ (.slice Ao35 x274002_2.length co35 : Value).ownBlock ∧ some k_ ≠ (.slice Ao36 x274004_2.length co36 : Value).ownBlock ∧ some k_ ≠ (.slice (some ad274) x3_4.length co34 : Value).ownBlock) v282 t281) := ⟨h1_⟩
          have n2_ : Aside0 (Kd.Q Kd.string 9 w40 w.heap.size (fun k_ => some k_ ≠ (v278 : Value).ownBlock ∧ some k_ ≠ (v282 : Value).ownBlock ∧ some k_ ≠ (.slice Ao36 x274004_2.length co36 : Value).ownBlock ∧ some k_ ≠ (.slice (some ad274) x3_4.length co34 : Value).ownBlock) (.slice Ao35 x274002_2.length co35) x274002_2) := ⟨h2_⟩
          have n3_ : Aside0 (Kd.R Kd.string 9 w40 w.heap.size (fun k_ => some k_ ≠ (v278 : Value).ownBlock ∧ some k_ ≠ (v282 : Value).ownBlock ∧ some k_ ≠ (.slice Ao35 x274002_2.length co35 : Value).ownBlock ∧ some k_ ≠ (.slice (some ad274) x3_4.length co34 : Value).ownBlock) (.slice Ao36 x274004_2.length co36) x274004_2) := ⟨h3_⟩
          have n4_ : Aside0 (Kd.R Kd.string 9 w40 w.heap.size (fun k_ => some k_ ≠ (v278 : Value).ownBlock ∧ some k_ ≠ (v282 : Value).ownBlock ∧ some k_ ≠ (.slice Ao35 x274002_2.length co35 : Value).ownBlock ∧ some k_ ≠ (.slice Ao36 x274004_2.length co36 : Value).ownBlock) (.slice (some ad274) x3_4.length co34) x3_4) := ⟨h4_⟩
          have n5_ : Aside0 (w40.heap[gb273]? = some (.cells #[.int .i64 x274000_2, .int .i64 x274001_2, .slice Ao35 x274002_2.length co35, .int .i64 x274003_2, .slice Ao36 x274004_2.length co36] 26 (0, 0))) := ⟨h5_⟩
          have n6_ : Aside0 (w40.heap[gb285]? = some (.cells #[.int .i64 0, .int .i64 0, .slice none 0 0, .int .i64 0, .slice none 0 0] 26 (0, 0))) := ⟨h6_⟩
          have n7_ : Aside0 (w.heap.size ≤ gb285) := ⟨h7_⟩
          have n8_ : Aside0 (w.heap.size ≤ gb285) := ⟨h8_⟩
          have n9_ : Aside0 (gb273 ≠ gb285) := ⟨h9_⟩
          have n10_ : Aside0 (gb285 ≠ gb273) := ⟨h10_⟩
          have n11_ : Aside0 (Below w.heap.size w w40) := ⟨h11_⟩
          clear HO_3; clear HO_274002; clear HO_274004; clear BK273; clear HB; clear h0_ h1_ h2_ h3_ h4_ h5_ h6_ h7_ h8_ h9_ h10_ h11_
          have HO279 := n0_
          have HO283 := n1_
          have HO_274002 := n2_
          have HO_274004 := n3_
          have HO_3 := n4_
          have BK273 := n5_
          have BK285 := n6_
          have GW285 := n7_
          have GE285 := n8_
          have NB273_285 := n9_
          have NB285_273 := n10_
          have HB := n11_
          clear n0_ n1_ n2_ n3_ n4_ n5_ n6_ n7_ n8_ n9_ n10_ n11_
          have hHeld : w40.cell? ⟨gb273, 0, none⟩ = some (.int .i64 x274000_2) ∧ w40.cell? ⟨gb273, 1, none⟩ = some (.int .i64 x274001_2) ∧ w40.cell? ⟨gb273, 2, none⟩ = some (.slice Ao35 x274002_2.length co35) ∧ w40.cell? ⟨gb273, 3, none⟩ = some (.int .i64 x274003_2) ∧ w40.cell? ⟨gb273, 4, none⟩ = some (.slice Ao36 x274004_2.length co36) ∧ w40.cell? (ad274.add (x7_2).toNat) = some (.string (rdOf ByteArray.empty x3_4 x7_2)) := hS_
          obtain ⟨Ao43, co43, eo43⟩ := Kd.R_slice HO279.out
          (first | subst eo43 | (injection eo43 with f1_ f2_ f3_; have f4_ := f1_.symm; have f5_ := f3_.symm; clear f1_ f2_ f3_; subst f4_; subst f5_))
          obtain ⟨Ao46, co46, eo46⟩ := Kd.R_slice HO283.out
          (first | subst eo46 | (injection eo46 with f1_ f2_ f3_; have f4_ := f1_.symm; have f5_ := f3_.symm; clear f1_ f2_ f3_; subst f4_; subst f5_))
          refine norm_ (a' := ?_) ?_ ?_
          rotate_left
          · simp only [putAll, Act.put, List.setIfInBounds_toArray, List.set_cons_zero, List.set_cons_succ]; rfl
          refine one_ (i := 10) (N := none) #[true, true, true, true, true, true, true, true, true, true, true, false] rfl rfl (one_of HT_.out (by kernel_rfl)) (by decide) (fun K hK => ?_)
          have hs41 : w40.cell? ⟨gb285, 0, none⟩ = some (.int .i64 0) := (blk_cell BK285.out 0).trans rfl
          have hfs41 := blk_frozen BK285.out 0
          have hns41_0 := NB273_285.out
          have hms41_0 := NB285_273.out
          have hs42 : w40.cell? ⟨gb285, 1, none⟩ = some (.int .i64 0) := (blk_cell BK285.out 1).trans rfl
          have hfs42 := blk_frozen BK285.out 1
          have hns42_0 := NB273_285.out
          have hms42_0 := NB285_273.out
          have hs44 : w40.cell? ⟨gb285, 2, none⟩ = some (.slice none 0 0) := (blk_cell BK285.out 2).trans rfl
          have hfs44 := blk_frozen BK285.out 2
          have hns44_0 := NB273_285.out
          have hms44_0 := NB285_273.out
          have hs45 : w40.cell? ⟨gb285, 3, none⟩ = some (.int .i64 0) := (blk_cell BK285.out 3).trans rfl
          have hfs45 := blk_frozen BK285.out 3
          have hns45_0 := NB273_285.out
          have hms45_0 := NB285_273.out
          have hs47 : w40.cell? ⟨gb285, 4, none⟩ = some (.slice none 0 0) := (blk_cell BK285.out 4).trans rfl
          have hfs47 := blk_frozen BK285.out 4
          have hns47_0 := NB273_285.out
          have hms47_0 := NB285_273.out
          refine skip_ (w1 := ?_) (by rfl) rfl ?_ ?_
          rotate_left
          · go_simp; rfl
          refine hK.out _ _ ⟨((cell_far (p := ⟨gb285, _, none⟩) NB273_285.out _).trans (((cell_far (p := ⟨gb285, _, none⟩) NB273_285.out _).trans (((cell_far (p := ⟨gb285, _, none⟩) NB273_285.out _).trans (((cell_far (p := ⟨gb285, _, none⟩) NB273_285.out _).trans (((cell_far (p := ⟨gb285, _, none⟩) NB273_285.out _).trans (hHeld.1)))))))))), ((cell_far (p := ⟨gb285, _, none⟩) NB273_285.out _).trans (((cell_far (p := ⟨gb285, _, none⟩) NB273_285.out _).trans (((cell_far (p := ⟨gb285, _, none⟩) NB273_285.out _).trans (((cell_far (p := ⟨gb285, _, none⟩) NB273_285.out _).trans (((cell_far (p := ⟨gb285, _, none⟩) NB273_285.out _).trans (hHeld.2.1)))))))))), ((cell_far (p := ⟨gb285, _, none⟩) NB273_285.out _).trans (((cell_far (p := ⟨gb285, _, none⟩) NB273_285.out _).trans (((cell_far (p := ⟨gb285, _, none⟩) NB273_285.out _).trans (((cell_far (p := ⟨gb285, _, none⟩) NB273_285.out _).trans (((cell_far (p := ⟨gb285, _, none⟩) NB273_285.out _).trans (hHeld.2.2.1)))))))))), ((cell_far (p := ⟨gb285, _, none⟩) NB273_285.out _).trans (((cell_far (p := ⟨gb285, _, none⟩) NB273_285.out _).trans (((cell_far (p := ⟨gb285, _, none⟩) NB273_285.out _).trans (((cell_far (p := ⟨gb285, _, none⟩) NB273_285.out _).trans (((cell_far (p := ⟨gb285, _, none⟩) NB273_285.out _).trans (hHeld.2.2.2.1)))))))))), ((cell_far (p := ⟨gb285, _, none⟩) NB273_285.out _).trans (((cell_far (p := ⟨gb285, _, none⟩) NB273_285.out _).trans (((cell_far (p := ⟨gb285, _, none⟩) NB273_285.out _).trans (((cell_far (p := ⟨gb285, _, none⟩) NB273_285.out _).trans (((cell_far (p := ⟨gb285, _, none⟩) NB273_285.out _).trans (hHeld.2.2.2.2.1)))))))))), ((cell_far (p := ⟨gb285, _, none⟩) (by first | exact Kd.own_blk (Kd.R_ne HO_3.out BK285.out (by decide)) | (rw [add_block]; exact Kd.own_blk (Kd.R_ne HO_3.out BK285.out (by decide))) | (show (Addr.add _ _).block ≠ _; rw [add_block]; exact Kd.own_blk (Kd.R_ne HO_3.out BK285.out (by decide))) | (dsimp only; exact Kd.own_blk (Kd.R_ne HO_3.out BK285.out (by decide)))) _).trans (((cell_far (p := ⟨gb285, _, none⟩) (by first | exact Kd.own_blk (Kd.R_ne HO_3.out BK285.out (by decide)) | (rw [add_block]; exact Kd.own_blk (Kd.R_ne HO_3.out BK285.out (by decide))) | (show (Addr.add _ _).block ≠ _; rw [add_block]; exact Kd.own_blk (Kd.R_ne HO_3.out BK285.out (by decide))) | (dsimp only; exact Kd.own_blk (Kd.R_ne HO_3.out BK285.out (by decide)))) _).trans (((cell_far (p := ⟨gb285, _, none⟩) (by first | exact Kd.own_blk (Kd.R_ne HO_3.out BK285.out (by decide)) | (rw [add_block]; exact Kd.own_blk (Kd.R_ne HO_3.out BK285.out (by decide))) | (show (Addr.add _ _).block ≠ _; rw [add_block]; exact Kd.own_blk (Kd.R_ne HO_3.out BK285.out (by decide))) | (dsimp only; exact Kd.own_blk (Kd.R_ne HO_3.out BK285.out (by decide)))) _).trans (((cell_far (p := ⟨gb285, _, none⟩) (by first | exact Kd.own_blk (Kd.R_ne HO_3.out BK285.out (by decide)) | (rw [add_block]; exact Kd.own_blk (Kd.R_ne HO_3.out BK285.out (by decide))) | (show (Addr.add _ _).block ≠ _; rw [add_block]; exact Kd.own_blk (Kd.R_ne HO_3.out BK285.out (by decide))) | (dsimp only; exact Kd.own_blk (Kd.R_ne HO_3.out BK285.out (by decide)))) _).trans (((cell_far (p := ⟨gb285, _, none⟩) (by first | exact Kd.own_blk (Kd.R_ne HO_3.out BK285.out (by decide)) | (rw [add_block]; exact Kd.own_blk (Kd.R_ne HO_3.out BK285.out (by decide))) | (show (Addr.add _ _).block ≠ _; rw [add_block]; exact Kd.own_blk (Kd.R_ne HO_3.out BK285.out (by decide))) | (dsimp only; exact Kd.own_blk (Kd.R_ne HO_3.out BK285.out (by decide)))) _).trans (hHeld.2.2.2.2.2))))))))))⟩ (fun hHeld => ?_)
          clear hK K
          refine pure_ (i := 11) (N := some 9) (v := ?_) (a' := ?_) #[true, true, true, true, true, true, true, true, true, true, true, true] rfl rfl (any_of HT_.out (by kernel_rfl)) (fun _ _ _ h => h) (Or.inl ⟨by rfl, ?_⟩) ?_ ?_; rotate_left
          · intro w'; go_simp; with_reducible rfl
          rotate_left
          · simp only [Act.put, List.setIfInBounds_toArray, List.set_cons_zero, List.set_cons_succ, i64_w, i32_w]; rfl
          refine done_ (done_of HT_.out (by kernel_rfl)) ?_
          try go_wp2
          go_roundg k2
          case measure => have := HJ4.out; have := HK2.out; omega
          case rel => exact ⟨(x6_2), (wrap64 (x7_2 + 1)), (x274000_2), (x274001_2), (x274002_2), (x274003_2), (x274004_2), (.slice Ao35 x274002_2.length co35), (.slice Ao36 x274004_2.length co36), (by first | rfl | (simp; done) | (simp [*]; done)), (by first | rfl | (simp; done) | (simp [*]; done)), H', ⟨by have := HJ4.out; have := HK2.out; omega⟩, ⟨by (with_reducible repeat (first | apply Kd.R_alloc | apply Kd.R_drewN | apply Kd.R_drew)); exact Kd.R_mono (Kd.R_far (p := ⟨gb285, 4, none⟩) (Kd.R_far (p := ⟨gb285, 3, none⟩) (Kd.R_far (p := ⟨gb285, 2, none⟩) (Kd.R_far (p := ⟨gb285, 1, none⟩) (Kd.R_far (p := ⟨gb285, 0, none⟩) (Kd.R_types HO_3.out BK285.out (by decide)) (fun _ hk => hk.2) (.int .i64 t275)) (fun _ hk => hk.2) (.int .i64 t276)) (fun _ hk => hk.2) (.slice Ao43 t277.length co43)) (fun _ hk => hk.2) (.int .i64 t280)) (fun _ hk => hk.2) (.slice Ao46 t281.length co46)) (fun _ hk => ⟨hk.1.2.2.1, hk.1.2.2.2⟩)⟩, ⟨by (with_reducible repeat (first | apply Kd.Q_alloc | apply Kd.Q_drewN | apply Kd.Q_drew)); exact Kd.Q_mono (Kd.Q_far (p := ⟨gb285, 4, none⟩) (Kd.Q_far (p := ⟨gb285, 3, none⟩) (Kd.Q_far (p := ⟨gb285, 2, none⟩) (Kd.Q_far (p := ⟨gb285, 1, none⟩) (Kd.Q_far (p := ⟨gb285, 0, none⟩) (Kd.Q_types HO_274002.out BK285.out (by decide)) (fun _ hk => hk.2) (.int .i64 t275)) (fun _ hk => hk.2) (.int .i64 t276)) (fun _ hk => hk.2) (.slice Ao43 t277.length co43)) (fun _ hk => hk.2) (.int .i64 t280)) (fun _ hk => hk.2) (.slice Ao46 t281.length co46)) (fun _ hk => ⟨hk.1.2.2.2, hk.1.2.2.1⟩)⟩, ⟨by (with_reducible repeat (first | apply Kd.R_alloc | apply Kd.R_drewN | apply Kd.R_drew)); exact Kd.R_mono (Kd.R_far (p := ⟨gb285, 4, none⟩) (Kd.R_far (p := ⟨gb285, 3, none⟩) (Kd.R_far (p := ⟨gb285, 2, none⟩) (Kd.R_far (p := ⟨gb285, 1, none⟩) (Kd.R_far (p := ⟨gb285, 0, none⟩) (Kd.R_types HO_274004.out BK285.out (by decide)) (fun _ hk => hk.2) (.int .i64 t275)) (fun _ hk => hk.2) (.int .i64 t276)) (fun _ hk => hk.2) (.slice Ao43 t277.length co43)) (fun _ hk => hk.2) (.int .i64 t280)) (fun _ hk => hk.2) (.slice Ao46 t281.length co46)) (fun _ hk => ⟨hk.1.2.2.2, hk.1.2.2.1⟩)⟩, ⟨by (with_reducible repeat (first | refine blk_drewN ?_ _ | refine blk_drew ?_ | refine blk_alloc ?_ _)); refine blk_far ?_ NB273_285.out _; (with_reducible repeat (first | refine blk_drewN ?_ _ | refine blk_drew ?_ | refine blk_alloc ?_ _)); refine blk_far ?_ NB273_285.out _; (with_reducible repeat (first | refine blk_drewN ?_ _ | refine blk_drew ?_ | refine blk_alloc ?_ _)); refine blk_far ?_ NB273_285.out _; (with_reducible repeat (first | refine blk_drewN ?_ _ | refine blk_drew ?_ | refine blk_alloc ?_ _)); refine blk_far ?_ NB273_285.out _; (with_reducible repeat (first | refine blk_drewN ?_ _ | refine blk_drew ?_ | refine blk_alloc ?_ _)); refine blk_far ?_ NB273_285.out _; (with_reducible repeat (first | refine blk_drewN ?_ _ | refine blk_drew ?_ | refine blk_alloc ?_ _)); exact BK273.out⟩, ⟨by repeat (first | (with_reducible first | exact HB.out | apply below_alloc | apply pw_below_drewN | apply below_drew1 | refine below_set ?_ GE273.out | refine below_set ?_ GE285.out) | exact HB.out)⟩⟩
        ·
         rw [if_neg c14] at H
         exact absurd H (by simp)
       ·
        rw [if_neg c13] at H
        have c13b0 : decide (x7_2 < (x3_4.length : Int)) = false := decide_eq_false c13
        clear c13
        have H' := Aside0.mk H
        clear H
        obtain ⟨Ao48, co48, eo48⟩ := Kd.R_slice HO_3.out
        subst eo48
        go_wp2_with (first | ((with_reducible refine gate_dst (N := 10) rfl ?_); (try (refine gate_guard (by rfl) ?_; dsimp only)); refine box_event ?hg (N := 10) ?hd (cs := #[.int .i64 0, .int .i64 0, .slice none 0 0, .int .i64 0, .slice none 0 0]) (t := 26) ?hr ?_; (case hd => rfl); (case hg => rfl); (case hr => first | (go_simp; done) | (go_simp; rfl)); intro gb286 hg w49 hbox hb; have n0_ := Aside0.mk (Kd.R_below (rrA HO_3.out) hb); have n1_ := Aside0.mk (Kd.Q_below (by (with_reducible repeat (first | apply Kd.Q_alloc | apply Kd.Q_drewN | apply Kd.Q_drew)); exact HO_274002.out) hb); have n2_ := Aside0.mk (Kd.R_below (rrA HO_274004.out) hb); have n3_ := Aside0.mk (blk_below (g := gb273) (o := .cells #[.int .i64 x274000_2, .int .i64 x274001_2, u274002, .int .i64 x274003_2, u274004] 26 (0, 0)) (rrB BK273.out) hb); have n4_ := Aside0.mk (below_step (by repeat (first | (with_reducible first | exact HB.out | apply below_alloc | apply pw_below_drewN | apply below_drew1 | refine below_set ?_ GE273.out) | exact HB.out)) hb); have n5_ := Aside0.mk (hbox); have n6_ := Aside0.mk ((by rw [hg]; exact (below_size (by repeat (first | (with_reducible first | exact HB.out | apply below_alloc | apply pw_below_drewN | apply below_drew1 | refine below_set ?_ GE273.out) | exact HB.out))) : w.heap.size ≤ gb286)); have n7_ := Aside0.mk ((by rw [hg]; exact (below_size (by repeat (first | (with_reducible first | exact HB.out | apply below_alloc | apply pw_below_drewN | apply below_drew1 | refine below_set ?_ GE273.out) | exact HB.out))) : w.heap.size ≤ gb286)); have n8_ := Aside0.mk ((by rw [hg]; exact Nat.ne_of_lt (blk_lt (g := gb273) (o := .cells #[.int .i64 x274000_2, .int .i64 x274001_2, u274002, .int .i64 x274003_2, u274004] 26 (0, 0)) (rrB BK273.out)) : gb273 ≠ gb286)); have n9_ := Aside0.mk ((by rw [hg]; exact Nat.ne_of_gt (blk_lt (g := gb273) (o := .cells #[.int .i64 x274000_2, .int .i64 x274001_2, u274002, .int .i64 x274003_2, u274004] 26 (0, 0)) (rrB BK273.out)) : gb286 ≠ gb273)); clear HO_3; clear HO_274002; clear HO_274004; clear BK273; clear HB; have HO_3 := n0_; have HO_274002 := n1_; have HO_274004 := n2_; have BK273 := n3_; have HB := n4_; have BK286 := n5_; have GW286 := n6_; have GE286 := n7_; have NB273_286 := n8_; have NB286_273 := n9_; clear n0_ n1_ n2_ n3_ n4_ n5_ n6_ n7_ n8_ n9_; clear hb hbox hg; have hnb50 := NB286_273.out; have hnc50 := NB273_286.out; have hcz51_0 : w49.cell? ⟨gb286, 0, none⟩ = some (.int .i64 0) := (blk_cell BK286.out 0).trans rfl; have hcz51_1 : w49.cell? ⟨gb286, 1, none⟩ = some (.int .i64 0) := (blk_cell BK286.out 1).trans rfl; have hcz51_2 : w49.cell? ⟨gb286, 2, none⟩ = some (.slice none 0 0) := (blk_cell BK286.out 2).trans rfl; have hcz51_3 : w49.cell? ⟨gb286, 3, none⟩ = some (.int .i64 0) := (blk_cell BK286.out 3).trans rfl; have hcz51_4 : w49.cell? ⟨gb286, 4, none⟩ = some (.slice none 0 0) := (blk_cell BK286.out 4).trans rfl; have hfz51_0 := blk_frozen BK286.out 0; have hfz51_1 := blk_frozen BK286.out 1; have hfz51_2 := blk_frozen BK286.out 2; have hfz51_3 := blk_frozen BK286.out 3; have hfz51_4 := blk_frozen BK286.out 4))
        go_loopg [11] k2 (fun kq v11 w' => ∃ (x11_3 : Int) (x274000_3 : Int) (x274001_3 : Int) (x274002_3 : List ByteArray) (x274003_3 : Int) (x274004_3 : List ByteArray) (x287000_3 : Int) (x287001_3 : Int) (x287002_3 : List ByteArray) (x287003_3 : Int) (x287004_3 : List ByteArray) (u274002 : Value) (u274004 : Value) (u287002 : Value) (u287004 : Value), v11 = .int .i64 x11_3 ∧ Aside0 (laws_FnEnds.l1 kq x6_2 x11_3 x274000_3 x274001_3 x274002_3 x274003_3 x274004_3 x287000_3 x287001_3 x287002_3 x287003_3 x287004_3 = some r) ∧ Aside0 (kq ≤ k2) ∧ Aside0 (Kd.Q Kd.string 9 w' w.heap.size (fun k_ => some k_ ≠ (u274004 : Value).ownBlock ∧ some k_ ≠ (u287002 : Value).ownBlock ∧ some k_ ≠ (u287004 : Value).ownBlock) u274002 x274002_3) ∧ Aside0 (Kd.R Kd.string 9 w' w.heap.size (fun k_ => some k_ ≠ (u274002 : Value).ownBlock ∧ some k_ ≠ (u287002 : Value).ownBlock ∧ some k_ ≠ (u287004 : Value).ownBlock) u274004 x274004_3) ∧ Aside0 (Kd.Q Kd.string 9 w' w.heap.size (fun k_ => some k_ ≠ (u274002 : Value).ownBlock ∧ some k_ ≠ (u274004 : Value).ownBlock ∧ some k_ ≠ (u287004 : Value).ownBlock) u287002 x287002_3) ∧ Aside0 (Kd.R Kd.string 9 w' w.heap.size (fun k_ => some k_ ≠ (u274002 : Value).ownBlock ∧ some k_ ≠ (u274004 : Value).ownBlock ∧ some k_ ≠ (u287002 : Value).ownBlock) u287004 x287004_3) ∧ Aside0 (w'.heap[gb273]? = some (.cells #[.int .i64 x274000_3, .int .i64 x274001_3, u274002, .int .i64 x274003_3, u274004] 26 (0, 0))) ∧ Aside0 (w'.heap[gb286]? = some (.cells #[.int .i64 x287000_3, .int .i64 x287001_3, u287002, .int .i64 x287003_3, u287004] 26 (0, 0))) ∧ Aside0 (Below w.heap.size w w'))
        case atStart => exact ⟨(0), (x274000_2), (x274001_2), (x274002_2), (x274003_2), (x274004_2), (0), (0), (([] : List ByteArray)), (0), (([] : List ByteArray)), (u274002), (u274004), (.slice none 0 0), (.slice none 0 0), (by first | rfl | (simp; done) | (simp [*]; done)), H', ⟨Nat.le_refl _⟩, ⟨by (with_reducible repeat (first | apply Kd.Q_alloc | apply Kd.Q_drewN | apply Kd.Q_drew)); exact Kd.Q_mono (Kd.Q_far (p := ⟨gb286, 4, none⟩) (Kd.Q_far (p := ⟨gb286, 3, none⟩) (Kd.Q_far (p := ⟨gb286, 2, none⟩) (Kd.Q_far (p := ⟨gb286, 1, none⟩) (Kd.Q_far (p := ⟨gb286, 0, none⟩) (Kd.Q_types HO_274002.out BK286.out (by decide)) (fun _ hk => hk.2) (.int .i64 0)) (fun _ hk => hk.2) (.int .i64 0)) (fun _ hk => hk.2) (.slice none 0 0)) (fun _ hk => hk.2) (.int .i64 0)) (fun _ hk => hk.2) (.slice none 0 0)) (fun _ hk => ⟨hk.1.2, ⟨(by simp [Value.ownBlock]), (by simp [Value.ownBlock])⟩⟩)⟩, ⟨by (with_reducible repeat (first | apply Kd.R_alloc | apply Kd.R_drewN | apply Kd.R_drew)); exact Kd.R_mono (Kd.R_far (p := ⟨gb286, 4, none⟩) (Kd.R_far (p := ⟨gb286, 3, none⟩) (Kd.R_far (p := ⟨gb286, 2, none⟩) (Kd.R_far (p := ⟨gb286, 1, none⟩) (Kd.R_far (p := ⟨gb286, 0, none⟩) (Kd.R_types HO_274004.out BK286.out (by decide)) (fun _ hk => hk.2) (.int .i64 0)) (fun _ hk => hk.2) (.int .i64 0)) (fun _ hk => hk.2) (.slice none 0 0)) (fun _ hk => hk.2) (.int .i64 0)) (fun _ hk => hk.2) (.slice none 0 0)) (fun _ hk => ⟨hk.1.2, ⟨(by simp [Value.ownBlock]), (by simp [Value.ownBlock])⟩⟩)⟩, ⟨Kd.Q_of_R (by first | exact Kd.R_nil _ _ _ _ _ | exact Kd.N_nil _ _ _ _ _ | exact Kd.V_nil _ _ _ _ _ | exact Kd.Q_nil _ _ _ _ _ | exact Kd.S_nil _ _ _ _ _)⟩, ⟨by first | exact Kd.R_nil _ _ _ _ _ | exact Kd.N_nil _ _ _ _ _ | exact Kd.V_nil _ _ _ _ _ | exact Kd.Q_nil _ _ _ _ _ | exact Kd.S_nil _ _ _ _ _⟩, ⟨by (with_reducible repeat (first | refine blk_drewN ?_ _ | refine blk_drew ?_ | refine blk_alloc ?_ _)); refine blk_far ?_ NB273_286.out _; (with_reducible repeat (first | refine blk_drewN ?_ _ | refine blk_drew ?_ | refine blk_alloc ?_ _)); refine blk_far ?_ NB273_286.out _; (with_reducible repeat (first | refine blk_drewN ?_ _ | refine blk_drew ?_ | refine blk_alloc ?_ _)); refine blk_far ?_ NB273_286.out _; (with_reducible repeat (first | refine blk_drewN ?_ _ | refine blk_drew ?_ | refine blk_alloc ?_ _)); refine blk_far ?_ NB273_286.out _; (with_reducible repeat (first | refine blk_drewN ?_ _ | refine blk_drew ?_ | refine blk_alloc ?_ _)); refine blk_far ?_ NB273_286.out _; (with_reducible repeat (first | refine blk_drewN ?_ _ | refine blk_drew ?_ | refine blk_alloc ?_ _)); exact BK273.out⟩, ⟨by (with_reducible repeat (first | refine blk_drewN ?_ _ | refine blk_drew ?_ | refine blk_alloc ?_ _)); refine blk_put (cs := #[.int .i64 0, .int .i64 0, .slice none 0 0, .int .i64 0, .slice none 0 0]) ?_ 4 _ rfl; (with_reducible repeat (first | refine blk_drewN ?_ _ | refine blk_drew ?_ | refine blk_alloc ?_ _)); refine blk_put (cs := #[.int .i64 0, .int .i64 0, .slice none 0 0, .int .i64 0, .slice none 0 0]) ?_ 3 _ rfl; (with_reducible repeat (first | refine blk_drewN ?_ _ | refine blk_drew ?_ | refine blk_alloc ?_ _)); refine blk_put (cs := #[.int .i64 0, .int .i64 0, .slice none 0 0, .int .i64 0, .slice none 0 0]) ?_ 2 _ rfl; (with_reducible repeat (first | refine blk_drewN ?_ _ | refine blk_drew ?_ | refine blk_alloc ?_ _)); refine blk_put (cs := #[.int .i64 0, .int .i64 0, .slice none 0 0, .int .i64 0, .slice none 0 0]) ?_ 1 _ rfl; (with_reducible repeat (first | refine blk_drewN ?_ _ | refine blk_drew ?_ | refine blk_alloc ?_ _)); refine blk_put (cs := #[.int .i64 0, .int .i64 0, .slice none 0 0, .int .i64 0, .slice none 0 0]) ?_ 0 _ rfl; (with_reducible repeat (first | refine blk_drewN ?_ _ | refine blk_drew ?_ | refine blk_alloc ?_ _)); exact BK286.out⟩, ⟨by repeat (first | (with_reducible first | exact HB.out | apply below_alloc | apply pw_below_drewN | apply below_drew1 | refine below_set ?_ GE273.out | refine below_set ?_ GE286.out) | exact HB.out)⟩⟩
        case round =>
         clear H'
         try clear c1
         try clear p2
         try clear q2
         try clear hx2
         try clear c3
         try clear c5
         try clear p6
         try clear c13
         try clear c13b0
         try clear c14
         try clear c16
         try clear p27
         try clear q27
         try clear hx27
         try clear c31
         try clear c50
         try clear hcz32_0
         try clear hcz32_1
         try clear hcz32_2
         try clear hcz32_3
         try clear hcz32_4
         try clear hcz33_0
         try clear hcz33_1
         try clear hcz33_2
         try clear hcz33_3
         try clear hcz33_4
         try clear hcz51_0
         try clear hcz51_1
         try clear hcz51_2
         try clear hcz51_3
         try clear hcz51_4
         try clear hfz32_0
         try clear hfz32_1
         try clear hfz32_2
         try clear hfz32_3
         try clear hfz32_4
         try clear hfz33_0
         try clear hfz33_1
         try clear hfz33_2
         try clear hfz33_3
         try clear hfz33_4
         try clear hfz51_0
         try clear hfz51_1
         try clear hfz51_2
         try clear hfz51_3
         try clear hfz51_4
         try clear hx274_0
         try clear p274
         try clear q274
         obtain ⟨x11_3, x274000_3, x274001_3, x274002_3, x274003_3, x274004_3, x287000_3, x287001_3, x287002_3, x287003_3, x287004_3, u274002, u274004, u287002, u287004, rfl, HA, HK3, HO_274002, HO_274004, HO_287002, HO_287004, BK273, BK286, HB⟩ := hrel
         cases gk with
         | zero => exact absurd HA.out (by simp [laws_FnEnds.l1])
         | succ k3 =>
          have H := HA.out
          clear HA
          simp only [laws_FnEnds.l1] at H
          by_cases c52 : x11_3 < 12
          ·
           rw [if_pos c52] at H
           have c52b0 : decide (x11_3 < 12) = true := decide_eq_true c52
           clear c52
           replace H := Option.bind_eq_some_iff.mp H
           obtain ⟨⟨t287, t288, t289, t292, t293, t296⟩, A530, H⟩ := H
           replace H : ((impl_SendAgain.f k3 t287 t288 t289 t292 t293).bind fun t300 => (if t296.length + t300.length < 4398046511104 then (laws_FnEnds.l2 k3 x6_2 x11_3 (t296 ++ t300) 0 t287 t288 t289 t292 t293 x287000_3 x287001_3 x287002_3 x287003_3 x287004_3) else (none))) = some r := H
           have A53 := Aside0.mk A530
           clear A530
           replace H := Option.bind_eq_some_iff.mp H
           obtain ⟨t300, A540, H⟩ := H
           replace H : (if t296.length + t300.length < 4398046511104 then (laws_FnEnds.l2 k3 x6_2 x11_3 (t296 ++ t300) 0 t287 t288 t289 t292 t293 x287000_3 x287001_3 x287002_3 x287003_3 x287004_3) else (none)) = some r := H
           have A54 := Aside0.mk A540
           clear A540
           by_cases c55 : t296.length + t300.length < 4398046511104
           ·
            rw [if_pos c55] at H
            have LMc55 := Aside0.mk c55
            clear c55
            obtain ⟨y303, hy303⟩ : ∃ y_ : List (S36), y_ = (t296 ++ t300) := ⟨_, rfl⟩
            replace H : (laws_FnEnds.l2 k3 x6_2 x11_3 y303 0 t287 t288 t289 t292 t293 x287000_3 x287001_3 x287002_3 x287003_3 x287004_3) = some r := by first | (rw [hy303]; with_reducible exact H) | (have H2_ := (Option.bind_some _ _).symm.trans H; rw [hy303]; with_reducible exact H2_) | (have H2_ := (Option.bind_some _ _).symm.trans H; with_reducible exact H2_) | with_reducible exact H | (rw [hy303]; exact H) | exact H
            have Ny303 := Aside0.mk hy303
            clear hy303
            have H' := Aside0.mk H
            clear H
            have hnb56 := NB273_286.out
            have hnc56 := NB286_273.out
            have hcz57_0 : wr.cell? ⟨gb273, 0, none⟩ = some (.int .i64 x274000_3) := (blk_cell BK273.out 0).trans rfl
            have hcz57_1 : wr.cell? ⟨gb273, 1, none⟩ = some (.int .i64 x274001_3) := (blk_cell BK273.out 1).trans rfl
            have hcz57_2 : wr.cell? ⟨gb273, 2, none⟩ = some (u274002) := (blk_cell BK273.out 2).trans rfl
            have hcz57_3 : wr.cell? ⟨gb273, 3, none⟩ = some (.int .i64 x274003_3) := (blk_cell BK273.out 3).trans rfl
            have hcz57_4 : wr.cell? ⟨gb273, 4, none⟩ = some (u274004) := (blk_cell BK273.out 4).trans rfl
            have hfz57_0 := blk_frozen BK273.out 0
            have hfz57_1 := blk_frozen BK273.out 1
            have hfz57_2 := blk_frozen BK273.out 2
            have hfz57_3 := blk_frozen BK273.out 3
            have hfz57_4 := blk_frozen BK273.out 4
            obtain ⟨Ao58, co58, eo58, _⟩ := Kd.Q_slice HO_274002.out
            subst eo58
            obtain ⟨Ao59, co59, eo59⟩ := Kd.R_slice HO_274004.out
            subst eo59
            go_wp2_with (first | ((with_reducible refine gate_callee (f := 32) rfl ?_); refine goesL_ (some 56) rfl rfl Try.func32 (by kernel_rfl) rfl #[.agg #[.int .i64 x274000_3, .int .i64 x274001_3, .slice Ao58 x274002_3.length co58, .int .i64 x274003_3, .slice Ao59 x274004_3.length co59]] rfl (by (try simp only [List.map_toArray, List.map_cons, List.map_nil]); first | done | rfl | (simp only [List.length_drop, List.length_take]; rfl)) ?_; (with_reducible refine (impl_SendNew.calls k3 x274000_3 x274001_3 _ _ x274002_3 x274003_3 _ _ x274004_3 t287 t288 t289 t292 t293 t296 _ ?side1 ?side2 ?side3 ?side4 A53.out).mono ?_); (case side1 => repeat (first | exact (Kd.Q_reads' HO_274002.out).2.2 | (with_reducible refine Kd.C_alloc ?_ _) | (with_reducible refine Kd.C_drewN ?_ _) | (with_reducible refine Kd.C_drew ?_))); (case side2 => exact (Kd.Q_reads' HO_274002.out).2.1); (case side3 => repeat (first | exact (Kd.R_reads' HO_274004.out).2.2 | (with_reducible refine Kd.C_alloc ?_ _) | (with_reducible refine Kd.C_drewN ?_ _) | (with_reducible refine Kd.C_drew ?_))); (case side4 => exact (Kd.R_reads' HO_274004.out).2.1); rintro e w60 ⟨v290, v294, v297, rfl, ho0, ho1, ho2, hb⟩; refine ⟨_, rfl, ?_⟩; have n0_ := Aside0.mk (Kd.Q_mono (Kd.Q_told (Kd.Q_told (Kd.Q_old (by (with_reducible repeat (first | apply Kd.Q_alloc | apply Kd.Q_drewN | apply Kd.Q_drew)); exact HO_274002.out) hb) (Kd.R_base ho0)) (Kd.R_base ho1)) (fun _ h_ => h_.1)); have n1_ := Aside0.mk (Kd.R_mono (Kd.R_told (Kd.R_told (Kd.R_old (rrA HO_274004.out) hb) (Kd.R_base ho0)) (Kd.R_base ho1)) (fun _ h_ => h_.1)); have n2_ := Aside0.mk (Kd.Q_mono (Kd.Q_told (Kd.Q_told (Kd.Q_old (by (with_reducible repeat (first | apply Kd.Q_alloc | apply Kd.Q_drewN | apply Kd.Q_drew)); exact HO_287002.out) hb) (Kd.R_base ho0)) (Kd.R_base ho1)) (fun _ h_ => h_.1)); have n3_ := Aside0.mk (Kd.R_mono (Kd.R_told (Kd.R_told (Kd.R_old (rrA HO_287004.out) hb) (Kd.R_base ho0)) (Kd.R_base ho1)) (fun _ h_ => h_.1)); have n4_ := Aside0.mk (Kd.R_lower (Kd.R_new' (Kd.R_new' (Kd.R_new' (Kd.R_new' ho0 (Kd.Q_lt (by (with_reducible repeat (first | apply Kd.Q_alloc | apply Kd.Q_drewN | apply Kd.Q_drew)); exact HO_274002.out))) (Kd.R_lt (rrA HO_274004.out))) (Kd.Q_lt (by (with_reducible repeat (first | apply Kd.Q_alloc | apply Kd.Q_drewN | apply Kd.Q_drew)); exact HO_287002.out))) (Kd.R_lt (rrA HO_287004.out))) (below_size (by repeat (first | (with_reducible first | exact HB.out | apply below_alloc | apply pw_below_drewN | apply below_drew1 | refine below_set ?_ GE273.out | refine below_set ?_ GE286.out) | exact HB.out)))); have n5_ := Aside0.mk (Kd.R_lower (Kd.R_new' (Kd.R_new' (Kd.R_new' (Kd.R_new' ho1 (Kd.Q_lt (by (with_reducible repeat (first | apply Kd.Q_alloc | apply Kd.Q_drewN | apply Kd.Q_drew)); exact HO_274002.out))) (Kd.R_lt (rrA HO_274004.out))) (Kd.Q_lt (by (with_reducible repeat (first | apply Kd.Q_alloc | apply Kd.Q_drewN | apply Kd.Q_drew)); exact HO_287002.out))) (Kd.R_lt (rrA HO_287004.out))) (below_size (by repeat (first | (with_reducible first | exact HB.out | apply below_alloc | apply pw_below_drewN | apply below_drew1 | refine below_set ?_ GE273.out | refine below_set ?_ GE286.out) | exact HB.out)))); have n6_ := Aside0.mk (Kd.R_lower ho2 (below_size (by repeat (first | (with_reducible first | exact HB.out | apply below_alloc | apply pw_below_drewN | apply below_drew1 | refine below_set ?_ GE273.out | refine below_set ?_ GE286.out) | exact HB.out)))); have n7_ := Aside0.mk (blk_below (g := gb273) (o := .cells #[.int .i64 x274000_3, .int .i64 x274001_3, .slice Ao58 x274002_3.length co58, .int .i64 x274003_3, .slice Ao59 x274004_3.length co59] 26 (0, 0)) (rrB BK273.out) hb); have n8_ := Aside0.mk (blk_below (g := gb286) (o := .cells #[.int .i64 x287000_3, .int .i64 x287001_3, u287002, .int .i64 x287003_3, u287004] 26 (0, 0)) (rrB BK286.out) hb); have n9_ := Aside0.mk (below_step (by repeat (first | (with_reducible first | exact HB.out | apply below_alloc | apply pw_below_drewN | apply below_drew1 | refine below_set ?_ GE273.out | refine below_set ?_ GE286.out) | exact HB.out)) hb); clear HO_274002; clear HO_274004; clear HO_287002; clear HO_287004; clear BK273; clear BK286; clear HB; have HO_274002 := n0_; have HO_274004 := n1_; have HO_287002 := n2_; have HO_287004 := n3_; have HO291 := n4_; have HO295 := n5_; have HO298 := n6_; have BK273 := n7_; have BK286 := n8_; have HB := n9_; clear n0_ n1_ n2_ n3_ n4_ n5_ n6_ n7_ n8_ n9_; (try clear hb); (try clear hb2); (try clear hk); (try clear hi); (try clear ho0); (try clear ho1); (try clear ho2)) | ((with_reducible refine gate_dst (N := 12) rfl ?_); (try (refine gate_guard (by rfl) ?_; dsimp only)); refine box_event ?hg (N := 12) ?hd (cs := #[.int .i64 0, .int .i64 0, .slice none 0 0, .int .i64 0, .slice none 0 0]) (t := 26) ?hr ?_; (case hd => rfl); (case hg => rfl); (case hr => first | (go_simp; done) | (go_simp; rfl)); intro gb299 hg w61 hbox hb; have n0_ := Aside0.mk (Kd.Q_below (by (with_reducible repeat (first | apply Kd.Q_alloc | apply Kd.Q_drewN | apply Kd.Q_drew)); exact HO_274002.out) hb); have n1_ := Aside0.mk (Kd.R_below (rrA HO_274004.out) hb); have n2_ := Aside0.mk (Kd.Q_below (by (with_reducible repeat (first | apply Kd.Q_alloc | apply Kd.Q_drewN | apply Kd.Q_drew)); exact HO_287002.out) hb); have n3_ := Aside0.mk (Kd.R_below (rrA HO_287004.out) hb); have n4_ := Aside0.mk (Kd.R_below (rrA HO291.out) hb); have n5_ := Aside0.mk (Kd.R_below (rrA HO295.out) hb); have n6_ := Aside0.mk (Kd.R_below (rrA HO298.out) hb); have n7_ := Aside0.mk (blk_below (g := gb273) (o := .cells #[.int .i64 x274000_3, .int .i64 x274001_3, .slice Ao58 x274002_3.length co58, .int .i64 x274003_3, .slice Ao59 x274004_3.length co59] 26 (0, 0)) (rrB BK273.out) hb); have n8_ := Aside0.mk (blk_below (g := gb286) (o := .cells #[.int .i64 x287000_3, .int .i64 x287001_3, u287002, .int .i64 x287003_3, u287004] 26 (0, 0)) (rrB BK286.out) hb); have n9_ := Aside0.mk (below_step (by repeat (first | (with_reducible first | exact HB.out | apply below_alloc | apply pw_below_drewN | apply below_drew1 | refine below_set ?_ GE273.out | refine below_set ?_ GE286.out) | exact HB.out)) hb); have n10_ := Aside0.mk (hbox); have n11_ := Aside0.mk ((by rw [hg]; exact (below_size (by repeat (first | (with_reducible first | exact HB.out | apply below_alloc | apply pw_below_drewN | apply below_drew1 | refine below_set ?_ GE273.out | refine below_set ?_ GE286.out) | exact HB.out))) : w.heap.size ≤ gb299)); have n12_ := Aside0.mk ((by rw [hg]; exact (below_size (by repeat (first | (with_reducible first | exact HB.out | apply below_alloc | apply pw_below_drewN | apply below_drew1 | refine below_set ?_ GE273.out | refine below_set ?_ GE286.out) | exact HB.out))) : w.heap.size ≤ gb299)); have n13_ := Aside0.mk ((by rw [hg]; exact Nat.ne_of_lt (blk_lt (g := gb273) (o := .cells #[.int .i64 x274000_3, .int .i64 x274001_3, .slice Ao58 x274002_3.length co58, .int .i64 x274003_3, .slice Ao59 x274004_3.length co59] 26 (0, 0)) (rrB BK273.out)) : gb273 ≠ gb299)); have n14_ := Aside0.mk ((by rw [hg]; exact Nat.ne_of_gt (blk_lt (g := gb273) (o := .cells #[.int .i64 x274000_3, .int .i64 x274001_3, .slice Ao58 x274002_3.length co58, .int .i64 x274003_3, .slice Ao59 x274004_3.length co59] 26 (0, 0)) (rrB BK273.out)) : gb299 ≠ gb273)); have n15_ := Aside0.mk ((by rw [hg]; exact Nat.ne_of_lt (blk_lt (g := gb286) (o := .cells #[.int .i64 x287000_3, .int .i64 x287001_3, u287002, .int .i64 x287003_3, u287004] 26 (0, 0)) (rrB BK286.out)) : gb286 ≠ gb299)); have n16_ := Aside0.mk ((by rw [hg]; exact Nat.ne_of_gt (blk_lt (g := gb286) (o := .cells #[.int .i64 x287000_3, .int .i64 x287001_3, u287002, .int .i64 x287003_3, u287004] 26 (0, 0)) (rrB BK286.out)) : gb299 ≠ gb286)); clear HO_274002; clear HO_274004; clear HO_287002; clear HO_287004; clear HO291; clear HO295; clear HO298; clear BK273; clear BK286; clear HB; have HO_274002 := n0_; have HO_274004 := n1_; have HO_287002 := n2_; have HO_287004 := n3_; have HO291 := n4_; have HO295 := n5_; have HO298 := n6_; have BK273 := n7_; have BK286 := n8_; have HB := n9_; have BK299 := n10_; have GW299 := n11_; have GE299 := n12_; have NB273_299 := n13_; have NB299_273 := n14_; have NB286_299 := n15_; have NB299_286 := n16_; clear n0_ n1_ n2_ n3_ n4_ n5_ n6_ n7_ n8_ n9_ n10_ n11_ n12_ n13_ n14_ n15_ n16_; clear hb hbox hg; have hnb62 := NB299_273.out; have hnc62 := NB273_299.out; have hnb63 := NB299_286.out; have hnc63 := NB286_299.out; have hcz64_0 : w61.cell? ⟨gb299, 0, none⟩ = some (.int .i64 0) := (blk_cell BK299.out 0).trans rfl; have hcz64_1 : w61.cell? ⟨gb299, 1, none⟩ = some (.int .i64 0) := (blk_cell BK299.out 1).trans rfl; have hcz64_2 : w61.cell? ⟨gb299, 2, none⟩ = some (.slice none 0 0) := (blk_cell BK299.out 2).trans rfl; have hcz64_3 : w61.cell? ⟨gb299, 3, none⟩ = some (.int .i64 0) := (blk_cell BK299.out 3).trans rfl; have hcz64_4 : w61.cell? ⟨gb299, 4, none⟩ = some (.slice none 0 0) := (blk_cell BK299.out 4).trans rfl; have hfz64_0 := blk_frozen BK299.out 0; have hfz64_1 := blk_frozen BK299.out 1; have hfz64_2 := blk_frozen BK299.out 2; have hfz64_3 := blk_frozen BK299.out 3; have hfz64_4 := blk_frozen BK299.out 4; obtain ⟨Ao65, co65, eo65⟩ := Kd.R_slice HO291.out; subst eo65; obtain ⟨Ao66, co66, eo66⟩ := Kd.R_slice HO295.out; subst eo66; have hcz67_0 : w61.cell? ⟨gb273, 0, none⟩ = some (.int .i64 x274000_3) := (blk_cell BK273.out 0).trans rfl; have hcz67_1 : w61.cell? ⟨gb273, 1, none⟩ = some (.int .i64 x274001_3) := (blk_cell BK273.out 1).trans rfl; have hcz67_2 : w61.cell? ⟨gb273, 2, none⟩ = some (.slice Ao58 x274002_3.length co58) := (blk_cell BK273.out 2).trans rfl; have hcz67_3 : w61.cell? ⟨gb273, 3, none⟩ = some (.int .i64 x274003_3) := (blk_cell BK273.out 3).trans rfl; have hcz67_4 : w61.cell? ⟨gb273, 4, none⟩ = some (.slice Ao59 x274004_3.length co59) := (blk_cell BK273.out 4).trans rfl; have hfz67_0 := blk_frozen BK273.out 0; have hfz67_1 := blk_frozen BK273.out 1; have hfz67_2 := blk_frozen BK273.out 2; have hfz67_3 := blk_frozen BK273.out 3; have hfz67_4 := blk_frozen BK273.out 4) | ((with_reducible refine gate_callee (f := 27) rfl ?_); refine goesL_ (some 62) rfl rfl Try.func27 (by kernel_rfl) rfl #[.agg #[.int .i64 t287, .int .i64 t288, .slice Ao65 t289.length co65, .int .i64 t292, .slice Ao66 t293.length co66]] rfl (by (try simp only [List.map_toArray, List.map_cons, List.map_nil]); first | done | rfl | (simp only [List.length_drop, List.length_take]; rfl)) ?_; (with_reducible refine (impl_SendAgain.calls k3 t287 t288 _ _ t289 t292 _ _ t293 t300 _ ?side1 ?side2 ?side3 ?side4 A54.out).mono ?_); (case side1 => refine (Kd.R_reads' (e := 9) (base := w.heap.size) (ok := fun k_ => ((((some k_ ≠ (.slice Ao66 t293.length co66 : Value).ownBlock ∧ some k_ ≠ (.slice Ao58 x274002_3.length co58 : Value).ownBlock) ∧ some k_ ≠ (.slice Ao59 x274004_3.length co59 : Value).ownBlock) ∧ some k_ ≠ (u287002 : Value).ownBlock) ∧ some k_ ≠ (u287004 : Value).ownBlock)) (n := t289.length) (c := co65) ?_).2.2; exact (rrA (Kd.R_mono (Kd.R_mono (Kd.R_far (p := ⟨gb273, 4, none⟩) (Kd.R_far (p := ⟨gb273, 3, none⟩) (Kd.R_far (p := ⟨gb273, 2, none⟩) (Kd.R_far (p := ⟨gb273, 1, none⟩) (Kd.R_far (p := ⟨gb273, 0, none⟩) (Kd.R_far (p := ⟨gb299, 4, none⟩) (Kd.R_far (p := ⟨gb299, 3, none⟩) (Kd.R_far (p := ⟨gb299, 2, none⟩) (Kd.R_far (p := ⟨gb299, 1, none⟩) (Kd.R_far (p := ⟨gb299, 0, none⟩) (Kd.R_types (Kd.R_types HO291.out BK299.out (by decide)) BK273.out (by decide)) (fun _ hk => hk.1.2) (.int .i64 t287)) (fun _ hk => hk.1.2) (.int .i64 t288)) (fun _ hk => hk.1.2) (.slice Ao65 t289.length co65)) (fun _ hk => hk.1.2) (.int .i64 t292)) (fun _ hk => hk.1.2) (.slice Ao66 t293.length co66)) (fun _ hk => hk.2) (.int .i64 t287)) (fun _ hk => hk.2) (.int .i64 t288)) (fun _ hk => hk.2) (.slice Ao65 t289.length co65)) (fun _ hk => hk.2) (.int .i64 t292)) (fun _ hk => hk.2) (.slice Ao66 t293.length co66)) (fun _ h_ => h_.1)) (fun _ h_ => h_.1)))); (case side2 => exact (Kd.R_reads' HO291.out).2.1); (case side3 => refine (Kd.R_reads' (e := 9) (base := w.heap.size) (ok := fun k_ => ((((some k_ ≠ (.slice Ao65 t289.length co65 : Value).ownBlock ∧ some k_ ≠ (.slice Ao58 x274002_3.length co58 : Value).ownBlock) ∧ some k_ ≠ (.slice Ao59 x274004_3.length co59 : Value).ownBlock) ∧ some k_ ≠ (u287002 : Value).ownBlock) ∧ some k_ ≠ (u287004 : Value).ownBlock)) (n := t293.length) (c := co66) ?_).2.2; exact (rrA (Kd.R_mono (Kd.R_mono (Kd.R_far (p := ⟨gb273, 4, none⟩) (Kd.R_far (p := ⟨gb273, 3, none⟩) (Kd.R_far (p := ⟨gb273, 2, none⟩) (Kd.R_far (p := ⟨gb273, 1, none⟩) (Kd.R_far (p := ⟨gb273, 0, none⟩) (Kd.R_far (p := ⟨gb299, 4, none⟩) (Kd.R_far (p := ⟨gb299, 3, none⟩) (Kd.R_far (p := ⟨gb299, 2, none⟩) (Kd.R_far (p := ⟨gb299, 1, none⟩) (Kd.R_far (p := ⟨gb299, 0, none⟩) (Kd.R_types (Kd.R_types HO295.out BK299.out (by decide)) BK273.out (by decide)) (fun _ hk => hk.1.2) (.int .i64 t287)) (fun _ hk => hk.1.2) (.int .i64 t288)) (fun _ hk => hk.1.2) (.slice Ao65 t289.length co65)) (fun _ hk => hk.1.2) (.int .i64 t292)) (fun _ hk => hk.1.2) (.slice Ao66 t293.length co66)) (fun _ hk => hk.2) (.int .i64 t287)) (fun _ hk => hk.2) (.int .i64 t288)) (fun _ hk => hk.2) (.slice Ao65 t289.length co65)) (fun _ hk => hk.2) (.int .i64 t292)) (fun _ hk => hk.2) (.slice Ao66 t293.length co66)) (fun _ h_ => h_.1)) (fun _ h_ => h_.1)))); (case side4 => exact (Kd.R_reads' HO295.out).2.1); rintro e w68 ⟨v301, rfl, ho0, hb⟩; refine ⟨_, rfl, ?_⟩; have n0_ := Aside0.mk (Kd.Q_below (by (with_reducible repeat (first | apply Kd.Q_alloc | apply Kd.Q_drewN | apply Kd.Q_drew)); exact (Kd.Q_mono (Kd.Q_mono (Kd.Q_far (p := ⟨gb273, 4, none⟩) (Kd.Q_far (p := ⟨gb273, 3, none⟩) (Kd.Q_far (p := ⟨gb273, 2, none⟩) (Kd.Q_far (p := ⟨gb273, 1, none⟩) (Kd.Q_far (p := ⟨gb273, 0, none⟩) (Kd.Q_far (p := ⟨gb299, 4, none⟩) (Kd.Q_far (p := ⟨gb299, 3, none⟩) (Kd.Q_far (p := ⟨gb299, 2, none⟩) (Kd.Q_far (p := ⟨gb299, 1, none⟩) (Kd.Q_far (p := ⟨gb299, 0, none⟩) (Kd.Q_types (Kd.Q_types HO_274002.out BK299.out (by decide)) BK273.out (by decide)) (fun _ hk => hk.1.2) (.int .i64 t287)) (fun _ hk => hk.1.2) (.int .i64 t288)) (fun _ hk => hk.1.2) (.slice Ao65 t289.length co65)) (fun _ hk => hk.1.2) (.int .i64 t292)) (fun _ hk => hk.1.2) (.slice Ao66 t293.length co66)) (fun _ hk => hk.2) (.int .i64 t287)) (fun _ hk => hk.2) (.int .i64 t288)) (fun _ hk => hk.2) (.slice Ao65 t289.length co65)) (fun _ hk => hk.2) (.int .i64 t292)) (fun _ hk => hk.2) (.slice Ao66 t293.length co66)) (fun _ h_ => h_.1)) (fun _ h_ => h_.1))) hb); have n1_ := Aside0.mk (Kd.R_below (rrA (Kd.R_mono (Kd.R_mono (Kd.R_far (p := ⟨gb273, 4, none⟩) (Kd.R_far (p := ⟨gb273, 3, none⟩) (Kd.R_far (p := ⟨gb273, 2, none⟩) (Kd.R_far (p := ⟨gb273, 1, none⟩) (Kd.R_far (p := ⟨gb273, 0, none⟩) (Kd.R_far (p := ⟨gb299, 4, none⟩) (Kd.R_far (p := ⟨gb299, 3, none⟩) (Kd.R_far (p := ⟨gb299, 2, none⟩) (Kd.R_far (p := ⟨gb299, 1, none⟩) (Kd.R_far (p := ⟨gb299, 0, none⟩) (Kd.R_types (Kd.R_types HO_274004.out BK299.out (by decide)) BK273.out (by decide)) (fun _ hk => hk.1.2) (.int .i64 t287)) (fun _ hk => hk.1.2) (.int .i64 t288)) (fun _ hk => hk.1.2) (.slice Ao65 t289.length co65)) (fun _ hk => hk.1.2) (.int .i64 t292)) (fun _ hk => hk.1.2) (.slice Ao66 t293.length co66)) (fun _ hk => hk.2) (.int .i64 t287)) (fun _ hk => hk.2) (.int .i64 t288)) (fun _ hk => hk.2) (.slice Ao65 t289.length co65)) (fun _ hk => hk.2) (.int .i64 t292)) (fun _ hk => hk.2) (.slice Ao66 t293.length co66)) (fun _ h_ => h_.1)) (fun _ h_ => h_.1))) hb); have n2_ := Aside0.mk (Kd.Q_below (by (with_reducible repeat (first | apply Kd.Q_alloc | apply Kd.Q_drewN | apply Kd.Q_drew)); exact (Kd.Q_mono (Kd.Q_mono (Kd.Q_far (p := ⟨gb273, 4, none⟩) (Kd.Q_far (p := ⟨gb273, 3, none⟩) (Kd.Q_far (p := ⟨gb273, 2, none⟩) (Kd.Q_far (p := ⟨gb273, 1, none⟩) (Kd.Q_far (p := ⟨gb273, 0, none⟩) (Kd.Q_far (p := ⟨gb299, 4, none⟩) (Kd.Q_far (p := ⟨gb299, 3, none⟩) (Kd.Q_far (p := ⟨gb299, 2, none⟩) (Kd.Q_far (p := ⟨gb299, 1, none⟩) (Kd.Q_far (p := ⟨gb299, 0, none⟩) (Kd.Q_types (Kd.Q_types HO_287002.out BK299.out (by decide)) BK273.out (by decide)) (fun _ hk => hk.1.2) (.int .i64 t287)) (fun _ hk => hk.1.2) (.int .i64 t288)) (fun _ hk => hk.1.2) (.slice Ao65 t289.length co65)) (fun _ hk => hk.1.2) (.int .i64 t292)) (fun _ hk => hk.1.2) (.slice Ao66 t293.length co66)) (fun _ hk => hk.2) (.int .i64 t287)) (fun _ hk => hk.2) (.int .i64 t288)) (fun _ hk => hk.2) (.slice Ao65 t289.length co65)) (fun _ hk => hk.2) (.int .i64 t292)) (fun _ hk => hk.2) (.slice Ao66 t293.length co66)) (fun _ h_ => h_.1)) (fun _ h_ => h_.1))) hb); have n3_ := Aside0.mk (Kd.R_below (rrA (Kd.R_mono (Kd.R_mono (Kd.R_far (p := ⟨gb273, 4, none⟩) (Kd.R_far (p := ⟨gb273, 3, none⟩) (Kd.R_far (p := ⟨gb273, 2, none⟩) (Kd.R_far (p := ⟨gb273, 1, none⟩) (Kd.R_far (p := ⟨gb273, 0, none⟩) (Kd.R_far (p := ⟨gb299, 4, none⟩) (Kd.R_far (p := ⟨gb299, 3, none⟩) (Kd.R_far (p := ⟨gb299, 2, none⟩) (Kd.R_far (p := ⟨gb299, 1, none⟩) (Kd.R_far (p := ⟨gb299, 0, none⟩) (Kd.R_types (Kd.R_types HO_287004.out BK299.out (by decide)) BK273.out (by decide)) (fun _ hk => hk.1.2) (.int .i64 t287)) (fun _ hk => hk.1.2) (.int .i64 t288)) (fun _ hk => hk.1.2) (.slice Ao65 t289.length co65)) (fun _ hk => hk.1.2) (.int .i64 t292)) (fun _ hk => hk.1.2) (.slice Ao66 t293.length co66)) (fun _ hk => hk.2) (.int .i64 t287)) (fun _ hk => hk.2) (.int .i64 t288)) (fun _ hk => hk.2) (.slice Ao65 t289.length co65)) (fun _ hk => hk.2) (.int .i64 t292)) (fun _ hk => hk.2) (.slice Ao66 t293.length co66)) (fun _ h_ => h_.1)) (fun _ h_ => h_.1))) hb); have n4_ := Aside0.mk (Kd.R_below (rrA (Kd.R_mono (Kd.R_mono (Kd.R_far (p := ⟨gb273, 4, none⟩) (Kd.R_far (p := ⟨gb273, 3, none⟩) (Kd.R_far (p := ⟨gb273, 2, none⟩) (Kd.R_far (p := ⟨gb273, 1, none⟩) (Kd.R_far (p := ⟨gb273, 0, none⟩) (Kd.R_far (p := ⟨gb299, 4, none⟩) (Kd.R_far (p := ⟨gb299, 3, none⟩) (Kd.R_far (p := ⟨gb299, 2, none⟩) (Kd.R_far (p := ⟨gb299, 1, none⟩) (Kd.R_far (p := ⟨gb299, 0, none⟩) (Kd.R_types (Kd.R_types HO291.out BK299.out (by decide)) BK273.out (by decide)) (fun _ hk => hk.1.2) (.int .i64 t287)) (fun _ hk => hk.1.2) (.int .i64 t288)) (fun _ hk => hk.1.2) (.slice Ao65 t289.length co65)) (fun _ hk => hk.1.2) (.int .i64 t292)) (fun _ hk => hk.1.2) (.slice Ao66 t293.length co66)) (fun _ hk => hk.2) (.int .i64 t287)) (fun _ hk => hk.2) (.int .i64 t288)) (fun _ hk => hk.2) (.slice Ao65 t289.length co65)) (fun _ hk => hk.2) (.int .i64 t292)) (fun _ hk => hk.2) (.slice Ao66 t293.length co66)) (fun _ h_ => h_.1)) (fun _ h_ => h_.1))) hb); have n5_ := Aside0.mk (Kd.R_below (rrA (Kd.R_mono (Kd.R_mono (Kd.R_far (p := ⟨gb273, 4, none⟩) (Kd.R_far (p := ⟨gb273, 3, none⟩) (Kd.R_far (p := ⟨gb273, 2, none⟩) (Kd.R_far (p := ⟨gb273, 1, none⟩) (Kd.R_far (p := ⟨gb273, 0, none⟩) (Kd.R_far (p := ⟨gb299, 4, none⟩) (Kd.R_far (p := ⟨gb299, 3, none⟩) (Kd.R_far (p := ⟨gb299, 2, none⟩) (Kd.R_far (p := ⟨gb299, 1, none⟩) (Kd.R_far (p := ⟨gb299, 0, none⟩) (Kd.R_types (Kd.R_types HO295.out BK299.out (by decide)) BK273.out (by decide)) (fun _ hk => hk.1.2) (.int .i64 t287)) (fun _ hk => hk.1.2) (.int .i64 t288)) (fun _ hk => hk.1.2) (.slice Ao65 t289.length co65)) (fun _ hk => hk.1.2) (.int .i64 t292)) (fun _ hk => hk.1.2) (.slice Ao66 t293.length co66)) (fun _ hk => hk.2) (.int .i64 t287)) (fun _ hk => hk.2) (.int .i64 t288)) (fun _ hk => hk.2) (.slice Ao65 t289.length co65)) (fun _ hk => hk.2) (.int .i64 t292)) (fun _ hk => hk.2) (.slice Ao66 t293.length co66)) (fun _ h_ => h_.1)) (fun _ h_ => h_.1))) hb); have n6_ := Aside0.mk (Kd.R_elder' (rrA (Kd.R_mono (Kd.R_mono (Kd.R_far (p := ⟨gb273, 4, none⟩) (Kd.R_far (p := ⟨gb273, 3, none⟩) (Kd.R_far (p := ⟨gb273, 2, none⟩) (Kd.R_far (p := ⟨gb273, 1, none⟩) (Kd.R_far (p := ⟨gb273, 0, none⟩) (Kd.R_far (p := ⟨gb299, 4, none⟩) (Kd.R_far (p := ⟨gb299, 3, none⟩) (Kd.R_far (p := ⟨gb299, 2, none⟩) (Kd.R_far (p := ⟨gb299, 1, none⟩) (Kd.R_far (p := ⟨gb299, 0, none⟩) (Kd.R_types (Kd.R_types HO298.out BK299.out (by decide)) BK273.out (by decide)) (fun _ hk => hk.1.2) (.int .i64 t287)) (fun _ hk => hk.1.2) (.int .i64 t288)) (fun _ hk => hk.1.2) (.slice Ao65 t289.length co65)) (fun _ hk => hk.1.2) (.int .i64 t292)) (fun _ hk => hk.1.2) (.slice Ao66 t293.length co66)) (fun _ hk => hk.2) (.int .i64 t287)) (fun _ hk => hk.2) (.int .i64 t288)) (fun _ hk => hk.2) (.slice Ao65 t289.length co65)) (fun _ hk => hk.2) (.int .i64 t292)) (fun _ hk => hk.2) (.slice Ao66 t293.length co66)) (fun _ h_ => h_.1)) (fun _ h_ => h_.1))) (Kd.R_base ho0) hb); have n7_ := Aside0.mk (Kd.R_lower (Kd.R_new' ho0 (Kd.R_lt (rrA (Kd.R_mono (Kd.R_mono (Kd.R_far (p := ⟨gb273, 4, none⟩) (Kd.R_far (p := ⟨gb273, 3, none⟩) (Kd.R_far (p := ⟨gb273, 2, none⟩) (Kd.R_far (p := ⟨gb273, 1, none⟩) (Kd.R_far (p := ⟨gb273, 0, none⟩) (Kd.R_far (p := ⟨gb299, 4, none⟩) (Kd.R_far (p := ⟨gb299, 3, none⟩) (Kd.R_far (p := ⟨gb299, 2, none⟩) (Kd.R_far (p := ⟨gb299, 1, none⟩) (Kd.R_far (p := ⟨gb299, 0, none⟩) (Kd.R_types (Kd.R_types HO298.out BK299.out (by decide)) BK273.out (by decide)) (fun _ hk => hk.1.2) (.int .i64 t287)) (fun _ hk => hk.1.2) (.int .i64 t288)) (fun _ hk => hk.1.2) (.slice Ao65 t289.length co65)) (fun _ hk => hk.1.2) (.int .i64 t292)) (fun _ hk => hk.1.2) (.slice Ao66 t293.length co66)) (fun _ hk => hk.2) (.int .i64 t287)) (fun _ hk => hk.2) (.int .i64 t288)) (fun _ hk => hk.2) (.slice Ao65 t289.length co65)) (fun _ hk => hk.2) (.int .i64 t292)) (fun _ hk => hk.2) (.slice Ao66 t293.length co66)) (fun _ h_ => h_.1)) (fun _ h_ => h_.1))))) (below_size (by repeat (first | (with_reducible first | exact HB.out | apply below_alloc | apply pw_below_drewN | apply below_drew1 | refine below_set ?_ GE273.out | refine below_set ?_ GE286.out | refine below_set ?_ GE299.out) | exact HB.out)))); have n8_ := Aside0.mk (blk_below (g := gb273) (o := .cells #[.int .i64 t287, .int .i64 t288, .slice Ao65 t289.length co65, .int .i64 t292, .slice Ao66 t293.length co66] 26 (0, 0)) (by (with_reducible repeat (first | refine blk_drewN ?_ _ | refine blk_drew ?_ | refine blk_alloc ?_ _)); refine blk_put (cs := #[.int .i64 t287, .int .i64 t288, .slice Ao65 t289.length co65, .int .i64 t292, .slice Ao59 x274004_3.length co59]) ?_ 4 _ rfl; (with_reducible repeat (first | refine blk_drewN ?_ _ | refine blk_drew ?_ | refine blk_alloc ?_ _)); refine blk_put (cs := #[.int .i64 t287, .int .i64 t288, .slice Ao65 t289.length co65, .int .i64 x274003_3, .slice Ao59 x274004_3.length co59]) ?_ 3 _ rfl; (with_reducible repeat (first | refine blk_drewN ?_ _ | refine blk_drew ?_ | refine blk_alloc ?_ _)); refine blk_put (cs := #[.int .i64 t287, .int .i64 t288, .slice Ao58 x274002_3.length co58, .int .i64 x274003_3, .slice Ao59 x274004_3.length co59]) ?_ 2 _ rfl; (with_reducible repeat (first | refine blk_drewN ?_ _ | refine blk_drew ?_ | refine blk_alloc ?_ _)); refine blk_put (cs := #[.int .i64 t287, .int .i64 x274001_3, .slice Ao58 x274002_3.length co58, .int .i64 x274003_3, .slice Ao59 x274004_3.length co59]) ?_ 1 _ rfl; (with_reducible repeat (first | refine blk_drewN ?_ _ | refine blk_drew ?_ | refine blk_alloc ?_ _)); refine blk_put (cs := #[.int .i64 x274000_3, .int .i64 x274001_3, .slice Ao58 x274002_3.length co58, .int .i64 x274003_3, .slice Ao59 x274004_3.length co59]) ?_ 0 _ rfl; (with_reducible repeat (first | refine blk_drewN ?_ _ | refine blk_drew ?_ | refine blk_alloc ?_ _)); refine blk_far ?_ NB273_299.out _; (with_reducible repeat (first | refine blk_drewN ?_ _ | refine blk_drew ?_ | refine blk_alloc ?_ _)); refine blk_far ?_ NB273_299.out _; (with_reducible repeat (first | refine blk_drewN ?_ _ | refine blk_drew ?_ | refine blk_alloc ?_ _)); refine blk_far ?_ NB273_299.out _; (with_reducible repeat (first | refine blk_drewN ?_ _ | refine blk_drew ?_ | refine blk_alloc ?_ _)); refine blk_far ?_ NB273_299.out _; (with_reducible repeat (first | refine blk_drewN ?_ _ | refine blk_drew ?_ | refine blk_alloc ?_ _)); refine blk_far ?_ NB273_299.out _; (with_reducible repeat (first | refine blk_drewN ?_ _ | refine blk_drew ?_ | refine blk_alloc ?_ _)); exact BK273.out) hb); have n9_ := Aside0.mk (blk_below (g := gb286) (o := .cells #[.int .i64 x287000_3, .int .i64 x287001_3, u287002, .int .i64 x287003_3, u287004] 26 (0, 0)) (by (with_reducible repeat (first | refine blk_drewN ?_ _ | refine blk_drew ?_ | refine blk_alloc ?_ _)); refine blk_far ?_ NB286_273.out _; (with_reducible repeat (first | refine blk_drewN ?_ _ | refine blk_drew ?_ | refine blk_alloc ?_ _)); refine blk_far ?_ NB286_273.out _; (with_reducible repeat (first | refine blk_drewN ?_ _ | refine blk_drew ?_ | refine blk_alloc ?_ _)); refine blk_far ?_ NB286_273.out _; (with_reducible repeat (first | refine blk_drewN ?_ _ | refine blk_drew ?_ | refine blk_alloc ?_ _)); refine blk_far ?_ NB286_273.out _; (with_reducible repeat (first | refine blk_drewN ?_ _ | refine blk_drew ?_ | refine blk_alloc ?_ _)); refine blk_far ?_ NB286_273.out _; (with_reducible repeat (first | refine blk_drewN ?_ _ | refine blk_drew ?_ | refine blk_alloc ?_ _)); refine blk_far ?_ NB286_299.out _; (with_reducible repeat (first | refine blk_drewN ?_ _ | refine blk_drew ?_ | refine blk_alloc ?_ _)); refine blk_far ?_ NB286_299.out _; (with_reducible repeat (first | refine blk_drewN ?_ _ | refine blk_drew ?_ | refine blk_alloc ?_ _)); refine blk_far ?_ NB286_299.out _; (with_reducible repeat (first | refine blk_drewN ?_ _ | refine blk_drew ?_ | refine blk_alloc ?_ _)); refine blk_far ?_ NB286_299.out _; (with_reducible repeat (first | refine blk_drewN ?_ _ | refine blk_drew ?_ | refine blk_alloc ?_ _)); refine blk_far ?_ NB286_299.out _; (with_reducible repeat (first | refine blk_drewN ?_ _ | refine blk_drew ?_ | refine blk_alloc ?_ _)); exact BK286.out) hb); have n10_ := Aside0.mk (blk_below (g := gb299) (o := .cells #[.int .i64 t287, .int .i64 t288, .slice Ao65 t289.length co65, .int .i64 t292, .slice Ao66 t293.length co66] 26 (0, 0)) (by (with_reducible repeat (first | refine blk_drewN ?_ _ | refine blk_drew ?_ | refine blk_alloc ?_ _)); refine blk_far ?_ NB299_273.out _; (with_reducible repeat (first | refine blk_drewN ?_ _ | refine blk_drew ?_ | refine blk_alloc ?_ _)); refine blk_far ?_ NB299_273.out _; (with_reducible repeat (first | refine blk_drewN ?_ _ | refine blk_drew ?_ | refine blk_alloc ?_ _)); refine blk_far ?_ NB299_273.out _; (with_reducible repeat (first | refine blk_drewN ?_ _ | refine blk_drew ?_ | refine blk_alloc ?_ _)); refine blk_far ?_ NB299_273.out _; (with_reducible repeat (first | refine blk_drewN ?_ _ | refine blk_drew ?_ | refine blk_alloc ?_ _)); refine blk_far ?_ NB299_273.out _; (with_reducible repeat (first | refine blk_drewN ?_ _ | refine blk_drew ?_ | refine blk_alloc ?_ _)); refine blk_put (cs := #[.int .i64 t287, .int .i64 t288, .slice Ao65 t289.length co65, .int .i64 t292, .slice none 0 0]) ?_ 4 _ rfl; (with_reducible repeat (first | refine blk_drewN ?_ _ | refine blk_drew ?_ | refine blk_alloc ?_ _)); refine blk_put (cs := #[.int .i64 t287, .int .i64 t288, .slice Ao65 t289.length co65, .int .i64 0, .slice none 0 0]) ?_ 3 _ rfl; (with_reducible repeat (first | refine blk_drewN ?_ _ | refine blk_drew ?_ | refine blk_alloc ?_ _)); refine blk_put (cs := #[.int .i64 t287, .int .i64 t288, .slice none 0 0, .int .i64 0, .slice none 0 0]) ?_ 2 _ rfl; (with_reducible repeat (first | refine blk_drewN ?_ _ | refine blk_drew ?_ | refine blk_alloc ?_ _)); refine blk_put (cs := #[.int .i64 t287, .int .i64 0, .slice none 0 0, .int .i64 0, .slice none 0 0]) ?_ 1 _ rfl; (with_reducible repeat (first | refine blk_drewN ?_ _ | refine blk_drew ?_ | refine blk_alloc ?_ _)); refine blk_put (cs := #[.int .i64 0, .int .i64 0, .slice none 0 0, .int .i64 0, .slice none 0 0]) ?_ 0 _ rfl; (with_reducible repeat (first | refine blk_drewN ?_ _ | refine blk_drew ?_ | refine blk_alloc ?_ _)); exact BK299.out) hb); have n11_ := Aside0.mk (below_step (by repeat (first | (with_reducible first | exact HB.out | apply below_alloc | apply pw_below_drewN | apply below_drew1 | refine below_set ?_ GE273.out | refine below_set ?_ GE286.out | refine below_set ?_ GE299.out) | exact HB.out)) hb); clear HO_274002; clear HO_274004; clear HO_287002; clear HO_287004; clear HO291; clear HO295; clear HO298; clear BK273; clear BK286; clear BK299; clear HB; have HO_274002 := n0_; have HO_274004 := n1_; have HO_287002 := n2_; have HO_287004 := n3_; have HO291 := n4_; have HO295 := n5_; have HO298 := n6_; have HO302 := n7_; have BK273 := n8_; have BK286 := n9_; have BK299 := n10_; have HB := n11_; clear n0_ n1_ n2_ n3_ n4_ n5_ n6_ n7_ n8_ n9_ n10_ n11_; (try clear hb); (try clear hb2); (try clear hk); (try clear hi); (try clear ho0); obtain ⟨Ao70, co70, eo70⟩ := Kd.R_slice HO302.out; subst eo70) | ((with_reducible refine gate_builtin (b := .append) (xs := #[.tmp 60, .tmp 62]) rfl ?_); (try (refine gate_guard (by rfl) ?_; dsimp only)); at_builtin; refine Kd.R_append_rows k36 (w0 := w) w.heap.size rfl (.tmp 60) (.tmp 62) 45 36 (.agg #[(.int .i64 0), (.int .i64 0), (.string ⟨#[]⟩)]) 32 rfl Try.underlying45 info36 rfl (by decide) (by omega) v297 t296 t300 _ _ _ (fun k_ => some k_ ≠ (.slice Ao70 t300.length co70 : Value).ownBlock) (fun _ => False) rfl rfl ?aO ?aR (fun _ _ h => h) (fun _ h => h.elim) ?aF ?aB ?aS ?aL ?_; (case aR => repeat (first | exact (Kd.R_reads' HO302.out).2.2 | (with_reducible refine Kd.C_alloc ?_ _) | (with_reducible refine Kd.C_drewN ?_ _) | (with_reducible refine Kd.C_drew ?_))); (case aB => exact (by repeat (first | (with_reducible first | exact HB.out | apply below_alloc | apply pw_below_drewN | apply below_drew1 | refine below_set ?_ GE273.out | refine below_set ?_ GE286.out | refine below_set ?_ GE299.out) | exact HB.out))); (case aF => exact (fun k_ hk => Kd.fresh' (Kd.R_lt (rrA HO302.out)) k_ hk)); (case aO => exact (by (with_reducible repeat (first | apply Kd.R_alloc | apply Kd.R_drewN | apply Kd.R_drew)); exact Kd.R_mono HO298.out (fun _ hk => hk.2))); (case aS => exact (below_size (by repeat (first | (with_reducible first | exact HB.out | apply below_alloc | apply pw_below_drewN | apply below_drew1 | refine below_set ?_ GE273.out | refine below_set ?_ GE286.out | refine below_set ?_ GE299.out) | exact HB.out)))); (case aL => have := LMc55.out; omega); intro v304 w69 ho hb hg hat; rw [← Ny303.out] at ho; have n0_ := Aside0.mk (Kd.Q_over' (by (with_reducible repeat (first | apply Kd.Q_alloc | apply Kd.Q_drewN | apply Kd.Q_drew)); exact HO_274002.out) (Kd.R_typed (rrA HO298.out)) (by decide) hg); have n1_ := Aside0.mk (Kd.R_over' (rrA HO_274004.out) (Kd.R_typed (rrA HO298.out)) (by decide) hg); have n2_ := Aside0.mk (Kd.Q_over' (by (with_reducible repeat (first | apply Kd.Q_alloc | apply Kd.Q_drewN | apply Kd.Q_drew)); exact HO_287002.out) (Kd.R_typed (rrA HO298.out)) (by decide) hg); have n3_ := Aside0.mk (Kd.R_over' (rrA HO_287004.out) (Kd.R_typed (rrA HO298.out)) (by decide) hg); have n4_ := Aside0.mk (blk_grown (g := gb273) (o := .cells #[.int .i64 t287, .int .i64 t288, .slice Ao65 t289.length co65, .int .i64 t292, .slice Ao66 t293.length co66] 26 (0, 0)) (rrB BK273.out) hg (Kd.R_ne HO298.out BK273.out (by decide))); have n5_ := Aside0.mk (blk_grown (g := gb286) (o := .cells #[.int .i64 x287000_3, .int .i64 x287001_3, u287002, .int .i64 x287003_3, u287004] 26 (0, 0)) (rrB BK286.out) hg (Kd.R_ne HO298.out BK286.out (by decide))); have n6_ := Aside0.mk (Kd.R_over' (rrA HO291.out) (Kd.R_typed (rrA HO298.out)) (by decide) hg); have n7_ := Aside0.mk (Kd.R_over' (rrA HO295.out) (Kd.R_typed (rrA HO298.out)) (by decide) hg); have n8_ := Aside0.mk (blk_grown (g := gb299) (o := .cells #[.int .i64 t287, .int .i64 t288, .slice Ao65 t289.length co65, .int .i64 t292, .slice Ao66 t293.length co66] 26 (0, 0)) (rrB BK299.out) hg (Kd.R_ne HO298.out BK299.out (by decide))); have n9_ := Aside0.mk (Kd.R_after (ok := (fun _ => True)) (rrA HO302.out) hg hat); have n10_ := Aside0.mk (hb); have n11_ := Aside0.mk (ho); clear HO_274002; clear HO_274004; clear HO_287002; clear HO_287004; clear BK273; clear BK286; clear HO291; clear HO295; clear BK299; clear HO302; clear HB; clear HO298; have HO_274002 := n0_; have HO_274004 := n1_; have HO_287002 := n2_; have HO_287004 := n3_; have BK273 := n4_; have BK286 := n5_; have HO291 := n6_; have HO295 := n7_; have BK299 := n8_; have HO302 := n9_; have HB := n10_; have HO305 := n11_; clear n0_ n1_ n2_ n3_ n4_ n5_ n6_ n7_ n8_ n9_ n10_ n11_; clear ho hb hg hat))
            go_loopg [14] k3 (fun kq v14 w' => ∃ (x14_4 : Int) (x287000_4 : Int) (x287001_4 : Int) (x287002_4 : List ByteArray) (x287003_4 : Int) (x287004_4 : List ByteArray) (u287002 : Value) (u287004 : Value), v14 = .int .i64 x14_4 ∧ Aside0 (laws_FnEnds.l2 kq x6_2 x11_3 y303 x14_4 t287 t288 t289 t292 t293 x287000_4 x287001_4 x287002_4 x287003_4 x287004_4 = some r) ∧ Aside0 (kq ≤ k3) ∧ Aside0 (Kd.R k36 36 w' w.heap.size (fun _ => True) v304 y303) ∧ Aside0 (Kd.Q Kd.string 9 w' w.heap.size (fun k_ => some k_ ≠ ((.slice Ao66 t293.length co66) : Value).ownBlock ∧ some k_ ≠ (u287002 : Value).ownBlock ∧ some k_ ≠ (u287004 : Value).ownBlock) (.slice Ao65 t289.length co65) t289) ∧ Aside0 (Kd.R Kd.string 9 w' w.heap.size (fun k_ => some k_ ≠ ((.slice Ao65 t289.length co65) : Value).ownBlock ∧ some k_ ≠ (u287002 : Value).ownBlock ∧ some k_ ≠ (u287004 : Value).ownBlock) (.slice Ao66 t293.length co66) t293) ∧ Aside0 (Kd.Q Kd.string 9 w' w.heap.size (fun k_ => some k_ ≠ ((.slice Ao65 t289.length co65) : Value).ownBlock ∧ some k_ ≠ ((.slice Ao66 t293.length co66) : Value).ownBlock ∧ some k_ ≠ (u287004 : Value).ownBlock) u287002 x287002_4) ∧ Aside0 (Kd.R Kd.string 9 w' w.heap.size (fun k_ => some k_ ≠ ((.slice Ao65 t289.length co65) : Value).ownBlock ∧ some k_ ≠ ((.slice Ao66 t293.length co66) : Value).ownBlock ∧ some k_ ≠ (u287002 : Value).ownBlock) u287004 x287004_4) ∧ Aside0 (w'.heap[gb273]? = some (.cells #[.int .i64 t287, .int .i64 t288, (.slice Ao65 t289.length co65), .int .i64 t292, (.slice Ao66 t293.length co66)] 26 (0, 0))) ∧ Aside0 (w'.heap[gb286]? = some (.cells #[.int .i64 x287000_4, .int .i64 x287001_4, u287002, .int .i64 x287003_4, u287004] 26 (0, 0))) ∧ Aside0 (Below w.heap.size w w'))
            case atStart => exact ⟨(0), (x287000_3), (x287001_3), (x287002_3), (x287003_3), (x287004_3), (u287002), (u287004), (by first | rfl | (simp; done) | (simp [*]; done)), H', ⟨Nat.le_refl _⟩, ⟨by (with_reducible repeat (first | apply Kd.R_alloc | apply Kd.R_drewN | apply Kd.R_drew)); exact Kd.R_mono HO305.out (fun _ hk => trivial)⟩, ⟨Kd.Q_of_R (by (with_reducible repeat (first | apply Kd.R_alloc | apply Kd.R_drewN | apply Kd.R_drew)); exact Kd.R_mono HO291.out (fun _ hk => ⟨hk.1.1.1.1, ⟨hk.1.2, hk.2⟩⟩))⟩, ⟨by (with_reducible repeat (first | apply Kd.R_alloc | apply Kd.R_drewN | apply Kd.R_drew)); exact Kd.R_mono HO295.out (fun _ hk => ⟨hk.1.1.1.1, ⟨hk.1.2, hk.2⟩⟩)⟩, ⟨by (with_reducible repeat (first | apply Kd.Q_alloc | apply Kd.Q_drewN | apply Kd.Q_drew)); exact Kd.Q_mono HO_287002.out (fun _ hk => ⟨hk.1.2, ⟨hk.2, hk.1.1.2.2⟩⟩)⟩, ⟨by (with_reducible repeat (first | apply Kd.R_alloc | apply Kd.R_drewN | apply Kd.R_drew)); exact Kd.R_mono HO_287004.out (fun _ hk => ⟨hk.1.2, ⟨hk.2, hk.1.1.2.2⟩⟩)⟩, ⟨(rrB BK273.out)⟩, ⟨(rrB BK286.out)⟩, ⟨by repeat (first | (with_reducible first | exact HB.out | apply below_alloc | apply pw_below_drewN | apply below_drew1 | refine below_set ?_ GE273.out | refine below_set ?_ GE286.out | refine below_set ?_ GE299.out) | exact HB.out)⟩⟩
            case round =>
             clear H'
             try clear c1
             try clear c2
             try clear p2
             try clear q2
             try clear hx2
             try clear c3
             try clear c5
             try clear c6
             try clear p6
             try clear c13
             try clear c13b0
             try clear c14
             try clear c16
             try clear c27
             try clear p27
             try clear q27
             try clear hx27
             try clear c31
             try clear c32
             try clear c50
             try clear c52
             try clear c52b0
             try clear c55
             try clear c56
             try clear c62
             try clear c63
             try clear p64
             try clear hcz32_0
             try clear hcz32_1
             try clear hcz32_2
             try clear hcz32_3
             try clear hcz32_4
             try clear hcz33_0
             try clear hcz33_1
             try clear hcz33_2
             try clear hcz33_3
             try clear hcz33_4
             try clear hcz51_0
             try clear hcz51_1
             try clear hcz51_2
             try clear hcz51_3
             try clear hcz51_4
             try clear hcz57_0
             try clear hcz57_1
             try clear hcz57_2
             try clear hcz57_3
             try clear hcz57_4
             try clear hcz64_0
             try clear hcz64_1
             try clear hcz64_2
             try clear hcz64_3
             try clear hcz64_4
             try clear hcz67_0
             try clear hcz67_1
             try clear hcz67_2
             try clear hcz67_3
             try clear hcz67_4
             try clear hfz32_0
             try clear hfz32_1
             try clear hfz32_2
             try clear hfz32_3
             try clear hfz32_4
             try clear hfz33_0
             try clear hfz33_1
             try clear hfz33_2
             try clear hfz33_3
             try clear hfz33_4
             try clear hfz51_0
             try clear hfz51_1
             try clear hfz51_2
             try clear hfz51_3
             try clear hfz51_4
             try clear hfz57_0
             try clear hfz57_1
             try clear hfz57_2
             try clear hfz57_3
             try clear hfz57_4
             try clear hfz64_0
             try clear hfz64_1
             try clear hfz64_2
             try clear hfz64_3
             try clear hfz64_4
             try clear hfz67_0
             try clear hfz67_1
             try clear hfz67_2
             try clear hfz67_3
             try clear hfz67_4
             try clear hx274_0
             try clear p2
             try clear p27
             try clear p274
             try clear p6
             try clear q2
             try clear q27
             try clear q274
             obtain ⟨x14_4, x287000_4, x287001_4, x287002_4, x287003_4, x287004_4, u287002, u287004, rfl, HA, HK4, HO_13, HO_274002, HO_274004, HO_287002, HO_287004, BK273, BK286, HB⟩ := hrel
             cases gk with
             | zero => exact absurd HA.out (by simp [laws_FnEnds.l2])
             | succ k4 =>
              have H := HA.out
              clear HA
              simp only [laws_FnEnds.l2] at H
              by_cases c71 : x14_4 < (y303.length : Int)
              ·
               rw [if_pos c71] at H
               have c71b0 : decide (x14_4 < (y303.length : Int)) = true := decide_eq_true c71
               clear c71
               by_cases c72 : 0 ≤ x14_4
               ·
                rw [if_pos c72] at H
                have c72b0 : decide (0 ≤ x14_4) = true := decide_eq_true c72
                clear c72
                replace H := Option.bind_eq_some_iff.mp H
                obtain ⟨⟨t307, t308, t309, t312, t313, t316⟩, A730, H⟩ := H
                replace H : (laws_FnEnds.l2 k4 x6_2 x11_3 y303 (wrap64 (x14_4 + 1)) t287 t288 t289 t292 t293 t307 t308 t309 t312 t313) = some r := H
                have A73 := Aside0.mk A730
                clear A730
                have H' := Aside0.mk H
                clear H
                obtain ⟨Ao74, co74, eo74⟩ := Kd.R_slice HO_13.out
                subst eo74
                try go_wp2
                have n0_ := Aside0.mk (Kd.R_drew HO_13.out)
                have n1_ := Aside0.mk (Kd.Q_drew HO_274002.out)
                have n2_ := Aside0.mk (Kd.R_drew HO_274004.out)
                have n3_ := Aside0.mk (Kd.Q_drew HO_287002.out)
                have n4_ := Aside0.mk (Kd.R_drew HO_287004.out)
                have n5_ := Aside0.mk (blk_drew BK273.out)
                have n6_ := Aside0.mk (blk_drew BK286.out)
                have n7_ := Aside0.mk (below_drew1 HB.out)
                clear HO_13; clear HO_274002; clear HO_274004; clear HO_287002; clear HO_287004; clear BK273; clear BK286; clear HB
                have HO_13 := n0_
                have HO_274002 := n1_
                have HO_274004 := n2_
                have HO_287002 := n3_
                have HO_287004 := n4_
                have BK273 := n5_
                have BK286 := n6_
                have HB := n7_
                clear n0_ n1_ n2_ n3_ n4_ n5_ n6_ n7_
                have p306 : 0 ≤ (x14_4 : Int) := of_decide_eq_true (by first | (with_reducible assumption) | assumption)
                have q306 : x14_4 < (y303.length : Int) := of_decide_eq_true (by first | (with_reducible assumption) | assumption)
                obtain ⟨ad306, e306, hx306_0, hx306_1, hx306_2⟩ := at_T36 (Kd.R_reads' HO_13.out).2.2 x14_4 p306 q306
                cases e306
                replace p306 := eq_true p306
                replace q306 := eq_true q306
                obtain ⟨Ao76, co76, eo76, _⟩ := Kd.Q_slice HO_287002.out
                (first | subst eo76 | (injection eo76 with f1_ f2_ f3_; have f4_ := f1_.symm; have f5_ := f3_.symm; clear f1_ f2_ f3_; subst f4_; subst f5_))
                obtain ⟨Ao77, co77, eo77⟩ := Kd.R_slice HO_287004.out
                (first | subst eo77 | (injection eo77 with f1_ f2_ f3_; have f4_ := f1_.symm; have f5_ := f3_.symm; clear f1_ f2_ f3_; subst f4_; subst f5_))
                refine start_ (n := 10) (S := fun w' => w'.cell? ⟨gb286, 0, none⟩ = some (.int .i64 x287000_4) ∧ w'.cell? ⟨gb286, 1, none⟩ = some (.int .i64 x287001_4) ∧ w'.cell? ⟨gb286, 2, none⟩ = some (.slice Ao76 x287002_4.length co76) ∧ w'.cell? ⟨gb286, 3, none⟩ = some (.int .i64 x287003_4) ∧ w'.cell? ⟨gb286, 4, none⟩ = some (.slice Ao77 x287004_4.length co77) ∧ w'.cell? (ad306.add ((x14_4).toNat * 3)) = some (.int .i64 ((rd_T36 y303 x14_4).f0)) ∧ w'.cell? ⟨(ad306.add ((x14_4).toNat * 3)).block, (ad306.add ((x14_4).toNat * 3)).off + 1, none⟩ = some (.int .i64 ((rd_T36 y303 x14_4).f1)) ∧ w'.cell? ⟨(ad306.add ((x14_4).toNat * 3)).block, (ad306.add ((x14_4).toNat * 3)).off + 2, none⟩ = some (.string ((rd_T36 y303 x14_4).f2))) (ds := [9]) #[false, false, false, false, false, false, false, false, false, false] (by kernel_rfl) rfl rfl ⟨(blk_cell BK286.out 0).trans rfl, (blk_cell BK286.out 1).trans rfl, (blk_cell BK286.out 2).trans rfl, (blk_cell BK286.out 3).trans rfl, (blk_cell BK286.out 4).trans rfl, hx306_0, hx306_1, hx306_2⟩ (fun hHeld => ?_); refine with_tabW laws_FnEnds.tab25 laws_FnEnds.bits25 (fun HT_ HW_ => ?_)
                generalize wr.drew = w75 at HO_13 HO_274002 HO_274004 HO_287002 HO_287004 BK273 BK286 HB hx306_0 hx306_1 hx306_2 hHeld ⊢
                refine pure_ (i := 1) (N := some 72) (v := ?_) (a' := ?_) #[false, true, false, false, false, false, false, false, false, false] rfl rfl (any_of HT_.out (by kernel_rfl)) (fun _ _ _ h => h) (Or.inl ⟨by rfl, ?_⟩) ?_ ?_; rotate_left
                · intro w'; go_simp; with_reducible rfl
                rotate_left
                · simp only [Act.put, List.setIfInBounds_toArray, List.set_cons_zero, List.set_cons_succ, i64_w, i32_w]; rfl
                refine pure_ (i := 2) (N := some 73) (v := ?_) (a' := ?_) #[false, true, true, false, false, false, false, false, false, false] rfl rfl (any_of HT_.out (by kernel_rfl)) (fun _ _ _ h => h) (Or.inl ⟨by rfl, ?_⟩) ?_ ?_; rotate_left
                · intro w'; go_simp; with_reducible rfl
                rotate_left
                · simp only [Act.put, List.setIfInBounds_toArray, List.set_cons_zero, List.set_cons_succ, i64_w, i32_w]; rfl
                refine pure_ (i := 3) (N := some 74) (v := ?_) (a' := ?_) #[false, true, true, true, false, false, false, false, false, false] rfl rfl (any_of HT_.out (by kernel_rfl)) (fun _ _ _ h => h) (Or.inl ⟨by rfl, ?_⟩) ?_ ?_; rotate_left
                · intro w'; go_simp; with_reducible rfl
                rotate_left
                · simp only [Act.put, List.setIfInBounds_toArray, List.set_cons_zero, List.set_cons_succ, i64_w, i32_w]; rfl
                refine take_ (i := 0) (N := some 71) (v := ?_) (a' := ?_) #[true, true, true, true, false, false, false, false, false, false] rfl rfl (take_ofW HT_.out HW_.out (by kernel_rfl)) (fun _ _ _ h => h) (Or.inl ⟨by rfl, ?_⟩) hHeld ?_ ?_; rotate_left
                ·
                 rintro w' ⟨s0, s1, s2, s3, s4, s5, s6, s7⟩
                 go_simp; with_reducible rfl
                rotate_left
                · simp only [Act.put, List.setIfInBounds_toArray, List.set_cons_zero, List.set_cons_succ, i64_w, i32_w]; rfl
                refine take_ (i := 4) (N := some 75) (v := ?_) (a' := ?_) #[true, true, true, true, true, false, false, false, false, false] rfl rfl (take_ofW HT_.out HW_.out (by kernel_rfl)) (fun _ _ _ h => h) (Or.inl ⟨by rfl, ?_⟩) hHeld ?_ ?_; rotate_left
                ·
                 rintro w' ⟨s0, s1, s2, s3, s4, s5, s6, s7⟩
                 go_simp; with_reducible rfl
                rotate_left
                · simp only [Act.put, List.setIfInBounds_toArray, List.set_cons_zero, List.set_cons_succ, i64_w, i32_w]; rfl
                refine one_ (i := 5) (N := some 76) #[true, true, true, true, true, true, false, false, false, false] rfl rfl (one_of HT_.out (by kernel_rfl)) (by decide) (fun K hK => ?_)
                refine goes_ Try.func20 (by kernel_rfl) rfl #[.agg #[.int .i64 x287000_4, .int .i64 x287001_4, .slice Ao76 x287002_4.length co76, .int .i64 x287003_4, .slice Ao77 x287004_4.length co77], .agg #[.int .i64 ((rd_T36 y303 x14_4).f0), .int .i64 ((rd_T36 y303 x14_4).f1), .string ((rd_T36 y303 x14_4).f2)]] (by rfl) rfl rfl (by (try simp only [List.map_toArray, List.map_cons, List.map_nil]); first | done | rfl | (simp only [List.length_drop, List.length_take]; rfl)) ?_
                with_reducible refine (impl_Receive.calls k4 x287000_4 x287001_4 _ _ x287002_4 x287003_4 _ _ x287004_4 ((rd_T36 y303 x14_4).f0) ((rd_T36 y303 x14_4).f1) ((rd_T36 y303 x14_4).f2) t307 t308 t309 t312 t313 t316 _ ?side1 ?side2 ?side3 ?side4 A73.out).mono ?_
                (case side1 => repeat (first | exact (Kd.Q_reads' HO_287002.out).2.2 | (with_reducible refine Kd.C_alloc ?_ _) | (with_reducible refine Kd.C_drewN ?_ _) | (with_reducible refine Kd.C_drew ?_)))
                (case side2 => exact (Kd.Q_reads' HO_287002.out).2.1)
                (case side3 => repeat (first | exact (Kd.R_reads' HO_287004.out).2.2 | (with_reducible refine Kd.C_alloc ?_ _) | (with_reducible refine Kd.C_drewN ?_ _) | (with_reducible refine Kd.C_drew ?_)))
                (case side4 => exact (Kd.R_reads' HO_287004.out).2.1)
                rintro e w78 ⟨v310, v314, rfl, ho0, ho1, hb⟩
                have HS5_ := (hb.cell (World.block_lt_of_cell? _ _ (hHeld.2.2.2.2.2.1))).trans (hHeld.2.2.2.2.2.1)
                have HS6_ := (hb.cell (World.block_lt_of_cell? _ _ (hHeld.2.2.2.2.2.2.1))).trans (hHeld.2.2.2.2.2.2.1)
                have HS7_ := (hb.cell (World.block_lt_of_cell? _ _ (hHeld.2.2.2.2.2.2.2))).trans (hHeld.2.2.2.2.2.2.2)
                refine ⟨_, rfl, ?_⟩
                have n0_ := Aside0.mk (Kd.R_below (rrA HO_13.out) hb)
                have n1_ := Aside0.mk (Kd.Q_mono (Kd.Q_told (Kd.Q_told (Kd.Q_old (by (with_reducible repeat (first | apply Kd.Q_alloc | apply Kd.Q_drewN | apply Kd.Q_drew)); exact HO_274002.out) hb) (Kd.Q_base ho0)) (Kd.R_base ho1)) (fun _ h_ => h_.1))
                have n2_ := Aside0.mk (Kd.R_mono (Kd.R_told (Kd.R_told (Kd.R_old (rrA HO_274004.out) hb) (Kd.Q_base ho0)) (Kd.R_base ho1)) (fun _ h_ => h_.1))
                have n3_ := Aside0.mk (Kd.Q_mono (Kd.Q_told (Kd.Q_told (Kd.Q_old (by (with_reducible repeat (first | apply Kd.Q_alloc | apply Kd.Q_drewN | apply Kd.Q_drew)); exact HO_287002.out) hb) (Kd.Q_base ho0)) (Kd.R_base ho1)) (fun _ h_ => h_.1))
                have n4_ := Aside0.mk (Kd.R_mono (Kd.R_told (Kd.R_told (Kd.R_old (rrA HO_287004.out) hb) (Kd.Q_base ho0)) (Kd.R_base ho1)) (fun _ h_ => h_.1))
                have n5_ := Aside0.mk (Kd.Q_lower (Kd.Q_new' (Kd.Q_new' (Kd.Q_new' (Kd.Q_new' ho0 (Kd.Q_lt (by (with_reducible repeat (first | apply Kd.Q_alloc | apply Kd.Q_drewN | apply Kd.Q_drew)); exact HO_274002.out))) (Kd.R_lt (rrA HO_274004.out))) (Kd.Q_lt (by (with_reducible repeat (first | apply Kd.Q_alloc | apply Kd.Q_drewN | apply Kd.Q_drew)); exact HO_287002.out))) (Kd.R_lt (rrA HO_287004.out))) (below_size (by repeat (first | (with_reducible first | exact HB.out | apply below_alloc | apply pw_below_drewN | apply below_drew1 | refine below_set ?_ GE273.out | refine below_set ?_ GE286.out) | exact HB.out))))
                have n6_ := Aside0.mk (Kd.R_lower (Kd.R_new' (Kd.R_new' (Kd.R_new' (Kd.R_new' ho1 (Kd.Q_lt (by (with_reducible repeat (first | apply Kd.Q_alloc | apply Kd.Q_drewN | apply Kd.Q_drew)); exact HO_274002.out))) (Kd.R_lt (rrA HO_274004.out))) (Kd.Q_lt (by (with_reducible repeat (first | apply Kd.Q_alloc | apply Kd.Q_drewN | apply Kd.Q_drew)); exact HO_287002.out))) (Kd.R_lt (rrA HO_287004.out))) (below_size (by repeat (first | (with_reducible first | exact HB.out | apply below_alloc | apply pw_below_drewN | apply below_drew1 | refine below_set ?_ GE273.out | refine below_set ?_ GE286.out) | exact HB.out))))
                have n7_ := Aside0.mk (blk_below (g := gb273) (o := .cells #[.int .i64 t287, .int .i64 t288, .slice Ao65 t289.length co65, .int .i64 t292, .slice Ao66 t293.length co66] 26 (0, 0)) (rrB BK273.out) hb)
                have n8_ := Aside0.mk (blk_below (g := gb286) (o := .cells #[.int .i64 x287000_4, .int .i64 x287001_4, .slice Ao76 x287002_4.length co76, .int .i64 x287003_4, .slice Ao77 x287004_4.length co77] 26 (0, 0)) (rrB BK286.out) hb)
                have n9_ := Aside0.mk (below_step (by repeat (first | (with_reducible first | exact HB.out | apply below_alloc | apply pw_below_drewN | apply below_drew1 | refine below_set ?_ GE273.out | refine below_set ?_ GE286.out) | exact HB.out)) hb)
                clear HO_13; clear HO_274002; clear HO_274004; clear HO_287002; clear HO_287004; clear BK273; clear BK286; clear HB
                have HO_13 := n0_
                have HO_274002 := n1_
                have HO_274004 := n2_
                have HO_287002 := n3_
                have HO_287004 := n4_
                have HO311 := n5_
                have HO315 := n6_
                have BK273 := n7_
                have BK286 := n8_
                have HB := n9_
                clear n0_ n1_ n2_ n3_ n4_ n5_ n6_ n7_ n8_ n9_
                (try clear hb)
                (try clear hb2)
                (try clear hk)
                (try clear hi)
                (try clear ho0)
                (try clear ho1)
                obtain ⟨Ao81, co81, eo81, _⟩ := Kd.Q_slice HO311.out
                (first | subst eo81 | (injection eo81 with f1_ f2_ f3_; have f4_ := f1_.symm; have f5_ := f3_.symm; clear f1_ f2_ f3_; subst f4_; subst f5_))
                obtain ⟨Ao84, co84, eo84⟩ := Kd.R_slice HO315.out
                (first | subst eo84 | (injection eo84 with f1_ f2_ f3_; have f4_ := f1_.symm; have f5_ := f3_.symm; clear f1_ f2_ f3_; subst f4_; subst f5_))
                refine hK.out _ _ ⟨(blk_cell BK286.out 0).trans rfl, (blk_cell BK286.out 1).trans rfl, (blk_cell BK286.out 2).trans rfl, (blk_cell BK286.out 3).trans rfl, (blk_cell BK286.out 4).trans rfl, HS5_, HS6_, HS7_⟩ (fun hHeld => ?_)
                clear hK K
                refine norm_ (a' := ?_) ?_ ?_
                rotate_left
                ·
                 show Act.put _ (some 76) _ = _
                 simp only [Act.put, List.setIfInBounds_toArray, List.set_cons_zero, List.set_cons_succ, i64_w, i32_w]; rfl
                refine pure_ (i := 6) (N := some 70) (v := ?_) (a' := ?_) #[true, true, true, true, true, true, true, false, false, false] rfl rfl (any_of HT_.out (by kernel_rfl)) (fun _ _ _ h => h) (Or.inl ⟨by rfl, ?_⟩) ?_ ?_; rotate_left
                · intro w'; go_simp; with_reducible rfl
                rotate_left
                · simp only [Act.put, List.setIfInBounds_toArray, List.set_cons_zero, List.set_cons_succ, i64_w, i32_w]; rfl
                refine pure_ (i := 7) (N := some 77) (v := ?_) (a' := ?_) #[true, true, true, true, true, true, true, true, false, false] rfl rfl (any_of HT_.out (by kernel_rfl)) (fun _ _ _ h => h) (Or.inl ⟨by rfl, ?_⟩) ?_ ?_; rotate_left
                · intro w'; go_simp; with_reducible rfl
                rotate_left
                · simp only [Act.put, List.setIfInBounds_toArray, List.set_cons_zero, List.set_cons_succ, i64_w, i32_w]; rfl
                refine pure_ (i := 8) (N := some 78) (v := ?_) (a' := ?_) #[true, true, true, true, true, true, true, true, true, false] rfl rfl (any_of HT_.out (by kernel_rfl)) (fun _ _ _ h => h) (Or.inl ⟨by rfl, ?_⟩) ?_ ?_; rotate_left
                · intro w'; go_simp; with_reducible rfl
                rotate_left
                · simp only [Act.put, List.setIfInBounds_toArray, List.set_cons_zero, List.set_cons_succ, i64_w, i32_w]; rfl
                refine last_ (i := 9) (N := none) #[true, true, true, true, true, true, true, true, true, true] rfl rfl (one_of HT_.out (by kernel_rfl)) (by decide) (fun K hK => ?_)
                have hs79 : w78.cell? ⟨gb286, 0, none⟩ = some (.int .i64 x287000_4) := (blk_cell BK286.out 0).trans rfl
                have hfs79 := blk_frozen BK286.out 0
                have hns79_0 := NB273_286.out
                have hms79_0 := NB286_273.out
                have hs80 : w78.cell? ⟨gb286, 1, none⟩ = some (.int .i64 x287001_4) := (blk_cell BK286.out 1).trans rfl
                have hfs80 := blk_frozen BK286.out 1
                have hns80_0 := NB273_286.out
                have hms80_0 := NB286_273.out
                have hs82 : w78.cell? ⟨gb286, 2, none⟩ = some (.slice Ao76 x287002_4.length co76) := (blk_cell BK286.out 2).trans rfl
                have hfs82 := blk_frozen BK286.out 2
                have hns82_0 := NB273_286.out
                have hms82_0 := NB286_273.out
                have hs83 : w78.cell? ⟨gb286, 3, none⟩ = some (.int .i64 x287003_4) := (blk_cell BK286.out 3).trans rfl
                have hfs83 := blk_frozen BK286.out 3
                have hns83_0 := NB273_286.out
                have hms83_0 := NB286_273.out
                have hs85 : w78.cell? ⟨gb286, 4, none⟩ = some (.slice Ao77 x287004_4.length co77) := (blk_cell BK286.out 4).trans rfl
                have hfs85 := blk_frozen BK286.out 4
                have hns85_0 := NB273_286.out
                have hms85_0 := NB286_273.out
                refine skip_ (w1 := ?_) (by rfl) rfl ?_ ?_
                rotate_left
                · go_simp; rfl
                refine hK.out _ _ ?_
                clear hK K
                refine done_ (done_of HT_.out (by kernel_rfl)) ?_
                try go_wp2
                go_roundg k4
                case measure => have := HJ4.out; have := HK2.out; have := HK3.out; have := HK4.out; omega
                case rel => exact ⟨(wrap64 (x14_4 + 1)), (t307), (t308), (t309), (t312), (t313), (.slice Ao81 t309.length co81), (.slice Ao84 t313.length co84), (by first | rfl | (simp; done) | (simp [*]; done)), H', ⟨by have := HJ4.out; have := HK2.out; have := HK3.out; have := HK4.out; omega⟩, ⟨by (with_reducible repeat (first | apply Kd.R_alloc | apply Kd.R_drewN | apply Kd.R_drew)); exact Kd.R_mono (Kd.R_far (p := ⟨gb286, 4, none⟩) (Kd.R_far (p := ⟨gb286, 3, none⟩) (Kd.R_far (p := ⟨gb286, 2, none⟩) (Kd.R_far (p := ⟨gb286, 1, none⟩) (Kd.R_far (p := ⟨gb286, 0, none⟩) (Kd.R_types HO_13.out BK286.out (by decide)) (fun _ hk => hk.2) (.int .i64 t307)) (fun _ hk => hk.2) (.int .i64 t308)) (fun _ hk => hk.2) (.slice Ao81 t309.length co81)) (fun _ hk => hk.2) (.int .i64 t312)) (fun _ hk => hk.2) (.slice Ao84 t313.length co84)) (fun _ hk => trivial)⟩, ⟨by (with_reducible repeat (first | apply Kd.Q_alloc | apply Kd.Q_drewN | apply Kd.Q_drew)); exact Kd.Q_mono (Kd.Q_far (p := ⟨gb286, 4, none⟩) (Kd.Q_far (p := ⟨gb286, 3, none⟩) (Kd.Q_far (p := ⟨gb286, 2, none⟩) (Kd.Q_far (p := ⟨gb286, 1, none⟩) (Kd.Q_far (p := ⟨gb286, 0, none⟩) (Kd.Q_types HO_274002.out BK286.out (by decide)) (fun _ hk => hk.2) (.int .i64 t307)) (fun _ hk => hk.2) (.int .i64 t308)) (fun _ hk => hk.2) (.slice Ao81 t309.length co81)) (fun _ hk => hk.2) (.int .i64 t312)) (fun _ hk => hk.2) (.slice Ao84 t313.length co84)) (fun _ hk => ⟨hk.1.1.1.1, ⟨hk.1.1.2, hk.1.2⟩⟩)⟩, ⟨by (with_reducible repeat (first | apply Kd.R_alloc | apply Kd.R_drewN | apply Kd.R_drew)); exact Kd.R_mono (Kd.R_far (p := ⟨gb286, 4, none⟩) (Kd.R_far (p := ⟨gb286, 3, none⟩) (Kd.R_far (p := ⟨gb286, 2, none⟩) (Kd.R_far (p := ⟨gb286, 1, none⟩) (Kd.R_far (p := ⟨gb286, 0, none⟩) (Kd.R_types HO_274004.out BK286.out (by decide)) (fun _ hk => hk.2) (.int .i64 t307)) (fun _ hk => hk.2) (.int .i64 t308)) (fun _ hk => hk.2) (.slice Ao81 t309.length co81)) (fun _ hk => hk.2) (.int .i64 t312)) (fun _ hk => hk.2) (.slice Ao84 t313.length co84)) (fun _ hk => ⟨hk.1.1.1.1, ⟨hk.1.1.2, hk.1.2⟩⟩)⟩, ⟨by (with_reducible repeat (first | apply Kd.Q_alloc | apply Kd.Q_drewN | apply Kd.Q_drew)); exact Kd.Q_mono (Kd.Q_far (p := ⟨gb286, 4, none⟩) (Kd.Q_far (p := ⟨gb286, 3, none⟩) (Kd.Q_far (p := ⟨gb286, 2, none⟩) (Kd.Q_far (p := ⟨gb286, 1, none⟩) (Kd.Q_far (p := ⟨gb286, 0, none⟩) (Kd.Q_types HO311.out BK286.out (by decide)) (fun _ hk => hk.2) (.int .i64 t307)) (fun _ hk => hk.2) (.int .i64 t308)) (fun _ hk => hk.2) (.slice Ao81 t309.length co81)) (fun _ hk => hk.2) (.int .i64 t312)) (fun _ hk => hk.2) (.slice Ao84 t313.length co84)) (fun _ hk => ⟨hk.1.1.1.1.2, ⟨hk.1.1.1.2, hk.1.1.1.1.1⟩⟩)⟩, ⟨by (with_reducible repeat (first | apply Kd.R_alloc | apply Kd.R_drewN | apply Kd.R_drew)); exact Kd.R_mono (Kd.R_far (p := ⟨gb286, 4, none⟩) (Kd.R_far (p := ⟨gb286, 3, none⟩) (Kd.R_far (p := ⟨gb286, 2, none⟩) (Kd.R_far (p := ⟨gb286, 1, none⟩) (Kd.R_far (p := ⟨gb286, 0, none⟩) (Kd.R_types HO315.out BK286.out (by decide)) (fun _ hk => hk.2) (.int .i64 t307)) (fun _ hk => hk.2) (.int .i64 t308)) (fun _ hk => hk.2) (.slice Ao81 t309.length co81)) (fun _ hk => hk.2) (.int .i64 t312)) (fun _ hk => hk.2) (.slice Ao84 t313.length co84)) (fun _ hk => ⟨hk.1.1.1.1.2, ⟨hk.1.1.1.2, hk.1.1.1.1.1⟩⟩)⟩, ⟨by (with_reducible repeat (first | refine blk_drewN ?_ _ | refine blk_drew ?_ | refine blk_alloc ?_ _)); refine blk_far ?_ NB273_286.out _; (with_reducible repeat (first | refine blk_drewN ?_ _ | refine blk_drew ?_ | refine blk_alloc ?_ _)); refine blk_far ?_ NB273_286.out _; (with_reducible repeat (first | refine blk_drewN ?_ _ | refine blk_drew ?_ | refine blk_alloc ?_ _)); refine blk_far ?_ NB273_286.out _; (with_reducible repeat (first | refine blk_drewN ?_ _ | refine blk_drew ?_ | refine blk_alloc ?_ _)); refine blk_far ?_ NB273_286.out _; (with_reducible repeat (first | refine blk_drewN ?_ _ | refine blk_drew ?_ | refine blk_alloc ?_ _)); refine blk_far ?_ NB273_286.out _; (with_reducible repeat (first | refine blk_drewN ?_ _ | refine blk_drew ?_ | refine blk_alloc ?_ _)); exact BK273.out⟩, ⟨by (with_reducible repeat (first | refine blk_drewN ?_ _ | refine blk_drew ?_ | refine blk_alloc ?_ _)); refine blk_put (cs := #[.int .i64 t307, .int .i64 t308, .slice Ao81 t309.length co81, .int .i64 t312, .slice Ao77 x287004_4.length co77]) ?_ 4 _ rfl; (with_reducible repeat (first | refine blk_drewN ?_ _ | refine blk_drew ?_ | refine blk_alloc ?_ _)); refine blk_put (cs := #[.int .i64 t307, .int .i64 t308, .slice Ao81 t309.length co81, .int .i64 x287003_4, .slice Ao77 x287004_4.length co77]) ?_ 3 _ rfl; (with_reducible repeat (first | refine blk_drewN ?_ _ | refine blk_drew ?_ | refine blk_alloc ?_ _)); refine blk_put (cs := #[.int .i64 t307, .int .i64 t308, .slice Ao76 x287002_4.length co76, .int .i64 x287003_4, .slice Ao77 x287004_4.length co77]) ?_ 2 _ rfl; (with_reducible repeat (first | refine blk_drewN ?_ _ | refine blk_drew ?_ | refine blk_alloc ?_ _)); refine blk_put (cs := #[.int .i64 t307, .int .i64 x287001_4, .slice Ao76 x287002_4.length co76, .int .i64 x287003_4, .slice Ao77 x287004_4.length co77]) ?_ 1 _ rfl; (with_reducible repeat (first | refine blk_drewN ?_ _ | refine blk_drew ?_ | refine blk_alloc ?_ _)); refine blk_put (cs := #[.int .i64 x287000_4, .int .i64 x287001_4, .slice Ao76 x287002_4.length co76, .int .i64 x287003_4, .slice Ao77 x287004_4.length co77]) ?_ 0 _ rfl; (with_reducible repeat (first | refine blk_drewN ?_ _ | refine blk_drew ?_ | refine blk_alloc ?_ _)); exact BK286.out⟩, ⟨by repeat (first | (with_reducible first | exact HB.out | apply below_alloc | apply pw_below_drewN | apply below_drew1 | refine below_set ?_ GE273.out | refine below_set ?_ GE286.out) | exact HB.out)⟩⟩
               ·
                rw [if_neg c72] at H
                exact absurd H (by simp)
              ·
               rw [if_neg c71] at H
               have c71b0 : decide (x14_4 < (y303.length : Int)) = false := decide_eq_false c71
               clear c71
               replace H := Option.bind_eq_some_iff.mp H
               obtain ⟨t317, A860, H⟩ := H
               replace H : (laws_FnEnds.l3 k4 x6_2 x11_3 t317 0 t287 t288 t289 t292 t293 x287000_4 x287001_4 x287002_4 x287003_4 x287004_4) = some r := H
               have A86 := Aside0.mk A860
               clear A860
               have H' := Aside0.mk H
               clear H
               obtain ⟨Ao87, co87, eo87⟩ := Kd.R_slice HO_13.out
               subst eo87
               have hnb88 := NB286_273.out
               have hnc88 := NB273_286.out
               have hcz89_0 : wr.cell? ⟨gb286, 0, none⟩ = some (.int .i64 x287000_4) := (blk_cell BK286.out 0).trans rfl
               have hcz89_1 : wr.cell? ⟨gb286, 1, none⟩ = some (.int .i64 x287001_4) := (blk_cell BK286.out 1).trans rfl
               have hcz89_2 : wr.cell? ⟨gb286, 2, none⟩ = some (u287002) := (blk_cell BK286.out 2).trans rfl
               have hcz89_3 : wr.cell? ⟨gb286, 3, none⟩ = some (.int .i64 x287003_4) := (blk_cell BK286.out 3).trans rfl
               have hcz89_4 : wr.cell? ⟨gb286, 4, none⟩ = some (u287004) := (blk_cell BK286.out 4).trans rfl
               have hfz89_0 := blk_frozen BK286.out 0
               have hfz89_1 := blk_frozen BK286.out 1
               have hfz89_2 := blk_frozen BK286.out 2
               have hfz89_3 := blk_frozen BK286.out 3
               have hfz89_4 := blk_frozen BK286.out 4
               obtain ⟨Ao90, co90, eo90, _⟩ := Kd.Q_slice HO_287002.out
               subst eo90
               obtain ⟨Ao91, co91, eo91⟩ := Kd.R_slice HO_287004.out
               subst eo91
               go_wp2_with (first | ((with_reducible refine gate_callee (f := 27) rfl ?_); refine goesL_ (some 80) rfl rfl Try.func27 (by kernel_rfl) rfl #[.agg #[.int .i64 x287000_4, .int .i64 x287001_4, .slice Ao90 x287002_4.length co90, .int .i64 x287003_4, .slice Ao91 x287004_4.length co91]] rfl (by (try simp only [List.map_toArray, List.map_cons, List.map_nil]); first | done | rfl | (simp only [List.length_drop, List.length_take]; rfl)) ?_; (with_reducible refine (impl_SendAgain.calls k4 x287000_4 x287001_4 _ _ x287002_4 x287003_4 _ _ x287004_4 t317 _ ?side1 ?side2 ?side3 ?side4 A86.out).mono ?_); (case side1 => repeat (first | exact (Kd.Q_reads' HO_287002.out).2.2 | (with_reducible refine Kd.C_alloc ?_ _) | (with_reducible refine Kd.C_drewN ?_ _) | (with_reducible refine Kd.C_drew ?_))); (case side2 => exact (Kd.Q_reads' HO_287002.out).2.1); (case side3 => repeat (first | exact (Kd.R_reads' HO_287004.out).2.2 | (with_reducible refine Kd.C_alloc ?_ _) | (with_reducible refine Kd.C_drewN ?_ _) | (with_reducible refine Kd.C_drew ?_))); (case side4 => exact (Kd.R_reads' HO_287004.out).2.1); rintro e w92 ⟨v318, rfl, ho0, hb⟩; refine ⟨_, rfl, ?_⟩; have n0_ := Aside0.mk (Kd.R_elder' (rrA HO_13.out) (Kd.R_base ho0) hb); have n1_ := Aside0.mk (Kd.Q_below (by (with_reducible repeat (first | apply Kd.Q_alloc | apply Kd.Q_drewN | apply Kd.Q_drew)); exact HO_274002.out) hb); have n2_ := Aside0.mk (Kd.R_below (rrA HO_274004.out) hb); have n3_ := Aside0.mk (Kd.Q_below (by (with_reducible repeat (first | apply Kd.Q_alloc | apply Kd.Q_drewN | apply Kd.Q_drew)); exact HO_287002.out) hb); have n4_ := Aside0.mk (Kd.R_below (rrA HO_287004.out) hb); have n5_ := Aside0.mk (Kd.R_lower (Kd.R_new' ho0 (Kd.R_lt (rrA HO_13.out))) (below_size (by repeat (first | (with_reducible first | exact HB.out | apply below_alloc | apply pw_below_drewN | apply below_drew1 | refine below_set ?_ GE273.out | refine below_set ?_ GE286.out) | exact HB.out)))); have n6_ := Aside0.mk (blk_below (g := gb273) (o := .cells #[.int .i64 t287, .int .i64 t288, .slice Ao65 t289.length co65, .int .i64 t292, .slice Ao66 t293.length co66] 26 (0, 0)) (rrB BK273.out) hb); have n7_ := Aside0.mk (blk_below (g := gb286) (o := .cells #[.int .i64 x287000_4, .int .i64 x287001_4, .slice Ao90 x287002_4.length co90, .int .i64 x287003_4, .slice Ao91 x287004_4.length co91] 26 (0, 0)) (rrB BK286.out) hb); have n8_ := Aside0.mk (below_step (by repeat (first | (with_reducible first | exact HB.out | apply below_alloc | apply pw_below_drewN | apply below_drew1 | refine below_set ?_ GE273.out | refine below_set ?_ GE286.out) | exact HB.out)) hb); clear HO_13; clear HO_274002; clear HO_274004; clear HO_287002; clear HO_287004; clear BK273; clear BK286; clear HB; have HO_13 := n0_; have HO_274002 := n1_; have HO_274004 := n2_; have HO_287002 := n3_; have HO_287004 := n4_; have HO319 := n5_; have BK273 := n6_; have BK286 := n7_; have HB := n8_; clear n0_ n1_ n2_ n3_ n4_ n5_ n6_ n7_ n8_; (try clear hb); (try clear hb2); (try clear hk); (try clear hi); (try clear ho0)))
               go_loopg [16] k4 (fun kq v16 w' => ∃ (x16_5 : Int) (x274000_5 : Int) (x274001_5 : Int) (x274002_5 : List ByteArray) (x274003_5 : Int) (x274004_5 : List ByteArray) (u274002 : Value) (u274004 : Value), v16 = .int .i64 x16_5 ∧ Aside0 (laws_FnEnds.l3 kq x6_2 x11_3 t317 x16_5 x274000_5 x274001_5 x274002_5 x274003_5 x274004_5 x287000_4 x287001_4 x287002_4 x287003_4 x287004_4 = some r) ∧ Aside0 (kq ≤ k4) ∧ Aside0 (Kd.R k36 36 w' w.heap.size (fun _ => True) v318 t317) ∧ Aside0 (Kd.Q Kd.string 9 w' w.heap.size (fun k_ => some k_ ≠ (u274004 : Value).ownBlock ∧ some k_ ≠ ((.slice Ao90 x287002_4.length co90) : Value).ownBlock ∧ some k_ ≠ ((.slice Ao91 x287004_4.length co91) : Value).ownBlock) u274002 x274002_5) ∧ Aside0 (Kd.R Kd.string 9 w' w.heap.size (fun k_ => some k_ ≠ (u274002 : Value).ownBlock ∧ some k_ ≠ ((.slice Ao90 x287002_4.length co90) : Value).ownBlock ∧ some k_ ≠ ((.slice Ao91 x287004_4.length co91) : Value).ownBlock) u274004 x274004_5) ∧ Aside0 (Kd.Q Kd.string 9 w' w.heap.size (fun k_ => some k_ ≠ (u274002 : Value).ownBlock ∧ some k_ ≠ (u274004 : Value).ownBlock ∧ some k_ ≠ ((.slice Ao91 x287004_4.length co91) : Value).ownBlock) (.slice Ao90 x287002_4.length co90) x287002_4) ∧ Aside0 (Kd.R Kd.string 9 w' w.heap.size (fun k_ => some k_ ≠ (u274002 : Value).ownBlock ∧ some k_ ≠ (u274004 : Value).ownBlock ∧ some k_ ≠ ((.slice Ao90 x287002_4.length co90) : Value).ownBlock) (.slice Ao91 x287004_4.length co91) x287004_4) ∧ Aside0 (w'.heap[gb273]? = some (.cells #[.int .i64 x274000_5, .int .i64 x274001_5, u274002, .int .i64 x274003_5, u274004] 26 (0, 0))) ∧ Aside0 (w'.heap[gb286]? = some (.cells #[.int .i64 x287000_4, .int .i64 x287001_4, (.slice Ao90 x287002_4.length co90), .int .i64 x287003_4, (.slice Ao91 x287004_4.length co91)] 26 (0, 0))) ∧ Aside0 (Below w.heap.size w w'))
               case atStart => exact ⟨(0), (t287), (t288), (t289), (t292), (t293), (.slice Ao65 t289.length co65), (.slice Ao66 t293.length co66), (by first | rfl | (simp; done) | (simp [*]; done)), H', ⟨Nat.le_refl _⟩, ⟨by (with_reducible repeat (first | apply Kd.R_alloc | apply Kd.R_drewN | apply Kd.R_drew)); exact Kd.R_mono HO319.out (fun _ hk => trivial)⟩, ⟨by (with_reducible repeat (first | apply Kd.Q_alloc | apply Kd.Q_drewN | apply Kd.Q_drew)); exact HO_274002.out⟩, ⟨(rrA HO_274004.out)⟩, ⟨by (with_reducible repeat (first | apply Kd.Q_alloc | apply Kd.Q_drewN | apply Kd.Q_drew)); exact HO_287002.out⟩, ⟨(rrA HO_287004.out)⟩, ⟨(rrB BK273.out)⟩, ⟨(rrB BK286.out)⟩, ⟨by repeat (first | (with_reducible first | exact HB.out | apply below_alloc | apply pw_below_drewN | apply below_drew1 | refine below_set ?_ GE273.out | refine below_set ?_ GE286.out) | exact HB.out)⟩⟩
               case round =>
                clear H'
                try clear c1
                try clear c2
                try clear p2
                try clear q2
                try clear hx2
                try clear c3
                try clear p3
                try clear q3
                try clear hx3
                try clear c5
                try clear c6
                try clear p6
                try clear c7
                try clear c8
                try clear c13
                try clear c13b0
                try clear c14
                try clear c16
                try clear c20
                try clear c27
                try clear p27
                try clear q27
                try clear hx27
                try clear p30
                try clear q30
                try clear hx30
                try clear c31
                try clear c32
                try clear c50
                try clear c52
                try clear c52b0
                try clear c55
                try clear c56
                try clear c62
                try clear c63
                try clear p64
                try clear c71
                try clear c71b0
                try clear c72
                try clear c72b0
                try clear c88
                try clear hcz32_0
                try clear hcz32_1
                try clear hcz32_2
                try clear hcz32_3
                try clear hcz32_4
                try clear hcz33_0
                try clear hcz33_1
                try clear hcz33_2
                try clear hcz33_3
                try clear hcz33_4
                try clear hcz51_0
                try clear hcz51_1
                try clear hcz51_2
                try clear hcz51_3
                try clear hcz51_4
                try clear hcz57_0
                try clear hcz57_1
                try clear hcz57_2
                try clear hcz57_3
                try clear hcz57_4
                try clear hcz64_0
                try clear hcz64_1
                try clear hcz64_2
                try clear hcz64_3
                try clear hcz64_4
                try clear hcz67_0
                try clear hcz67_1
                try clear hcz67_2
                try clear hcz67_3
                try clear hcz67_4
                try clear hcz89_0
                try clear hcz89_1
                try clear hcz89_2
                try clear hcz89_3
                try clear hcz89_4
                try clear hfz32_0
                try clear hfz32_1
                try clear hfz32_2
                try clear hfz32_3
                try clear hfz32_4
                try clear hfz33_0
                try clear hfz33_1
                try clear hfz33_2
                try clear hfz33_3
                try clear hfz33_4
                try clear hfz51_0
                try clear hfz51_1
                try clear hfz51_2
                try clear hfz51_3
                try clear hfz51_4
                try clear hfz57_0
                try clear hfz57_1
                try clear hfz57_2
                try clear hfz57_3
                try clear hfz57_4
                try clear hfz64_0
                try clear hfz64_1
                try clear hfz64_2
                try clear hfz64_3
                try clear hfz64_4
                try clear hfz67_0
                try clear hfz67_1
                try clear hfz67_2
                try clear hfz67_3
                try clear hfz67_4
                try clear hfz89_0
                try clear hfz89_1
                try clear hfz89_2
                try clear hfz89_3
                try clear hfz89_4
                try clear hx274_0
                try clear hx306_0
                try clear hx306_1
                try clear hx306_2
                try clear p2
                try clear p27
                try clear p274
                try clear p306
                try clear p6
                try clear p64
                try clear q2
                try clear q27
                try clear q274
                try clear q306
                obtain ⟨x16_5, x274000_5, x274001_5, x274002_5, x274003_5, x274004_5, u274002, u274004, rfl, HA, HK5, HO_15, HO_274002, HO_274004, HO_287002, HO_287004, BK273, BK286, HB⟩ := hrel
                cases gk with
                | zero => exact absurd HA.out (by simp [laws_FnEnds.l3])
                | succ k5 =>
                 have H := HA.out
                 clear HA
                 simp only [laws_FnEnds.l3] at H
                 by_cases c93 : x16_5 < (t317.length : Int)
                 ·
                  rw [if_pos c93] at H
                  have c93b0 : decide (x16_5 < (t317.length : Int)) = true := decide_eq_true c93
                  clear c93
                  by_cases c94 : 0 ≤ x16_5
                  ·
                   rw [if_pos c94] at H
                   have c94b0 : decide (0 ≤ x16_5) = true := decide_eq_true c94
                   clear c94
                   replace H := Option.bind_eq_some_iff.mp H
                   obtain ⟨⟨t321, t322, t323, t326, t327, t330⟩, A950, H⟩ := H
                   replace H : (laws_FnEnds.l3 k5 x6_2 x11_3 t317 (wrap64 (x16_5 + 1)) t321 t322 t323 t326 t327 x287000_4 x287001_4 x287002_4 x287003_4 x287004_4) = some r := H
                   have A95 := Aside0.mk A950
                   clear A950
                   have H' := Aside0.mk H
                   clear H
                   obtain ⟨Ao96, co96, eo96⟩ := Kd.R_slice HO_15.out
                   subst eo96
                   try go_wp2
                   have n0_ := Aside0.mk (Kd.R_drew HO_15.out)
                   have n1_ := Aside0.mk (Kd.Q_drew HO_274002.out)
                   have n2_ := Aside0.mk (Kd.R_drew HO_274004.out)
                   have n3_ := Aside0.mk (Kd.Q_drew HO_287002.out)
                   have n4_ := Aside0.mk (Kd.R_drew HO_287004.out)
                   have n5_ := Aside0.mk (blk_drew BK273.out)
                   have n6_ := Aside0.mk (blk_drew BK286.out)
                   have n7_ := Aside0.mk (below_drew1 HB.out)
                   clear HO_15; clear HO_274002; clear HO_274004; clear HO_287002; clear HO_287004; clear BK273; clear BK286; clear HB
                   have HO_15 := n0_
                   have HO_274002 := n1_
                   have HO_274004 := n2_
                   have HO_287002 := n3_
                   have HO_287004 := n4_
                   have BK273 := n5_
                   have BK286 := n6_
                   have HB := n7_
                   clear n0_ n1_ n2_ n3_ n4_ n5_ n6_ n7_
                   have p320 : 0 ≤ (x16_5 : Int) := of_decide_eq_true (by first | (with_reducible assumption) | assumption)
                   have q320 : x16_5 < (t317.length : Int) := of_decide_eq_true (by first | (with_reducible assumption) | assumption)
                   obtain ⟨ad320, e320, hx320_0, hx320_1, hx320_2⟩ := at_T36 (Kd.R_reads' HO_15.out).2.2 x16_5 p320 q320
                   cases e320
                   replace p320 := eq_true p320
                   replace q320 := eq_true q320
                   obtain ⟨Ao98, co98, eo98, _⟩ := Kd.Q_slice HO_274002.out
                   (first | subst eo98 | (injection eo98 with f1_ f2_ f3_; have f4_ := f1_.symm; have f5_ := f3_.symm; clear f1_ f2_ f3_; subst f4_; subst f5_))
                   obtain ⟨Ao99, co99, eo99⟩ := Kd.R_slice HO_274004.out
                   (first | subst eo99 | (injection eo99 with f1_ f2_ f3_; have f4_ := f1_.symm; have f5_ := f3_.symm; clear f1_ f2_ f3_; subst f4_; subst f5_))
                   refine start_ (n := 10) (S := fun w' => w'.cell? ⟨gb273, 0, none⟩ = some (.int .i64 x274000_5) ∧ w'.cell? ⟨gb273, 1, none⟩ = some (.int .i64 x274001_5) ∧ w'.cell? ⟨gb273, 2, none⟩ = some (.slice Ao98 x274002_5.length co98) ∧ w'.cell? ⟨gb273, 3, none⟩ = some (.int .i64 x274003_5) ∧ w'.cell? ⟨gb273, 4, none⟩ = some (.slice Ao99 x274004_5.length co99) ∧ w'.cell? (ad320.add ((x16_5).toNat * 3)) = some (.int .i64 ((rd_T36 t317 x16_5).f0)) ∧ w'.cell? ⟨(ad320.add ((x16_5).toNat * 3)).block, (ad320.add ((x16_5).toNat * 3)).off + 1, none⟩ = some (.int .i64 ((rd_T36 t317 x16_5).f1)) ∧ w'.cell? ⟨(ad320.add ((x16_5).toNat * 3)).block, (ad320.add ((x16_5).toNat * 3)).off + 2, none⟩ = some (.string ((rd_T36 t317 x16_5).f2))) (ds := [9]) #[false, false, false, false, false, false, false, false, false, false] (by kernel_rfl) rfl rfl ⟨(blk_cell BK273.out 0).trans rfl, (blk_cell BK273.out 1).trans rfl, (blk_cell BK273.out 2).trans rfl, (blk_cell BK273.out 3).trans rfl, (blk_cell BK273.out 4).trans rfl, hx320_0, hx320_1, hx320_2⟩ (fun hHeld => ?_); refine with_tabW laws_FnEnds.tab30 laws_FnEnds.bits30 (fun HT_ HW_ => ?_)
                   generalize wr.drew = w97 at HO_15 HO_274002 HO_274004 HO_287002 HO_287004 BK273 BK286 HB hx320_0 hx320_1 hx320_2 hHeld ⊢
                   refine pure_ (i := 1) (N := some 89) (v := ?_) (a' := ?_) #[false, true, false, false, false, false, false, false, false, false] rfl rfl (any_of HT_.out (by kernel_rfl)) (fun _ _ _ h => h) (Or.inl ⟨by rfl, ?_⟩) ?_ ?_; rotate_left
                   · intro w'; go_simp; with_reducible rfl
                   rotate_left
                   · simp only [Act.put, List.setIfInBounds_toArray, List.set_cons_zero, List.set_cons_succ, i64_w, i32_w]; rfl
                   refine pure_ (i := 2) (N := some 90) (v := ?_) (a' := ?_) #[false, true, true, false, false, false, false, false, false, false] rfl rfl (any_of HT_.out (by kernel_rfl)) (fun _ _ _ h => h) (Or.inl ⟨by rfl, ?_⟩) ?_ ?_; rotate_left
                   · intro w'; go_simp; with_reducible rfl
                   rotate_left
                   · simp only [Act.put, List.setIfInBounds_toArray, List.set_cons_zero, List.set_cons_succ, i64_w, i32_w]; rfl
                   refine pure_ (i := 3) (N := some 91) (v := ?_) (a' := ?_) #[false, true, true, true, false, false, false, false, false, false] rfl rfl (any_of HT_.out (by kernel_rfl)) (fun _ _ _ h => h) (Or.inl ⟨by rfl, ?_⟩) ?_ ?_; rotate_left
                   · intro w'; go_simp; with_reducible rfl
                   rotate_left
                   · simp only [Act.put, List.setIfInBounds_toArray, List.set_cons_zero, List.set_cons_succ, i64_w, i32_w]; rfl
                   refine take_ (i := 0) (N := some 88) (v := ?_) (a' := ?_) #[true, true, true, true, false, false, false, false, false, false] rfl rfl (take_ofW HT_.out HW_.out (by kernel_rfl)) (fun _ _ _ h => h) (Or.inl ⟨by rfl, ?_⟩) hHeld ?_ ?_; rotate_left
                   ·
                    rintro w' ⟨s0, s1, s2, s3, s4, s5, s6, s7⟩
                    go_simp; with_reducible rfl
                   rotate_left
                   · simp only [Act.put, List.setIfInBounds_toArray, List.set_cons_zero, List.set_cons_succ, i64_w, i32_w]; rfl
                   refine take_ (i := 4) (N := some 92) (v := ?_) (a' := ?_) #[true, true, true, true, true, false, false, false, false, false] rfl rfl (take_ofW HT_.out HW_.out (by kernel_rfl)) (fun _ _ _ h => h) (Or.inl ⟨by rfl, ?_⟩) hHeld ?_ ?_; rotate_left
                   ·
                    rintro w' ⟨s0, s1, s2, s3, s4, s5, s6, s7⟩
                    go_simp; with_reducible rfl
                   rotate_left
                   · simp only [Act.put, List.setIfInBounds_toArray, List.set_cons_zero, List.set_cons_succ, i64_w, i32_w]; rfl
                   refine one_ (i := 5) (N := some 93) #[true, true, true, true, true, true, false, false, false, false] rfl rfl (one_of HT_.out (by kernel_rfl)) (by decide) (fun K hK => ?_)
                   refine goes_ Try.func20 (by kernel_rfl) rfl #[.agg #[.int .i64 x274000_5, .int .i64 x274001_5, .slice Ao98 x274002_5.length co98, .int .i64 x274003_5, .slice Ao99 x274004_5.length co99], .agg #[.int .i64 ((rd_T36 t317 x16_5).f0), .int .i64 ((rd_T36 t317 x16_5).f1), .string ((rd_T36 t317 x16_5).f2)]] (by rfl) rfl rfl (by (try simp only [List.map_toArray, List.map_cons, List.map_nil]); first | done | rfl | (simp only [List.length_drop, List.length_take]; rfl)) ?_
                   with_reducible refine (impl_Receive.calls k5 x274000_5 x274001_5 _ _ x274002_5 x274003_5 _ _ x274004_5 ((rd_T36 t317 x16_5).f0) ((rd_T36 t317 x16_5).f1) ((rd_T36 t317 x16_5).f2) t321 t322 t323 t326 t327 t330 _ ?side1 ?side2 ?side3 ?side4 A95.out).mono ?_
                   (case side1 => repeat (first | exact (Kd.Q_reads' HO_274002.out).2.2 | (with_reducible refine Kd.C_alloc ?_ _) | (with_reducible refine Kd.C_drewN ?_ _) | (with_reducible refine Kd.C_drew ?_)))
                   (case side2 => exact (Kd.Q_reads' HO_274002.out).2.1)
                   (case side3 => repeat (first | exact (Kd.R_reads' HO_274004.out).2.2 | (with_reducible refine Kd.C_alloc ?_ _) | (with_reducible refine Kd.C_drewN ?_ _) | (with_reducible refine Kd.C_drew ?_)))
                   (case side4 => exact (Kd.R_reads' HO_274004.out).2.1)
                   rintro e w100 ⟨v324, v328, rfl, ho0, ho1, hb⟩
                   have HS5_ := (hb.cell (World.block_lt_of_cell? _ _ (hHeld.2.2.2.2.2.1))).trans (hHeld.2.2.2.2.2.1)
                   have HS6_ := (hb.cell (World.block_lt_of_cell? _ _ (hHeld.2.2.2.2.2.2.1))).trans (hHeld.2.2.2.2.2.2.1)
                   have HS7_ := (hb.cell (World.block_lt_of_cell? _ _ (hHeld.2.2.2.2.2.2.2))).trans (hHeld.2.2.2.2.2.2.2)
                   refine ⟨_, rfl, ?_⟩
                   have n0_ := Aside0.mk (Kd.R_below (rrA HO_15.out) hb)
                   have n1_ := Aside0.mk (Kd.Q_mono (Kd.Q_told (Kd.Q_told (Kd.Q_old (by (with_reducible repeat (first | apply Kd.Q_alloc | apply Kd.Q_drewN | apply Kd.Q_drew)); exact HO_274002.out) hb) (Kd.Q_base ho0)) (Kd.R_base ho1)) (fun _ h_ => h_.1))
                   have n2_ := Aside0.mk (Kd.R_mono (Kd.R_told (Kd.R_told (Kd.R_old (rrA HO_274004.out) hb) (Kd.Q_base ho0)) (Kd.R_base ho1)) (fun _ h_ => h_.1))
                   have n3_ := Aside0.mk (Kd.Q_mono (Kd.Q_told (Kd.Q_told (Kd.Q_old (by (with_reducible repeat (first | apply Kd.Q_alloc | apply Kd.Q_drewN | apply Kd.Q_drew)); exact HO_287002.out) hb) (Kd.Q_base ho0)) (Kd.R_base ho1)) (fun _ h_ => h_.1))
                   have n4_ := Aside0.mk (Kd.R_mono (Kd.R_told (Kd.R_told (Kd.R_old (rrA HO_287004.out) hb) (Kd.Q_base ho0)) (Kd.R_base ho1)) (fun _ h_ => h_.1))
                   have n5_ := Aside0.mk (Kd.Q_lower (Kd.Q_new' (Kd.Q_new' (Kd.Q_new' (Kd.Q_new' ho0 (Kd.Q_lt (by (with_reducible repeat (first | apply Kd.Q_alloc | apply Kd.Q_drewN | apply Kd.Q_drew)); exact HO_274002.out))) (Kd.R_lt (rrA HO_274004.out))) (Kd.Q_lt (by (with_reducible repeat (first | apply Kd.Q_alloc | apply Kd.Q_drewN | apply Kd.Q_drew)); exact HO_287002.out))) (Kd.R_lt (rrA HO_287004.out))) (below_size (by repeat (first | (with_reducible first | exact HB.out | apply below_alloc | apply pw_below_drewN | apply below_drew1 | refine below_set ?_ GE273.out | refine below_set ?_ GE286.out) | exact HB.out))))
                   have n6_ := Aside0.mk (Kd.R_lower (Kd.R_new' (Kd.R_new' (Kd.R_new' (Kd.R_new' ho1 (Kd.Q_lt (by (with_reducible repeat (first | apply Kd.Q_alloc | apply Kd.Q_drewN | apply Kd.Q_drew)); exact HO_274002.out))) (Kd.R_lt (rrA HO_274004.out))) (Kd.Q_lt (by (with_reducible repeat (first | apply Kd.Q_alloc | apply Kd.Q_drewN | apply Kd.Q_drew)); exact HO_287002.out))) (Kd.R_lt (rrA HO_287004.out))) (below_size (by repeat (first | (with_reducible first | exact HB.out | apply below_alloc | apply pw_below_drewN | apply below_drew1 | refine below_set ?_ GE273.out | refine below_set ?_ GE286.out) | exact HB.out))))
                   have n7_ := Aside0.mk (blk_below (g := gb273) (o := .cells #[.int .i64 x274000_5, .int .i64 x274001_5, .slice Ao98 x274002_5.length co98, .int .i64 x274003_5, .slice Ao99 x274004_5.length co99] 26 (0, 0)) (rrB BK273.out) hb)
                   have n8_ := Aside0.mk (blk_below (g := gb286) (o := .cells #[.int .i64 x287000_4, .int .i64 x287001_4, .slice Ao90 x287002_4.length co90, .int .i64 x287003_4, .slice Ao91 x287004_4.length co91] 26 (0, 0)) (rrB BK286.out) hb)
                   have n9_ := Aside0.mk (below_step (by repeat (first | (with_reducible first | exact HB.out | apply below_alloc | apply pw_below_drewN | apply below_drew1 | refine below_set ?_ GE273.out | refine below_set ?_ GE286.out) | exact HB.out)) hb)
                   clear HO_15; clear HO_274002; clear HO_274004; clear HO_287002; clear HO_287004; clear BK273; clear BK286; clear HB
                   have HO_15 := n0_
                   have HO_274002 := n1_
                   have HO_274004 := n2_
                   have HO_287002 := n3_
                   have HO_287004 := n4_
                   have HO325 := n5_
                   have HO329 := n6_
                   have BK273 := n7_
                   have BK286 := n8_
                   have HB := n9_
                   clear n0_ n1_ n2_ n3_ n4_ n5_ n6_ n7_ n8_ n9_
                   (try clear hb)
                   (try clear hb2)
                   (try clear hk)
                   (try clear hi)
                   (try clear ho0)
                   (try clear ho1)
                   obtain ⟨Ao103, co103, eo103, _⟩ := Kd.Q_slice HO325.out
                   (first | subst eo103 | (injection eo103 with f1_ f2_ f3_; have f4_ := f1_.symm; have f5_ := f3_.symm; clear f1_ f2_ f3_; subst f4_; subst f5_))
                   obtain ⟨Ao106, co106, eo106⟩ := Kd.R_slice HO329.out
                   (first | subst eo106 | (injection eo106 with f1_ f2_ f3_; have f4_ := f1_.symm; have f5_ := f3_.symm; clear f1_ f2_ f3_; subst f4_; subst f5_))
                   refine hK.out _ _ ⟨(blk_cell BK273.out 0).trans rfl, (blk_cell BK273.out 1).trans rfl, (blk_cell BK273.out 2).trans rfl, (blk_cell BK273.out 3).trans rfl, (blk_cell BK273.out 4).trans rfl, HS5_, HS6_, HS7_⟩ (fun hHeld => ?_)
                   clear hK K
                   refine norm_ (a' := ?_) ?_ ?_
                   rotate_left
                   ·
                    show Act.put _ (some 93) _ = _
                    simp only [Act.put, List.setIfInBounds_toArray, List.set_cons_zero, List.set_cons_succ, i64_w, i32_w]; rfl
                   refine pure_ (i := 6) (N := some 87) (v := ?_) (a' := ?_) #[true, true, true, true, true, true, true, false, false, false] rfl rfl (any_of HT_.out (by kernel_rfl)) (fun _ _ _ h => h) (Or.inl ⟨by rfl, ?_⟩) ?_ ?_; rotate_left
                   · intro w'; go_simp; with_reducible rfl
                   rotate_left
                   · simp only [Act.put, List.setIfInBounds_toArray, List.set_cons_zero, List.set_cons_succ, i64_w, i32_w]; rfl
                   refine pure_ (i := 7) (N := some 94) (v := ?_) (a' := ?_) #[true, true, true, true, true, true, true, true, false, false] rfl rfl (any_of HT_.out (by kernel_rfl)) (fun _ _ _ h => h) (Or.inl ⟨by rfl, ?_⟩) ?_ ?_; rotate_left
                   · intro w'; go_simp; with_reducible rfl
                   rotate_left
                   · simp only [Act.put, List.setIfInBounds_toArray, List.set_cons_zero, List.set_cons_succ, i64_w, i32_w]; rfl
                   refine pure_ (i := 8) (N := some 95) (v := ?_) (a' := ?_) #[true, true, true, true, true, true, true, true, true, false] rfl rfl (any_of HT_.out (by kernel_rfl)) (fun _ _ _ h => h) (Or.inl ⟨by rfl, ?_⟩) ?_ ?_; rotate_left
                   · intro w'; go_simp; with_reducible rfl
                   rotate_left
                   · simp only [Act.put, List.setIfInBounds_toArray, List.set_cons_zero, List.set_cons_succ, i64_w, i32_w]; rfl
                   refine last_ (i := 9) (N := none) #[true, true, true, true, true, true, true, true, true, true] rfl rfl (one_of HT_.out (by kernel_rfl)) (by decide) (fun K hK => ?_)
                   have hs101 : w100.cell? ⟨gb273, 0, none⟩ = some (.int .i64 x274000_5) := (blk_cell BK273.out 0).trans rfl
                   have hfs101 := blk_frozen BK273.out 0
                   have hns101_1 := NB286_273.out
                   have hms101_1 := NB273_286.out
                   have hs102 : w100.cell? ⟨gb273, 1, none⟩ = some (.int .i64 x274001_5) := (blk_cell BK273.out 1).trans rfl
                   have hfs102 := blk_frozen BK273.out 1
                   have hns102_1 := NB286_273.out
                   have hms102_1 := NB273_286.out
                   have hs104 : w100.cell? ⟨gb273, 2, none⟩ = some (.slice Ao98 x274002_5.length co98) := (blk_cell BK273.out 2).trans rfl
                   have hfs104 := blk_frozen BK273.out 2
                   have hns104_1 := NB286_273.out
                   have hms104_1 := NB273_286.out
                   have hs105 : w100.cell? ⟨gb273, 3, none⟩ = some (.int .i64 x274003_5) := (blk_cell BK273.out 3).trans rfl
                   have hfs105 := blk_frozen BK273.out 3
                   have hns105_1 := NB286_273.out
                   have hms105_1 := NB273_286.out
                   have hs107 : w100.cell? ⟨gb273, 4, none⟩ = some (.slice Ao99 x274004_5.length co99) := (blk_cell BK273.out 4).trans rfl
                   have hfs107 := blk_frozen BK273.out 4
                   have hns107_1 := NB286_273.out
                   have hms107_1 := NB273_286.out
                   refine skip_ (w1 := ?_) (by rfl) rfl ?_ ?_
                   rotate_left
                   · go_simp; rfl
                   refine hK.out _ _ ?_
                   clear hK K
                   refine done_ (done_of HT_.out (by kernel_rfl)) ?_
                   try go_wp2
                   go_roundg k5
                   case measure => have := HJ4.out; have := HK2.out; have := HK3.out; have := HK4.out; have := HK5.out; omega
                   case rel => exact ⟨(wrap64 (x16_5 + 1)), (t321), (t322), (t323), (t326), (t327), (.slice Ao103 t323.length co103), (.slice Ao106 t327.length co106), (by first | rfl | (simp; done) | (simp [*]; done)), H', ⟨by have := HJ4.out; have := HK2.out; have := HK3.out; have := HK4.out; have := HK5.out; omega⟩, ⟨by (with_reducible repeat (first | apply Kd.R_alloc | apply Kd.R_drewN | apply Kd.R_drew)); exact Kd.R_mono (Kd.R_far (p := ⟨gb273, 4, none⟩) (Kd.R_far (p := ⟨gb273, 3, none⟩) (Kd.R_far (p := ⟨gb273, 2, none⟩) (Kd.R_far (p := ⟨gb273, 1, none⟩) (Kd.R_far (p := ⟨gb273, 0, none⟩) (Kd.R_types HO_15.out BK273.out (by decide)) (fun _ hk => hk.2) (.int .i64 t321)) (fun _ hk => hk.2) (.int .i64 t322)) (fun _ hk => hk.2) (.slice Ao103 t323.length co103)) (fun _ hk => hk.2) (.int .i64 t326)) (fun _ hk => hk.2) (.slice Ao106 t327.length co106)) (fun _ hk => trivial)⟩, ⟨by (with_reducible repeat (first | apply Kd.Q_alloc | apply Kd.Q_drewN | apply Kd.Q_drew)); exact Kd.Q_mono (Kd.Q_far (p := ⟨gb273, 4, none⟩) (Kd.Q_far (p := ⟨gb273, 3, none⟩) (Kd.Q_far (p := ⟨gb273, 2, none⟩) (Kd.Q_far (p := ⟨gb273, 1, none⟩) (Kd.Q_far (p := ⟨gb273, 0, none⟩) (Kd.Q_types HO325.out BK273.out (by decide)) (fun _ hk => hk.2) (.int .i64 t321)) (fun _ hk => hk.2) (.int .i64 t322)) (fun _ hk => hk.2) (.slice Ao103 t323.length co103)) (fun _ hk => hk.2) (.int .i64 t326)) (fun _ hk => hk.2) (.slice Ao106 t327.length co106)) (fun _ hk => ⟨hk.1.1.1.1.1, ⟨hk.1.1.2, hk.1.2⟩⟩)⟩, ⟨by (with_reducible repeat (first | apply Kd.R_alloc | apply Kd.R_drewN | apply Kd.R_drew)); exact Kd.R_mono (Kd.R_far (p := ⟨gb273, 4, none⟩) (Kd.R_far (p := ⟨gb273, 3, none⟩) (Kd.R_far (p := ⟨gb273, 2, none⟩) (Kd.R_far (p := ⟨gb273, 1, none⟩) (Kd.R_far (p := ⟨gb273, 0, none⟩) (Kd.R_types HO329.out BK273.out (by decide)) (fun _ hk => hk.2) (.int .i64 t321)) (fun _ hk => hk.2) (.int .i64 t322)) (fun _ hk => hk.2) (.slice Ao103 t323.length co103)) (fun _ hk => hk.2) (.int .i64 t326)) (fun _ hk => hk.2) (.slice Ao106 t327.length co106)) (fun _ hk => ⟨hk.1.1.1.1.1, ⟨hk.1.1.2, hk.1.2⟩⟩)⟩, ⟨by (with_reducible repeat (first | apply Kd.Q_alloc | apply Kd.Q_drewN | apply Kd.Q_drew)); exact Kd.Q_mono (Kd.Q_far (p := ⟨gb273, 4, none⟩) (Kd.Q_far (p := ⟨gb273, 3, none⟩) (Kd.Q_far (p := ⟨gb273, 2, none⟩) (Kd.Q_far (p := ⟨gb273, 1, none⟩) (Kd.Q_far (p := ⟨gb273, 0, none⟩) (Kd.Q_types HO_287002.out BK273.out (by decide)) (fun _ hk => hk.2) (.int .i64 t321)) (fun _ hk => hk.2) (.int .i64 t322)) (fun _ hk => hk.2) (.slice Ao103 t323.length co103)) (fun _ hk => hk.2) (.int .i64 t326)) (fun _ hk => hk.2) (.slice Ao106 t327.length co106)) (fun _ hk => ⟨hk.1.1.2, ⟨hk.1.2, hk.1.1.1.2.2⟩⟩)⟩, ⟨by (with_reducible repeat (first | apply Kd.R_alloc | apply Kd.R_drewN | apply Kd.R_drew)); exact Kd.R_mono (Kd.R_far (p := ⟨gb273, 4, none⟩) (Kd.R_far (p := ⟨gb273, 3, none⟩) (Kd.R_far (p := ⟨gb273, 2, none⟩) (Kd.R_far (p := ⟨gb273, 1, none⟩) (Kd.R_far (p := ⟨gb273, 0, none⟩) (Kd.R_types HO_287004.out BK273.out (by decide)) (fun _ hk => hk.2) (.int .i64 t321)) (fun _ hk => hk.2) (.int .i64 t322)) (fun _ hk => hk.2) (.slice Ao103 t323.length co103)) (fun _ hk => hk.2) (.int .i64 t326)) (fun _ hk => hk.2) (.slice Ao106 t327.length co106)) (fun _ hk => ⟨hk.1.1.2, ⟨hk.1.2, hk.1.1.1.2.2⟩⟩)⟩, ⟨by (with_reducible repeat (first | refine blk_drewN ?_ _ | refine blk_drew ?_ | refine blk_alloc ?_ _)); refine blk_put (cs := #[.int .i64 t321, .int .i64 t322, .slice Ao103 t323.length co103, .int .i64 t326, .slice Ao99 x274004_5.length co99]) ?_ 4 _ rfl; (with_reducible repeat (first | refine blk_drewN ?_ _ | refine blk_drew ?_ | refine blk_alloc ?_ _)); refine blk_put (cs := #[.int .i64 t321, .int .i64 t322, .slice Ao103 t323.length co103, .int .i64 x274003_5, .slice Ao99 x274004_5.length co99]) ?_ 3 _ rfl; (with_reducible repeat (first | refine blk_drewN ?_ _ | refine blk_drew ?_ | refine blk_alloc ?_ _)); refine blk_put (cs := #[.int .i64 t321, .int .i64 t322, .slice Ao98 x274002_5.length co98, .int .i64 x274003_5, .slice Ao99 x274004_5.length co99]) ?_ 2 _ rfl; (with_reducible repeat (first | refine blk_drewN ?_ _ | refine blk_drew ?_ | refine blk_alloc ?_ _)); refine blk_put (cs := #[.int .i64 t321, .int .i64 x274001_5, .slice Ao98 x274002_5.length co98, .int .i64 x274003_5, .slice Ao99 x274004_5.length co99]) ?_ 1 _ rfl; (with_reducible repeat (first | refine blk_drewN ?_ _ | refine blk_drew ?_ | refine blk_alloc ?_ _)); refine blk_put (cs := #[.int .i64 x274000_5, .int .i64 x274001_5, .slice Ao98 x274002_5.length co98, .int .i64 x274003_5, .slice Ao99 x274004_5.length co99]) ?_ 0 _ rfl; (with_reducible repeat (first | refine blk_drewN ?_ _ | refine blk_drew ?_ | refine blk_alloc ?_ _)); exact BK273.out⟩, ⟨by (with_reducible repeat (first | refine blk_drewN ?_ _ | refine blk_drew ?_ | refine blk_alloc ?_ _)); refine blk_far ?_ NB286_273.out _; (with_reducible repeat (first | refine blk_drewN ?_ _ | refine blk_drew ?_ | refine blk_alloc ?_ _)); refine blk_far ?_ NB286_273.out _; (with_reducible repeat (first | refine blk_drewN ?_ _ | refine blk_drew ?_ | refine blk_alloc ?_ _)); refine blk_far ?_ NB286_273.out _; (with_reducible repeat (first | refine blk_drewN ?_ _ | refine blk_drew ?_ | refine blk_alloc ?_ _)); refine blk_far ?_ NB286_273.out _; (with_reducible repeat (first | refine blk_drewN ?_ _ | refine blk_drew ?_ | refine blk_alloc ?_ _)); refine blk_far ?_ NB286_273.out _; (with_reducible repeat (first | refine blk_drewN ?_ _ | refine blk_drew ?_ | refine blk_alloc ?_ _)); exact BK286.out⟩, ⟨by repeat (first | (with_reducible first | exact HB.out | apply below_alloc | apply pw_below_drewN | apply below_drew1 | refine below_set ?_ GE273.out | refine below_set ?_ GE286.out) | exact HB.out)⟩⟩
                  ·
                   rw [if_neg c94] at H
                   exact absurd H (by simp)
                 ·
                  rw [if_neg c93] at H
                  have c93b0 : decide (x16_5 < (t317.length : Int)) = false := decide_eq_false c93
                  clear c93
                  replace H := Option.bind_eq_some_iff.mp H
                  obtain ⟨t331, A1080, H⟩ := H
                  replace H : (if t331 = true then ((impl_EndOk.f k5 x287000_4 x287001_4 x287002_4 x287003_4 x287004_4).bind fun t332 => (if t332 = true then (laws_FnEnds.l1 k5 x6_2 (wrap64 (x11_3 + 1)) x274000_5 x274001_5 x274002_5 x274003_5 x274004_5 x287000_4 x287001_4 x287002_4 x287003_4 x287004_4) else (some false))) else (some false)) = some r := H
                  have A108 := Aside0.mk A1080
                  clear A1080
                  by_cases c109 : t331 = true
                  ·
                   subst c109
                   have H1 : ((impl_EndOk.f k5 x287000_4 x287001_4 x287002_4 x287003_4 x287004_4).bind fun t332 => (if t332 = true then (laws_FnEnds.l1 k5 x6_2 (wrap64 (x11_3 + 1)) x274000_5 x274001_5 x274002_5 x274003_5 x274004_5 x287000_4 x287001_4 x287002_4 x287003_4 x287004_4) else (some false))) = some r := by rw [if_pos rfl] at H; exact H
                   clear H; have H := H1; clear H1
                   replace H := Option.bind_eq_some_iff.mp H
                   obtain ⟨t332, A1100, H⟩ := H
                   replace H : (if t332 = true then (laws_FnEnds.l1 k5 x6_2 (wrap64 (x11_3 + 1)) x274000_5 x274001_5 x274002_5 x274003_5 x274004_5 x287000_4 x287001_4 x287002_4 x287003_4 x287004_4) else (some false)) = some r := H
                   have A110 := Aside0.mk A1100
                   clear A1100
                   by_cases c111 : t332 = true
                   ·
                    subst c111
                    have H1 : (laws_FnEnds.l1 k5 x6_2 (wrap64 (x11_3 + 1)) x274000_5 x274001_5 x274002_5 x274003_5 x274004_5 x287000_4 x287001_4 x287002_4 x287003_4 x287004_4) = some r := by rw [if_pos rfl] at H; exact H
                    clear H; have H := H1; clear H1
                    have H' := Aside0.mk H
                    clear H
                    obtain ⟨Ao112, co112, eo112⟩ := Kd.R_slice HO_15.out
                    subst eo112
                    have hnb113 := NB273_286.out
                    have hnc113 := NB286_273.out
                    have hcz114_0 : wr.cell? ⟨gb273, 0, none⟩ = some (.int .i64 x274000_5) := (blk_cell BK273.out 0).trans rfl
                    have hcz114_1 : wr.cell? ⟨gb273, 1, none⟩ = some (.int .i64 x274001_5) := (blk_cell BK273.out 1).trans rfl
                    have hcz114_2 : wr.cell? ⟨gb273, 2, none⟩ = some (u274002) := (blk_cell BK273.out 2).trans rfl
                    have hcz114_3 : wr.cell? ⟨gb273, 3, none⟩ = some (.int .i64 x274003_5) := (blk_cell BK273.out 3).trans rfl
                    have hcz114_4 : wr.cell? ⟨gb273, 4, none⟩ = some (u274004) := (blk_cell BK273.out 4).trans rfl
                    have hfz114_0 := blk_frozen BK273.out 0
                    have hfz114_1 := blk_frozen BK273.out 1
                    have hfz114_2 := blk_frozen BK273.out 2
                    have hfz114_3 := blk_frozen BK273.out 3
                    have hfz114_4 := blk_frozen BK273.out 4
                    obtain ⟨Ao115, co115, eo115, _⟩ := Kd.Q_slice HO_274002.out
                    subst eo115
                    obtain ⟨Ao116, co116, eo116⟩ := Kd.R_slice HO_274004.out
                    subst eo116
                    go_wp2_with (first | ((with_reducible refine gate_callee (f := 23) rfl ?_); refine goesL_ (some 97) rfl rfl Try.func23 (by kernel_rfl) rfl #[.agg #[.int .i64 x274000_5, .int .i64 x274001_5, .slice Ao115 x274002_5.length co115, .int .i64 x274003_5, .slice Ao116 x274004_5.length co116]] rfl (by (try simp only [List.map_toArray, List.map_cons, List.map_nil]); first | done | rfl | (simp only [List.length_drop, List.length_take]; rfl)) ?_; (with_reducible refine (impl_EndOk.calls k5 x274000_5 x274001_5 _ _ x274002_5 x274003_5 _ _ x274004_5 true _ ?side1 ?side2 ?side3 ?side4 A108.out).mono ?_); (case side1 => repeat (first | exact (Kd.Q_reads' HO_274002.out).2.2 | (with_reducible refine Kd.C_alloc ?_ _) | (with_reducible refine Kd.C_drewN ?_ _) | (with_reducible refine Kd.C_drew ?_))); (case side2 => exact (Kd.Q_reads' HO_274002.out).2.1); (case side3 => repeat (first | exact (Kd.R_reads' HO_274004.out).2.2 | (with_reducible refine Kd.C_alloc ?_ _) | (with_reducible refine Kd.C_drewN ?_ _) | (with_reducible refine Kd.C_drew ?_))); (case side4 => exact (Kd.R_reads' HO_274004.out).2.1); rintro e w117 ⟨rfl, hb⟩; refine ⟨_, rfl, ?_⟩; have n0_ := Aside0.mk (Kd.R_below (rrA HO_15.out) hb); have n1_ := Aside0.mk (Kd.Q_below (by (with_reducible repeat (first | apply Kd.Q_alloc | apply Kd.Q_drewN | apply Kd.Q_drew)); exact HO_274002.out) hb); have n2_ := Aside0.mk (Kd.R_below (rrA HO_274004.out) hb); have n3_ := Aside0.mk (Kd.Q_below (by (with_reducible repeat (first | apply Kd.Q_alloc | apply Kd.Q_drewN | apply Kd.Q_drew)); exact HO_287002.out) hb); have n4_ := Aside0.mk (Kd.R_below (rrA HO_287004.out) hb); have n5_ := Aside0.mk (blk_below (g := gb273) (o := .cells #[.int .i64 x274000_5, .int .i64 x274001_5, .slice Ao115 x274002_5.length co115, .int .i64 x274003_5, .slice Ao116 x274004_5.length co116] 26 (0, 0)) (rrB BK273.out) hb); have n6_ := Aside0.mk (blk_below (g := gb286) (o := .cells #[.int .i64 x287000_4, .int .i64 x287001_4, .slice Ao90 x287002_4.length co90, .int .i64 x287003_4, .slice Ao91 x287004_4.length co91] 26 (0, 0)) (rrB BK286.out) hb); have n7_ := Aside0.mk (below_step (by repeat (first | (with_reducible first | exact HB.out | apply below_alloc | apply pw_below_drewN | apply below_drew1 | refine below_set ?_ GE273.out | refine below_set ?_ GE286.out) | exact HB.out)) hb); clear HO_15; clear HO_274002; clear HO_274004; clear HO_287002; clear HO_287004; clear BK273; clear BK286; clear HB; have HO_15 := n0_; have HO_274002 := n1_; have HO_274004 := n2_; have HO_287002 := n3_; have HO_287004 := n4_; have BK273 := n5_; have BK286 := n6_; have HB := n7_; clear n0_ n1_ n2_ n3_ n4_ n5_ n6_ n7_; (try clear hb); (try clear hb2); (try clear hk); (try clear hi); have hcz118_0 : w117.cell? ⟨gb286, 0, none⟩ = some (.int .i64 x287000_4) := (blk_cell BK286.out 0).trans rfl; have hcz118_1 : w117.cell? ⟨gb286, 1, none⟩ = some (.int .i64 x287001_4) := (blk_cell BK286.out 1).trans rfl; have hcz118_2 : w117.cell? ⟨gb286, 2, none⟩ = some (.slice Ao90 x287002_4.length co90) := (blk_cell BK286.out 2).trans rfl; have hcz118_3 : w117.cell? ⟨gb286, 3, none⟩ = some (.int .i64 x287003_4) := (blk_cell BK286.out 3).trans rfl; have hcz118_4 : w117.cell? ⟨gb286, 4, none⟩ = some (.slice Ao91 x287004_4.length co91) := (blk_cell BK286.out 4).trans rfl; have hfz118_0 := blk_frozen BK286.out 0; have hfz118_1 := blk_frozen BK286.out 1; have hfz118_2 := blk_frozen BK286.out 2; have hfz118_3 := blk_frozen BK286.out 3; have hfz118_4 := blk_frozen BK286.out 4) | (go_at_call 23; (with_reducible refine (impl_EndOk.calls k5 x287000_4 x287001_4 _ _ x287002_4 x287003_4 _ _ x287004_4 true _ ?side1 ?side2 ?side3 ?side4 A110.out).mono ?_); (case side1 => repeat (first | exact (Kd.Q_reads' HO_287002.out).2.2 | (with_reducible refine Kd.C_alloc ?_ _) | (with_reducible refine Kd.C_drewN ?_ _) | (with_reducible refine Kd.C_drew ?_))); (case side2 => exact (Kd.Q_reads' HO_287002.out).2.1); (case side3 => repeat (first | exact (Kd.R_reads' HO_287004.out).2.2 | (with_reducible refine Kd.C_alloc ?_ _) | (with_reducible refine Kd.C_drewN ?_ _) | (with_reducible refine Kd.C_drew ?_))); (case side4 => exact (Kd.R_reads' HO_287004.out).2.1); rintro e w119 ⟨rfl, hb⟩; have n0_ := Aside0.mk (Kd.R_below (rrA HO_15.out) hb); have n1_ := Aside0.mk (Kd.Q_below (by (with_reducible repeat (first | apply Kd.Q_alloc | apply Kd.Q_drewN | apply Kd.Q_drew)); exact HO_274002.out) hb); have n2_ := Aside0.mk (Kd.R_below (rrA HO_274004.out) hb); have n3_ := Aside0.mk (Kd.Q_below (by (with_reducible repeat (first | apply Kd.Q_alloc | apply Kd.Q_drewN | apply Kd.Q_drew)); exact HO_287002.out) hb); have n4_ := Aside0.mk (Kd.R_below (rrA HO_287004.out) hb); have n5_ := Aside0.mk (blk_below (g := gb273) (o := .cells #[.int .i64 x274000_5, .int .i64 x274001_5, .slice Ao115 x274002_5.length co115, .int .i64 x274003_5, .slice Ao116 x274004_5.length co116] 26 (0, 0)) (rrB BK273.out) hb); have n6_ := Aside0.mk (blk_below (g := gb286) (o := .cells #[.int .i64 x287000_4, .int .i64 x287001_4, .slice Ao90 x287002_4.length co90, .int .i64 x287003_4, .slice Ao91 x287004_4.length co91] 26 (0, 0)) (rrB BK286.out) hb); have n7_ := Aside0.mk (below_step (by repeat (first | (with_reducible first | exact HB.out | apply below_alloc | apply pw_below_drewN | apply below_drew1 | refine below_set ?_ GE273.out | refine below_set ?_ GE286.out) | exact HB.out)) hb); clear HO_15; clear HO_274002; clear HO_274004; clear HO_287002; clear HO_287004; clear BK273; clear BK286; clear HB; have HO_15 := n0_; have HO_274002 := n1_; have HO_274004 := n2_; have HO_287002 := n3_; have HO_287004 := n4_; have BK273 := n5_; have BK286 := n6_; have HB := n7_; clear n0_ n1_ n2_ n3_ n4_ n5_ n6_ n7_; (try clear hb); (try clear hb2); (try clear hk); (try clear hi)))
                    go_roundg k5
                    case measure => have := HJ4.out; have := HK2.out; have := HK3.out; have := HK4.out; have := HK5.out; omega
                    case rel => exact ⟨(wrap64 (x11_3 + 1)), (x274000_5), (x274001_5), (x274002_5), (x274003_5), (x274004_5), (x287000_4), (x287001_4), (x287002_4), (x287003_4), (x287004_4), (.slice Ao115 x274002_5.length co115), (.slice Ao116 x274004_5.length co116), (.slice Ao90 x287002_4.length co90), (.slice Ao91 x287004_4.length co91), (by first | rfl | (simp; done) | (simp [*]; done)), H', ⟨by have := HJ4.out; have := HK2.out; have := HK3.out; have := HK4.out; have := HK5.out; omega⟩, ⟨by (with_reducible repeat (first | apply Kd.Q_alloc | apply Kd.Q_drewN | apply Kd.Q_drew)); exact HO_274002.out⟩, ⟨(rrA HO_274004.out)⟩, ⟨by (with_reducible repeat (first | apply Kd.Q_alloc | apply Kd.Q_drewN | apply Kd.Q_drew)); exact HO_287002.out⟩, ⟨(rrA HO_287004.out)⟩, ⟨(rrB BK273.out)⟩, ⟨(rrB BK286.out)⟩, ⟨by repeat (first | (with_reducible first | exact HB.out | apply below_alloc | apply pw_below_drewN | apply below_drew1 | refine below_set ?_ GE273.out | refine below_set ?_ GE286.out) | exact HB.out)⟩⟩
                   ·
                    replace c111 := Bool.eq_false_iff.mpr c111
                    subst c111
                    have H1 : (some false) = some r := by rw [if_neg (show ¬ (false = true) by decide)] at H; exact H
                    clear H; have H := H1; clear H1
                    obtain rfl := Option.some.inj H
                    obtain ⟨Ao120, co120, eo120⟩ := Kd.R_slice HO_15.out
                    subst eo120
                    have hnb121 := NB273_286.out
                    have hnc121 := NB286_273.out
                    have hcz122_0 : wr.cell? ⟨gb273, 0, none⟩ = some (.int .i64 x274000_5) := (blk_cell BK273.out 0).trans rfl
                    have hcz122_1 : wr.cell? ⟨gb273, 1, none⟩ = some (.int .i64 x274001_5) := (blk_cell BK273.out 1).trans rfl
                    have hcz122_2 : wr.cell? ⟨gb273, 2, none⟩ = some (u274002) := (blk_cell BK273.out 2).trans rfl
                    have hcz122_3 : wr.cell? ⟨gb273, 3, none⟩ = some (.int .i64 x274003_5) := (blk_cell BK273.out 3).trans rfl
                    have hcz122_4 : wr.cell? ⟨gb273, 4, none⟩ = some (u274004) := (blk_cell BK273.out 4).trans rfl
                    have hfz122_0 := blk_frozen BK273.out 0
                    have hfz122_1 := blk_frozen BK273.out 1
                    have hfz122_2 := blk_frozen BK273.out 2
                    have hfz122_3 := blk_frozen BK273.out 3
                    have hfz122_4 := blk_frozen BK273.out 4
                    obtain ⟨Ao123, co123, eo123, _⟩ := Kd.Q_slice HO_274002.out
                    subst eo123
                    obtain ⟨Ao124, co124, eo124⟩ := Kd.R_slice HO_274004.out
                    subst eo124
                    go_wp2_with (first | ((with_reducible refine gate_callee (f := 23) rfl ?_); refine goesL_ (some 97) rfl rfl Try.func23 (by kernel_rfl) rfl #[.agg #[.int .i64 x274000_5, .int .i64 x274001_5, .slice Ao123 x274002_5.length co123, .int .i64 x274003_5, .slice Ao124 x274004_5.length co124]] rfl (by (try simp only [List.map_toArray, List.map_cons, List.map_nil]); first | done | rfl | (simp only [List.length_drop, List.length_take]; rfl)) ?_; (with_reducible refine (impl_EndOk.calls k5 x274000_5 x274001_5 _ _ x274002_5 x274003_5 _ _ x274004_5 true _ ?side1 ?side2 ?side3 ?side4 A108.out).mono ?_); (case side1 => repeat (first | exact (Kd.Q_reads' HO_274002.out).2.2 | (with_reducible refine Kd.C_alloc ?_ _) | (with_reducible refine Kd.C_drewN ?_ _) | (with_reducible refine Kd.C_drew ?_))); (case side2 => exact (Kd.Q_reads' HO_274002.out).2.1); (case side3 => repeat (first | exact (Kd.R_reads' HO_274004.out).2.2 | (with_reducible refine Kd.C_alloc ?_ _) | (with_reducible refine Kd.C_drewN ?_ _) | (with_reducible refine Kd.C_drew ?_))); (case side4 => exact (Kd.R_reads' HO_274004.out).2.1); rintro e w125 ⟨rfl, hb⟩; refine ⟨_, rfl, ?_⟩; have n0_ := Aside0.mk (Kd.R_below (rrA HO_15.out) hb); have n1_ := Aside0.mk (Kd.Q_below (by (with_reducible repeat (first | apply Kd.Q_alloc | apply Kd.Q_drewN | apply Kd.Q_drew)); exact HO_274002.out) hb); have n2_ := Aside0.mk (Kd.R_below (rrA HO_274004.out) hb); have n3_ := Aside0.mk (Kd.Q_below (by (with_reducible repeat (first | apply Kd.Q_alloc | apply Kd.Q_drewN | apply Kd.Q_drew)); exact HO_287002.out) hb); have n4_ := Aside0.mk (Kd.R_below (rrA HO_287004.out) hb); have n5_ := Aside0.mk (blk_below (g := gb273) (o := .cells #[.int .i64 x274000_5, .int .i64 x274001_5, .slice Ao123 x274002_5.length co123, .int .i64 x274003_5, .slice Ao124 x274004_5.length co124] 26 (0, 0)) (rrB BK273.out) hb); have n6_ := Aside0.mk (blk_below (g := gb286) (o := .cells #[.int .i64 x287000_4, .int .i64 x287001_4, .slice Ao90 x287002_4.length co90, .int .i64 x287003_4, .slice Ao91 x287004_4.length co91] 26 (0, 0)) (rrB BK286.out) hb); have n7_ := Aside0.mk (below_step (by repeat (first | (with_reducible first | exact HB.out | apply below_alloc | apply pw_below_drewN | apply below_drew1 | refine below_set ?_ GE273.out | refine below_set ?_ GE286.out) | exact HB.out)) hb); clear HO_15; clear HO_274002; clear HO_274004; clear HO_287002; clear HO_287004; clear BK273; clear BK286; clear HB; have HO_15 := n0_; have HO_274002 := n1_; have HO_274004 := n2_; have HO_287002 := n3_; have HO_287004 := n4_; have BK273 := n5_; have BK286 := n6_; have HB := n7_; clear n0_ n1_ n2_ n3_ n4_ n5_ n6_ n7_; (try clear hb); (try clear hb2); (try clear hk); (try clear hi); have hcz126_0 : w125.cell? ⟨gb286, 0, none⟩ = some (.int .i64 x287000_4) := (blk_cell BK286.out 0).trans rfl; have hcz126_1 : w125.cell? ⟨gb286, 1, none⟩ = some (.int .i64 x287001_4) := (blk_cell BK286.out 1).trans rfl; have hcz126_2 : w125.cell? ⟨gb286, 2, none⟩ = some (.slice Ao90 x287002_4.length co90) := (blk_cell BK286.out 2).trans rfl; have hcz126_3 : w125.cell? ⟨gb286, 3, none⟩ = some (.int .i64 x287003_4) := (blk_cell BK286.out 3).trans rfl; have hcz126_4 : w125.cell? ⟨gb286, 4, none⟩ = some (.slice Ao91 x287004_4.length co91) := (blk_cell BK286.out 4).trans rfl; have hfz126_0 := blk_frozen BK286.out 0; have hfz126_1 := blk_frozen BK286.out 1; have hfz126_2 := blk_frozen BK286.out 2; have hfz126_3 := blk_frozen BK286.out 3; have hfz126_4 := blk_frozen BK286.out 4) | (go_at_call 23; (with_reducible refine (impl_EndOk.calls k5 x287000_4 x287001_4 _ _ x287002_4 x287003_4 _ _ x287004_4 false _ ?side1 ?side2 ?side3 ?side4 A110.out).mono ?_); (case side1 => repeat (first | exact (Kd.Q_reads' HO_287002.out).2.2 | (with_reducible refine Kd.C_alloc ?_ _) | (with_reducible refine Kd.C_drewN ?_ _) | (with_reducible refine Kd.C_drew ?_))); (case side2 => exact (Kd.Q_reads' HO_287002.out).2.1); (case side3 => repeat (first | exact (Kd.R_reads' HO_287004.out).2.2 | (with_reducible refine Kd.C_alloc ?_ _) | (with_reducible refine Kd.C_drewN ?_ _) | (with_reducible refine Kd.C_drew ?_))); (case side4 => exact (Kd.R_reads' HO_287004.out).2.1); rintro e w127 ⟨rfl, hb⟩; have n0_ := Aside0.mk (Kd.R_below (rrA HO_15.out) hb); have n1_ := Aside0.mk (Kd.Q_below (by (with_reducible repeat (first | apply Kd.Q_alloc | apply Kd.Q_drewN | apply Kd.Q_drew)); exact HO_274002.out) hb); have n2_ := Aside0.mk (Kd.R_below (rrA HO_274004.out) hb); have n3_ := Aside0.mk (Kd.Q_below (by (with_reducible repeat (first | apply Kd.Q_alloc | apply Kd.Q_drewN | apply Kd.Q_drew)); exact HO_287002.out) hb); have n4_ := Aside0.mk (Kd.R_below (rrA HO_287004.out) hb); have n5_ := Aside0.mk (blk_below (g := gb273) (o := .cells #[.int .i64 x274000_5, .int .i64 x274001_5, .slice Ao123 x274002_5.length co123, .int .i64 x274003_5, .slice Ao124 x274004_5.length co124] 26 (0, 0)) (rrB BK273.out) hb); have n6_ := Aside0.mk (blk_below (g := gb286) (o := .cells #[.int .i64 x287000_4, .int .i64 x287001_4, .slice Ao90 x287002_4.length co90, .int .i64 x287003_4, .slice Ao91 x287004_4.length co91] 26 (0, 0)) (rrB BK286.out) hb); have n7_ := Aside0.mk (below_step (by repeat (first | (with_reducible first | exact HB.out | apply below_alloc | apply pw_below_drewN | apply below_drew1 | refine below_set ?_ GE273.out | refine below_set ?_ GE286.out) | exact HB.out)) hb); clear HO_15; clear HO_274002; clear HO_274004; clear HO_287002; clear HO_287004; clear BK273; clear BK286; clear HB; have HO_15 := n0_; have HO_274002 := n1_; have HO_274004 := n2_; have HO_287002 := n3_; have HO_287004 := n4_; have BK273 := n5_; have BK286 := n6_; have HB := n7_; clear n0_ n1_ n2_ n3_ n4_ n5_ n6_ n7_; (try clear hb); (try clear hb2); (try clear hk); (try clear hi)))
                    go_ret
                    exact ⟨by first | rfl | (simp [errW_none, errW_some] <;> rfl) | (simp [*, errW_none, errW_some] <;> rfl), by repeat (first | (with_reducible first | exact HB.out | apply below_alloc | apply pw_below_drewN | apply below_drew1 | refine below_set ?_ GE273.out | refine below_set ?_ GE286.out) | exact HB.out)⟩
                  ·
                   replace c109 := Bool.eq_false_iff.mpr c109
                   subst c109
                   have H1 : (some false) = some r := by rw [if_neg (show ¬ (false = true) by decide)] at H; exact H
                   clear H; have H := H1; clear H1
                   obtain rfl := Option.some.inj H
                   obtain ⟨Ao128, co128, eo128⟩ := Kd.R_slice HO_15.out
                   subst eo128
                   have hnb129 := NB273_286.out
                   have hnc129 := NB286_273.out
                   have hcz130_0 : wr.cell? ⟨gb273, 0, none⟩ = some (.int .i64 x274000_5) := (blk_cell BK273.out 0).trans rfl
                   have hcz130_1 : wr.cell? ⟨gb273, 1, none⟩ = some (.int .i64 x274001_5) := (blk_cell BK273.out 1).trans rfl
                   have hcz130_2 : wr.cell? ⟨gb273, 2, none⟩ = some (u274002) := (blk_cell BK273.out 2).trans rfl
                   have hcz130_3 : wr.cell? ⟨gb273, 3, none⟩ = some (.int .i64 x274003_5) := (blk_cell BK273.out 3).trans rfl
                   have hcz130_4 : wr.cell? ⟨gb273, 4, none⟩ = some (u274004) := (blk_cell BK273.out 4).trans rfl
                   have hfz130_0 := blk_frozen BK273.out 0
                   have hfz130_1 := blk_frozen BK273.out 1
                   have hfz130_2 := blk_frozen BK273.out 2
                   have hfz130_3 := blk_frozen BK273.out 3
                   have hfz130_4 := blk_frozen BK273.out 4
                   obtain ⟨Ao131, co131, eo131, _⟩ := Kd.Q_slice HO_274002.out
                   subst eo131
                   obtain ⟨Ao132, co132, eo132⟩ := Kd.R_slice HO_274004.out
                   subst eo132
                   go_wp2_with (first | ((with_reducible refine gate_callee (f := 23) rfl ?_); refine goesL_ (some 97) rfl rfl Try.func23 (by kernel_rfl) rfl #[.agg #[.int .i64 x274000_5, .int .i64 x274001_5, .slice Ao131 x274002_5.length co131, .int .i64 x274003_5, .slice Ao132 x274004_5.length co132]] rfl (by (try simp only [List.map_toArray, List.map_cons, List.map_nil]); first | done | rfl | (simp only [List.length_drop, List.length_take]; rfl)) ?_; (with_reducible refine (impl_EndOk.calls k5 x274000_5 x274001_5 _ _ x274002_5 x274003_5 _ _ x274004_5 false _ ?side1 ?side2 ?side3 ?side4 A108.out).mono ?_); (case side1 => repeat (first | exact (Kd.Q_reads' HO_274002.out).2.2 | (with_reducible refine Kd.C_alloc ?_ _) | (with_reducible refine Kd.C_drewN ?_ _) | (with_reducible refine Kd.C_drew ?_))); (case side2 => exact (Kd.Q_reads' HO_274002.out).2.1); (case side3 => repeat (first | exact (Kd.R_reads' HO_274004.out).2.2 | (with_reducible refine Kd.C_alloc ?_ _) | (with_reducible refine Kd.C_drewN ?_ _) | (with_reducible refine Kd.C_drew ?_))); (case side4 => exact (Kd.R_reads' HO_274004.out).2.1); rintro e w133 ⟨rfl, hb⟩; refine ⟨_, rfl, ?_⟩; have n0_ := Aside0.mk (Kd.R_below (rrA HO_15.out) hb); have n1_ := Aside0.mk (Kd.Q_below (by (with_reducible repeat (first | apply Kd.Q_alloc | apply Kd.Q_drewN | apply Kd.Q_drew)); exact HO_274002.out) hb); have n2_ := Aside0.mk (Kd.R_below (rrA HO_274004.out) hb); have n3_ := Aside0.mk (Kd.Q_below (by (with_reducible repeat (first | apply Kd.Q_alloc | apply Kd.Q_drewN | apply Kd.Q_drew)); exact HO_287002.out) hb); have n4_ := Aside0.mk (Kd.R_below (rrA HO_287004.out) hb); have n5_ := Aside0.mk (blk_below (g := gb273) (o := .cells #[.int .i64 x274000_5, .int .i64 x274001_5, .slice Ao131 x274002_5.length co131, .int .i64 x274003_5, .slice Ao132 x274004_5.length co132] 26 (0, 0)) (rrB BK273.out) hb); have n6_ := Aside0.mk (blk_below (g := gb286) (o := .cells #[.int .i64 x287000_4, .int .i64 x287001_4, .slice Ao90 x287002_4.length co90, .int .i64 x287003_4, .slice Ao91 x287004_4.length co91] 26 (0, 0)) (rrB BK286.out) hb); have n7_ := Aside0.mk (below_step (by repeat (first | (with_reducible first | exact HB.out | apply below_alloc | apply pw_below_drewN | apply below_drew1 | refine below_set ?_ GE273.out | refine below_set ?_ GE286.out) | exact HB.out)) hb); clear HO_15; clear HO_274002; clear HO_274004; clear HO_287002; clear HO_287004; clear BK273; clear BK286; clear HB; have HO_15 := n0_; have HO_274002 := n1_; have HO_274004 := n2_; have HO_287002 := n3_; have HO_287004 := n4_; have BK273 := n5_; have BK286 := n6_; have HB := n7_; clear n0_ n1_ n2_ n3_ n4_ n5_ n6_ n7_; (try clear hb); (try clear hb2); (try clear hk); (try clear hi)))
                   go_ret
                   exact ⟨by first | rfl | (simp [errW_none, errW_some] <;> rfl) | (simp [*, errW_none, errW_some] <;> rfl), by repeat (first | (with_reducible first | exact HB.out | apply below_alloc | apply pw_below_drewN | apply below_drew1 | refine below_set ?_ GE273.out | refine below_set ?_ GE286.out) | exact HB.out)⟩
           ·
            rw [if_neg c55] at H
            exact absurd H (by simp)
          ·
           rw [if_neg c52] at H
           have c52b0 : decide (x11_3 < 12) = false := decide_eq_false c52
           clear c52
           by_cases c134 : (x287004_3.length : Int) = x6_2
           ·
            rw [if_pos c134] at H
            have c134b0 : ((x287004_3.length : Int) == x6_2) = true := beq_iff_eq.mpr c134
            have c134b1 : ((x287004_3.length : Int) != x6_2) = false := bne_eq_false_iff_eq.mpr c134
            clear c134
            by_cases c135 : x287003_3 = x6_2
            ·
             rw [if_pos c135] at H
             have c135b0 : (x287003_3 == x6_2) = true := beq_iff_eq.mpr c135
             have c135b1 : (x287003_3 != x6_2) = false := bne_eq_false_iff_eq.mpr c135
             clear c135
             by_cases c136 : x274001_3 = x6_2
             ·
              rw [if_pos c136] at H
              have c136b0 : (x274001_3 == x6_2) = true := beq_iff_eq.mpr c136
              have c136b1 : (x274001_3 != x6_2) = false := bne_eq_false_iff_eq.mpr c136
              clear c136
              obtain rfl := Option.some.inj H
              have hnb137 := NB286_273.out
              have hnc137 := NB273_286.out
              have hcz138_0 : wr.cell? ⟨gb286, 0, none⟩ = some (.int .i64 x287000_3) := (blk_cell BK286.out 0).trans rfl
              have hcz138_1 : wr.cell? ⟨gb286, 1, none⟩ = some (.int .i64 x287001_3) := (blk_cell BK286.out 1).trans rfl
              have hcz138_2 : wr.cell? ⟨gb286, 2, none⟩ = some (u287002) := (blk_cell BK286.out 2).trans rfl
              have hcz138_3 : wr.cell? ⟨gb286, 3, none⟩ = some (.int .i64 x287003_3) := (blk_cell BK286.out 3).trans rfl
              have hcz138_4 : wr.cell? ⟨gb286, 4, none⟩ = some (u287004) := (blk_cell BK286.out 4).trans rfl
              have hfz138_0 := blk_frozen BK286.out 0
              have hfz138_1 := blk_frozen BK286.out 1
              have hfz138_2 := blk_frozen BK286.out 2
              have hfz138_3 := blk_frozen BK286.out 3
              have hfz138_4 := blk_frozen BK286.out 4
              obtain ⟨Ao139, co139, eo139⟩ := Kd.R_slice HO_287004.out
              subst eo139
              have hcz140_0 : wr.cell? ⟨gb273, 0, none⟩ = some (.int .i64 x274000_3) := (blk_cell BK273.out 0).trans rfl
              have hcz140_1 : wr.cell? ⟨gb273, 1, none⟩ = some (.int .i64 x274001_3) := (blk_cell BK273.out 1).trans rfl
              have hcz140_2 : wr.cell? ⟨gb273, 2, none⟩ = some (u274002) := (blk_cell BK273.out 2).trans rfl
              have hcz140_3 : wr.cell? ⟨gb273, 3, none⟩ = some (.int .i64 x274003_3) := (blk_cell BK273.out 3).trans rfl
              have hcz140_4 : wr.cell? ⟨gb273, 4, none⟩ = some (u274004) := (blk_cell BK273.out 4).trans rfl
              have hfz140_0 := blk_frozen BK273.out 0
              have hfz140_1 := blk_frozen BK273.out 1
              have hfz140_2 := blk_frozen BK273.out 2
              have hfz140_3 := blk_frozen BK273.out 3
              have hfz140_4 := blk_frozen BK273.out 4
              obtain ⟨Ao141, co141, eo141, _⟩ := Kd.Q_slice HO_274002.out
              subst eo141
              go_wp2
              go_ret
              exact ⟨by first | rfl | (simp [errW_none, errW_some] <;> rfl) | (simp [*, errW_none, errW_some] <;> rfl), by repeat (first | (with_reducible first | exact HB.out | apply below_alloc | apply pw_below_drewN | apply below_drew1 | refine below_set ?_ GE273.out | refine below_set ?_ GE286.out) | exact HB.out)⟩
             ·
              rw [if_neg c136] at H
              have c136b0 : (x274001_3 == x6_2) = false := beq_eq_false_iff_ne.mpr c136
              have c136b1 : (x274001_3 != x6_2) = true := bne_iff_ne.mpr c136
              obtain rfl := Option.some.inj H
              have hnb142 := NB286_273.out
              have hnc142 := NB273_286.out
              have hcz143_0 : wr.cell? ⟨gb286, 0, none⟩ = some (.int .i64 x287000_3) := (blk_cell BK286.out 0).trans rfl
              have hcz143_1 : wr.cell? ⟨gb286, 1, none⟩ = some (.int .i64 x287001_3) := (blk_cell BK286.out 1).trans rfl
              have hcz143_2 : wr.cell? ⟨gb286, 2, none⟩ = some (u287002) := (blk_cell BK286.out 2).trans rfl
              have hcz143_3 : wr.cell? ⟨gb286, 3, none⟩ = some (.int .i64 x287003_3) := (blk_cell BK286.out 3).trans rfl
              have hcz143_4 : wr.cell? ⟨gb286, 4, none⟩ = some (u287004) := (blk_cell BK286.out 4).trans rfl
              have hfz143_0 := blk_frozen BK286.out 0
              have hfz143_1 := blk_frozen BK286.out 1
              have hfz143_2 := blk_frozen BK286.out 2
              have hfz143_3 := blk_frozen BK286.out 3
              have hfz143_4 := blk_frozen BK286.out 4
              obtain ⟨Ao144, co144, eo144⟩ := Kd.R_slice HO_287004.out
              subst eo144
              have hcz145_0 : wr.cell? ⟨gb273, 0, none⟩ = some (.int .i64 x274000_3) := (blk_cell BK273.out 0).trans rfl
              have hcz145_1 : wr.cell? ⟨gb273, 1, none⟩ = some (.int .i64 x274001_3) := (blk_cell BK273.out 1).trans rfl
              have hcz145_2 : wr.cell? ⟨gb273, 2, none⟩ = some (u274002) := (blk_cell BK273.out 2).trans rfl
              have hcz145_3 : wr.cell? ⟨gb273, 3, none⟩ = some (.int .i64 x274003_3) := (blk_cell BK273.out 3).trans rfl
              have hcz145_4 : wr.cell? ⟨gb273, 4, none⟩ = some (u274004) := (blk_cell BK273.out 4).trans rfl
              have hfz145_0 := blk_frozen BK273.out 0
              have hfz145_1 := blk_frozen BK273.out 1
              have hfz145_2 := blk_frozen BK273.out 2
              have hfz145_3 := blk_frozen BK273.out 3
              have hfz145_4 := blk_frozen BK273.out 4
              go_wp2
              go_ret
              exact ⟨by first | rfl | (simp [errW_none, errW_some] <;> rfl) | (simp [*, errW_none, errW_some] <;> rfl), by repeat (first | (with_reducible first | exact HB.out | apply below_alloc | apply pw_below_drewN | apply below_drew1 | refine below_set ?_ GE273.out | refine below_set ?_ GE286.out) | exact HB.out)⟩
            ·
             rw [if_neg c135] at H
             have c135b0 : (x287003_3 == x6_2) = false := beq_eq_false_iff_ne.mpr c135
             have c135b1 : (x287003_3 != x6_2) = true := bne_iff_ne.mpr c135
             obtain rfl := Option.some.inj H
             have hnb146 := NB286_273.out
             have hnc146 := NB273_286.out
             have hcz147_0 : wr.cell? ⟨gb286, 0, none⟩ = some (.int .i64 x287000_3) := (blk_cell BK286.out 0).trans rfl
             have hcz147_1 : wr.cell? ⟨gb286, 1, none⟩ = some (.int .i64 x287001_3) := (blk_cell BK286.out 1).trans rfl
             have hcz147_2 : wr.cell? ⟨gb286, 2, none⟩ = some (u287002) := (blk_cell BK286.out 2).trans rfl
             have hcz147_3 : wr.cell? ⟨gb286, 3, none⟩ = some (.int .i64 x287003_3) := (blk_cell BK286.out 3).trans rfl
             have hcz147_4 : wr.cell? ⟨gb286, 4, none⟩ = some (u287004) := (blk_cell BK286.out 4).trans rfl
             have hfz147_0 := blk_frozen BK286.out 0
             have hfz147_1 := blk_frozen BK286.out 1
             have hfz147_2 := blk_frozen BK286.out 2
             have hfz147_3 := blk_frozen BK286.out 3
             have hfz147_4 := blk_frozen BK286.out 4
             obtain ⟨Ao148, co148, eo148⟩ := Kd.R_slice HO_287004.out
             subst eo148
             go_wp2
             go_ret
             exact ⟨by first | rfl | (simp [errW_none, errW_some] <;> rfl) | (simp [*, errW_none, errW_some] <;> rfl), by repeat (first | (with_reducible first | exact HB.out | apply below_alloc | apply pw_below_drewN | apply below_drew1 | refine below_set ?_ GE273.out | refine below_set ?_ GE286.out) | exact HB.out)⟩
           ·
            rw [if_neg c134] at H
            have c134b0 : ((x287004_3.length : Int) == x6_2) = false := beq_eq_false_iff_ne.mpr c134
            have c134b1 : ((x287004_3.length : Int) != x6_2) = true := bne_iff_ne.mpr c134
            obtain rfl := Option.some.inj H
            have hnb149 := NB286_273.out
            have hnc149 := NB273_286.out
            have hcz150_0 : wr.cell? ⟨gb286, 0, none⟩ = some (.int .i64 x287000_3) := (blk_cell BK286.out 0).trans rfl
            have hcz150_1 : wr.cell? ⟨gb286, 1, none⟩ = some (.int .i64 x287001_3) := (blk_cell BK286.out 1).trans rfl
            have hcz150_2 : wr.cell? ⟨gb286, 2, none⟩ = some (u287002) := (blk_cell BK286.out 2).trans rfl
            have hcz150_3 : wr.cell? ⟨gb286, 3, none⟩ = some (.int .i64 x287003_3) := (blk_cell BK286.out 3).trans rfl
            have hcz150_4 : wr.cell? ⟨gb286, 4, none⟩ = some (u287004) := (blk_cell BK286.out 4).trans rfl
            have hfz150_0 := blk_frozen BK286.out 0
            have hfz150_1 := blk_frozen BK286.out 1
            have hfz150_2 := blk_frozen BK286.out 2
            have hfz150_3 := blk_frozen BK286.out 3
            have hfz150_4 := blk_frozen BK286.out 4
            obtain ⟨Ao151, co151, eo151⟩ := Kd.R_slice HO_287004.out
            subst eo151
            go_wp2
            go_ret
            exact ⟨by first | rfl | (simp [errW_none, errW_some] <;> rfl) | (simp [*, errW_none, errW_some] <;> rfl), by repeat (first | (with_reducible first | exact HB.out | apply below_alloc | apply pw_below_drewN | apply below_drew1 | refine below_set ?_ GE273.out | refine below_set ?_ GE286.out) | exact HB.out)⟩

/-- THE ONE PURE STATEMENT of laws_FnEnds: yours. -/
def laws_FnEnds.Pure : Prop := ∀ (l0 : List Int), l0.length ≤ maxLen → l0.length * 1 ≤ 140737488351232 → (∀ x ∈ l0, (Lit.int .u8 x).wf = true) → ∃ k, laws_FnEnds.f k l0 = some true
theorem laws_FnEnds.walk (P : laws_FnEnds.Pure) (a0 : Option Addr) (len0 cap0 : Nat) (z0 : List Int) (w : World) (w0 : (a0 = none ∧ len0 = 0 ∧ cap0 = 0 ∧ z0 = []) ∨ ∃ x, a0 = some x ∧ len0 ≤ cap0 ∧ cap0 ≤ maxLen ∧ z0.length = cap0 ∧ (∀ i, i < z0.length → w.cell? (x.add i) = some (.int .u8 (z0.getD i 0))) ∧ ∀ n ∈ z0, (Lit.int .u8 n).wf = true) (y0 : len0 * 1 ≤ 140737488351232) :
   Calls Try.prog 8 #[.slice a0 len0 cap0] w fun e w' => e = .returned (.bool true) ∧ Below w.heap.size w w' := by
  obtain ⟨l0, rfl, hr0, hm0, hw0, hc0⟩ := ReadsInt.ofRowC w0
  obtain ⟨k, h⟩ := P l0 hm0 y0 hw0
  refine (laws_FnEnds.calls k _ _ l0 true w (Kd.C_of_reads (d := (0 : Int)) (h1 := fun _ => rfl) hr0) hc0 h).mono ?_
  rintro e w' ⟨rfl, hd⟩
  exact ⟨rfl, hd⟩

end Go.Proofs.Ytlidnobkkgcnlaa.PFnEnds
