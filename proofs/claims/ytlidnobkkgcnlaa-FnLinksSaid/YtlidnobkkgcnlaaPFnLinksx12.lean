-- Written by a program out of the translation,for this claim.
import Derived.Test.YtlidnobkkgcnlaaPFnLinksx0
import Derived.Test.YtlidnobkkgcnlaaPFnLinksx7
import Derived.Test.YtlidnobkkgcnlaaPFnLinksx8
import Derived.Test.YtlidnobkkgcnlaaPFnLinksx9
import Derived.Test.YtlidnobkkgcnlaaPFnLinksx10
import Derived.Test.YtlidnobkkgcnlaaPFnLinksx11
namespace Go.Proofs.Ytlidnobkkgcnlaa.PFnLinks
open Go.RowKit Go.Proofs.YtlidnobkkgcnlaaW.PrintWords Go.Proofs.YtlidnobkkgcnlaaW.PrintLast Go.Proofs.YtlidnobkkgcnlaaW.PrintMore
attribute [local go_sem] max2_int min2_int max_two min_two max_three min_three max_four min_four   -- for this text's walks alone
set_option linter.unusedVariables false
set_option linter.unusedSimpArgs false
theorem rrA12 {p q : Prop} (h : p) (f : p → q := by (intro h_; (with_reducible repeat (first | apply Kd.R_alloc | apply Kd.R_drewN | apply Kd.R_drew)); exact h_)) : q := f h
open Go.Proofs.YtlidnobkkgcnlaaW.PrintWords.Aside0 renaming mk → zA
open Go.Proofs.YtlidnobkkgcnlaaW.PrintWords.Kd renaming R_far → zB
open Go.Proofs.YtlidnobkkgcnlaaW.PrintWords.Kd renaming R_mono → zC
open Go.Proofs.YtlidnobkkgcnlaaW.PrintWords.Kd renaming R_below → zD
open Go.Proofs.YtlidnobkkgcnlaaW.PrintMore.Kd renaming R_told → zE
open Go.Proofs.YtlidnobkkgcnlaaW.PrintWords.Kd renaming R_base → zF
open Go.Proofs.YtlidnobkkgcnlaaW.PrintWords.Kd renaming R_new' → zG
open Go.Proofs.YtlidnobkkgcnlaaW.PrintWords.Kd renaming R_types → zH
open Go.Proofs.YtlidnobkkgcnlaaW.PrintWords.Kd renaming R_reads' → zI
open Go.Proofs.YtlidnobkkgcnlaaW.PrintWords.Kd renaming R_alloc → zJ
open Go.Proofs.YtlidnobkkgcnlaaW.PrintWords.Kd renaming R_drewN → zK
open Go.Proofs.YtlidnobkkgcnlaaW.PrintWords.Kd renaming R_drew → zL
open Go.Proofs.YtlidnobkkgcnlaaW.PrintWords renaming blk_drewN → zM
open Go.Proofs.YtlidnobkkgcnlaaW.PrintWords renaming blk_alloc → zN
open Go.Proofs.YtlidnobkkgcnlaaW.PrintWords renaming blk_drew → zO
open Go.Proofs.YtlidnobkkgcnlaaW.PrintWords renaming blk_below → zP
open Go.Proofs.YtlidnobkkgcnlaaW.PrintWords renaming blk_cell → zQ
open Go.Proofs.YtlidnobkkgcnlaaW.PrintWords renaming below_step → zR

/-! ### spec_Talk: function 35 -/
mutual
def spec_Talk.l0 : Nat → List ByteArray → List Int → Int → Int → Int → List ByteArray → Int → List ByteArray → Int → Int → Int → Option (List ByteArray × Bool)
  | 0,_,_,_,_,_,_,_,_,_,_,_ => none
  | k + 1,x0,x1,x8,x283000,x283001,x283002,x283003,x283004,x284000,x284001,x284003 => if x8 < (x0.length : Int) then (if 0 ≤ x8 then ((spec_Offer.f k x283000 x283001 x283002 x283003 x283004 (rdOf ByteArray.empty x0 x8)).bind fun bt285 => (spec_Talk.l0 k x0 x1 (wrap64 (x8 + 1)) bt285.1 bt285.2.1 bt285.2.2.1 bt285.2.2.2.1 bt285.2.2.2.2.1 x284000 x284001 x284003)) else (none)) else (spec_Talk.l1 k x0 x1 (([] : List (S36))) (([] : List (S36))) 0 x283000 x283001 x283002 x283003 x283004 x284000 x284001 ([] : List ByteArray) x284003 ([] : List ByteArray))
def spec_Talk.l1 : Nat → List ByteArray → List Int → List (S36) → List (S36) → Int → Int → Int → List ByteArray → Int → List ByteArray → Int → Int → List ByteArray → Int → List ByteArray → Option (List ByteArray × Bool)
  | 0,_,_,_,_,_,_,_,_,_,_,_,_,_,_,_ => none
  | k + 1,x0,x1,x9,x10,x11,x283000,x283001,x283002,x283003,x283004,x284000,x284001,x284002,x284003,x284004 => if x11 < (x1.length : Int) then (if 0 ≤ x11 then (if (Int.tmod (rd x1 x11) 4) = 0 then ((spec_SendNew.f k x283000 x283001 x283002 x283003 x283004).bind fun bt303 => (if x9.length + bt303.2.2.2.2.2.length < 4398046511104 then (spec_Talk.l1 k x0 x1 (x9 ++ bt303.2.2.2.2.2) x10 (wrap64 (x11 + 1)) bt303.1 bt303.2.1 bt303.2.2.1 bt303.2.2.2.1 bt303.2.2.2.2.1 x284000 x284001 x284002 x284003 x284004) else (none))) else (if (Int.tmod (rd x1 x11) 4) = 1 then ((spec_SendAgain.f k x283000 x283001 x283002 x283003 x283004).bind fun t319 => (if x9.length + t319.length < 4398046511104 then (spec_Talk.l1 k x0 x1 (x9 ++ t319) x10 (wrap64 (x11 + 1)) x283000 x283001 x283002 x283003 x283004 x284000 x284001 x284002 x284003 x284004) else (none))) else (if (Int.tmod (rd x1 x11) 4) = 2 then (if (x9.length : Int) > 0 then (if ((Int.tmod (wrap64 (Int.tdiv (rd x1 x11) 4)) 2) = 1) then ((some (([] : List (S36)) : List (S36))).bind fun y325 => (if 1 ≤ (x9.length : Int) then ((some (x9.drop 1 : List (S36))).bind fun y328 => (if y325.length + y328.length < 4398046511104 then (spec_Talk.l1 k x0 x1 (y325 ++ y328) x10 (wrap64 (x11 + 1)) x283000 x283001 x283002 x283003 x283004 x284000 x284001 x284002 x284003 x284004) else (none))) else (none))) else (if 0 < (x9.length : Int) then ((spec_Receive.f k x284000 x284001 x284002 x284003 x284004 ((rd_T36 x9 0).f0) ((rd_T36 x9 0).f1) ((rd_T36 x9 0).f2)).bind fun bt336 => ((spec_SendAgain.f k bt336.1 bt336.2.1 bt336.2.2.1 bt336.2.2.2.1 bt336.2.2.2.2.1).bind fun t346 => (if x10.length + t346.length < 4398046511104 then ((some (([] : List (S36)) : List (S36))).bind fun y352 => (if 1 ≤ (x9.length : Int) then ((some (x9.drop 1 : List (S36))).bind fun y355 => (if y352.length + y355.length < 4398046511104 then (spec_Talk.l1 k x0 x1 (y352 ++ y355) (x10 ++ t346) (wrap64 (x11 + 1)) x283000 x283001 x283002 x283003 x283004 bt336.1 bt336.2.1 bt336.2.2.1 bt336.2.2.2.1 bt336.2.2.2.2.1) else (none))) else (none))) else (none)))) else (none))) else (spec_Talk.l1 k x0 x1 x9 x10 (wrap64 (x11 + 1)) x283000 x283001 x283002 x283003 x283004 x284000 x284001 x284002 x284003 x284004)) else (if (x10.length : Int) > 0 then (if ((Int.tmod (wrap64 (Int.tdiv (rd x1 x11) 4)) 2) = 1) then ((some (([] : List (S36)) : List (S36))).bind fun y362 => (if 1 ≤ (x10.length : Int) then ((some (x10.drop 1 : List (S36))).bind fun y365 => (if y362.length + y365.length < 4398046511104 then (spec_Talk.l1 k x0 x1 x9 (y362 ++ y365) (wrap64 (x11 + 1)) x283000 x283001 x283002 x283003 x283004 x284000 x284001 x284002 x284003 x284004) else (none))) else (none))) else (if 0 < (x10.length : Int) then ((spec_Receive.f k x283000 x283001 x283002 x283003 x283004 ((rd_T36 x10 0).f0) ((rd_T36 x10 0).f1) ((rd_T36 x10 0).f2)).bind fun bt373 => ((some (([] : List (S36)) : List (S36))).bind fun y383 => (if 1 ≤ (x10.length : Int) then ((some (x10.drop 1 : List (S36))).bind fun y386 => (if y383.length + y386.length < 4398046511104 then (spec_Talk.l1 k x0 x1 x9 (y383 ++ y386) (wrap64 (x11 + 1)) bt373.1 bt373.2.1 bt373.2.2.1 bt373.2.2.2.1 bt373.2.2.2.2.1 x284000 x284001 x284002 x284003 x284004) else (none))) else (none)))) else (none))) else (spec_Talk.l1 k x0 x1 x9 x10 (wrap64 (x11 + 1)) x283000 x283001 x283002 x283003 x283004 x284000 x284001 x284002 x284003 x284004))))) else (none)) else (spec_Talk.l2 k x0 (decide ((x284004.length : Int) ≤ (x0.length : Int))) 0 x284000 x284001 x284002 x284003 x284004)
def spec_Talk.l2 : Nat → List ByteArray → Bool → Int → Int → Int → List ByteArray → Int → List ByteArray → Option (List ByteArray × Bool)
  | 0,_,_,_,_,_,_,_,_ => none
  | k + 1,x0,x15,x16,x284000,x284001,x284002,x284003,x284004 => if x16 < (x284004.length : Int) then (if x15 = true then (if 0 ≤ x16 then (if x16 < (x0.length : Int) then (spec_Talk.l2 k x0 ((rdOf ByteArray.empty x284004 x16).toList == (rdOf ByteArray.empty x0 x16).toList) (wrap64 (x16 + 1)) x284000 x284001 x284002 x284003 x284004) else (none)) else (none)) else ((some (([] : List ByteArray) : List ByteArray)).bind fun y395 => (if y395.length + x284004.length < 8796093022208 then (some ((y395 ++ x284004),x15)) else (none)))) else ((some (([] : List ByteArray) : List ByteArray)).bind fun y401 => (if y401.length + x284004.length < 8796093022208 then (some ((y401 ++ x284004),x15)) else (none)))
end
def spec_Talk.f (k : Nat) (l0 : List ByteArray) (l1 : List Int) : Option (List ByteArray × Bool) := (spec_l06TalkOk.f k l0 l1).bind fun t278 => (if t278 = true then (spec_Talk.l0 k l0 l1 0 0 0 ([] : List ByteArray) 0 ([] : List ByteArray) 0 0 0) else (some ((([] : List ByteArray)),false)))
theorem spec_Talk.mono_l : ∀ k,(∀ y0 y1 y2 y3 y4 y5 y6 y7 y8 y9 y10,LeO (spec_Talk.l0 k y0 y1 y2 y3 y4 y5 y6 y7 y8 y9 y10) (spec_Talk.l0 (k + 1) y0 y1 y2 y3 y4 y5 y6 y7 y8 y9 y10)) ∧ (∀ y0 y1 y2 y3 y4 y5 y6 y7 y8 y9 y10 y11 y12 y13 y14,LeO (spec_Talk.l1 k y0 y1 y2 y3 y4 y5 y6 y7 y8 y9 y10 y11 y12 y13 y14) (spec_Talk.l1 (k + 1) y0 y1 y2 y3 y4 y5 y6 y7 y8 y9 y10 y11 y12 y13 y14)) ∧ (∀ y0 y1 y2 y3 y4 y5 y6 y7,LeO (spec_Talk.l2 k y0 y1 y2 y3 y4 y5 y6 y7) (spec_Talk.l2 (k + 1) y0 y1 y2 y3 y4 y5 y6 y7))
  | 0 => ⟨fun _ _ _ _ _ _ _ _ _ _ _ r h => by simp [spec_Talk.l0] at h,fun _ _ _ _ _ _ _ _ _ _ _ _ _ _ _ r h => by simp [spec_Talk.l1] at h,fun _ _ _ _ _ _ _ _ r h => by simp [spec_Talk.l2] at h⟩
  | k + 1 => by
   obtain ⟨ih0,ih1,ih2⟩ := spec_Talk.mono_l k
   refine ⟨?_,?_,?_⟩
   ·
    intro y0 y1 y2 y3 y4 y5 y6 y7 y8 y9 y10
    unfold spec_Talk.l0
    repeat' first
   |(with_reducible exact ih0 _ _ _ _ _ _ _ _ _ _ _)
   |(with_reducible exact ih1 _ _ _ _ _ _ _ _ _ _ _ _ _ _ _)
   |(with_reducible exact ih2 _ _ _ _ _ _ _ _)
   |(with_reducible exact spec_Offer.mono _ _ _ _ _ _ _)
   |(with_reducible exact spec_Receive.mono _ _ _ _ _ _ _ _ _)
   |(with_reducible exact spec_SendAgain.mono _ _ _ _ _ _)
   |(with_reducible exact spec_SendNew.mono _ _ _ _ _ _)
   |(with_reducible exact spec_l06TalkOk.mono _ _ _)
   |(with_reducible exact LeO.refl _)
   |(with_reducible exact LeO.none _)
   |(with_reducible refine LeO.ite ?_ ?_)
   |(with_reducible refine LeO.bind ?_ (fun _ => ?_))
   |exact ih0 _ _ _ _ _ _ _ _ _ _ _
   |exact ih1 _ _ _ _ _ _ _ _ _ _ _ _ _ _ _
   |exact ih2 _ _ _ _ _ _ _ _
   |exact spec_Offer.mono _ _ _ _ _ _ _
   |exact spec_Receive.mono _ _ _ _ _ _ _ _ _
   |exact spec_SendAgain.mono _ _ _ _ _ _
   |exact spec_SendNew.mono _ _ _ _ _ _
   |exact spec_l06TalkOk.mono _ _ _
   |exact LeO.none _
   |refine LeO.ite ?_ ?_
   |refine LeO.bind ?_ (fun _ => ?_)
   ·
    intro y0 y1 y2 y3 y4 y5 y6 y7 y8 y9 y10 y11 y12 y13 y14
    unfold spec_Talk.l1
    repeat' first
   |(with_reducible exact ih0 _ _ _ _ _ _ _ _ _ _ _)
   |(with_reducible exact ih1 _ _ _ _ _ _ _ _ _ _ _ _ _ _ _)
   |(with_reducible exact ih2 _ _ _ _ _ _ _ _)
   |(with_reducible exact spec_Offer.mono _ _ _ _ _ _ _)
   |(with_reducible exact spec_Receive.mono _ _ _ _ _ _ _ _ _)
   |(with_reducible exact spec_SendAgain.mono _ _ _ _ _ _)
   |(with_reducible exact spec_SendNew.mono _ _ _ _ _ _)
   |(with_reducible exact spec_l06TalkOk.mono _ _ _)
   |(with_reducible exact LeO.refl _)
   |(with_reducible exact LeO.none _)
   |(with_reducible refine LeO.ite ?_ ?_)
   |(with_reducible refine LeO.bind ?_ (fun _ => ?_))
   |exact ih0 _ _ _ _ _ _ _ _ _ _ _
   |exact ih1 _ _ _ _ _ _ _ _ _ _ _ _ _ _ _
   |exact ih2 _ _ _ _ _ _ _ _
   |exact spec_Offer.mono _ _ _ _ _ _ _
   |exact spec_Receive.mono _ _ _ _ _ _ _ _ _
   |exact spec_SendAgain.mono _ _ _ _ _ _
   |exact spec_SendNew.mono _ _ _ _ _ _
   |exact spec_l06TalkOk.mono _ _ _
   |exact LeO.none _
   |refine LeO.ite ?_ ?_
   |refine LeO.bind ?_ (fun _ => ?_)
   ·
    intro y0 y1 y2 y3 y4 y5 y6 y7
    unfold spec_Talk.l2
    repeat' first
   |(with_reducible exact ih0 _ _ _ _ _ _ _ _ _ _ _)
   |(with_reducible exact ih1 _ _ _ _ _ _ _ _ _ _ _ _ _ _ _)
   |(with_reducible exact ih2 _ _ _ _ _ _ _ _)
   |(with_reducible exact spec_Offer.mono _ _ _ _ _ _ _)
   |(with_reducible exact spec_Receive.mono _ _ _ _ _ _ _ _ _)
   |(with_reducible exact spec_SendAgain.mono _ _ _ _ _ _)
   |(with_reducible exact spec_SendNew.mono _ _ _ _ _ _)
   |(with_reducible exact spec_l06TalkOk.mono _ _ _)
   |(with_reducible exact LeO.refl _)
   |(with_reducible exact LeO.none _)
   |(with_reducible refine LeO.ite ?_ ?_)
   |(with_reducible refine LeO.bind ?_ (fun _ => ?_))
   |exact ih0 _ _ _ _ _ _ _ _ _ _ _
   |exact ih1 _ _ _ _ _ _ _ _ _ _ _ _ _ _ _
   |exact ih2 _ _ _ _ _ _ _ _
   |exact spec_Offer.mono _ _ _ _ _ _ _
   |exact spec_Receive.mono _ _ _ _ _ _ _ _ _
   |exact spec_SendAgain.mono _ _ _ _ _ _
   |exact spec_SendNew.mono _ _ _ _ _ _
   |exact spec_l06TalkOk.mono _ _ _
   |exact LeO.none _
   |refine LeO.ite ?_ ?_
   |refine LeO.bind ?_ (fun _ => ?_)
theorem spec_Talk.mono : ∀ a0 a1 k,LeO (spec_Talk.f k a0 a1) (spec_Talk.f (k + 1) a0 a1) := by
  intro a0 a1 k
  obtain ⟨ih0,ih1,ih2⟩ := spec_Talk.mono_l k
  unfold spec_Talk.f
  repeat' first
   |(with_reducible exact ih0 _ _ _ _ _ _ _ _ _ _ _)
   |(with_reducible exact ih1 _ _ _ _ _ _ _ _ _ _ _ _ _ _ _)
   |(with_reducible exact ih2 _ _ _ _ _ _ _ _)
   |(with_reducible exact spec_Offer.mono _ _ _ _ _ _ _)
   |(with_reducible exact spec_Receive.mono _ _ _ _ _ _ _ _ _)
   |(with_reducible exact spec_SendAgain.mono _ _ _ _ _ _)
   |(with_reducible exact spec_SendNew.mono _ _ _ _ _ _)
   |(with_reducible exact spec_l06TalkOk.mono _ _ _)
   |(with_reducible exact LeO.refl _)
   |(with_reducible exact LeO.none _)
   |(with_reducible refine LeO.ite ?_ ?_)
   |(with_reducible refine LeO.bind ?_ (fun _ => ?_))
   |exact ih0 _ _ _ _ _ _ _ _ _ _ _
   |exact ih1 _ _ _ _ _ _ _ _ _ _ _ _ _ _ _
   |exact ih2 _ _ _ _ _ _ _ _
   |exact spec_Offer.mono _ _ _ _ _ _ _
   |exact spec_Receive.mono _ _ _ _ _ _ _ _ _
   |exact spec_SendAgain.mono _ _ _ _ _ _
   |exact spec_SendNew.mono _ _ _ _ _ _
   |exact spec_l06TalkOk.mono _ _ _
   |exact LeO.none _
   |refine LeO.ite ?_ ?_
   |refine LeO.bind ?_ (fun _ => ?_)
def spec_Talk.T8 : Bool × List (List Nat × List Nat) := (true,[([],[]),([],[]),([],[]),([1,2],[1,2]),([3],[3]),([0,4],[0,4]),([5],[5]),([6],[6]),([6],[6]),([7,5,0,1,2,3,4,5,6,7],[7])])
def spec_Talk.B8 : List Nat := [0,0,0,6,14,31,63,127,127,255]
theorem spec_Talk.tab8 : rtab .any (opsOf Try.f35 8) = spec_Talk.T8 := by kernel_rfl
theorem spec_Talk.bits8 : waitsOk spec_Talk.T8.2 spec_Talk.B8 = true := by kernel_rfl
def spec_Talk.T18 : Bool × List (List Nat × List Nat) := (true,[([],[]),([],[]),([1],[1]),([2],[2]),([0,3],[0,3]),([4],[4]),([5],[5]),([5],[5]),([6,4,0,1,2,3,4,5,6],[6])])
def spec_Talk.B18 : List Nat := [0,0,2,6,15,31,63,63,127]
theorem spec_Talk.tab18 : rtab .any (opsOf Try.f35 18) = spec_Talk.T18 := by kernel_rfl
theorem spec_Talk.bits18 : waitsOk spec_Talk.T18.2 spec_Talk.B18 = true := by kernel_rfl
def spec_Talk.T29 : Bool × List (List Nat × List Nat) := (true,[([],[]),([],[]),([1],[1]),([2],[2]),([0,3],[0,3]),([4],[4]),([5],[5]),([5],[5]),([6,4,0,1,2,3,4,5,6],[6])])
def spec_Talk.B29 : List Nat := [0,0,2,6,15,31,63,63,127]
theorem spec_Talk.tab29 : rtab .any (opsOf Try.f35 29) = spec_Talk.T29 := by kernel_rfl
theorem spec_Talk.bits29 : waitsOk spec_Talk.T29.2 spec_Talk.B29 = true := by kernel_rfl
def spec_Talk.T36 : Bool × List (List Nat × List Nat) := (true,[([],[]),([0],[0]),([],[]),([1,2],[1,2]),([3],[3]),([],[]),([],[]),([5,6],[5,6]),([7],[7]),([4,8],[4,8]),([9,0,1,2,3,4,5,6,7,8,9],[9])])
def spec_Talk.B36 : List Nat := [0,1,0,7,15,0,0,96,224,511,1023]
theorem spec_Talk.tab36 : rtab .any (opsOf Try.f35 36) = spec_Talk.T36 := by kernel_rfl
theorem spec_Talk.bits36 : waitsOk spec_Talk.T36.2 spec_Talk.B36 = true := by kernel_rfl
set_option maxHeartbeats 8000000 in
set_option maxRecDepth 100000 in
theorem spec_Talk.calls (k : Nat) (A0 : Option Addr) (c0 : Nat) (l0 : List ByteArray) (A1 : Option Addr) (c1 : Nat) (l1 : List Int) (r1 : List ByteArray) (r2 : Bool) (w : World) (hr0 : Kd.C Kd.string w A0 l0.length l0) (hc0 : l0.length ≤ c0) (hr1 : Kd.C (Kd.int .i64) w A1 l1.length l1) (hc1 : l1.length ≤ c1) (h : spec_Talk.f k l0 l1 = some (r1,r2)) :
   Calls Try.prog 35 #[.slice A0 l0.length c0,.slice A1 l1.length c1] w fun e w' => ∃ v0_ : Value,e = .returned (.tuple #[v0_,.bool r2]) ∧ Kd.R Kd.string 9 w' w.heap.size (fun _ => True) v0_ r1 ∧ Below w.heap.size w w' := by
  have hu26 := Try.underlying26
  have hu36 := Try.underlying36
  have HR0 := zA hr0
  have HC0 := zA hc0
  clear hr0 hc0
  have HR1 := zA hr1
  have HC1 := zA hc1
  clear hr1 hc1
  have HB := zA (Below.refl w.heap.size w)
  have H : ((spec_l06TalkOk.f k l0 l1).bind fun t278 => (if t278 = true then (spec_Talk.l0 k l0 l1 0 0 0 ([] : List ByteArray) 0 ([] : List ByteArray) 0 0 0) else (some ((([] : List ByteArray)),false)))) = some (r1,r2) := h
  clear h
  replace H := Option.bind_eq_some_iff.mp H
  obtain ⟨t278,A30,H⟩ := H
  replace H : (if t278 = true then (spec_Talk.l0 k l0 l1 0 0 0 ([] : List ByteArray) 0 ([] : List ByteArray) 0 0 0) else (some ((([] : List ByteArray)),false))) = some (r1,r2) := H
  have A3 := zA A30
  clear A30
  by_cases c4 : t278 = true
  ·
   subst c4
   have H1 : (spec_Talk.l0 k l0 l1 0 0 0 ([] : List ByteArray) 0 ([] : List ByteArray) 0 0 0) = some (r1,r2) := by rw [if_pos rfl] at H; exact H
   clear H; have H := H1; clear H1
   have H' := zA H
   clear H
   go_enter Try.func35,Try.ntmps35
   go_wp2_with (first | ((with_reducible refine gate_callee (f := 59) rfl ?_); refine goesL_ (some 19) rfl rfl Try.func59 (by kernel_rfl) rfl #[.slice A0 l0.length c0,.slice A1 l1.length c1] rfl (by (try simp only [List.map_toArray,List.map_cons,List.map_nil]); first | done|rfl|(simp only [List.length_drop,List.length_take]; rfl)) ?_; (with_reducible refine (spec_l06TalkOk.calls k _ _ l0 _ _ l1 true _ ?side1 ?side2 ?side3 ?side4 A3.out).mono ?_); (case side1 => repeat (first|exact HR0.out|(with_reducible refine Kd.C_alloc ?_ _)|(with_reducible refine Kd.C_drewN ?_ _)|(with_reducible refine Kd.C_drew ?_))); (case side2 => exact HC0.out); (case side3 => repeat (first|exact HR1.out|(with_reducible refine Kd.C_alloc ?_ _)|(with_reducible refine Kd.C_drewN ?_ _)|(with_reducible refine Kd.C_drew ?_))); (case side4 => exact HC1.out); rintro e w' ⟨rfl,⟨nd,rfl⟩⟩; refine ⟨_,rfl,?_⟩) | ((with_reducible refine gate_dst (N := 6) rfl ?_); refine box_event ?hg (N := 6) ?hd (cs := #[.int .i64 0,.int .i64 0,.slice none 0 0,.int .i64 0,.slice none 0 0]) (t := 26) ?hr ?_; (case hd => rfl); (case hg => rfl); (case hr => first | (go_simp; done) | (go_simp; rfl)); intro gb282 hg w5 hbox hb; have n0_ := zA (zR (bT HB) hb); have n1_ := zA (hbox); have n2_ := zA ((by rw [hg]; exact (below_size (bT HB)) : w.heap.size ≤ gb282)); have n3_ := zA ((by rw [hg]; exact (below_size (bT HB)) : w.heap.size ≤ gb282)); clear HB; have HB := n0_; have BK282 := n1_; have GW282 := n2_; have GE282 := n3_; clear n0_ n1_ n2_ n3_ hb hbox hg; obtain ⟨_,_,_,_,_,_,_,_,_,_⟩ := cz5 BK282.out) | ((with_reducible refine gate_dst (N := 7) rfl ?_); refine box_event ?hg (N := 7) ?hd (cs := #[.int .i64 0,.int .i64 0,.slice none 0 0,.int .i64 0,.slice none 0 0]) (t := 26) ?hr ?_; (case hd => rfl); (case hg => rfl); (case hr => first | (go_simp; done) | (go_simp; rfl)); intro gb283 hg w7 hbox hb; have n0_ := zA (zP (g := gb282) (o := .cells #[.int .i64 0,.int .i64 0,.slice none 0 0,.int .i64 0,.slice none 0 0] 26 (0,0)) (by (with_reducible repeat (first|refine zM ?_ _|refine zO ?_|refine zN ?_ _)); refine blk_put (cs := #[.int .i64 0,.int .i64 0,.slice none 0 0,.int .i64 0,.slice none 0 0]) ?_ 4 _ rfl; (with_reducible repeat (first|refine zM ?_ _|refine zO ?_|refine zN ?_ _)); refine blk_put (cs := #[.int .i64 0,.int .i64 0,.slice none 0 0,.int .i64 0,.slice none 0 0]) ?_ 3 _ rfl; (with_reducible repeat (first|refine zM ?_ _|refine zO ?_|refine zN ?_ _)); refine blk_put (cs := #[.int .i64 0,.int .i64 0,.slice none 0 0,.int .i64 0,.slice none 0 0]) ?_ 2 _ rfl; (with_reducible repeat (first|refine zM ?_ _|refine zO ?_|refine zN ?_ _)); refine blk_put (cs := #[.int .i64 0,.int .i64 0,.slice none 0 0,.int .i64 0,.slice none 0 0]) ?_ 1 _ rfl; (with_reducible repeat (first|refine zM ?_ _|refine zO ?_|refine zN ?_ _)); refine blk_put (cs := #[.int .i64 0,.int .i64 0,.slice none 0 0,.int .i64 0,.slice none 0 0]) ?_ 0 _ rfl; (with_reducible repeat (first|refine zM ?_ _|refine zO ?_|refine zN ?_ _)); exact BK282.out) hb); have n1_ := zA (zR (bT HB) hb); have n2_ := zA (hbox); have n3_ := zA ((by rw [hg]; exact (below_size (bT HB)) : w.heap.size ≤ gb283)); have n4_ := zA ((by rw [hg]; exact (below_size (bT HB)) : w.heap.size ≤ gb283)); have n5_ := zA ((by rw [hg]; exact Nat.ne_of_lt (blk_lt (g := gb282) (o := .cells #[.int .i64 0,.int .i64 0,.slice none 0 0,.int .i64 0,.slice none 0 0] 26 (0,0)) (by (with_reducible repeat (first|refine zM ?_ _|refine zO ?_|refine zN ?_ _)); refine blk_put (cs := #[.int .i64 0,.int .i64 0,.slice none 0 0,.int .i64 0,.slice none 0 0]) ?_ 4 _ rfl; (with_reducible repeat (first|refine zM ?_ _|refine zO ?_|refine zN ?_ _)); refine blk_put (cs := #[.int .i64 0,.int .i64 0,.slice none 0 0,.int .i64 0,.slice none 0 0]) ?_ 3 _ rfl; (with_reducible repeat (first|refine zM ?_ _|refine zO ?_|refine zN ?_ _)); refine blk_put (cs := #[.int .i64 0,.int .i64 0,.slice none 0 0,.int .i64 0,.slice none 0 0]) ?_ 2 _ rfl; (with_reducible repeat (first|refine zM ?_ _|refine zO ?_|refine zN ?_ _)); refine blk_put (cs := #[.int .i64 0,.int .i64 0,.slice none 0 0,.int .i64 0,.slice none 0 0]) ?_ 1 _ rfl; (with_reducible repeat (first|refine zM ?_ _|refine zO ?_|refine zN ?_ _)); refine blk_put (cs := #[.int .i64 0,.int .i64 0,.slice none 0 0,.int .i64 0,.slice none 0 0]) ?_ 0 _ rfl; (with_reducible repeat (first|refine zM ?_ _|refine zO ?_|refine zN ?_ _)); exact BK282.out)) : gb282 ≠ gb283)); have n6_ := zA ((by rw [hg]; exact Nat.ne_of_gt (blk_lt (g := gb282) (o := .cells #[.int .i64 0,.int .i64 0,.slice none 0 0,.int .i64 0,.slice none 0 0] 26 (0,0)) (by (with_reducible repeat (first|refine zM ?_ _|refine zO ?_|refine zN ?_ _)); refine blk_put (cs := #[.int .i64 0,.int .i64 0,.slice none 0 0,.int .i64 0,.slice none 0 0]) ?_ 4 _ rfl; (with_reducible repeat (first|refine zM ?_ _|refine zO ?_|refine zN ?_ _)); refine blk_put (cs := #[.int .i64 0,.int .i64 0,.slice none 0 0,.int .i64 0,.slice none 0 0]) ?_ 3 _ rfl; (with_reducible repeat (first|refine zM ?_ _|refine zO ?_|refine zN ?_ _)); refine blk_put (cs := #[.int .i64 0,.int .i64 0,.slice none 0 0,.int .i64 0,.slice none 0 0]) ?_ 2 _ rfl; (with_reducible repeat (first|refine zM ?_ _|refine zO ?_|refine zN ?_ _)); refine blk_put (cs := #[.int .i64 0,.int .i64 0,.slice none 0 0,.int .i64 0,.slice none 0 0]) ?_ 1 _ rfl; (with_reducible repeat (first|refine zM ?_ _|refine zO ?_|refine zN ?_ _)); refine blk_put (cs := #[.int .i64 0,.int .i64 0,.slice none 0 0,.int .i64 0,.slice none 0 0]) ?_ 0 _ rfl; (with_reducible repeat (first|refine zM ?_ _|refine zO ?_|refine zN ?_ _)); exact BK282.out)) : gb283 ≠ gb282)); clear BK282 HB; have BK282 := n0_; have HB := n1_; have BK283 := n2_; have GW283 := n3_; have GE283 := n4_; have NB282_283 := n5_; have NB283_282 := n6_; clear n0_ n1_ n2_ n3_ n4_ n5_ n6_ hb hbox hg; have hnb8 := NB283_282.out; have hnc8 := NB282_283.out; obtain ⟨_,_,_,_,_,_,_,_,_,_⟩ := cz5 BK283.out))
   go_loopg [8] k (fun kq v8 w' => ∃ (x8_1 : Int) (x283000_1 : Int) (x283001_1 : Int) (x283002_1 : List ByteArray) (x283003_1 : Int) (x283004_1 : List ByteArray) (u283002 : Value) (u283004 : Value),v8 = .int .i64 x8_1 ∧ Aside0 (spec_Talk.l0 kq l0 l1 x8_1 x283000_1 x283001_1 x283002_1 x283003_1 x283004_1 0 0 0 = some (r1,r2)) ∧ Aside0 (kq ≤ k) ∧ Aside0 (Kd.R Kd.string 9 w' w.heap.size (fun k_ => some k_ ≠ (u283004 : Value).ownBlock) u283002 x283002_1) ∧ Aside0 (Kd.R Kd.string 9 w' w.heap.size (fun k_ => some k_ ≠ (u283002 : Value).ownBlock) u283004 x283004_1) ∧ Aside0 (w'.heap[gb282]? = some (.cells #[.int .i64 x283000_1,.int .i64 x283001_1,u283002,.int .i64 x283003_1,u283004] 26 (0,0))) ∧ Aside0 (w'.heap[gb283]? = some (.cells #[.int .i64 0,.int .i64 0,(.slice none 0 0),.int .i64 0,(.slice none 0 0)] 26 (0,0))) ∧ Aside0 (Below w.heap.size w w'))
   case atStart => exact ⟨(0),(0),(0),(([] : List ByteArray)),(0),(([] : List ByteArray)),(.slice none 0 0),(.slice none 0 0),(by first|rfl|(simp; done)|(simp [*]; done)),H',⟨Nat.le_refl _⟩,⟨by first|exact Kd.R_nil _ _ _ _ _|exact Kd.N_nil _ _ _ _ _|exact Kd.V_nil _ _ _ _ _|exact Kd.Q_nil _ _ _ _ _|exact Kd.S_nil _ _ _ _ _⟩,⟨by first|exact Kd.R_nil _ _ _ _ _|exact Kd.N_nil _ _ _ _ _|exact Kd.V_nil _ _ _ _ _|exact Kd.Q_nil _ _ _ _ _|exact Kd.S_nil _ _ _ _ _⟩,⟨(bkT BK282.out)⟩,⟨by (with_reducible repeat (first|refine zM ?_ _|refine zO ?_|refine zN ?_ _)); refine blk_put (cs := #[.int .i64 0,.int .i64 0,.slice none 0 0,.int .i64 0,.slice none 0 0]) ?_ 4 _ rfl; (with_reducible repeat (first|refine zM ?_ _|refine zO ?_|refine zN ?_ _)); refine blk_put (cs := #[.int .i64 0,.int .i64 0,.slice none 0 0,.int .i64 0,.slice none 0 0]) ?_ 3 _ rfl; (with_reducible repeat (first|refine zM ?_ _|refine zO ?_|refine zN ?_ _)); refine blk_put (cs := #[.int .i64 0,.int .i64 0,.slice none 0 0,.int .i64 0,.slice none 0 0]) ?_ 2 _ rfl; (with_reducible repeat (first|refine zM ?_ _|refine zO ?_|refine zN ?_ _)); refine blk_put (cs := #[.int .i64 0,.int .i64 0,.slice none 0 0,.int .i64 0,.slice none 0 0]) ?_ 1 _ rfl; (with_reducible repeat (first|refine zM ?_ _|refine zO ?_|refine zN ?_ _)); refine blk_put (cs := #[.int .i64 0,.int .i64 0,.slice none 0 0,.int .i64 0,.slice none 0 0]) ?_ 0 _ rfl; (with_reducible repeat (first|refine zM ?_ _|refine zO ?_|refine zN ?_ _)); exact BK283.out⟩,⟨bT HB⟩⟩
   case round =>
    clear H'
    obtain ⟨x8_1,x283000_1,x283001_1,x283002_1,x283003_1,x283004_1,u283002,u283004,rfl,HA,HK1,HO_283002,HO_283004,BK282,BK283,HB⟩ := hrel
    cases gk with
    | zero => exact absurd HA.out (by simp [spec_Talk.l0])
    | succ k1 =>
     have H := HA.out
     clear HA
     simp only [spec_Talk.l0] at H
     by_cases c10 : x8_1 < (l0.length : Int)
     ·
      rw [if_pos c10] at H
      have c10b0 : decide (x8_1 < (l0.length : Int)) = true := decide_eq_true c10
      clear c10
      by_cases c11 : 0 ≤ x8_1
      ·
       rw [if_pos c11] at H
       have c11b0 : decide (0 ≤ x8_1) = true := decide_eq_true c11
       clear c11
       replace H := Option.bind_eq_some_iff.mp H
       obtain ⟨⟨t285,t286,t287,t290,t291,t294⟩,A120,H⟩ := H
       replace H : (spec_Talk.l0 k1 l0 l1 (wrap64 (x8_1 + 1)) t285 t286 t287 t290 t291 0 0 0) = some (r1,r2) := H
       have A12 := zA A120
       clear A120
       have H' := zA H
       clear H
       try go_wp2
       have n0_ := zA (zL HO_283002.out)
       have n1_ := zA (zL HO_283004.out)
       have n2_ := zA (zO BK282.out)
       have n3_ := zA (zO BK283.out)
       have n4_ := zA (below_drew1 HB.out)
       clear HO_283002 HO_283004 BK282 BK283 HB
       have HO_283002 := n0_
       have HO_283004 := n1_
       have BK282 := n2_
       have BK283 := n3_
       have HB := n4_
       clear n0_ n1_ n2_ n3_ n4_
       have p284 : 0 ≤ (x8_1 : Int) := of_decide_eq_true (by first|(with_reducible assumption) | assumption)
       have q284 : x8_1 < (l0.length : Int) := of_decide_eq_true (by first|(with_reducible assumption) | assumption)
       obtain ⟨ad284,e284,hx284_0⟩ := Kd.at_string HR0.out x8_1 p284 q284
       have hw284_0 := hx284_0
       cases e284
       replace hx284_0 := (HB.out.cell (World.block_lt_of_cell? w _ hx284_0)).trans hx284_0
       replace p284 := eq_true p284
       replace q284 := eq_true q284
       obtain ⟨Ao14,co14,eo14⟩ := Kd.R_slice HO_283002.out
       (first | subst eo14 | (injection eo14 with f1_ f2_ f3_; have f4_ := f1_.symm; have f5_ := f3_.symm; clear f1_ f2_ f3_; subst f4_; subst f5_))
       obtain ⟨Ao15,co15,eo15⟩ := Kd.R_slice HO_283004.out
       (first | subst eo15 | (injection eo15 with f1_ f2_ f3_; have f4_ := f1_.symm; have f5_ := f3_.symm; clear f1_ f2_ f3_; subst f4_; subst f5_))
       refine start_ (n := 10) (S := fun w' => w'.cell? ⟨gb282,0,none⟩ = some (.int .i64 x283000_1) ∧ w'.cell? ⟨gb282,1,none⟩ = some (.int .i64 x283001_1) ∧ w'.cell? ⟨gb282,2,none⟩ = some (.slice Ao14 x283002_1.length co14) ∧ w'.cell? ⟨gb282,3,none⟩ = some (.int .i64 x283003_1) ∧ w'.cell? ⟨gb282,4,none⟩ = some (.slice Ao15 x283004_1.length co15) ∧ w'.cell? (ad284.add (x8_1).toNat) = some (.string (rdOf ByteArray.empty l0 x8_1))) (ds := [9]) #[false,false,false,false,false,false,false,false,false,false] (by kernel_rfl) rfl rfl ⟨(zQ BK282.out 0).trans rfl,(zQ BK282.out 1).trans rfl,(zQ BK282.out 2).trans rfl,(zQ BK282.out 3).trans rfl,(zQ BK282.out 4).trans rfl,((HB.out.cell (World.block_lt_of_cell? w _ hw284_0)).trans hw284_0)⟩ (fun hHeld => ?_); refine with_tabW spec_Talk.tab8 spec_Talk.bits8 (fun HT_ HW_ => ?_)
       generalize wr.drew = w13 at HO_283002 HO_283004 BK282 BK283 HB hx284_0 hHeld ⊢
       refine pure_ (i := 1) (N := some 32) (v := ?_) (a' := ?_) #[false,true,false,false,false,false,false,false,false,false] rfl rfl (any_of HT_.out (by kernel_rfl)) (fun _ _ _ h => h) (Or.inl ⟨by rfl,?_⟩) ?_ ?_; rotate_left
       · intro w'; go_simp; with_reducible rfl
       rotate_left
       · simp only [Act.put,List.setIfInBounds_toArray,List.set_cons_zero,List.set_cons_succ,i64_w,i32_w]; rfl
       refine pure_ (i := 2) (N := some 33) (v := ?_) (a' := ?_) #[false,true,true,false,false,false,false,false,false,false] rfl rfl (any_of HT_.out (by kernel_rfl)) (fun _ _ _ h => h) (Or.inl ⟨by rfl,?_⟩) ?_ ?_; rotate_left
       · intro w'; go_simp; with_reducible rfl
       rotate_left
       · simp only [Act.put,List.setIfInBounds_toArray,List.set_cons_zero,List.set_cons_succ,i64_w,i32_w]; rfl
       refine pure_ (i := 3) (N := some 34) (v := ?_) (a' := ?_) #[false,true,true,true,false,false,false,false,false,false] rfl rfl (any_of HT_.out (by kernel_rfl)) (fun _ _ _ h => h) (Or.inl ⟨by rfl,?_⟩) ?_ ?_; rotate_left
       · intro w'; go_simp; with_reducible rfl
       rotate_left
       · simp only [Act.put,List.setIfInBounds_toArray,List.set_cons_zero,List.set_cons_succ,i64_w,i32_w]; rfl
       refine take_ (i := 0) (N := some 31) (v := ?_) (a' := ?_) #[true,true,true,true,false,false,false,false,false,false] rfl rfl (take_ofW HT_.out HW_.out (by kernel_rfl)) (fun _ _ _ h => h) (Or.inl ⟨by rfl,?_⟩) hHeld ?_ ?_; rotate_left
       ·
        rintro w' ⟨s0,s1,s2,s3,s4,s5⟩
        go_simp; with_reducible rfl
       rotate_left
       · simp only [Act.put,List.setIfInBounds_toArray,List.set_cons_zero,List.set_cons_succ,i64_w,i32_w]; rfl
       refine take_ (i := 4) (N := some 35) (v := ?_) (a' := ?_) #[true,true,true,true,true,false,false,false,false,false] rfl rfl (take_ofW HT_.out HW_.out (by kernel_rfl)) (fun _ _ _ h => h) (Or.inl ⟨by rfl,?_⟩) hHeld ?_ ?_; rotate_left
       ·
        rintro w' ⟨s0,s1,s2,s3,s4,s5⟩
        go_simp; with_reducible rfl
       rotate_left
       · simp only [Act.put,List.setIfInBounds_toArray,List.set_cons_zero,List.set_cons_succ,i64_w,i32_w]; rfl
       refine one_ (i := 5) (N := some 36) #[true,true,true,true,true,true,false,false,false,false] rfl rfl (one_of HT_.out (by kernel_rfl)) (by decide) (fun K hK => ?_)
       refine goes_ Try.func12 (by kernel_rfl) rfl #[.agg #[.int .i64 x283000_1,.int .i64 x283001_1,.slice Ao14 x283002_1.length co14,.int .i64 x283003_1,.slice Ao15 x283004_1.length co15],.string (rdOf ByteArray.empty l0 x8_1)] (by rfl) rfl rfl (by (try simp only [List.map_toArray,List.map_cons,List.map_nil]); first | done|rfl|(simp only [List.length_drop,List.length_take]; rfl)) ?_
       with_reducible refine (spec_Offer.calls k1 x283000_1 x283001_1 _ _ x283002_1 x283003_1 _ _ x283004_1 (rdOf ByteArray.empty l0 x8_1) t285 t286 t287 t290 t291 t294 _ ?side1 ?side2 ?side3 ?side4 A12.out).mono ?_
       (case side1 => exact ccT ((zI HO_283002.out).2.2))
       (case side2 => exact (zI HO_283002.out).2.1)
       (case side3 => exact ccT ((zI HO_283004.out).2.2))
       (case side4 => exact (zI HO_283004.out).2.1)
       rintro e w16 ⟨v288,v292,rfl,ho0,ho1,hb⟩
       refine ⟨_,rfl,?_⟩
       have n0_ := zA (zC (zE (zE (Kd.R_old (rrA12 HO_283002.out) hb) (zF ho0)) (zF ho1)) (fun _ h_ => h_.1))
       have n1_ := zA (zC (zE (zE (Kd.R_old (rrA12 HO_283004.out) hb) (zF ho0)) (zF ho1)) (fun _ h_ => h_.1))
       have n2_ := zA (Kd.R_lower (zG (zG ho0 (Kd.R_lt (rrA12 HO_283002.out))) (Kd.R_lt (rrA12 HO_283004.out))) (below_size (bT HB)))
       have n3_ := zA (Kd.R_lower (zG (zG ho1 (Kd.R_lt (rrA12 HO_283002.out))) (Kd.R_lt (rrA12 HO_283004.out))) (below_size (bT HB)))
       have n4_ := zA (zP (bkT BK282.out) hb)
       have n5_ := zA (zP (bkT BK283.out) hb)
       have n6_ := zA (zR (bT HB) hb)
       clear HO_283002 HO_283004 BK282 BK283 HB
       have HO_283002 := n0_
       have HO_283004 := n1_
       have HO289 := n2_
       have HO293 := n3_
       have BK282 := n4_
       have BK283 := n5_
       have HB := n6_
       clear n0_ n1_ n2_ n3_ n4_ n5_ n6_
       obtain ⟨Ao19,co19,eo19⟩ := Kd.R_slice HO289.out
       (first | subst eo19 | (injection eo19 with f1_ f2_ f3_; have f4_ := f1_.symm; have f5_ := f3_.symm; clear f1_ f2_ f3_; subst f4_; subst f5_))
       obtain ⟨Ao22,co22,eo22⟩ := Kd.R_slice HO293.out
       (first | subst eo22 | (injection eo22 with f1_ f2_ f3_; have f4_ := f1_.symm; have f5_ := f3_.symm; clear f1_ f2_ f3_; subst f4_; subst f5_))
       refine hK.out _ _ ⟨(zQ BK282.out 0).trans rfl,(zQ BK282.out 1).trans rfl,(zQ BK282.out 2).trans rfl,(zQ BK282.out 3).trans rfl,(zQ BK282.out 4).trans rfl,((HB.out.cell (World.block_lt_of_cell? w _ hw284_0)).trans hw284_0)⟩ (fun hHeld => ?_)
       clear hK K
       refine norm_ (a' := ?_) ?_ ?_
       rotate_left
       ·
        show Act.put _ (some 36) _ = _
        simp only [Act.put,List.setIfInBounds_toArray,List.set_cons_zero,List.set_cons_succ,i64_w,i32_w]; rfl
       refine pure_ (i := 6) (N := some 30) (v := ?_) (a' := ?_) #[true,true,true,true,true,true,true,false,false,false] rfl rfl (any_of HT_.out (by kernel_rfl)) (fun _ _ _ h => h) (Or.inl ⟨by rfl,?_⟩) ?_ ?_; rotate_left
       · intro w'; go_simp; with_reducible rfl
       rotate_left
       · simp only [Act.put,List.setIfInBounds_toArray,List.set_cons_zero,List.set_cons_succ,i64_w,i32_w]; rfl
       refine pure_ (i := 7) (N := some 37) (v := ?_) (a' := ?_) #[true,true,true,true,true,true,true,true,false,false] rfl rfl (any_of HT_.out (by kernel_rfl)) (fun _ _ _ h => h) (Or.inl ⟨by rfl,?_⟩) ?_ ?_; rotate_left
       · intro w'; go_simp; with_reducible rfl
       rotate_left
       · simp only [Act.put,List.setIfInBounds_toArray,List.set_cons_zero,List.set_cons_succ,i64_w,i32_w]; rfl
       refine pure_ (i := 8) (N := some 38) (v := ?_) (a' := ?_) #[true,true,true,true,true,true,true,true,true,false] rfl rfl (any_of HT_.out (by kernel_rfl)) (fun _ _ _ h => h) (Or.inl ⟨by rfl,?_⟩) ?_ ?_; rotate_left
       · intro w'; go_simp; with_reducible rfl
       rotate_left
       · simp only [Act.put,List.setIfInBounds_toArray,List.set_cons_zero,List.set_cons_succ,i64_w,i32_w]; rfl
       refine last_ (i := 9) (N := none) #[true,true,true,true,true,true,true,true,true,true] rfl rfl (one_of HT_.out (by kernel_rfl)) (by decide) (fun K hK => ?_)
       have hs17 : w16.cell? ⟨gb282,0,none⟩ = some (.int .i64 x283000_1) := (zQ BK282.out 0).trans rfl
       have hfs17 := blk_frozen BK282.out 0
       have hns17_1 := NB283_282.out
       have hms17_1 := NB282_283.out
       have hs18 : w16.cell? ⟨gb282,1,none⟩ = some (.int .i64 x283001_1) := (zQ BK282.out 1).trans rfl
       have hfs18 := blk_frozen BK282.out 1
       have hns18_1 := NB283_282.out
       have hms18_1 := NB282_283.out
       have hs20 : w16.cell? ⟨gb282,2,none⟩ = some (.slice Ao14 x283002_1.length co14) := (zQ BK282.out 2).trans rfl
       have hfs20 := blk_frozen BK282.out 2
       have hns20_1 := NB283_282.out
       have hms20_1 := NB282_283.out
       have hs21 : w16.cell? ⟨gb282,3,none⟩ = some (.int .i64 x283003_1) := (zQ BK282.out 3).trans rfl
       have hfs21 := blk_frozen BK282.out 3
       have hns21_1 := NB283_282.out
       have hms21_1 := NB282_283.out
       have hs23 : w16.cell? ⟨gb282,4,none⟩ = some (.slice Ao15 x283004_1.length co15) := (zQ BK282.out 4).trans rfl
       have hfs23 := blk_frozen BK282.out 4
       have hns23_1 := NB283_282.out
       have hms23_1 := NB282_283.out
       refine skip_ (w1 := ?_) (by rfl) rfl ?_ ?_
       rotate_left
       · go_simp; rfl
       refine hK.out _ _ ?_
       clear hK K
       refine done_ (done_of HT_.out (by kernel_rfl)) ?_
       try go_wp2
       go_roundg k1
       case measure => have := HK1.out; omega
       case rel => exact ⟨(wrap64 (x8_1 + 1)),(t285),(t286),(t287),(t290),(t291),(.slice Ao19 t287.length co19),(.slice Ao22 t291.length co22),(by first|rfl|(simp; done)|(simp [*]; done)),H',⟨by have := HK1.out; omega⟩,⟨by (with_reducible repeat (first|apply zJ|apply zK|apply zL)); exact zC (zB (p := ⟨gb282,4,none⟩) (zB (p := ⟨gb282,3,none⟩) (zB (p := ⟨gb282,2,none⟩) (zB (p := ⟨gb282,1,none⟩) (zB (p := ⟨gb282,0,none⟩) (zH HO289.out BK282.out (by decide)) (fun _ h=>h.2) (.int .i64 t285)) (fun _ h=>h.2) (.int .i64 t286)) (fun _ h=>h.2) (.slice Ao19 t287.length co19)) (fun _ h=>h.2) (.int .i64 t290)) (fun _ h=>h.2) (.slice Ao22 t291.length co22)) (fun _ hk => hk.1.1.1)⟩,⟨by (with_reducible repeat (first|apply zJ|apply zK|apply zL)); exact zC (zB (p := ⟨gb282,4,none⟩) (zB (p := ⟨gb282,3,none⟩) (zB (p := ⟨gb282,2,none⟩) (zB (p := ⟨gb282,1,none⟩) (zB (p := ⟨gb282,0,none⟩) (zH HO293.out BK282.out (by decide)) (fun _ h=>h.2) (.int .i64 t285)) (fun _ h=>h.2) (.int .i64 t286)) (fun _ h=>h.2) (.slice Ao19 t287.length co19)) (fun _ h=>h.2) (.int .i64 t290)) (fun _ h=>h.2) (.slice Ao22 t291.length co22)) (fun _ hk => hk.1.1.1)⟩,⟨by (with_reducible repeat (first|refine zM ?_ _|refine zO ?_|refine zN ?_ _)); refine blk_put (cs := #[.int .i64 t285,.int .i64 t286,.slice Ao19 t287.length co19,.int .i64 t290,.slice Ao15 x283004_1.length co15]) ?_ 4 _ rfl; (with_reducible repeat (first|refine zM ?_ _|refine zO ?_|refine zN ?_ _)); refine blk_put (cs := #[.int .i64 t285,.int .i64 t286,.slice Ao19 t287.length co19,.int .i64 x283003_1,.slice Ao15 x283004_1.length co15]) ?_ 3 _ rfl; (with_reducible repeat (first|refine zM ?_ _|refine zO ?_|refine zN ?_ _)); refine blk_put (cs := #[.int .i64 t285,.int .i64 t286,.slice Ao14 x283002_1.length co14,.int .i64 x283003_1,.slice Ao15 x283004_1.length co15]) ?_ 2 _ rfl; (with_reducible repeat (first|refine zM ?_ _|refine zO ?_|refine zN ?_ _)); refine blk_put (cs := #[.int .i64 t285,.int .i64 x283001_1,.slice Ao14 x283002_1.length co14,.int .i64 x283003_1,.slice Ao15 x283004_1.length co15]) ?_ 1 _ rfl; (with_reducible repeat (first|refine zM ?_ _|refine zO ?_|refine zN ?_ _)); refine blk_put (cs := #[.int .i64 x283000_1,.int .i64 x283001_1,.slice Ao14 x283002_1.length co14,.int .i64 x283003_1,.slice Ao15 x283004_1.length co15]) ?_ 0 _ rfl; (with_reducible repeat (first|refine zM ?_ _|refine zO ?_|refine zN ?_ _)); exact BK282.out⟩,⟨(bkT BK283.out)⟩,⟨bT HB⟩⟩
      ·
       rw [if_neg c11] at H
       exact absurd H (by simp)
     ·
      rw [if_neg c10] at H
      have c10b0 : decide (x8_1 < (l0.length : Int)) = false := decide_eq_false c10
      clear c10
      obtain ⟨y295,hy295⟩ : ∃ y_ : List (S36),y_ = (([] : List (S36))) := ⟨_,rfl⟩
      replace H : (spec_Talk.l1 k1 l0 l1 y295 (([] : List (S36))) 0 x283000_1 x283001_1 x283002_1 x283003_1 x283004_1 0 0 ([] : List ByteArray) 0 ([] : List ByteArray)) = some (r1,r2) := by first | (rw [hy295]; with_reducible exact H) | (have H2_ := (Option.bind_some _ _).symm.trans H; rw [hy295]; with_reducible exact H2_) | (have H2_ := (Option.bind_some _ _).symm.trans H; with_reducible exact H2_)|with_reducible exact H | (rw [hy295]; exact H)|exact H
      have Ny295 := zA hy295
      clear hy295
      obtain ⟨y298,hy298⟩ : ∃ y_ : List (S36),y_ = (([] : List (S36))) := ⟨_,rfl⟩
      replace H : (spec_Talk.l1 k1 l0 l1 y295 y298 0 x283000_1 x283001_1 x283002_1 x283003_1 x283004_1 0 0 ([] : List ByteArray) 0 ([] : List ByteArray)) = some (r1,r2) := by first | (rw [hy298]; with_reducible exact H) | (have H2_ := (Option.bind_some _ _).symm.trans H; rw [hy298]; with_reducible exact H2_) | (have H2_ := (Option.bind_some _ _).symm.trans H; with_reducible exact H2_)|with_reducible exact H | (rw [hy298]; exact H)|exact H
      have Ny298 := zA hy298
      clear hy298
      have H' := zA H
      clear H
      go_wp2_with (first | ((with_reducible refine gate_dst (N := 39) rfl ?_); refine Kd.R_lit k36 _ 36 ?hg (N := 39) ?hd (xs := ([] : List (S36))) (inner := []) (ok := fun _ => True) (okp := fun _ => True) ?hr ?hp (fun _ hk => hk) trivial (Below.refl _ _) (Nat.le_refl _) (by simp) ?_; (case hd => rfl); (case hg => rfl); (case hr => first | (go_simp; done) | (go_simp; rfl)); (case hp => exact (Reps.none _ _)); intro v296 w24 ho25 hb hg_ hnew_; clear hg_ hnew_; (first | rw [← Ny295.out] at ho25|(simp only [Int.reduceToNat] at ho25; rw [← Ny295.out] at ho25)); have n0_ := zA (zD (rrA12 HO_283002.out) hb); have n1_ := zA (zD (rrA12 HO_283004.out) hb); have n2_ := zA (Kd.R_lower ho25 (below_size (bT HB))); have n3_ := zA (zP (bkT BK282.out) hb); have n4_ := zA (zP (bkT BK283.out) hb); have n5_ := zA (zR (bT HB) hb); clear HO_283002 HO_283004 BK282 BK283 HB; have HO_283002 := n0_; have HO_283004 := n1_; have HO297 := n2_; have BK282 := n3_; have BK283 := n4_; have HB := n5_; clear n0_ n1_ n2_ n3_ n4_ n5_ hb ho25) | ((with_reducible refine gate_dst (N := 40) rfl ?_); refine Kd.R_lit k36 _ 36 ?hg (N := 40) ?hd (xs := ([] : List (S36))) (inner := []) (ok := fun _ => True) (okp := fun _ => True) ?hr ?hp (fun _ hk => hk) trivial (Below.refl _ _) (Nat.le_refl _) (by simp) ?_; (case hd => rfl); (case hg => rfl); (case hr => first | (go_simp; done) | (go_simp; rfl)); (case hp => exact (Reps.none _ _)); intro v299 w26 ho27 hb hg_ hnew_; clear hg_ hnew_; (first | rw [← Ny298.out] at ho27|(simp only [Int.reduceToNat] at ho27; rw [← Ny298.out] at ho27)); have n0_ := zA (zD (rrA12 HO_283002.out) hb); have n1_ := zA (zD (rrA12 HO_283004.out) hb); have n2_ := zA (Kd.R_elder' (rrA12 HO297.out) (zF ho27) hb); have n3_ := zA (Kd.R_lower (zG ho27 (Kd.R_lt (rrA12 HO297.out))) (below_size (bT HB))); have n4_ := zA (zP (bkT BK282.out) hb); have n5_ := zA (zP (bkT BK283.out) hb); have n6_ := zA (zR (bT HB) hb); clear HO_283002 HO_283004 HO297 BK282 BK283 HB; have HO_283002 := n0_; have HO_283004 := n1_; have HO297 := n2_; have HO300 := n3_; have BK282 := n4_; have BK283 := n5_; have HB := n6_; clear n0_ n1_ n2_ n3_ n4_ n5_ n6_ hb ho27))
      go_loopg [9,10,11] k1 (fun kq v9 v10 v11 w' => ∃ (x9_2 : List (S36)) (x10_2 : List (S36)) (x11_2 : Int) (x283000_2 : Int) (x283001_2 : Int) (x283002_2 : List ByteArray) (x283003_2 : Int) (x283004_2 : List ByteArray) (x284000_2 : Int) (x284001_2 : Int) (x284002_2 : List ByteArray) (x284003_2 : Int) (x284004_2 : List ByteArray) (u283002 : Value) (u283004 : Value) (u284002 : Value) (u284004 : Value),v11 = .int .i64 x11_2 ∧ Aside0 (spec_Talk.l1 kq l0 l1 x9_2 x10_2 x11_2 x283000_2 x283001_2 x283002_2 x283003_2 x283004_2 x284000_2 x284001_2 x284002_2 x284003_2 x284004_2 = some (r1,r2)) ∧ Aside0 (kq ≤ k1) ∧ Aside0 (Kd.R k36 36 w' w.heap.size (fun k_ => some k_ ≠ (v10 : Value).ownBlock) v9 x9_2) ∧ Aside0 (Kd.R k36 36 w' w.heap.size (fun k_ => some k_ ≠ (v9 : Value).ownBlock) v10 x10_2) ∧ Aside0 (Kd.R Kd.string 9 w' w.heap.size (fun k_ => some k_ ≠ (u283004 : Value).ownBlock ∧ some k_ ≠ (u284002 : Value).ownBlock ∧ some k_ ≠ (u284004 : Value).ownBlock) u283002 x283002_2) ∧ Aside0 (Kd.R Kd.string 9 w' w.heap.size (fun k_ => some k_ ≠ (u283002 : Value).ownBlock ∧ some k_ ≠ (u284002 : Value).ownBlock ∧ some k_ ≠ (u284004 : Value).ownBlock) u283004 x283004_2) ∧ Aside0 (Kd.R Kd.string 9 w' w.heap.size (fun k_ => some k_ ≠ (u283002 : Value).ownBlock ∧ some k_ ≠ (u283004 : Value).ownBlock ∧ some k_ ≠ (u284004 : Value).ownBlock) u284002 x284002_2) ∧ Aside0 (Kd.R Kd.string 9 w' w.heap.size (fun k_ => some k_ ≠ (u283002 : Value).ownBlock ∧ some k_ ≠ (u283004 : Value).ownBlock ∧ some k_ ≠ (u284002 : Value).ownBlock) u284004 x284004_2) ∧ Aside0 (w'.heap[gb282]? = some (.cells #[.int .i64 x283000_2,.int .i64 x283001_2,u283002,.int .i64 x283003_2,u283004] 26 (0,0))) ∧ Aside0 (w'.heap[gb283]? = some (.cells #[.int .i64 x284000_2,.int .i64 x284001_2,u284002,.int .i64 x284003_2,u284004] 26 (0,0))) ∧ Aside0 (Below w.heap.size w w'))
      case atStart => exact ⟨(y295),(y298),(0),(x283000_1),(x283001_1),(x283002_1),(x283003_1),(x283004_1),(0),(0),(([] : List ByteArray)),(0),(([] : List ByteArray)),(u283002),(u283004),(.slice none 0 0),(.slice none 0 0),(by first|rfl|(simp; done)|(simp [*]; done)),H',⟨Nat.le_refl _⟩,⟨by (with_reducible repeat (first|apply zJ|apply zK|apply zL)); exact zC HO297.out (fun _ h=>h.2)⟩,⟨by (with_reducible repeat (first|apply zJ|apply zK|apply zL)); exact zC HO300.out (fun _ h=>h.2)⟩,⟨by (with_reducible repeat (first|apply zJ|apply zK|apply zL)); exact zC HO_283002.out (fun _ hk => ⟨hk,⟨(by simp [Value.ownBlock]),(by simp [Value.ownBlock])⟩⟩)⟩,⟨by (with_reducible repeat (first|apply zJ|apply zK|apply zL)); exact zC HO_283004.out (fun _ hk => ⟨hk,⟨(by simp [Value.ownBlock]),(by simp [Value.ownBlock])⟩⟩)⟩,⟨by first|exact Kd.R_nil _ _ _ _ _|exact Kd.N_nil _ _ _ _ _|exact Kd.V_nil _ _ _ _ _|exact Kd.Q_nil _ _ _ _ _|exact Kd.S_nil _ _ _ _ _⟩,⟨by first|exact Kd.R_nil _ _ _ _ _|exact Kd.N_nil _ _ _ _ _|exact Kd.V_nil _ _ _ _ _|exact Kd.Q_nil _ _ _ _ _|exact Kd.S_nil _ _ _ _ _⟩,⟨(bkT BK282.out)⟩,⟨(bkT BK283.out)⟩,⟨bT HB⟩⟩
      case round =>
       clear H'
       obtain ⟨x9_2,x10_2,x11_2,x283000_2,x283001_2,x283002_2,x283003_2,x283004_2,x284000_2,x284001_2,x284002_2,x284003_2,x284004_2,u283002,u283004,u284002,u284004,rfl,HA,HK2,HO_9,HO_10,HO_283002,HO_283004,HO_284002,HO_284004,BK282,BK283,HB⟩ := hrel
       cases gk with
       | zero => exact absurd HA.out (by simp [spec_Talk.l1])
       | succ k2 =>
        have H := HA.out
        clear HA
        simp only [spec_Talk.l1] at H
        by_cases c28 : x11_2 < (l1.length : Int)
        ·
         rw [if_pos c28] at H
         have c28b0 : decide (x11_2 < (l1.length : Int)) = true := decide_eq_true c28
         clear c28
         by_cases c29 : 0 ≤ x11_2
         ·
          rw [if_pos c29] at H
          have c29b0 : decide (0 ≤ x11_2) = true := decide_eq_true c29
          clear c29
          by_cases c30 : (Int.tmod (rd l1 x11_2) 4) = 0
          ·
           rw [if_pos c30] at H
           have c30b0 : ((Int.tmod (rd l1 x11_2) 4) == 0) = true := beq_iff_eq.mpr c30
           have c30b1 : ((Int.tmod (rd l1 x11_2) 4) != 0) = false := bne_eq_false_iff_eq.mpr c30
           clear c30
           replace H := Option.bind_eq_some_iff.mp H
           obtain ⟨⟨t303,t304,t305,t308,t309,t312⟩,A310,H⟩ := H
           replace H : (if x9_2.length + t312.length < 4398046511104 then (spec_Talk.l1 k2 l0 l1 (x9_2 ++ t312) x10_2 (wrap64 (x11_2 + 1)) t303 t304 t305 t308 t309 x284000_2 x284001_2 x284002_2 x284003_2 x284004_2) else (none)) = some (r1,r2) := H
           have A31 := zA A310
           clear A310
           by_cases c32 : x9_2.length + t312.length < 4398046511104
           ·
            rw [if_pos c32] at H
            have LMc32 := zA c32
            clear c32
            obtain ⟨y316,hy316⟩ : ∃ y_ : List (S36),y_ = (x9_2 ++ t312) := ⟨_,rfl⟩
            replace H : (spec_Talk.l1 k2 l0 l1 y316 x10_2 (wrap64 (x11_2 + 1)) t303 t304 t305 t308 t309 x284000_2 x284001_2 x284002_2 x284003_2 x284004_2) = some (r1,r2) := by first | (rw [hy316]; with_reducible exact H) | (have H2_ := (Option.bind_some _ _).symm.trans H; rw [hy316]; with_reducible exact H2_) | (have H2_ := (Option.bind_some _ _).symm.trans H; with_reducible exact H2_)|with_reducible exact H | (rw [hy316]; exact H)|exact H
            have Ny316 := zA hy316
            clear hy316
            have H' := zA H
            clear H
            have p301 : 0 ≤ (x11_2 : Int) := of_decide_eq_true (by first|(with_reducible assumption) | assumption)
            have q301 : x11_2 < (l1.length : Int) := of_decide_eq_true (by first|(with_reducible assumption) | assumption)
            obtain ⟨ad301,e301,hx301_0⟩ := Kd.at_int HR1.out x11_2 p301 q301
            cases e301
            replace hx301_0 := (HB.out.cell (World.block_lt_of_cell? w _ hx301_0)).trans hx301_0
            replace p301 := eq_true p301
            replace q301 := eq_true q301
            have p302 : 0 ≤ (x11_2 : Int) := of_decide_eq_true (by first|(with_reducible assumption) | assumption)
            have q302 : x11_2 < (l1.length : Int) := of_decide_eq_true (by first|(with_reducible assumption) | assumption)
            obtain ⟨ad302,e302,hx302_0⟩ := Kd.at_int HR1.out x11_2 p302 q302
            obtain rfl : ad301 = ad302 := (by injection e302)
            replace hx302_0 := (HB.out.cell (World.block_lt_of_cell? w _ hx302_0)).trans hx302_0
            replace p302 := eq_true p302
            replace q302 := eq_true q302
            have hnb33 := NB282_283.out
            have hnc33 := NB283_282.out
            obtain ⟨_,_,_,_,_,_,_,_,_,_⟩ := cz5 BK282.out
            obtain ⟨Ao35,co35,eo35⟩ := Kd.R_slice HO_283002.out
            subst eo35
            obtain ⟨Ao36,co36,eo36⟩ := Kd.R_slice HO_283004.out
            subst eo36
            go_wp2_with (first | ((with_reducible refine gate_callee (f := 31) rfl ?_); refine goesL_ (some 80) rfl rfl Try.func31 (by kernel_rfl) rfl #[.agg #[.int .i64 x283000_2,.int .i64 x283001_2,.slice Ao35 x283002_2.length co35,.int .i64 x283003_2,.slice Ao36 x283004_2.length co36]] rfl (by (try simp only [List.map_toArray,List.map_cons,List.map_nil]); first | done|rfl|(simp only [List.length_drop,List.length_take]; rfl)) ?_; (with_reducible refine (spec_SendNew.calls k2 x283000_2 x283001_2 _ _ x283002_2 x283003_2 _ _ x283004_2 t303 t304 t305 t308 t309 t312 _ ?side1 ?side2 ?side3 ?side4 A31.out).mono ?_); (case side1 => exact ccT ((zI HO_283002.out).2.2)); (case side2 => exact (zI HO_283002.out).2.1); (case side3 => exact ccT ((zI HO_283004.out).2.2)); (case side4 => exact (zI HO_283004.out).2.1); rintro e w37 ⟨v306,v310,v313,rfl,ho0,ho1,ho2,hb⟩; refine ⟨_,rfl,?_⟩; have n0_ := zA (Kd.R_elder' (rrA12 HO_9.out) (zF ho2) hb); have n1_ := zA (Kd.R_elder' (rrA12 HO_10.out) (zF ho2) hb); have n2_ := zA (zC (zE (zE (Kd.R_old (rrA12 HO_283002.out) hb) (zF ho0)) (zF ho1)) (fun _ h_ => h_.1)); have n3_ := zA (zC (zE (zE (Kd.R_old (rrA12 HO_283004.out) hb) (zF ho0)) (zF ho1)) (fun _ h_ => h_.1)); have n4_ := zA (zC (zE (zE (Kd.R_old (rrA12 HO_284002.out) hb) (zF ho0)) (zF ho1)) (fun _ h_ => h_.1)); have n5_ := zA (zC (zE (zE (Kd.R_old (rrA12 HO_284004.out) hb) (zF ho0)) (zF ho1)) (fun _ h_ => h_.1)); have n6_ := zA (Kd.R_lower (zG (zG (zG (zG ho0 (Kd.R_lt (rrA12 HO_283002.out))) (Kd.R_lt (rrA12 HO_283004.out))) (Kd.R_lt (rrA12 HO_284002.out))) (Kd.R_lt (rrA12 HO_284004.out))) (below_size (bT HB))); have n7_ := zA (Kd.R_lower (zG (zG (zG (zG ho1 (Kd.R_lt (rrA12 HO_283002.out))) (Kd.R_lt (rrA12 HO_283004.out))) (Kd.R_lt (rrA12 HO_284002.out))) (Kd.R_lt (rrA12 HO_284004.out))) (below_size (bT HB))); have n8_ := zA (Kd.R_lower (zG (zG ho2 (Kd.R_lt (rrA12 HO_9.out))) (Kd.R_lt (rrA12 HO_10.out))) (below_size (bT HB))); have n9_ := zA (zP (bkT BK282.out) hb); have n10_ := zA (zP (bkT BK283.out) hb); have n11_ := zA (zR (bT HB) hb); clear HO_9 HO_10 HO_283002 HO_283004 HO_284002 HO_284004 BK282 BK283 HB; have HO_9 := n0_; have HO_10 := n1_; have HO_283002 := n2_; have HO_283004 := n3_; have HO_284002 := n4_; have HO_284004 := n5_; have HO307 := n6_; have HO311 := n7_; have HO314 := n8_; have BK282 := n9_; have BK283 := n10_; have HB := n11_; clear n0_ n1_ n2_ n3_ n4_ n5_ n6_ n7_ n8_ n9_ n10_ n11_) | ((with_reducible refine gate_dst (N := 13) rfl ?_); refine box_event ?hg (N := 13) ?hd (cs := #[.int .i64 0,.int .i64 0,.slice none 0 0,.int .i64 0,.slice none 0 0]) (t := 26) ?hr ?_; (case hd => rfl); (case hg => rfl); (case hr => first | (go_simp; done) | (go_simp; rfl)); intro gb315 hg w38 hbox hb; have n0_ := zA (zD (rrA12 HO_9.out) hb); have n1_ := zA (zD (rrA12 HO_10.out) hb); have n2_ := zA (zD (rrA12 HO_283002.out) hb); have n3_ := zA (zD (rrA12 HO_283004.out) hb); have n4_ := zA (zD (rrA12 HO_284002.out) hb); have n5_ := zA (zD (rrA12 HO_284004.out) hb); have n6_ := zA (zD (rrA12 HO307.out) hb); have n7_ := zA (zD (rrA12 HO311.out) hb); have n8_ := zA (zD (rrA12 HO314.out) hb); have n9_ := zA (zP (bkT BK282.out) hb); have n10_ := zA (zP (bkT BK283.out) hb); have n11_ := zA (zR (bT HB) hb); have n12_ := zA (hbox); have n13_ := zA ((by rw [hg]; exact (below_size (bT HB)) : w.heap.size ≤ gb315)); have n14_ := zA ((by rw [hg]; exact (below_size (bT HB)) : w.heap.size ≤ gb315)); have n15_ := zA ((by rw [hg]; exact Nat.ne_of_lt (blk_lt (g := gb282) (o := .cells #[.int .i64 x283000_2,.int .i64 x283001_2,.slice Ao35 x283002_2.length co35,.int .i64 x283003_2,.slice Ao36 x283004_2.length co36] 26 (0,0)) (bkT BK282.out)) : gb282 ≠ gb315)); have n16_ := zA ((by rw [hg]; exact Nat.ne_of_gt (blk_lt (g := gb282) (o := .cells #[.int .i64 x283000_2,.int .i64 x283001_2,.slice Ao35 x283002_2.length co35,.int .i64 x283003_2,.slice Ao36 x283004_2.length co36] 26 (0,0)) (bkT BK282.out)) : gb315 ≠ gb282)); have n17_ := zA ((by rw [hg]; exact Nat.ne_of_lt (blk_lt (g := gb283) (o := .cells #[.int .i64 x284000_2,.int .i64 x284001_2,u284002,.int .i64 x284003_2,u284004] 26 (0,0)) (bkT BK283.out)) : gb283 ≠ gb315)); have n18_ := zA ((by rw [hg]; exact Nat.ne_of_gt (blk_lt (g := gb283) (o := .cells #[.int .i64 x284000_2,.int .i64 x284001_2,u284002,.int .i64 x284003_2,u284004] 26 (0,0)) (bkT BK283.out)) : gb315 ≠ gb283)); clear HO_9 HO_10 HO_283002 HO_283004 HO_284002 HO_284004 HO307 HO311 HO314 BK282 BK283 HB; have HO_9 := n0_; have HO_10 := n1_; have HO_283002 := n2_; have HO_283004 := n3_; have HO_284002 := n4_; have HO_284004 := n5_; have HO307 := n6_; have HO311 := n7_; have HO314 := n8_; have BK282 := n9_; have BK283 := n10_; have HB := n11_; have BK315 := n12_; have GW315 := n13_; have GE315 := n14_; have NB282_315 := n15_; have NB315_282 := n16_; have NB283_315 := n17_; have NB315_283 := n18_; clear n0_ n1_ n2_ n3_ n4_ n5_ n6_ n7_ n8_ n9_ n10_ n11_ n12_ n13_ n14_ n15_ n16_ n17_ n18_ hb hbox hg; have hnb39 := NB315_282.out; have hnc39 := NB282_315.out; have hnb40 := NB315_283.out; have hnc40 := NB283_315.out; obtain ⟨_,_,_,_,_,_,_,_,_,_⟩ := cz5 BK315.out; obtain ⟨Ao42,co42,eo42⟩ := Kd.R_slice HO307.out; subst eo42; obtain ⟨Ao43,co43,eo43⟩ := Kd.R_slice HO311.out; subst eo43; obtain ⟨_,_,_,_,_,_,_,_,_,_⟩ := cz5 BK282.out; obtain ⟨Ao46,co46,eo46⟩ := Kd.R_slice HO314.out; subst eo46) | ((with_reducible refine gate_builtin (b := .append) (xs := #[.tmp 84,.tmp 85]) rfl ?_); at_builtin; refine Kd.R_append_rows k36 (w0 := w) w.heap.size rfl (.tmp 84) (.tmp 85) 45 36 (.agg #[(.int .i64 0),(.int .i64 0),(.string ⟨#[]⟩)]) 32 rfl Try.underlying45 info36 rfl (by decide) (by omega) u9 x9_2 t312 _ _ _ (fun k_ => some k_ ≠ (u10 : Value).ownBlock ∧ some k_ ≠ (.slice Ao46 t312.length co46 : Value).ownBlock) (fun _ => False) rfl rfl ?aO ?aR (fun _ _ h => h) (fun _ h => h.elim) ?aF ?aB ?aS ?aL ?_; (case aR => refine (zI (e := 36) (base := w.heap.size) (ok := fun k_ => ((True ∧ some k_ ≠ (u9 : Value).ownBlock) ∧ some k_ ≠ (u10 : Value).ownBlock)) (n := t312.length) (c := co46) ?_).2.2; exact (rrA12 (zC (zC (zB (p := ⟨gb282,4,none⟩) (zB (p := ⟨gb282,3,none⟩) (zB (p := ⟨gb282,2,none⟩) (zB (p := ⟨gb282,1,none⟩) (zB (p := ⟨gb282,0,none⟩) (zB (p := ⟨gb315,4,none⟩) (zB (p := ⟨gb315,3,none⟩) (zB (p := ⟨gb315,2,none⟩) (zB (p := ⟨gb315,1,none⟩) (zB (p := ⟨gb315,0,none⟩) (zH (zH HO314.out BK315.out (by decide)) BK282.out (by decide)) (fun _ hk => hk.1.2) (.int .i64 t303)) (fun _ hk => hk.1.2) (.int .i64 t304)) (fun _ hk => hk.1.2) (.slice Ao42 t305.length co42)) (fun _ hk => hk.1.2) (.int .i64 t308)) (fun _ hk => hk.1.2) (.slice Ao43 t309.length co43)) (fun _ h=>h.2) (.int .i64 t303)) (fun _ h=>h.2) (.int .i64 t304)) (fun _ h=>h.2) (.slice Ao42 t305.length co42)) (fun _ h=>h.2) (.int .i64 t308)) (fun _ h=>h.2) (.slice Ao43 t309.length co43)) (fun _ h_ => h_.1)) (fun _ h_ => h_.1)))); (case aB => exact (bT HB)); (case aF => exact (fun k_ hk => ⟨Kd.fresh' (Kd.R_lt (rrA12 (zC (zC (zB (p := ⟨gb282,4,none⟩) (zB (p := ⟨gb282,3,none⟩) (zB (p := ⟨gb282,2,none⟩) (zB (p := ⟨gb282,1,none⟩) (zB (p := ⟨gb282,0,none⟩) (zB (p := ⟨gb315,4,none⟩) (zB (p := ⟨gb315,3,none⟩) (zB (p := ⟨gb315,2,none⟩) (zB (p := ⟨gb315,1,none⟩) (zB (p := ⟨gb315,0,none⟩) (zH (zH HO_10.out BK315.out (by decide)) BK282.out (by decide)) (fun _ hk => hk.1.2) (.int .i64 t303)) (fun _ hk => hk.1.2) (.int .i64 t304)) (fun _ hk => hk.1.2) (.slice Ao42 t305.length co42)) (fun _ hk => hk.1.2) (.int .i64 t308)) (fun _ hk => hk.1.2) (.slice Ao43 t309.length co43)) (fun _ h=>h.2) (.int .i64 t303)) (fun _ h=>h.2) (.int .i64 t304)) (fun _ h=>h.2) (.slice Ao42 t305.length co42)) (fun _ h=>h.2) (.int .i64 t308)) (fun _ h=>h.2) (.slice Ao43 t309.length co43)) (fun _ h_ => h_.1)) (fun _ h_ => h_.1)))) k_ hk,Kd.fresh' (Kd.R_lt (rrA12 (zC (zC (zB (p := ⟨gb282,4,none⟩) (zB (p := ⟨gb282,3,none⟩) (zB (p := ⟨gb282,2,none⟩) (zB (p := ⟨gb282,1,none⟩) (zB (p := ⟨gb282,0,none⟩) (zB (p := ⟨gb315,4,none⟩) (zB (p := ⟨gb315,3,none⟩) (zB (p := ⟨gb315,2,none⟩) (zB (p := ⟨gb315,1,none⟩) (zB (p := ⟨gb315,0,none⟩) (zH (zH HO314.out BK315.out (by decide)) BK282.out (by decide)) (fun _ hk => hk.1.2) (.int .i64 t303)) (fun _ hk => hk.1.2) (.int .i64 t304)) (fun _ hk => hk.1.2) (.slice Ao42 t305.length co42)) (fun _ hk => hk.1.2) (.int .i64 t308)) (fun _ hk => hk.1.2) (.slice Ao43 t309.length co43)) (fun _ h=>h.2) (.int .i64 t303)) (fun _ h=>h.2) (.int .i64 t304)) (fun _ h=>h.2) (.slice Ao42 t305.length co42)) (fun _ h=>h.2) (.int .i64 t308)) (fun _ h=>h.2) (.slice Ao43 t309.length co43)) (fun _ h_ => h_.1)) (fun _ h_ => h_.1)))) k_ hk⟩)); (case aO => exact (by (with_reducible repeat (first|apply zJ|apply zK|apply zL)); exact zC (zB (p := ⟨gb282,4,none⟩) (zB (p := ⟨gb282,3,none⟩) (zB (p := ⟨gb282,2,none⟩) (zB (p := ⟨gb282,1,none⟩) (zB (p := ⟨gb282,0,none⟩) (zB (p := ⟨gb315,4,none⟩) (zB (p := ⟨gb315,3,none⟩) (zB (p := ⟨gb315,2,none⟩) (zB (p := ⟨gb315,1,none⟩) (zB (p := ⟨gb315,0,none⟩) (zH (zH HO_9.out BK315.out (by decide)) BK282.out (by decide)) (fun _ hk => hk.1.2) (.int .i64 t303)) (fun _ hk => hk.1.2) (.int .i64 t304)) (fun _ hk => hk.1.2) (.slice Ao42 t305.length co42)) (fun _ hk => hk.1.2) (.int .i64 t308)) (fun _ hk => hk.1.2) (.slice Ao43 t309.length co43)) (fun _ h=>h.2) (.int .i64 t303)) (fun _ h=>h.2) (.int .i64 t304)) (fun _ h=>h.2) (.slice Ao42 t305.length co42)) (fun _ h=>h.2) (.int .i64 t308)) (fun _ h=>h.2) (.slice Ao43 t309.length co43)) (fun _ hk => ⟨hk.1.1.1,hk.1.1.2⟩))); (case aS => exact (below_size (bT HB))); (case aL => have := LMc32.out; omega); intro v317 w45 ho hb hg hat; rw [← Ny316.out] at ho; have n0_ := zA (Kd.R_after (ok := (fun k_ => some k_ ≠ (.slice Ao46 t312.length co46 : Value).ownBlock)) (by (with_reducible repeat (first|apply zJ|apply zK|apply zL)); exact zC (zB (p := ⟨gb282,4,none⟩) (zB (p := ⟨gb282,3,none⟩) (zB (p := ⟨gb282,2,none⟩) (zB (p := ⟨gb282,1,none⟩) (zB (p := ⟨gb282,0,none⟩) (zB (p := ⟨gb315,4,none⟩) (zB (p := ⟨gb315,3,none⟩) (zB (p := ⟨gb315,2,none⟩) (zB (p := ⟨gb315,1,none⟩) (zB (p := ⟨gb315,0,none⟩) (zH (zH HO_10.out BK315.out (by decide)) BK282.out (by decide)) (fun _ hk => hk.1.2) (.int .i64 t303)) (fun _ hk => hk.1.2) (.int .i64 t304)) (fun _ hk => hk.1.2) (.slice Ao42 t305.length co42)) (fun _ hk => hk.1.2) (.int .i64 t308)) (fun _ hk => hk.1.2) (.slice Ao43 t309.length co43)) (fun _ h=>h.2) (.int .i64 t303)) (fun _ h=>h.2) (.int .i64 t304)) (fun _ h=>h.2) (.slice Ao42 t305.length co42)) (fun _ h=>h.2) (.int .i64 t308)) (fun _ h=>h.2) (.slice Ao43 t309.length co43)) (fun _ hk => ⟨hk.1.1.2,hk.1.1.1⟩)) hg hat); have n1_ := zA (Kd.R_over' (rrA12 (zC (zC (zB (p := ⟨gb282,4,none⟩) (zB (p := ⟨gb282,3,none⟩) (zB (p := ⟨gb282,2,none⟩) (zB (p := ⟨gb282,1,none⟩) (zB (p := ⟨gb282,0,none⟩) (zB (p := ⟨gb315,4,none⟩) (zB (p := ⟨gb315,3,none⟩) (zB (p := ⟨gb315,2,none⟩) (zB (p := ⟨gb315,1,none⟩) (zB (p := ⟨gb315,0,none⟩) (zH (zH HO_283002.out BK315.out (by decide)) BK282.out (by decide)) (fun _ hk => hk.1.2) (.int .i64 t303)) (fun _ hk => hk.1.2) (.int .i64 t304)) (fun _ hk => hk.1.2) (.slice Ao42 t305.length co42)) (fun _ hk => hk.1.2) (.int .i64 t308)) (fun _ hk => hk.1.2) (.slice Ao43 t309.length co43)) (fun _ h=>h.2) (.int .i64 t303)) (fun _ h=>h.2) (.int .i64 t304)) (fun _ h=>h.2) (.slice Ao42 t305.length co42)) (fun _ h=>h.2) (.int .i64 t308)) (fun _ h=>h.2) (.slice Ao43 t309.length co43)) (fun _ h_ => h_.1)) (fun _ h_ => h_.1))) (Kd.R_typed (rrA12 (zC (zC (zB (p := ⟨gb282,4,none⟩) (zB (p := ⟨gb282,3,none⟩) (zB (p := ⟨gb282,2,none⟩) (zB (p := ⟨gb282,1,none⟩) (zB (p := ⟨gb282,0,none⟩) (zB (p := ⟨gb315,4,none⟩) (zB (p := ⟨gb315,3,none⟩) (zB (p := ⟨gb315,2,none⟩) (zB (p := ⟨gb315,1,none⟩) (zB (p := ⟨gb315,0,none⟩) (zH (zH HO_9.out BK315.out (by decide)) BK282.out (by decide)) (fun _ hk => hk.1.2) (.int .i64 t303)) (fun _ hk => hk.1.2) (.int .i64 t304)) (fun _ hk => hk.1.2) (.slice Ao42 t305.length co42)) (fun _ hk => hk.1.2) (.int .i64 t308)) (fun _ hk => hk.1.2) (.slice Ao43 t309.length co43)) (fun _ h=>h.2) (.int .i64 t303)) (fun _ h=>h.2) (.int .i64 t304)) (fun _ h=>h.2) (.slice Ao42 t305.length co42)) (fun _ h=>h.2) (.int .i64 t308)) (fun _ h=>h.2) (.slice Ao43 t309.length co43)) (fun _ h_ => h_.1)) (fun _ h_ => h_.1)))) (by decide) hg); have n2_ := zA (Kd.R_over' (rrA12 (zC (zC (zB (p := ⟨gb282,4,none⟩) (zB (p := ⟨gb282,3,none⟩) (zB (p := ⟨gb282,2,none⟩) (zB (p := ⟨gb282,1,none⟩) (zB (p := ⟨gb282,0,none⟩) (zB (p := ⟨gb315,4,none⟩) (zB (p := ⟨gb315,3,none⟩) (zB (p := ⟨gb315,2,none⟩) (zB (p := ⟨gb315,1,none⟩) (zB (p := ⟨gb315,0,none⟩) (zH (zH HO_283004.out BK315.out (by decide)) BK282.out (by decide)) (fun _ hk => hk.1.2) (.int .i64 t303)) (fun _ hk => hk.1.2) (.int .i64 t304)) (fun _ hk => hk.1.2) (.slice Ao42 t305.length co42)) (fun _ hk => hk.1.2) (.int .i64 t308)) (fun _ hk => hk.1.2) (.slice Ao43 t309.length co43)) (fun _ h=>h.2) (.int .i64 t303)) (fun _ h=>h.2) (.int .i64 t304)) (fun _ h=>h.2) (.slice Ao42 t305.length co42)) (fun _ h=>h.2) (.int .i64 t308)) (fun _ h=>h.2) (.slice Ao43 t309.length co43)) (fun _ h_ => h_.1)) (fun _ h_ => h_.1))) (Kd.R_typed (rrA12 (zC (zC (zB (p := ⟨gb282,4,none⟩) (zB (p := ⟨gb282,3,none⟩) (zB (p := ⟨gb282,2,none⟩) (zB (p := ⟨gb282,1,none⟩) (zB (p := ⟨gb282,0,none⟩) (zB (p := ⟨gb315,4,none⟩) (zB (p := ⟨gb315,3,none⟩) (zB (p := ⟨gb315,2,none⟩) (zB (p := ⟨gb315,1,none⟩) (zB (p := ⟨gb315,0,none⟩) (zH (zH HO_9.out BK315.out (by decide)) BK282.out (by decide)) (fun _ hk => hk.1.2) (.int .i64 t303)) (fun _ hk => hk.1.2) (.int .i64 t304)) (fun _ hk => hk.1.2) (.slice Ao42 t305.length co42)) (fun _ hk => hk.1.2) (.int .i64 t308)) (fun _ hk => hk.1.2) (.slice Ao43 t309.length co43)) (fun _ h=>h.2) (.int .i64 t303)) (fun _ h=>h.2) (.int .i64 t304)) (fun _ h=>h.2) (.slice Ao42 t305.length co42)) (fun _ h=>h.2) (.int .i64 t308)) (fun _ h=>h.2) (.slice Ao43 t309.length co43)) (fun _ h_ => h_.1)) (fun _ h_ => h_.1)))) (by decide) hg); have n3_ := zA (Kd.R_over' (rrA12 (zC (zC (zB (p := ⟨gb282,4,none⟩) (zB (p := ⟨gb282,3,none⟩) (zB (p := ⟨gb282,2,none⟩) (zB (p := ⟨gb282,1,none⟩) (zB (p := ⟨gb282,0,none⟩) (zB (p := ⟨gb315,4,none⟩) (zB (p := ⟨gb315,3,none⟩) (zB (p := ⟨gb315,2,none⟩) (zB (p := ⟨gb315,1,none⟩) (zB (p := ⟨gb315,0,none⟩) (zH (zH HO_284002.out BK315.out (by decide)) BK282.out (by decide)) (fun _ hk => hk.1.2) (.int .i64 t303)) (fun _ hk => hk.1.2) (.int .i64 t304)) (fun _ hk => hk.1.2) (.slice Ao42 t305.length co42)) (fun _ hk => hk.1.2) (.int .i64 t308)) (fun _ hk => hk.1.2) (.slice Ao43 t309.length co43)) (fun _ h=>h.2) (.int .i64 t303)) (fun _ h=>h.2) (.int .i64 t304)) (fun _ h=>h.2) (.slice Ao42 t305.length co42)) (fun _ h=>h.2) (.int .i64 t308)) (fun _ h=>h.2) (.slice Ao43 t309.length co43)) (fun _ h_ => h_.1)) (fun _ h_ => h_.1))) (Kd.R_typed (rrA12 (zC (zC (zB (p := ⟨gb282,4,none⟩) (zB (p := ⟨gb282,3,none⟩) (zB (p := ⟨gb282,2,none⟩) (zB (p := ⟨gb282,1,none⟩) (zB (p := ⟨gb282,0,none⟩) (zB (p := ⟨gb315,4,none⟩) (zB (p := ⟨gb315,3,none⟩) (zB (p := ⟨gb315,2,none⟩) (zB (p := ⟨gb315,1,none⟩) (zB (p := ⟨gb315,0,none⟩) (zH (zH HO_9.out BK315.out (by decide)) BK282.out (by decide)) (fun _ hk => hk.1.2) (.int .i64 t303)) (fun _ hk => hk.1.2) (.int .i64 t304)) (fun _ hk => hk.1.2) (.slice Ao42 t305.length co42)) (fun _ hk => hk.1.2) (.int .i64 t308)) (fun _ hk => hk.1.2) (.slice Ao43 t309.length co43)) (fun _ h=>h.2) (.int .i64 t303)) (fun _ h=>h.2) (.int .i64 t304)) (fun _ h=>h.2) (.slice Ao42 t305.length co42)) (fun _ h=>h.2) (.int .i64 t308)) (fun _ h=>h.2) (.slice Ao43 t309.length co43)) (fun _ h_ => h_.1)) (fun _ h_ => h_.1)))) (by decide) hg); have n4_ := zA (Kd.R_over' (rrA12 (zC (zC (zB (p := ⟨gb282,4,none⟩) (zB (p := ⟨gb282,3,none⟩) (zB (p := ⟨gb282,2,none⟩) (zB (p := ⟨gb282,1,none⟩) (zB (p := ⟨gb282,0,none⟩) (zB (p := ⟨gb315,4,none⟩) (zB (p := ⟨gb315,3,none⟩) (zB (p := ⟨gb315,2,none⟩) (zB (p := ⟨gb315,1,none⟩) (zB (p := ⟨gb315,0,none⟩) (zH (zH HO_284004.out BK315.out (by decide)) BK282.out (by decide)) (fun _ hk => hk.1.2) (.int .i64 t303)) (fun _ hk => hk.1.2) (.int .i64 t304)) (fun _ hk => hk.1.2) (.slice Ao42 t305.length co42)) (fun _ hk => hk.1.2) (.int .i64 t308)) (fun _ hk => hk.1.2) (.slice Ao43 t309.length co43)) (fun _ h=>h.2) (.int .i64 t303)) (fun _ h=>h.2) (.int .i64 t304)) (fun _ h=>h.2) (.slice Ao42 t305.length co42)) (fun _ h=>h.2) (.int .i64 t308)) (fun _ h=>h.2) (.slice Ao43 t309.length co43)) (fun _ h_ => h_.1)) (fun _ h_ => h_.1))) (Kd.R_typed (rrA12 (zC (zC (zB (p := ⟨gb282,4,none⟩) (zB (p := ⟨gb282,3,none⟩) (zB (p := ⟨gb282,2,none⟩) (zB (p := ⟨gb282,1,none⟩) (zB (p := ⟨gb282,0,none⟩) (zB (p := ⟨gb315,4,none⟩) (zB (p := ⟨gb315,3,none⟩) (zB (p := ⟨gb315,2,none⟩) (zB (p := ⟨gb315,1,none⟩) (zB (p := ⟨gb315,0,none⟩) (zH (zH HO_9.out BK315.out (by decide)) BK282.out (by decide)) (fun _ hk => hk.1.2) (.int .i64 t303)) (fun _ hk => hk.1.2) (.int .i64 t304)) (fun _ hk => hk.1.2) (.slice Ao42 t305.length co42)) (fun _ hk => hk.1.2) (.int .i64 t308)) (fun _ hk => hk.1.2) (.slice Ao43 t309.length co43)) (fun _ h=>h.2) (.int .i64 t303)) (fun _ h=>h.2) (.int .i64 t304)) (fun _ h=>h.2) (.slice Ao42 t305.length co42)) (fun _ h=>h.2) (.int .i64 t308)) (fun _ h=>h.2) (.slice Ao43 t309.length co43)) (fun _ h_ => h_.1)) (fun _ h_ => h_.1)))) (by decide) hg); have n5_ := zA (blk_grown (g := gb282) (o := .cells #[.int .i64 t303,.int .i64 t304,.slice Ao42 t305.length co42,.int .i64 t308,.slice Ao43 t309.length co43] 26 (0,0)) (by (with_reducible repeat (first|refine zM ?_ _|refine zO ?_|refine zN ?_ _)); refine blk_put (cs := #[.int .i64 t303,.int .i64 t304,.slice Ao42 t305.length co42,.int .i64 t308,.slice Ao36 x283004_2.length co36]) ?_ 4 _ rfl; (with_reducible repeat (first|refine zM ?_ _|refine zO ?_|refine zN ?_ _)); refine blk_put (cs := #[.int .i64 t303,.int .i64 t304,.slice Ao42 t305.length co42,.int .i64 x283003_2,.slice Ao36 x283004_2.length co36]) ?_ 3 _ rfl; (with_reducible repeat (first|refine zM ?_ _|refine zO ?_|refine zN ?_ _)); refine blk_put (cs := #[.int .i64 t303,.int .i64 t304,.slice Ao35 x283002_2.length co35,.int .i64 x283003_2,.slice Ao36 x283004_2.length co36]) ?_ 2 _ rfl; (with_reducible repeat (first|refine zM ?_ _|refine zO ?_|refine zN ?_ _)); refine blk_put (cs := #[.int .i64 t303,.int .i64 x283001_2,.slice Ao35 x283002_2.length co35,.int .i64 x283003_2,.slice Ao36 x283004_2.length co36]) ?_ 1 _ rfl; (with_reducible repeat (first|refine zM ?_ _|refine zO ?_|refine zN ?_ _)); refine blk_put (cs := #[.int .i64 x283000_2,.int .i64 x283001_2,.slice Ao35 x283002_2.length co35,.int .i64 x283003_2,.slice Ao36 x283004_2.length co36]) ?_ 0 _ rfl; (with_reducible repeat (first|refine zM ?_ _|refine zO ?_|refine zN ?_ _)); refine blk_far ?_ NB282_315.out _; (with_reducible repeat (first|refine zM ?_ _|refine zO ?_|refine zN ?_ _)); refine blk_far ?_ NB282_315.out _; (with_reducible repeat (first|refine zM ?_ _|refine zO ?_|refine zN ?_ _)); refine blk_far ?_ NB282_315.out _; (with_reducible repeat (first|refine zM ?_ _|refine zO ?_|refine zN ?_ _)); refine blk_far ?_ NB282_315.out _; (with_reducible repeat (first|refine zM ?_ _|refine zO ?_|refine zN ?_ _)); refine blk_far ?_ NB282_315.out _; (with_reducible repeat (first|refine zM ?_ _|refine zO ?_|refine zN ?_ _)); exact BK282.out) hg (Kd.R_ne HO_9.out BK282.out (by decide))); have n6_ := zA (blk_grown (bkT BK283.out) hg (Kd.R_ne HO_9.out BK283.out (by decide))); have n7_ := zA (Kd.R_over' (rrA12 (zC (zC (zB (p := ⟨gb282,4,none⟩) (zB (p := ⟨gb282,3,none⟩) (zB (p := ⟨gb282,2,none⟩) (zB (p := ⟨gb282,1,none⟩) (zB (p := ⟨gb282,0,none⟩) (zB (p := ⟨gb315,4,none⟩) (zB (p := ⟨gb315,3,none⟩) (zB (p := ⟨gb315,2,none⟩) (zB (p := ⟨gb315,1,none⟩) (zB (p := ⟨gb315,0,none⟩) (zH (zH HO307.out BK315.out (by decide)) BK282.out (by decide)) (fun _ hk => hk.1.2) (.int .i64 t303)) (fun _ hk => hk.1.2) (.int .i64 t304)) (fun _ hk => hk.1.2) (.slice Ao42 t305.length co42)) (fun _ hk => hk.1.2) (.int .i64 t308)) (fun _ hk => hk.1.2) (.slice Ao43 t309.length co43)) (fun _ h=>h.2) (.int .i64 t303)) (fun _ h=>h.2) (.int .i64 t304)) (fun _ h=>h.2) (.slice Ao42 t305.length co42)) (fun _ h=>h.2) (.int .i64 t308)) (fun _ h=>h.2) (.slice Ao43 t309.length co43)) (fun _ h_ => h_.1)) (fun _ h_ => h_.1))) (Kd.R_typed (rrA12 (zC (zC (zB (p := ⟨gb282,4,none⟩) (zB (p := ⟨gb282,3,none⟩) (zB (p := ⟨gb282,2,none⟩) (zB (p := ⟨gb282,1,none⟩) (zB (p := ⟨gb282,0,none⟩) (zB (p := ⟨gb315,4,none⟩) (zB (p := ⟨gb315,3,none⟩) (zB (p := ⟨gb315,2,none⟩) (zB (p := ⟨gb315,1,none⟩) (zB (p := ⟨gb315,0,none⟩) (zH (zH HO_9.out BK315.out (by decide)) BK282.out (by decide)) (fun _ hk => hk.1.2) (.int .i64 t303)) (fun _ hk => hk.1.2) (.int .i64 t304)) (fun _ hk => hk.1.2) (.slice Ao42 t305.length co42)) (fun _ hk => hk.1.2) (.int .i64 t308)) (fun _ hk => hk.1.2) (.slice Ao43 t309.length co43)) (fun _ h=>h.2) (.int .i64 t303)) (fun _ h=>h.2) (.int .i64 t304)) (fun _ h=>h.2) (.slice Ao42 t305.length co42)) (fun _ h=>h.2) (.int .i64 t308)) (fun _ h=>h.2) (.slice Ao43 t309.length co43)) (fun _ h_ => h_.1)) (fun _ h_ => h_.1)))) (by decide) hg); have n8_ := zA (Kd.R_over' (rrA12 (zC (zC (zB (p := ⟨gb282,4,none⟩) (zB (p := ⟨gb282,3,none⟩) (zB (p := ⟨gb282,2,none⟩) (zB (p := ⟨gb282,1,none⟩) (zB (p := ⟨gb282,0,none⟩) (zB (p := ⟨gb315,4,none⟩) (zB (p := ⟨gb315,3,none⟩) (zB (p := ⟨gb315,2,none⟩) (zB (p := ⟨gb315,1,none⟩) (zB (p := ⟨gb315,0,none⟩) (zH (zH HO311.out BK315.out (by decide)) BK282.out (by decide)) (fun _ hk => hk.1.2) (.int .i64 t303)) (fun _ hk => hk.1.2) (.int .i64 t304)) (fun _ hk => hk.1.2) (.slice Ao42 t305.length co42)) (fun _ hk => hk.1.2) (.int .i64 t308)) (fun _ hk => hk.1.2) (.slice Ao43 t309.length co43)) (fun _ h=>h.2) (.int .i64 t303)) (fun _ h=>h.2) (.int .i64 t304)) (fun _ h=>h.2) (.slice Ao42 t305.length co42)) (fun _ h=>h.2) (.int .i64 t308)) (fun _ h=>h.2) (.slice Ao43 t309.length co43)) (fun _ h_ => h_.1)) (fun _ h_ => h_.1))) (Kd.R_typed (rrA12 (zC (zC (zB (p := ⟨gb282,4,none⟩) (zB (p := ⟨gb282,3,none⟩) (zB (p := ⟨gb282,2,none⟩) (zB (p := ⟨gb282,1,none⟩) (zB (p := ⟨gb282,0,none⟩) (zB (p := ⟨gb315,4,none⟩) (zB (p := ⟨gb315,3,none⟩) (zB (p := ⟨gb315,2,none⟩) (zB (p := ⟨gb315,1,none⟩) (zB (p := ⟨gb315,0,none⟩) (zH (zH HO_9.out BK315.out (by decide)) BK282.out (by decide)) (fun _ hk => hk.1.2) (.int .i64 t303)) (fun _ hk => hk.1.2) (.int .i64 t304)) (fun _ hk => hk.1.2) (.slice Ao42 t305.length co42)) (fun _ hk => hk.1.2) (.int .i64 t308)) (fun _ hk => hk.1.2) (.slice Ao43 t309.length co43)) (fun _ h=>h.2) (.int .i64 t303)) (fun _ h=>h.2) (.int .i64 t304)) (fun _ h=>h.2) (.slice Ao42 t305.length co42)) (fun _ h=>h.2) (.int .i64 t308)) (fun _ h=>h.2) (.slice Ao43 t309.length co43)) (fun _ h_ => h_.1)) (fun _ h_ => h_.1)))) (by decide) hg); have n9_ := zA (Kd.R_after (ok := (fun k_ => some k_ ≠ (u10 : Value).ownBlock)) (by (with_reducible repeat (first|apply zJ|apply zK|apply zL)); exact zC (zB (p := ⟨gb282,4,none⟩) (zB (p := ⟨gb282,3,none⟩) (zB (p := ⟨gb282,2,none⟩) (zB (p := ⟨gb282,1,none⟩) (zB (p := ⟨gb282,0,none⟩) (zB (p := ⟨gb315,4,none⟩) (zB (p := ⟨gb315,3,none⟩) (zB (p := ⟨gb315,2,none⟩) (zB (p := ⟨gb315,1,none⟩) (zB (p := ⟨gb315,0,none⟩) (zH (zH HO314.out BK315.out (by decide)) BK282.out (by decide)) (fun _ hk => hk.1.2) (.int .i64 t303)) (fun _ hk => hk.1.2) (.int .i64 t304)) (fun _ hk => hk.1.2) (.slice Ao42 t305.length co42)) (fun _ hk => hk.1.2) (.int .i64 t308)) (fun _ hk => hk.1.2) (.slice Ao43 t309.length co43)) (fun _ h=>h.2) (.int .i64 t303)) (fun _ h=>h.2) (.int .i64 t304)) (fun _ h=>h.2) (.slice Ao42 t305.length co42)) (fun _ h=>h.2) (.int .i64 t308)) (fun _ h=>h.2) (.slice Ao43 t309.length co43)) (fun _ hk => ⟨hk.1.1.2,hk.1.1.1.2⟩)) hg hat); have n10_ := zA (blk_grown (g := gb315) (o := .cells #[.int .i64 t303,.int .i64 t304,.slice Ao42 t305.length co42,.int .i64 t308,.slice Ao43 t309.length co43] 26 (0,0)) (by (with_reducible repeat (first|refine zM ?_ _|refine zO ?_|refine zN ?_ _)); refine blk_far ?_ NB315_282.out _; (with_reducible repeat (first|refine zM ?_ _|refine zO ?_|refine zN ?_ _)); refine blk_far ?_ NB315_282.out _; (with_reducible repeat (first|refine zM ?_ _|refine zO ?_|refine zN ?_ _)); refine blk_far ?_ NB315_282.out _; (with_reducible repeat (first|refine zM ?_ _|refine zO ?_|refine zN ?_ _)); refine blk_far ?_ NB315_282.out _; (with_reducible repeat (first|refine zM ?_ _|refine zO ?_|refine zN ?_ _)); refine blk_far ?_ NB315_282.out _; (with_reducible repeat (first|refine zM ?_ _|refine zO ?_|refine zN ?_ _)); refine blk_put (cs := #[.int .i64 t303,.int .i64 t304,.slice Ao42 t305.length co42,.int .i64 t308,.slice none 0 0]) ?_ 4 _ rfl; (with_reducible repeat (first|refine zM ?_ _|refine zO ?_|refine zN ?_ _)); refine blk_put (cs := #[.int .i64 t303,.int .i64 t304,.slice Ao42 t305.length co42,.int .i64 0,.slice none 0 0]) ?_ 3 _ rfl; (with_reducible repeat (first|refine zM ?_ _|refine zO ?_|refine zN ?_ _)); refine blk_put (cs := #[.int .i64 t303,.int .i64 t304,.slice none 0 0,.int .i64 0,.slice none 0 0]) ?_ 2 _ rfl; (with_reducible repeat (first|refine zM ?_ _|refine zO ?_|refine zN ?_ _)); refine blk_put (cs := #[.int .i64 t303,.int .i64 0,.slice none 0 0,.int .i64 0,.slice none 0 0]) ?_ 1 _ rfl; (with_reducible repeat (first|refine zM ?_ _|refine zO ?_|refine zN ?_ _)); refine blk_put (cs := #[.int .i64 0,.int .i64 0,.slice none 0 0,.int .i64 0,.slice none 0 0]) ?_ 0 _ rfl; (with_reducible repeat (first|refine zM ?_ _|refine zO ?_|refine zN ?_ _)); exact BK315.out) hg (Kd.R_ne HO_9.out BK315.out (by decide))); have n11_ := zA (hb); have n12_ := zA (ho); clear HO_10 HO_283002 HO_283004 HO_284002 HO_284004 BK282 BK283 HO307 HO311 HO314 BK315 HB HO_9; have HO_10 := n0_; have HO_283002 := n1_; have HO_283004 := n2_; have HO_284002 := n3_; have HO_284004 := n4_; have BK282 := n5_; have BK283 := n6_; have HO307 := n7_; have HO311 := n8_; have HO314 := n9_; have BK315 := n10_; have HB := n11_; have HO318 := n12_; clear n0_ n1_ n2_ n3_ n4_ n5_ n6_ n7_ n8_ n9_ n10_ n11_ n12_ ho hb hg hat))
            go_roundg k2
            case measure => have := HK1.out; have := HK2.out; omega
            case rel => exact ⟨(y316),(x10_2),(wrap64 (x11_2 + 1)),(t303),(t304),(t305),(t308),(t309),(x284000_2),(x284001_2),(x284002_2),(x284003_2),(x284004_2),(.slice Ao42 t305.length co42),(.slice Ao43 t309.length co43),(u284002),(u284004),(by first|rfl|(simp; done)|(simp [*]; done)),H',⟨by have := HK1.out; have := HK2.out; omega⟩,⟨by (with_reducible repeat (first|apply zJ|apply zK|apply zL)); exact zC HO318.out (fun _ hk => hk.1)⟩,⟨by (with_reducible repeat (first|apply zJ|apply zK|apply zL)); exact zC HO_10.out (fun _ h=>h.2)⟩,⟨by (with_reducible repeat (first|apply zJ|apply zK|apply zL)); exact zC HO307.out (fun _ hk => ⟨hk.1.1.1.1,⟨hk.1.2,hk.2⟩⟩)⟩,⟨by (with_reducible repeat (first|apply zJ|apply zK|apply zL)); exact zC HO311.out (fun _ hk => ⟨hk.1.1.1.1,⟨hk.1.2,hk.2⟩⟩)⟩,⟨by (with_reducible repeat (first|apply zJ|apply zK|apply zL)); exact zC HO_284002.out (fun _ hk => ⟨hk.1.2,⟨hk.2,hk.1.1.2.2⟩⟩)⟩,⟨by (with_reducible repeat (first|apply zJ|apply zK|apply zL)); exact zC HO_284004.out (fun _ hk => ⟨hk.1.2,⟨hk.2,hk.1.1.2.2⟩⟩)⟩,⟨(bkT BK282.out)⟩,⟨(bkT BK283.out)⟩,⟨bT HB⟩⟩
           ·
            rw [if_neg c32] at H
            exact absurd H (by simp)
          ·
           rw [if_neg c30] at H
           have c30b0 : ((Int.tmod (rd l1 x11_2) 4) == 0) = false := beq_eq_false_iff_ne.mpr c30
           have c30b1 : ((Int.tmod (rd l1 x11_2) 4) != 0) = true := bne_iff_ne.mpr c30
           by_cases c47 : (Int.tmod (rd l1 x11_2) 4) = 1
           ·
            rw [if_pos c47] at H
            have c47b0 : ((Int.tmod (rd l1 x11_2) 4) == 1) = true := beq_iff_eq.mpr c47
            have c47b1 : ((Int.tmod (rd l1 x11_2) 4) != 1) = false := bne_eq_false_iff_eq.mpr c47
            clear c47
            replace H := Option.bind_eq_some_iff.mp H
            obtain ⟨t319,A480,H⟩ := H
            replace H : (if x9_2.length + t319.length < 4398046511104 then (spec_Talk.l1 k2 l0 l1 (x9_2 ++ t319) x10_2 (wrap64 (x11_2 + 1)) x283000_2 x283001_2 x283002_2 x283003_2 x283004_2 x284000_2 x284001_2 x284002_2 x284003_2 x284004_2) else (none)) = some (r1,r2) := H
            have A48 := zA A480
            clear A480
            by_cases c49 : x9_2.length + t319.length < 4398046511104
            ·
             rw [if_pos c49] at H
             have LMc49 := zA c49
             clear c49
             obtain ⟨y322,hy322⟩ : ∃ y_ : List (S36),y_ = (x9_2 ++ t319) := ⟨_,rfl⟩
             replace H : (spec_Talk.l1 k2 l0 l1 y322 x10_2 (wrap64 (x11_2 + 1)) x283000_2 x283001_2 x283002_2 x283003_2 x283004_2 x284000_2 x284001_2 x284002_2 x284003_2 x284004_2) = some (r1,r2) := by first | (rw [hy322]; with_reducible exact H) | (have H2_ := (Option.bind_some _ _).symm.trans H; rw [hy322]; with_reducible exact H2_) | (have H2_ := (Option.bind_some _ _).symm.trans H; with_reducible exact H2_)|with_reducible exact H | (rw [hy322]; exact H)|exact H
             have Ny322 := zA hy322
             clear hy322
             have H' := zA H
             clear H
             have p301 : 0 ≤ (x11_2 : Int) := of_decide_eq_true (by first|(with_reducible assumption) | assumption)
             have q301 : x11_2 < (l1.length : Int) := of_decide_eq_true (by first|(with_reducible assumption) | assumption)
             obtain ⟨ad301,e301,hx301_0⟩ := Kd.at_int HR1.out x11_2 p301 q301
             cases e301
             replace hx301_0 := (HB.out.cell (World.block_lt_of_cell? w _ hx301_0)).trans hx301_0
             replace p301 := eq_true p301
             replace q301 := eq_true q301
             have p302 : 0 ≤ (x11_2 : Int) := of_decide_eq_true (by first|(with_reducible assumption) | assumption)
             have q302 : x11_2 < (l1.length : Int) := of_decide_eq_true (by first|(with_reducible assumption) | assumption)
             obtain ⟨ad302,e302,hx302_0⟩ := Kd.at_int HR1.out x11_2 p302 q302
             obtain rfl : ad301 = ad302 := (by injection e302)
             replace hx302_0 := (HB.out.cell (World.block_lt_of_cell? w _ hx302_0)).trans hx302_0
             replace p302 := eq_true p302
             replace q302 := eq_true q302
             have hnb50 := NB282_283.out
             have hnc50 := NB283_282.out
             obtain ⟨_,_,_,_,_,_,_,_,_,_⟩ := cz5 BK282.out
             obtain ⟨Ao52,co52,eo52⟩ := Kd.R_slice HO_283002.out
             subst eo52
             obtain ⟨Ao53,co53,eo53⟩ := Kd.R_slice HO_283004.out
             subst eo53
             go_wp2_with (first | ((with_reducible refine gate_callee (f := 26) rfl ?_); refine goesL_ (some 91) rfl rfl Try.func26 (by kernel_rfl) rfl #[.agg #[.int .i64 x283000_2,.int .i64 x283001_2,.slice Ao52 x283002_2.length co52,.int .i64 x283003_2,.slice Ao53 x283004_2.length co53]] rfl (by (try simp only [List.map_toArray,List.map_cons,List.map_nil]); first | done|rfl|(simp only [List.length_drop,List.length_take]; rfl)) ?_; (with_reducible refine (spec_SendAgain.calls k2 x283000_2 x283001_2 _ _ x283002_2 x283003_2 _ _ x283004_2 t319 _ ?side1 ?side2 ?side3 ?side4 A48.out).mono ?_); (case side1 => exact ccT ((zI HO_283002.out).2.2)); (case side2 => exact (zI HO_283002.out).2.1); (case side3 => exact ccT ((zI HO_283004.out).2.2)); (case side4 => exact (zI HO_283004.out).2.1); rintro e w54 ⟨v320,rfl,ho0,hb⟩; refine ⟨_,rfl,?_⟩; have n0_ := zA (Kd.R_elder' (rrA12 HO_9.out) (zF ho0) hb); have n1_ := zA (Kd.R_elder' (rrA12 HO_10.out) (zF ho0) hb); have n2_ := zA (zD (rrA12 HO_283002.out) hb); have n3_ := zA (zD (rrA12 HO_283004.out) hb); have n4_ := zA (zD (rrA12 HO_284002.out) hb); have n5_ := zA (zD (rrA12 HO_284004.out) hb); have n6_ := zA (Kd.R_lower (zG (zG ho0 (Kd.R_lt (rrA12 HO_9.out))) (Kd.R_lt (rrA12 HO_10.out))) (below_size (bT HB))); have n7_ := zA (zP (bkT BK282.out) hb); have n8_ := zA (zP (bkT BK283.out) hb); have n9_ := zA (zR (bT HB) hb); clear HO_9 HO_10 HO_283002 HO_283004 HO_284002 HO_284004 BK282 BK283 HB; have HO_9 := n0_; have HO_10 := n1_; have HO_283002 := n2_; have HO_283004 := n3_; have HO_284002 := n4_; have HO_284004 := n5_; have HO321 := n6_; have BK282 := n7_; have BK283 := n8_; have HB := n9_; clear n0_ n1_ n2_ n3_ n4_ n5_ n6_ n7_ n8_ n9_; obtain ⟨Ao56,co56,eo56⟩ := Kd.R_slice HO321.out; subst eo56) | ((with_reducible refine gate_builtin (b := .append) (xs := #[.tmp 89,.tmp 91]) rfl ?_); at_builtin; refine Kd.R_append_rows k36 (w0 := w) w.heap.size rfl (.tmp 89) (.tmp 91) 45 36 (.agg #[(.int .i64 0),(.int .i64 0),(.string ⟨#[]⟩)]) 32 rfl Try.underlying45 info36 rfl (by decide) (by omega) u9 x9_2 t319 _ _ _ (fun k_ => some k_ ≠ (u10 : Value).ownBlock ∧ some k_ ≠ (.slice Ao56 t319.length co56 : Value).ownBlock) (fun _ => False) rfl rfl ?aO ?aR (fun _ _ h => h) (fun _ h => h.elim) ?aF ?aB ?aS ?aL ?_; (case aR => exact ccT ((zI HO321.out).2.2)); (case aB => exact (bT HB)); (case aF => exact (fun k_ hk => ⟨Kd.fresh' (Kd.R_lt (rrA12 HO_10.out)) k_ hk,Kd.fresh' (Kd.R_lt (rrA12 HO321.out)) k_ hk⟩)); (case aO => exact (rrA12 HO_9.out)); (case aS => exact (below_size (bT HB))); (case aL => have := LMc49.out; omega); intro v323 w55 ho hb hg hat; rw [← Ny322.out] at ho; have n0_ := zA (Kd.R_after (ok := (fun k_ => some k_ ≠ (.slice Ao56 t319.length co56 : Value).ownBlock)) (by (with_reducible repeat (first|apply zJ|apply zK|apply zL)); exact zC HO_10.out (fun _ hk => ⟨hk.2,hk.1⟩)) hg hat); have n1_ := zA (Kd.R_over' (rrA12 HO_283002.out) (Kd.R_typed (rrA12 HO_9.out)) (by decide) hg); have n2_ := zA (Kd.R_over' (rrA12 HO_283004.out) (Kd.R_typed (rrA12 HO_9.out)) (by decide) hg); have n3_ := zA (Kd.R_over' (rrA12 HO_284002.out) (Kd.R_typed (rrA12 HO_9.out)) (by decide) hg); have n4_ := zA (Kd.R_over' (rrA12 HO_284004.out) (Kd.R_typed (rrA12 HO_9.out)) (by decide) hg); have n5_ := zA (blk_grown (bkT BK282.out) hg (Kd.R_ne HO_9.out BK282.out (by decide))); have n6_ := zA (blk_grown (bkT BK283.out) hg (Kd.R_ne HO_9.out BK283.out (by decide))); have n7_ := zA (Kd.R_after (ok := (fun k_ => some k_ ≠ (u10 : Value).ownBlock)) (by (with_reducible repeat (first|apply zJ|apply zK|apply zL)); exact zC HO321.out (fun _ hk => ⟨hk.2,hk.1.2⟩)) hg hat); have n8_ := zA (hb); have n9_ := zA (ho); clear HO_10 HO_283002 HO_283004 HO_284002 HO_284004 BK282 BK283 HO321 HB HO_9; have HO_10 := n0_; have HO_283002 := n1_; have HO_283004 := n2_; have HO_284002 := n3_; have HO_284004 := n4_; have BK282 := n5_; have BK283 := n6_; have HO321 := n7_; have HB := n8_; have HO324 := n9_; clear n0_ n1_ n2_ n3_ n4_ n5_ n6_ n7_ n8_ n9_ ho hb hg hat))
             go_roundg k2
             case measure => have := HK1.out; have := HK2.out; omega
             case rel => exact ⟨(y322),(x10_2),(wrap64 (x11_2 + 1)),(x283000_2),(x283001_2),(x283002_2),(x283003_2),(x283004_2),(x284000_2),(x284001_2),(x284002_2),(x284003_2),(x284004_2),(.slice Ao52 x283002_2.length co52),(.slice Ao53 x283004_2.length co53),(u284002),(u284004),(by first|rfl|(simp; done)|(simp [*]; done)),H',⟨by have := HK1.out; have := HK2.out; omega⟩,⟨by (with_reducible repeat (first|apply zJ|apply zK|apply zL)); exact zC HO324.out (fun _ hk => hk.1)⟩,⟨by (with_reducible repeat (first|apply zJ|apply zK|apply zL)); exact zC HO_10.out (fun _ h=>h.2)⟩,⟨(rrA12 HO_283002.out)⟩,⟨(rrA12 HO_283004.out)⟩,⟨(rrA12 HO_284002.out)⟩,⟨(rrA12 HO_284004.out)⟩,⟨(bkT BK282.out)⟩,⟨(bkT BK283.out)⟩,⟨bT HB⟩⟩
            ·
             rw [if_neg c49] at H
             exact absurd H (by simp)
           ·
            rw [if_neg c47] at H
            have c47b0 : ((Int.tmod (rd l1 x11_2) 4) == 1) = false := beq_eq_false_iff_ne.mpr c47
            have c47b1 : ((Int.tmod (rd l1 x11_2) 4) != 1) = true := bne_iff_ne.mpr c47
            by_cases c57 : (Int.tmod (rd l1 x11_2) 4) = 2
            ·
             rw [if_pos c57] at H
             have c57b0 : ((Int.tmod (rd l1 x11_2) 4) == 2) = true := beq_iff_eq.mpr c57
             have c57b1 : ((Int.tmod (rd l1 x11_2) 4) != 2) = false := bne_eq_false_iff_eq.mpr c57
             clear c57
             by_cases c58 : (x9_2.length : Int) > 0
             ·
              rw [if_pos c58] at H
              have c58b0 : decide (0 < (x9_2.length : Int)) = true := decide_eq_true c58
              have c58b1 : decide (0 < x9_2.length) = true := decide_eq_true (by omega)
              clear c58
              by_cases c59 : ((Int.tmod (wrap64 (Int.tdiv (rd l1 x11_2) 4)) 2) = 1)
              ·
               rw [if_pos c59] at H
               have c59b0 : ((Int.tmod (wrap64 (Int.tdiv (rd l1 x11_2) 4)) 2) == 1) = true := beq_iff_eq.mpr c59
               have c59b1 : ((Int.tmod (wrap64 (Int.tdiv (rd l1 x11_2) 4)) 2) != 1) = false := bne_eq_false_iff_eq.mpr c59
               clear c59
               obtain ⟨y325,hy325⟩ : ∃ y_ : List (S36),y_ = (([] : List (S36))) := ⟨_,rfl⟩
               replace H : (if 1 ≤ (x9_2.length : Int) then ((some (x9_2.drop 1 : List (S36))).bind fun y328 => (if y325.length + y328.length < 4398046511104 then (spec_Talk.l1 k2 l0 l1 (y325 ++ y328) x10_2 (wrap64 (x11_2 + 1)) x283000_2 x283001_2 x283002_2 x283003_2 x283004_2 x284000_2 x284001_2 x284002_2 x284003_2 x284004_2) else (none))) else (none)) = some (r1,r2) := by first | (rw [hy325]; with_reducible exact H) | (have H2_ := (Option.bind_some _ _).symm.trans H; rw [hy325]; with_reducible exact H2_) | (have H2_ := (Option.bind_some _ _).symm.trans H; with_reducible exact H2_)|with_reducible exact H | (rw [hy325]; exact H)|exact H
               have Ny325 := zA hy325
               clear hy325
               by_cases c60 : 1 ≤ (x9_2.length : Int)
               ·
                rw [if_pos c60] at H
                have c60b0 := eq_true c60
                have c60b1 : decide (1 ≤ (x9_2.length : Int)) = true := decide_eq_true c60
                clear c60
                obtain ⟨y328,hy328⟩ : ∃ y_ : List (S36),y_ = (x9_2.drop 1) := ⟨_,rfl⟩
                replace H : (if y325.length + y328.length < 4398046511104 then (spec_Talk.l1 k2 l0 l1 (y325 ++ y328) x10_2 (wrap64 (x11_2 + 1)) x283000_2 x283001_2 x283002_2 x283003_2 x283004_2 x284000_2 x284001_2 x284002_2 x284003_2 x284004_2) else (none)) = some (r1,r2) := by first | (rw [hy328]; with_reducible exact H) | (have H2_ := (Option.bind_some _ _).symm.trans H; rw [hy328]; with_reducible exact H2_) | (have H2_ := (Option.bind_some _ _).symm.trans H; with_reducible exact H2_)|with_reducible exact H | (rw [hy328]; exact H)|exact H
                have Ny328 := zA hy328
                clear hy328
                by_cases c61 : y325.length + y328.length < 4398046511104
                ·
                 rw [if_pos c61] at H
                 have LMc61 := zA c61
                 clear c61
                 obtain ⟨y332,hy332⟩ : ∃ y_ : List (S36),y_ = (y325 ++ y328) := ⟨_,rfl⟩
                 replace H : (spec_Talk.l1 k2 l0 l1 y332 x10_2 (wrap64 (x11_2 + 1)) x283000_2 x283001_2 x283002_2 x283003_2 x283004_2 x284000_2 x284001_2 x284002_2 x284003_2 x284004_2) = some (r1,r2) := by first | (rw [hy332]; with_reducible exact H) | (have H2_ := (Option.bind_some _ _).symm.trans H; rw [hy332]; with_reducible exact H2_) | (have H2_ := (Option.bind_some _ _).symm.trans H; with_reducible exact H2_)|with_reducible exact H | (rw [hy332]; exact H)|exact H
                 have Ny332 := zA hy332
                 clear hy332
                 have H' := zA H
                 clear H
                 have p301 : 0 ≤ (x11_2 : Int) := of_decide_eq_true (by first|(with_reducible assumption) | assumption)
                 have q301 : x11_2 < (l1.length : Int) := of_decide_eq_true (by first|(with_reducible assumption) | assumption)
                 obtain ⟨ad301,e301,hx301_0⟩ := Kd.at_int HR1.out x11_2 p301 q301
                 cases e301
                 replace hx301_0 := (HB.out.cell (World.block_lt_of_cell? w _ hx301_0)).trans hx301_0
                 replace p301 := eq_true p301
                 replace q301 := eq_true q301
                 have p302 : 0 ≤ (x11_2 : Int) := of_decide_eq_true (by first|(with_reducible assumption) | assumption)
                 have q302 : x11_2 < (l1.length : Int) := of_decide_eq_true (by first|(with_reducible assumption) | assumption)
                 obtain ⟨ad302,e302,hx302_0⟩ := Kd.at_int HR1.out x11_2 p302 q302
                 obtain rfl : ad301 = ad302 := (by injection e302)
                 replace hx302_0 := (HB.out.cell (World.block_lt_of_cell? w _ hx302_0)).trans hx302_0
                 replace p302 := eq_true p302
                 replace q302 := eq_true q302
                 obtain ⟨Ao62,co62,eo62⟩ := Kd.R_slice HO_9.out
                 subst eo62
                 go_wp2_with (first | ((with_reducible refine gate_dst (N := 112) rfl ?_); refine Kd.R_lit k36 _ 36 ?hg (N := 112) ?hd (xs := ([] : List (S36))) (inner := []) (ok := fun _ => True) (okp := fun _ => True) ?hr ?hp (fun _ hk => hk) trivial (Below.refl _ _) (Nat.le_refl _) (by simp) ?_; (case hd => rfl); (case hg => rfl); (case hr => first | (go_simp; done) | (go_simp; rfl)); (case hp => exact (Reps.none _ _)); intro v326 w63 ho64 hb hg_ hnew_; clear hg_ hnew_; (first | rw [← Ny325.out] at ho64|(simp only [Int.reduceToNat] at ho64; rw [← Ny325.out] at ho64)); have n0_ := zA (Kd.R_elder' (rrA12 HO_9.out) (zF ho64) hb); have n1_ := zA (Kd.R_elder' (rrA12 HO_10.out) (zF ho64) hb); have n2_ := zA (zD (rrA12 HO_283002.out) hb); have n3_ := zA (zD (rrA12 HO_283004.out) hb); have n4_ := zA (zD (rrA12 HO_284002.out) hb); have n5_ := zA (zD (rrA12 HO_284004.out) hb); have n6_ := zA (Kd.R_lower (zG (zG ho64 (Kd.R_lt (rrA12 HO_9.out))) (Kd.R_lt (rrA12 HO_10.out))) (below_size (bT HB))); have n7_ := zA (zP (bkT BK282.out) hb); have n8_ := zA (zP (bkT BK283.out) hb); have n9_ := zA (zR (bT HB) hb); clear HO_9 HO_10 HO_283002 HO_283004 HO_284002 HO_284004 BK282 BK283 HB; have HO_9 := n0_; have HO_10 := n1_; have HO_283002 := n2_; have HO_283004 := n3_; have HO_284002 := n4_; have HO_284004 := n5_; have HO327 := n6_; have BK282 := n7_; have BK283 := n8_; have HB := n9_; clear n0_ n1_ n2_ n3_ n4_ n5_ n6_ n7_ n8_ n9_ hb ho64; have q65 : (1 : Int) ≤ ((x9_2.length : Int) : Int) := of_decide_eq_true (by first|(with_reducible assumption) | assumption); obtain ⟨i065,hi065,_,hsz65,_⟩ := info_parts info36; have hroom65 : x9_2.length ≤ co62 := (zI HO_9.out).2.1; have hC65 : Kd.C k36 _ Ao62 x9_2.length x9_2 := (zI HO_9.out).2.2; have hcut65 := cut_from (P := Try.prog) 45 36 .i64 Try.underlying45 hi065 3 hsz65 Ao62 x9_2.length co62 1 (by omega) q65; have hr65 := Kd.C_drop (m := (1 : Int).toNat) (c := co62) hC65 (by omega) hroom65; obtain ⟨A65,hA65⟩ : ∃ A1,A1 = (if co62 = (1 : Int).toNat then Ao62 else (Ao62 : Option Addr).map (·.add ((1 : Int).toNat * 3))) := ⟨_,rfl⟩; obtain ⟨c65,hc65⟩ : ∃ c1,c1 = co62 - (1 : Int).toNat := ⟨_,rfl⟩; have hy65 : y328.length = x9_2.length - (1 : Int).toNat := (by rw [Ny328.out,List.length_drop] <;> omega); rw [show (x9_2).drop (1 : Int).toNat = y328 from Ny328.out.symm] at hr65; replace hr65 : Kd.C k36 _ A65 y328.length y328 := (by rw [hA65]; exact hr65); rw [← hy65,← hA65,← hc65] at hcut65; have HR331 := zA hr65; have HC331 := zA (show y328.length ≤ c65 from by rw [hy65,hc65]; exact Nat.sub_le_sub_right hroom65 _); clear hr65 hC65 hroom65 hi065 hsz65 hc65; have KY65 := zA hy65; have KA65 := zA hA65; clear hy65 hA65; have KL65 := zA (show 1 ≤ x9_2.length from by omega); replace q65 := eq_true q65) | ((with_reducible refine gate_builtin (b := .append) (xs := #[.tmp 112,.tmp 114]) rfl ?_); at_builtin; refine Kd.R_append_rows k36 (w0 := w) w.heap.size rfl (.tmp 112) (.tmp 114) 45 36 (.agg #[(.int .i64 0),(.int .i64 0),(.string ⟨#[]⟩)]) 32 rfl Try.underlying45 info36 rfl (by decide) (by omega) v326 y325 y328 _ _ _ (fun k_ => some k_ ≠ (.slice Ao62 x9_2.length co62 : Value).ownBlock ∧ some k_ ≠ (u10 : Value).ownBlock) (fun _ => False) rfl rfl ?aO ?aR (fun _ _ h => h) (fun _ h => h.elim) ?aF ?aB ?aS ?aL ?_; (case aR => exact ccT ((by repeat (first|(with_reducible exact HR331.out)|(with_reducible refine Kd.C_alloc ?_ _)|(with_reducible refine Kd.C_drewN ?_ _)|(with_reducible refine Kd.C_drew ?_)|exact HR331.out)))); (case aB => exact (bT HB)); (case aF => exact (fun k_ hk => ⟨Kd.fresh' (Kd.R_lt (rrA12 HO_9.out)) k_ hk,Kd.fresh' (Kd.R_lt (rrA12 HO_10.out)) k_ hk⟩)); (case aO => exact (by (with_reducible repeat (first|apply zJ|apply zK|apply zL)); exact zC HO327.out (fun _ hk => ⟨hk.1.2,hk.2⟩))); (case aS => exact (below_size (bT HB))); (case aL => have := LMc61.out; omega); intro v333 w66 ho hb hg hat; rw [← Ny332.out] at ho; have n0_ := zA (Kd.R_after (ok := (fun k_ => some k_ ≠ (u10 : Value).ownBlock)) (rrA12 HO_9.out) hg hat); have n1_ := zA (Kd.R_after (ok := (fun k_ => some k_ ≠ (.slice Ao62 x9_2.length co62 : Value).ownBlock)) (rrA12 HO_10.out) hg hat); have n2_ := zA (Kd.R_over' (rrA12 HO_283002.out) (Kd.R_typed (rrA12 HO327.out)) (by decide) hg); have n3_ := zA (Kd.R_over' (rrA12 HO_283004.out) (Kd.R_typed (rrA12 HO327.out)) (by decide) hg); have n4_ := zA (Kd.R_over' (rrA12 HO_284002.out) (Kd.R_typed (rrA12 HO327.out)) (by decide) hg); have n5_ := zA (Kd.R_over' (rrA12 HO_284004.out) (Kd.R_typed (rrA12 HO327.out)) (by decide) hg); have n6_ := zA (blk_grown (bkT BK282.out) hg (Kd.R_ne HO327.out BK282.out (by decide))); have n7_ := zA (blk_grown (bkT BK283.out) hg (Kd.R_ne HO327.out BK283.out (by decide))); have n8_ := zA (hb); have n9_ := zA ((show Kd.C k36 w66 A65 y328.length y328 from by rw [Ny328.out,KA65.out]; exact Kd.C_drop (m := 1) (c := co62) ((zI (Kd.R_after (ok := (fun k_ => some k_ ≠ (u10 : Value).ownBlock)) (rrA12 HO_9.out) hg hat)).2.2) KL65.out ((zI (Kd.R_after (ok := (fun k_ => some k_ ≠ (u10 : Value).ownBlock)) (rrA12 HO_9.out) hg hat)).2.1))); have n10_ := zA (ho); clear HO_9 HO_10 HO_283002 HO_283004 HO_284002 HO_284004 BK282 BK283 HB HR331 HO327; have HO_9 := n0_; have HO_10 := n1_; have HO_283002 := n2_; have HO_283004 := n3_; have HO_284002 := n4_; have HO_284004 := n5_; have BK282 := n6_; have BK283 := n7_; have HB := n8_; have HR331 := n9_; have HO334 := n10_; clear n0_ n1_ n2_ n3_ n4_ n5_ n6_ n7_ n8_ n9_ n10_ ho hb hg hat))
                 go_roundg k2
                 case measure => have := HK1.out; have := HK2.out; omega
                 case rel => exact ⟨(y332),(x10_2),(wrap64 (x11_2 + 1)),(x283000_2),(x283001_2),(x283002_2),(x283003_2),(x283004_2),(x284000_2),(x284001_2),(x284002_2),(x284003_2),(x284004_2),(u283002),(u283004),(u284002),(u284004),(by first|rfl|(simp; done)|(simp [*]; done)),H',⟨by have := HK1.out; have := HK2.out; omega⟩,⟨by (with_reducible repeat (first|apply zJ|apply zK|apply zL)); exact zC HO334.out (fun _ h=>h.2)⟩,⟨by (with_reducible repeat (first|apply zJ|apply zK|apply zL)); exact zC HO_10.out (fun _ h=>h.2)⟩,⟨(rrA12 HO_283002.out)⟩,⟨(rrA12 HO_283004.out)⟩,⟨(rrA12 HO_284002.out)⟩,⟨(rrA12 HO_284004.out)⟩,⟨(bkT BK282.out)⟩,⟨(bkT BK283.out)⟩,⟨bT HB⟩⟩
                ·
                 rw [if_neg c61] at H
                 exact absurd H (by simp)
               ·
                rw [if_neg c60] at H
                exact absurd H (by simp)
              ·
               rw [if_neg c59] at H
               have c59b0 : ((Int.tmod (wrap64 (Int.tdiv (rd l1 x11_2) 4)) 2) == 1) = false := beq_eq_false_iff_ne.mpr c59
               have c59b1 : ((Int.tmod (wrap64 (Int.tdiv (rd l1 x11_2) 4)) 2) != 1) = true := bne_iff_ne.mpr c59
               by_cases c67 : 0 < (x9_2.length : Int)
               ·
                rw [if_pos c67] at H
                have c67b0 : decide (0 < (x9_2.length : Int)) = true := decide_eq_true c67
                have c67b1 : decide (0 < x9_2.length) = true := decide_eq_true (by omega)
                clear c67
                replace H := Option.bind_eq_some_iff.mp H
                obtain ⟨⟨t336,t337,t338,t341,t342,t345⟩,A680,H⟩ := H
                replace H : ((spec_SendAgain.f k2 t336 t337 t338 t341 t342).bind fun t346 => (if x10_2.length + t346.length < 4398046511104 then ((some (([] : List (S36)) : List (S36))).bind fun y352 => (if 1 ≤ (x9_2.length : Int) then ((some (x9_2.drop 1 : List (S36))).bind fun y355 => (if y352.length + y355.length < 4398046511104 then (spec_Talk.l1 k2 l0 l1 (y352 ++ y355) (x10_2 ++ t346) (wrap64 (x11_2 + 1)) x283000_2 x283001_2 x283002_2 x283003_2 x283004_2 t336 t337 t338 t341 t342) else (none))) else (none))) else (none))) = some (r1,r2) := H
                have A68 := zA A680
                clear A680
                replace H := Option.bind_eq_some_iff.mp H
                obtain ⟨t346,A690,H⟩ := H
                replace H : (if x10_2.length + t346.length < 4398046511104 then ((some (([] : List (S36)) : List (S36))).bind fun y352 => (if 1 ≤ (x9_2.length : Int) then ((some (x9_2.drop 1 : List (S36))).bind fun y355 => (if y352.length + y355.length < 4398046511104 then (spec_Talk.l1 k2 l0 l1 (y352 ++ y355) (x10_2 ++ t346) (wrap64 (x11_2 + 1)) x283000_2 x283001_2 x283002_2 x283003_2 x283004_2 t336 t337 t338 t341 t342) else (none))) else (none))) else (none)) = some (r1,r2) := H
                have A69 := zA A690
                clear A690
                by_cases c70 : x10_2.length + t346.length < 4398046511104
                ·
                 rw [if_pos c70] at H
                 have LMc70 := zA c70
                 clear c70
                 obtain ⟨y349,hy349⟩ : ∃ y_ : List (S36),y_ = (x10_2 ++ t346) := ⟨_,rfl⟩
                 replace H : ((some (([] : List (S36)) : List (S36))).bind fun y352 => (if 1 ≤ (x9_2.length : Int) then ((some (x9_2.drop 1 : List (S36))).bind fun y355 => (if y352.length + y355.length < 4398046511104 then (spec_Talk.l1 k2 l0 l1 (y352 ++ y355) y349 (wrap64 (x11_2 + 1)) x283000_2 x283001_2 x283002_2 x283003_2 x283004_2 t336 t337 t338 t341 t342) else (none))) else (none))) = some (r1,r2) := by first | (rw [hy349]; with_reducible exact H) | (have H2_ := (Option.bind_some _ _).symm.trans H; rw [hy349]; with_reducible exact H2_) | (have H2_ := (Option.bind_some _ _).symm.trans H; with_reducible exact H2_)|with_reducible exact H | (rw [hy349]; exact H)|exact H
                 have Ny349 := zA hy349
                 clear hy349
                 obtain ⟨y352,hy352⟩ : ∃ y_ : List (S36),y_ = (([] : List (S36))) := ⟨_,rfl⟩
                 replace H : (if 1 ≤ (x9_2.length : Int) then ((some (x9_2.drop 1 : List (S36))).bind fun y355 => (if y352.length + y355.length < 4398046511104 then (spec_Talk.l1 k2 l0 l1 (y352 ++ y355) y349 (wrap64 (x11_2 + 1)) x283000_2 x283001_2 x283002_2 x283003_2 x283004_2 t336 t337 t338 t341 t342) else (none))) else (none)) = some (r1,r2) := by first | (rw [hy352]; with_reducible exact H) | (have H2_ := (Option.bind_some _ _).symm.trans H; rw [hy352]; with_reducible exact H2_) | (have H2_ := (Option.bind_some _ _).symm.trans H; with_reducible exact H2_)|with_reducible exact H | (rw [hy352]; exact H)|exact H
                 have Ny352 := zA hy352
                 clear hy352
                 by_cases c71 : 1 ≤ (x9_2.length : Int)
                 ·
                  rw [if_pos c71] at H
                  have c71b0 := eq_true c71
                  have c71b1 : decide (1 ≤ (x9_2.length : Int)) = true := decide_eq_true c71
                  clear c71
                  obtain ⟨y355,hy355⟩ : ∃ y_ : List (S36),y_ = (x9_2.drop 1) := ⟨_,rfl⟩
                  replace H : (if y352.length + y355.length < 4398046511104 then (spec_Talk.l1 k2 l0 l1 (y352 ++ y355) y349 (wrap64 (x11_2 + 1)) x283000_2 x283001_2 x283002_2 x283003_2 x283004_2 t336 t337 t338 t341 t342) else (none)) = some (r1,r2) := by first | (rw [hy355]; with_reducible exact H) | (have H2_ := (Option.bind_some _ _).symm.trans H; rw [hy355]; with_reducible exact H2_) | (have H2_ := (Option.bind_some _ _).symm.trans H; with_reducible exact H2_)|with_reducible exact H | (rw [hy355]; exact H)|exact H
                  have Ny355 := zA hy355
                  clear hy355
                  by_cases c72 : y352.length + y355.length < 4398046511104
                  ·
                   rw [if_pos c72] at H
                   have LMc72 := zA c72
                   clear c72
                   obtain ⟨y359,hy359⟩ : ∃ y_ : List (S36),y_ = (y352 ++ y355) := ⟨_,rfl⟩
                   replace H : (spec_Talk.l1 k2 l0 l1 y359 y349 (wrap64 (x11_2 + 1)) x283000_2 x283001_2 x283002_2 x283003_2 x283004_2 t336 t337 t338 t341 t342) = some (r1,r2) := by first | (rw [hy359]; with_reducible exact H) | (have H2_ := (Option.bind_some _ _).symm.trans H; rw [hy359]; with_reducible exact H2_) | (have H2_ := (Option.bind_some _ _).symm.trans H; with_reducible exact H2_)|with_reducible exact H | (rw [hy359]; exact H)|exact H
                   have Ny359 := zA hy359
                   clear hy359
                   have H' := zA H
                   clear H
                   have p301 : 0 ≤ (x11_2 : Int) := of_decide_eq_true (by first|(with_reducible assumption) | assumption)
                   have q301 : x11_2 < (l1.length : Int) := of_decide_eq_true (by first|(with_reducible assumption) | assumption)
                   obtain ⟨ad301,e301,hx301_0⟩ := Kd.at_int HR1.out x11_2 p301 q301
                   cases e301
                   replace hx301_0 := (HB.out.cell (World.block_lt_of_cell? w _ hx301_0)).trans hx301_0
                   replace p301 := eq_true p301
                   replace q301 := eq_true q301
                   have p302 : 0 ≤ (x11_2 : Int) := of_decide_eq_true (by first|(with_reducible assumption) | assumption)
                   have q302 : x11_2 < (l1.length : Int) := of_decide_eq_true (by first|(with_reducible assumption) | assumption)
                   obtain ⟨ad302,e302,hx302_0⟩ := Kd.at_int HR1.out x11_2 p302 q302
                   obtain rfl : ad301 = ad302 := (by injection e302)
                   replace hx302_0 := (HB.out.cell (World.block_lt_of_cell? w _ hx302_0)).trans hx302_0
                   replace p302 := eq_true p302
                   replace q302 := eq_true q302
                   obtain ⟨Ao73,co73,eo73⟩ := Kd.R_slice HO_9.out
                   subst eo73
                   try go_wp2
                   have n0_ := zA (zL HO_9.out)
                   have n1_ := zA (zL HO_10.out)
                   have n2_ := zA (zL HO_283002.out)
                   have n3_ := zA (zL HO_283004.out)
                   have n4_ := zA (zL HO_284002.out)
                   have n5_ := zA (zL HO_284004.out)
                   have n6_ := zA (zO BK282.out)
                   have n7_ := zA (zO BK283.out)
                   have n8_ := zA (below_drew1 HB.out)
                   clear HO_9 HO_10 HO_283002 HO_283004 HO_284002 HO_284004 BK282 BK283 HB
                   have HO_9 := n0_
                   have HO_10 := n1_
                   have HO_283002 := n2_
                   have HO_283004 := n3_
                   have HO_284002 := n4_
                   have HO_284004 := n5_
                   have BK282 := n6_
                   have BK283 := n7_
                   have HB := n8_
                   clear n0_ n1_ n2_ n3_ n4_ n5_ n6_ n7_ n8_
                   have p335 : 0 ≤ (0 : Int) := (by omega)
                   have q335 : 0 < (x9_2.length : Int) := of_decide_eq_true (by first|(with_reducible assumption) | assumption)
                   obtain ⟨ad335,e335,hx335_0,hx335_1,hx335_2⟩ := at_T36 (zI HO_9.out).2.2 0 p335 q335
                   cases e335
                   have qi335 : (0 < x9_2.length) = True := eq_true (by omega)
                   (try rw [show ((0 : Int)).toNat = 0 from rfl] at hx335_0)
                   (try rw [show 0 * 3 = 0 from rfl] at hx335_0)
                   (try rw [Addr.add_zero'] at hx335_0)
                   (try rw [show ((0 : Int)).toNat = 0 from rfl] at hx335_1)
                   (try rw [show 0 * 3 = 0 from rfl] at hx335_1)
                   (try rw [Addr.add_zero'] at hx335_1)
                   (try rw [show ((0 : Int)).toNat = 0 from rfl] at hx335_2)
                   (try rw [show 0 * 3 = 0 from rfl] at hx335_2)
                   (try rw [Addr.add_zero'] at hx335_2)
                   replace p335 := eq_true p335
                   replace q335 := eq_true q335
                   obtain ⟨Ao75,co75,eo75⟩ := Kd.R_slice HO_284002.out
                   (first | subst eo75 | (injection eo75 with f1_ f2_ f3_; have f4_ := f1_.symm; have f5_ := f3_.symm; clear f1_ f2_ f3_; subst f4_; subst f5_))
                   obtain ⟨Ao76,co76,eo76⟩ := Kd.R_slice HO_284004.out
                   (first | subst eo76 | (injection eo76 with f1_ f2_ f3_; have f4_ := f1_.symm; have f5_ := f3_.symm; clear f1_ f2_ f3_; subst f4_; subst f5_))
                   refine start_ (n := 9) (S := fun w' => w'.cell? ⟨gb283,0,none⟩ = some (.int .i64 x284000_2) ∧ w'.cell? ⟨gb283,1,none⟩ = some (.int .i64 x284001_2) ∧ w'.cell? ⟨gb283,2,none⟩ = some (.slice Ao75 x284002_2.length co75) ∧ w'.cell? ⟨gb283,3,none⟩ = some (.int .i64 x284003_2) ∧ w'.cell? ⟨gb283,4,none⟩ = some (.slice Ao76 x284004_2.length co76) ∧ w'.cell? ad335 = some (.int .i64 ((rd_T36 x9_2 0).f0)) ∧ w'.cell? ⟨ad335.block,ad335.off + 1,none⟩ = some (.int .i64 ((rd_T36 x9_2 0).f1)) ∧ w'.cell? ⟨ad335.block,ad335.off + 2,none⟩ = some (.string ((rd_T36 x9_2 0).f2))) (ds := [8]) #[false,false,false,false,false,false,false,false,false] (by kernel_rfl) rfl rfl ⟨(zQ BK283.out 0).trans rfl,(zQ BK283.out 1).trans rfl,(zQ BK283.out 2).trans rfl,(zQ BK283.out 3).trans rfl,(zQ BK283.out 4).trans rfl,hx335_0,hx335_1,hx335_2⟩ (fun hHeld => ?_); refine with_tabW spec_Talk.tab29 spec_Talk.bits29 (fun HT_ HW_ => ?_)
                   generalize wr.drew = w74 at HO_9 HO_10 HO_283002 HO_283004 HO_284002 HO_284004 BK282 BK283 HB hx335_0 hx335_1 hx335_2 hHeld ⊢
                   refine pure_ (i := 1) (N := some 102) (v := ?_) (a' := ?_) #[false,true,false,false,false,false,false,false,false] rfl rfl (any_of HT_.out (by kernel_rfl)) (fun _ _ _ h => h) (Or.inl ⟨by rfl,?_⟩) ?_ ?_; rotate_left
                   · intro w'; go_simp; with_reducible rfl
                   rotate_left
                   · simp only [Act.put,List.setIfInBounds_toArray,List.set_cons_zero,List.set_cons_succ,i64_w,i32_w]; rfl
                   refine pure_ (i := 2) (N := some 103) (v := ?_) (a' := ?_) #[false,true,true,false,false,false,false,false,false] rfl rfl (any_of HT_.out (by kernel_rfl)) (fun _ _ _ h => h) (Or.inl ⟨by rfl,?_⟩) ?_ ?_; rotate_left
                   · intro w'; go_simp; with_reducible rfl
                   rotate_left
                   · simp only [Act.put,List.setIfInBounds_toArray,List.set_cons_zero,List.set_cons_succ,i64_w,i32_w]; rfl
                   refine take_ (i := 0) (N := some 101) (v := ?_) (a' := ?_) #[true,true,true,false,false,false,false,false,false] rfl rfl (take_ofW HT_.out HW_.out (by kernel_rfl)) (fun _ _ _ h => h) (Or.inl ⟨by rfl,?_⟩) hHeld ?_ ?_; rotate_left
                   ·
                    rintro w' ⟨s0,s1,s2,s3,s4,s5,s6,s7⟩
                    go_simp; with_reducible rfl
                   rotate_left
                   · simp only [Act.put,List.setIfInBounds_toArray,List.set_cons_zero,List.set_cons_succ,i64_w,i32_w]; rfl
                   refine take_ (i := 3) (N := some 104) (v := ?_) (a' := ?_) #[true,true,true,true,false,false,false,false,false] rfl rfl (take_ofW HT_.out HW_.out (by kernel_rfl)) (fun _ _ _ h => h) (Or.inl ⟨by rfl,?_⟩) hHeld ?_ ?_; rotate_left
                   ·
                    rintro w' ⟨s0,s1,s2,s3,s4,s5,s6,s7⟩
                    go_simp; with_reducible rfl
                   rotate_left
                   · simp only [Act.put,List.setIfInBounds_toArray,List.set_cons_zero,List.set_cons_succ,i64_w,i32_w]; rfl
                   refine one_ (i := 4) (N := some 105) #[true,true,true,true,true,false,false,false,false] rfl rfl (one_of HT_.out (by kernel_rfl)) (by decide) (fun K hK => ?_)
                   refine goes_ Try.func21 (by kernel_rfl) rfl #[.agg #[.int .i64 x284000_2,.int .i64 x284001_2,.slice Ao75 x284002_2.length co75,.int .i64 x284003_2,.slice Ao76 x284004_2.length co76],.agg #[.int .i64 ((rd_T36 x9_2 0).f0),.int .i64 ((rd_T36 x9_2 0).f1),.string ((rd_T36 x9_2 0).f2)]] (by rfl) rfl rfl (by (try simp only [List.map_toArray,List.map_cons,List.map_nil]); first | done|rfl|(simp only [List.length_drop,List.length_take]; rfl)) ?_
                   with_reducible refine (spec_Receive.calls k2 x284000_2 x284001_2 _ _ x284002_2 x284003_2 _ _ x284004_2 ((rd_T36 x9_2 0).f0) ((rd_T36 x9_2 0).f1) ((rd_T36 x9_2 0).f2) t336 t337 t338 t341 t342 t345 _ ?side1 ?side2 ?side3 ?side4 A68.out).mono ?_
                   (case side1 => exact ccT ((zI HO_284002.out).2.2))
                   (case side2 => exact (zI HO_284002.out).2.1)
                   (case side3 => exact ccT ((zI HO_284004.out).2.2))
                   (case side4 => exact (zI HO_284004.out).2.1)
                   rintro e w77 ⟨v339,v343,rfl,ho0,ho1,hb⟩
                   have HS5_ := (hb.cell (World.block_lt_of_cell? _ _ (hHeld.2.2.2.2.2.1))).trans (hHeld.2.2.2.2.2.1)
                   have HS6_ := (hb.cell (World.block_lt_of_cell? _ _ (hHeld.2.2.2.2.2.2.1))).trans (hHeld.2.2.2.2.2.2.1)
                   have HS7_ := (hb.cell (World.block_lt_of_cell? _ _ (hHeld.2.2.2.2.2.2.2))).trans (hHeld.2.2.2.2.2.2.2)
                   refine ⟨_,rfl,?_⟩
                   have n0_ := zA (zD (rrA12 HO_9.out) hb)
                   have n1_ := zA (zD (rrA12 HO_10.out) hb)
                   have n2_ := zA (zC (zE (zE (Kd.R_old (rrA12 HO_283002.out) hb) (zF ho0)) (zF ho1)) (fun _ h_ => h_.1))
                   have n3_ := zA (zC (zE (zE (Kd.R_old (rrA12 HO_283004.out) hb) (zF ho0)) (zF ho1)) (fun _ h_ => h_.1))
                   have n4_ := zA (zC (zE (zE (Kd.R_old (rrA12 HO_284002.out) hb) (zF ho0)) (zF ho1)) (fun _ h_ => h_.1))
                   have n5_ := zA (zC (zE (zE (Kd.R_old (rrA12 HO_284004.out) hb) (zF ho0)) (zF ho1)) (fun _ h_ => h_.1))
                   have n6_ := zA (Kd.R_lower (zG (zG (zG (zG ho0 (Kd.R_lt (rrA12 HO_283002.out))) (Kd.R_lt (rrA12 HO_283004.out))) (Kd.R_lt (rrA12 HO_284002.out))) (Kd.R_lt (rrA12 HO_284004.out))) (below_size (bT HB)))
                   have n7_ := zA (Kd.R_lower (zG (zG (zG (zG ho1 (Kd.R_lt (rrA12 HO_283002.out))) (Kd.R_lt (rrA12 HO_283004.out))) (Kd.R_lt (rrA12 HO_284002.out))) (Kd.R_lt (rrA12 HO_284004.out))) (below_size (bT HB)))
                   have n8_ := zA (zP (bkT BK282.out) hb)
                   have n9_ := zA (zP (bkT BK283.out) hb)
                   have n10_ := zA (zR (bT HB) hb)
                   clear HO_9 HO_10 HO_283002 HO_283004 HO_284002 HO_284004 BK282 BK283 HB
                   have HO_9 := n0_
                   have HO_10 := n1_
                   have HO_283002 := n2_
                   have HO_283004 := n3_
                   have HO_284002 := n4_
                   have HO_284004 := n5_
                   have HO340 := n6_
                   have HO344 := n7_
                   have BK282 := n8_
                   have BK283 := n9_
                   have HB := n10_
                   clear n0_ n1_ n2_ n3_ n4_ n5_ n6_ n7_ n8_ n9_ n10_
                   obtain ⟨Ao80,co80,eo80⟩ := Kd.R_slice HO340.out
                   (first | subst eo80 | (injection eo80 with f1_ f2_ f3_; have f4_ := f1_.symm; have f5_ := f3_.symm; clear f1_ f2_ f3_; subst f4_; subst f5_))
                   obtain ⟨Ao83,co83,eo83⟩ := Kd.R_slice HO344.out
                   (first | subst eo83 | (injection eo83 with f1_ f2_ f3_; have f4_ := f1_.symm; have f5_ := f3_.symm; clear f1_ f2_ f3_; subst f4_; subst f5_))
                   refine hK.out _ _ ⟨(zQ BK283.out 0).trans rfl,(zQ BK283.out 1).trans rfl,(zQ BK283.out 2).trans rfl,(zQ BK283.out 3).trans rfl,(zQ BK283.out 4).trans rfl,HS5_,HS6_,HS7_⟩ (fun hHeld => ?_)
                   clear hK K
                   refine norm_ (a' := ?_) ?_ ?_
                   rotate_left
                   ·
                    show Act.put _ (some 105) _ = _
                    simp only [Act.put,List.setIfInBounds_toArray,List.set_cons_zero,List.set_cons_succ,i64_w,i32_w]; rfl
                   refine pure_ (i := 5) (N := some 100) (v := ?_) (a' := ?_) #[true,true,true,true,true,true,false,false,false] rfl rfl (any_of HT_.out (by kernel_rfl)) (fun _ _ _ h => h) (Or.inl ⟨by rfl,?_⟩) ?_ ?_; rotate_left
                   · intro w'; go_simp; with_reducible rfl
                   rotate_left
                   · simp only [Act.put,List.setIfInBounds_toArray,List.set_cons_zero,List.set_cons_succ,i64_w,i32_w]; rfl
                   refine pure_ (i := 6) (N := some 106) (v := ?_) (a' := ?_) #[true,true,true,true,true,true,true,false,false] rfl rfl (any_of HT_.out (by kernel_rfl)) (fun _ _ _ h => h) (Or.inl ⟨by rfl,?_⟩) ?_ ?_; rotate_left
                   · intro w'; go_simp; with_reducible rfl
                   rotate_left
                   · simp only [Act.put,List.setIfInBounds_toArray,List.set_cons_zero,List.set_cons_succ,i64_w,i32_w]; rfl
                   refine pure_ (i := 7) (N := some 107) (v := ?_) (a' := ?_) #[true,true,true,true,true,true,true,true,false] rfl rfl (any_of HT_.out (by kernel_rfl)) (fun _ _ _ h => h) (Or.inl ⟨by rfl,?_⟩) ?_ ?_; rotate_left
                   · intro w'; go_simp; with_reducible rfl
                   rotate_left
                   · simp only [Act.put,List.setIfInBounds_toArray,List.set_cons_zero,List.set_cons_succ,i64_w,i32_w]; rfl
                   refine last_ (i := 8) (N := none) #[true,true,true,true,true,true,true,true,true] rfl rfl (one_of HT_.out (by kernel_rfl)) (by decide) (fun K hK => ?_)
                   have hs78 : w77.cell? ⟨gb283,0,none⟩ = some (.int .i64 x284000_2) := (zQ BK283.out 0).trans rfl
                   have hfs78 := blk_frozen BK283.out 0
                   have hns78_0 := NB282_283.out
                   have hms78_0 := NB283_282.out
                   have hs79 : w77.cell? ⟨gb283,1,none⟩ = some (.int .i64 x284001_2) := (zQ BK283.out 1).trans rfl
                   have hfs79 := blk_frozen BK283.out 1
                   have hns79_0 := NB282_283.out
                   have hms79_0 := NB283_282.out
                   have hs81 : w77.cell? ⟨gb283,2,none⟩ = some (.slice Ao75 x284002_2.length co75) := (zQ BK283.out 2).trans rfl
                   have hfs81 := blk_frozen BK283.out 2
                   have hns81_0 := NB282_283.out
                   have hms81_0 := NB283_282.out
                   have hs82 : w77.cell? ⟨gb283,3,none⟩ = some (.int .i64 x284003_2) := (zQ BK283.out 3).trans rfl
                   have hfs82 := blk_frozen BK283.out 3
                   have hns82_0 := NB282_283.out
                   have hms82_0 := NB283_282.out
                   have hs84 : w77.cell? ⟨gb283,4,none⟩ = some (.slice Ao76 x284004_2.length co76) := (zQ BK283.out 4).trans rfl
                   have hfs84 := blk_frozen BK283.out 4
                   have hns84_0 := NB282_283.out
                   have hms84_0 := NB283_282.out
                   refine skip_ (w1 := ?_) (by rfl) rfl ?_ ?_
                   rotate_left
                   · go_simp; rfl
                   refine hK.out _ _ ?_
                   clear hK K
                   refine done_ (done_of HT_.out (by kernel_rfl)) ?_
                   have hnb85 := NB283_282.out
                   have hnc85 := NB282_283.out
                   obtain ⟨_,_,_,_,_,_,_,_,_,_⟩ := cz5 BK283.out
                   try go_wp2_with (first | ((with_reducible refine gate_callee (f := 26) rfl ?_); refine goesL_ (some 110) rfl rfl Try.func26 (by kernel_rfl) rfl #[.agg #[.int .i64 t336,.int .i64 t337,.slice Ao80 t338.length co80,.int .i64 t341,.slice Ao83 t342.length co83]] rfl (by (try simp only [List.map_toArray,List.map_cons,List.map_nil]); first | done|rfl|(simp only [List.length_drop,List.length_take]; rfl)) ?_; (with_reducible refine (spec_SendAgain.calls k2 t336 t337 _ _ t338 t341 _ _ t342 t346 _ ?side1 ?side2 ?side3 ?side4 A69.out).mono ?_); (case side1 => refine (zI (e := 9) (base := w.heap.size) (ok := fun k_ => ((((some k_ ≠ (.slice Ao83 t342.length co83 : Value).ownBlock ∧ some k_ ≠ (u283002 : Value).ownBlock) ∧ some k_ ≠ (u283004 : Value).ownBlock) ∧ some k_ ≠ (.slice Ao75 x284002_2.length co75 : Value).ownBlock) ∧ some k_ ≠ (.slice Ao76 x284004_2.length co76 : Value).ownBlock)) (n := t338.length) (c := co80) ?_).2.2; exact (rrA12 (zC (zB (p := ⟨gb283,4,none⟩) (zB (p := ⟨gb283,3,none⟩) (zB (p := ⟨gb283,2,none⟩) (zB (p := ⟨gb283,1,none⟩) (zB (p := ⟨gb283,0,none⟩) (zH HO340.out BK283.out (by decide)) (fun _ h=>h.2) (.int .i64 t336)) (fun _ h=>h.2) (.int .i64 t337)) (fun _ h=>h.2) (.slice Ao80 t338.length co80)) (fun _ h=>h.2) (.int .i64 t341)) (fun _ h=>h.2) (.slice Ao83 t342.length co83)) (fun _ h_ => h_.1)))); (case side2 => exact (zI HO340.out).2.1); (case side3 => refine (zI (e := 9) (base := w.heap.size) (ok := fun k_ => ((((some k_ ≠ (.slice Ao80 t338.length co80 : Value).ownBlock ∧ some k_ ≠ (u283002 : Value).ownBlock) ∧ some k_ ≠ (u283004 : Value).ownBlock) ∧ some k_ ≠ (.slice Ao75 x284002_2.length co75 : Value).ownBlock) ∧ some k_ ≠ (.slice Ao76 x284004_2.length co76 : Value).ownBlock)) (n := t342.length) (c := co83) ?_).2.2; exact (rrA12 (zC (zB (p := ⟨gb283,4,none⟩) (zB (p := ⟨gb283,3,none⟩) (zB (p := ⟨gb283,2,none⟩) (zB (p := ⟨gb283,1,none⟩) (zB (p := ⟨gb283,0,none⟩) (zH HO344.out BK283.out (by decide)) (fun _ h=>h.2) (.int .i64 t336)) (fun _ h=>h.2) (.int .i64 t337)) (fun _ h=>h.2) (.slice Ao80 t338.length co80)) (fun _ h=>h.2) (.int .i64 t341)) (fun _ h=>h.2) (.slice Ao83 t342.length co83)) (fun _ h_ => h_.1)))); (case side4 => exact (zI HO344.out).2.1); rintro e w87 ⟨v347,rfl,ho0,hb⟩; refine ⟨_,rfl,?_⟩; have n0_ := zA (Kd.R_elder' (rrA12 (zC (zB (p := ⟨gb283,4,none⟩) (zB (p := ⟨gb283,3,none⟩) (zB (p := ⟨gb283,2,none⟩) (zB (p := ⟨gb283,1,none⟩) (zB (p := ⟨gb283,0,none⟩) (zH HO_9.out BK283.out (by decide)) (fun _ h=>h.2) (.int .i64 t336)) (fun _ h=>h.2) (.int .i64 t337)) (fun _ h=>h.2) (.slice Ao80 t338.length co80)) (fun _ h=>h.2) (.int .i64 t341)) (fun _ h=>h.2) (.slice Ao83 t342.length co83)) (fun _ h_ => h_.1))) (zF ho0) hb); have n1_ := zA (Kd.R_elder' (rrA12 (zC (zB (p := ⟨gb283,4,none⟩) (zB (p := ⟨gb283,3,none⟩) (zB (p := ⟨gb283,2,none⟩) (zB (p := ⟨gb283,1,none⟩) (zB (p := ⟨gb283,0,none⟩) (zH HO_10.out BK283.out (by decide)) (fun _ h=>h.2) (.int .i64 t336)) (fun _ h=>h.2) (.int .i64 t337)) (fun _ h=>h.2) (.slice Ao80 t338.length co80)) (fun _ h=>h.2) (.int .i64 t341)) (fun _ h=>h.2) (.slice Ao83 t342.length co83)) (fun _ h_ => h_.1))) (zF ho0) hb); have n2_ := zA (zD (rrA12 (zC (zB (p := ⟨gb283,4,none⟩) (zB (p := ⟨gb283,3,none⟩) (zB (p := ⟨gb283,2,none⟩) (zB (p := ⟨gb283,1,none⟩) (zB (p := ⟨gb283,0,none⟩) (zH HO_283002.out BK283.out (by decide)) (fun _ h=>h.2) (.int .i64 t336)) (fun _ h=>h.2) (.int .i64 t337)) (fun _ h=>h.2) (.slice Ao80 t338.length co80)) (fun _ h=>h.2) (.int .i64 t341)) (fun _ h=>h.2) (.slice Ao83 t342.length co83)) (fun _ h_ => h_.1))) hb); have n3_ := zA (zD (rrA12 (zC (zB (p := ⟨gb283,4,none⟩) (zB (p := ⟨gb283,3,none⟩) (zB (p := ⟨gb283,2,none⟩) (zB (p := ⟨gb283,1,none⟩) (zB (p := ⟨gb283,0,none⟩) (zH HO_283004.out BK283.out (by decide)) (fun _ h=>h.2) (.int .i64 t336)) (fun _ h=>h.2) (.int .i64 t337)) (fun _ h=>h.2) (.slice Ao80 t338.length co80)) (fun _ h=>h.2) (.int .i64 t341)) (fun _ h=>h.2) (.slice Ao83 t342.length co83)) (fun _ h_ => h_.1))) hb); have n4_ := zA (zD (rrA12 (zC (zB (p := ⟨gb283,4,none⟩) (zB (p := ⟨gb283,3,none⟩) (zB (p := ⟨gb283,2,none⟩) (zB (p := ⟨gb283,1,none⟩) (zB (p := ⟨gb283,0,none⟩) (zH HO_284002.out BK283.out (by decide)) (fun _ h=>h.2) (.int .i64 t336)) (fun _ h=>h.2) (.int .i64 t337)) (fun _ h=>h.2) (.slice Ao80 t338.length co80)) (fun _ h=>h.2) (.int .i64 t341)) (fun _ h=>h.2) (.slice Ao83 t342.length co83)) (fun _ h_ => h_.1))) hb); have n5_ := zA (zD (rrA12 (zC (zB (p := ⟨gb283,4,none⟩) (zB (p := ⟨gb283,3,none⟩) (zB (p := ⟨gb283,2,none⟩) (zB (p := ⟨gb283,1,none⟩) (zB (p := ⟨gb283,0,none⟩) (zH HO_284004.out BK283.out (by decide)) (fun _ h=>h.2) (.int .i64 t336)) (fun _ h=>h.2) (.int .i64 t337)) (fun _ h=>h.2) (.slice Ao80 t338.length co80)) (fun _ h=>h.2) (.int .i64 t341)) (fun _ h=>h.2) (.slice Ao83 t342.length co83)) (fun _ h_ => h_.1))) hb); have n6_ := zA (zD (rrA12 (zC (zB (p := ⟨gb283,4,none⟩) (zB (p := ⟨gb283,3,none⟩) (zB (p := ⟨gb283,2,none⟩) (zB (p := ⟨gb283,1,none⟩) (zB (p := ⟨gb283,0,none⟩) (zH HO340.out BK283.out (by decide)) (fun _ h=>h.2) (.int .i64 t336)) (fun _ h=>h.2) (.int .i64 t337)) (fun _ h=>h.2) (.slice Ao80 t338.length co80)) (fun _ h=>h.2) (.int .i64 t341)) (fun _ h=>h.2) (.slice Ao83 t342.length co83)) (fun _ h_ => h_.1))) hb); have n7_ := zA (zD (rrA12 (zC (zB (p := ⟨gb283,4,none⟩) (zB (p := ⟨gb283,3,none⟩) (zB (p := ⟨gb283,2,none⟩) (zB (p := ⟨gb283,1,none⟩) (zB (p := ⟨gb283,0,none⟩) (zH HO344.out BK283.out (by decide)) (fun _ h=>h.2) (.int .i64 t336)) (fun _ h=>h.2) (.int .i64 t337)) (fun _ h=>h.2) (.slice Ao80 t338.length co80)) (fun _ h=>h.2) (.int .i64 t341)) (fun _ h=>h.2) (.slice Ao83 t342.length co83)) (fun _ h_ => h_.1))) hb); have n8_ := zA (Kd.R_lower (zG (zG ho0 (Kd.R_lt (rrA12 (zC (zB (p := ⟨gb283,4,none⟩) (zB (p := ⟨gb283,3,none⟩) (zB (p := ⟨gb283,2,none⟩) (zB (p := ⟨gb283,1,none⟩) (zB (p := ⟨gb283,0,none⟩) (zH HO_9.out BK283.out (by decide)) (fun _ h=>h.2) (.int .i64 t336)) (fun _ h=>h.2) (.int .i64 t337)) (fun _ h=>h.2) (.slice Ao80 t338.length co80)) (fun _ h=>h.2) (.int .i64 t341)) (fun _ h=>h.2) (.slice Ao83 t342.length co83)) (fun _ h_ => h_.1))))) (Kd.R_lt (rrA12 (zC (zB (p := ⟨gb283,4,none⟩) (zB (p := ⟨gb283,3,none⟩) (zB (p := ⟨gb283,2,none⟩) (zB (p := ⟨gb283,1,none⟩) (zB (p := ⟨gb283,0,none⟩) (zH HO_10.out BK283.out (by decide)) (fun _ h=>h.2) (.int .i64 t336)) (fun _ h=>h.2) (.int .i64 t337)) (fun _ h=>h.2) (.slice Ao80 t338.length co80)) (fun _ h=>h.2) (.int .i64 t341)) (fun _ h=>h.2) (.slice Ao83 t342.length co83)) (fun _ h_ => h_.1))))) (below_size (bT HB))); have n9_ := zA (zP (bkT BK282.out) hb); have n10_ := zA (zP (g := gb283) (o := .cells #[.int .i64 t336,.int .i64 t337,.slice Ao80 t338.length co80,.int .i64 t341,.slice Ao83 t342.length co83] 26 (0,0)) (by (with_reducible repeat (first|refine zM ?_ _|refine zO ?_|refine zN ?_ _)); refine blk_put (cs := #[.int .i64 t336,.int .i64 t337,.slice Ao80 t338.length co80,.int .i64 t341,.slice Ao76 x284004_2.length co76]) ?_ 4 _ rfl; (with_reducible repeat (first|refine zM ?_ _|refine zO ?_|refine zN ?_ _)); refine blk_put (cs := #[.int .i64 t336,.int .i64 t337,.slice Ao80 t338.length co80,.int .i64 x284003_2,.slice Ao76 x284004_2.length co76]) ?_ 3 _ rfl; (with_reducible repeat (first|refine zM ?_ _|refine zO ?_|refine zN ?_ _)); refine blk_put (cs := #[.int .i64 t336,.int .i64 t337,.slice Ao75 x284002_2.length co75,.int .i64 x284003_2,.slice Ao76 x284004_2.length co76]) ?_ 2 _ rfl; (with_reducible repeat (first|refine zM ?_ _|refine zO ?_|refine zN ?_ _)); refine blk_put (cs := #[.int .i64 t336,.int .i64 x284001_2,.slice Ao75 x284002_2.length co75,.int .i64 x284003_2,.slice Ao76 x284004_2.length co76]) ?_ 1 _ rfl; (with_reducible repeat (first|refine zM ?_ _|refine zO ?_|refine zN ?_ _)); refine blk_put (cs := #[.int .i64 x284000_2,.int .i64 x284001_2,.slice Ao75 x284002_2.length co75,.int .i64 x284003_2,.slice Ao76 x284004_2.length co76]) ?_ 0 _ rfl; (with_reducible repeat (first|refine zM ?_ _|refine zO ?_|refine zN ?_ _)); exact BK283.out) hb); have n11_ := zA (zR (bT HB) hb); clear HO_9 HO_10 HO_283002 HO_283004 HO_284002 HO_284004 HO340 HO344 BK282 BK283 HB; have HO_9 := n0_; have HO_10 := n1_; have HO_283002 := n2_; have HO_283004 := n3_; have HO_284002 := n4_; have HO_284004 := n5_; have HO340 := n6_; have HO344 := n7_; have HO348 := n8_; have BK282 := n9_; have BK283 := n10_; have HB := n11_; clear n0_ n1_ n2_ n3_ n4_ n5_ n6_ n7_ n8_ n9_ n10_ n11_; obtain ⟨Ao89,co89,eo89⟩ := Kd.R_slice HO348.out; subst eo89) | ((with_reducible refine gate_builtin (b := .append) (xs := #[.tmp 108,.tmp 110]) rfl ?_); at_builtin; refine Kd.R_append_rows k36 (w0 := w) w.heap.size rfl (.tmp 108) (.tmp 110) 45 36 (.agg #[(.int .i64 0),(.int .i64 0),(.string ⟨#[]⟩)]) 32 rfl Try.underlying45 info36 rfl (by decide) (by omega) u10 x10_2 t346 _ _ _ (fun k_ => some k_ ≠ (.slice (some ad335) x9_2.length co73 : Value).ownBlock ∧ some k_ ≠ (.slice Ao89 t346.length co89 : Value).ownBlock) (fun _ => False) rfl rfl ?aO ?aR (fun _ _ h => h) (fun _ h => h.elim) ?aF ?aB ?aS ?aL ?_; (case aR => exact ccT ((zI HO348.out).2.2)); (case aB => exact (bT HB)); (case aF => exact (fun k_ hk => ⟨Kd.fresh' (Kd.R_lt (rrA12 HO_9.out)) k_ hk,Kd.fresh' (Kd.R_lt (rrA12 HO348.out)) k_ hk⟩)); (case aO => exact (rrA12 HO_10.out)); (case aS => exact (below_size (bT HB))); (case aL => have := LMc70.out; omega); intro v350 w88 ho hb hg hat; rw [← Ny349.out] at ho; have n0_ := zA (Kd.R_after (ok := (fun k_ => some k_ ≠ (.slice Ao89 t346.length co89 : Value).ownBlock)) (by (with_reducible repeat (first|apply zJ|apply zK|apply zL)); exact zC HO_9.out (fun _ hk => ⟨hk.2,hk.1⟩)) hg hat); have n1_ := zA (Kd.R_over' (rrA12 HO_283002.out) (Kd.R_typed (rrA12 HO_10.out)) (by decide) hg); have n2_ := zA (Kd.R_over' (rrA12 HO_283004.out) (Kd.R_typed (rrA12 HO_10.out)) (by decide) hg); have n3_ := zA (Kd.R_over' (rrA12 HO_284002.out) (Kd.R_typed (rrA12 HO_10.out)) (by decide) hg); have n4_ := zA (Kd.R_over' (rrA12 HO_284004.out) (Kd.R_typed (rrA12 HO_10.out)) (by decide) hg); have n5_ := zA (blk_grown (bkT BK282.out) hg (Kd.R_ne HO_10.out BK282.out (by decide))); have n6_ := zA (blk_grown (bkT BK283.out) hg (Kd.R_ne HO_10.out BK283.out (by decide))); have n7_ := zA (Kd.R_over' (rrA12 HO340.out) (Kd.R_typed (rrA12 HO_10.out)) (by decide) hg); have n8_ := zA (Kd.R_over' (rrA12 HO344.out) (Kd.R_typed (rrA12 HO_10.out)) (by decide) hg); have n9_ := zA (Kd.R_after (ok := (fun k_ => some k_ ≠ (.slice (some ad335) x9_2.length co73 : Value).ownBlock)) (by (with_reducible repeat (first|apply zJ|apply zK|apply zL)); exact zC HO348.out (fun _ hk => ⟨hk.1.2,hk.2⟩)) hg hat); have n10_ := zA (hb); have n11_ := zA (ho); clear HO_9 HO_283002 HO_283004 HO_284002 HO_284004 BK282 BK283 HO340 HO344 HO348 HB HO_10; have HO_9 := n0_; have HO_283002 := n1_; have HO_283004 := n2_; have HO_284002 := n3_; have HO_284004 := n4_; have BK282 := n5_; have BK283 := n6_; have HO340 := n7_; have HO344 := n8_; have HO348 := n9_; have HB := n10_; have HO351 := n11_; clear n0_ n1_ n2_ n3_ n4_ n5_ n6_ n7_ n8_ n9_ n10_ n11_ ho hb hg hat) | ((with_reducible refine gate_dst (N := 112) rfl ?_); refine Kd.R_lit k36 _ 36 ?hg (N := 112) ?hd (xs := ([] : List (S36))) (inner := []) (ok := fun _ => True) (okp := fun _ => True) ?hr ?hp (fun _ hk => hk) trivial (Below.refl _ _) (Nat.le_refl _) (by simp) ?_; (case hd => rfl); (case hg => rfl); (case hr => first | (go_simp; done) | (go_simp; rfl)); (case hp => exact (Reps.none _ _)); intro v353 w90 ho91 hb hg_ hnew_; clear hg_ hnew_; (first | rw [← Ny352.out] at ho91|(simp only [Int.reduceToNat] at ho91; rw [← Ny352.out] at ho91)); have n0_ := zA (Kd.R_elder' (rrA12 HO_9.out) (zF ho91) hb); have n1_ := zA (zD (rrA12 HO_283002.out) hb); have n2_ := zA (zD (rrA12 HO_283004.out) hb); have n3_ := zA (zD (rrA12 HO_284002.out) hb); have n4_ := zA (zD (rrA12 HO_284004.out) hb); have n5_ := zA (zD (rrA12 HO340.out) hb); have n6_ := zA (zD (rrA12 HO344.out) hb); have n7_ := zA (Kd.R_elder' (rrA12 HO348.out) (zF ho91) hb); have n8_ := zA (Kd.R_elder' (rrA12 HO351.out) (zF ho91) hb); have n9_ := zA (Kd.R_lower (zG (zG (zG ho91 (Kd.R_lt (rrA12 HO_9.out))) (Kd.R_lt (rrA12 HO348.out))) (Kd.R_lt (rrA12 HO351.out))) (below_size (bT HB))); have n10_ := zA (zP (bkT BK282.out) hb); have n11_ := zA (zP (bkT BK283.out) hb); have n12_ := zA (zR (bT HB) hb); clear HO_9 HO_283002 HO_283004 HO_284002 HO_284004 HO340 HO344 HO348 HO351 BK282 BK283 HB; have HO_9 := n0_; have HO_283002 := n1_; have HO_283004 := n2_; have HO_284002 := n3_; have HO_284004 := n4_; have HO340 := n5_; have HO344 := n6_; have HO348 := n7_; have HO351 := n8_; have HO354 := n9_; have BK282 := n10_; have BK283 := n11_; have HB := n12_; clear n0_ n1_ n2_ n3_ n4_ n5_ n6_ n7_ n8_ n9_ n10_ n11_ n12_ hb ho91; have q92 : (1 : Int) ≤ ((x9_2.length : Int) : Int) := of_decide_eq_true (by first|(with_reducible assumption) | assumption); obtain ⟨i092,hi092,_,hsz92,_⟩ := info_parts info36; have hroom92 : x9_2.length ≤ co73 := (zI HO_9.out).2.1; have hC92 : Kd.C k36 _ (some ad335) x9_2.length x9_2 := (zI HO_9.out).2.2; have hcut92 := cut_from (P := Try.prog) 45 36 .i64 Try.underlying45 hi092 3 hsz92 (some ad335) x9_2.length co73 1 (by omega) q92; have hr92 := Kd.C_drop (m := (1 : Int).toNat) (c := co73) hC92 (by omega) hroom92; obtain ⟨A92,hA92⟩ : ∃ A1,A1 = (if co73 = (1 : Int).toNat then (some ad335) else ((some ad335) : Option Addr).map (·.add ((1 : Int).toNat * 3))) := ⟨_,rfl⟩; obtain ⟨c92,hc92⟩ : ∃ c1,c1 = co73 - (1 : Int).toNat := ⟨_,rfl⟩; have hy92 : y355.length = x9_2.length - (1 : Int).toNat := (by rw [Ny355.out,List.length_drop] <;> omega); rw [show (x9_2).drop (1 : Int).toNat = y355 from Ny355.out.symm] at hr92; replace hr92 : Kd.C k36 _ A92 y355.length y355 := (by rw [hA92]; exact hr92); rw [← hy92,← hA92,← hc92] at hcut92; have HR358 := zA hr92; have HC358 := zA (show y355.length ≤ c92 from by rw [hy92,hc92]; exact Nat.sub_le_sub_right hroom92 _); clear hr92 hC92 hroom92 hi092 hsz92 hc92; have KY92 := zA hy92; have KA92 := zA hA92; clear hy92 hA92; have KL92 := zA (show 1 ≤ x9_2.length from by omega); replace q92 := eq_true q92) | ((with_reducible refine gate_builtin (b := .append) (xs := #[.tmp 112,.tmp 114]) rfl ?_); at_builtin; refine Kd.R_append_rows k36 (w0 := w) w.heap.size rfl (.tmp 112) (.tmp 114) 45 36 (.agg #[(.int .i64 0),(.int .i64 0),(.string ⟨#[]⟩)]) 32 rfl Try.underlying45 info36 rfl (by decide) (by omega) v353 y352 y355 _ _ _ (fun k_ => some k_ ≠ (.slice (some ad335) x9_2.length co73 : Value).ownBlock ∧ some k_ ≠ (.slice Ao89 t346.length co89 : Value).ownBlock ∧ some k_ ≠ (v350 : Value).ownBlock) (fun _ => False) rfl rfl ?aO ?aR (fun _ _ h => h) (fun _ h => h.elim) ?aF ?aB ?aS ?aL ?_; (case aR => exact ccT ((by repeat (first|(with_reducible exact HR358.out)|(with_reducible refine Kd.C_alloc ?_ _)|(with_reducible refine Kd.C_drewN ?_ _)|(with_reducible refine Kd.C_drew ?_)|exact HR358.out)))); (case aB => exact (bT HB)); (case aF => exact (fun k_ hk => ⟨Kd.fresh' (Kd.R_lt (rrA12 HO_9.out)) k_ hk,Kd.fresh' (Kd.R_lt (rrA12 HO348.out)) k_ hk,Kd.fresh' (Kd.R_lt (rrA12 HO351.out)) k_ hk⟩)); (case aO => exact (by (with_reducible repeat (first|apply zJ|apply zK|apply zL)); exact zC HO354.out (fun _ hk => ⟨hk.1.1.2,⟨hk.1.2,hk.2⟩⟩))); (case aS => exact (below_size (bT HB))); (case aL => have := LMc72.out; omega); intro v360 w93 ho hb hg hat; rw [← Ny359.out] at ho; have n0_ := zA (Kd.R_after (ok := (fun k_ => some k_ ≠ (.slice Ao89 t346.length co89 : Value).ownBlock ∧ some k_ ≠ (v350 : Value).ownBlock)) (rrA12 HO_9.out) hg hat); have n1_ := zA (Kd.R_over' (rrA12 HO_283002.out) (Kd.R_typed (rrA12 HO354.out)) (by decide) hg); have n2_ := zA (Kd.R_over' (rrA12 HO_283004.out) (Kd.R_typed (rrA12 HO354.out)) (by decide) hg); have n3_ := zA (Kd.R_over' (rrA12 HO_284002.out) (Kd.R_typed (rrA12 HO354.out)) (by decide) hg); have n4_ := zA (Kd.R_over' (rrA12 HO_284004.out) (Kd.R_typed (rrA12 HO354.out)) (by decide) hg); have n5_ := zA (blk_grown (bkT BK282.out) hg (Kd.R_ne HO354.out BK282.out (by decide))); have n6_ := zA (blk_grown (bkT BK283.out) hg (Kd.R_ne HO354.out BK283.out (by decide))); have n7_ := zA (Kd.R_over' (rrA12 HO340.out) (Kd.R_typed (rrA12 HO354.out)) (by decide) hg); have n8_ := zA (Kd.R_over' (rrA12 HO344.out) (Kd.R_typed (rrA12 HO354.out)) (by decide) hg); have n9_ := zA (Kd.R_after (ok := (fun k_ => some k_ ≠ (.slice (some ad335) x9_2.length co73 : Value).ownBlock ∧ some k_ ≠ (v350 : Value).ownBlock)) (rrA12 HO348.out) hg hat); have n10_ := zA (Kd.R_after (ok := (fun k_ => some k_ ≠ (.slice (some ad335) x9_2.length co73 : Value).ownBlock ∧ some k_ ≠ (.slice Ao89 t346.length co89 : Value).ownBlock)) (rrA12 HO351.out) hg hat); have n11_ := zA (hb); have n12_ := zA ((show Kd.C k36 w93 A92 y355.length y355 from by rw [Ny355.out,KA92.out]; exact Kd.C_drop (m := 1) (c := co73) ((zI (Kd.R_after (ok := (fun k_ => some k_ ≠ (.slice Ao89 t346.length co89 : Value).ownBlock ∧ some k_ ≠ (v350 : Value).ownBlock)) (rrA12 HO_9.out) hg hat)).2.2) KL92.out ((zI (Kd.R_after (ok := (fun k_ => some k_ ≠ (.slice Ao89 t346.length co89 : Value).ownBlock ∧ some k_ ≠ (v350 : Value).ownBlock)) (rrA12 HO_9.out) hg hat)).2.1))); have n13_ := zA (ho); clear HO_9 HO_283002 HO_283004 HO_284002 HO_284004 BK282 BK283 HO340 HO344 HO348 HO351 HB HR358 HO354; have HO_9 := n0_; have HO_283002 := n1_; have HO_283004 := n2_; have HO_284002 := n3_; have HO_284004 := n4_; have BK282 := n5_; have BK283 := n6_; have HO340 := n7_; have HO344 := n8_; have HO348 := n9_; have HO351 := n10_; have HB := n11_; have HR358 := n12_; have HO361 := n13_; clear n0_ n1_ n2_ n3_ n4_ n5_ n6_ n7_ n8_ n9_ n10_ n11_ n12_ n13_ ho hb hg hat))
                   go_roundg k2
                   case measure => have := HK1.out; have := HK2.out; omega
                   case rel => exact ⟨(y359),(y349),(wrap64 (x11_2 + 1)),(x283000_2),(x283001_2),(x283002_2),(x283003_2),(x283004_2),(t336),(t337),(t338),(t341),(t342),(u283002),(u283004),(.slice Ao80 t338.length co80),(.slice Ao83 t342.length co83),(by first|rfl|(simp; done)|(simp [*]; done)),H',⟨by have := HK1.out; have := HK2.out; omega⟩,⟨by (with_reducible repeat (first|apply zJ|apply zK|apply zL)); exact zC HO361.out (fun _ hk => hk.2.2)⟩,⟨by (with_reducible repeat (first|apply zJ|apply zK|apply zL)); exact zC HO351.out (fun _ h=>h.2)⟩,⟨by (with_reducible repeat (first|apply zJ|apply zK|apply zL)); exact zC HO_283002.out (fun _ hk => ⟨hk.1.1.1,⟨hk.1.2,hk.2⟩⟩)⟩,⟨by (with_reducible repeat (first|apply zJ|apply zK|apply zL)); exact zC HO_283004.out (fun _ hk => ⟨hk.1.1.1,⟨hk.1.2,hk.2⟩⟩)⟩,⟨by (with_reducible repeat (first|apply zJ|apply zK|apply zL)); exact zC HO340.out (fun _ hk => ⟨hk.1.1.1.2,⟨hk.1.1.2,hk.1.1.1.1⟩⟩)⟩,⟨by (with_reducible repeat (first|apply zJ|apply zK|apply zL)); exact zC HO344.out (fun _ hk => ⟨hk.1.1.1.2,⟨hk.1.1.2,hk.1.1.1.1⟩⟩)⟩,⟨(bkT BK282.out)⟩,⟨(bkT BK283.out)⟩,⟨bT HB⟩⟩
                  ·
                   rw [if_neg c72] at H
                   exact absurd H (by simp)
                 ·
                  rw [if_neg c71] at H
                  exact absurd H (by simp)
                ·
                 rw [if_neg c70] at H
                 exact absurd H (by simp)
               ·
                rw [if_neg c67] at H
                exact absurd H (by simp)
             ·
              rw [if_neg c58] at H
              have c58b0 : decide (0 < (x9_2.length : Int)) = false := decide_eq_false c58
              have c58b1 : decide (0 < x9_2.length) = false := decide_eq_false (by omega)
              clear c58
              have H' := zA H
              clear H
              have p301 : 0 ≤ (x11_2 : Int) := of_decide_eq_true (by first|(with_reducible assumption) | assumption)
              have q301 : x11_2 < (l1.length : Int) := of_decide_eq_true (by first|(with_reducible assumption) | assumption)
              obtain ⟨ad301,e301,hx301_0⟩ := Kd.at_int HR1.out x11_2 p301 q301
              cases e301
              replace hx301_0 := (HB.out.cell (World.block_lt_of_cell? w _ hx301_0)).trans hx301_0
              replace p301 := eq_true p301
              replace q301 := eq_true q301
              have p302 : 0 ≤ (x11_2 : Int) := of_decide_eq_true (by first|(with_reducible assumption) | assumption)
              have q302 : x11_2 < (l1.length : Int) := of_decide_eq_true (by first|(with_reducible assumption) | assumption)
              obtain ⟨ad302,e302,hx302_0⟩ := Kd.at_int HR1.out x11_2 p302 q302
              obtain rfl : ad301 = ad302 := (by injection e302)
              replace hx302_0 := (HB.out.cell (World.block_lt_of_cell? w _ hx302_0)).trans hx302_0
              replace p302 := eq_true p302
              replace q302 := eq_true q302
              obtain ⟨Ao94,co94,eo94⟩ := Kd.R_slice HO_9.out
              subst eo94
              go_wp2
              go_roundg k2
              case measure => have := HK1.out; have := HK2.out; omega
              case rel => exact ⟨(x9_2),(x10_2),(wrap64 (x11_2 + 1)),(x283000_2),(x283001_2),(x283002_2),(x283003_2),(x283004_2),(x284000_2),(x284001_2),(x284002_2),(x284003_2),(x284004_2),(u283002),(u283004),(u284002),(u284004),(by first|rfl|(simp; done)|(simp [*]; done)),H',⟨by have := HK1.out; have := HK2.out; omega⟩,⟨(rrA12 HO_9.out)⟩,⟨(rrA12 HO_10.out)⟩,⟨(rrA12 HO_283002.out)⟩,⟨(rrA12 HO_283004.out)⟩,⟨(rrA12 HO_284002.out)⟩,⟨(rrA12 HO_284004.out)⟩,⟨(bkT BK282.out)⟩,⟨(bkT BK283.out)⟩,⟨bT HB⟩⟩
            ·
             rw [if_neg c57] at H
             have c57b0 : ((Int.tmod (rd l1 x11_2) 4) == 2) = false := beq_eq_false_iff_ne.mpr c57
             have c57b1 : ((Int.tmod (rd l1 x11_2) 4) != 2) = true := bne_iff_ne.mpr c57
             by_cases c95 : (x10_2.length : Int) > 0
             ·
              rw [if_pos c95] at H
              have c95b0 : decide (0 < (x10_2.length : Int)) = true := decide_eq_true c95
              have c95b1 : decide (0 < x10_2.length) = true := decide_eq_true (by omega)
              clear c95
              by_cases c96 : ((Int.tmod (wrap64 (Int.tdiv (rd l1 x11_2) 4)) 2) = 1)
              ·
               rw [if_pos c96] at H
               have c96b0 : ((Int.tmod (wrap64 (Int.tdiv (rd l1 x11_2) 4)) 2) == 1) = true := beq_iff_eq.mpr c96
               have c96b1 : ((Int.tmod (wrap64 (Int.tdiv (rd l1 x11_2) 4)) 2) != 1) = false := bne_eq_false_iff_eq.mpr c96
               clear c96
               obtain ⟨y362,hy362⟩ : ∃ y_ : List (S36),y_ = (([] : List (S36))) := ⟨_,rfl⟩
               replace H : (if 1 ≤ (x10_2.length : Int) then ((some (x10_2.drop 1 : List (S36))).bind fun y365 => (if y362.length + y365.length < 4398046511104 then (spec_Talk.l1 k2 l0 l1 x9_2 (y362 ++ y365) (wrap64 (x11_2 + 1)) x283000_2 x283001_2 x283002_2 x283003_2 x283004_2 x284000_2 x284001_2 x284002_2 x284003_2 x284004_2) else (none))) else (none)) = some (r1,r2) := by first | (rw [hy362]; with_reducible exact H) | (have H2_ := (Option.bind_some _ _).symm.trans H; rw [hy362]; with_reducible exact H2_) | (have H2_ := (Option.bind_some _ _).symm.trans H; with_reducible exact H2_)|with_reducible exact H | (rw [hy362]; exact H)|exact H
               have Ny362 := zA hy362
               clear hy362
               by_cases c97 : 1 ≤ (x10_2.length : Int)
               ·
                rw [if_pos c97] at H
                have c97b0 := eq_true c97
                have c97b1 : decide (1 ≤ (x10_2.length : Int)) = true := decide_eq_true c97
                clear c97
                obtain ⟨y365,hy365⟩ : ∃ y_ : List (S36),y_ = (x10_2.drop 1) := ⟨_,rfl⟩
                replace H : (if y362.length + y365.length < 4398046511104 then (spec_Talk.l1 k2 l0 l1 x9_2 (y362 ++ y365) (wrap64 (x11_2 + 1)) x283000_2 x283001_2 x283002_2 x283003_2 x283004_2 x284000_2 x284001_2 x284002_2 x284003_2 x284004_2) else (none)) = some (r1,r2) := by first | (rw [hy365]; with_reducible exact H) | (have H2_ := (Option.bind_some _ _).symm.trans H; rw [hy365]; with_reducible exact H2_) | (have H2_ := (Option.bind_some _ _).symm.trans H; with_reducible exact H2_)|with_reducible exact H | (rw [hy365]; exact H)|exact H
                have Ny365 := zA hy365
                clear hy365
                by_cases c98 : y362.length + y365.length < 4398046511104
                ·
                 rw [if_pos c98] at H
                 have LMc98 := zA c98
                 clear c98
                 obtain ⟨y369,hy369⟩ : ∃ y_ : List (S36),y_ = (y362 ++ y365) := ⟨_,rfl⟩
                 replace H : (spec_Talk.l1 k2 l0 l1 x9_2 y369 (wrap64 (x11_2 + 1)) x283000_2 x283001_2 x283002_2 x283003_2 x283004_2 x284000_2 x284001_2 x284002_2 x284003_2 x284004_2) = some (r1,r2) := by first | (rw [hy369]; with_reducible exact H) | (have H2_ := (Option.bind_some _ _).symm.trans H; rw [hy369]; with_reducible exact H2_) | (have H2_ := (Option.bind_some _ _).symm.trans H; with_reducible exact H2_)|with_reducible exact H | (rw [hy369]; exact H)|exact H
                 have Ny369 := zA hy369
                 clear hy369
                 have H' := zA H
                 clear H
                 have p301 : 0 ≤ (x11_2 : Int) := of_decide_eq_true (by first|(with_reducible assumption) | assumption)
                 have q301 : x11_2 < (l1.length : Int) := of_decide_eq_true (by first|(with_reducible assumption) | assumption)
                 obtain ⟨ad301,e301,hx301_0⟩ := Kd.at_int HR1.out x11_2 p301 q301
                 cases e301
                 replace hx301_0 := (HB.out.cell (World.block_lt_of_cell? w _ hx301_0)).trans hx301_0
                 replace p301 := eq_true p301
                 replace q301 := eq_true q301
                 have p302 : 0 ≤ (x11_2 : Int) := of_decide_eq_true (by first|(with_reducible assumption) | assumption)
                 have q302 : x11_2 < (l1.length : Int) := of_decide_eq_true (by first|(with_reducible assumption) | assumption)
                 obtain ⟨ad302,e302,hx302_0⟩ := Kd.at_int HR1.out x11_2 p302 q302
                 obtain rfl : ad301 = ad302 := (by injection e302)
                 replace hx302_0 := (HB.out.cell (World.block_lt_of_cell? w _ hx302_0)).trans hx302_0
                 replace p302 := eq_true p302
                 replace q302 := eq_true q302
                 obtain ⟨Ao99,co99,eo99⟩ := Kd.R_slice HO_10.out
                 subst eo99
                 go_wp2_with (first | ((with_reducible refine gate_dst (N := 72) rfl ?_); refine Kd.R_lit k36 _ 36 ?hg (N := 72) ?hd (xs := ([] : List (S36))) (inner := []) (ok := fun _ => True) (okp := fun _ => True) ?hr ?hp (fun _ hk => hk) trivial (Below.refl _ _) (Nat.le_refl _) (by simp) ?_; (case hd => rfl); (case hg => rfl); (case hr => first | (go_simp; done) | (go_simp; rfl)); (case hp => exact (Reps.none _ _)); intro v363 w100 ho101 hb hg_ hnew_; clear hg_ hnew_; (first | rw [← Ny362.out] at ho101|(simp only [Int.reduceToNat] at ho101; rw [← Ny362.out] at ho101)); have n0_ := zA (Kd.R_elder' (rrA12 HO_9.out) (zF ho101) hb); have n1_ := zA (Kd.R_elder' (rrA12 HO_10.out) (zF ho101) hb); have n2_ := zA (zD (rrA12 HO_283002.out) hb); have n3_ := zA (zD (rrA12 HO_283004.out) hb); have n4_ := zA (zD (rrA12 HO_284002.out) hb); have n5_ := zA (zD (rrA12 HO_284004.out) hb); have n6_ := zA (Kd.R_lower (zG (zG ho101 (Kd.R_lt (rrA12 HO_9.out))) (Kd.R_lt (rrA12 HO_10.out))) (below_size (bT HB))); have n7_ := zA (zP (bkT BK282.out) hb); have n8_ := zA (zP (bkT BK283.out) hb); have n9_ := zA (zR (bT HB) hb); clear HO_9 HO_10 HO_283002 HO_283004 HO_284002 HO_284004 BK282 BK283 HB; have HO_9 := n0_; have HO_10 := n1_; have HO_283002 := n2_; have HO_283004 := n3_; have HO_284002 := n4_; have HO_284004 := n5_; have HO364 := n6_; have BK282 := n7_; have BK283 := n8_; have HB := n9_; clear n0_ n1_ n2_ n3_ n4_ n5_ n6_ n7_ n8_ n9_ hb ho101; have q102 : (1 : Int) ≤ ((x10_2.length : Int) : Int) := of_decide_eq_true (by first|(with_reducible assumption) | assumption); obtain ⟨i0102,hi0102,_,hsz102,_⟩ := info_parts info36; have hroom102 : x10_2.length ≤ co99 := (zI HO_10.out).2.1; have hC102 : Kd.C k36 _ Ao99 x10_2.length x10_2 := (zI HO_10.out).2.2; have hcut102 := cut_from (P := Try.prog) 45 36 .i64 Try.underlying45 hi0102 3 hsz102 Ao99 x10_2.length co99 1 (by omega) q102; have hr102 := Kd.C_drop (m := (1 : Int).toNat) (c := co99) hC102 (by omega) hroom102; obtain ⟨A102,hA102⟩ : ∃ A1,A1 = (if co99 = (1 : Int).toNat then Ao99 else (Ao99 : Option Addr).map (·.add ((1 : Int).toNat * 3))) := ⟨_,rfl⟩; obtain ⟨c102,hc102⟩ : ∃ c1,c1 = co99 - (1 : Int).toNat := ⟨_,rfl⟩; have hy102 : y365.length = x10_2.length - (1 : Int).toNat := (by rw [Ny365.out,List.length_drop] <;> omega); rw [show (x10_2).drop (1 : Int).toNat = y365 from Ny365.out.symm] at hr102; replace hr102 : Kd.C k36 _ A102 y365.length y365 := (by rw [hA102]; exact hr102); rw [← hy102,← hA102,← hc102] at hcut102; have HR368 := zA hr102; have HC368 := zA (show y365.length ≤ c102 from by rw [hy102,hc102]; exact Nat.sub_le_sub_right hroom102 _); clear hr102 hC102 hroom102 hi0102 hsz102 hc102; have KY102 := zA hy102; have KA102 := zA hA102; clear hy102 hA102; have KL102 := zA (show 1 ≤ x10_2.length from by omega); replace q102 := eq_true q102) | ((with_reducible refine gate_builtin (b := .append) (xs := #[.tmp 72,.tmp 74]) rfl ?_); at_builtin; refine Kd.R_append_rows k36 (w0 := w) w.heap.size rfl (.tmp 72) (.tmp 74) 45 36 (.agg #[(.int .i64 0),(.int .i64 0),(.string ⟨#[]⟩)]) 32 rfl Try.underlying45 info36 rfl (by decide) (by omega) v363 y362 y365 _ _ _ (fun k_ => some k_ ≠ (u9 : Value).ownBlock ∧ some k_ ≠ (.slice Ao99 x10_2.length co99 : Value).ownBlock) (fun _ => False) rfl rfl ?aO ?aR (fun _ _ h => h) (fun _ h => h.elim) ?aF ?aB ?aS ?aL ?_; (case aR => exact ccT ((by repeat (first|(with_reducible exact HR368.out)|(with_reducible refine Kd.C_alloc ?_ _)|(with_reducible refine Kd.C_drewN ?_ _)|(with_reducible refine Kd.C_drew ?_)|exact HR368.out)))); (case aB => exact (bT HB)); (case aF => exact (fun k_ hk => ⟨Kd.fresh' (Kd.R_lt (rrA12 HO_9.out)) k_ hk,Kd.fresh' (Kd.R_lt (rrA12 HO_10.out)) k_ hk⟩)); (case aO => exact (by (with_reducible repeat (first|apply zJ|apply zK|apply zL)); exact zC HO364.out (fun _ hk => ⟨hk.1.2,hk.2⟩))); (case aS => exact (below_size (bT HB))); (case aL => have := LMc98.out; omega); intro v370 w103 ho hb hg hat; rw [← Ny369.out] at ho; have n0_ := zA (Kd.R_after (ok := (fun k_ => some k_ ≠ (.slice Ao99 x10_2.length co99 : Value).ownBlock)) (rrA12 HO_9.out) hg hat); have n1_ := zA (Kd.R_after (ok := (fun k_ => some k_ ≠ (u9 : Value).ownBlock)) (rrA12 HO_10.out) hg hat); have n2_ := zA (Kd.R_over' (rrA12 HO_283002.out) (Kd.R_typed (rrA12 HO364.out)) (by decide) hg); have n3_ := zA (Kd.R_over' (rrA12 HO_283004.out) (Kd.R_typed (rrA12 HO364.out)) (by decide) hg); have n4_ := zA (Kd.R_over' (rrA12 HO_284002.out) (Kd.R_typed (rrA12 HO364.out)) (by decide) hg); have n5_ := zA (Kd.R_over' (rrA12 HO_284004.out) (Kd.R_typed (rrA12 HO364.out)) (by decide) hg); have n6_ := zA (blk_grown (bkT BK282.out) hg (Kd.R_ne HO364.out BK282.out (by decide))); have n7_ := zA (blk_grown (bkT BK283.out) hg (Kd.R_ne HO364.out BK283.out (by decide))); have n8_ := zA (hb); have n9_ := zA ((show Kd.C k36 w103 A102 y365.length y365 from by rw [Ny365.out,KA102.out]; exact Kd.C_drop (m := 1) (c := co99) ((zI (Kd.R_after (ok := (fun k_ => some k_ ≠ (u9 : Value).ownBlock)) (rrA12 HO_10.out) hg hat)).2.2) KL102.out ((zI (Kd.R_after (ok := (fun k_ => some k_ ≠ (u9 : Value).ownBlock)) (rrA12 HO_10.out) hg hat)).2.1))); have n10_ := zA (ho); clear HO_9 HO_10 HO_283002 HO_283004 HO_284002 HO_284004 BK282 BK283 HB HR368 HO364; have HO_9 := n0_; have HO_10 := n1_; have HO_283002 := n2_; have HO_283004 := n3_; have HO_284002 := n4_; have HO_284004 := n5_; have BK282 := n6_; have BK283 := n7_; have HB := n8_; have HR368 := n9_; have HO371 := n10_; clear n0_ n1_ n2_ n3_ n4_ n5_ n6_ n7_ n8_ n9_ n10_ ho hb hg hat))
                 go_roundg k2
                 case measure => have := HK1.out; have := HK2.out; omega
                 case rel => exact ⟨(x9_2),(y369),(wrap64 (x11_2 + 1)),(x283000_2),(x283001_2),(x283002_2),(x283003_2),(x283004_2),(x284000_2),(x284001_2),(x284002_2),(x284003_2),(x284004_2),(u283002),(u283004),(u284002),(u284004),(by first|rfl|(simp; done)|(simp [*]; done)),H',⟨by have := HK1.out; have := HK2.out; omega⟩,⟨by (with_reducible repeat (first|apply zJ|apply zK|apply zL)); exact zC HO_9.out (fun _ h=>h.2)⟩,⟨by (with_reducible repeat (first|apply zJ|apply zK|apply zL)); exact zC HO371.out (fun _ hk => hk.1)⟩,⟨(rrA12 HO_283002.out)⟩,⟨(rrA12 HO_283004.out)⟩,⟨(rrA12 HO_284002.out)⟩,⟨(rrA12 HO_284004.out)⟩,⟨(bkT BK282.out)⟩,⟨(bkT BK283.out)⟩,⟨bT HB⟩⟩
                ·
                 rw [if_neg c98] at H
                 exact absurd H (by simp)
               ·
                rw [if_neg c97] at H
                exact absurd H (by simp)
              ·
               rw [if_neg c96] at H
               have c96b0 : ((Int.tmod (wrap64 (Int.tdiv (rd l1 x11_2) 4)) 2) == 1) = false := beq_eq_false_iff_ne.mpr c96
               have c96b1 : ((Int.tmod (wrap64 (Int.tdiv (rd l1 x11_2) 4)) 2) != 1) = true := bne_iff_ne.mpr c96
               by_cases c104 : 0 < (x10_2.length : Int)
               ·
                rw [if_pos c104] at H
                have c104b0 : decide (0 < (x10_2.length : Int)) = true := decide_eq_true c104
                have c104b1 : decide (0 < x10_2.length) = true := decide_eq_true (by omega)
                clear c104
                replace H := Option.bind_eq_some_iff.mp H
                obtain ⟨⟨t373,t374,t375,t378,t379,t382⟩,A1050,H⟩ := H
                replace H : ((some (([] : List (S36)) : List (S36))).bind fun y383 => (if 1 ≤ (x10_2.length : Int) then ((some (x10_2.drop 1 : List (S36))).bind fun y386 => (if y383.length + y386.length < 4398046511104 then (spec_Talk.l1 k2 l0 l1 x9_2 (y383 ++ y386) (wrap64 (x11_2 + 1)) t373 t374 t375 t378 t379 x284000_2 x284001_2 x284002_2 x284003_2 x284004_2) else (none))) else (none))) = some (r1,r2) := H
                have A105 := zA A1050
                clear A1050
                obtain ⟨y383,hy383⟩ : ∃ y_ : List (S36),y_ = (([] : List (S36))) := ⟨_,rfl⟩
                replace H : (if 1 ≤ (x10_2.length : Int) then ((some (x10_2.drop 1 : List (S36))).bind fun y386 => (if y383.length + y386.length < 4398046511104 then (spec_Talk.l1 k2 l0 l1 x9_2 (y383 ++ y386) (wrap64 (x11_2 + 1)) t373 t374 t375 t378 t379 x284000_2 x284001_2 x284002_2 x284003_2 x284004_2) else (none))) else (none)) = some (r1,r2) := by first | (rw [hy383]; with_reducible exact H) | (have H2_ := (Option.bind_some _ _).symm.trans H; rw [hy383]; with_reducible exact H2_) | (have H2_ := (Option.bind_some _ _).symm.trans H; with_reducible exact H2_)|with_reducible exact H | (rw [hy383]; exact H)|exact H
                have Ny383 := zA hy383
                clear hy383
                by_cases c106 : 1 ≤ (x10_2.length : Int)
                ·
                 rw [if_pos c106] at H
                 have c106b0 := eq_true c106
                 have c106b1 : decide (1 ≤ (x10_2.length : Int)) = true := decide_eq_true c106
                 clear c106
                 obtain ⟨y386,hy386⟩ : ∃ y_ : List (S36),y_ = (x10_2.drop 1) := ⟨_,rfl⟩
                 replace H : (if y383.length + y386.length < 4398046511104 then (spec_Talk.l1 k2 l0 l1 x9_2 (y383 ++ y386) (wrap64 (x11_2 + 1)) t373 t374 t375 t378 t379 x284000_2 x284001_2 x284002_2 x284003_2 x284004_2) else (none)) = some (r1,r2) := by first | (rw [hy386]; with_reducible exact H) | (have H2_ := (Option.bind_some _ _).symm.trans H; rw [hy386]; with_reducible exact H2_) | (have H2_ := (Option.bind_some _ _).symm.trans H; with_reducible exact H2_)|with_reducible exact H | (rw [hy386]; exact H)|exact H
                 have Ny386 := zA hy386
                 clear hy386
                 by_cases c107 : y383.length + y386.length < 4398046511104
                 ·
                  rw [if_pos c107] at H
                  have LMc107 := zA c107
                  clear c107
                  obtain ⟨y390,hy390⟩ : ∃ y_ : List (S36),y_ = (y383 ++ y386) := ⟨_,rfl⟩
                  replace H : (spec_Talk.l1 k2 l0 l1 x9_2 y390 (wrap64 (x11_2 + 1)) t373 t374 t375 t378 t379 x284000_2 x284001_2 x284002_2 x284003_2 x284004_2) = some (r1,r2) := by first | (rw [hy390]; with_reducible exact H) | (have H2_ := (Option.bind_some _ _).symm.trans H; rw [hy390]; with_reducible exact H2_) | (have H2_ := (Option.bind_some _ _).symm.trans H; with_reducible exact H2_)|with_reducible exact H | (rw [hy390]; exact H)|exact H
                  have Ny390 := zA hy390
                  clear hy390
                  have H' := zA H
                  clear H
                  have p301 : 0 ≤ (x11_2 : Int) := of_decide_eq_true (by first|(with_reducible assumption) | assumption)
                  have q301 : x11_2 < (l1.length : Int) := of_decide_eq_true (by first|(with_reducible assumption) | assumption)
                  obtain ⟨ad301,e301,hx301_0⟩ := Kd.at_int HR1.out x11_2 p301 q301
                  cases e301
                  replace hx301_0 := (HB.out.cell (World.block_lt_of_cell? w _ hx301_0)).trans hx301_0
                  replace p301 := eq_true p301
                  replace q301 := eq_true q301
                  have p302 : 0 ≤ (x11_2 : Int) := of_decide_eq_true (by first|(with_reducible assumption) | assumption)
                  have q302 : x11_2 < (l1.length : Int) := of_decide_eq_true (by first|(with_reducible assumption) | assumption)
                  obtain ⟨ad302,e302,hx302_0⟩ := Kd.at_int HR1.out x11_2 p302 q302
                  obtain rfl : ad301 = ad302 := (by injection e302)
                  replace hx302_0 := (HB.out.cell (World.block_lt_of_cell? w _ hx302_0)).trans hx302_0
                  replace p302 := eq_true p302
                  replace q302 := eq_true q302
                  obtain ⟨Ao108,co108,eo108⟩ := Kd.R_slice HO_10.out
                  subst eo108
                  try go_wp2
                  have n0_ := zA (zL HO_9.out)
                  have n1_ := zA (zL HO_10.out)
                  have n2_ := zA (zL HO_283002.out)
                  have n3_ := zA (zL HO_283004.out)
                  have n4_ := zA (zL HO_284002.out)
                  have n5_ := zA (zL HO_284004.out)
                  have n6_ := zA (zO BK282.out)
                  have n7_ := zA (zO BK283.out)
                  have n8_ := zA (below_drew1 HB.out)
                  clear HO_9 HO_10 HO_283002 HO_283004 HO_284002 HO_284004 BK282 BK283 HB
                  have HO_9 := n0_
                  have HO_10 := n1_
                  have HO_283002 := n2_
                  have HO_283004 := n3_
                  have HO_284002 := n4_
                  have HO_284004 := n5_
                  have BK282 := n6_
                  have BK283 := n7_
                  have HB := n8_
                  clear n0_ n1_ n2_ n3_ n4_ n5_ n6_ n7_ n8_
                  have p372 : 0 ≤ (0 : Int) := (by omega)
                  have q372 : 0 < (x10_2.length : Int) := of_decide_eq_true (by first|(with_reducible assumption) | assumption)
                  obtain ⟨ad372,e372,hx372_0,hx372_1,hx372_2⟩ := at_T36 (zI HO_10.out).2.2 0 p372 q372
                  cases e372
                  have qi372 : (0 < x10_2.length) = True := eq_true (by omega)
                  (try rw [show ((0 : Int)).toNat = 0 from rfl] at hx372_0)
                  (try rw [show 0 * 3 = 0 from rfl] at hx372_0)
                  (try rw [Addr.add_zero'] at hx372_0)
                  (try rw [show ((0 : Int)).toNat = 0 from rfl] at hx372_1)
                  (try rw [show 0 * 3 = 0 from rfl] at hx372_1)
                  (try rw [Addr.add_zero'] at hx372_1)
                  (try rw [show ((0 : Int)).toNat = 0 from rfl] at hx372_2)
                  (try rw [show 0 * 3 = 0 from rfl] at hx372_2)
                  (try rw [Addr.add_zero'] at hx372_2)
                  replace p372 := eq_true p372
                  replace q372 := eq_true q372
                  obtain ⟨Ao110,co110,eo110⟩ := Kd.R_slice HO_283002.out
                  (first | subst eo110 | (injection eo110 with f1_ f2_ f3_; have f4_ := f1_.symm; have f5_ := f3_.symm; clear f1_ f2_ f3_; subst f4_; subst f5_))
                  obtain ⟨Ao111,co111,eo111⟩ := Kd.R_slice HO_283004.out
                  (first | subst eo111 | (injection eo111 with f1_ f2_ f3_; have f4_ := f1_.symm; have f5_ := f3_.symm; clear f1_ f2_ f3_; subst f4_; subst f5_))
                  refine start_ (n := 9) (S := fun w' => w'.cell? ⟨gb282,0,none⟩ = some (.int .i64 x283000_2) ∧ w'.cell? ⟨gb282,1,none⟩ = some (.int .i64 x283001_2) ∧ w'.cell? ⟨gb282,2,none⟩ = some (.slice Ao110 x283002_2.length co110) ∧ w'.cell? ⟨gb282,3,none⟩ = some (.int .i64 x283003_2) ∧ w'.cell? ⟨gb282,4,none⟩ = some (.slice Ao111 x283004_2.length co111) ∧ w'.cell? ad372 = some (.int .i64 ((rd_T36 x10_2 0).f0)) ∧ w'.cell? ⟨ad372.block,ad372.off + 1,none⟩ = some (.int .i64 ((rd_T36 x10_2 0).f1)) ∧ w'.cell? ⟨ad372.block,ad372.off + 2,none⟩ = some (.string ((rd_T36 x10_2 0).f2))) (ds := [8]) #[false,false,false,false,false,false,false,false,false] (by kernel_rfl) rfl rfl ⟨(zQ BK282.out 0).trans rfl,(zQ BK282.out 1).trans rfl,(zQ BK282.out 2).trans rfl,(zQ BK282.out 3).trans rfl,(zQ BK282.out 4).trans rfl,hx372_0,hx372_1,hx372_2⟩ (fun hHeld => ?_); refine with_tabW spec_Talk.tab18 spec_Talk.bits18 (fun HT_ HW_ => ?_)
                  generalize wr.drew = w109 at HO_9 HO_10 HO_283002 HO_283004 HO_284002 HO_284004 BK282 BK283 HB hx372_0 hx372_1 hx372_2 hHeld ⊢
                  refine pure_ (i := 1) (N := some 66) (v := ?_) (a' := ?_) #[false,true,false,false,false,false,false,false,false] rfl rfl (any_of HT_.out (by kernel_rfl)) (fun _ _ _ h => h) (Or.inl ⟨by rfl,?_⟩) ?_ ?_; rotate_left
                  · intro w'; go_simp; with_reducible rfl
                  rotate_left
                  · simp only [Act.put,List.setIfInBounds_toArray,List.set_cons_zero,List.set_cons_succ,i64_w,i32_w]; rfl
                  refine pure_ (i := 2) (N := some 67) (v := ?_) (a' := ?_) #[false,true,true,false,false,false,false,false,false] rfl rfl (any_of HT_.out (by kernel_rfl)) (fun _ _ _ h => h) (Or.inl ⟨by rfl,?_⟩) ?_ ?_; rotate_left
                  · intro w'; go_simp; with_reducible rfl
                  rotate_left
                  · simp only [Act.put,List.setIfInBounds_toArray,List.set_cons_zero,List.set_cons_succ,i64_w,i32_w]; rfl
                  refine take_ (i := 0) (N := some 65) (v := ?_) (a' := ?_) #[true,true,true,false,false,false,false,false,false] rfl rfl (take_ofW HT_.out HW_.out (by kernel_rfl)) (fun _ _ _ h => h) (Or.inl ⟨by rfl,?_⟩) hHeld ?_ ?_; rotate_left
                  ·
                   rintro w' ⟨s0,s1,s2,s3,s4,s5,s6,s7⟩
                   go_simp; with_reducible rfl
                  rotate_left
                  · simp only [Act.put,List.setIfInBounds_toArray,List.set_cons_zero,List.set_cons_succ,i64_w,i32_w]; rfl
                  refine take_ (i := 3) (N := some 68) (v := ?_) (a' := ?_) #[true,true,true,true,false,false,false,false,false] rfl rfl (take_ofW HT_.out HW_.out (by kernel_rfl)) (fun _ _ _ h => h) (Or.inl ⟨by rfl,?_⟩) hHeld ?_ ?_; rotate_left
                  ·
                   rintro w' ⟨s0,s1,s2,s3,s4,s5,s6,s7⟩
                   go_simp; with_reducible rfl
                  rotate_left
                  · simp only [Act.put,List.setIfInBounds_toArray,List.set_cons_zero,List.set_cons_succ,i64_w,i32_w]; rfl
                  refine one_ (i := 4) (N := some 69) #[true,true,true,true,true,false,false,false,false] rfl rfl (one_of HT_.out (by kernel_rfl)) (by decide) (fun K hK => ?_)
                  refine goes_ Try.func21 (by kernel_rfl) rfl #[.agg #[.int .i64 x283000_2,.int .i64 x283001_2,.slice Ao110 x283002_2.length co110,.int .i64 x283003_2,.slice Ao111 x283004_2.length co111],.agg #[.int .i64 ((rd_T36 x10_2 0).f0),.int .i64 ((rd_T36 x10_2 0).f1),.string ((rd_T36 x10_2 0).f2)]] (by rfl) rfl rfl (by (try simp only [List.map_toArray,List.map_cons,List.map_nil]); first | done|rfl|(simp only [List.length_drop,List.length_take]; rfl)) ?_
                  with_reducible refine (spec_Receive.calls k2 x283000_2 x283001_2 _ _ x283002_2 x283003_2 _ _ x283004_2 ((rd_T36 x10_2 0).f0) ((rd_T36 x10_2 0).f1) ((rd_T36 x10_2 0).f2) t373 t374 t375 t378 t379 t382 _ ?side1 ?side2 ?side3 ?side4 A105.out).mono ?_
                  (case side1 => exact ccT ((zI HO_283002.out).2.2))
                  (case side2 => exact (zI HO_283002.out).2.1)
                  (case side3 => exact ccT ((zI HO_283004.out).2.2))
                  (case side4 => exact (zI HO_283004.out).2.1)
                  rintro e w112 ⟨v376,v380,rfl,ho0,ho1,hb⟩
                  have HS5_ := (hb.cell (World.block_lt_of_cell? _ _ (hHeld.2.2.2.2.2.1))).trans (hHeld.2.2.2.2.2.1)
                  have HS6_ := (hb.cell (World.block_lt_of_cell? _ _ (hHeld.2.2.2.2.2.2.1))).trans (hHeld.2.2.2.2.2.2.1)
                  have HS7_ := (hb.cell (World.block_lt_of_cell? _ _ (hHeld.2.2.2.2.2.2.2))).trans (hHeld.2.2.2.2.2.2.2)
                  refine ⟨_,rfl,?_⟩
                  have n0_ := zA (zD (rrA12 HO_9.out) hb)
                  have n1_ := zA (zD (rrA12 HO_10.out) hb)
                  have n2_ := zA (zC (zE (zE (Kd.R_old (rrA12 HO_283002.out) hb) (zF ho0)) (zF ho1)) (fun _ h_ => h_.1))
                  have n3_ := zA (zC (zE (zE (Kd.R_old (rrA12 HO_283004.out) hb) (zF ho0)) (zF ho1)) (fun _ h_ => h_.1))
                  have n4_ := zA (zC (zE (zE (Kd.R_old (rrA12 HO_284002.out) hb) (zF ho0)) (zF ho1)) (fun _ h_ => h_.1))
                  have n5_ := zA (zC (zE (zE (Kd.R_old (rrA12 HO_284004.out) hb) (zF ho0)) (zF ho1)) (fun _ h_ => h_.1))
                  have n6_ := zA (Kd.R_lower (zG (zG (zG (zG ho0 (Kd.R_lt (rrA12 HO_283002.out))) (Kd.R_lt (rrA12 HO_283004.out))) (Kd.R_lt (rrA12 HO_284002.out))) (Kd.R_lt (rrA12 HO_284004.out))) (below_size (bT HB)))
                  have n7_ := zA (Kd.R_lower (zG (zG (zG (zG ho1 (Kd.R_lt (rrA12 HO_283002.out))) (Kd.R_lt (rrA12 HO_283004.out))) (Kd.R_lt (rrA12 HO_284002.out))) (Kd.R_lt (rrA12 HO_284004.out))) (below_size (bT HB)))
                  have n8_ := zA (zP (bkT BK282.out) hb)
                  have n9_ := zA (zP (bkT BK283.out) hb)
                  have n10_ := zA (zR (bT HB) hb)
                  clear HO_9 HO_10 HO_283002 HO_283004 HO_284002 HO_284004 BK282 BK283 HB
                  have HO_9 := n0_
                  have HO_10 := n1_
                  have HO_283002 := n2_
                  have HO_283004 := n3_
                  have HO_284002 := n4_
                  have HO_284004 := n5_
                  have HO377 := n6_
                  have HO381 := n7_
                  have BK282 := n8_
                  have BK283 := n9_
                  have HB := n10_
                  clear n0_ n1_ n2_ n3_ n4_ n5_ n6_ n7_ n8_ n9_ n10_
                  obtain ⟨Ao115,co115,eo115⟩ := Kd.R_slice HO377.out
                  (first | subst eo115 | (injection eo115 with f1_ f2_ f3_; have f4_ := f1_.symm; have f5_ := f3_.symm; clear f1_ f2_ f3_; subst f4_; subst f5_))
                  obtain ⟨Ao118,co118,eo118⟩ := Kd.R_slice HO381.out
                  (first | subst eo118 | (injection eo118 with f1_ f2_ f3_; have f4_ := f1_.symm; have f5_ := f3_.symm; clear f1_ f2_ f3_; subst f4_; subst f5_))
                  refine hK.out _ _ ⟨(zQ BK282.out 0).trans rfl,(zQ BK282.out 1).trans rfl,(zQ BK282.out 2).trans rfl,(zQ BK282.out 3).trans rfl,(zQ BK282.out 4).trans rfl,HS5_,HS6_,HS7_⟩ (fun hHeld => ?_)
                  clear hK K
                  refine norm_ (a' := ?_) ?_ ?_
                  rotate_left
                  ·
                   show Act.put _ (some 69) _ = _
                   simp only [Act.put,List.setIfInBounds_toArray,List.set_cons_zero,List.set_cons_succ,i64_w,i32_w]; rfl
                  refine pure_ (i := 5) (N := some 64) (v := ?_) (a' := ?_) #[true,true,true,true,true,true,false,false,false] rfl rfl (any_of HT_.out (by kernel_rfl)) (fun _ _ _ h => h) (Or.inl ⟨by rfl,?_⟩) ?_ ?_; rotate_left
                  · intro w'; go_simp; with_reducible rfl
                  rotate_left
                  · simp only [Act.put,List.setIfInBounds_toArray,List.set_cons_zero,List.set_cons_succ,i64_w,i32_w]; rfl
                  refine pure_ (i := 6) (N := some 70) (v := ?_) (a' := ?_) #[true,true,true,true,true,true,true,false,false] rfl rfl (any_of HT_.out (by kernel_rfl)) (fun _ _ _ h => h) (Or.inl ⟨by rfl,?_⟩) ?_ ?_; rotate_left
                  · intro w'; go_simp; with_reducible rfl
                  rotate_left
                  · simp only [Act.put,List.setIfInBounds_toArray,List.set_cons_zero,List.set_cons_succ,i64_w,i32_w]; rfl
                  refine pure_ (i := 7) (N := some 71) (v := ?_) (a' := ?_) #[true,true,true,true,true,true,true,true,false] rfl rfl (any_of HT_.out (by kernel_rfl)) (fun _ _ _ h => h) (Or.inl ⟨by rfl,?_⟩) ?_ ?_; rotate_left
                  · intro w'; go_simp; with_reducible rfl
                  rotate_left
                  · simp only [Act.put,List.setIfInBounds_toArray,List.set_cons_zero,List.set_cons_succ,i64_w,i32_w]; rfl
                  refine last_ (i := 8) (N := none) #[true,true,true,true,true,true,true,true,true] rfl rfl (one_of HT_.out (by kernel_rfl)) (by decide) (fun K hK => ?_)
                  have hs113 : w112.cell? ⟨gb282,0,none⟩ = some (.int .i64 x283000_2) := (zQ BK282.out 0).trans rfl
                  have hfs113 := blk_frozen BK282.out 0
                  have hns113_1 := NB283_282.out
                  have hms113_1 := NB282_283.out
                  have hs114 : w112.cell? ⟨gb282,1,none⟩ = some (.int .i64 x283001_2) := (zQ BK282.out 1).trans rfl
                  have hfs114 := blk_frozen BK282.out 1
                  have hns114_1 := NB283_282.out
                  have hms114_1 := NB282_283.out
                  have hs116 : w112.cell? ⟨gb282,2,none⟩ = some (.slice Ao110 x283002_2.length co110) := (zQ BK282.out 2).trans rfl
                  have hfs116 := blk_frozen BK282.out 2
                  have hns116_1 := NB283_282.out
                  have hms116_1 := NB282_283.out
                  have hs117 : w112.cell? ⟨gb282,3,none⟩ = some (.int .i64 x283003_2) := (zQ BK282.out 3).trans rfl
                  have hfs117 := blk_frozen BK282.out 3
                  have hns117_1 := NB283_282.out
                  have hms117_1 := NB282_283.out
                  have hs119 : w112.cell? ⟨gb282,4,none⟩ = some (.slice Ao111 x283004_2.length co111) := (zQ BK282.out 4).trans rfl
                  have hfs119 := blk_frozen BK282.out 4
                  have hns119_1 := NB283_282.out
                  have hms119_1 := NB282_283.out
                  refine skip_ (w1 := ?_) (by rfl) rfl ?_ ?_
                  rotate_left
                  · go_simp; rfl
                  refine hK.out _ _ ?_
                  clear hK K
                  refine done_ (done_of HT_.out (by kernel_rfl)) ?_
                  try go_wp2_with (first | ((with_reducible refine gate_dst (N := 72) rfl ?_); refine Kd.R_lit k36 _ 36 ?hg (N := 72) ?hd (xs := ([] : List (S36))) (inner := []) (ok := fun _ => True) (okp := fun _ => True) ?hr ?hp (fun _ hk => hk) trivial (Below.refl _ _) (Nat.le_refl _) (by simp) ?_; (case hd => rfl); (case hg => rfl); (case hr => first | (go_simp; done) | (go_simp; rfl)); (case hp => exact (Reps.none _ _)); intro v384 w120 ho121 hb hg_ hnew_; clear hg_ hnew_; (first | rw [← Ny383.out] at ho121|(simp only [Int.reduceToNat] at ho121; rw [← Ny383.out] at ho121)); have n0_ := zA (Kd.R_elder' (rrA12 (zC (zB (p := ⟨gb282,4,none⟩) (zB (p := ⟨gb282,3,none⟩) (zB (p := ⟨gb282,2,none⟩) (zB (p := ⟨gb282,1,none⟩) (zB (p := ⟨gb282,0,none⟩) (zH HO_9.out BK282.out (by decide)) (fun _ h=>h.2) (.int .i64 t373)) (fun _ h=>h.2) (.int .i64 t374)) (fun _ h=>h.2) (.slice Ao115 t375.length co115)) (fun _ h=>h.2) (.int .i64 t378)) (fun _ h=>h.2) (.slice Ao118 t379.length co118)) (fun _ h_ => h_.1))) (zF ho121) hb); have n1_ := zA (Kd.R_elder' (rrA12 (zC (zB (p := ⟨gb282,4,none⟩) (zB (p := ⟨gb282,3,none⟩) (zB (p := ⟨gb282,2,none⟩) (zB (p := ⟨gb282,1,none⟩) (zB (p := ⟨gb282,0,none⟩) (zH HO_10.out BK282.out (by decide)) (fun _ h=>h.2) (.int .i64 t373)) (fun _ h=>h.2) (.int .i64 t374)) (fun _ h=>h.2) (.slice Ao115 t375.length co115)) (fun _ h=>h.2) (.int .i64 t378)) (fun _ h=>h.2) (.slice Ao118 t379.length co118)) (fun _ h_ => h_.1))) (zF ho121) hb); have n2_ := zA (zD (rrA12 (zC (zB (p := ⟨gb282,4,none⟩) (zB (p := ⟨gb282,3,none⟩) (zB (p := ⟨gb282,2,none⟩) (zB (p := ⟨gb282,1,none⟩) (zB (p := ⟨gb282,0,none⟩) (zH HO_283002.out BK282.out (by decide)) (fun _ h=>h.2) (.int .i64 t373)) (fun _ h=>h.2) (.int .i64 t374)) (fun _ h=>h.2) (.slice Ao115 t375.length co115)) (fun _ h=>h.2) (.int .i64 t378)) (fun _ h=>h.2) (.slice Ao118 t379.length co118)) (fun _ h_ => h_.1))) hb); have n3_ := zA (zD (rrA12 (zC (zB (p := ⟨gb282,4,none⟩) (zB (p := ⟨gb282,3,none⟩) (zB (p := ⟨gb282,2,none⟩) (zB (p := ⟨gb282,1,none⟩) (zB (p := ⟨gb282,0,none⟩) (zH HO_283004.out BK282.out (by decide)) (fun _ h=>h.2) (.int .i64 t373)) (fun _ h=>h.2) (.int .i64 t374)) (fun _ h=>h.2) (.slice Ao115 t375.length co115)) (fun _ h=>h.2) (.int .i64 t378)) (fun _ h=>h.2) (.slice Ao118 t379.length co118)) (fun _ h_ => h_.1))) hb); have n4_ := zA (zD (rrA12 (zC (zB (p := ⟨gb282,4,none⟩) (zB (p := ⟨gb282,3,none⟩) (zB (p := ⟨gb282,2,none⟩) (zB (p := ⟨gb282,1,none⟩) (zB (p := ⟨gb282,0,none⟩) (zH HO_284002.out BK282.out (by decide)) (fun _ h=>h.2) (.int .i64 t373)) (fun _ h=>h.2) (.int .i64 t374)) (fun _ h=>h.2) (.slice Ao115 t375.length co115)) (fun _ h=>h.2) (.int .i64 t378)) (fun _ h=>h.2) (.slice Ao118 t379.length co118)) (fun _ h_ => h_.1))) hb); have n5_ := zA (zD (rrA12 (zC (zB (p := ⟨gb282,4,none⟩) (zB (p := ⟨gb282,3,none⟩) (zB (p := ⟨gb282,2,none⟩) (zB (p := ⟨gb282,1,none⟩) (zB (p := ⟨gb282,0,none⟩) (zH HO_284004.out BK282.out (by decide)) (fun _ h=>h.2) (.int .i64 t373)) (fun _ h=>h.2) (.int .i64 t374)) (fun _ h=>h.2) (.slice Ao115 t375.length co115)) (fun _ h=>h.2) (.int .i64 t378)) (fun _ h=>h.2) (.slice Ao118 t379.length co118)) (fun _ h_ => h_.1))) hb); have n6_ := zA (zD (rrA12 (zC (zB (p := ⟨gb282,4,none⟩) (zB (p := ⟨gb282,3,none⟩) (zB (p := ⟨gb282,2,none⟩) (zB (p := ⟨gb282,1,none⟩) (zB (p := ⟨gb282,0,none⟩) (zH HO377.out BK282.out (by decide)) (fun _ h=>h.2) (.int .i64 t373)) (fun _ h=>h.2) (.int .i64 t374)) (fun _ h=>h.2) (.slice Ao115 t375.length co115)) (fun _ h=>h.2) (.int .i64 t378)) (fun _ h=>h.2) (.slice Ao118 t379.length co118)) (fun _ h_ => h_.1))) hb); have n7_ := zA (zD (rrA12 (zC (zB (p := ⟨gb282,4,none⟩) (zB (p := ⟨gb282,3,none⟩) (zB (p := ⟨gb282,2,none⟩) (zB (p := ⟨gb282,1,none⟩) (zB (p := ⟨gb282,0,none⟩) (zH HO381.out BK282.out (by decide)) (fun _ h=>h.2) (.int .i64 t373)) (fun _ h=>h.2) (.int .i64 t374)) (fun _ h=>h.2) (.slice Ao115 t375.length co115)) (fun _ h=>h.2) (.int .i64 t378)) (fun _ h=>h.2) (.slice Ao118 t379.length co118)) (fun _ h_ => h_.1))) hb); have n8_ := zA (Kd.R_lower (zG (zG ho121 (Kd.R_lt (rrA12 (zC (zB (p := ⟨gb282,4,none⟩) (zB (p := ⟨gb282,3,none⟩) (zB (p := ⟨gb282,2,none⟩) (zB (p := ⟨gb282,1,none⟩) (zB (p := ⟨gb282,0,none⟩) (zH HO_9.out BK282.out (by decide)) (fun _ h=>h.2) (.int .i64 t373)) (fun _ h=>h.2) (.int .i64 t374)) (fun _ h=>h.2) (.slice Ao115 t375.length co115)) (fun _ h=>h.2) (.int .i64 t378)) (fun _ h=>h.2) (.slice Ao118 t379.length co118)) (fun _ h_ => h_.1))))) (Kd.R_lt (rrA12 (zC (zB (p := ⟨gb282,4,none⟩) (zB (p := ⟨gb282,3,none⟩) (zB (p := ⟨gb282,2,none⟩) (zB (p := ⟨gb282,1,none⟩) (zB (p := ⟨gb282,0,none⟩) (zH HO_10.out BK282.out (by decide)) (fun _ h=>h.2) (.int .i64 t373)) (fun _ h=>h.2) (.int .i64 t374)) (fun _ h=>h.2) (.slice Ao115 t375.length co115)) (fun _ h=>h.2) (.int .i64 t378)) (fun _ h=>h.2) (.slice Ao118 t379.length co118)) (fun _ h_ => h_.1))))) (below_size (bT HB))); have n9_ := zA (zP (g := gb282) (o := .cells #[.int .i64 t373,.int .i64 t374,.slice Ao115 t375.length co115,.int .i64 t378,.slice Ao118 t379.length co118] 26 (0,0)) (by (with_reducible repeat (first|refine zM ?_ _|refine zO ?_|refine zN ?_ _)); refine blk_put (cs := #[.int .i64 t373,.int .i64 t374,.slice Ao115 t375.length co115,.int .i64 t378,.slice Ao111 x283004_2.length co111]) ?_ 4 _ rfl; (with_reducible repeat (first|refine zM ?_ _|refine zO ?_|refine zN ?_ _)); refine blk_put (cs := #[.int .i64 t373,.int .i64 t374,.slice Ao115 t375.length co115,.int .i64 x283003_2,.slice Ao111 x283004_2.length co111]) ?_ 3 _ rfl; (with_reducible repeat (first|refine zM ?_ _|refine zO ?_|refine zN ?_ _)); refine blk_put (cs := #[.int .i64 t373,.int .i64 t374,.slice Ao110 x283002_2.length co110,.int .i64 x283003_2,.slice Ao111 x283004_2.length co111]) ?_ 2 _ rfl; (with_reducible repeat (first|refine zM ?_ _|refine zO ?_|refine zN ?_ _)); refine blk_put (cs := #[.int .i64 t373,.int .i64 x283001_2,.slice Ao110 x283002_2.length co110,.int .i64 x283003_2,.slice Ao111 x283004_2.length co111]) ?_ 1 _ rfl; (with_reducible repeat (first|refine zM ?_ _|refine zO ?_|refine zN ?_ _)); refine blk_put (cs := #[.int .i64 x283000_2,.int .i64 x283001_2,.slice Ao110 x283002_2.length co110,.int .i64 x283003_2,.slice Ao111 x283004_2.length co111]) ?_ 0 _ rfl; (with_reducible repeat (first|refine zM ?_ _|refine zO ?_|refine zN ?_ _)); exact BK282.out) hb); have n10_ := zA (zP (bkT BK283.out) hb); have n11_ := zA (zR (bT HB) hb); clear HO_9 HO_10 HO_283002 HO_283004 HO_284002 HO_284004 HO377 HO381 BK282 BK283 HB; have HO_9 := n0_; have HO_10 := n1_; have HO_283002 := n2_; have HO_283004 := n3_; have HO_284002 := n4_; have HO_284004 := n5_; have HO377 := n6_; have HO381 := n7_; have HO385 := n8_; have BK282 := n9_; have BK283 := n10_; have HB := n11_; clear n0_ n1_ n2_ n3_ n4_ n5_ n6_ n7_ n8_ n9_ n10_ n11_ hb ho121; have q122 : (1 : Int) ≤ ((x10_2.length : Int) : Int) := of_decide_eq_true (by first|(with_reducible assumption) | assumption); obtain ⟨i0122,hi0122,_,hsz122,_⟩ := info_parts info36; have hroom122 : x10_2.length ≤ co108 := (zI HO_10.out).2.1; have hC122 : Kd.C k36 _ (some ad372) x10_2.length x10_2 := (zI HO_10.out).2.2; have hcut122 := cut_from (P := Try.prog) 45 36 .i64 Try.underlying45 hi0122 3 hsz122 (some ad372) x10_2.length co108 1 (by omega) q122; have hr122 := Kd.C_drop (m := (1 : Int).toNat) (c := co108) hC122 (by omega) hroom122; obtain ⟨A122,hA122⟩ : ∃ A1,A1 = (if co108 = (1 : Int).toNat then (some ad372) else ((some ad372) : Option Addr).map (·.add ((1 : Int).toNat * 3))) := ⟨_,rfl⟩; obtain ⟨c122,hc122⟩ : ∃ c1,c1 = co108 - (1 : Int).toNat := ⟨_,rfl⟩; have hy122 : y386.length = x10_2.length - (1 : Int).toNat := (by rw [Ny386.out,List.length_drop] <;> omega); rw [show (x10_2).drop (1 : Int).toNat = y386 from Ny386.out.symm] at hr122; replace hr122 : Kd.C k36 _ A122 y386.length y386 := (by rw [hA122]; exact hr122); rw [← hy122,← hA122,← hc122] at hcut122; have HR389 := zA hr122; have HC389 := zA (show y386.length ≤ c122 from by rw [hy122,hc122]; exact Nat.sub_le_sub_right hroom122 _); clear hr122 hC122 hroom122 hi0122 hsz122 hc122; have KY122 := zA hy122; have KA122 := zA hA122; clear hy122 hA122; have KL122 := zA (show 1 ≤ x10_2.length from by omega); replace q122 := eq_true q122) | ((with_reducible refine gate_builtin (b := .append) (xs := #[.tmp 72,.tmp 74]) rfl ?_); at_builtin; refine Kd.R_append_rows k36 (w0 := w) w.heap.size rfl (.tmp 72) (.tmp 74) 45 36 (.agg #[(.int .i64 0),(.int .i64 0),(.string ⟨#[]⟩)]) 32 rfl Try.underlying45 info36 rfl (by decide) (by omega) v384 y383 y386 _ _ _ (fun k_ => some k_ ≠ (u9 : Value).ownBlock ∧ some k_ ≠ (.slice (some ad372) x10_2.length co108 : Value).ownBlock) (fun _ => False) rfl rfl ?aO ?aR (fun _ _ h => h) (fun _ h => h.elim) ?aF ?aB ?aS ?aL ?_; (case aR => exact ccT ((by repeat (first|(with_reducible exact HR389.out)|(with_reducible refine Kd.C_alloc ?_ _)|(with_reducible refine Kd.C_drewN ?_ _)|(with_reducible refine Kd.C_drew ?_)|exact HR389.out)))); (case aB => exact (bT HB)); (case aF => exact (fun k_ hk => ⟨Kd.fresh' (Kd.R_lt (rrA12 HO_9.out)) k_ hk,Kd.fresh' (Kd.R_lt (rrA12 HO_10.out)) k_ hk⟩)); (case aO => exact (by (with_reducible repeat (first|apply zJ|apply zK|apply zL)); exact zC HO385.out (fun _ hk => ⟨hk.1.2,hk.2⟩))); (case aS => exact (below_size (bT HB))); (case aL => have := LMc107.out; omega); intro v391 w123 ho hb hg hat; rw [← Ny390.out] at ho; have n0_ := zA (Kd.R_after (ok := (fun k_ => some k_ ≠ (.slice (some ad372) x10_2.length co108 : Value).ownBlock)) (rrA12 HO_9.out) hg hat); have n1_ := zA (Kd.R_after (ok := (fun k_ => some k_ ≠ (u9 : Value).ownBlock)) (rrA12 HO_10.out) hg hat); have n2_ := zA (Kd.R_over' (rrA12 HO_283002.out) (Kd.R_typed (rrA12 HO385.out)) (by decide) hg); have n3_ := zA (Kd.R_over' (rrA12 HO_283004.out) (Kd.R_typed (rrA12 HO385.out)) (by decide) hg); have n4_ := zA (Kd.R_over' (rrA12 HO_284002.out) (Kd.R_typed (rrA12 HO385.out)) (by decide) hg); have n5_ := zA (Kd.R_over' (rrA12 HO_284004.out) (Kd.R_typed (rrA12 HO385.out)) (by decide) hg); have n6_ := zA (blk_grown (bkT BK282.out) hg (Kd.R_ne HO385.out BK282.out (by decide))); have n7_ := zA (blk_grown (bkT BK283.out) hg (Kd.R_ne HO385.out BK283.out (by decide))); have n8_ := zA (Kd.R_over' (rrA12 HO377.out) (Kd.R_typed (rrA12 HO385.out)) (by decide) hg); have n9_ := zA (Kd.R_over' (rrA12 HO381.out) (Kd.R_typed (rrA12 HO385.out)) (by decide) hg); have n10_ := zA (hb); have n11_ := zA ((show Kd.C k36 w123 A122 y386.length y386 from by rw [Ny386.out,KA122.out]; exact Kd.C_drop (m := 1) (c := co108) ((zI (Kd.R_after (ok := (fun k_ => some k_ ≠ (u9 : Value).ownBlock)) (rrA12 HO_10.out) hg hat)).2.2) KL122.out ((zI (Kd.R_after (ok := (fun k_ => some k_ ≠ (u9 : Value).ownBlock)) (rrA12 HO_10.out) hg hat)).2.1))); have n12_ := zA (ho); clear HO_9 HO_10 HO_283002 HO_283004 HO_284002 HO_284004 BK282 BK283 HO377 HO381 HB HR389 HO385; have HO_9 := n0_; have HO_10 := n1_; have HO_283002 := n2_; have HO_283004 := n3_; have HO_284002 := n4_; have HO_284004 := n5_; have BK282 := n6_; have BK283 := n7_; have HO377 := n8_; have HO381 := n9_; have HB := n10_; have HR389 := n11_; have HO392 := n12_; clear n0_ n1_ n2_ n3_ n4_ n5_ n6_ n7_ n8_ n9_ n10_ n11_ n12_ ho hb hg hat))
                  go_roundg k2
                  case measure => have := HK1.out; have := HK2.out; omega
                  case rel => exact ⟨(x9_2),(y390),(wrap64 (x11_2 + 1)),(t373),(t374),(t375),(t378),(t379),(x284000_2),(x284001_2),(x284002_2),(x284003_2),(x284004_2),(.slice Ao115 t375.length co115),(.slice Ao118 t379.length co118),(u284002),(u284004),(by first|rfl|(simp; done)|(simp [*]; done)),H',⟨by have := HK1.out; have := HK2.out; omega⟩,⟨by (with_reducible repeat (first|apply zJ|apply zK|apply zL)); exact zC HO_9.out (fun _ h=>h.2)⟩,⟨by (with_reducible repeat (first|apply zJ|apply zK|apply zL)); exact zC HO392.out (fun _ hk => hk.1)⟩,⟨by (with_reducible repeat (first|apply zJ|apply zK|apply zL)); exact zC HO377.out (fun _ hk => ⟨hk.1.1.1.1,⟨hk.1.2,hk.2⟩⟩)⟩,⟨by (with_reducible repeat (first|apply zJ|apply zK|apply zL)); exact zC HO381.out (fun _ hk => ⟨hk.1.1.1.1,⟨hk.1.2,hk.2⟩⟩)⟩,⟨by (with_reducible repeat (first|apply zJ|apply zK|apply zL)); exact zC HO_284002.out (fun _ hk => ⟨hk.1.2,⟨hk.2,hk.1.1.2.2⟩⟩)⟩,⟨by (with_reducible repeat (first|apply zJ|apply zK|apply zL)); exact zC HO_284004.out (fun _ hk => ⟨hk.1.2,⟨hk.2,hk.1.1.2.2⟩⟩)⟩,⟨(bkT BK282.out)⟩,⟨(bkT BK283.out)⟩,⟨bT HB⟩⟩
                 ·
                  rw [if_neg c107] at H
                  exact absurd H (by simp)
                ·
                 rw [if_neg c106] at H
                 exact absurd H (by simp)
               ·
                rw [if_neg c104] at H
                exact absurd H (by simp)
             ·
              rw [if_neg c95] at H
              have c95b0 : decide (0 < (x10_2.length : Int)) = false := decide_eq_false c95
              have c95b1 : decide (0 < x10_2.length) = false := decide_eq_false (by omega)
              clear c95
              have H' := zA H
              clear H
              have p301 : 0 ≤ (x11_2 : Int) := of_decide_eq_true (by first|(with_reducible assumption) | assumption)
              have q301 : x11_2 < (l1.length : Int) := of_decide_eq_true (by first|(with_reducible assumption) | assumption)
              obtain ⟨ad301,e301,hx301_0⟩ := Kd.at_int HR1.out x11_2 p301 q301
              cases e301
              replace hx301_0 := (HB.out.cell (World.block_lt_of_cell? w _ hx301_0)).trans hx301_0
              replace p301 := eq_true p301
              replace q301 := eq_true q301
              have p302 : 0 ≤ (x11_2 : Int) := of_decide_eq_true (by first|(with_reducible assumption) | assumption)
              have q302 : x11_2 < (l1.length : Int) := of_decide_eq_true (by first|(with_reducible assumption) | assumption)
              obtain ⟨ad302,e302,hx302_0⟩ := Kd.at_int HR1.out x11_2 p302 q302
              obtain rfl : ad301 = ad302 := (by injection e302)
              replace hx302_0 := (HB.out.cell (World.block_lt_of_cell? w _ hx302_0)).trans hx302_0
              replace p302 := eq_true p302
              replace q302 := eq_true q302
              obtain ⟨Ao124,co124,eo124⟩ := Kd.R_slice HO_10.out
              subst eo124
              go_wp2
              go_roundg k2
              case measure => have := HK1.out; have := HK2.out; omega
              case rel => exact ⟨(x9_2),(x10_2),(wrap64 (x11_2 + 1)),(x283000_2),(x283001_2),(x283002_2),(x283003_2),(x283004_2),(x284000_2),(x284001_2),(x284002_2),(x284003_2),(x284004_2),(u283002),(u283004),(u284002),(u284004),(by first|rfl|(simp; done)|(simp [*]; done)),H',⟨by have := HK1.out; have := HK2.out; omega⟩,⟨(rrA12 HO_9.out)⟩,⟨(rrA12 HO_10.out)⟩,⟨(rrA12 HO_283002.out)⟩,⟨(rrA12 HO_283004.out)⟩,⟨(rrA12 HO_284002.out)⟩,⟨(rrA12 HO_284004.out)⟩,⟨(bkT BK282.out)⟩,⟨(bkT BK283.out)⟩,⟨bT HB⟩⟩
         ·
          rw [if_neg c29] at H
          exact absurd H (by simp)
        ·
         rw [if_neg c28] at H
         have c28b0 : decide (x11_2 < (l1.length : Int)) = false := decide_eq_false c28
         clear c28
         have H' := zA H
         clear H
         have hnb125 := NB283_282.out
         have hnc125 := NB282_283.out
         obtain ⟨_,_,_,_,_,_,_,_,_,_⟩ := cz5 BK283.out
         obtain ⟨Ao127,co127,eo127⟩ := Kd.R_slice HO_284004.out
         subst eo127
         go_wp2
         go_loopg [15,16] k2 (fun kq v15 v16 w' => ∃ (x15_3 : Bool) (x16_3 : Int),v15 = .bool x15_3 ∧ v16 = .int .i64 x16_3 ∧ Aside0 (spec_Talk.l2 kq l0 x15_3 x16_3 x284000_2 x284001_2 x284002_2 x284003_2 x284004_2 = some (r1,r2)) ∧ Aside0 (kq ≤ k2) ∧ Aside0 (Kd.R Kd.string 9 w' w.heap.size (fun k_ => some k_ ≠ (u283004 : Value).ownBlock ∧ some k_ ≠ (u284002 : Value).ownBlock ∧ some k_ ≠ ((.slice Ao127 x284004_2.length co127) : Value).ownBlock) u283002 x283002_2) ∧ Aside0 (Kd.R Kd.string 9 w' w.heap.size (fun k_ => some k_ ≠ (u283002 : Value).ownBlock ∧ some k_ ≠ (u284002 : Value).ownBlock ∧ some k_ ≠ ((.slice Ao127 x284004_2.length co127) : Value).ownBlock) u283004 x283004_2) ∧ Aside0 (Kd.R Kd.string 9 w' w.heap.size (fun k_ => some k_ ≠ (u283002 : Value).ownBlock ∧ some k_ ≠ (u283004 : Value).ownBlock ∧ some k_ ≠ ((.slice Ao127 x284004_2.length co127) : Value).ownBlock) u284002 x284002_2) ∧ Aside0 (Kd.R Kd.string 9 w' w.heap.size (fun k_ => some k_ ≠ (u283002 : Value).ownBlock ∧ some k_ ≠ (u283004 : Value).ownBlock ∧ some k_ ≠ (u284002 : Value).ownBlock) (.slice Ao127 x284004_2.length co127) x284004_2) ∧ Aside0 (w'.heap[gb282]? = some (.cells #[.int .i64 x283000_2,.int .i64 x283001_2,u283002,.int .i64 x283003_2,u283004] 26 (0,0))) ∧ Aside0 (w'.heap[gb283]? = some (.cells #[.int .i64 x284000_2,.int .i64 x284001_2,u284002,.int .i64 x284003_2,(.slice Ao127 x284004_2.length co127)] 26 (0,0))) ∧ Aside0 (Below w.heap.size w w'))
         case atStart => exact ⟨(decide ((x284004_2.length : Int) ≤ (l0.length : Int))),(0),(by first|rfl|(simp; done)|(simp [*]; done)),(by first|rfl|(simp; done)|(simp [*]; done)),H',⟨Nat.le_refl _⟩,⟨(rrA12 HO_283002.out)⟩,⟨(rrA12 HO_283004.out)⟩,⟨(rrA12 HO_284002.out)⟩,⟨(rrA12 HO_284004.out)⟩,⟨(bkT BK282.out)⟩,⟨(bkT BK283.out)⟩,⟨bT HB⟩⟩
         case round =>
          clear H'
          obtain ⟨x15_3,x16_3,rfl,rfl,HA,HK3,HO_283002,HO_283004,HO_284002,HO_284004,BK282,BK283,HB⟩ := hrel
          cases gk with
          | zero => exact absurd HA.out (by simp [spec_Talk.l2])
          | succ k3 =>
           have H := HA.out
           clear HA
           simp only [spec_Talk.l2] at H
           by_cases c128 : x16_3 < (x284004_2.length : Int)
           ·
            rw [if_pos c128] at H
            have c128b0 : decide (x16_3 < (x284004_2.length : Int)) = true := decide_eq_true c128
            clear c128
            by_cases c129 : x15_3 = true
            ·
             subst c129
             have H1 : (if 0 ≤ x16_3 then (if x16_3 < (l0.length : Int) then (spec_Talk.l2 k3 l0 ((rdOf ByteArray.empty x284004_2 x16_3).toList == (rdOf ByteArray.empty l0 x16_3).toList) (wrap64 (x16_3 + 1)) x284000_2 x284001_2 x284002_2 x284003_2 x284004_2) else (none)) else (none)) = some (r1,r2) := by rw [if_pos rfl] at H; exact H
             clear H; have H := H1; clear H1
             by_cases c130 : 0 ≤ x16_3
             ·
              rw [if_pos c130] at H
              have c130b0 : decide (0 ≤ x16_3) = true := decide_eq_true c130
              clear c130
              by_cases c131 : x16_3 < (l0.length : Int)
              ·
               rw [if_pos c131] at H
               have c131b0 : decide (x16_3 < (l0.length : Int)) = true := decide_eq_true c131
               clear c131
               have H' := zA H
               clear H
               have hnb132 := NB283_282.out
               have hnc132 := NB282_283.out
               obtain ⟨_,_,_,_,_,_,_,_,_,_⟩ := cz5 BK283.out
               try go_wp2
               have n0_ := zA (zL HO_283002.out)
               have n1_ := zA (zL HO_283004.out)
               have n2_ := zA (zL HO_284002.out)
               have n3_ := zA (zL HO_284004.out)
               have n4_ := zA (zO BK282.out)
               have n5_ := zA (zO BK283.out)
               have n6_ := zA (below_drew1 HB.out)
               clear HO_283002 HO_283004 HO_284002 HO_284004 BK282 BK283 HB
               have HO_283002 := n0_
               have HO_283004 := n1_
               have HO_284002 := n2_
               have HO_284004 := n3_
               have BK282 := n4_
               have BK283 := n5_
               have HB := n6_
               clear n0_ n1_ n2_ n3_ n4_ n5_ n6_
               have p393 : 0 ≤ (x16_3 : Int) := of_decide_eq_true (by first|(with_reducible assumption) | assumption)
               have q393 : x16_3 < (x284004_2.length : Int) := of_decide_eq_true (by first|(with_reducible assumption) | assumption)
               obtain ⟨ad393,e393,hx393_0⟩ := Kd.at_string (zI HO_284004.out).2.2 x16_3 p393 q393
               cases e393
               replace p393 := eq_true p393
               replace q393 := eq_true q393
               have p394 : 0 ≤ (x16_3 : Int) := of_decide_eq_true (by first|(with_reducible assumption) | assumption)
               have q394 : x16_3 < (l0.length : Int) := of_decide_eq_true (by first|(with_reducible assumption) | assumption)
               obtain ⟨ad394,e394,hx394_0⟩ := Kd.at_string HR0.out x16_3 p394 q394
               have hw394_0 := hx394_0
               cases e394
               replace hx394_0 := (HB.out.cell (World.block_lt_of_cell? w _ hx394_0)).trans hx394_0
               replace p394 := eq_true p394
               replace q394 := eq_true q394
               refine start_ (n := 11) (S := fun w' => w'.cell? ⟨gb283,0,none⟩ = some (.int .i64 x284000_2) ∧ w'.cell? ⟨gb283,1,none⟩ = some (.int .i64 x284001_2) ∧ w'.cell? ⟨gb283,2,none⟩ = some (u284002) ∧ w'.cell? ⟨gb283,3,none⟩ = some (.int .i64 x284003_2) ∧ w'.cell? ⟨gb283,4,none⟩ = some (.slice (some ad393) x284004_2.length co127) ∧ w'.cell? (ad393.add (x16_3).toNat) = some (.string (rdOf ByteArray.empty x284004_2 x16_3)) ∧ w'.cell? (ad394.add (x16_3).toNat) = some (.string (rdOf ByteArray.empty l0 x16_3))) (ds := []) #[false,false,false,false,false,false,false,false,false,false,false] (by kernel_rfl) rfl rfl ⟨(zQ BK283.out 0).trans rfl,(zQ BK283.out 1).trans rfl,(zQ BK283.out 2).trans rfl,(zQ BK283.out 3).trans rfl,(zQ BK283.out 4).trans rfl,hx393_0,((HB.out.cell (World.block_lt_of_cell? w _ hw394_0)).trans hw394_0)⟩ (fun hHeld => ?_); refine with_tabW spec_Talk.tab36 spec_Talk.bits36 (fun HT_ HW_ => ?_)
               generalize wr.drew = w134 at HO_283002 HO_283004 HO_284002 HO_284004 BK282 BK283 HB hx393_0 hx394_0 hHeld ⊢
               refine pure_ (i := 0) (N := some 132) (v := ?_) (a' := ?_) #[true,false,false,false,false,false,false,false,false,false,false] rfl rfl (any_of HT_.out (by kernel_rfl)) (fun _ _ _ h => h) (Or.inl ⟨by rfl,?_⟩) ?_ ?_; rotate_left
               · intro w'; go_simp; with_reducible rfl
               rotate_left
               · simp only [Act.put,List.setIfInBounds_toArray,List.set_cons_zero,List.set_cons_succ,i64_w,i32_w]; rfl
               refine pure_ (i := 2) (N := some 134) (v := ?_) (a' := ?_) #[true,false,true,false,false,false,false,false,false,false,false] rfl rfl (any_of HT_.out (by kernel_rfl)) (fun _ _ _ h => h) (Or.inl ⟨by rfl,?_⟩) ?_ ?_; rotate_left
               · intro w'; go_simp; with_reducible rfl
               rotate_left
               · simp only [Act.put,List.setIfInBounds_toArray,List.set_cons_zero,List.set_cons_succ,i64_w,i32_w]; rfl
               refine pure_ (i := 5) (N := some 137) (v := ?_) (a' := ?_) #[true,false,true,false,false,true,false,false,false,false,false] rfl rfl (any_of HT_.out (by kernel_rfl)) (fun _ _ _ h => h) (Or.inl ⟨by rfl,?_⟩) ?_ ?_; rotate_left
               · intro w'; go_simp; with_reducible rfl
               rotate_left
               · simp only [Act.put,List.setIfInBounds_toArray,List.set_cons_zero,List.set_cons_succ,i64_w,i32_w]; rfl
               refine pure_ (i := 6) (N := some 138) (v := ?_) (a' := ?_) #[true,false,true,false,false,true,true,false,false,false,false] rfl rfl (any_of HT_.out (by kernel_rfl)) (fun _ _ _ h => h) (Or.inl ⟨by rfl,?_⟩) ?_ ?_; rotate_left
               · intro w'; go_simp; with_reducible rfl
               rotate_left
               · simp only [Act.put,List.setIfInBounds_toArray,List.set_cons_zero,List.set_cons_succ,i64_w,i32_w]; rfl
               refine pure_ (i := 7) (N := some 139) (v := ?_) (a' := ?_) #[true,false,true,false,false,true,true,true,false,false,false] rfl rfl (any_of HT_.out (by kernel_rfl)) (fun _ _ _ h => h) (Or.inl ⟨by rfl,?_⟩) ?_ ?_; rotate_left
               · intro w'; go_simp; with_reducible rfl
               rotate_left
               · simp only [Act.put,List.setIfInBounds_toArray,List.set_cons_zero,List.set_cons_succ,i64_w,i32_w]; rfl
               refine take_ (i := 1) (N := some 133) (v := ?_) (a' := ?_) #[true,true,true,false,false,true,true,true,false,false,false] rfl rfl (take_ofW HT_.out HW_.out (by kernel_rfl)) (fun _ _ _ h => h) (Or.inl ⟨by rfl,?_⟩) hHeld ?_ ?_; rotate_left
               ·
                rintro w' ⟨s0,s1,s2,s3,s4,s5,s6⟩
                go_simp; with_reducible rfl
               rotate_left
               · simp only [Act.put,List.setIfInBounds_toArray,List.set_cons_zero,List.set_cons_succ,i64_w,i32_w]; rfl
               refine pure_ (i := 3) (N := some 135) (v := ?_) (a' := ?_) #[true,true,true,true,false,true,true,true,false,false,false] rfl rfl (any_of HT_.out (by kernel_rfl)) (fun _ _ _ h => h) (Or.inl ⟨by rfl,?_⟩) ?_ ?_; rotate_left
               · intro w'; go_simp; with_reducible rfl
               rotate_left
               · simp only [Act.put,List.setIfInBounds_toArray,List.set_cons_zero,List.set_cons_succ,i64_w,i32_w]; rfl
               refine take_ (i := 4) (N := some 136) (v := ?_) (a' := ?_) #[true,true,true,true,true,true,true,true,false,false,false] rfl rfl (take_ofW HT_.out HW_.out (by kernel_rfl)) (fun _ _ _ h => h) (Or.inl ⟨by rfl,?_⟩) hHeld ?_ ?_; rotate_left
               ·
                rintro w' ⟨s0,s1,s2,s3,s4,s5,s6⟩
                go_simp; with_reducible rfl
               rotate_left
               · simp only [Act.put,List.setIfInBounds_toArray,List.set_cons_zero,List.set_cons_succ,i64_w,i32_w]; rfl
               refine take_ (i := 8) (N := some 140) (v := ?_) (a' := ?_) #[true,true,true,true,true,true,true,true,true,false,false] rfl rfl (take_ofW HT_.out HW_.out (by kernel_rfl)) (fun _ _ _ h => h) (Or.inl ⟨by rfl,?_⟩) hHeld ?_ ?_; rotate_left
               ·
                rintro w' ⟨s0,s1,s2,s3,s4,s5,s6⟩
                go_simp; with_reducible rfl
               rotate_left
               · simp only [Act.put,List.setIfInBounds_toArray,List.set_cons_zero,List.set_cons_succ,i64_w,i32_w]; rfl
               refine pure_ (i := 9) (N := some 141) (v := ?_) (a' := ?_) #[true,true,true,true,true,true,true,true,true,true,false] rfl rfl (any_of HT_.out (by kernel_rfl)) (fun _ _ _ h => h) (Or.inl ⟨by rfl,?_⟩) ?_ ?_; rotate_left
               · intro w'; go_simp; with_reducible rfl
               rotate_left
               · simp only [Act.put,List.setIfInBounds_toArray,List.set_cons_zero,List.set_cons_succ,i64_w,i32_w]; rfl
               refine pure_ (i := 10) (N := some 15) (v := ?_) (a' := ?_) #[true,true,true,true,true,true,true,true,true,true,true] rfl rfl (any_of HT_.out (by kernel_rfl)) (fun _ _ _ h => h) (Or.inl ⟨by rfl,?_⟩) ?_ ?_; rotate_left
               · intro w'; go_simp; with_reducible rfl
               rotate_left
               · simp only [Act.put,List.setIfInBounds_toArray,List.set_cons_zero,List.set_cons_succ,i64_w,i32_w]; rfl
               refine done_ (done_of HT_.out (by kernel_rfl)) ?_
               try go_wp2
               go_roundg k3
               case measure => have := HK1.out; have := HK2.out; have := HK3.out; omega
               case rel => exact ⟨(((rdOf ByteArray.empty x284004_2 x16_3).toList == (rdOf ByteArray.empty l0 x16_3).toList)),(wrap64 (x16_3 + 1)),(by first|rfl|(simp; done)|(simp [*]; done)),(by first|rfl|(simp; done)|(simp [*]; done)),H',⟨by have := HK1.out; have := HK2.out; have := HK3.out; omega⟩,⟨(rrA12 HO_283002.out)⟩,⟨(rrA12 HO_283004.out)⟩,⟨(rrA12 HO_284002.out)⟩,⟨(rrA12 HO_284004.out)⟩,⟨(bkT BK282.out)⟩,⟨(bkT BK283.out)⟩,⟨bT HB⟩⟩
              ·
               rw [if_neg c131] at H
               exact absurd H (by simp)
             ·
              rw [if_neg c130] at H
              exact absurd H (by simp)
            ·
             replace c129 := Bool.eq_false_iff.mpr c129
             subst c129
             have H1 : ((some (([] : List ByteArray) : List ByteArray)).bind fun y395 => (if y395.length + x284004_2.length < 8796093022208 then (some ((y395 ++ x284004_2),false)) else (none))) = some (r1,r2) := by rw [if_neg (show ¬ (false = true) by decide)] at H; exact H
             clear H; have H := H1; clear H1
             obtain ⟨y395,hy395⟩ : ∃ y_ : List ByteArray,y_ = (([] : List ByteArray)) := ⟨_,rfl⟩
             replace H : (if y395.length + x284004_2.length < 8796093022208 then (some ((y395 ++ x284004_2),false)) else (none)) = some (r1,r2) := by first | (rw [hy395]; with_reducible exact H) | (have H2_ := (Option.bind_some _ _).symm.trans H; rw [hy395]; with_reducible exact H2_) | (have H2_ := (Option.bind_some _ _).symm.trans H; with_reducible exact H2_)|with_reducible exact H | (rw [hy395]; exact H)|exact H
             have Ny395 := zA hy395
             clear hy395
             by_cases c135 : y395.length + x284004_2.length < 8796093022208
             ·
              rw [if_pos c135] at H
              have LMc135 := zA c135
              clear c135
              obtain ⟨y398,hy398⟩ : ∃ y_ : List ByteArray,y_ = (y395 ++ x284004_2) := ⟨_,rfl⟩
              replace H : (some (y398,false)) = some (r1,r2) := by first | (rw [hy398]; with_reducible exact H) | (have H2_ := (Option.bind_some _ _).symm.trans H; rw [hy398]; with_reducible exact H2_) | (have H2_ := (Option.bind_some _ _).symm.trans H; with_reducible exact H2_)|with_reducible exact H | (rw [hy398]; exact H)|exact H
              have Ny398 := zA hy398
              clear hy398
              simp only [Option.some.injEq,Prod.mk.injEq] at H
              obtain ⟨rfl,rfl⟩ := H
              have hnb136 := NB283_282.out
              have hnc136 := NB282_283.out
              obtain ⟨_,_,_,_,_,_,_,_,_,_⟩ := cz5 BK283.out
              go_wp2_with (first | ((with_reducible refine gate_dst (N := 142) rfl ?_); refine Kd.R_lit Kd.string _ 9 ?hg (N := 142) ?hd (xs := ([] : List ByteArray)) (inner := []) (ok := fun _ => True) (okp := fun _ => True) ?hr ?hp (fun _ hk => hk) trivial (Below.refl _ _) (Nat.le_refl _) (by simp) ?_; (case hd => rfl); (case hg => rfl); (case hr => first | (go_simp; done) | (go_simp; rfl)); (case hp => exact (Reps.none _ _)); intro v396 w138 ho139 hb hg_ hnew_; clear hg_ hnew_; (first | rw [← Ny395.out] at ho139|(simp only [Int.reduceToNat] at ho139; rw [← Ny395.out] at ho139)); have n0_ := zA (Kd.R_elder' (rrA12 HO_283002.out) (zF ho139) hb); have n1_ := zA (Kd.R_elder' (rrA12 HO_283004.out) (zF ho139) hb); have n2_ := zA (Kd.R_elder' (rrA12 HO_284002.out) (zF ho139) hb); have n3_ := zA (Kd.R_elder' (rrA12 HO_284004.out) (zF ho139) hb); have n4_ := zA (Kd.R_lower (zG (zG (zG (zG ho139 (Kd.R_lt (rrA12 HO_283002.out))) (Kd.R_lt (rrA12 HO_283004.out))) (Kd.R_lt (rrA12 HO_284002.out))) (Kd.R_lt (rrA12 HO_284004.out))) (below_size (bT HB))); have n5_ := zA (zP (bkT BK282.out) hb); have n6_ := zA (zP (bkT BK283.out) hb); have n7_ := zA (zR (bT HB) hb); clear HO_283002 HO_283004 HO_284002 HO_284004 BK282 BK283 HB; have HO_283002 := n0_; have HO_283004 := n1_; have HO_284002 := n2_; have HO_284004 := n3_; have HO397 := n4_; have BK282 := n5_; have BK283 := n6_; have HB := n7_; clear n0_ n1_ n2_ n3_ n4_ n5_ n6_ n7_ hb ho139; obtain ⟨_,_,_,_,_,_,_,_,_,_⟩ := cz5 BK283.out) | ((with_reducible refine gate_builtin (b := .append) (xs := #[.tmp 142,.tmp 144]) rfl ?_); at_builtin; refine Kd.R_append_rows Kd.string (w0 := w) w.heap.size rfl (.tmp 142) (.tmp 144) 22 9 (.string ⟨#[]⟩) 16 rfl Try.underlying22 info9 rfl (by decide) (by omega) v396 y395 x284004_2 _ _ _ (fun k_ => some k_ ≠ (u283002 : Value).ownBlock ∧ some k_ ≠ (u283004 : Value).ownBlock ∧ some k_ ≠ (u284002 : Value).ownBlock ∧ some k_ ≠ (.slice Ao127 x284004_2.length co127 : Value).ownBlock) (fun _ => False) rfl rfl ?aO ?aR (fun _ _ h => h) (fun _ h => h.elim) ?aF ?aB ?aS ?aL ?_; (case aR => exact ccT ((zI HO_284004.out).2.2)); (case aB => exact (bT HB)); (case aF => exact (fun k_ hk => ⟨Kd.fresh' (Kd.R_lt (rrA12 HO_283002.out)) k_ hk,Kd.fresh' (Kd.R_lt (rrA12 HO_283004.out)) k_ hk,Kd.fresh' (Kd.R_lt (rrA12 HO_284002.out)) k_ hk,Kd.fresh' (Kd.R_lt (rrA12 HO_284004.out)) k_ hk⟩)); (case aO => exact (by (with_reducible repeat (first|apply zJ|apply zK|apply zL)); exact zC HO397.out (fun _ hk => ⟨hk.1.1.1.2,⟨hk.1.1.2,⟨hk.1.2,hk.2⟩⟩⟩))); (case aS => exact (below_size (bT HB))); (case aL => have := LMc135.out; omega); intro v399 w141 ho hb hg hat; rw [← Ny398.out] at ho; have n0_ := zA (Kd.R_after (ok := (fun k_ => some k_ ≠ (u283004 : Value).ownBlock ∧ some k_ ≠ (u284002 : Value).ownBlock ∧ some k_ ≠ (.slice Ao127 x284004_2.length co127 : Value).ownBlock)) (rrA12 HO_283002.out) hg hat); have n1_ := zA (Kd.R_after (ok := (fun k_ => some k_ ≠ (u283002 : Value).ownBlock ∧ some k_ ≠ (u284002 : Value).ownBlock ∧ some k_ ≠ (.slice Ao127 x284004_2.length co127 : Value).ownBlock)) (rrA12 HO_283004.out) hg hat); have n2_ := zA (Kd.R_after (ok := (fun k_ => some k_ ≠ (u283002 : Value).ownBlock ∧ some k_ ≠ (u283004 : Value).ownBlock ∧ some k_ ≠ (.slice Ao127 x284004_2.length co127 : Value).ownBlock)) (rrA12 HO_284002.out) hg hat); have n3_ := zA (Kd.R_after (ok := (fun k_ => some k_ ≠ (u283002 : Value).ownBlock ∧ some k_ ≠ (u283004 : Value).ownBlock ∧ some k_ ≠ (u284002 : Value).ownBlock)) (rrA12 HO_284004.out) hg hat); have n4_ := zA (blk_grown (bkT BK282.out) hg (Kd.R_ne HO397.out BK282.out (by decide))); have n5_ := zA (blk_grown (bkT BK283.out) hg (Kd.R_ne HO397.out BK283.out (by decide))); have n6_ := zA (hb); have n7_ := zA (ho); clear HO_283002 HO_283004 HO_284002 HO_284004 BK282 BK283 HB HO397; have HO_283002 := n0_; have HO_283004 := n1_; have HO_284002 := n2_; have HO_284004 := n3_; have BK282 := n4_; have BK283 := n5_; have HB := n6_; have HO400 := n7_; clear n0_ n1_ n2_ n3_ n4_ n5_ n6_ n7_ ho hb hg hat))
              go_ret2
              exact ⟨_,by first|rfl|(simp [errW_none,errW_some] <;> rfl)|(simp [*,errW_none,errW_some] <;> rfl),by (with_reducible repeat (first|apply zJ|apply zK|apply zL)); exact zC HO400.out (fun _ hk => trivial),bT HB⟩
             ·
              rw [if_neg c135] at H
              exact absurd H (by simp)
           ·
            rw [if_neg c128] at H
            have c128b0 : decide (x16_3 < (x284004_2.length : Int)) = false := decide_eq_false c128
            clear c128
            obtain ⟨y401,hy401⟩ : ∃ y_ : List ByteArray,y_ = (([] : List ByteArray)) := ⟨_,rfl⟩
            replace H : (if y401.length + x284004_2.length < 8796093022208 then (some ((y401 ++ x284004_2),x15_3)) else (none)) = some (r1,r2) := by first | (rw [hy401]; with_reducible exact H) | (have H2_ := (Option.bind_some _ _).symm.trans H; rw [hy401]; with_reducible exact H2_) | (have H2_ := (Option.bind_some _ _).symm.trans H; with_reducible exact H2_)|with_reducible exact H | (rw [hy401]; exact H)|exact H
            have Ny401 := zA hy401
            clear hy401
            by_cases c142 : y401.length + x284004_2.length < 8796093022208
            ·
             rw [if_pos c142] at H
             have LMc142 := zA c142
             clear c142
             obtain ⟨y404,hy404⟩ : ∃ y_ : List ByteArray,y_ = (y401 ++ x284004_2) := ⟨_,rfl⟩
             replace H : (some (y404,x15_3)) = some (r1,r2) := by first | (rw [hy404]; with_reducible exact H) | (have H2_ := (Option.bind_some _ _).symm.trans H; rw [hy404]; with_reducible exact H2_) | (have H2_ := (Option.bind_some _ _).symm.trans H; with_reducible exact H2_)|with_reducible exact H | (rw [hy404]; exact H)|exact H
             have Ny404 := zA hy404
             clear hy404
             simp only [Option.some.injEq,Prod.mk.injEq] at H
             obtain ⟨rfl,rfl⟩ := H
             have hnb143 := NB283_282.out
             have hnc143 := NB282_283.out
             obtain ⟨_,_,_,_,_,_,_,_,_,_⟩ := cz5 BK283.out
             go_wp2_with (first | ((with_reducible refine gate_dst (N := 142) rfl ?_); refine Kd.R_lit Kd.string _ 9 ?hg (N := 142) ?hd (xs := ([] : List ByteArray)) (inner := []) (ok := fun _ => True) (okp := fun _ => True) ?hr ?hp (fun _ hk => hk) trivial (Below.refl _ _) (Nat.le_refl _) (by simp) ?_; (case hd => rfl); (case hg => rfl); (case hr => first | (go_simp; done) | (go_simp; rfl)); (case hp => exact (Reps.none _ _)); intro v402 w145 ho146 hb hg_ hnew_; clear hg_ hnew_; (first | rw [← Ny401.out] at ho146|(simp only [Int.reduceToNat] at ho146; rw [← Ny401.out] at ho146)); have n0_ := zA (Kd.R_elder' (rrA12 HO_283002.out) (zF ho146) hb); have n1_ := zA (Kd.R_elder' (rrA12 HO_283004.out) (zF ho146) hb); have n2_ := zA (Kd.R_elder' (rrA12 HO_284002.out) (zF ho146) hb); have n3_ := zA (Kd.R_elder' (rrA12 HO_284004.out) (zF ho146) hb); have n4_ := zA (Kd.R_lower (zG (zG (zG (zG ho146 (Kd.R_lt (rrA12 HO_283002.out))) (Kd.R_lt (rrA12 HO_283004.out))) (Kd.R_lt (rrA12 HO_284002.out))) (Kd.R_lt (rrA12 HO_284004.out))) (below_size (bT HB))); have n5_ := zA (zP (bkT BK282.out) hb); have n6_ := zA (zP (bkT BK283.out) hb); have n7_ := zA (zR (bT HB) hb); clear HO_283002 HO_283004 HO_284002 HO_284004 BK282 BK283 HB; have HO_283002 := n0_; have HO_283004 := n1_; have HO_284002 := n2_; have HO_284004 := n3_; have HO403 := n4_; have BK282 := n5_; have BK283 := n6_; have HB := n7_; clear n0_ n1_ n2_ n3_ n4_ n5_ n6_ n7_ hb ho146; obtain ⟨_,_,_,_,_,_,_,_,_,_⟩ := cz5 BK283.out) | ((with_reducible refine gate_builtin (b := .append) (xs := #[.tmp 142,.tmp 144]) rfl ?_); at_builtin; refine Kd.R_append_rows Kd.string (w0 := w) w.heap.size rfl (.tmp 142) (.tmp 144) 22 9 (.string ⟨#[]⟩) 16 rfl Try.underlying22 info9 rfl (by decide) (by omega) v402 y401 x284004_2 _ _ _ (fun k_ => some k_ ≠ (u283002 : Value).ownBlock ∧ some k_ ≠ (u283004 : Value).ownBlock ∧ some k_ ≠ (u284002 : Value).ownBlock ∧ some k_ ≠ (.slice Ao127 x284004_2.length co127 : Value).ownBlock) (fun _ => False) rfl rfl ?aO ?aR (fun _ _ h => h) (fun _ h => h.elim) ?aF ?aB ?aS ?aL ?_; (case aR => exact ccT ((zI HO_284004.out).2.2)); (case aB => exact (bT HB)); (case aF => exact (fun k_ hk => ⟨Kd.fresh' (Kd.R_lt (rrA12 HO_283002.out)) k_ hk,Kd.fresh' (Kd.R_lt (rrA12 HO_283004.out)) k_ hk,Kd.fresh' (Kd.R_lt (rrA12 HO_284002.out)) k_ hk,Kd.fresh' (Kd.R_lt (rrA12 HO_284004.out)) k_ hk⟩)); (case aO => exact (by (with_reducible repeat (first|apply zJ|apply zK|apply zL)); exact zC HO403.out (fun _ hk => ⟨hk.1.1.1.2,⟨hk.1.1.2,⟨hk.1.2,hk.2⟩⟩⟩))); (case aS => exact (below_size (bT HB))); (case aL => have := LMc142.out; omega); intro v405 w148 ho hb hg hat; rw [← Ny404.out] at ho; have n0_ := zA (Kd.R_after (ok := (fun k_ => some k_ ≠ (u283004 : Value).ownBlock ∧ some k_ ≠ (u284002 : Value).ownBlock ∧ some k_ ≠ (.slice Ao127 x284004_2.length co127 : Value).ownBlock)) (rrA12 HO_283002.out) hg hat); have n1_ := zA (Kd.R_after (ok := (fun k_ => some k_ ≠ (u283002 : Value).ownBlock ∧ some k_ ≠ (u284002 : Value).ownBlock ∧ some k_ ≠ (.slice Ao127 x284004_2.length co127 : Value).ownBlock)) (rrA12 HO_283004.out) hg hat); have n2_ := zA (Kd.R_after (ok := (fun k_ => some k_ ≠ (u283002 : Value).ownBlock ∧ some k_ ≠ (u283004 : Value).ownBlock ∧ some k_ ≠ (.slice Ao127 x284004_2.length co127 : Value).ownBlock)) (rrA12 HO_284002.out) hg hat); have n3_ := zA (Kd.R_after (ok := (fun k_ => some k_ ≠ (u283002 : Value).ownBlock ∧ some k_ ≠ (u283004 : Value).ownBlock ∧ some k_ ≠ (u284002 : Value).ownBlock)) (rrA12 HO_284004.out) hg hat); have n4_ := zA (blk_grown (bkT BK282.out) hg (Kd.R_ne HO403.out BK282.out (by decide))); have n5_ := zA (blk_grown (bkT BK283.out) hg (Kd.R_ne HO403.out BK283.out (by decide))); have n6_ := zA (hb); have n7_ := zA (ho); clear HO_283002 HO_283004 HO_284002 HO_284004 BK282 BK283 HB HO403; have HO_283002 := n0_; have HO_283004 := n1_; have HO_284002 := n2_; have HO_284004 := n3_; have BK282 := n4_; have BK283 := n5_; have HB := n6_; have HO406 := n7_; clear n0_ n1_ n2_ n3_ n4_ n5_ n6_ n7_ ho hb hg hat))
             go_ret2
             exact ⟨_,by first|rfl|(simp [errW_none,errW_some] <;> rfl)|(simp [*,errW_none,errW_some] <;> rfl),by (with_reducible repeat (first|apply zJ|apply zK|apply zL)); exact zC HO406.out (fun _ hk => trivial),bT HB⟩
            ·
             rw [if_neg c142] at H
             exact absurd H (by simp)
  ·
   replace c4 := Bool.eq_false_iff.mpr c4
   subst c4
   have H1 : (some ((([] : List ByteArray)),false)) = some (r1,r2) := by rw [if_neg (show ¬ (false = true) by decide)] at H; exact H
   clear H; have H := H1; clear H1
   obtain ⟨y279,hy279⟩ : ∃ y_ : List ByteArray,y_ = (([] : List ByteArray)) := ⟨_,rfl⟩
   replace H : (some (y279,false)) = some (r1,r2) := by first | (rw [hy279]; with_reducible exact H) | (have H2_ := (Option.bind_some _ _).symm.trans H; rw [hy279]; with_reducible exact H2_) | (have H2_ := (Option.bind_some _ _).symm.trans H; with_reducible exact H2_)|with_reducible exact H | (rw [hy279]; exact H)|exact H
   have Ny279 := zA hy279
   clear hy279
   simp only [Option.some.injEq,Prod.mk.injEq] at H
   obtain ⟨rfl,rfl⟩ := H
   go_enter Try.func35,Try.ntmps35
   go_wp2_with (first | ((with_reducible refine gate_callee (f := 59) rfl ?_); refine goesL_ (some 19) rfl rfl Try.func59 (by kernel_rfl) rfl #[.slice A0 l0.length c0,.slice A1 l1.length c1] rfl (by (try simp only [List.map_toArray,List.map_cons,List.map_nil]); first | done|rfl|(simp only [List.length_drop,List.length_take]; rfl)) ?_; (with_reducible refine (spec_l06TalkOk.calls k _ _ l0 _ _ l1 false _ ?side1 ?side2 ?side3 ?side4 A3.out).mono ?_); (case side1 => repeat (first|exact HR0.out|(with_reducible refine Kd.C_alloc ?_ _)|(with_reducible refine Kd.C_drewN ?_ _)|(with_reducible refine Kd.C_drew ?_))); (case side2 => exact HC0.out); (case side3 => repeat (first|exact HR1.out|(with_reducible refine Kd.C_alloc ?_ _)|(with_reducible refine Kd.C_drewN ?_ _)|(with_reducible refine Kd.C_drew ?_))); (case side4 => exact HC1.out); rintro e w' ⟨rfl,⟨nd,rfl⟩⟩; refine ⟨_,rfl,?_⟩) | ((with_reducible refine gate_dst (N := 21) rfl ?_); refine Kd.R_lit Kd.string _ 9 ?hg (N := 21) ?hd (xs := ([] : List ByteArray)) (inner := []) (ok := fun _ => True) (okp := fun _ => True) ?hr ?hp (fun _ hk => hk) trivial (Below.refl _ _) (Nat.le_refl _) (by simp) ?_; (case hd => rfl); (case hg => rfl); (case hr => first | (go_simp; done) | (go_simp; rfl)); (case hp => exact (Reps.none _ _)); intro v280 w149 ho150 hb hg_ hnew_; clear hg_ hnew_; (first | rw [← Ny279.out] at ho150|(simp only [Int.reduceToNat] at ho150; rw [← Ny279.out] at ho150)); have n0_ := zA (Kd.R_lower ho150 (below_size (bT HB))); have n1_ := zA (zR (bT HB) hb); clear HB; have HO281 := n0_; have HB := n1_; clear n0_ n1_ hb ho150))
   go_ret2
   exact ⟨_,by first|rfl|(simp [errW_none,errW_some] <;> rfl)|(simp [*,errW_none,errW_some] <;> rfl),(rrA12 HO281.out),bT HB⟩

end Go.Proofs.Ytlidnobkkgcnlaa.PFnLinks
