-- Written by a program out of the translation,for this claim.
import Derived.Test.YtlidnobkkgcnlaaPFnExactReceivex0
import Derived.Test.YtlidnobkkgcnlaaPFnExactReceivex1
import Derived.Test.YtlidnobkkgcnlaaPFnExactReceivex2
import Derived.Test.YtlidnobkkgcnlaaPFnExactReceivex4
import Derived.Test.YtlidnobkkgcnlaaPFnExactReceivex7
import Derived.Test.YtlidnobkkgcnlaaPFnExactReceivex9
import Derived.Test.YtlidnobkkgcnlaaPFnExactReceivex13
import Derived.Test.YtlidnobkkgcnlaaPFnExactReceivex17
import Derived.Test.YtlidnobkkgcnlaaPFnExactReceivex18
namespace Go.Proofs.Ytlidnobkkgcnlaa.PFnExactReceive
open Go.RowKit Go.Proofs.YtlidnobkkgcnlaaW.PrintWords Go.Proofs.YtlidnobkkgcnlaaW.PrintLast Go.Proofs.YtlidnobkkgcnlaaW.PrintMore
attribute [local go_sem] max2_int min2_int max_two min_two max_three min_three max_four min_four   -- for this text's walks alone
set_option linter.unusedVariables false
set_option linter.unusedSimpArgs false
theorem rrA19 {p q : Prop} (h : p) (f : p → q := by (intro h_; (with_reducible repeat (first | apply Kd.R_alloc | apply Kd.R_drewN | apply Kd.R_drew)); exact h_)) : q := f h
theorem rrB19 {p q : Prop} (h : p) (f : p → q := by (intro h_; (with_reducible repeat (first | refine blk_drewN ?_ _ | refine blk_drew ?_ | refine blk_alloc ?_ _)); exact h_)) : q := f h
open Go.Proofs.YtlidnobkkgcnlaaW.PrintWords.Aside0 renaming mk → zA
open Go.Proofs.YtlidnobkkgcnlaaW.PrintWords.Kd renaming R_far → zB
open Go.Proofs.YtlidnobkkgcnlaaW.PrintWords.Kd renaming R_mono → zC
open Go.Proofs.YtlidnobkkgcnlaaW.PrintWords.Kd renaming R_below → zD
open Go.Proofs.YtlidnobkkgcnlaaW.PrintMore.Kd renaming R_told → zE
open Go.Proofs.YtlidnobkkgcnlaaW.PrintWords.Kd renaming R_base → zF
open Go.Proofs.YtlidnobkkgcnlaaW.PrintWords.Kd renaming R_new' → zG
open Go.Proofs.YtlidnobkkgcnlaaW.PrintWords.Kd renaming R_types → zH
open Go.Proofs.YtlidnobkkgcnlaaW.PrintWords.Kd renaming R_reads' → zI
open Go.Proofs.YtlidnobkkgcnlaaW.PrintWords.Kd renaming R_alloc → zJ
open Go.Proofs.YtlidnobkkgcnlaaW.PrintWords.Kd renaming R_drewN → zK
open Go.Proofs.YtlidnobkkgcnlaaW.PrintWords.Kd renaming R_drew → zL
open Go.Proofs.YtlidnobkkgcnlaaW.PrintMore.Kd renaming R_old → zM
open Go.Proofs.YtlidnobkkgcnlaaW.PrintWords renaming below_set → zN
open Go.Proofs.YtlidnobkkgcnlaaW.PrintWords renaming below_alloc → zO
open Go.Proofs.YtlidnobkkgcnlaaW.PrintWords renaming below_drew1 → zP
open Go.Proofs.YtlidnobkkgcnlaaW.PrintWords renaming pw_below_drewN → zQ
open Go.Proofs.YtlidnobkkgcnlaaW.PrintWords renaming blk_drewN → zR
open Go.Proofs.YtlidnobkkgcnlaaW.PrintWords renaming blk_alloc → zS
open Go.Proofs.YtlidnobkkgcnlaaW.PrintWords renaming blk_drew → zT
open Go.Proofs.YtlidnobkkgcnlaaW.PrintWords renaming blk_frozen → zU
open Go.Proofs.YtlidnobkkgcnlaaW.PrintWords renaming blk_below → zV
open Go.Proofs.YtlidnobkkgcnlaaW.PrintWords renaming blk_cell → zW
open Go.Proofs.YtlidnobkkgcnlaaW.PrintWords renaming blk_far → zX
open Go.Proofs.YtlidnobkkgcnlaaW.PrintWords renaming blk_kept → zY
open Go.Proofs.YtlidnobkkgcnlaaW.PrintWords renaming below_step → zZ

/-! ### laws_FnExactReceive: function 5 -/
mutual
def laws_FnExactReceive.j0 : Nat → Bool → Bool → Bool → Int → Int → List ByteArray → Int → List ByteArray → Int → Int → ByteArray → Int → Int → List ByteArray → Int → List ByteArray → Int → Int → List ByteArray → Int → List ByteArray → Int → Int → List ByteArray → Int → List ByteArray → Option (Bool)
  | 0,_,_,_,_,_,_,_,_,_,_,_,_,_,_,_,_,_,_,_,_,_,_,_,_,_,_ => none
  | k + 1,x7,x10,x51,x235000,x235001,x235002,x235003,x235004,x236000,x236001,x236002,x261000,x261001,x261002,x261003,x261004,x271000,x271001,x271002,x271003,x271004,x285000,x285001,x285002,x285003,x285004 => if x51 = true then (some false) else ((laws_toEnd.f k x235000 x235001 x235002 x235003 x235004).bind fun bt286 => ((laws_eqEnd.f k x271000 x271001 x271002 x271003 x271004 bt286.1 bt286.2.1 bt286.2.2.1 bt286.2.2.2.1 bt286.2.2.2.2).bind fun t295 => (if t295 = true then ((laws_markEnd.f k x271000 x271001 x271002 x271003 x271004 1).bind fun bt296 => (if bt296.1 < 0 then (laws_FnExactReceive.j1 k x7 true x235000 x235001 x235002 x235003 x235004 x236000 x236001 x236002 x261000 x261001 x261002 x261003 x261004 x285000 x285001 x285002 x285003 x285004) else ((laws_eqEnd.f k x285000 x285001 x285002 x285003 x285004 x261000 x261001 x261002 x261003 x261004).bind fun t299 => (if t299 = true then (laws_FnExactReceive.j1 k x7 (x10 != x7) x235000 x235001 x235002 x235003 x235004 x236000 x236001 x236002 x261000 x261001 x261002 x261003 x261004 x285000 x285001 x285002 x285003 x285004) else (laws_FnExactReceive.j1 k x7 true x235000 x235001 x235002 x235003 x235004 x236000 x236001 x236002 x261000 x261001 x261002 x261003 x261004 x285000 x285001 x285002 x285003 x285004))))) else (some false))))
def laws_FnExactReceive.j1 : Nat → Bool → Bool → Int → Int → List ByteArray → Int → List ByteArray → Int → Int → ByteArray → Int → Int → List ByteArray → Int → List ByteArray → Int → Int → List ByteArray → Int → List ByteArray → Option (Bool)
  | 0,_,_,_,_,_,_,_,_,_,_,_,_,_,_,_,_,_,_,_,_ => none
  | k + 1,x7,x72,x235000,x235001,x235002,x235003,x235004,x236000,x236001,x236002,x261000,x261001,x261002,x261003,x261004,x285000,x285001,x285002,x285003,x285004 => if x72 = true then (some false) else ((laws_markEnd.f k x285000 x285001 x285002 x285003 x285004 1).bind fun bt300 => ((laws_heldEnd.f k x285000 x285001 bt300.2.1 x285003 bt300.2.2 1).bind fun t303 => (if t303 < 0 then (some false) else (if t303 = bt300.1 then ((laws_toEnd.f k x235000 x235001 x235002 x235003 x235004).bind fun bt304 => ((laws_toParcel.f x236000 x236001 x236002).bind fun bt313 => ((impl_Receive.f k bt304.1 bt304.2.1 bt304.2.2.1 bt304.2.2.2.1 bt304.2.2.2.2 bt313.1 bt313.2.1 bt313.2.2).bind fun bt316 => ((laws_eqEnd.f k bt316.1 bt316.2.1 bt316.2.2.1 bt316.2.2.2.1 bt316.2.2.2.2.1 x261000 x261001 x261002 x261003 x261004).bind fun t327 => (if t327 = true then (laws_FnExactReceive.j2 k bt300.1 (bt316.2.2.2.2.2 != x7) x285000 x285001 bt300.2.1 x285003 bt300.2.2) else (laws_FnExactReceive.j2 k bt300.1 true x285000 x285001 bt300.2.1 x285003 bt300.2.2)))))) else (some false)))))
def laws_FnExactReceive.j2 : Nat → Int → Bool → Int → Int → List ByteArray → Int → List ByteArray → Option (Bool)
  | 0,_,_,_,_,_,_,_ => none
  | k + 1,x12,x100,x285000,x285001,x285002,x285003,x285004 => if x100 = true then (some false) else ((laws_heldEnd.f k x285000 x285001 x285002 x285003 x285004 1).bind fun t328 => (if t328 < 0 then (some false) else (if t328 = x12 then (some true) else (some false))))
end
def laws_FnExactReceive.f (k : Nat) (a0_0 : Int) (a0_1 : Int) (l0_2 : List ByteArray) (a0_3 : Int) (l0_4 : List ByteArray) (a1_0 : Int) (a1_1 : Int) (a1_2 : ByteArray) : Option (Bool) := (laws_szEnd.f k a0_0 a0_1 l0_2 a0_3 l0_4 1048576).bind fun t236 => (if t236 < 0 then (some true) else ((laws_szParcel.f a1_0 a1_1 a1_2 t236).bind fun t237 => (if t237 < 0 then (some true) else ((laws_toEnd.f k a0_0 a0_1 l0_2 a0_3 l0_4).bind fun bt238 => ((laws_toParcel.f a1_0 a1_1 a1_2).bind fun bt247 => ((spec_Receive.f k bt238.1 bt238.2.1 bt238.2.2.1 bt238.2.2.2.1 bt238.2.2.2.2 bt247.1 bt247.2.1 bt247.2.2).bind fun bt250 => ((laws_toEnd.f k a0_0 a0_1 l0_2 a0_3 l0_4).bind fun bt261 => ((laws_toParcel.f a1_0 a1_1 a1_2).bind fun bt271 => ((impl_Receive.f k bt261.1 bt261.2.1 bt261.2.2.1 bt261.2.2.2.1 bt261.2.2.2.2 bt271.1 bt271.2.1 bt271.2.2).bind fun bt274 => ((laws_eqEnd.f k bt274.1 bt274.2.1 bt274.2.2.1 bt274.2.2.2.1 bt274.2.2.2.2.1 bt250.1 bt250.2.1 bt250.2.2.1 bt250.2.2.2.1 bt250.2.2.2.2.1).bind fun t285 => (if t285 = true then (laws_FnExactReceive.j0 k bt250.2.2.2.2.2 bt274.2.2.2.2.2 (bt274.2.2.2.2.2 != bt250.2.2.2.2.2) a0_0 a0_1 l0_2 a0_3 l0_4 a1_0 a1_1 a1_2 bt250.1 bt250.2.1 bt250.2.2.1 bt250.2.2.2.1 bt250.2.2.2.2.1 bt261.1 bt261.2.1 bt261.2.2.1 bt261.2.2.2.1 bt261.2.2.2.2 bt274.1 bt274.2.1 bt274.2.2.1 bt274.2.2.2.1 bt274.2.2.2.2.1) else (laws_FnExactReceive.j0 k bt250.2.2.2.2.2 bt274.2.2.2.2.2 true a0_0 a0_1 l0_2 a0_3 l0_4 a1_0 a1_1 a1_2 bt250.1 bt250.2.1 bt250.2.2.1 bt250.2.2.2.1 bt250.2.2.2.2.1 bt261.1 bt261.2.1 bt261.2.2.1 bt261.2.2.2.1 bt261.2.2.2.2 bt274.1 bt274.2.1 bt274.2.2.1 bt274.2.2.2.1 bt274.2.2.2.2.1))))))))))))
theorem laws_FnExactReceive.mono_l : ∀ k,(∀ y0 y1 y2 y3 y4 y5 y6 y7 y8 y9 y10 y11 y12 y13 y14 y15 y16 y17 y18 y19 y20 y21 y22 y23 y24 y25,LeO (laws_FnExactReceive.j0 k y0 y1 y2 y3 y4 y5 y6 y7 y8 y9 y10 y11 y12 y13 y14 y15 y16 y17 y18 y19 y20 y21 y22 y23 y24 y25) (laws_FnExactReceive.j0 (k + 1) y0 y1 y2 y3 y4 y5 y6 y7 y8 y9 y10 y11 y12 y13 y14 y15 y16 y17 y18 y19 y20 y21 y22 y23 y24 y25)) ∧ (∀ y0 y1 y2 y3 y4 y5 y6 y7 y8 y9 y10 y11 y12 y13 y14 y15 y16 y17 y18 y19,LeO (laws_FnExactReceive.j1 k y0 y1 y2 y3 y4 y5 y6 y7 y8 y9 y10 y11 y12 y13 y14 y15 y16 y17 y18 y19) (laws_FnExactReceive.j1 (k + 1) y0 y1 y2 y3 y4 y5 y6 y7 y8 y9 y10 y11 y12 y13 y14 y15 y16 y17 y18 y19)) ∧ (∀ y0 y1 y2 y3 y4 y5 y6,LeO (laws_FnExactReceive.j2 k y0 y1 y2 y3 y4 y5 y6) (laws_FnExactReceive.j2 (k + 1) y0 y1 y2 y3 y4 y5 y6))
  | 0 => ⟨fun _ _ _ _ _ _ _ _ _ _ _ _ _ _ _ _ _ _ _ _ _ _ _ _ _ _ r h => by simp [laws_FnExactReceive.j0] at h,fun _ _ _ _ _ _ _ _ _ _ _ _ _ _ _ _ _ _ _ _ r h => by simp [laws_FnExactReceive.j1] at h,fun _ _ _ _ _ _ _ r h => by simp [laws_FnExactReceive.j2] at h⟩
  | k + 1 => by
   obtain ⟨ih0,ih1,ih2⟩ := laws_FnExactReceive.mono_l k
   refine ⟨?_,?_,?_⟩
   ·
    intro y0 y1 y2 y3 y4 y5 y6 y7 y8 y9 y10 y11 y12 y13 y14 y15 y16 y17 y18 y19 y20 y21 y22 y23 y24 y25
    unfold laws_FnExactReceive.j0
    repeat' first
   |(with_reducible exact ih0 _ _ _ _ _ _ _ _ _ _ _ _ _ _ _ _ _ _ _ _ _ _ _ _ _ _)
   |(with_reducible exact ih1 _ _ _ _ _ _ _ _ _ _ _ _ _ _ _ _ _ _ _ _)
   |(with_reducible exact ih2 _ _ _ _ _ _ _)
   |(with_reducible exact impl_Receive.mono _ _ _ _ _ _ _ _ _)
   |(with_reducible exact laws_eqEnd.mono _ _ _ _ _ _ _ _ _ _ _)
   |(with_reducible exact laws_heldEnd.mono _ _ _ _ _ _ _)
   |(with_reducible exact laws_markEnd.mono _ _ _ _ _ _ _)
   |(with_reducible exact laws_szEnd.mono _ _ _ _ _ _ _)
   |(with_reducible exact laws_toEnd.mono _ _ _ _ _ _)
   |(with_reducible exact spec_Receive.mono _ _ _ _ _ _ _ _ _)
   |(with_reducible exact LeO.refl _)
   |(with_reducible exact LeO.none _)
   |(with_reducible refine LeO.ite ?_ ?_)
   |(with_reducible refine LeO.bind ?_ (fun _ => ?_))
   |exact ih0 _ _ _ _ _ _ _ _ _ _ _ _ _ _ _ _ _ _ _ _ _ _ _ _ _ _
   |exact ih1 _ _ _ _ _ _ _ _ _ _ _ _ _ _ _ _ _ _ _ _
   |exact ih2 _ _ _ _ _ _ _
   |exact impl_Receive.mono _ _ _ _ _ _ _ _ _
   |exact laws_eqEnd.mono _ _ _ _ _ _ _ _ _ _ _
   |exact laws_heldEnd.mono _ _ _ _ _ _ _
   |exact laws_markEnd.mono _ _ _ _ _ _ _
   |exact laws_szEnd.mono _ _ _ _ _ _ _
   |exact laws_toEnd.mono _ _ _ _ _ _
   |exact spec_Receive.mono _ _ _ _ _ _ _ _ _
   |exact LeO.none _
   |refine LeO.ite ?_ ?_
   |refine LeO.bind ?_ (fun _ => ?_)
   ·
    intro y0 y1 y2 y3 y4 y5 y6 y7 y8 y9 y10 y11 y12 y13 y14 y15 y16 y17 y18 y19
    unfold laws_FnExactReceive.j1
    repeat' first
   |(with_reducible exact ih0 _ _ _ _ _ _ _ _ _ _ _ _ _ _ _ _ _ _ _ _ _ _ _ _ _ _)
   |(with_reducible exact ih1 _ _ _ _ _ _ _ _ _ _ _ _ _ _ _ _ _ _ _ _)
   |(with_reducible exact ih2 _ _ _ _ _ _ _)
   |(with_reducible exact impl_Receive.mono _ _ _ _ _ _ _ _ _)
   |(with_reducible exact laws_eqEnd.mono _ _ _ _ _ _ _ _ _ _ _)
   |(with_reducible exact laws_heldEnd.mono _ _ _ _ _ _ _)
   |(with_reducible exact laws_markEnd.mono _ _ _ _ _ _ _)
   |(with_reducible exact laws_szEnd.mono _ _ _ _ _ _ _)
   |(with_reducible exact laws_toEnd.mono _ _ _ _ _ _)
   |(with_reducible exact spec_Receive.mono _ _ _ _ _ _ _ _ _)
   |(with_reducible exact LeO.refl _)
   |(with_reducible exact LeO.none _)
   |(with_reducible refine LeO.ite ?_ ?_)
   |(with_reducible refine LeO.bind ?_ (fun _ => ?_))
   |exact ih0 _ _ _ _ _ _ _ _ _ _ _ _ _ _ _ _ _ _ _ _ _ _ _ _ _ _
   |exact ih1 _ _ _ _ _ _ _ _ _ _ _ _ _ _ _ _ _ _ _ _
   |exact ih2 _ _ _ _ _ _ _
   |exact impl_Receive.mono _ _ _ _ _ _ _ _ _
   |exact laws_eqEnd.mono _ _ _ _ _ _ _ _ _ _ _
   |exact laws_heldEnd.mono _ _ _ _ _ _ _
   |exact laws_markEnd.mono _ _ _ _ _ _ _
   |exact laws_szEnd.mono _ _ _ _ _ _ _
   |exact laws_toEnd.mono _ _ _ _ _ _
   |exact spec_Receive.mono _ _ _ _ _ _ _ _ _
   |exact LeO.none _
   |refine LeO.ite ?_ ?_
   |refine LeO.bind ?_ (fun _ => ?_)
   ·
    intro y0 y1 y2 y3 y4 y5 y6
    unfold laws_FnExactReceive.j2
    repeat' first
   |(with_reducible exact ih0 _ _ _ _ _ _ _ _ _ _ _ _ _ _ _ _ _ _ _ _ _ _ _ _ _ _)
   |(with_reducible exact ih1 _ _ _ _ _ _ _ _ _ _ _ _ _ _ _ _ _ _ _ _)
   |(with_reducible exact ih2 _ _ _ _ _ _ _)
   |(with_reducible exact impl_Receive.mono _ _ _ _ _ _ _ _ _)
   |(with_reducible exact laws_eqEnd.mono _ _ _ _ _ _ _ _ _ _ _)
   |(with_reducible exact laws_heldEnd.mono _ _ _ _ _ _ _)
   |(with_reducible exact laws_markEnd.mono _ _ _ _ _ _ _)
   |(with_reducible exact laws_szEnd.mono _ _ _ _ _ _ _)
   |(with_reducible exact laws_toEnd.mono _ _ _ _ _ _)
   |(with_reducible exact spec_Receive.mono _ _ _ _ _ _ _ _ _)
   |(with_reducible exact LeO.refl _)
   |(with_reducible exact LeO.none _)
   |(with_reducible refine LeO.ite ?_ ?_)
   |(with_reducible refine LeO.bind ?_ (fun _ => ?_))
   |exact ih0 _ _ _ _ _ _ _ _ _ _ _ _ _ _ _ _ _ _ _ _ _ _ _ _ _ _
   |exact ih1 _ _ _ _ _ _ _ _ _ _ _ _ _ _ _ _ _ _ _ _
   |exact ih2 _ _ _ _ _ _ _
   |exact impl_Receive.mono _ _ _ _ _ _ _ _ _
   |exact laws_eqEnd.mono _ _ _ _ _ _ _ _ _ _ _
   |exact laws_heldEnd.mono _ _ _ _ _ _ _
   |exact laws_markEnd.mono _ _ _ _ _ _ _
   |exact laws_szEnd.mono _ _ _ _ _ _ _
   |exact laws_toEnd.mono _ _ _ _ _ _
   |exact spec_Receive.mono _ _ _ _ _ _ _ _ _
   |exact LeO.none _
   |refine LeO.ite ?_ ?_
   |refine LeO.bind ?_ (fun _ => ?_)
theorem laws_FnExactReceive.mono : ∀ a0 a1 a2 a3 a4 a5 a6 a7 k,LeO (laws_FnExactReceive.f k a0 a1 a2 a3 a4 a5 a6 a7) (laws_FnExactReceive.f (k + 1) a0 a1 a2 a3 a4 a5 a6 a7) := by
  intro a0 a1 a2 a3 a4 a5 a6 a7 k
  obtain ⟨ih0,ih1,ih2⟩ := laws_FnExactReceive.mono_l k
  unfold laws_FnExactReceive.f
  repeat' first
   |(with_reducible exact ih0 _ _ _ _ _ _ _ _ _ _ _ _ _ _ _ _ _ _ _ _ _ _ _ _ _ _)
   |(with_reducible exact ih1 _ _ _ _ _ _ _ _ _ _ _ _ _ _ _ _ _ _ _ _)
   |(with_reducible exact ih2 _ _ _ _ _ _ _)
   |(with_reducible exact impl_Receive.mono _ _ _ _ _ _ _ _ _)
   |(with_reducible exact laws_eqEnd.mono _ _ _ _ _ _ _ _ _ _ _)
   |(with_reducible exact laws_heldEnd.mono _ _ _ _ _ _ _)
   |(with_reducible exact laws_markEnd.mono _ _ _ _ _ _ _)
   |(with_reducible exact laws_szEnd.mono _ _ _ _ _ _ _)
   |(with_reducible exact laws_toEnd.mono _ _ _ _ _ _)
   |(with_reducible exact spec_Receive.mono _ _ _ _ _ _ _ _ _)
   |(with_reducible exact LeO.refl _)
   |(with_reducible exact LeO.none _)
   |(with_reducible refine LeO.ite ?_ ?_)
   |(with_reducible refine LeO.bind ?_ (fun _ => ?_))
   |exact ih0 _ _ _ _ _ _ _ _ _ _ _ _ _ _ _ _ _ _ _ _ _ _ _ _ _ _
   |exact ih1 _ _ _ _ _ _ _ _ _ _ _ _ _ _ _ _ _ _ _ _
   |exact ih2 _ _ _ _ _ _ _
   |exact impl_Receive.mono _ _ _ _ _ _ _ _ _
   |exact laws_eqEnd.mono _ _ _ _ _ _ _ _ _ _ _
   |exact laws_heldEnd.mono _ _ _ _ _ _ _
   |exact laws_markEnd.mono _ _ _ _ _ _ _
   |exact laws_szEnd.mono _ _ _ _ _ _ _
   |exact laws_toEnd.mono _ _ _ _ _ _
   |exact spec_Receive.mono _ _ _ _ _ _ _ _ _
   |exact LeO.none _
   |refine LeO.ite ?_ ?_
   |refine LeO.bind ?_ (fun _ => ?_)
def laws_FnExactReceive.T8 : Bool × List (List Nat × List Nat) := (true,[([],[]),([0],[0]),([],[]),([2,1],[2]),([1,3,3],[1,3]),([4],[4]),([5],[5]),([5],[5]),([],[]),([8,6,4,0,1,2,3,4,5,6,8],[6,8]),([7,9,0,1,2,3,4,5,6,7,8,9],[7])])
def laws_FnExactReceive.B8 : List Nat := [0,1,0,7,15,31,63,63,0,383,1023]
theorem laws_FnExactReceive.tab8 : rtab .any (opsOf Try.f5 8) = laws_FnExactReceive.T8 := by kernel_rfl
theorem laws_FnExactReceive.bits8 : waitsOk laws_FnExactReceive.T8.2 laws_FnExactReceive.B8 = true := by kernel_rfl
def laws_FnExactReceive.T10 : Bool × List (List Nat × List Nat) := (true,[([],[]),([],[]),([1],[1]),([0,2,2],[0,2]),([3],[3]),([4],[4]),([4],[4]),([],[]),([7,5,3,0,1,2,3,4,5,7],[5,7]),([6,8,0,1,2,3,4,5,6,7,8],[6])])
def laws_FnExactReceive.B10 : List Nat := [0,0,2,7,15,31,31,0,191,511]
theorem laws_FnExactReceive.tab10 : rtab .any (opsOf Try.f5 10) = laws_FnExactReceive.T10 := by kernel_rfl
theorem laws_FnExactReceive.bits10 : waitsOk laws_FnExactReceive.T10.2 laws_FnExactReceive.B10 = true := by kernel_rfl
def laws_FnExactReceive.T27 : Bool × List (List Nat × List Nat) := (true,[([],[]),([0],[0]),([],[]),([2,1],[2]),([1,3,3],[1,3]),([4],[4]),([5],[5]),([5],[5]),([],[]),([8,6,4,0,1,2,3,4,5,6,8],[6,8]),([7,9,0,1,2,3,4,5,6,7,8,9],[7])])
def laws_FnExactReceive.B27 : List Nat := [0,1,0,7,15,31,63,63,0,383,1023]
theorem laws_FnExactReceive.tab27 : rtab .any (opsOf Try.f5 27) = laws_FnExactReceive.T27 := by kernel_rfl
theorem laws_FnExactReceive.bits27 : waitsOk laws_FnExactReceive.T27.2 laws_FnExactReceive.B27 = true := by kernel_rfl
set_option maxHeartbeats 8000000 in
set_option maxRecDepth 100000 in
noncomputable def laws_FnExactReceive.cut0 (k : Nat) (a0_0 : Int) (a0_1 : Int) (A0_2 : Option Addr) (c0_2 : Nat) (l0_2 : List ByteArray) (a0_3 : Int) (A0_4 : Option Addr) (c0_4 : Nat) (l0_4 : List ByteArray) (a1_0 : Int) (a1_1 : Int) (a1_2 : ByteArray) (r : Bool) (w : World) : Σ' G : Prop, (Unit → G) → (∀ (hr0_2 : Kd.C Kd.string w A0_2 l0_2.length l0_2) (hc0_2 : l0_2.length ≤ c0_2) (hr0_4 : Kd.C Kd.string w A0_4 l0_4.length l0_4) (hc0_4 : l0_4.length ≤ c0_4) (h : laws_FnExactReceive.f k a0_0 a0_1 l0_2 a0_3 l0_4 a1_0 a1_1 a1_2 = some r), Calls Try.prog 5 #[.agg #[.int .i64 a0_0,.int .i64 a0_1,.slice A0_2 l0_2.length c0_2,.int .i64 a0_3,.slice A0_4 l0_4.length c0_4],.agg #[.int .i64 a1_0,.int .i64 a1_1,.string a1_2]] w fun e w' => e = .returned (.bool r) ∧ Below w.heap.size w w') := by
  constructor
  case snd =>
   intro hG_
   intro hr0_2 hc0_2 hr0_4 hc0_4 h
   have hu24 := Try.underlying24
   have hu41 := Try.underlying41
   have hu26 := Try.underlying26
   have HR0_2 := zA hr0_2
   have HC0_2 := zA hc0_2
   clear hr0_2 hc0_2
   have HR0_4 := zA hr0_4
   have HC0_4 := zA hc0_4
   clear hr0_4 hc0_4
   have HB := zA (Below.refl w.heap.size w)
   have H : ((laws_szEnd.f k a0_0 a0_1 l0_2 a0_3 l0_4 1048576).bind fun t236 => (if t236 < 0 then (some true) else ((laws_szParcel.f a1_0 a1_1 a1_2 t236).bind fun t237 => (if t237 < 0 then (some true) else ((laws_toEnd.f k a0_0 a0_1 l0_2 a0_3 l0_4).bind fun bt238 => ((laws_toParcel.f a1_0 a1_1 a1_2).bind fun bt247 => ((spec_Receive.f k bt238.1 bt238.2.1 bt238.2.2.1 bt238.2.2.2.1 bt238.2.2.2.2 bt247.1 bt247.2.1 bt247.2.2).bind fun bt250 => ((laws_toEnd.f k a0_0 a0_1 l0_2 a0_3 l0_4).bind fun bt261 => ((laws_toParcel.f a1_0 a1_1 a1_2).bind fun bt271 => ((impl_Receive.f k bt261.1 bt261.2.1 bt261.2.2.1 bt261.2.2.2.1 bt261.2.2.2.2 bt271.1 bt271.2.1 bt271.2.2).bind fun bt274 => ((laws_eqEnd.f k bt274.1 bt274.2.1 bt274.2.2.1 bt274.2.2.2.1 bt274.2.2.2.2.1 bt250.1 bt250.2.1 bt250.2.2.1 bt250.2.2.2.1 bt250.2.2.2.2.1).bind fun t285 => (if t285 = true then (laws_FnExactReceive.j0 k bt250.2.2.2.2.2 bt274.2.2.2.2.2 (bt274.2.2.2.2.2 != bt250.2.2.2.2.2) a0_0 a0_1 l0_2 a0_3 l0_4 a1_0 a1_1 a1_2 bt250.1 bt250.2.1 bt250.2.2.1 bt250.2.2.2.1 bt250.2.2.2.2.1 bt261.1 bt261.2.1 bt261.2.2.1 bt261.2.2.2.1 bt261.2.2.2.2 bt274.1 bt274.2.1 bt274.2.2.1 bt274.2.2.2.1 bt274.2.2.2.2.1) else (laws_FnExactReceive.j0 k bt250.2.2.2.2.2 bt274.2.2.2.2.2 true a0_0 a0_1 l0_2 a0_3 l0_4 a1_0 a1_1 a1_2 bt250.1 bt250.2.1 bt250.2.2.1 bt250.2.2.2.1 bt250.2.2.2.2.1 bt261.1 bt261.2.1 bt261.2.2.1 bt261.2.2.2.1 bt261.2.2.2.2 bt274.1 bt274.2.1 bt274.2.2.1 bt274.2.2.2.1 bt274.2.2.2.2.1))))))))))))) = some r := h
   clear h
   replace H := Option.bind_eq_some_iff.mp H
   obtain ⟨t236,A30,H⟩ := H
   replace H : (if t236 < 0 then (some true) else ((laws_szParcel.f a1_0 a1_1 a1_2 t236).bind fun t237 => (if t237 < 0 then (some true) else ((laws_toEnd.f k a0_0 a0_1 l0_2 a0_3 l0_4).bind fun bt238 => ((laws_toParcel.f a1_0 a1_1 a1_2).bind fun bt247 => ((spec_Receive.f k bt238.1 bt238.2.1 bt238.2.2.1 bt238.2.2.2.1 bt238.2.2.2.2 bt247.1 bt247.2.1 bt247.2.2).bind fun bt250 => ((laws_toEnd.f k a0_0 a0_1 l0_2 a0_3 l0_4).bind fun bt261 => ((laws_toParcel.f a1_0 a1_1 a1_2).bind fun bt271 => ((impl_Receive.f k bt261.1 bt261.2.1 bt261.2.2.1 bt261.2.2.2.1 bt261.2.2.2.2 bt271.1 bt271.2.1 bt271.2.2).bind fun bt274 => ((laws_eqEnd.f k bt274.1 bt274.2.1 bt274.2.2.1 bt274.2.2.2.1 bt274.2.2.2.2.1 bt250.1 bt250.2.1 bt250.2.2.1 bt250.2.2.2.1 bt250.2.2.2.2.1).bind fun t285 => (if t285 = true then (laws_FnExactReceive.j0 k bt250.2.2.2.2.2 bt274.2.2.2.2.2 (bt274.2.2.2.2.2 != bt250.2.2.2.2.2) a0_0 a0_1 l0_2 a0_3 l0_4 a1_0 a1_1 a1_2 bt250.1 bt250.2.1 bt250.2.2.1 bt250.2.2.2.1 bt250.2.2.2.2.1 bt261.1 bt261.2.1 bt261.2.2.1 bt261.2.2.2.1 bt261.2.2.2.2 bt274.1 bt274.2.1 bt274.2.2.1 bt274.2.2.2.1 bt274.2.2.2.2.1) else (laws_FnExactReceive.j0 k bt250.2.2.2.2.2 bt274.2.2.2.2.2 true a0_0 a0_1 l0_2 a0_3 l0_4 a1_0 a1_1 a1_2 bt250.1 bt250.2.1 bt250.2.2.1 bt250.2.2.2.1 bt250.2.2.2.2.1 bt261.1 bt261.2.1 bt261.2.2.1 bt261.2.2.2.1 bt261.2.2.2.2 bt274.1 bt274.2.1 bt274.2.2.1 bt274.2.2.2.1 bt274.2.2.2.2.1)))))))))))) = some r := H
   have A3 := zA A30
   clear A30
   by_cases c4 : t236 < 0
   ·
    rw [if_pos c4] at H
    have c4b0 : decide (t236 < 0) = true := decide_eq_true c4
    clear c4
    obtain rfl := Option.some.inj H
    go_enter Try.func5,Try.ntmps5
    go_wp2_with (first | ((with_reducible refine gate_dst (N := 2) rfl ?_); refine box_event ?hg (N := 2) ?hd (cs := #[.int .i64 a0_0,.int .i64 a0_1,.slice A0_2 l0_2.length c0_2,.int .i64 a0_3,.slice A0_4 l0_4.length c0_4]) (t := 24) ?hr ?_; (case hd => rfl); (case hg => rfl); (case hr => first | (go_simp; done) | (go_simp; rfl)); intro gb234 hg w5 hbox hb; have n0_ := zA (zZ (by repeat (first|(with_reducible first|exact HB.out|apply zO|apply zQ|apply zP)|exact HB.out)) hb); have n1_ := zA (hbox); have n2_ := zA ((by rw [hg]; exact (below_size (by repeat (first|(with_reducible first|exact HB.out|apply zO|apply zQ|apply zP)|exact HB.out))) : w.heap.size ≤ gb234)); have n3_ := zA ((by rw [hg]; exact (below_size (by repeat (first|(with_reducible first|exact HB.out|apply zO|apply zQ|apply zP)|exact HB.out))) : w.heap.size ≤ gb234)); clear HB; have HB := n0_; have BK234 := n1_; have GW234 := n2_; have GE234 := n3_; clear n0_ n1_ n2_ n3_ hb hbox hg) | ((with_reducible refine gate_dst (N := 3) rfl ?_); refine box_event ?hg (N := 3) ?hd (cs := #[.int .i64 a1_0,.int .i64 a1_1,.string a1_2]) (t := 41) ?hr ?_; (case hd => rfl); (case hg => rfl); (case hr => first | (go_simp; done) | (go_simp; rfl)); intro gb235 hg w6 hbox hb; have n0_ := zA (zV (g := gb234) (o := .cells #[.int .i64 a0_0,.int .i64 a0_1,.slice A0_2 l0_2.length c0_2,.int .i64 a0_3,.slice A0_4 l0_4.length c0_4] 24 (0,0)) (rrB19 BK234.out) hb); have n1_ := zA (zZ (by repeat (first|(with_reducible first|exact HB.out|apply zO|apply zQ|apply zP|refine zN ?_ GE234.out)|exact HB.out)) hb); have n2_ := zA (hbox); have n3_ := zA ((by rw [hg]; exact (below_size (by repeat (first|(with_reducible first|exact HB.out|apply zO|apply zQ|apply zP|refine zN ?_ GE234.out)|exact HB.out))) : w.heap.size ≤ gb235)); have n4_ := zA ((by rw [hg]; exact (below_size (by repeat (first|(with_reducible first|exact HB.out|apply zO|apply zQ|apply zP|refine zN ?_ GE234.out)|exact HB.out))) : w.heap.size ≤ gb235)); have n5_ := zA ((by rw [hg]; exact Nat.ne_of_lt (blk_lt (g := gb234) (o := .cells #[.int .i64 a0_0,.int .i64 a0_1,.slice A0_2 l0_2.length c0_2,.int .i64 a0_3,.slice A0_4 l0_4.length c0_4] 24 (0,0)) (rrB19 BK234.out)) : gb234 ≠ gb235)); have n6_ := zA ((by rw [hg]; exact Nat.ne_of_gt (blk_lt (g := gb234) (o := .cells #[.int .i64 a0_0,.int .i64 a0_1,.slice A0_2 l0_2.length c0_2,.int .i64 a0_3,.slice A0_4 l0_4.length c0_4] 24 (0,0)) (rrB19 BK234.out)) : gb235 ≠ gb234)); clear BK234 HB; have BK234 := n0_; have HB := n1_; have BK235 := n2_; have GW235 := n3_; have GE235 := n4_; have NB234_235 := n5_; have NB235_234 := n6_; clear n0_ n1_ n2_ n3_ n4_ n5_ n6_ hb hbox hg; have hnb7 := NB234_235.out; have hnc7 := NB235_234.out; have hcz8_0 : w6.cell? ⟨gb234,0,none⟩ = some (.int .i64 a0_0) := (zW BK234.out 0).trans rfl; have hcz8_1 : w6.cell? ⟨gb234,1,none⟩ = some (.int .i64 a0_1) := (zW BK234.out 1).trans rfl; have hcz8_2 : w6.cell? ⟨gb234,2,none⟩ = some (.slice A0_2 l0_2.length c0_2) := (zW BK234.out 2).trans rfl; have hcz8_3 : w6.cell? ⟨gb234,3,none⟩ = some (.int .i64 a0_3) := (zW BK234.out 3).trans rfl; have hcz8_4 : w6.cell? ⟨gb234,4,none⟩ = some (.slice A0_4 l0_4.length c0_4) := (zW BK234.out 4).trans rfl; have hfz8_0 := zU BK234.out 0; have hfz8_1 := zU BK234.out 1; have hfz8_2 := zU BK234.out 2; have hfz8_3 := zU BK234.out 3; have hfz8_4 := zU BK234.out 4) | ((with_reducible refine gate_callee (f := 11) rfl ?_); refine goesL_ (some 18) rfl rfl Try.func11 (by kernel_rfl) rfl #[.agg #[.int .i64 a0_0,.int .i64 a0_1,.slice A0_2 l0_2.length c0_2,.int .i64 a0_3,.slice A0_4 l0_4.length c0_4],.int .i64 1048576] rfl (by (try simp only [List.map_toArray,List.map_cons,List.map_nil]); first | done|rfl|(simp only [List.length_drop,List.length_take]; rfl)) ?_; (with_reducible refine (laws_szEnd.calls k a0_0 a0_1 _ _ l0_2 a0_3 _ _ l0_4 1048576 t236 _ ?side1 ?side2 ?side3 ?side4 A3.out).mono ?_); (case side1 => repeat (first|exact (Kd.C_below HR0_2.out HB.out)|(with_reducible refine Kd.C_alloc ?_ _)|(with_reducible refine Kd.C_drewN ?_ _)|(with_reducible refine Kd.C_drew ?_))); (case side2 => exact HC0_2.out); (case side3 => repeat (first|exact (Kd.C_below HR0_4.out HB.out)|(with_reducible refine Kd.C_alloc ?_ _)|(with_reducible refine Kd.C_drewN ?_ _)|(with_reducible refine Kd.C_drew ?_))); (case side4 => exact HC0_4.out); rintro e w9 ⟨rfl,hb⟩; refine ⟨_,rfl,?_⟩; have n0_ := zA (zV (g := gb234) (o := .cells #[.int .i64 a0_0,.int .i64 a0_1,.slice A0_2 l0_2.length c0_2,.int .i64 a0_3,.slice A0_4 l0_4.length c0_4] 24 (0,0)) (rrB19 BK234.out) hb); have n1_ := zA (zV (g := gb235) (o := .cells #[.int .i64 a1_0,.int .i64 a1_1,.string a1_2] 41 (0,0)) (rrB19 BK235.out) hb); have n2_ := zA (zZ (by repeat (first|(with_reducible first|exact HB.out|apply zO|apply zQ|apply zP|refine zN ?_ GE234.out|refine zN ?_ GE235.out)|exact HB.out)) hb); clear BK234 BK235 HB; have BK234 := n0_; have BK235 := n1_; have HB := n2_; clear n0_ n1_ n2_; (try clear hb); (try clear hb2); (try clear hk); (try clear hi)))
    go_ret
    exact ⟨by first|rfl|(simp [errW_none,errW_some] <;> rfl)|(simp [*,errW_none,errW_some] <;> rfl),by repeat (first|(with_reducible first|exact HB.out|apply zO|apply zQ|apply zP|refine zN ?_ GE234.out|refine zN ?_ GE235.out)|exact HB.out)⟩
   ·
    rw [if_neg c4] at H
    have c4b0 : decide (t236 < 0) = false := decide_eq_false c4
    clear c4
    replace H := Option.bind_eq_some_iff.mp H
    obtain ⟨t237,A100,H⟩ := H
    replace H : (if t237 < 0 then (some true) else ((laws_toEnd.f k a0_0 a0_1 l0_2 a0_3 l0_4).bind fun bt238 => ((laws_toParcel.f a1_0 a1_1 a1_2).bind fun bt247 => ((spec_Receive.f k bt238.1 bt238.2.1 bt238.2.2.1 bt238.2.2.2.1 bt238.2.2.2.2 bt247.1 bt247.2.1 bt247.2.2).bind fun bt250 => ((laws_toEnd.f k a0_0 a0_1 l0_2 a0_3 l0_4).bind fun bt261 => ((laws_toParcel.f a1_0 a1_1 a1_2).bind fun bt271 => ((impl_Receive.f k bt261.1 bt261.2.1 bt261.2.2.1 bt261.2.2.2.1 bt261.2.2.2.2 bt271.1 bt271.2.1 bt271.2.2).bind fun bt274 => ((laws_eqEnd.f k bt274.1 bt274.2.1 bt274.2.2.1 bt274.2.2.2.1 bt274.2.2.2.2.1 bt250.1 bt250.2.1 bt250.2.2.1 bt250.2.2.2.1 bt250.2.2.2.2.1).bind fun t285 => (if t285 = true then (laws_FnExactReceive.j0 k bt250.2.2.2.2.2 bt274.2.2.2.2.2 (bt274.2.2.2.2.2 != bt250.2.2.2.2.2) a0_0 a0_1 l0_2 a0_3 l0_4 a1_0 a1_1 a1_2 bt250.1 bt250.2.1 bt250.2.2.1 bt250.2.2.2.1 bt250.2.2.2.2.1 bt261.1 bt261.2.1 bt261.2.2.1 bt261.2.2.2.1 bt261.2.2.2.2 bt274.1 bt274.2.1 bt274.2.2.1 bt274.2.2.2.1 bt274.2.2.2.2.1) else (laws_FnExactReceive.j0 k bt250.2.2.2.2.2 bt274.2.2.2.2.2 true a0_0 a0_1 l0_2 a0_3 l0_4 a1_0 a1_1 a1_2 bt250.1 bt250.2.1 bt250.2.2.1 bt250.2.2.2.1 bt250.2.2.2.2.1 bt261.1 bt261.2.1 bt261.2.2.1 bt261.2.2.2.1 bt261.2.2.2.2 bt274.1 bt274.2.1 bt274.2.2.1 bt274.2.2.2.1 bt274.2.2.2.2.1)))))))))) = some r := H
    have A10 := zA A100
    clear A100
    by_cases c11 : t237 < 0
    ·
     rw [if_pos c11] at H
     have c11b0 : decide (t237 < 0) = true := decide_eq_true c11
     clear c11
     obtain rfl := Option.some.inj H
     go_enter Try.func5,Try.ntmps5
     go_wp2_with (first | ((with_reducible refine gate_dst (N := 2) rfl ?_); refine box_event ?hg (N := 2) ?hd (cs := #[.int .i64 a0_0,.int .i64 a0_1,.slice A0_2 l0_2.length c0_2,.int .i64 a0_3,.slice A0_4 l0_4.length c0_4]) (t := 24) ?hr ?_; (case hd => rfl); (case hg => rfl); (case hr => first | (go_simp; done) | (go_simp; rfl)); intro gb234 hg w12 hbox hb; have n0_ := zA (zZ (by repeat (first|(with_reducible first|exact HB.out|apply zO|apply zQ|apply zP)|exact HB.out)) hb); have n1_ := zA (hbox); have n2_ := zA ((by rw [hg]; exact (below_size (by repeat (first|(with_reducible first|exact HB.out|apply zO|apply zQ|apply zP)|exact HB.out))) : w.heap.size ≤ gb234)); have n3_ := zA ((by rw [hg]; exact (below_size (by repeat (first|(with_reducible first|exact HB.out|apply zO|apply zQ|apply zP)|exact HB.out))) : w.heap.size ≤ gb234)); clear HB; have HB := n0_; have BK234 := n1_; have GW234 := n2_; have GE234 := n3_; clear n0_ n1_ n2_ n3_ hb hbox hg) | ((with_reducible refine gate_dst (N := 3) rfl ?_); refine box_event ?hg (N := 3) ?hd (cs := #[.int .i64 a1_0,.int .i64 a1_1,.string a1_2]) (t := 41) ?hr ?_; (case hd => rfl); (case hg => rfl); (case hr => first | (go_simp; done) | (go_simp; rfl)); intro gb235 hg w13 hbox hb; have n0_ := zA (zV (g := gb234) (o := .cells #[.int .i64 a0_0,.int .i64 a0_1,.slice A0_2 l0_2.length c0_2,.int .i64 a0_3,.slice A0_4 l0_4.length c0_4] 24 (0,0)) (rrB19 BK234.out) hb); have n1_ := zA (zZ (by repeat (first|(with_reducible first|exact HB.out|apply zO|apply zQ|apply zP|refine zN ?_ GE234.out)|exact HB.out)) hb); have n2_ := zA (hbox); have n3_ := zA ((by rw [hg]; exact (below_size (by repeat (first|(with_reducible first|exact HB.out|apply zO|apply zQ|apply zP|refine zN ?_ GE234.out)|exact HB.out))) : w.heap.size ≤ gb235)); have n4_ := zA ((by rw [hg]; exact (below_size (by repeat (first|(with_reducible first|exact HB.out|apply zO|apply zQ|apply zP|refine zN ?_ GE234.out)|exact HB.out))) : w.heap.size ≤ gb235)); have n5_ := zA ((by rw [hg]; exact Nat.ne_of_lt (blk_lt (g := gb234) (o := .cells #[.int .i64 a0_0,.int .i64 a0_1,.slice A0_2 l0_2.length c0_2,.int .i64 a0_3,.slice A0_4 l0_4.length c0_4] 24 (0,0)) (rrB19 BK234.out)) : gb234 ≠ gb235)); have n6_ := zA ((by rw [hg]; exact Nat.ne_of_gt (blk_lt (g := gb234) (o := .cells #[.int .i64 a0_0,.int .i64 a0_1,.slice A0_2 l0_2.length c0_2,.int .i64 a0_3,.slice A0_4 l0_4.length c0_4] 24 (0,0)) (rrB19 BK234.out)) : gb235 ≠ gb234)); clear BK234 HB; have BK234 := n0_; have HB := n1_; have BK235 := n2_; have GW235 := n3_; have GE235 := n4_; have NB234_235 := n5_; have NB235_234 := n6_; clear n0_ n1_ n2_ n3_ n4_ n5_ n6_ hb hbox hg; have hnb14 := NB234_235.out; have hnc14 := NB235_234.out; have hcz15_0 : w13.cell? ⟨gb234,0,none⟩ = some (.int .i64 a0_0) := (zW BK234.out 0).trans rfl; have hcz15_1 : w13.cell? ⟨gb234,1,none⟩ = some (.int .i64 a0_1) := (zW BK234.out 1).trans rfl; have hcz15_2 : w13.cell? ⟨gb234,2,none⟩ = some (.slice A0_2 l0_2.length c0_2) := (zW BK234.out 2).trans rfl; have hcz15_3 : w13.cell? ⟨gb234,3,none⟩ = some (.int .i64 a0_3) := (zW BK234.out 3).trans rfl; have hcz15_4 : w13.cell? ⟨gb234,4,none⟩ = some (.slice A0_4 l0_4.length c0_4) := (zW BK234.out 4).trans rfl; have hfz15_0 := zU BK234.out 0; have hfz15_1 := zU BK234.out 1; have hfz15_2 := zU BK234.out 2; have hfz15_3 := zU BK234.out 3; have hfz15_4 := zU BK234.out 4) | ((with_reducible refine gate_callee (f := 11) rfl ?_); refine goesL_ (some 18) rfl rfl Try.func11 (by kernel_rfl) rfl #[.agg #[.int .i64 a0_0,.int .i64 a0_1,.slice A0_2 l0_2.length c0_2,.int .i64 a0_3,.slice A0_4 l0_4.length c0_4],.int .i64 1048576] rfl (by (try simp only [List.map_toArray,List.map_cons,List.map_nil]); first | done|rfl|(simp only [List.length_drop,List.length_take]; rfl)) ?_; (with_reducible refine (laws_szEnd.calls k a0_0 a0_1 _ _ l0_2 a0_3 _ _ l0_4 1048576 t236 _ ?side1 ?side2 ?side3 ?side4 A3.out).mono ?_); (case side1 => repeat (first|exact (Kd.C_below HR0_2.out HB.out)|(with_reducible refine Kd.C_alloc ?_ _)|(with_reducible refine Kd.C_drewN ?_ _)|(with_reducible refine Kd.C_drew ?_))); (case side2 => exact HC0_2.out); (case side3 => repeat (first|exact (Kd.C_below HR0_4.out HB.out)|(with_reducible refine Kd.C_alloc ?_ _)|(with_reducible refine Kd.C_drewN ?_ _)|(with_reducible refine Kd.C_drew ?_))); (case side4 => exact HC0_4.out); rintro e w16 ⟨rfl,hb⟩; refine ⟨_,rfl,?_⟩; have n0_ := zA (zV (g := gb234) (o := .cells #[.int .i64 a0_0,.int .i64 a0_1,.slice A0_2 l0_2.length c0_2,.int .i64 a0_3,.slice A0_4 l0_4.length c0_4] 24 (0,0)) (rrB19 BK234.out) hb); have n1_ := zA (zV (g := gb235) (o := .cells #[.int .i64 a1_0,.int .i64 a1_1,.string a1_2] 41 (0,0)) (rrB19 BK235.out) hb); have n2_ := zA (zZ (by repeat (first|(with_reducible first|exact HB.out|apply zO|apply zQ|apply zP|refine zN ?_ GE234.out|refine zN ?_ GE235.out)|exact HB.out)) hb); clear BK234 BK235 HB; have BK234 := n0_; have BK235 := n1_; have HB := n2_; clear n0_ n1_ n2_; (try clear hb); (try clear hb2); (try clear hk); (try clear hi); have hcz17_0 : w16.cell? ⟨gb235,0,none⟩ = some (.int .i64 a1_0) := (zW BK235.out 0).trans rfl; have hcz17_1 : w16.cell? ⟨gb235,1,none⟩ = some (.int .i64 a1_1) := (zW BK235.out 1).trans rfl; have hcz17_2 : w16.cell? ⟨gb235,2,none⟩ = some (.string a1_2) := (zW BK235.out 2).trans rfl; have hfz17_0 := zU BK235.out 0; have hfz17_1 := zU BK235.out 1; have hfz17_2 := zU BK235.out 2) | ((with_reducible refine gate_callee (f := 24) rfl ?_); refine goesL_ (some 23) rfl rfl Try.func24 (by kernel_rfl) rfl #[.agg #[.int .i64 a1_0,.int .i64 a1_1,.string a1_2],.int .i64 t236] rfl (by (try simp only [List.map_toArray,List.map_cons,List.map_nil]); first | done|rfl|(simp only [List.length_drop,List.length_take]; rfl)) ?_; (with_reducible refine (laws_szParcel.calls a1_0 a1_1 a1_2 t236 t237 _ A10.out).mono ?_); rintro e w18 ⟨rfl,hb⟩; refine ⟨_,rfl,?_⟩; have n0_ := zA (zV (g := gb234) (o := .cells #[.int .i64 a0_0,.int .i64 a0_1,.slice A0_2 l0_2.length c0_2,.int .i64 a0_3,.slice A0_4 l0_4.length c0_4] 24 (0,0)) (rrB19 BK234.out) hb); have n1_ := zA (zV (g := gb235) (o := .cells #[.int .i64 a1_0,.int .i64 a1_1,.string a1_2] 41 (0,0)) (rrB19 BK235.out) hb); have n2_ := zA (zZ (by repeat (first|(with_reducible first|exact HB.out|apply zO|apply zQ|apply zP|refine zN ?_ GE234.out|refine zN ?_ GE235.out)|exact HB.out)) hb); clear BK234 BK235 HB; have BK234 := n0_; have BK235 := n1_; have HB := n2_; clear n0_ n1_ n2_; (try clear hb); (try clear hb2); (try clear hk); (try clear hi)))
     go_ret
     exact ⟨by first|rfl|(simp [errW_none,errW_some] <;> rfl)|(simp [*,errW_none,errW_some] <;> rfl),by repeat (first|(with_reducible first|exact HB.out|apply zO|apply zQ|apply zP|refine zN ?_ GE234.out|refine zN ?_ GE235.out)|exact HB.out)⟩
    ·
     rw [if_neg c11] at H
     have c11b0 : decide (t237 < 0) = false := decide_eq_false c11
     clear c11
     replace H := Option.bind_eq_some_iff.mp H
     obtain ⟨⟨t238,t239,t240,t243,t244⟩,A190,H⟩ := H
     replace H : ((laws_toParcel.f a1_0 a1_1 a1_2).bind fun bt247 => ((spec_Receive.f k t238 t239 t240 t243 t244 bt247.1 bt247.2.1 bt247.2.2).bind fun bt250 => ((laws_toEnd.f k a0_0 a0_1 l0_2 a0_3 l0_4).bind fun bt261 => ((laws_toParcel.f a1_0 a1_1 a1_2).bind fun bt271 => ((impl_Receive.f k bt261.1 bt261.2.1 bt261.2.2.1 bt261.2.2.2.1 bt261.2.2.2.2 bt271.1 bt271.2.1 bt271.2.2).bind fun bt274 => ((laws_eqEnd.f k bt274.1 bt274.2.1 bt274.2.2.1 bt274.2.2.2.1 bt274.2.2.2.2.1 bt250.1 bt250.2.1 bt250.2.2.1 bt250.2.2.2.1 bt250.2.2.2.2.1).bind fun t285 => (if t285 = true then (laws_FnExactReceive.j0 k bt250.2.2.2.2.2 bt274.2.2.2.2.2 (bt274.2.2.2.2.2 != bt250.2.2.2.2.2) a0_0 a0_1 l0_2 a0_3 l0_4 a1_0 a1_1 a1_2 bt250.1 bt250.2.1 bt250.2.2.1 bt250.2.2.2.1 bt250.2.2.2.2.1 bt261.1 bt261.2.1 bt261.2.2.1 bt261.2.2.2.1 bt261.2.2.2.2 bt274.1 bt274.2.1 bt274.2.2.1 bt274.2.2.2.1 bt274.2.2.2.2.1) else (laws_FnExactReceive.j0 k bt250.2.2.2.2.2 bt274.2.2.2.2.2 true a0_0 a0_1 l0_2 a0_3 l0_4 a1_0 a1_1 a1_2 bt250.1 bt250.2.1 bt250.2.2.1 bt250.2.2.2.1 bt250.2.2.2.2.1 bt261.1 bt261.2.1 bt261.2.2.1 bt261.2.2.2.1 bt261.2.2.2.2 bt274.1 bt274.2.1 bt274.2.2.1 bt274.2.2.2.1 bt274.2.2.2.2.1)))))))) = some r := H
     have A19 := zA A190
     clear A190
     replace H := Option.bind_eq_some_iff.mp H
     obtain ⟨⟨t247,t248,t249⟩,A200,H⟩ := H
     replace H : ((spec_Receive.f k t238 t239 t240 t243 t244 t247 t248 t249).bind fun bt250 => ((laws_toEnd.f k a0_0 a0_1 l0_2 a0_3 l0_4).bind fun bt261 => ((laws_toParcel.f a1_0 a1_1 a1_2).bind fun bt271 => ((impl_Receive.f k bt261.1 bt261.2.1 bt261.2.2.1 bt261.2.2.2.1 bt261.2.2.2.2 bt271.1 bt271.2.1 bt271.2.2).bind fun bt274 => ((laws_eqEnd.f k bt274.1 bt274.2.1 bt274.2.2.1 bt274.2.2.2.1 bt274.2.2.2.2.1 bt250.1 bt250.2.1 bt250.2.2.1 bt250.2.2.2.1 bt250.2.2.2.2.1).bind fun t285 => (if t285 = true then (laws_FnExactReceive.j0 k bt250.2.2.2.2.2 bt274.2.2.2.2.2 (bt274.2.2.2.2.2 != bt250.2.2.2.2.2) a0_0 a0_1 l0_2 a0_3 l0_4 a1_0 a1_1 a1_2 bt250.1 bt250.2.1 bt250.2.2.1 bt250.2.2.2.1 bt250.2.2.2.2.1 bt261.1 bt261.2.1 bt261.2.2.1 bt261.2.2.2.1 bt261.2.2.2.2 bt274.1 bt274.2.1 bt274.2.2.1 bt274.2.2.2.1 bt274.2.2.2.2.1) else (laws_FnExactReceive.j0 k bt250.2.2.2.2.2 bt274.2.2.2.2.2 true a0_0 a0_1 l0_2 a0_3 l0_4 a1_0 a1_1 a1_2 bt250.1 bt250.2.1 bt250.2.2.1 bt250.2.2.2.1 bt250.2.2.2.2.1 bt261.1 bt261.2.1 bt261.2.2.1 bt261.2.2.2.1 bt261.2.2.2.2 bt274.1 bt274.2.1 bt274.2.2.1 bt274.2.2.2.1 bt274.2.2.2.2.1))))))) = some r := H
     have A20 := zA A200
     clear A200
     replace H := Option.bind_eq_some_iff.mp H
     obtain ⟨⟨t250,t251,t252,t255,t256,t259⟩,A210,H⟩ := H
     replace H : ((laws_toEnd.f k a0_0 a0_1 l0_2 a0_3 l0_4).bind fun bt261 => ((laws_toParcel.f a1_0 a1_1 a1_2).bind fun bt271 => ((impl_Receive.f k bt261.1 bt261.2.1 bt261.2.2.1 bt261.2.2.2.1 bt261.2.2.2.2 bt271.1 bt271.2.1 bt271.2.2).bind fun bt274 => ((laws_eqEnd.f k bt274.1 bt274.2.1 bt274.2.2.1 bt274.2.2.2.1 bt274.2.2.2.2.1 t250 t251 t252 t255 t256).bind fun t285 => (if t285 = true then (laws_FnExactReceive.j0 k t259 bt274.2.2.2.2.2 (bt274.2.2.2.2.2 != t259) a0_0 a0_1 l0_2 a0_3 l0_4 a1_0 a1_1 a1_2 t250 t251 t252 t255 t256 bt261.1 bt261.2.1 bt261.2.2.1 bt261.2.2.2.1 bt261.2.2.2.2 bt274.1 bt274.2.1 bt274.2.2.1 bt274.2.2.2.1 bt274.2.2.2.2.1) else (laws_FnExactReceive.j0 k t259 bt274.2.2.2.2.2 true a0_0 a0_1 l0_2 a0_3 l0_4 a1_0 a1_1 a1_2 t250 t251 t252 t255 t256 bt261.1 bt261.2.1 bt261.2.2.1 bt261.2.2.2.1 bt261.2.2.2.2 bt274.1 bt274.2.1 bt274.2.2.1 bt274.2.2.2.1 bt274.2.2.2.2.1)))))) = some r := H
     have A21 := zA A210
     clear A210
     replace H := Option.bind_eq_some_iff.mp H
     obtain ⟨⟨t261,t262,t263,t266,t267⟩,A220,H⟩ := H
     replace H : ((laws_toParcel.f a1_0 a1_1 a1_2).bind fun bt271 => ((impl_Receive.f k t261 t262 t263 t266 t267 bt271.1 bt271.2.1 bt271.2.2).bind fun bt274 => ((laws_eqEnd.f k bt274.1 bt274.2.1 bt274.2.2.1 bt274.2.2.2.1 bt274.2.2.2.2.1 t250 t251 t252 t255 t256).bind fun t285 => (if t285 = true then (laws_FnExactReceive.j0 k t259 bt274.2.2.2.2.2 (bt274.2.2.2.2.2 != t259) a0_0 a0_1 l0_2 a0_3 l0_4 a1_0 a1_1 a1_2 t250 t251 t252 t255 t256 t261 t262 t263 t266 t267 bt274.1 bt274.2.1 bt274.2.2.1 bt274.2.2.2.1 bt274.2.2.2.2.1) else (laws_FnExactReceive.j0 k t259 bt274.2.2.2.2.2 true a0_0 a0_1 l0_2 a0_3 l0_4 a1_0 a1_1 a1_2 t250 t251 t252 t255 t256 t261 t262 t263 t266 t267 bt274.1 bt274.2.1 bt274.2.2.1 bt274.2.2.2.1 bt274.2.2.2.2.1))))) = some r := H
     have A22 := zA A220
     clear A220
     replace H := Option.bind_eq_some_iff.mp H
     obtain ⟨⟨t271,t272,t273⟩,A230,H⟩ := H
     replace H : ((impl_Receive.f k t261 t262 t263 t266 t267 t271 t272 t273).bind fun bt274 => ((laws_eqEnd.f k bt274.1 bt274.2.1 bt274.2.2.1 bt274.2.2.2.1 bt274.2.2.2.2.1 t250 t251 t252 t255 t256).bind fun t285 => (if t285 = true then (laws_FnExactReceive.j0 k t259 bt274.2.2.2.2.2 (bt274.2.2.2.2.2 != t259) a0_0 a0_1 l0_2 a0_3 l0_4 a1_0 a1_1 a1_2 t250 t251 t252 t255 t256 t261 t262 t263 t266 t267 bt274.1 bt274.2.1 bt274.2.2.1 bt274.2.2.2.1 bt274.2.2.2.2.1) else (laws_FnExactReceive.j0 k t259 bt274.2.2.2.2.2 true a0_0 a0_1 l0_2 a0_3 l0_4 a1_0 a1_1 a1_2 t250 t251 t252 t255 t256 t261 t262 t263 t266 t267 bt274.1 bt274.2.1 bt274.2.2.1 bt274.2.2.2.1 bt274.2.2.2.2.1)))) = some r := H
     have A23 := zA A230
     clear A230
     replace H := Option.bind_eq_some_iff.mp H
     obtain ⟨⟨t274,t275,t276,t279,t280,t283⟩,A240,H⟩ := H
     replace H : ((laws_eqEnd.f k t274 t275 t276 t279 t280 t250 t251 t252 t255 t256).bind fun t285 => (if t285 = true then (laws_FnExactReceive.j0 k t259 t283 (t283 != t259) a0_0 a0_1 l0_2 a0_3 l0_4 a1_0 a1_1 a1_2 t250 t251 t252 t255 t256 t261 t262 t263 t266 t267 t274 t275 t276 t279 t280) else (laws_FnExactReceive.j0 k t259 t283 true a0_0 a0_1 l0_2 a0_3 l0_4 a1_0 a1_1 a1_2 t250 t251 t252 t255 t256 t261 t262 t263 t266 t267 t274 t275 t276 t279 t280))) = some r := H
     have A24 := zA A240
     clear A240
     have HC25 := zA H
     clear H
     go_enter Try.func5,Try.ntmps5
     try go_wp2_with (first | ((with_reducible refine gate_dst (N := 2) rfl ?_); refine box_event ?hg (N := 2) ?hd (cs := #[.int .i64 a0_0,.int .i64 a0_1,.slice A0_2 l0_2.length c0_2,.int .i64 a0_3,.slice A0_4 l0_4.length c0_4]) (t := 24) ?hr ?_; (case hd => rfl); (case hg => rfl); (case hr => first | (go_simp; done) | (go_simp; rfl)); intro gb234 hg w26 hbox hb; have n0_ := zA (zZ (by repeat (first|(with_reducible first|exact HB.out|apply zO|apply zQ|apply zP)|exact HB.out)) hb); have n1_ := zA (hbox); have n2_ := zA ((by rw [hg]; exact (below_size (by repeat (first|(with_reducible first|exact HB.out|apply zO|apply zQ|apply zP)|exact HB.out))) : w.heap.size ≤ gb234)); have n3_ := zA ((by rw [hg]; exact (below_size (by repeat (first|(with_reducible first|exact HB.out|apply zO|apply zQ|apply zP)|exact HB.out))) : w.heap.size ≤ gb234)); clear HB; have HB := n0_; have BK234 := n1_; have GW234 := n2_; have GE234 := n3_; clear n0_ n1_ n2_ n3_ hb hbox hg) | ((with_reducible refine gate_dst (N := 3) rfl ?_); refine box_event ?hg (N := 3) ?hd (cs := #[.int .i64 a1_0,.int .i64 a1_1,.string a1_2]) (t := 41) ?hr ?_; (case hd => rfl); (case hg => rfl); (case hr => first | (go_simp; done) | (go_simp; rfl)); intro gb235 hg w27 hbox hb; have n0_ := zA (zV (g := gb234) (o := .cells #[.int .i64 a0_0,.int .i64 a0_1,.slice A0_2 l0_2.length c0_2,.int .i64 a0_3,.slice A0_4 l0_4.length c0_4] 24 (0,0)) (rrB19 BK234.out) hb); have n1_ := zA (zZ (by repeat (first|(with_reducible first|exact HB.out|apply zO|apply zQ|apply zP|refine zN ?_ GE234.out)|exact HB.out)) hb); have n2_ := zA (hbox); have n3_ := zA ((by rw [hg]; exact (below_size (by repeat (first|(with_reducible first|exact HB.out|apply zO|apply zQ|apply zP|refine zN ?_ GE234.out)|exact HB.out))) : w.heap.size ≤ gb235)); have n4_ := zA ((by rw [hg]; exact (below_size (by repeat (first|(with_reducible first|exact HB.out|apply zO|apply zQ|apply zP|refine zN ?_ GE234.out)|exact HB.out))) : w.heap.size ≤ gb235)); have n5_ := zA ((by rw [hg]; exact Nat.ne_of_lt (blk_lt (g := gb234) (o := .cells #[.int .i64 a0_0,.int .i64 a0_1,.slice A0_2 l0_2.length c0_2,.int .i64 a0_3,.slice A0_4 l0_4.length c0_4] 24 (0,0)) (rrB19 BK234.out)) : gb234 ≠ gb235)); have n6_ := zA ((by rw [hg]; exact Nat.ne_of_gt (blk_lt (g := gb234) (o := .cells #[.int .i64 a0_0,.int .i64 a0_1,.slice A0_2 l0_2.length c0_2,.int .i64 a0_3,.slice A0_4 l0_4.length c0_4] 24 (0,0)) (rrB19 BK234.out)) : gb235 ≠ gb234)); clear BK234 HB; have BK234 := n0_; have HB := n1_; have BK235 := n2_; have GW235 := n3_; have GE235 := n4_; have NB234_235 := n5_; have NB235_234 := n6_; clear n0_ n1_ n2_ n3_ n4_ n5_ n6_ hb hbox hg; have hnb28 := NB234_235.out; have hnc28 := NB235_234.out; have hcz29_0 : w27.cell? ⟨gb234,0,none⟩ = some (.int .i64 a0_0) := (zW BK234.out 0).trans rfl; have hcz29_1 : w27.cell? ⟨gb234,1,none⟩ = some (.int .i64 a0_1) := (zW BK234.out 1).trans rfl; have hcz29_2 : w27.cell? ⟨gb234,2,none⟩ = some (.slice A0_2 l0_2.length c0_2) := (zW BK234.out 2).trans rfl; have hcz29_3 : w27.cell? ⟨gb234,3,none⟩ = some (.int .i64 a0_3) := (zW BK234.out 3).trans rfl; have hcz29_4 : w27.cell? ⟨gb234,4,none⟩ = some (.slice A0_4 l0_4.length c0_4) := (zW BK234.out 4).trans rfl; have hfz29_0 := zU BK234.out 0; have hfz29_1 := zU BK234.out 1; have hfz29_2 := zU BK234.out 2; have hfz29_3 := zU BK234.out 3; have hfz29_4 := zU BK234.out 4) | ((with_reducible refine gate_callee (f := 11) rfl ?_); refine goesL_ (some 18) rfl rfl Try.func11 (by kernel_rfl) rfl #[.agg #[.int .i64 a0_0,.int .i64 a0_1,.slice A0_2 l0_2.length c0_2,.int .i64 a0_3,.slice A0_4 l0_4.length c0_4],.int .i64 1048576] rfl (by (try simp only [List.map_toArray,List.map_cons,List.map_nil]); first | done|rfl|(simp only [List.length_drop,List.length_take]; rfl)) ?_; (with_reducible refine (laws_szEnd.calls k a0_0 a0_1 _ _ l0_2 a0_3 _ _ l0_4 1048576 t236 _ ?side1 ?side2 ?side3 ?side4 A3.out).mono ?_); (case side1 => repeat (first|exact (Kd.C_below HR0_2.out HB.out)|(with_reducible refine Kd.C_alloc ?_ _)|(with_reducible refine Kd.C_drewN ?_ _)|(with_reducible refine Kd.C_drew ?_))); (case side2 => exact HC0_2.out); (case side3 => repeat (first|exact (Kd.C_below HR0_4.out HB.out)|(with_reducible refine Kd.C_alloc ?_ _)|(with_reducible refine Kd.C_drewN ?_ _)|(with_reducible refine Kd.C_drew ?_))); (case side4 => exact HC0_4.out); rintro e w30 ⟨rfl,hb⟩; refine ⟨_,rfl,?_⟩; have n0_ := zA (zV (g := gb234) (o := .cells #[.int .i64 a0_0,.int .i64 a0_1,.slice A0_2 l0_2.length c0_2,.int .i64 a0_3,.slice A0_4 l0_4.length c0_4] 24 (0,0)) (rrB19 BK234.out) hb); have n1_ := zA (zV (g := gb235) (o := .cells #[.int .i64 a1_0,.int .i64 a1_1,.string a1_2] 41 (0,0)) (rrB19 BK235.out) hb); have n2_ := zA (zZ (by repeat (first|(with_reducible first|exact HB.out|apply zO|apply zQ|apply zP|refine zN ?_ GE234.out|refine zN ?_ GE235.out)|exact HB.out)) hb); clear BK234 BK235 HB; have BK234 := n0_; have BK235 := n1_; have HB := n2_; clear n0_ n1_ n2_; (try clear hb); (try clear hb2); (try clear hk); (try clear hi); have hcz31_0 : w30.cell? ⟨gb235,0,none⟩ = some (.int .i64 a1_0) := (zW BK235.out 0).trans rfl; have hcz31_1 : w30.cell? ⟨gb235,1,none⟩ = some (.int .i64 a1_1) := (zW BK235.out 1).trans rfl; have hcz31_2 : w30.cell? ⟨gb235,2,none⟩ = some (.string a1_2) := (zW BK235.out 2).trans rfl; have hfz31_0 := zU BK235.out 0; have hfz31_1 := zU BK235.out 1; have hfz31_2 := zU BK235.out 2) | ((with_reducible refine gate_callee (f := 24) rfl ?_); refine goesL_ (some 23) rfl rfl Try.func24 (by kernel_rfl) rfl #[.agg #[.int .i64 a1_0,.int .i64 a1_1,.string a1_2],.int .i64 t236] rfl (by (try simp only [List.map_toArray,List.map_cons,List.map_nil]); first | done|rfl|(simp only [List.length_drop,List.length_take]; rfl)) ?_; (with_reducible refine (laws_szParcel.calls a1_0 a1_1 a1_2 t236 t237 _ A10.out).mono ?_); rintro e w32 ⟨rfl,hb⟩; refine ⟨_,rfl,?_⟩; have n0_ := zA (zV (g := gb234) (o := .cells #[.int .i64 a0_0,.int .i64 a0_1,.slice A0_2 l0_2.length c0_2,.int .i64 a0_3,.slice A0_4 l0_4.length c0_4] 24 (0,0)) (rrB19 BK234.out) hb); have n1_ := zA (zV (g := gb235) (o := .cells #[.int .i64 a1_0,.int .i64 a1_1,.string a1_2] 41 (0,0)) (rrB19 BK235.out) hb); have n2_ := zA (zZ (by repeat (first|(with_reducible first|exact HB.out|apply zO|apply zQ|apply zP|refine zN ?_ GE234.out|refine zN ?_ GE235.out)|exact HB.out)) hb); clear BK234 BK235 HB; have BK234 := n0_; have BK235 := n1_; have HB := n2_; clear n0_ n1_ n2_; (try clear hb); (try clear hb2); (try clear hk); (try clear hi)))
     have n0_ := zA (zT BK234.out)
     have n1_ := zA (zT BK235.out)
     have n2_ := zA (zP HB.out)
     clear BK234 BK235 HB
     have BK234 := n0_
     have BK235 := n1_
     have HB := n2_
     clear n0_ n1_ n2_
     refine start_ (n := 11) (S := fun w' => w'.cell? ⟨gb234,0,none⟩ = some (.int .i64 a0_0) ∧ w'.cell? ⟨gb234,1,none⟩ = some (.int .i64 a0_1) ∧ w'.cell? ⟨gb234,2,none⟩ = some (.slice A0_2 l0_2.length c0_2) ∧ w'.cell? ⟨gb234,3,none⟩ = some (.int .i64 a0_3) ∧ w'.cell? ⟨gb234,4,none⟩ = some (.slice A0_4 l0_4.length c0_4) ∧ w'.cell? ⟨gb235,0,none⟩ = some (.int .i64 a1_0) ∧ w'.cell? ⟨gb235,1,none⟩ = some (.int .i64 a1_1) ∧ w'.cell? ⟨gb235,2,none⟩ = some (.string a1_2)) (ds := []) #[false,false,false,false,false,false,false,false,false,false,false] (by kernel_rfl) rfl rfl ⟨(zW BK234.out 0).trans rfl,(zW BK234.out 1).trans rfl,(zW BK234.out 2).trans rfl,(zW BK234.out 3).trans rfl,(zW BK234.out 4).trans rfl,(zW BK235.out 0).trans rfl,(zW BK235.out 1).trans rfl,(zW BK235.out 2).trans rfl⟩ (fun hHeld => ?_); refine with_tabW laws_FnExactReceive.tab8 laws_FnExactReceive.bits8 (fun HT_ HW_ => ?_)
     generalize w32.drew = w33 at BK234 BK235 HB hHeld ⊢
     refine take_ (i := 0) (N := some 27) (v := ?_) (a' := ?_) #[true,false,false,false,false,false,false,false,false,false,false] rfl rfl (take_ofW HT_.out HW_.out (by kernel_rfl)) (fun _ _ _ h => h) (Or.inl ⟨by rfl,?_⟩) hHeld ?_ ?_; rotate_left
     ·
      rintro w' ⟨s0,s1,s2,s3,s4,s5,s6,s7⟩
      go_simp; with_reducible rfl
     rotate_left
     · simp only [Act.put,List.setIfInBounds_toArray,List.set_cons_zero,List.set_cons_succ,i64_w,i32_w]; rfl
     refine take_ (i := 2) (N := some 29) (v := ?_) (a' := ?_) #[true,false,true,false,false,false,false,false,false,false,false] rfl rfl (take_ofW HT_.out HW_.out (by kernel_rfl)) (fun _ _ _ h => h) (Or.inl ⟨by rfl,?_⟩) hHeld ?_ ?_; rotate_left
     ·
      rintro w' ⟨s0,s1,s2,s3,s4,s5,s6,s7⟩
      go_simp; with_reducible rfl
     rotate_left
     · simp only [Act.put,List.setIfInBounds_toArray,List.set_cons_zero,List.set_cons_succ,i64_w,i32_w]; rfl
     refine join_ (σ := Value × Value × Value × Value × Nat) 2 #[true,true,true,true,true,true,true,true,true,false,false] (fun s_ => [(28,.agg #[.int .i64 t238,.int .i64 t239,s_.1,.int .i64 t243,s_.2.1]),(30,.agg #[.int .i64 t247,.int .i64 t248,.string t249]),(31,.tuple #[.agg #[.int .i64 t250,.int .i64 t251,s_.2.2.1,.int .i64 t255,s_.2.2.2.1],.bool t259]),(6,.pointer (some ⟨s_.2.2.2.2,0,none⟩)),(26,.tuple #[.agg #[.int .i64 t250,.int .i64 t251,s_.2.2.1,.int .i64 t255,s_.2.2.2.1],.bool t259]),(32,.agg #[.int .i64 t250,.int .i64 t251,s_.2.2.1,.int .i64 t255,s_.2.2.2.1]),(33,.bool t259)]) (fun s_ w' => (w'.cell? ⟨gb234,0,none⟩ = some (.int .i64 a0_0) ∧ w'.cell? ⟨gb234,1,none⟩ = some (.int .i64 a0_1) ∧ w'.cell? ⟨gb234,2,none⟩ = some (.slice A0_2 l0_2.length c0_2) ∧ w'.cell? ⟨gb234,3,none⟩ = some (.int .i64 a0_3) ∧ w'.cell? ⟨gb234,4,none⟩ = some (.slice A0_4 l0_4.length c0_4) ∧ w'.cell? ⟨gb235,0,none⟩ = some (.int .i64 a1_0) ∧ w'.cell? ⟨gb235,1,none⟩ = some (.int .i64 a1_1) ∧ w'.cell? ⟨gb235,2,none⟩ = some (.string a1_2)) ∧ (Kd.R Kd.string 9 w' w.heap.size (fun k_ => some k_ ≠ (s_.2.1 : Value).ownBlock ∧ some k_ ≠ (s_.2.2.1 : Value).ownBlock ∧ some k_ ≠ (s_.2.2.2.1 : Value).ownBlock) s_.1 t240) ∧ (Kd.R Kd.string 9 w' w.heap.size (fun k_ => some k_ ≠ (s_.1 : Value).ownBlock ∧ some k_ ≠ (s_.2.2.1 : Value).ownBlock ∧ some k_ ≠ (s_.2.2.2.1 : Value).ownBlock) s_.2.1 t244) ∧ (Kd.R Kd.string 9 w' w.heap.size (fun k_ => some k_ ≠ (s_.1 : Value).ownBlock ∧ some k_ ≠ (s_.2.1 : Value).ownBlock ∧ some k_ ≠ (s_.2.2.2.1 : Value).ownBlock) s_.2.2.1 t252) ∧ (Kd.R Kd.string 9 w' w.heap.size (fun k_ => some k_ ≠ (s_.1 : Value).ownBlock ∧ some k_ ≠ (s_.2.1 : Value).ownBlock ∧ some k_ ≠ (s_.2.2.1 : Value).ownBlock) s_.2.2.2.1 t256) ∧ (w'.heap[gb234]? = some (.cells #[.int .i64 a0_0,.int .i64 a0_1,.slice A0_2 l0_2.length c0_2,.int .i64 a0_3,.slice A0_4 l0_4.length c0_4] 24 (0,0))) ∧ (w'.heap[gb235]? = some (.cells #[.int .i64 a1_0,.int .i64 a1_1,.string a1_2] 41 (0,0))) ∧ (w'.heap[s_.2.2.2.2]? = some (.cells #[.int .i64 0,.int .i64 0,.slice none 0 0,.int .i64 0,.slice none 0 0] 26 (0,0))) ∧ (w.heap.size ≤ s_.2.2.2.2) ∧ (w.heap.size ≤ s_.2.2.2.2) ∧ (gb234 ≠ s_.2.2.2.2) ∧ (s_.2.2.2.2 ≠ gb234) ∧ (gb235 ≠ s_.2.2.2.2) ∧ (s_.2.2.2.2 ≠ gb235) ∧ (Below w.heap.size w w')) ?_ ?_
     rotate_left
     ·
      intro hCont
      refine two_ (i := 1) (j := 8) (Ni := some 28) (Nj := some 6) #[true,true,true,false,false,false,false,false,false,false,false] #[true,false,true,false,false,false,false,false,true,false,false] rfl rfl rfl rfl (two_of HT_.out (by kernel_rfl)) (by decide) (by decide) (fun K hK => ?_) (fun K hK => ?_)
      ·
       skip
       refine goes_ Try.func13 (by kernel_rfl) rfl #[.agg #[.int .i64 a0_0,.int .i64 a0_1,.slice A0_2 l0_2.length c0_2,.int .i64 a0_3,.slice A0_4 l0_4.length c0_4]] (by rfl) rfl rfl (by (try simp only [List.map_toArray,List.map_cons,List.map_nil]); first | done|rfl|(simp only [List.length_drop,List.length_take]; rfl)) ?_
       with_reducible refine (laws_toEnd.calls k a0_0 a0_1 _ _ l0_2 a0_3 _ _ l0_4 t238 t239 t240 t243 t244 _ ?side1 ?side2 ?side3 ?side4 A19.out).mono ?_
       (case side1 => repeat (first|exact (Kd.C_below HR0_2.out HB.out)|(with_reducible refine Kd.C_alloc ?_ _)|(with_reducible refine Kd.C_drewN ?_ _)|(with_reducible refine Kd.C_drew ?_)))
       (case side2 => exact HC0_2.out)
       (case side3 => repeat (first|exact (Kd.C_below HR0_4.out HB.out)|(with_reducible refine Kd.C_alloc ?_ _)|(with_reducible refine Kd.C_drewN ?_ _)|(with_reducible refine Kd.C_drew ?_)))
       (case side4 => exact HC0_4.out)
       rintro e w34 ⟨v241,v245,rfl,ho0,ho1,hb⟩
       refine ⟨_,rfl,?_⟩
       have n0_ := zA (Kd.R_lower ho0 (below_size (by repeat (first|(with_reducible first|exact HB.out|apply zO|apply zQ|apply zP|refine zN ?_ GE234.out|refine zN ?_ GE235.out)|exact HB.out))))
       have n1_ := zA (Kd.R_lower ho1 (below_size (by repeat (first|(with_reducible first|exact HB.out|apply zO|apply zQ|apply zP|refine zN ?_ GE234.out|refine zN ?_ GE235.out)|exact HB.out))))
       have n2_ := zA (zV (g := gb234) (o := .cells #[.int .i64 a0_0,.int .i64 a0_1,.slice A0_2 l0_2.length c0_2,.int .i64 a0_3,.slice A0_4 l0_4.length c0_4] 24 (0,0)) (rrB19 BK234.out) hb)
       have n3_ := zA (zV (g := gb235) (o := .cells #[.int .i64 a1_0,.int .i64 a1_1,.string a1_2] 41 (0,0)) (rrB19 BK235.out) hb)
       have n4_ := zA (zZ (by repeat (first|(with_reducible first|exact HB.out|apply zO|apply zQ|apply zP|refine zN ?_ GE234.out|refine zN ?_ GE235.out)|exact HB.out)) hb)
       clear BK234 BK235 HB
       have HO242 := n0_
       have HO246 := n1_
       have BK234 := n2_
       have BK235 := n3_
       have HB := n4_
       clear n0_ n1_ n2_ n3_ n4_
       (try clear hb)
       (try clear hb2)
       (try clear hk)
       (try clear hi)
       (try clear ho0)
       (try clear ho1)
       refine hK.out _ _ ⟨(zW BK234.out 0).trans rfl,(zW BK234.out 1).trans rfl,(zW BK234.out 2).trans rfl,(zW BK234.out 3).trans rfl,(zW BK234.out 4).trans rfl,(zW BK235.out 0).trans rfl,(zW BK235.out 1).trans rfl,(zW BK235.out 2).trans rfl⟩ (fun hHeld => ?_)
       clear hK K
       refine norm_ (a' := ?_) ?_ ?_
       rotate_left
       ·
        show Act.put _ (some 28) _ = _
        simp only [Act.put,List.setIfInBounds_toArray,List.set_cons_zero,List.set_cons_succ,i64_w,i32_w]; rfl
       refine two_ (i := 3) (j := 8) (Ni := some 30) (Nj := some 6) #[true,true,true,true,false,false,false,false,false,false,false] #[true,true,true,false,false,false,false,false,true,false,false] rfl rfl rfl rfl (two_of HT_.out (by kernel_rfl)) (by decide) (by decide) (fun K hK => ?_) (fun K hK => ?_)
       ·
        skip
        refine goes_ Try.func25 (by kernel_rfl) rfl #[.agg #[.int .i64 a1_0,.int .i64 a1_1,.string a1_2]] (by rfl) rfl rfl (by (try simp only [List.map_toArray,List.map_cons,List.map_nil]); first | done|rfl|(simp only [List.length_drop,List.length_take]; rfl)) ?_
        with_reducible refine (laws_toParcel.calls a1_0 a1_1 a1_2 t247 t248 t249 _ A20.out).mono ?_
        rintro e w35 ⟨rfl,hb⟩
        refine ⟨_,rfl,?_⟩
        have n0_ := zA (zD (rrA19 HO242.out) hb)
        have n1_ := zA (zD (rrA19 HO246.out) hb)
        have n2_ := zA (zV (g := gb234) (o := .cells #[.int .i64 a0_0,.int .i64 a0_1,.slice A0_2 l0_2.length c0_2,.int .i64 a0_3,.slice A0_4 l0_4.length c0_4] 24 (0,0)) (rrB19 BK234.out) hb)
        have n3_ := zA (zV (g := gb235) (o := .cells #[.int .i64 a1_0,.int .i64 a1_1,.string a1_2] 41 (0,0)) (rrB19 BK235.out) hb)
        have n4_ := zA (zZ (by repeat (first|(with_reducible first|exact HB.out|apply zO|apply zQ|apply zP|refine zN ?_ GE234.out|refine zN ?_ GE235.out)|exact HB.out)) hb)
        clear HO242 HO246 BK234 BK235 HB
        have HO242 := n0_
        have HO246 := n1_
        have BK234 := n2_
        have BK235 := n3_
        have HB := n4_
        clear n0_ n1_ n2_ n3_ n4_
        (try clear hb)
        (try clear hb2)
        (try clear hk)
        (try clear hi)
        obtain ⟨Ao36,co36,eo36⟩ := Kd.R_slice HO242.out
        (first | subst eo36 | (injection eo36 with f1_ f2_ f3_; have f4_ := f1_.symm; have f5_ := f3_.symm; clear f1_ f2_ f3_; subst f4_; subst f5_))
        obtain ⟨Ao37,co37,eo37⟩ := Kd.R_slice HO246.out
        (first | subst eo37 | (injection eo37 with f1_ f2_ f3_; have f4_ := f1_.symm; have f5_ := f3_.symm; clear f1_ f2_ f3_; subst f4_; subst f5_))
        refine hK.out _ _ ⟨(zW BK234.out 0).trans rfl,(zW BK234.out 1).trans rfl,(zW BK234.out 2).trans rfl,(zW BK234.out 3).trans rfl,(zW BK234.out 4).trans rfl,(zW BK235.out 0).trans rfl,(zW BK235.out 1).trans rfl,(zW BK235.out 2).trans rfl⟩ (fun hHeld => ?_)
        clear hK K
        refine norm_ (a' := ?_) ?_ ?_
        rotate_left
        ·
         show Act.put _ (some 30) _ = _
         simp only [Act.put,List.setIfInBounds_toArray,List.set_cons_zero,List.set_cons_succ,i64_w,i32_w]; rfl
        refine two_ (i := 4) (j := 8) (Ni := some 31) (Nj := some 6) #[true,true,true,true,true,false,false,false,false,false,false] #[true,true,true,true,false,false,false,false,true,false,false] rfl rfl rfl rfl (two_of HT_.out (by kernel_rfl)) (by decide) (by decide) (fun K hK => ?_) (fun K hK => ?_)
        ·
         skip
         refine goes_ Try.func21 (by kernel_rfl) rfl #[.agg #[.int .i64 t238,.int .i64 t239,.slice Ao36 t240.length co36,.int .i64 t243,.slice Ao37 t244.length co37],.agg #[.int .i64 t247,.int .i64 t248,.string t249]] (by rfl) rfl rfl (by (try simp only [List.map_toArray,List.map_cons,List.map_nil]); first | done|rfl|(simp only [List.length_drop,List.length_take]; rfl)) ?_
         with_reducible refine (spec_Receive.calls k t238 t239 _ _ t240 t243 _ _ t244 t247 t248 t249 t250 t251 t252 t255 t256 t259 _ ?side1 ?side2 ?side3 ?side4 A21.out).mono ?_
         (case side1 => repeat (first|exact (zI HO242.out).2.2|(with_reducible refine Kd.C_alloc ?_ _)|(with_reducible refine Kd.C_drewN ?_ _)|(with_reducible refine Kd.C_drew ?_)))
         (case side2 => exact (zI HO242.out).2.1)
         (case side3 => repeat (first|exact (zI HO246.out).2.2|(with_reducible refine Kd.C_alloc ?_ _)|(with_reducible refine Kd.C_drewN ?_ _)|(with_reducible refine Kd.C_drew ?_)))
         (case side4 => exact (zI HO246.out).2.1)
         rintro e w38 ⟨v253,v257,rfl,ho0,ho1,hb⟩
         refine ⟨_,rfl,?_⟩
         have n0_ := zA (zC (zE (zE (zM (rrA19 HO242.out) hb) (zF ho0)) (zF ho1)) (fun _ h_ => h_.1))
         have n1_ := zA (zC (zE (zE (zM (rrA19 HO246.out) hb) (zF ho0)) (zF ho1)) (fun _ h_ => h_.1))
         have n2_ := zA (Kd.R_lower (zG (zG ho0 (Kd.R_lt (rrA19 HO242.out))) (Kd.R_lt (rrA19 HO246.out))) (below_size (by repeat (first|(with_reducible first|exact HB.out|apply zO|apply zQ|apply zP|refine zN ?_ GE234.out|refine zN ?_ GE235.out)|exact HB.out))))
         have n3_ := zA (Kd.R_lower (zG (zG ho1 (Kd.R_lt (rrA19 HO242.out))) (Kd.R_lt (rrA19 HO246.out))) (below_size (by repeat (first|(with_reducible first|exact HB.out|apply zO|apply zQ|apply zP|refine zN ?_ GE234.out|refine zN ?_ GE235.out)|exact HB.out))))
         have n4_ := zA (zV (g := gb234) (o := .cells #[.int .i64 a0_0,.int .i64 a0_1,.slice A0_2 l0_2.length c0_2,.int .i64 a0_3,.slice A0_4 l0_4.length c0_4] 24 (0,0)) (rrB19 BK234.out) hb)
         have n5_ := zA (zV (g := gb235) (o := .cells #[.int .i64 a1_0,.int .i64 a1_1,.string a1_2] 41 (0,0)) (rrB19 BK235.out) hb)
         have n6_ := zA (zZ (by repeat (first|(with_reducible first|exact HB.out|apply zO|apply zQ|apply zP|refine zN ?_ GE234.out|refine zN ?_ GE235.out)|exact HB.out)) hb)
         clear HO242 HO246 BK234 BK235 HB
         have HO242 := n0_
         have HO246 := n1_
         have HO254 := n2_
         have HO258 := n3_
         have BK234 := n4_
         have BK235 := n5_
         have HB := n6_
         clear n0_ n1_ n2_ n3_ n4_ n5_ n6_
         (try clear hb)
         (try clear hb2)
         (try clear hk)
         (try clear hi)
         (try clear ho0)
         (try clear ho1)
         refine hK.out _ _ ⟨(zW BK234.out 0).trans rfl,(zW BK234.out 1).trans rfl,(zW BK234.out 2).trans rfl,(zW BK234.out 3).trans rfl,(zW BK234.out 4).trans rfl,(zW BK235.out 0).trans rfl,(zW BK235.out 1).trans rfl,(zW BK235.out 2).trans rfl⟩ (fun hHeld => ?_)
         clear hK K
         refine norm_ (a' := ?_) ?_ ?_
         rotate_left
         ·
          show Act.put _ (some 31) _ = _
          simp only [Act.put,List.setIfInBounds_toArray,List.set_cons_zero,List.set_cons_succ,i64_w,i32_w]; rfl
         refine pure_ (i := 5) (N := some 26) (v := ?_) (a' := ?_) #[true,true,true,true,true,true,false,false,false,false,false] rfl rfl (any_of HT_.out (by kernel_rfl)) (fun _ _ _ h => h) (Or.inl ⟨by rfl,?_⟩) ?_ ?_; rotate_left
         · intro w'; go_simp; with_reducible rfl
         rotate_left
         · simp only [Act.put,List.setIfInBounds_toArray,List.set_cons_zero,List.set_cons_succ,i64_w,i32_w]; rfl
         refine pure_ (i := 6) (N := some 32) (v := ?_) (a' := ?_) #[true,true,true,true,true,true,true,false,false,false,false] rfl rfl (any_of HT_.out (by kernel_rfl)) (fun _ _ _ h => h) (Or.inl ⟨by rfl,?_⟩) ?_ ?_; rotate_left
         · intro w'; go_simp; with_reducible rfl
         rotate_left
         · simp only [Act.put,List.setIfInBounds_toArray,List.set_cons_zero,List.set_cons_succ,i64_w,i32_w]; rfl
         refine pure_ (i := 7) (N := some 33) (v := ?_) (a' := ?_) #[true,true,true,true,true,true,true,true,false,false,false] rfl rfl (any_of HT_.out (by kernel_rfl)) (fun _ _ _ h => h) (Or.inl ⟨by rfl,?_⟩) ?_ ?_; rotate_left
         · intro w'; go_simp; with_reducible rfl
         rotate_left
         · simp only [Act.put,List.setIfInBounds_toArray,List.set_cons_zero,List.set_cons_succ,i64_w,i32_w]; rfl
         refine one_ (i := 8) (N := some 6) #[true,true,true,true,true,true,true,true,true,false,false] rfl rfl (one_of HT_.out (by kernel_rfl)) (by decide) (fun K hK => ?_)
         refine box_step ?hg (N := 6) ?hd (cs := #[.int .i64 0,.int .i64 0,.slice none 0 0,.int .i64 0,.slice none 0 0]) (t := 26) ?hr ?_; (case hd => rfl); (case hg => rfl); (case hr => first | (go_simp; done) | (go_simp; rfl))
         intro gb260 hg w39 hbox hb
         have n0_ := zA (zD (rrA19 HO242.out) hb)
         have n1_ := zA (zD (rrA19 HO246.out) hb)
         have n2_ := zA (zD (rrA19 HO254.out) hb)
         have n3_ := zA (zD (rrA19 HO258.out) hb)
         have n4_ := zA (zV (g := gb234) (o := .cells #[.int .i64 a0_0,.int .i64 a0_1,.slice A0_2 l0_2.length c0_2,.int .i64 a0_3,.slice A0_4 l0_4.length c0_4] 24 (0,0)) (rrB19 BK234.out) hb)
         have n5_ := zA (zV (g := gb235) (o := .cells #[.int .i64 a1_0,.int .i64 a1_1,.string a1_2] 41 (0,0)) (rrB19 BK235.out) hb)
         have n6_ := zA (zZ (by repeat (first|(with_reducible first|exact HB.out|apply zO|apply zQ|apply zP|refine zN ?_ GE234.out|refine zN ?_ GE235.out)|exact HB.out)) hb)
         have n7_ := zA (hbox)
         have n8_ := zA ((by rw [hg]; exact (below_size (by repeat (first|(with_reducible first|exact HB.out|apply zO|apply zQ|apply zP|refine zN ?_ GE234.out|refine zN ?_ GE235.out)|exact HB.out))) : w.heap.size ≤ gb260))
         have n9_ := zA ((by rw [hg]; exact (below_size (by repeat (first|(with_reducible first|exact HB.out|apply zO|apply zQ|apply zP|refine zN ?_ GE234.out|refine zN ?_ GE235.out)|exact HB.out))) : w.heap.size ≤ gb260))
         have n10_ := zA ((by rw [hg]; exact Nat.ne_of_lt (blk_lt (g := gb234) (o := .cells #[.int .i64 a0_0,.int .i64 a0_1,.slice A0_2 l0_2.length c0_2,.int .i64 a0_3,.slice A0_4 l0_4.length c0_4] 24 (0,0)) (rrB19 BK234.out)) : gb234 ≠ gb260))
         have n11_ := zA ((by rw [hg]; exact Nat.ne_of_gt (blk_lt (g := gb234) (o := .cells #[.int .i64 a0_0,.int .i64 a0_1,.slice A0_2 l0_2.length c0_2,.int .i64 a0_3,.slice A0_4 l0_4.length c0_4] 24 (0,0)) (rrB19 BK234.out)) : gb260 ≠ gb234))
         have n12_ := zA ((by rw [hg]; exact Nat.ne_of_lt (blk_lt (g := gb235) (o := .cells #[.int .i64 a1_0,.int .i64 a1_1,.string a1_2] 41 (0,0)) (rrB19 BK235.out)) : gb235 ≠ gb260))
         have n13_ := zA ((by rw [hg]; exact Nat.ne_of_gt (blk_lt (g := gb235) (o := .cells #[.int .i64 a1_0,.int .i64 a1_1,.string a1_2] 41 (0,0)) (rrB19 BK235.out)) : gb260 ≠ gb235))
         clear HO242 HO246 HO254 HO258 BK234 BK235 HB
         have HO242 := n0_
         have HO246 := n1_
         have HO254 := n2_
         have HO258 := n3_
         have BK234 := n4_
         have BK235 := n5_
         have HB := n6_
         have BK260 := n7_
         have GW260 := n8_
         have GE260 := n9_
         have NB234_260 := n10_
         have NB260_234 := n11_
         have NB235_260 := n12_
         have NB260_235 := n13_
         clear n0_ n1_ n2_ n3_ n4_ n5_ n6_ n7_ n8_ n9_ n10_ n11_ n12_ n13_ hb hbox hg
         refine hK.out _ _ ⟨(zW BK234.out 0).trans rfl,(zW BK234.out 1).trans rfl,(zW BK234.out 2).trans rfl,(zW BK234.out 3).trans rfl,(zW BK234.out 4).trans rfl,(zW BK235.out 0).trans rfl,(zW BK235.out 1).trans rfl,(zW BK235.out 2).trans rfl⟩ (fun hHeld => ?_)
         clear hK K
         refine norm_ (a' := ?_) ?_ ?_
         rotate_left
         ·
          show Act.put _ (some 6) _ = _
          simp only [Act.put,List.setIfInBounds_toArray,List.set_cons_zero,List.set_cons_succ,i64_w,i32_w]; rfl
         exact norm_ (by simp only [putAll,Act.put,List.setIfInBounds_toArray,List.set_cons_zero,List.set_cons_succ]) (hCont (.slice Ao36 t240.length co36,.slice Ao37 t244.length co37,v253,v257,gb260) _ ⟨hHeld,(by (with_reducible repeat (first|apply zJ|apply zK|apply zL)); exact zC HO242.out (fun _ hk => ⟨hk.1.1,⟨hk.1.2,hk.2⟩⟩)),(by (with_reducible repeat (first|apply zJ|apply zK|apply zL)); exact zC HO246.out (fun _ hk => ⟨hk.1.1,⟨hk.1.2,hk.2⟩⟩)),(by (with_reducible repeat (first|apply zJ|apply zK|apply zL)); exact zC HO254.out (fun _ hk => ⟨hk.1.2,⟨hk.2,hk.1.1⟩⟩)),(by (with_reducible repeat (first|apply zJ|apply zK|apply zL)); exact zC HO258.out (fun _ hk => ⟨hk.1.2,⟨hk.2,hk.1.1⟩⟩)),(rrB19 BK234.out),(rrB19 BK235.out),(rrB19 BK260.out),GW260.out,GE260.out,NB234_260.out,NB260_234.out,NB235_260.out,NB260_235.out,(by repeat (first|(with_reducible first|exact HB.out|apply zO|apply zQ|apply zP|refine zN ?_ GE234.out|refine zN ?_ GE235.out|refine zN ?_ GE260.out)|exact HB.out))⟩)
        ·
         skip
         refine box_step ?hg (N := 6) ?hd (cs := #[.int .i64 0,.int .i64 0,.slice none 0 0,.int .i64 0,.slice none 0 0]) (t := 26) ?hr ?_; (case hd => rfl); (case hg => rfl); (case hr => first | (go_simp; done) | (go_simp; rfl))
         intro gb260 hg w36 hbox hb
         have n0_ := zA (zD (rrA19 HO242.out) hb)
         have n1_ := zA (zD (rrA19 HO246.out) hb)
         have n2_ := zA (zV (g := gb234) (o := .cells #[.int .i64 a0_0,.int .i64 a0_1,.slice A0_2 l0_2.length c0_2,.int .i64 a0_3,.slice A0_4 l0_4.length c0_4] 24 (0,0)) (rrB19 BK234.out) hb)
         have n3_ := zA (zV (g := gb235) (o := .cells #[.int .i64 a1_0,.int .i64 a1_1,.string a1_2] 41 (0,0)) (rrB19 BK235.out) hb)
         have n4_ := zA (zZ (by repeat (first|(with_reducible first|exact HB.out|apply zO|apply zQ|apply zP|refine zN ?_ GE234.out|refine zN ?_ GE235.out)|exact HB.out)) hb)
         have n5_ := zA (hbox)
         have n6_ := zA ((by rw [hg]; exact (below_size (by repeat (first|(with_reducible first|exact HB.out|apply zO|apply zQ|apply zP|refine zN ?_ GE234.out|refine zN ?_ GE235.out)|exact HB.out))) : w.heap.size ≤ gb260))
         have n7_ := zA ((by rw [hg]; exact (below_size (by repeat (first|(with_reducible first|exact HB.out|apply zO|apply zQ|apply zP|refine zN ?_ GE234.out|refine zN ?_ GE235.out)|exact HB.out))) : w.heap.size ≤ gb260))
         have n8_ := zA ((by rw [hg]; exact Nat.ne_of_lt (blk_lt (g := gb234) (o := .cells #[.int .i64 a0_0,.int .i64 a0_1,.slice A0_2 l0_2.length c0_2,.int .i64 a0_3,.slice A0_4 l0_4.length c0_4] 24 (0,0)) (rrB19 BK234.out)) : gb234 ≠ gb260))
         have n9_ := zA ((by rw [hg]; exact Nat.ne_of_gt (blk_lt (g := gb234) (o := .cells #[.int .i64 a0_0,.int .i64 a0_1,.slice A0_2 l0_2.length c0_2,.int .i64 a0_3,.slice A0_4 l0_4.length c0_4] 24 (0,0)) (rrB19 BK234.out)) : gb260 ≠ gb234))
         have n10_ := zA ((by rw [hg]; exact Nat.ne_of_lt (blk_lt (g := gb235) (o := .cells #[.int .i64 a1_0,.int .i64 a1_1,.string a1_2] 41 (0,0)) (rrB19 BK235.out)) : gb235 ≠ gb260))
         have n11_ := zA ((by rw [hg]; exact Nat.ne_of_gt (blk_lt (g := gb235) (o := .cells #[.int .i64 a1_0,.int .i64 a1_1,.string a1_2] 41 (0,0)) (rrB19 BK235.out)) : gb260 ≠ gb235))
         clear HO242 HO246 BK234 BK235 HB
         have HO242 := n0_
         have HO246 := n1_
         have BK234 := n2_
         have BK235 := n3_
         have HB := n4_
         have BK260 := n5_
         have GW260 := n6_
         have GE260 := n7_
         have NB234_260 := n8_
         have NB260_234 := n9_
         have NB235_260 := n10_
         have NB260_235 := n11_
         clear n0_ n1_ n2_ n3_ n4_ n5_ n6_ n7_ n8_ n9_ n10_ n11_ hb hbox hg
         obtain ⟨Ao37,co37,eo37⟩ := Kd.R_slice HO242.out
         (first | subst eo37 | (injection eo37 with f1_ f2_ f3_; have f4_ := f1_.symm; have f5_ := f3_.symm; clear f1_ f2_ f3_; subst f4_; subst f5_))
         obtain ⟨Ao38,co38,eo38⟩ := Kd.R_slice HO246.out
         (first | subst eo38 | (injection eo38 with f1_ f2_ f3_; have f4_ := f1_.symm; have f5_ := f3_.symm; clear f1_ f2_ f3_; subst f4_; subst f5_))
         refine hK.out _ _ ⟨(zW BK234.out 0).trans rfl,(zW BK234.out 1).trans rfl,(zW BK234.out 2).trans rfl,(zW BK234.out 3).trans rfl,(zW BK234.out 4).trans rfl,(zW BK235.out 0).trans rfl,(zW BK235.out 1).trans rfl,(zW BK235.out 2).trans rfl⟩ (fun hHeld => ?_)
         clear hK K
         refine norm_ (a' := ?_) ?_ ?_
         rotate_left
         ·
          show Act.put _ (some 6) _ = _
          simp only [Act.put,List.setIfInBounds_toArray,List.set_cons_zero,List.set_cons_succ,i64_w,i32_w]; rfl
         refine one_ (i := 4) (N := some 31) #[true,true,true,true,true,false,false,false,true,false,false] rfl rfl (one_of HT_.out (by kernel_rfl)) (by decide) (fun K hK => ?_)
         refine goes_ Try.func21 (by kernel_rfl) rfl #[.agg #[.int .i64 t238,.int .i64 t239,.slice Ao37 t240.length co37,.int .i64 t243,.slice Ao38 t244.length co38],.agg #[.int .i64 t247,.int .i64 t248,.string t249]] (by rfl) rfl rfl (by (try simp only [List.map_toArray,List.map_cons,List.map_nil]); first | done|rfl|(simp only [List.length_drop,List.length_take]; rfl)) ?_
         with_reducible refine (spec_Receive.calls k t238 t239 _ _ t240 t243 _ _ t244 t247 t248 t249 t250 t251 t252 t255 t256 t259 _ ?side1 ?side2 ?side3 ?side4 A21.out).mono ?_
         (case side1 => repeat (first|exact (zI HO242.out).2.2|(with_reducible refine Kd.C_alloc ?_ _)|(with_reducible refine Kd.C_drewN ?_ _)|(with_reducible refine Kd.C_drew ?_)))
         (case side2 => exact (zI HO242.out).2.1)
         (case side3 => repeat (first|exact (zI HO246.out).2.2|(with_reducible refine Kd.C_alloc ?_ _)|(with_reducible refine Kd.C_drewN ?_ _)|(with_reducible refine Kd.C_drew ?_)))
         (case side4 => exact (zI HO246.out).2.1)
         rintro e w39 ⟨v253,v257,rfl,ho0,ho1,hb⟩
         refine ⟨_,rfl,?_⟩
         have n0_ := zA (zC (zE (zE (zM (rrA19 HO242.out) hb) (zF ho0)) (zF ho1)) (fun _ h_ => h_.1))
         have n1_ := zA (zC (zE (zE (zM (rrA19 HO246.out) hb) (zF ho0)) (zF ho1)) (fun _ h_ => h_.1))
         have n2_ := zA (Kd.R_lower (zG (zG ho0 (Kd.R_lt (rrA19 HO242.out))) (Kd.R_lt (rrA19 HO246.out))) (below_size (by repeat (first|(with_reducible first|exact HB.out|apply zO|apply zQ|apply zP|refine zN ?_ GE234.out|refine zN ?_ GE235.out|refine zN ?_ GE260.out)|exact HB.out))))
         have n3_ := zA (Kd.R_lower (zG (zG ho1 (Kd.R_lt (rrA19 HO242.out))) (Kd.R_lt (rrA19 HO246.out))) (below_size (by repeat (first|(with_reducible first|exact HB.out|apply zO|apply zQ|apply zP|refine zN ?_ GE234.out|refine zN ?_ GE235.out|refine zN ?_ GE260.out)|exact HB.out))))
         have n4_ := zA (zV (g := gb234) (o := .cells #[.int .i64 a0_0,.int .i64 a0_1,.slice A0_2 l0_2.length c0_2,.int .i64 a0_3,.slice A0_4 l0_4.length c0_4] 24 (0,0)) (rrB19 BK234.out) hb)
         have n5_ := zA (zV (g := gb235) (o := .cells #[.int .i64 a1_0,.int .i64 a1_1,.string a1_2] 41 (0,0)) (rrB19 BK235.out) hb)
         have n6_ := zA (zV (g := gb260) (o := .cells #[.int .i64 0,.int .i64 0,.slice none 0 0,.int .i64 0,.slice none 0 0] 26 (0,0)) (rrB19 BK260.out) hb)
         have n7_ := zA (zZ (by repeat (first|(with_reducible first|exact HB.out|apply zO|apply zQ|apply zP|refine zN ?_ GE234.out|refine zN ?_ GE235.out|refine zN ?_ GE260.out)|exact HB.out)) hb)
         clear HO242 HO246 BK234 BK235 BK260 HB
         have HO242 := n0_
         have HO246 := n1_
         have HO254 := n2_
         have HO258 := n3_
         have BK234 := n4_
         have BK235 := n5_
         have BK260 := n6_
         have HB := n7_
         clear n0_ n1_ n2_ n3_ n4_ n5_ n6_ n7_
         (try clear hb)
         (try clear hb2)
         (try clear hk)
         (try clear hi)
         (try clear ho0)
         (try clear ho1)
         refine hK.out _ _ ⟨(zW BK234.out 0).trans rfl,(zW BK234.out 1).trans rfl,(zW BK234.out 2).trans rfl,(zW BK234.out 3).trans rfl,(zW BK234.out 4).trans rfl,(zW BK235.out 0).trans rfl,(zW BK235.out 1).trans rfl,(zW BK235.out 2).trans rfl⟩ (fun hHeld => ?_)
         clear hK K
         refine norm_ (a' := ?_) ?_ ?_
         rotate_left
         ·
          show Act.put _ (some 31) _ = _
          simp only [Act.put,List.setIfInBounds_toArray,List.set_cons_zero,List.set_cons_succ,i64_w,i32_w]; rfl
         refine pure_ (i := 5) (N := some 26) (v := ?_) (a' := ?_) #[true,true,true,true,true,true,false,false,true,false,false] rfl rfl (any_of HT_.out (by kernel_rfl)) (fun _ _ _ h => h) (Or.inl ⟨by rfl,?_⟩) ?_ ?_; rotate_left
         · intro w'; go_simp; with_reducible rfl
         rotate_left
         · simp only [Act.put,List.setIfInBounds_toArray,List.set_cons_zero,List.set_cons_succ,i64_w,i32_w]; rfl
         refine pure_ (i := 6) (N := some 32) (v := ?_) (a' := ?_) #[true,true,true,true,true,true,true,false,true,false,false] rfl rfl (any_of HT_.out (by kernel_rfl)) (fun _ _ _ h => h) (Or.inl ⟨by rfl,?_⟩) ?_ ?_; rotate_left
         · intro w'; go_simp; with_reducible rfl
         rotate_left
         · simp only [Act.put,List.setIfInBounds_toArray,List.set_cons_zero,List.set_cons_succ,i64_w,i32_w]; rfl
         refine pure_ (i := 7) (N := some 33) (v := ?_) (a' := ?_) #[true,true,true,true,true,true,true,true,true,false,false] rfl rfl (any_of HT_.out (by kernel_rfl)) (fun _ _ _ h => h) (Or.inl ⟨by rfl,?_⟩) ?_ ?_; rotate_left
         · intro w'; go_simp; with_reducible rfl
         rotate_left
         · simp only [Act.put,List.setIfInBounds_toArray,List.set_cons_zero,List.set_cons_succ,i64_w,i32_w]; rfl
         exact norm_ (by simp only [putAll,Act.put,List.setIfInBounds_toArray,List.set_cons_zero,List.set_cons_succ]) (hCont (.slice Ao37 t240.length co37,.slice Ao38 t244.length co38,v253,v257,gb260) _ ⟨hHeld,(by (with_reducible repeat (first|apply zJ|apply zK|apply zL)); exact zC HO242.out (fun _ hk => ⟨hk.1.1,⟨hk.1.2,hk.2⟩⟩)),(by (with_reducible repeat (first|apply zJ|apply zK|apply zL)); exact zC HO246.out (fun _ hk => ⟨hk.1.1,⟨hk.1.2,hk.2⟩⟩)),(by (with_reducible repeat (first|apply zJ|apply zK|apply zL)); exact zC HO254.out (fun _ hk => ⟨hk.1.2,⟨hk.2,hk.1.1⟩⟩)),(by (with_reducible repeat (first|apply zJ|apply zK|apply zL)); exact zC HO258.out (fun _ hk => ⟨hk.1.2,⟨hk.2,hk.1.1⟩⟩)),(rrB19 BK234.out),(rrB19 BK235.out),(rrB19 BK260.out),GW260.out,GE260.out,NB234_260.out,NB260_234.out,NB235_260.out,NB260_235.out,(by repeat (first|(with_reducible first|exact HB.out|apply zO|apply zQ|apply zP|refine zN ?_ GE234.out|refine zN ?_ GE235.out|refine zN ?_ GE260.out)|exact HB.out))⟩)
       ·
        skip
        refine box_step ?hg (N := 6) ?hd (cs := #[.int .i64 0,.int .i64 0,.slice none 0 0,.int .i64 0,.slice none 0 0]) (t := 26) ?hr ?_; (case hd => rfl); (case hg => rfl); (case hr => first | (go_simp; done) | (go_simp; rfl))
        intro gb260 hg w35 hbox hb
        have n0_ := zA (zD (rrA19 HO242.out) hb)
        have n1_ := zA (zD (rrA19 HO246.out) hb)
        have n2_ := zA (zV (g := gb234) (o := .cells #[.int .i64 a0_0,.int .i64 a0_1,.slice A0_2 l0_2.length c0_2,.int .i64 a0_3,.slice A0_4 l0_4.length c0_4] 24 (0,0)) (rrB19 BK234.out) hb)
        have n3_ := zA (zV (g := gb235) (o := .cells #[.int .i64 a1_0,.int .i64 a1_1,.string a1_2] 41 (0,0)) (rrB19 BK235.out) hb)
        have n4_ := zA (zZ (by repeat (first|(with_reducible first|exact HB.out|apply zO|apply zQ|apply zP|refine zN ?_ GE234.out|refine zN ?_ GE235.out)|exact HB.out)) hb)
        have n5_ := zA (hbox)
        have n6_ := zA ((by rw [hg]; exact (below_size (by repeat (first|(with_reducible first|exact HB.out|apply zO|apply zQ|apply zP|refine zN ?_ GE234.out|refine zN ?_ GE235.out)|exact HB.out))) : w.heap.size ≤ gb260))
        have n7_ := zA ((by rw [hg]; exact (below_size (by repeat (first|(with_reducible first|exact HB.out|apply zO|apply zQ|apply zP|refine zN ?_ GE234.out|refine zN ?_ GE235.out)|exact HB.out))) : w.heap.size ≤ gb260))
        have n8_ := zA ((by rw [hg]; exact Nat.ne_of_lt (blk_lt (g := gb234) (o := .cells #[.int .i64 a0_0,.int .i64 a0_1,.slice A0_2 l0_2.length c0_2,.int .i64 a0_3,.slice A0_4 l0_4.length c0_4] 24 (0,0)) (rrB19 BK234.out)) : gb234 ≠ gb260))
        have n9_ := zA ((by rw [hg]; exact Nat.ne_of_gt (blk_lt (g := gb234) (o := .cells #[.int .i64 a0_0,.int .i64 a0_1,.slice A0_2 l0_2.length c0_2,.int .i64 a0_3,.slice A0_4 l0_4.length c0_4] 24 (0,0)) (rrB19 BK234.out)) : gb260 ≠ gb234))
        have n10_ := zA ((by rw [hg]; exact Nat.ne_of_lt (blk_lt (g := gb235) (o := .cells #[.int .i64 a1_0,.int .i64 a1_1,.string a1_2] 41 (0,0)) (rrB19 BK235.out)) : gb235 ≠ gb260))
        have n11_ := zA ((by rw [hg]; exact Nat.ne_of_gt (blk_lt (g := gb235) (o := .cells #[.int .i64 a1_0,.int .i64 a1_1,.string a1_2] 41 (0,0)) (rrB19 BK235.out)) : gb260 ≠ gb235))
        clear HO242 HO246 BK234 BK235 HB
        have HO242 := n0_
        have HO246 := n1_
        have BK234 := n2_
        have BK235 := n3_
        have HB := n4_
        have BK260 := n5_
        have GW260 := n6_
        have GE260 := n7_
        have NB234_260 := n8_
        have NB260_234 := n9_
        have NB235_260 := n10_
        have NB260_235 := n11_
        clear n0_ n1_ n2_ n3_ n4_ n5_ n6_ n7_ n8_ n9_ n10_ n11_ hb hbox hg
        refine hK.out _ _ ⟨(zW BK234.out 0).trans rfl,(zW BK234.out 1).trans rfl,(zW BK234.out 2).trans rfl,(zW BK234.out 3).trans rfl,(zW BK234.out 4).trans rfl,(zW BK235.out 0).trans rfl,(zW BK235.out 1).trans rfl,(zW BK235.out 2).trans rfl⟩ (fun hHeld => ?_)
        clear hK K
        refine norm_ (a' := ?_) ?_ ?_
        rotate_left
        ·
         show Act.put _ (some 6) _ = _
         simp only [Act.put,List.setIfInBounds_toArray,List.set_cons_zero,List.set_cons_succ,i64_w,i32_w]; rfl
        refine one_ (i := 3) (N := some 30) #[true,true,true,true,false,false,false,false,true,false,false] rfl rfl (one_of HT_.out (by kernel_rfl)) (by decide) (fun K hK => ?_)
        refine goes_ Try.func25 (by kernel_rfl) rfl #[.agg #[.int .i64 a1_0,.int .i64 a1_1,.string a1_2]] (by rfl) rfl rfl (by (try simp only [List.map_toArray,List.map_cons,List.map_nil]); first | done|rfl|(simp only [List.length_drop,List.length_take]; rfl)) ?_
        with_reducible refine (laws_toParcel.calls a1_0 a1_1 a1_2 t247 t248 t249 _ A20.out).mono ?_
        rintro e w36 ⟨rfl,hb⟩
        refine ⟨_,rfl,?_⟩
        have n0_ := zA (zD (rrA19 HO242.out) hb)
        have n1_ := zA (zD (rrA19 HO246.out) hb)
        have n2_ := zA (zV (g := gb234) (o := .cells #[.int .i64 a0_0,.int .i64 a0_1,.slice A0_2 l0_2.length c0_2,.int .i64 a0_3,.slice A0_4 l0_4.length c0_4] 24 (0,0)) (rrB19 BK234.out) hb)
        have n3_ := zA (zV (g := gb235) (o := .cells #[.int .i64 a1_0,.int .i64 a1_1,.string a1_2] 41 (0,0)) (rrB19 BK235.out) hb)
        have n4_ := zA (zV (g := gb260) (o := .cells #[.int .i64 0,.int .i64 0,.slice none 0 0,.int .i64 0,.slice none 0 0] 26 (0,0)) (rrB19 BK260.out) hb)
        have n5_ := zA (zZ (by repeat (first|(with_reducible first|exact HB.out|apply zO|apply zQ|apply zP|refine zN ?_ GE234.out|refine zN ?_ GE235.out|refine zN ?_ GE260.out)|exact HB.out)) hb)
        clear HO242 HO246 BK234 BK235 BK260 HB
        have HO242 := n0_
        have HO246 := n1_
        have BK234 := n2_
        have BK235 := n3_
        have BK260 := n4_
        have HB := n5_
        clear n0_ n1_ n2_ n3_ n4_ n5_
        (try clear hb)
        (try clear hb2)
        (try clear hk)
        (try clear hi)
        obtain ⟨Ao37,co37,eo37⟩ := Kd.R_slice HO242.out
        (first | subst eo37 | (injection eo37 with f1_ f2_ f3_; have f4_ := f1_.symm; have f5_ := f3_.symm; clear f1_ f2_ f3_; subst f4_; subst f5_))
        obtain ⟨Ao38,co38,eo38⟩ := Kd.R_slice HO246.out
        (first | subst eo38 | (injection eo38 with f1_ f2_ f3_; have f4_ := f1_.symm; have f5_ := f3_.symm; clear f1_ f2_ f3_; subst f4_; subst f5_))
        refine hK.out _ _ ⟨(zW BK234.out 0).trans rfl,(zW BK234.out 1).trans rfl,(zW BK234.out 2).trans rfl,(zW BK234.out 3).trans rfl,(zW BK234.out 4).trans rfl,(zW BK235.out 0).trans rfl,(zW BK235.out 1).trans rfl,(zW BK235.out 2).trans rfl⟩ (fun hHeld => ?_)
        clear hK K
        refine norm_ (a' := ?_) ?_ ?_
        rotate_left
        ·
         show Act.put _ (some 30) _ = _
         simp only [Act.put,List.setIfInBounds_toArray,List.set_cons_zero,List.set_cons_succ,i64_w,i32_w]; rfl
        refine one_ (i := 4) (N := some 31) #[true,true,true,true,true,false,false,false,true,false,false] rfl rfl (one_of HT_.out (by kernel_rfl)) (by decide) (fun K hK => ?_)
        refine goes_ Try.func21 (by kernel_rfl) rfl #[.agg #[.int .i64 t238,.int .i64 t239,.slice Ao37 t240.length co37,.int .i64 t243,.slice Ao38 t244.length co38],.agg #[.int .i64 t247,.int .i64 t248,.string t249]] (by rfl) rfl rfl (by (try simp only [List.map_toArray,List.map_cons,List.map_nil]); first | done|rfl|(simp only [List.length_drop,List.length_take]; rfl)) ?_
        with_reducible refine (spec_Receive.calls k t238 t239 _ _ t240 t243 _ _ t244 t247 t248 t249 t250 t251 t252 t255 t256 t259 _ ?side1 ?side2 ?side3 ?side4 A21.out).mono ?_
        (case side1 => repeat (first|exact (zI HO242.out).2.2|(with_reducible refine Kd.C_alloc ?_ _)|(with_reducible refine Kd.C_drewN ?_ _)|(with_reducible refine Kd.C_drew ?_)))
        (case side2 => exact (zI HO242.out).2.1)
        (case side3 => repeat (first|exact (zI HO246.out).2.2|(with_reducible refine Kd.C_alloc ?_ _)|(with_reducible refine Kd.C_drewN ?_ _)|(with_reducible refine Kd.C_drew ?_)))
        (case side4 => exact (zI HO246.out).2.1)
        rintro e w39 ⟨v253,v257,rfl,ho0,ho1,hb⟩
        refine ⟨_,rfl,?_⟩
        have n0_ := zA (zC (zE (zE (zM (rrA19 HO242.out) hb) (zF ho0)) (zF ho1)) (fun _ h_ => h_.1))
        have n1_ := zA (zC (zE (zE (zM (rrA19 HO246.out) hb) (zF ho0)) (zF ho1)) (fun _ h_ => h_.1))
        have n2_ := zA (Kd.R_lower (zG (zG ho0 (Kd.R_lt (rrA19 HO242.out))) (Kd.R_lt (rrA19 HO246.out))) (below_size (by repeat (first|(with_reducible first|exact HB.out|apply zO|apply zQ|apply zP|refine zN ?_ GE234.out|refine zN ?_ GE235.out|refine zN ?_ GE260.out)|exact HB.out))))
        have n3_ := zA (Kd.R_lower (zG (zG ho1 (Kd.R_lt (rrA19 HO242.out))) (Kd.R_lt (rrA19 HO246.out))) (below_size (by repeat (first|(with_reducible first|exact HB.out|apply zO|apply zQ|apply zP|refine zN ?_ GE234.out|refine zN ?_ GE235.out|refine zN ?_ GE260.out)|exact HB.out))))
        have n4_ := zA (zV (g := gb234) (o := .cells #[.int .i64 a0_0,.int .i64 a0_1,.slice A0_2 l0_2.length c0_2,.int .i64 a0_3,.slice A0_4 l0_4.length c0_4] 24 (0,0)) (rrB19 BK234.out) hb)
        have n5_ := zA (zV (g := gb235) (o := .cells #[.int .i64 a1_0,.int .i64 a1_1,.string a1_2] 41 (0,0)) (rrB19 BK235.out) hb)
        have n6_ := zA (zV (g := gb260) (o := .cells #[.int .i64 0,.int .i64 0,.slice none 0 0,.int .i64 0,.slice none 0 0] 26 (0,0)) (rrB19 BK260.out) hb)
        have n7_ := zA (zZ (by repeat (first|(with_reducible first|exact HB.out|apply zO|apply zQ|apply zP|refine zN ?_ GE234.out|refine zN ?_ GE235.out|refine zN ?_ GE260.out)|exact HB.out)) hb)
        clear HO242 HO246 BK234 BK235 BK260 HB
        have HO242 := n0_
        have HO246 := n1_
        have HO254 := n2_
        have HO258 := n3_
        have BK234 := n4_
        have BK235 := n5_
        have BK260 := n6_
        have HB := n7_
        clear n0_ n1_ n2_ n3_ n4_ n5_ n6_ n7_
        (try clear hb)
        (try clear hb2)
        (try clear hk)
        (try clear hi)
        (try clear ho0)
        (try clear ho1)
        refine hK.out _ _ ⟨(zW BK234.out 0).trans rfl,(zW BK234.out 1).trans rfl,(zW BK234.out 2).trans rfl,(zW BK234.out 3).trans rfl,(zW BK234.out 4).trans rfl,(zW BK235.out 0).trans rfl,(zW BK235.out 1).trans rfl,(zW BK235.out 2).trans rfl⟩ (fun hHeld => ?_)
        clear hK K
        refine norm_ (a' := ?_) ?_ ?_
        rotate_left
        ·
         show Act.put _ (some 31) _ = _
         simp only [Act.put,List.setIfInBounds_toArray,List.set_cons_zero,List.set_cons_succ,i64_w,i32_w]; rfl
        refine pure_ (i := 5) (N := some 26) (v := ?_) (a' := ?_) #[true,true,true,true,true,true,false,false,true,false,false] rfl rfl (any_of HT_.out (by kernel_rfl)) (fun _ _ _ h => h) (Or.inl ⟨by rfl,?_⟩) ?_ ?_; rotate_left
        · intro w'; go_simp; with_reducible rfl
        rotate_left
        · simp only [Act.put,List.setIfInBounds_toArray,List.set_cons_zero,List.set_cons_succ,i64_w,i32_w]; rfl
        refine pure_ (i := 6) (N := some 32) (v := ?_) (a' := ?_) #[true,true,true,true,true,true,true,false,true,false,false] rfl rfl (any_of HT_.out (by kernel_rfl)) (fun _ _ _ h => h) (Or.inl ⟨by rfl,?_⟩) ?_ ?_; rotate_left
        · intro w'; go_simp; with_reducible rfl
        rotate_left
        · simp only [Act.put,List.setIfInBounds_toArray,List.set_cons_zero,List.set_cons_succ,i64_w,i32_w]; rfl
        refine pure_ (i := 7) (N := some 33) (v := ?_) (a' := ?_) #[true,true,true,true,true,true,true,true,true,false,false] rfl rfl (any_of HT_.out (by kernel_rfl)) (fun _ _ _ h => h) (Or.inl ⟨by rfl,?_⟩) ?_ ?_; rotate_left
        · intro w'; go_simp; with_reducible rfl
        rotate_left
        · simp only [Act.put,List.setIfInBounds_toArray,List.set_cons_zero,List.set_cons_succ,i64_w,i32_w]; rfl
        exact norm_ (by simp only [putAll,Act.put,List.setIfInBounds_toArray,List.set_cons_zero,List.set_cons_succ]) (hCont (.slice Ao37 t240.length co37,.slice Ao38 t244.length co38,v253,v257,gb260) _ ⟨hHeld,(by (with_reducible repeat (first|apply zJ|apply zK|apply zL)); exact zC HO242.out (fun _ hk => ⟨hk.1.1,⟨hk.1.2,hk.2⟩⟩)),(by (with_reducible repeat (first|apply zJ|apply zK|apply zL)); exact zC HO246.out (fun _ hk => ⟨hk.1.1,⟨hk.1.2,hk.2⟩⟩)),(by (with_reducible repeat (first|apply zJ|apply zK|apply zL)); exact zC HO254.out (fun _ hk => ⟨hk.1.2,⟨hk.2,hk.1.1⟩⟩)),(by (with_reducible repeat (first|apply zJ|apply zK|apply zL)); exact zC HO258.out (fun _ hk => ⟨hk.1.2,⟨hk.2,hk.1.1⟩⟩)),(rrB19 BK234.out),(rrB19 BK235.out),(rrB19 BK260.out),GW260.out,GE260.out,NB234_260.out,NB260_234.out,NB235_260.out,NB260_235.out,(by repeat (first|(with_reducible first|exact HB.out|apply zO|apply zQ|apply zP|refine zN ?_ GE234.out|refine zN ?_ GE235.out|refine zN ?_ GE260.out)|exact HB.out))⟩)
      ·
       skip
       refine box_step ?hg (N := 6) ?hd (cs := #[.int .i64 0,.int .i64 0,.slice none 0 0,.int .i64 0,.slice none 0 0]) (t := 26) ?hr ?_; (case hd => rfl); (case hg => rfl); (case hr => first | (go_simp; done) | (go_simp; rfl))
       intro gb260 hg w34 hbox hb
       have n0_ := zA (zV (g := gb234) (o := .cells #[.int .i64 a0_0,.int .i64 a0_1,.slice A0_2 l0_2.length c0_2,.int .i64 a0_3,.slice A0_4 l0_4.length c0_4] 24 (0,0)) (rrB19 BK234.out) hb)
       have n1_ := zA (zV (g := gb235) (o := .cells #[.int .i64 a1_0,.int .i64 a1_1,.string a1_2] 41 (0,0)) (rrB19 BK235.out) hb)
       have n2_ := zA (zZ (by repeat (first|(with_reducible first|exact HB.out|apply zO|apply zQ|apply zP|refine zN ?_ GE234.out|refine zN ?_ GE235.out)|exact HB.out)) hb)
       have n3_ := zA (hbox)
       have n4_ := zA ((by rw [hg]; exact (below_size (by repeat (first|(with_reducible first|exact HB.out|apply zO|apply zQ|apply zP|refine zN ?_ GE234.out|refine zN ?_ GE235.out)|exact HB.out))) : w.heap.size ≤ gb260))
       have n5_ := zA ((by rw [hg]; exact (below_size (by repeat (first|(with_reducible first|exact HB.out|apply zO|apply zQ|apply zP|refine zN ?_ GE234.out|refine zN ?_ GE235.out)|exact HB.out))) : w.heap.size ≤ gb260))
       have n6_ := zA ((by rw [hg]; exact Nat.ne_of_lt (blk_lt (g := gb234) (o := .cells #[.int .i64 a0_0,.int .i64 a0_1,.slice A0_2 l0_2.length c0_2,.int .i64 a0_3,.slice A0_4 l0_4.length c0_4] 24 (0,0)) (rrB19 BK234.out)) : gb234 ≠ gb260))
       have n7_ := zA ((by rw [hg]; exact Nat.ne_of_gt (blk_lt (g := gb234) (o := .cells #[.int .i64 a0_0,.int .i64 a0_1,.slice A0_2 l0_2.length c0_2,.int .i64 a0_3,.slice A0_4 l0_4.length c0_4] 24 (0,0)) (rrB19 BK234.out)) : gb260 ≠ gb234))
       have n8_ := zA ((by rw [hg]; exact Nat.ne_of_lt (blk_lt (g := gb235) (o := .cells #[.int .i64 a1_0,.int .i64 a1_1,.string a1_2] 41 (0,0)) (rrB19 BK235.out)) : gb235 ≠ gb260))
       have n9_ := zA ((by rw [hg]; exact Nat.ne_of_gt (blk_lt (g := gb235) (o := .cells #[.int .i64 a1_0,.int .i64 a1_1,.string a1_2] 41 (0,0)) (rrB19 BK235.out)) : gb260 ≠ gb235))
       clear BK234 BK235 HB
       have BK234 := n0_
       have BK235 := n1_
       have HB := n2_
       have BK260 := n3_
       have GW260 := n4_
       have GE260 := n5_
       have NB234_260 := n6_
       have NB260_234 := n7_
       have NB235_260 := n8_
       have NB260_235 := n9_
       clear n0_ n1_ n2_ n3_ n4_ n5_ n6_ n7_ n8_ n9_ hb hbox hg
       refine hK.out _ _ ⟨(zW BK234.out 0).trans rfl,(zW BK234.out 1).trans rfl,(zW BK234.out 2).trans rfl,(zW BK234.out 3).trans rfl,(zW BK234.out 4).trans rfl,(zW BK235.out 0).trans rfl,(zW BK235.out 1).trans rfl,(zW BK235.out 2).trans rfl⟩ (fun hHeld => ?_)
       clear hK K
       refine norm_ (a' := ?_) ?_ ?_
       rotate_left
       ·
        show Act.put _ (some 6) _ = _
        simp only [Act.put,List.setIfInBounds_toArray,List.set_cons_zero,List.set_cons_succ,i64_w,i32_w]; rfl
       refine one_ (i := 1) (N := some 28) #[true,true,true,false,false,false,false,false,true,false,false] rfl rfl (one_of HT_.out (by kernel_rfl)) (by decide) (fun K hK => ?_)
       refine goes_ Try.func13 (by kernel_rfl) rfl #[.agg #[.int .i64 a0_0,.int .i64 a0_1,.slice A0_2 l0_2.length c0_2,.int .i64 a0_3,.slice A0_4 l0_4.length c0_4]] (by rfl) rfl rfl (by (try simp only [List.map_toArray,List.map_cons,List.map_nil]); first | done|rfl|(simp only [List.length_drop,List.length_take]; rfl)) ?_
       with_reducible refine (laws_toEnd.calls k a0_0 a0_1 _ _ l0_2 a0_3 _ _ l0_4 t238 t239 t240 t243 t244 _ ?side1 ?side2 ?side3 ?side4 A19.out).mono ?_
       (case side1 => repeat (first|exact (Kd.C_below HR0_2.out HB.out)|(with_reducible refine Kd.C_alloc ?_ _)|(with_reducible refine Kd.C_drewN ?_ _)|(with_reducible refine Kd.C_drew ?_)))
       (case side2 => exact HC0_2.out)
       (case side3 => repeat (first|exact (Kd.C_below HR0_4.out HB.out)|(with_reducible refine Kd.C_alloc ?_ _)|(with_reducible refine Kd.C_drewN ?_ _)|(with_reducible refine Kd.C_drew ?_)))
       (case side4 => exact HC0_4.out)
       rintro e w35 ⟨v241,v245,rfl,ho0,ho1,hb⟩
       refine ⟨_,rfl,?_⟩
       have n0_ := zA (Kd.R_lower ho0 (below_size (by repeat (first|(with_reducible first|exact HB.out|apply zO|apply zQ|apply zP|refine zN ?_ GE234.out|refine zN ?_ GE235.out|refine zN ?_ GE260.out)|exact HB.out))))
       have n1_ := zA (Kd.R_lower ho1 (below_size (by repeat (first|(with_reducible first|exact HB.out|apply zO|apply zQ|apply zP|refine zN ?_ GE234.out|refine zN ?_ GE235.out|refine zN ?_ GE260.out)|exact HB.out))))
       have n2_ := zA (zV (g := gb234) (o := .cells #[.int .i64 a0_0,.int .i64 a0_1,.slice A0_2 l0_2.length c0_2,.int .i64 a0_3,.slice A0_4 l0_4.length c0_4] 24 (0,0)) (rrB19 BK234.out) hb)
       have n3_ := zA (zV (g := gb235) (o := .cells #[.int .i64 a1_0,.int .i64 a1_1,.string a1_2] 41 (0,0)) (rrB19 BK235.out) hb)
       have n4_ := zA (zV (g := gb260) (o := .cells #[.int .i64 0,.int .i64 0,.slice none 0 0,.int .i64 0,.slice none 0 0] 26 (0,0)) (rrB19 BK260.out) hb)
       have n5_ := zA (zZ (by repeat (first|(with_reducible first|exact HB.out|apply zO|apply zQ|apply zP|refine zN ?_ GE234.out|refine zN ?_ GE235.out|refine zN ?_ GE260.out)|exact HB.out)) hb)
       clear BK234 BK235 BK260 HB
       have HO242 := n0_
       have HO246 := n1_
       have BK234 := n2_
       have BK235 := n3_
       have BK260 := n4_
       have HB := n5_
       clear n0_ n1_ n2_ n3_ n4_ n5_
       (try clear hb)
       (try clear hb2)
       (try clear hk)
       (try clear hi)
       (try clear ho0)
       (try clear ho1)
       refine hK.out _ _ ⟨(zW BK234.out 0).trans rfl,(zW BK234.out 1).trans rfl,(zW BK234.out 2).trans rfl,(zW BK234.out 3).trans rfl,(zW BK234.out 4).trans rfl,(zW BK235.out 0).trans rfl,(zW BK235.out 1).trans rfl,(zW BK235.out 2).trans rfl⟩ (fun hHeld => ?_)
       clear hK K
       refine norm_ (a' := ?_) ?_ ?_
       rotate_left
       ·
        show Act.put _ (some 28) _ = _
        simp only [Act.put,List.setIfInBounds_toArray,List.set_cons_zero,List.set_cons_succ,i64_w,i32_w]; rfl
       refine one_ (i := 3) (N := some 30) #[true,true,true,true,false,false,false,false,true,false,false] rfl rfl (one_of HT_.out (by kernel_rfl)) (by decide) (fun K hK => ?_)
       refine goes_ Try.func25 (by kernel_rfl) rfl #[.agg #[.int .i64 a1_0,.int .i64 a1_1,.string a1_2]] (by rfl) rfl rfl (by (try simp only [List.map_toArray,List.map_cons,List.map_nil]); first | done|rfl|(simp only [List.length_drop,List.length_take]; rfl)) ?_
       with_reducible refine (laws_toParcel.calls a1_0 a1_1 a1_2 t247 t248 t249 _ A20.out).mono ?_
       rintro e w36 ⟨rfl,hb⟩
       refine ⟨_,rfl,?_⟩
       have n0_ := zA (zD (rrA19 HO242.out) hb)
       have n1_ := zA (zD (rrA19 HO246.out) hb)
       have n2_ := zA (zV (g := gb234) (o := .cells #[.int .i64 a0_0,.int .i64 a0_1,.slice A0_2 l0_2.length c0_2,.int .i64 a0_3,.slice A0_4 l0_4.length c0_4] 24 (0,0)) (rrB19 BK234.out) hb)
       have n3_ := zA (zV (g := gb235) (o := .cells #[.int .i64 a1_0,.int .i64 a1_1,.string a1_2] 41 (0,0)) (rrB19 BK235.out) hb)
       have n4_ := zA (zV (g := gb260) (o := .cells #[.int .i64 0,.int .i64 0,.slice none 0 0,.int .i64 0,.slice none 0 0] 26 (0,0)) (rrB19 BK260.out) hb)
       have n5_ := zA (zZ (by repeat (first|(with_reducible first|exact HB.out|apply zO|apply zQ|apply zP|refine zN ?_ GE234.out|refine zN ?_ GE235.out|refine zN ?_ GE260.out)|exact HB.out)) hb)
       clear HO242 HO246 BK234 BK235 BK260 HB
       have HO242 := n0_
       have HO246 := n1_
       have BK234 := n2_
       have BK235 := n3_
       have BK260 := n4_
       have HB := n5_
       clear n0_ n1_ n2_ n3_ n4_ n5_
       (try clear hb)
       (try clear hb2)
       (try clear hk)
       (try clear hi)
       obtain ⟨Ao37,co37,eo37⟩ := Kd.R_slice HO242.out
       (first | subst eo37 | (injection eo37 with f1_ f2_ f3_; have f4_ := f1_.symm; have f5_ := f3_.symm; clear f1_ f2_ f3_; subst f4_; subst f5_))
       obtain ⟨Ao38,co38,eo38⟩ := Kd.R_slice HO246.out
       (first | subst eo38 | (injection eo38 with f1_ f2_ f3_; have f4_ := f1_.symm; have f5_ := f3_.symm; clear f1_ f2_ f3_; subst f4_; subst f5_))
       refine hK.out _ _ ⟨(zW BK234.out 0).trans rfl,(zW BK234.out 1).trans rfl,(zW BK234.out 2).trans rfl,(zW BK234.out 3).trans rfl,(zW BK234.out 4).trans rfl,(zW BK235.out 0).trans rfl,(zW BK235.out 1).trans rfl,(zW BK235.out 2).trans rfl⟩ (fun hHeld => ?_)
       clear hK K
       refine norm_ (a' := ?_) ?_ ?_
       rotate_left
       ·
        show Act.put _ (some 30) _ = _
        simp only [Act.put,List.setIfInBounds_toArray,List.set_cons_zero,List.set_cons_succ,i64_w,i32_w]; rfl
       refine one_ (i := 4) (N := some 31) #[true,true,true,true,true,false,false,false,true,false,false] rfl rfl (one_of HT_.out (by kernel_rfl)) (by decide) (fun K hK => ?_)
       refine goes_ Try.func21 (by kernel_rfl) rfl #[.agg #[.int .i64 t238,.int .i64 t239,.slice Ao37 t240.length co37,.int .i64 t243,.slice Ao38 t244.length co38],.agg #[.int .i64 t247,.int .i64 t248,.string t249]] (by rfl) rfl rfl (by (try simp only [List.map_toArray,List.map_cons,List.map_nil]); first | done|rfl|(simp only [List.length_drop,List.length_take]; rfl)) ?_
       with_reducible refine (spec_Receive.calls k t238 t239 _ _ t240 t243 _ _ t244 t247 t248 t249 t250 t251 t252 t255 t256 t259 _ ?side1 ?side2 ?side3 ?side4 A21.out).mono ?_
       (case side1 => repeat (first|exact (zI HO242.out).2.2|(with_reducible refine Kd.C_alloc ?_ _)|(with_reducible refine Kd.C_drewN ?_ _)|(with_reducible refine Kd.C_drew ?_)))
       (case side2 => exact (zI HO242.out).2.1)
       (case side3 => repeat (first|exact (zI HO246.out).2.2|(with_reducible refine Kd.C_alloc ?_ _)|(with_reducible refine Kd.C_drewN ?_ _)|(with_reducible refine Kd.C_drew ?_)))
       (case side4 => exact (zI HO246.out).2.1)
       rintro e w39 ⟨v253,v257,rfl,ho0,ho1,hb⟩
       refine ⟨_,rfl,?_⟩
       have n0_ := zA (zC (zE (zE (zM (rrA19 HO242.out) hb) (zF ho0)) (zF ho1)) (fun _ h_ => h_.1))
       have n1_ := zA (zC (zE (zE (zM (rrA19 HO246.out) hb) (zF ho0)) (zF ho1)) (fun _ h_ => h_.1))
       have n2_ := zA (Kd.R_lower (zG (zG ho0 (Kd.R_lt (rrA19 HO242.out))) (Kd.R_lt (rrA19 HO246.out))) (below_size (by repeat (first|(with_reducible first|exact HB.out|apply zO|apply zQ|apply zP|refine zN ?_ GE234.out|refine zN ?_ GE235.out|refine zN ?_ GE260.out)|exact HB.out))))
       have n3_ := zA (Kd.R_lower (zG (zG ho1 (Kd.R_lt (rrA19 HO242.out))) (Kd.R_lt (rrA19 HO246.out))) (below_size (by repeat (first|(with_reducible first|exact HB.out|apply zO|apply zQ|apply zP|refine zN ?_ GE234.out|refine zN ?_ GE235.out|refine zN ?_ GE260.out)|exact HB.out))))
       have n4_ := zA (zV (g := gb234) (o := .cells #[.int .i64 a0_0,.int .i64 a0_1,.slice A0_2 l0_2.length c0_2,.int .i64 a0_3,.slice A0_4 l0_4.length c0_4] 24 (0,0)) (rrB19 BK234.out) hb)
       have n5_ := zA (zV (g := gb235) (o := .cells #[.int .i64 a1_0,.int .i64 a1_1,.string a1_2] 41 (0,0)) (rrB19 BK235.out) hb)
       have n6_ := zA (zV (g := gb260) (o := .cells #[.int .i64 0,.int .i64 0,.slice none 0 0,.int .i64 0,.slice none 0 0] 26 (0,0)) (rrB19 BK260.out) hb)
       have n7_ := zA (zZ (by repeat (first|(with_reducible first|exact HB.out|apply zO|apply zQ|apply zP|refine zN ?_ GE234.out|refine zN ?_ GE235.out|refine zN ?_ GE260.out)|exact HB.out)) hb)
       clear HO242 HO246 BK234 BK235 BK260 HB
       have HO242 := n0_
       have HO246 := n1_
       have HO254 := n2_
       have HO258 := n3_
       have BK234 := n4_
       have BK235 := n5_
       have BK260 := n6_
       have HB := n7_
       clear n0_ n1_ n2_ n3_ n4_ n5_ n6_ n7_
       (try clear hb)
       (try clear hb2)
       (try clear hk)
       (try clear hi)
       (try clear ho0)
       (try clear ho1)
       refine hK.out _ _ ⟨(zW BK234.out 0).trans rfl,(zW BK234.out 1).trans rfl,(zW BK234.out 2).trans rfl,(zW BK234.out 3).trans rfl,(zW BK234.out 4).trans rfl,(zW BK235.out 0).trans rfl,(zW BK235.out 1).trans rfl,(zW BK235.out 2).trans rfl⟩ (fun hHeld => ?_)
       clear hK K
       refine norm_ (a' := ?_) ?_ ?_
       rotate_left
       ·
        show Act.put _ (some 31) _ = _
        simp only [Act.put,List.setIfInBounds_toArray,List.set_cons_zero,List.set_cons_succ,i64_w,i32_w]; rfl
       refine pure_ (i := 5) (N := some 26) (v := ?_) (a' := ?_) #[true,true,true,true,true,true,false,false,true,false,false] rfl rfl (any_of HT_.out (by kernel_rfl)) (fun _ _ _ h => h) (Or.inl ⟨by rfl,?_⟩) ?_ ?_; rotate_left
       · intro w'; go_simp; with_reducible rfl
       rotate_left
       · simp only [Act.put,List.setIfInBounds_toArray,List.set_cons_zero,List.set_cons_succ,i64_w,i32_w]; rfl
       refine pure_ (i := 6) (N := some 32) (v := ?_) (a' := ?_) #[true,true,true,true,true,true,true,false,true,false,false] rfl rfl (any_of HT_.out (by kernel_rfl)) (fun _ _ _ h => h) (Or.inl ⟨by rfl,?_⟩) ?_ ?_; rotate_left
       · intro w'; go_simp; with_reducible rfl
       rotate_left
       · simp only [Act.put,List.setIfInBounds_toArray,List.set_cons_zero,List.set_cons_succ,i64_w,i32_w]; rfl
       refine pure_ (i := 7) (N := some 33) (v := ?_) (a' := ?_) #[true,true,true,true,true,true,true,true,true,false,false] rfl rfl (any_of HT_.out (by kernel_rfl)) (fun _ _ _ h => h) (Or.inl ⟨by rfl,?_⟩) ?_ ?_; rotate_left
       · intro w'; go_simp; with_reducible rfl
       rotate_left
       · simp only [Act.put,List.setIfInBounds_toArray,List.set_cons_zero,List.set_cons_succ,i64_w,i32_w]; rfl
       exact norm_ (by simp only [putAll,Act.put,List.setIfInBounds_toArray,List.set_cons_zero,List.set_cons_succ]) (hCont (.slice Ao37 t240.length co37,.slice Ao38 t244.length co38,v253,v257,gb260) _ ⟨hHeld,(by (with_reducible repeat (first|apply zJ|apply zK|apply zL)); exact zC HO242.out (fun _ hk => ⟨hk.1.1,⟨hk.1.2,hk.2⟩⟩)),(by (with_reducible repeat (first|apply zJ|apply zK|apply zL)); exact zC HO246.out (fun _ hk => ⟨hk.1.1,⟨hk.1.2,hk.2⟩⟩)),(by (with_reducible repeat (first|apply zJ|apply zK|apply zL)); exact zC HO254.out (fun _ hk => ⟨hk.1.2,⟨hk.2,hk.1.1⟩⟩)),(by (with_reducible repeat (first|apply zJ|apply zK|apply zL)); exact zC HO258.out (fun _ hk => ⟨hk.1.2,⟨hk.2,hk.1.1⟩⟩)),(rrB19 BK234.out),(rrB19 BK235.out),(rrB19 BK260.out),GW260.out,GE260.out,NB234_260.out,NB260_234.out,NB235_260.out,NB260_235.out,(by repeat (first|(with_reducible first|exact HB.out|apply zO|apply zQ|apply zP|refine zN ?_ GE234.out|refine zN ?_ GE235.out|refine zN ?_ GE260.out)|exact HB.out))⟩)
     rintro ⟨v241,v245,v253,v257,gb260⟩ w40 ⟨hS_,h0_,h1_,h2_,h3_,h4_,h5_,h6_,h7_,h8_,h9_,h10_,h11_,h12_,h13_⟩
     have n0_ : Aside0 (Kd.R Kd.string 9 w40 w.heap.size (fun k_ => some k_ ≠ (v245 : Value).ownBlock ∧ some k_ ≠ (v253 : Value).ownBlock ∧ some k_ ≠ (v257 : Value).ownBlock) v241 t240) := ⟨h0_⟩
     have n1_ : Aside0 (Kd.R Kd.string 9 w40 w.heap.size (fun k_ => some k_ ≠ (v241 : Value).ownBlock ∧ some k_ ≠ (v253 : Value).ownBlock ∧ some k_ ≠ (v257 : Value).ownBlock) v245 t244) := ⟨h1_⟩
     have n2_ : Aside0 (Kd.R Kd.string 9 w40 w.heap.size (fun k_ => some k_ ≠ (v241 : Value).ownBlock ∧ some k_ ≠ (v245 : Value).ownBlock ∧ some k_ ≠ (v257 : Value).ownBlock) v253 t252) := ⟨h2_⟩
     have n3_ : Aside0 (Kd.R Kd.string 9 w40 w.heap.size (fun k_ => some k_ ≠ (v241 : Value).ownBlock ∧ some k_ ≠ (v245 : Value).ownBlock ∧ some k_ ≠ (v253 : Value).ownBlock) v257 t256) := ⟨h3_⟩
     have n4_ : Aside0 (w40.heap[gb234]? = some (.cells #[.int .i64 a0_0,.int .i64 a0_1,.slice A0_2 l0_2.length c0_2,.int .i64 a0_3,.slice A0_4 l0_4.length c0_4] 24 (0,0))) := ⟨h4_⟩
     have n5_ : Aside0 (w40.heap[gb235]? = some (.cells #[.int .i64 a1_0,.int .i64 a1_1,.string a1_2] 41 (0,0))) := ⟨h5_⟩
     have n6_ : Aside0 (w40.heap[gb260]? = some (.cells #[.int .i64 0,.int .i64 0,.slice none 0 0,.int .i64 0,.slice none 0 0] 26 (0,0))) := ⟨h6_⟩
     have n7_ : Aside0 (w.heap.size ≤ gb260) := ⟨h7_⟩
     have n8_ : Aside0 (w.heap.size ≤ gb260) := ⟨h8_⟩
     have n9_ : Aside0 (gb234 ≠ gb260) := ⟨h9_⟩
     have n10_ : Aside0 (gb260 ≠ gb234) := ⟨h10_⟩
     have n11_ : Aside0 (gb235 ≠ gb260) := ⟨h11_⟩
     have n12_ : Aside0 (gb260 ≠ gb235) := ⟨h12_⟩
     have n13_ : Aside0 (Below w.heap.size w w40) := ⟨h13_⟩
     clear BK234 BK235 HB h0_ h1_ h2_ h3_ h4_ h5_ h6_ h7_ h8_ h9_ h10_ h11_ h12_ h13_
     have HO242 := n0_
     have HO246 := n1_
     have HO254 := n2_
     have HO258 := n3_
     have BK234 := n4_
     have BK235 := n5_
     have BK260 := n6_
     have GW260 := n7_
     have GE260 := n8_
     have NB234_260 := n9_
     have NB260_234 := n10_
     have NB235_260 := n11_
     have NB260_235 := n12_
     have HB := n13_
     clear n0_ n1_ n2_ n3_ n4_ n5_ n6_ n7_ n8_ n9_ n10_ n11_ n12_ n13_
     have hHeld : w40.cell? ⟨gb234,0,none⟩ = some (.int .i64 a0_0) ∧ w40.cell? ⟨gb234,1,none⟩ = some (.int .i64 a0_1) ∧ w40.cell? ⟨gb234,2,none⟩ = some (.slice A0_2 l0_2.length c0_2) ∧ w40.cell? ⟨gb234,3,none⟩ = some (.int .i64 a0_3) ∧ w40.cell? ⟨gb234,4,none⟩ = some (.slice A0_4 l0_4.length c0_4) ∧ w40.cell? ⟨gb235,0,none⟩ = some (.int .i64 a1_0) ∧ w40.cell? ⟨gb235,1,none⟩ = some (.int .i64 a1_1) ∧ w40.cell? ⟨gb235,2,none⟩ = some (.string a1_2) := hS_
     obtain ⟨Ao43,co43,eo43⟩ := Kd.R_slice HO254.out
     (first | subst eo43 | (injection eo43 with f1_ f2_ f3_; have f4_ := f1_.symm; have f5_ := f3_.symm; clear f1_ f2_ f3_; subst f4_; subst f5_))
     obtain ⟨Ao46,co46,eo46⟩ := Kd.R_slice HO258.out
     (first | subst eo46 | (injection eo46 with f1_ f2_ f3_; have f4_ := f1_.symm; have f5_ := f3_.symm; clear f1_ f2_ f3_; subst f4_; subst f5_))
     refine norm_ (a' := ?_) ?_ ?_
     rotate_left
     · simp only [putAll,Act.put,List.setIfInBounds_toArray,List.set_cons_zero,List.set_cons_succ]; rfl
     refine one_ (i := 9) (N := none) #[true,true,true,true,true,true,true,true,true,true,false] rfl rfl (one_of HT_.out (by kernel_rfl)) (by decide) (fun K hK => ?_)
     have hs41 : w40.cell? ⟨gb260,0,none⟩ = some (.int .i64 0) := (zW BK260.out 0).trans rfl
     have hfs41 := zU BK260.out 0
     have hns41_0 := NB234_260.out
     have hns41_1 := NB235_260.out
     have hms41_0 := NB260_234.out
     have hms41_1 := NB260_235.out
     have hs42 : w40.cell? ⟨gb260,1,none⟩ = some (.int .i64 0) := (zW BK260.out 1).trans rfl
     have hfs42 := zU BK260.out 1
     have hns42_0 := NB234_260.out
     have hns42_1 := NB235_260.out
     have hms42_0 := NB260_234.out
     have hms42_1 := NB260_235.out
     have hs44 : w40.cell? ⟨gb260,2,none⟩ = some (.slice none 0 0) := (zW BK260.out 2).trans rfl
     have hfs44 := zU BK260.out 2
     have hns44_0 := NB234_260.out
     have hns44_1 := NB235_260.out
     have hms44_0 := NB260_234.out
     have hms44_1 := NB260_235.out
     have hs45 : w40.cell? ⟨gb260,3,none⟩ = some (.int .i64 0) := (zW BK260.out 3).trans rfl
     have hfs45 := zU BK260.out 3
     have hns45_0 := NB234_260.out
     have hns45_1 := NB235_260.out
     have hms45_0 := NB260_234.out
     have hms45_1 := NB260_235.out
     have hs47 : w40.cell? ⟨gb260,4,none⟩ = some (.slice none 0 0) := (zW BK260.out 4).trans rfl
     have hfs47 := zU BK260.out 4
     have hns47_0 := NB234_260.out
     have hns47_1 := NB235_260.out
     have hms47_0 := NB260_234.out
     have hms47_1 := NB260_235.out
     refine skip_ (w1 := ?_) (by rfl) rfl ?_ ?_
     rotate_left
     · go_simp; rfl
     refine hK.out _ _ ⟨((cell_far (p := ⟨gb260,_,none⟩) NB234_260.out _).trans (((cell_far (p := ⟨gb260,_,none⟩) NB234_260.out _).trans (((cell_far (p := ⟨gb260,_,none⟩) NB234_260.out _).trans (((cell_far (p := ⟨gb260,_,none⟩) NB234_260.out _).trans (((cell_far (p := ⟨gb260,_,none⟩) NB234_260.out _).trans (hHeld.1)))))))))),((cell_far (p := ⟨gb260,_,none⟩) NB234_260.out _).trans (((cell_far (p := ⟨gb260,_,none⟩) NB234_260.out _).trans (((cell_far (p := ⟨gb260,_,none⟩) NB234_260.out _).trans (((cell_far (p := ⟨gb260,_,none⟩) NB234_260.out _).trans (((cell_far (p := ⟨gb260,_,none⟩) NB234_260.out _).trans (hHeld.2.1)))))))))),((cell_far (p := ⟨gb260,_,none⟩) NB234_260.out _).trans (((cell_far (p := ⟨gb260,_,none⟩) NB234_260.out _).trans (((cell_far (p := ⟨gb260,_,none⟩) NB234_260.out _).trans (((cell_far (p := ⟨gb260,_,none⟩) NB234_260.out _).trans (((cell_far (p := ⟨gb260,_,none⟩) NB234_260.out _).trans (hHeld.2.2.1)))))))))),((cell_far (p := ⟨gb260,_,none⟩) NB234_260.out _).trans (((cell_far (p := ⟨gb260,_,none⟩) NB234_260.out _).trans (((cell_far (p := ⟨gb260,_,none⟩) NB234_260.out _).trans (((cell_far (p := ⟨gb260,_,none⟩) NB234_260.out _).trans (((cell_far (p := ⟨gb260,_,none⟩) NB234_260.out _).trans (hHeld.2.2.2.1)))))))))),((cell_far (p := ⟨gb260,_,none⟩) NB234_260.out _).trans (((cell_far (p := ⟨gb260,_,none⟩) NB234_260.out _).trans (((cell_far (p := ⟨gb260,_,none⟩) NB234_260.out _).trans (((cell_far (p := ⟨gb260,_,none⟩) NB234_260.out _).trans (((cell_far (p := ⟨gb260,_,none⟩) NB234_260.out _).trans (hHeld.2.2.2.2.1)))))))))),((cell_far (p := ⟨gb260,_,none⟩) NB235_260.out _).trans (((cell_far (p := ⟨gb260,_,none⟩) NB235_260.out _).trans (((cell_far (p := ⟨gb260,_,none⟩) NB235_260.out _).trans (((cell_far (p := ⟨gb260,_,none⟩) NB235_260.out _).trans (((cell_far (p := ⟨gb260,_,none⟩) NB235_260.out _).trans (hHeld.2.2.2.2.2.1)))))))))),((cell_far (p := ⟨gb260,_,none⟩) NB235_260.out _).trans (((cell_far (p := ⟨gb260,_,none⟩) NB235_260.out _).trans (((cell_far (p := ⟨gb260,_,none⟩) NB235_260.out _).trans (((cell_far (p := ⟨gb260,_,none⟩) NB235_260.out _).trans (((cell_far (p := ⟨gb260,_,none⟩) NB235_260.out _).trans (hHeld.2.2.2.2.2.2.1)))))))))),((cell_far (p := ⟨gb260,_,none⟩) NB235_260.out _).trans (((cell_far (p := ⟨gb260,_,none⟩) NB235_260.out _).trans (((cell_far (p := ⟨gb260,_,none⟩) NB235_260.out _).trans (((cell_far (p := ⟨gb260,_,none⟩) NB235_260.out _).trans (((cell_far (p := ⟨gb260,_,none⟩) NB235_260.out _).trans (hHeld.2.2.2.2.2.2.2))))))))))⟩ (fun hHeld => ?_)
     clear hK K
     refine pure_ (i := 10) (N := some 7) (v := ?_) (a' := ?_) #[true,true,true,true,true,true,true,true,true,true,true] rfl rfl (any_of HT_.out (by kernel_rfl)) (fun _ _ _ h => h) (Or.inl ⟨by rfl,?_⟩) ?_ ?_; rotate_left
     · intro w'; go_simp; with_reducible rfl
     rotate_left
     · simp only [Act.put,List.setIfInBounds_toArray,List.set_cons_zero,List.set_cons_succ,i64_w,i32_w]; rfl
     refine done_ (done_of HT_.out (by kernel_rfl)) ?_
     have hnb48 := NB234_260.out
     have hnc48 := NB260_234.out
     have hcz49_0 : w40.cell? ⟨gb234,0,none⟩ = some (.int .i64 a0_0) := (zW BK234.out 0).trans rfl
     have hcz49_1 : w40.cell? ⟨gb234,1,none⟩ = some (.int .i64 a0_1) := (zW BK234.out 1).trans rfl
     have hcz49_2 : w40.cell? ⟨gb234,2,none⟩ = some (.slice A0_2 l0_2.length c0_2) := (zW BK234.out 2).trans rfl
     have hcz49_3 : w40.cell? ⟨gb234,3,none⟩ = some (.int .i64 a0_3) := (zW BK234.out 3).trans rfl
     have hcz49_4 : w40.cell? ⟨gb234,4,none⟩ = some (.slice A0_4 l0_4.length c0_4) := (zW BK234.out 4).trans rfl
     have hfz49_0 := zU BK234.out 0
     have hfz49_1 := zU BK234.out 1
     have hfz49_2 := zU BK234.out 2
     have hfz49_3 := zU BK234.out 3
     have hfz49_4 := zU BK234.out 4
     try go_wp2_with (first | ((with_reducible refine gate_callee (f := 13) rfl ?_); refine goesL_ (some 35) rfl rfl Try.func13 (by kernel_rfl) rfl #[.agg #[.int .i64 a0_0,.int .i64 a0_1,.slice A0_2 l0_2.length c0_2,.int .i64 a0_3,.slice A0_4 l0_4.length c0_4]] rfl (by (try simp only [List.map_toArray,List.map_cons,List.map_nil]); first | done|rfl|(simp only [List.length_drop,List.length_take]; rfl)) ?_; (with_reducible refine (laws_toEnd.calls k a0_0 a0_1 _ _ l0_2 a0_3 _ _ l0_4 t261 t262 t263 t266 t267 _ ?side1 ?side2 ?side3 ?side4 A22.out).mono ?_); (case side1 => exact Kd.C_below HR0_2.out (by repeat (first|(with_reducible first|exact HB.out|apply zO|apply zQ|apply zP|refine zN ?_ GE234.out|refine zN ?_ GE235.out|refine zN ?_ GE260.out)|exact HB.out))); (case side2 => exact HC0_2.out); (case side3 => exact Kd.C_below HR0_4.out (by repeat (first|(with_reducible first|exact HB.out|apply zO|apply zQ|apply zP|refine zN ?_ GE234.out|refine zN ?_ GE235.out|refine zN ?_ GE260.out)|exact HB.out))); (case side4 => exact HC0_4.out); rintro e w50 ⟨v264,v268,rfl,ho0,ho1,hb⟩; refine ⟨_,rfl,?_⟩; have n0_ := zA (zC (zE (zE (zM (rrA19 (zC (zB (p := ⟨gb260,4,none⟩) (zB (p := ⟨gb260,3,none⟩) (zB (p := ⟨gb260,2,none⟩) (zB (p := ⟨gb260,1,none⟩) (zB (p := ⟨gb260,0,none⟩) (zH HO242.out BK260.out (by decide)) (fun _ h=>h.2) (.int .i64 t250)) (fun _ h=>h.2) (.int .i64 t251)) (fun _ h=>h.2) (.slice Ao43 t252.length co43)) (fun _ h=>h.2) (.int .i64 t255)) (fun _ h=>h.2) (.slice Ao46 t256.length co46)) (fun _ h_ => h_.1))) hb) (zF ho0)) (zF ho1)) (fun _ h_ => h_.1)); have n1_ := zA (zC (zE (zE (zM (rrA19 (zC (zB (p := ⟨gb260,4,none⟩) (zB (p := ⟨gb260,3,none⟩) (zB (p := ⟨gb260,2,none⟩) (zB (p := ⟨gb260,1,none⟩) (zB (p := ⟨gb260,0,none⟩) (zH HO246.out BK260.out (by decide)) (fun _ h=>h.2) (.int .i64 t250)) (fun _ h=>h.2) (.int .i64 t251)) (fun _ h=>h.2) (.slice Ao43 t252.length co43)) (fun _ h=>h.2) (.int .i64 t255)) (fun _ h=>h.2) (.slice Ao46 t256.length co46)) (fun _ h_ => h_.1))) hb) (zF ho0)) (zF ho1)) (fun _ h_ => h_.1)); have n2_ := zA (zC (zE (zE (zM (rrA19 (zC (zB (p := ⟨gb260,4,none⟩) (zB (p := ⟨gb260,3,none⟩) (zB (p := ⟨gb260,2,none⟩) (zB (p := ⟨gb260,1,none⟩) (zB (p := ⟨gb260,0,none⟩) (zH HO254.out BK260.out (by decide)) (fun _ h=>h.2) (.int .i64 t250)) (fun _ h=>h.2) (.int .i64 t251)) (fun _ h=>h.2) (.slice Ao43 t252.length co43)) (fun _ h=>h.2) (.int .i64 t255)) (fun _ h=>h.2) (.slice Ao46 t256.length co46)) (fun _ h_ => h_.1))) hb) (zF ho0)) (zF ho1)) (fun _ h_ => h_.1)); have n3_ := zA (zC (zE (zE (zM (rrA19 (zC (zB (p := ⟨gb260,4,none⟩) (zB (p := ⟨gb260,3,none⟩) (zB (p := ⟨gb260,2,none⟩) (zB (p := ⟨gb260,1,none⟩) (zB (p := ⟨gb260,0,none⟩) (zH HO258.out BK260.out (by decide)) (fun _ h=>h.2) (.int .i64 t250)) (fun _ h=>h.2) (.int .i64 t251)) (fun _ h=>h.2) (.slice Ao43 t252.length co43)) (fun _ h=>h.2) (.int .i64 t255)) (fun _ h=>h.2) (.slice Ao46 t256.length co46)) (fun _ h_ => h_.1))) hb) (zF ho0)) (zF ho1)) (fun _ h_ => h_.1)); have n4_ := zA (Kd.R_lower (zG (zG (zG (zG ho0 (Kd.R_lt (rrA19 (zC (zB (p := ⟨gb260,4,none⟩) (zB (p := ⟨gb260,3,none⟩) (zB (p := ⟨gb260,2,none⟩) (zB (p := ⟨gb260,1,none⟩) (zB (p := ⟨gb260,0,none⟩) (zH HO242.out BK260.out (by decide)) (fun _ h=>h.2) (.int .i64 t250)) (fun _ h=>h.2) (.int .i64 t251)) (fun _ h=>h.2) (.slice Ao43 t252.length co43)) (fun _ h=>h.2) (.int .i64 t255)) (fun _ h=>h.2) (.slice Ao46 t256.length co46)) (fun _ h_ => h_.1))))) (Kd.R_lt (rrA19 (zC (zB (p := ⟨gb260,4,none⟩) (zB (p := ⟨gb260,3,none⟩) (zB (p := ⟨gb260,2,none⟩) (zB (p := ⟨gb260,1,none⟩) (zB (p := ⟨gb260,0,none⟩) (zH HO246.out BK260.out (by decide)) (fun _ h=>h.2) (.int .i64 t250)) (fun _ h=>h.2) (.int .i64 t251)) (fun _ h=>h.2) (.slice Ao43 t252.length co43)) (fun _ h=>h.2) (.int .i64 t255)) (fun _ h=>h.2) (.slice Ao46 t256.length co46)) (fun _ h_ => h_.1))))) (Kd.R_lt (rrA19 (zC (zB (p := ⟨gb260,4,none⟩) (zB (p := ⟨gb260,3,none⟩) (zB (p := ⟨gb260,2,none⟩) (zB (p := ⟨gb260,1,none⟩) (zB (p := ⟨gb260,0,none⟩) (zH HO254.out BK260.out (by decide)) (fun _ h=>h.2) (.int .i64 t250)) (fun _ h=>h.2) (.int .i64 t251)) (fun _ h=>h.2) (.slice Ao43 t252.length co43)) (fun _ h=>h.2) (.int .i64 t255)) (fun _ h=>h.2) (.slice Ao46 t256.length co46)) (fun _ h_ => h_.1))))) (Kd.R_lt (rrA19 (zC (zB (p := ⟨gb260,4,none⟩) (zB (p := ⟨gb260,3,none⟩) (zB (p := ⟨gb260,2,none⟩) (zB (p := ⟨gb260,1,none⟩) (zB (p := ⟨gb260,0,none⟩) (zH HO258.out BK260.out (by decide)) (fun _ h=>h.2) (.int .i64 t250)) (fun _ h=>h.2) (.int .i64 t251)) (fun _ h=>h.2) (.slice Ao43 t252.length co43)) (fun _ h=>h.2) (.int .i64 t255)) (fun _ h=>h.2) (.slice Ao46 t256.length co46)) (fun _ h_ => h_.1))))) (below_size (by repeat (first|(with_reducible first|exact HB.out|apply zO|apply zQ|apply zP|refine zN ?_ GE234.out|refine zN ?_ GE235.out|refine zN ?_ GE260.out)|exact HB.out)))); have n5_ := zA (Kd.R_lower (zG (zG (zG (zG ho1 (Kd.R_lt (rrA19 (zC (zB (p := ⟨gb260,4,none⟩) (zB (p := ⟨gb260,3,none⟩) (zB (p := ⟨gb260,2,none⟩) (zB (p := ⟨gb260,1,none⟩) (zB (p := ⟨gb260,0,none⟩) (zH HO242.out BK260.out (by decide)) (fun _ h=>h.2) (.int .i64 t250)) (fun _ h=>h.2) (.int .i64 t251)) (fun _ h=>h.2) (.slice Ao43 t252.length co43)) (fun _ h=>h.2) (.int .i64 t255)) (fun _ h=>h.2) (.slice Ao46 t256.length co46)) (fun _ h_ => h_.1))))) (Kd.R_lt (rrA19 (zC (zB (p := ⟨gb260,4,none⟩) (zB (p := ⟨gb260,3,none⟩) (zB (p := ⟨gb260,2,none⟩) (zB (p := ⟨gb260,1,none⟩) (zB (p := ⟨gb260,0,none⟩) (zH HO246.out BK260.out (by decide)) (fun _ h=>h.2) (.int .i64 t250)) (fun _ h=>h.2) (.int .i64 t251)) (fun _ h=>h.2) (.slice Ao43 t252.length co43)) (fun _ h=>h.2) (.int .i64 t255)) (fun _ h=>h.2) (.slice Ao46 t256.length co46)) (fun _ h_ => h_.1))))) (Kd.R_lt (rrA19 (zC (zB (p := ⟨gb260,4,none⟩) (zB (p := ⟨gb260,3,none⟩) (zB (p := ⟨gb260,2,none⟩) (zB (p := ⟨gb260,1,none⟩) (zB (p := ⟨gb260,0,none⟩) (zH HO254.out BK260.out (by decide)) (fun _ h=>h.2) (.int .i64 t250)) (fun _ h=>h.2) (.int .i64 t251)) (fun _ h=>h.2) (.slice Ao43 t252.length co43)) (fun _ h=>h.2) (.int .i64 t255)) (fun _ h=>h.2) (.slice Ao46 t256.length co46)) (fun _ h_ => h_.1))))) (Kd.R_lt (rrA19 (zC (zB (p := ⟨gb260,4,none⟩) (zB (p := ⟨gb260,3,none⟩) (zB (p := ⟨gb260,2,none⟩) (zB (p := ⟨gb260,1,none⟩) (zB (p := ⟨gb260,0,none⟩) (zH HO258.out BK260.out (by decide)) (fun _ h=>h.2) (.int .i64 t250)) (fun _ h=>h.2) (.int .i64 t251)) (fun _ h=>h.2) (.slice Ao43 t252.length co43)) (fun _ h=>h.2) (.int .i64 t255)) (fun _ h=>h.2) (.slice Ao46 t256.length co46)) (fun _ h_ => h_.1))))) (below_size (by repeat (first|(with_reducible first|exact HB.out|apply zO|apply zQ|apply zP|refine zN ?_ GE234.out|refine zN ?_ GE235.out|refine zN ?_ GE260.out)|exact HB.out)))); have n6_ := zA (zV (g := gb234) (o := .cells #[.int .i64 a0_0,.int .i64 a0_1,.slice A0_2 l0_2.length c0_2,.int .i64 a0_3,.slice A0_4 l0_4.length c0_4] 24 (0,0)) (by (with_reducible repeat (first|refine zR ?_ _|refine zT ?_|refine zS ?_ _)); refine zX ?_ NB234_260.out _; (with_reducible repeat (first|refine zR ?_ _|refine zT ?_|refine zS ?_ _)); refine zX ?_ NB234_260.out _; (with_reducible repeat (first|refine zR ?_ _|refine zT ?_|refine zS ?_ _)); refine zX ?_ NB234_260.out _; (with_reducible repeat (first|refine zR ?_ _|refine zT ?_|refine zS ?_ _)); refine zX ?_ NB234_260.out _; (with_reducible repeat (first|refine zR ?_ _|refine zT ?_|refine zS ?_ _)); refine zX ?_ NB234_260.out _; (with_reducible repeat (first|refine zR ?_ _|refine zT ?_|refine zS ?_ _)); exact BK234.out) hb); have n7_ := zA (zV (g := gb235) (o := .cells #[.int .i64 a1_0,.int .i64 a1_1,.string a1_2] 41 (0,0)) (by (with_reducible repeat (first|refine zR ?_ _|refine zT ?_|refine zS ?_ _)); refine zX ?_ NB235_260.out _; (with_reducible repeat (first|refine zR ?_ _|refine zT ?_|refine zS ?_ _)); refine zX ?_ NB235_260.out _; (with_reducible repeat (first|refine zR ?_ _|refine zT ?_|refine zS ?_ _)); refine zX ?_ NB235_260.out _; (with_reducible repeat (first|refine zR ?_ _|refine zT ?_|refine zS ?_ _)); refine zX ?_ NB235_260.out _; (with_reducible repeat (first|refine zR ?_ _|refine zT ?_|refine zS ?_ _)); refine zX ?_ NB235_260.out _; (with_reducible repeat (first|refine zR ?_ _|refine zT ?_|refine zS ?_ _)); exact BK235.out) hb); have n8_ := zA (zV (g := gb260) (o := .cells #[.int .i64 t250,.int .i64 t251,.slice Ao43 t252.length co43,.int .i64 t255,.slice Ao46 t256.length co46] 26 (0,0)) (by (with_reducible repeat (first|refine zR ?_ _|refine zT ?_|refine zS ?_ _)); refine blk_put (cs := #[.int .i64 t250,.int .i64 t251,.slice Ao43 t252.length co43,.int .i64 t255,.slice none 0 0]) ?_ 4 _ rfl; (with_reducible repeat (first|refine zR ?_ _|refine zT ?_|refine zS ?_ _)); refine blk_put (cs := #[.int .i64 t250,.int .i64 t251,.slice Ao43 t252.length co43,.int .i64 0,.slice none 0 0]) ?_ 3 _ rfl; (with_reducible repeat (first|refine zR ?_ _|refine zT ?_|refine zS ?_ _)); refine blk_put (cs := #[.int .i64 t250,.int .i64 t251,.slice none 0 0,.int .i64 0,.slice none 0 0]) ?_ 2 _ rfl; (with_reducible repeat (first|refine zR ?_ _|refine zT ?_|refine zS ?_ _)); refine blk_put (cs := #[.int .i64 t250,.int .i64 0,.slice none 0 0,.int .i64 0,.slice none 0 0]) ?_ 1 _ rfl; (with_reducible repeat (first|refine zR ?_ _|refine zT ?_|refine zS ?_ _)); refine blk_put (cs := #[.int .i64 0,.int .i64 0,.slice none 0 0,.int .i64 0,.slice none 0 0]) ?_ 0 _ rfl; (with_reducible repeat (first|refine zR ?_ _|refine zT ?_|refine zS ?_ _)); exact BK260.out) hb); have n9_ := zA (zZ (by repeat (first|(with_reducible first|exact HB.out|apply zO|apply zQ|apply zP|refine zN ?_ GE234.out|refine zN ?_ GE235.out|refine zN ?_ GE260.out)|exact HB.out)) hb); clear HO242 HO246 HO254 HO258 BK234 BK235 BK260 HB; have HO242 := n0_; have HO246 := n1_; have HO254 := n2_; have HO258 := n3_; have HO265 := n4_; have HO269 := n5_; have BK234 := n6_; have BK235 := n7_; have BK260 := n8_; have HB := n9_; clear n0_ n1_ n2_ n3_ n4_ n5_ n6_ n7_ n8_ n9_; (try clear hb); (try clear hb2); (try clear hk); (try clear hi); (try clear ho0); (try clear ho1)) | ((with_reducible refine gate_dst (N := 8) rfl ?_); refine box_event ?hg (N := 8) ?hd (cs := #[.int .i64 0,.int .i64 0,.slice none 0 0,.int .i64 0,.slice none 0 0]) (t := 26) ?hr ?_; (case hd => rfl); (case hg => rfl); (case hr => first | (go_simp; done) | (go_simp; rfl)); intro gb270 hg w51 hbox hb; have n0_ := zA (zD (rrA19 HO242.out) hb); have n1_ := zA (zD (rrA19 HO246.out) hb); have n2_ := zA (zD (rrA19 HO254.out) hb); have n3_ := zA (zD (rrA19 HO258.out) hb); have n4_ := zA (zD (rrA19 HO265.out) hb); have n5_ := zA (zD (rrA19 HO269.out) hb); have n6_ := zA (zV (g := gb234) (o := .cells #[.int .i64 a0_0,.int .i64 a0_1,.slice A0_2 l0_2.length c0_2,.int .i64 a0_3,.slice A0_4 l0_4.length c0_4] 24 (0,0)) (rrB19 BK234.out) hb); have n7_ := zA (zV (g := gb235) (o := .cells #[.int .i64 a1_0,.int .i64 a1_1,.string a1_2] 41 (0,0)) (rrB19 BK235.out) hb); have n8_ := zA (zV (g := gb260) (o := .cells #[.int .i64 t250,.int .i64 t251,.slice Ao43 t252.length co43,.int .i64 t255,.slice Ao46 t256.length co46] 26 (0,0)) (rrB19 BK260.out) hb); have n9_ := zA (zZ (by repeat (first|(with_reducible first|exact HB.out|apply zO|apply zQ|apply zP|refine zN ?_ GE234.out|refine zN ?_ GE235.out|refine zN ?_ GE260.out)|exact HB.out)) hb); have n10_ := zA (hbox); have n11_ := zA ((by rw [hg]; exact (below_size (by repeat (first|(with_reducible first|exact HB.out|apply zO|apply zQ|apply zP|refine zN ?_ GE234.out|refine zN ?_ GE235.out|refine zN ?_ GE260.out)|exact HB.out))) : w.heap.size ≤ gb270)); have n12_ := zA ((by rw [hg]; exact (below_size (by repeat (first|(with_reducible first|exact HB.out|apply zO|apply zQ|apply zP|refine zN ?_ GE234.out|refine zN ?_ GE235.out|refine zN ?_ GE260.out)|exact HB.out))) : w.heap.size ≤ gb270)); have n13_ := zA ((by rw [hg]; exact Nat.ne_of_lt (blk_lt (g := gb234) (o := .cells #[.int .i64 a0_0,.int .i64 a0_1,.slice A0_2 l0_2.length c0_2,.int .i64 a0_3,.slice A0_4 l0_4.length c0_4] 24 (0,0)) (rrB19 BK234.out)) : gb234 ≠ gb270)); have n14_ := zA ((by rw [hg]; exact Nat.ne_of_gt (blk_lt (g := gb234) (o := .cells #[.int .i64 a0_0,.int .i64 a0_1,.slice A0_2 l0_2.length c0_2,.int .i64 a0_3,.slice A0_4 l0_4.length c0_4] 24 (0,0)) (rrB19 BK234.out)) : gb270 ≠ gb234)); have n15_ := zA ((by rw [hg]; exact Nat.ne_of_lt (blk_lt (g := gb235) (o := .cells #[.int .i64 a1_0,.int .i64 a1_1,.string a1_2] 41 (0,0)) (rrB19 BK235.out)) : gb235 ≠ gb270)); have n16_ := zA ((by rw [hg]; exact Nat.ne_of_gt (blk_lt (g := gb235) (o := .cells #[.int .i64 a1_0,.int .i64 a1_1,.string a1_2] 41 (0,0)) (rrB19 BK235.out)) : gb270 ≠ gb235)); have n17_ := zA ((by rw [hg]; exact Nat.ne_of_lt (blk_lt (g := gb260) (o := .cells #[.int .i64 t250,.int .i64 t251,.slice Ao43 t252.length co43,.int .i64 t255,.slice Ao46 t256.length co46] 26 (0,0)) (rrB19 BK260.out)) : gb260 ≠ gb270)); have n18_ := zA ((by rw [hg]; exact Nat.ne_of_gt (blk_lt (g := gb260) (o := .cells #[.int .i64 t250,.int .i64 t251,.slice Ao43 t252.length co43,.int .i64 t255,.slice Ao46 t256.length co46] 26 (0,0)) (rrB19 BK260.out)) : gb270 ≠ gb260)); clear HO242 HO246 HO254 HO258 HO265 HO269 BK234 BK235 BK260 HB; have HO242 := n0_; have HO246 := n1_; have HO254 := n2_; have HO258 := n3_; have HO265 := n4_; have HO269 := n5_; have BK234 := n6_; have BK235 := n7_; have BK260 := n8_; have HB := n9_; have BK270 := n10_; have GW270 := n11_; have GE270 := n12_; have NB234_270 := n13_; have NB270_234 := n14_; have NB235_270 := n15_; have NB270_235 := n16_; have NB260_270 := n17_; have NB270_260 := n18_; clear n0_ n1_ n2_ n3_ n4_ n5_ n6_ n7_ n8_ n9_ n10_ n11_ n12_ n13_ n14_ n15_ n16_ n17_ n18_ hb hbox hg; have hnb52 := NB270_234.out; have hnc52 := NB234_270.out; have hnb53 := NB270_235.out; have hnc53 := NB235_270.out; have hnb54 := NB270_260.out; have hnc54 := NB260_270.out; have hcz55_0 : w51.cell? ⟨gb270,0,none⟩ = some (.int .i64 0) := (zW BK270.out 0).trans rfl; have hcz55_1 : w51.cell? ⟨gb270,1,none⟩ = some (.int .i64 0) := (zW BK270.out 1).trans rfl; have hcz55_2 : w51.cell? ⟨gb270,2,none⟩ = some (.slice none 0 0) := (zW BK270.out 2).trans rfl; have hcz55_3 : w51.cell? ⟨gb270,3,none⟩ = some (.int .i64 0) := (zW BK270.out 3).trans rfl; have hcz55_4 : w51.cell? ⟨gb270,4,none⟩ = some (.slice none 0 0) := (zW BK270.out 4).trans rfl; have hfz55_0 := zU BK270.out 0; have hfz55_1 := zU BK270.out 1; have hfz55_2 := zU BK270.out 2; have hfz55_3 := zU BK270.out 3; have hfz55_4 := zU BK270.out 4; obtain ⟨Ao56,co56,eo56⟩ := Kd.R_slice HO265.out; subst eo56; obtain ⟨Ao57,co57,eo57⟩ := Kd.R_slice HO269.out; subst eo57))
     have n0_ : Aside0 (Kd.R Kd.string 9 (((((w51.setCell ⟨gb270,0,none⟩ (.int .i64 t261)).setCell ⟨gb270,1,none⟩ (.int .i64 t262)).setCell ⟨gb270,2,none⟩ (.slice Ao56 t263.length co56)).setCell ⟨gb270,3,none⟩ (.int .i64 t266)).setCell ⟨gb270,4,none⟩ (.slice Ao57 t267.length co57)) w.heap.size (fun k_ => some k_ ≠ (v245 : Value).ownBlock ∧ some k_ ≠ (.slice Ao43 t252.length co43 : Value).ownBlock ∧ some k_ ≠ (.slice Ao46 t256.length co46 : Value).ownBlock ∧ some k_ ≠ (.slice Ao56 t263.length co56 : Value).ownBlock ∧ some k_ ≠ (.slice Ao57 t267.length co57 : Value).ownBlock) v241 t240) := ⟨by (with_reducible repeat (first|apply zJ|apply zK|apply zL)); exact zC (zB (p := ⟨gb270,4,none⟩) (zB (p := ⟨gb270,3,none⟩) (zB (p := ⟨gb270,2,none⟩) (zB (p := ⟨gb270,1,none⟩) (zB (p := ⟨gb270,0,none⟩) (zH HO242.out BK270.out (by decide)) (fun _ h=>h.2) (.int .i64 t261)) (fun _ h=>h.2) (.int .i64 t262)) (fun _ h=>h.2) (.slice Ao56 t263.length co56)) (fun _ h=>h.2) (.int .i64 t266)) (fun _ h=>h.2) (.slice Ao57 t267.length co57)) (fun _ hk => ⟨hk.1.1.1.1,⟨hk.1.1.1.2.1,⟨hk.1.1.1.2.2,⟨hk.1.1.2,hk.1.2⟩⟩⟩⟩)⟩
     have n1_ : Aside0 (Kd.R Kd.string 9 (((((w51.setCell ⟨gb270,0,none⟩ (.int .i64 t261)).setCell ⟨gb270,1,none⟩ (.int .i64 t262)).setCell ⟨gb270,2,none⟩ (.slice Ao56 t263.length co56)).setCell ⟨gb270,3,none⟩ (.int .i64 t266)).setCell ⟨gb270,4,none⟩ (.slice Ao57 t267.length co57)) w.heap.size (fun k_ => some k_ ≠ (v241 : Value).ownBlock ∧ some k_ ≠ (.slice Ao43 t252.length co43 : Value).ownBlock ∧ some k_ ≠ (.slice Ao46 t256.length co46 : Value).ownBlock ∧ some k_ ≠ (.slice Ao56 t263.length co56 : Value).ownBlock ∧ some k_ ≠ (.slice Ao57 t267.length co57 : Value).ownBlock) v245 t244) := ⟨by (with_reducible repeat (first|apply zJ|apply zK|apply zL)); exact zC (zB (p := ⟨gb270,4,none⟩) (zB (p := ⟨gb270,3,none⟩) (zB (p := ⟨gb270,2,none⟩) (zB (p := ⟨gb270,1,none⟩) (zB (p := ⟨gb270,0,none⟩) (zH HO246.out BK270.out (by decide)) (fun _ h=>h.2) (.int .i64 t261)) (fun _ h=>h.2) (.int .i64 t262)) (fun _ h=>h.2) (.slice Ao56 t263.length co56)) (fun _ h=>h.2) (.int .i64 t266)) (fun _ h=>h.2) (.slice Ao57 t267.length co57)) (fun _ hk => ⟨hk.1.1.1.1,⟨hk.1.1.1.2.1,⟨hk.1.1.1.2.2,⟨hk.1.1.2,hk.1.2⟩⟩⟩⟩)⟩
     have n2_ : Aside0 (Kd.R Kd.string 9 (((((w51.setCell ⟨gb270,0,none⟩ (.int .i64 t261)).setCell ⟨gb270,1,none⟩ (.int .i64 t262)).setCell ⟨gb270,2,none⟩ (.slice Ao56 t263.length co56)).setCell ⟨gb270,3,none⟩ (.int .i64 t266)).setCell ⟨gb270,4,none⟩ (.slice Ao57 t267.length co57)) w.heap.size (fun k_ => some k_ ≠ (v241 : Value).ownBlock ∧ some k_ ≠ (v245 : Value).ownBlock ∧ some k_ ≠ (.slice Ao46 t256.length co46 : Value).ownBlock ∧ some k_ ≠ (.slice Ao56 t263.length co56 : Value).ownBlock ∧ some k_ ≠ (.slice Ao57 t267.length co57 : Value).ownBlock) (.slice Ao43 t252.length co43) t252) := ⟨by (with_reducible repeat (first|apply zJ|apply zK|apply zL)); exact zC (zB (p := ⟨gb270,4,none⟩) (zB (p := ⟨gb270,3,none⟩) (zB (p := ⟨gb270,2,none⟩) (zB (p := ⟨gb270,1,none⟩) (zB (p := ⟨gb270,0,none⟩) (zH HO254.out BK270.out (by decide)) (fun _ h=>h.2) (.int .i64 t261)) (fun _ h=>h.2) (.int .i64 t262)) (fun _ h=>h.2) (.slice Ao56 t263.length co56)) (fun _ h=>h.2) (.int .i64 t266)) (fun _ h=>h.2) (.slice Ao57 t267.length co57)) (fun _ hk => ⟨hk.1.1.1.1,⟨hk.1.1.1.2.1,⟨hk.1.1.1.2.2,⟨hk.1.1.2,hk.1.2⟩⟩⟩⟩)⟩
     have n3_ : Aside0 (Kd.R Kd.string 9 (((((w51.setCell ⟨gb270,0,none⟩ (.int .i64 t261)).setCell ⟨gb270,1,none⟩ (.int .i64 t262)).setCell ⟨gb270,2,none⟩ (.slice Ao56 t263.length co56)).setCell ⟨gb270,3,none⟩ (.int .i64 t266)).setCell ⟨gb270,4,none⟩ (.slice Ao57 t267.length co57)) w.heap.size (fun k_ => some k_ ≠ (v241 : Value).ownBlock ∧ some k_ ≠ (v245 : Value).ownBlock ∧ some k_ ≠ (.slice Ao43 t252.length co43 : Value).ownBlock ∧ some k_ ≠ (.slice Ao56 t263.length co56 : Value).ownBlock ∧ some k_ ≠ (.slice Ao57 t267.length co57 : Value).ownBlock) (.slice Ao46 t256.length co46) t256) := ⟨by (with_reducible repeat (first|apply zJ|apply zK|apply zL)); exact zC (zB (p := ⟨gb270,4,none⟩) (zB (p := ⟨gb270,3,none⟩) (zB (p := ⟨gb270,2,none⟩) (zB (p := ⟨gb270,1,none⟩) (zB (p := ⟨gb270,0,none⟩) (zH HO258.out BK270.out (by decide)) (fun _ h=>h.2) (.int .i64 t261)) (fun _ h=>h.2) (.int .i64 t262)) (fun _ h=>h.2) (.slice Ao56 t263.length co56)) (fun _ h=>h.2) (.int .i64 t266)) (fun _ h=>h.2) (.slice Ao57 t267.length co57)) (fun _ hk => ⟨hk.1.1.1.1,⟨hk.1.1.1.2.1,⟨hk.1.1.1.2.2,⟨hk.1.1.2,hk.1.2⟩⟩⟩⟩)⟩
     have n4_ : Aside0 (Kd.R Kd.string 9 (((((w51.setCell ⟨gb270,0,none⟩ (.int .i64 t261)).setCell ⟨gb270,1,none⟩ (.int .i64 t262)).setCell ⟨gb270,2,none⟩ (.slice Ao56 t263.length co56)).setCell ⟨gb270,3,none⟩ (.int .i64 t266)).setCell ⟨gb270,4,none⟩ (.slice Ao57 t267.length co57)) w.heap.size (fun k_ => some k_ ≠ (v241 : Value).ownBlock ∧ some k_ ≠ (v245 : Value).ownBlock ∧ some k_ ≠ (.slice Ao43 t252.length co43 : Value).ownBlock ∧ some k_ ≠ (.slice Ao46 t256.length co46 : Value).ownBlock ∧ some k_ ≠ (.slice Ao57 t267.length co57 : Value).ownBlock) (.slice Ao56 t263.length co56) t263) := ⟨by (with_reducible repeat (first|apply zJ|apply zK|apply zL)); exact zC (zB (p := ⟨gb270,4,none⟩) (zB (p := ⟨gb270,3,none⟩) (zB (p := ⟨gb270,2,none⟩) (zB (p := ⟨gb270,1,none⟩) (zB (p := ⟨gb270,0,none⟩) (zH HO265.out BK270.out (by decide)) (fun _ h=>h.2) (.int .i64 t261)) (fun _ h=>h.2) (.int .i64 t262)) (fun _ h=>h.2) (.slice Ao56 t263.length co56)) (fun _ h=>h.2) (.int .i64 t266)) (fun _ h=>h.2) (.slice Ao57 t267.length co57)) (fun _ hk => ⟨hk.1.1.1.1.2,⟨hk.1.1.1.2,⟨hk.1.1.2,⟨hk.1.2,hk.1.1.1.1.1⟩⟩⟩⟩)⟩
     have n5_ : Aside0 (Kd.R Kd.string 9 (((((w51.setCell ⟨gb270,0,none⟩ (.int .i64 t261)).setCell ⟨gb270,1,none⟩ (.int .i64 t262)).setCell ⟨gb270,2,none⟩ (.slice Ao56 t263.length co56)).setCell ⟨gb270,3,none⟩ (.int .i64 t266)).setCell ⟨gb270,4,none⟩ (.slice Ao57 t267.length co57)) w.heap.size (fun k_ => some k_ ≠ (v241 : Value).ownBlock ∧ some k_ ≠ (v245 : Value).ownBlock ∧ some k_ ≠ (.slice Ao43 t252.length co43 : Value).ownBlock ∧ some k_ ≠ (.slice Ao46 t256.length co46 : Value).ownBlock ∧ some k_ ≠ (.slice Ao56 t263.length co56 : Value).ownBlock) (.slice Ao57 t267.length co57) t267) := ⟨by (with_reducible repeat (first|apply zJ|apply zK|apply zL)); exact zC (zB (p := ⟨gb270,4,none⟩) (zB (p := ⟨gb270,3,none⟩) (zB (p := ⟨gb270,2,none⟩) (zB (p := ⟨gb270,1,none⟩) (zB (p := ⟨gb270,0,none⟩) (zH HO269.out BK270.out (by decide)) (fun _ h=>h.2) (.int .i64 t261)) (fun _ h=>h.2) (.int .i64 t262)) (fun _ h=>h.2) (.slice Ao56 t263.length co56)) (fun _ h=>h.2) (.int .i64 t266)) (fun _ h=>h.2) (.slice Ao57 t267.length co57)) (fun _ hk => ⟨hk.1.1.1.1.2,⟨hk.1.1.1.2,⟨hk.1.1.2,⟨hk.1.2,hk.1.1.1.1.1⟩⟩⟩⟩)⟩
     have n6_ : Aside0 ((((((w51.setCell ⟨gb270,0,none⟩ (.int .i64 t261)).setCell ⟨gb270,1,none⟩ (.int .i64 t262)).setCell ⟨gb270,2,none⟩ (.slice Ao56 t263.length co56)).setCell ⟨gb270,3,none⟩ (.int .i64 t266)).setCell ⟨gb270,4,none⟩ (.slice Ao57 t267.length co57)).heap[gb234]? = some (.cells #[.int .i64 a0_0,.int .i64 a0_1,.slice A0_2 l0_2.length c0_2,.int .i64 a0_3,.slice A0_4 l0_4.length c0_4] 24 (0,0))) := ⟨by (with_reducible repeat (first|refine zR ?_ _|refine zT ?_|refine zS ?_ _)); refine zX ?_ NB234_270.out _; (with_reducible repeat (first|refine zR ?_ _|refine zT ?_|refine zS ?_ _)); refine zX ?_ NB234_270.out _; (with_reducible repeat (first|refine zR ?_ _|refine zT ?_|refine zS ?_ _)); refine zX ?_ NB234_270.out _; (with_reducible repeat (first|refine zR ?_ _|refine zT ?_|refine zS ?_ _)); refine zX ?_ NB234_270.out _; (with_reducible repeat (first|refine zR ?_ _|refine zT ?_|refine zS ?_ _)); refine zX ?_ NB234_270.out _; (with_reducible repeat (first|refine zR ?_ _|refine zT ?_|refine zS ?_ _)); exact BK234.out⟩
     have n7_ : Aside0 ((((((w51.setCell ⟨gb270,0,none⟩ (.int .i64 t261)).setCell ⟨gb270,1,none⟩ (.int .i64 t262)).setCell ⟨gb270,2,none⟩ (.slice Ao56 t263.length co56)).setCell ⟨gb270,3,none⟩ (.int .i64 t266)).setCell ⟨gb270,4,none⟩ (.slice Ao57 t267.length co57)).heap[gb235]? = some (.cells #[.int .i64 a1_0,.int .i64 a1_1,.string a1_2] 41 (0,0))) := ⟨by (with_reducible repeat (first|refine zR ?_ _|refine zT ?_|refine zS ?_ _)); refine zX ?_ NB235_270.out _; (with_reducible repeat (first|refine zR ?_ _|refine zT ?_|refine zS ?_ _)); refine zX ?_ NB235_270.out _; (with_reducible repeat (first|refine zR ?_ _|refine zT ?_|refine zS ?_ _)); refine zX ?_ NB235_270.out _; (with_reducible repeat (first|refine zR ?_ _|refine zT ?_|refine zS ?_ _)); refine zX ?_ NB235_270.out _; (with_reducible repeat (first|refine zR ?_ _|refine zT ?_|refine zS ?_ _)); refine zX ?_ NB235_270.out _; (with_reducible repeat (first|refine zR ?_ _|refine zT ?_|refine zS ?_ _)); exact BK235.out⟩
     have n8_ : Aside0 ((((((w51.setCell ⟨gb270,0,none⟩ (.int .i64 t261)).setCell ⟨gb270,1,none⟩ (.int .i64 t262)).setCell ⟨gb270,2,none⟩ (.slice Ao56 t263.length co56)).setCell ⟨gb270,3,none⟩ (.int .i64 t266)).setCell ⟨gb270,4,none⟩ (.slice Ao57 t267.length co57)).heap[gb260]? = some (.cells #[.int .i64 t250,.int .i64 t251,.slice Ao43 t252.length co43,.int .i64 t255,.slice Ao46 t256.length co46] 26 (0,0))) := ⟨by (with_reducible repeat (first|refine zR ?_ _|refine zT ?_|refine zS ?_ _)); refine zX ?_ NB260_270.out _; (with_reducible repeat (first|refine zR ?_ _|refine zT ?_|refine zS ?_ _)); refine zX ?_ NB260_270.out _; (with_reducible repeat (first|refine zR ?_ _|refine zT ?_|refine zS ?_ _)); refine zX ?_ NB260_270.out _; (with_reducible repeat (first|refine zR ?_ _|refine zT ?_|refine zS ?_ _)); refine zX ?_ NB260_270.out _; (with_reducible repeat (first|refine zR ?_ _|refine zT ?_|refine zS ?_ _)); refine zX ?_ NB260_270.out _; (with_reducible repeat (first|refine zR ?_ _|refine zT ?_|refine zS ?_ _)); exact BK260.out⟩
     have n9_ : Aside0 ((((((w51.setCell ⟨gb270,0,none⟩ (.int .i64 t261)).setCell ⟨gb270,1,none⟩ (.int .i64 t262)).setCell ⟨gb270,2,none⟩ (.slice Ao56 t263.length co56)).setCell ⟨gb270,3,none⟩ (.int .i64 t266)).setCell ⟨gb270,4,none⟩ (.slice Ao57 t267.length co57)).heap[gb270]? = some (.cells #[.int .i64 t261,.int .i64 t262,.slice Ao56 t263.length co56,.int .i64 t266,.slice Ao57 t267.length co57] 26 (0,0))) := ⟨by (with_reducible repeat (first|refine zR ?_ _|refine zT ?_|refine zS ?_ _)); refine blk_put (cs := #[.int .i64 t261,.int .i64 t262,.slice Ao56 t263.length co56,.int .i64 t266,.slice none 0 0]) ?_ 4 _ rfl; (with_reducible repeat (first|refine zR ?_ _|refine zT ?_|refine zS ?_ _)); refine blk_put (cs := #[.int .i64 t261,.int .i64 t262,.slice Ao56 t263.length co56,.int .i64 0,.slice none 0 0]) ?_ 3 _ rfl; (with_reducible repeat (first|refine zR ?_ _|refine zT ?_|refine zS ?_ _)); refine blk_put (cs := #[.int .i64 t261,.int .i64 t262,.slice none 0 0,.int .i64 0,.slice none 0 0]) ?_ 2 _ rfl; (with_reducible repeat (first|refine zR ?_ _|refine zT ?_|refine zS ?_ _)); refine blk_put (cs := #[.int .i64 t261,.int .i64 0,.slice none 0 0,.int .i64 0,.slice none 0 0]) ?_ 1 _ rfl; (with_reducible repeat (first|refine zR ?_ _|refine zT ?_|refine zS ?_ _)); refine blk_put (cs := #[.int .i64 0,.int .i64 0,.slice none 0 0,.int .i64 0,.slice none 0 0]) ?_ 0 _ rfl; (with_reducible repeat (first|refine zR ?_ _|refine zT ?_|refine zS ?_ _)); exact BK270.out⟩
     have n10_ : Aside0 (Below w.heap.size w (((((w51.setCell ⟨gb270,0,none⟩ (.int .i64 t261)).setCell ⟨gb270,1,none⟩ (.int .i64 t262)).setCell ⟨gb270,2,none⟩ (.slice Ao56 t263.length co56)).setCell ⟨gb270,3,none⟩ (.int .i64 t266)).setCell ⟨gb270,4,none⟩ (.slice Ao57 t267.length co57))) := ⟨by repeat (first|(with_reducible first|exact HB.out|apply zO|apply zQ|apply zP|refine zN ?_ GE234.out|refine zN ?_ GE235.out|refine zN ?_ GE260.out|refine zN ?_ GE270.out)|exact HB.out)⟩
     (try clear HO242)
     (try clear HO246)
     (try clear HO254)
     (try clear HO258)
     (try clear HO265)
     (try clear HO269)
     (try clear BK234)
     (try clear BK235)
     (try clear BK260)
     (try clear BK270)
     (try clear HB)
     generalize (((((w51.setCell ⟨gb270,0,none⟩ (.int .i64 t261)).setCell ⟨gb270,1,none⟩ (.int .i64 t262)).setCell ⟨gb270,2,none⟩ (.slice Ao56 t263.length co56)).setCell ⟨gb270,3,none⟩ (.int .i64 t266)).setCell ⟨gb270,4,none⟩ (.slice Ao57 t267.length co57)) = w58 at n0_ n1_ n2_ n3_ n4_ n5_ n6_ n7_ n8_ n9_ n10_ ⊢
     have HO242 := n0_
     have HO246 := n1_
     have HO254 := n2_
     have HO258 := n3_
     have HO265 := n4_
     have HO269 := n5_
     have BK234 := n6_
     have BK235 := n7_
     have BK260 := n8_
     have BK270 := n9_
     have HB := n10_
     clear n0_ n1_ n2_ n3_ n4_ n5_ n6_ n7_ n8_ n9_ n10_
     have n0_ := zA (zL HO242.out)
     have n1_ := zA (zL HO246.out)
     have n2_ := zA (zL HO254.out)
     have n3_ := zA (zL HO258.out)
     have n4_ := zA (zL HO265.out)
     have n5_ := zA (zL HO269.out)
     have n6_ := zA (zT BK234.out)
     have n7_ := zA (zT BK235.out)
     have n8_ := zA (zT BK260.out)
     have n9_ := zA (zT BK270.out)
     have n10_ := zA (zP HB.out)
     clear HO242 HO246 HO254 HO258 HO265 HO269 BK234 BK235 BK260 BK270 HB
     have HO242 := n0_
     have HO246 := n1_
     have HO254 := n2_
     have HO258 := n3_
     have HO265 := n4_
     have HO269 := n5_
     have BK234 := n6_
     have BK235 := n7_
     have BK260 := n8_
     have BK270 := n9_
     have HB := n10_
     clear n0_ n1_ n2_ n3_ n4_ n5_ n6_ n7_ n8_ n9_ n10_
     refine start_ (n := 10) (S := fun w' => w'.cell? ⟨gb270,0,none⟩ = some (.int .i64 t261) ∧ w'.cell? ⟨gb270,1,none⟩ = some (.int .i64 t262) ∧ w'.cell? ⟨gb270,2,none⟩ = some (.slice Ao56 t263.length co56) ∧ w'.cell? ⟨gb270,3,none⟩ = some (.int .i64 t266) ∧ w'.cell? ⟨gb270,4,none⟩ = some (.slice Ao57 t267.length co57) ∧ w'.cell? ⟨gb235,0,none⟩ = some (.int .i64 a1_0) ∧ w'.cell? ⟨gb235,1,none⟩ = some (.int .i64 a1_1) ∧ w'.cell? ⟨gb235,2,none⟩ = some (.string a1_2)) (ds := []) #[false,false,false,false,false,false,false,false,false,false] (by kernel_rfl) rfl rfl ⟨(zW BK270.out 0).trans rfl,(zW BK270.out 1).trans rfl,(zW BK270.out 2).trans rfl,(zW BK270.out 3).trans rfl,(zW BK270.out 4).trans rfl,(zW BK235.out 0).trans rfl,(zW BK235.out 1).trans rfl,(zW BK235.out 2).trans rfl⟩ (fun hHeld => ?_); refine with_tabW laws_FnExactReceive.tab10 laws_FnExactReceive.bits10 (fun HT_ HW_ => ?_)
     generalize w58.drew = w59 at HO242 HO246 HO254 HO258 HO265 HO269 BK234 BK235 BK260 BK270 HB hHeld ⊢
     refine take_ (i := 0) (N := some 37) (v := ?_) (a' := ?_) #[true,false,false,false,false,false,false,false,false,false] rfl rfl (take_ofW HT_.out HW_.out (by kernel_rfl)) (fun _ _ _ h => h) (Or.inl ⟨by rfl,?_⟩) hHeld ?_ ?_; rotate_left
     ·
      rintro w' ⟨s0,s1,s2,s3,s4,s5,s6,s7⟩
      go_simp; with_reducible rfl
     rotate_left
     · simp only [Act.put,List.setIfInBounds_toArray,List.set_cons_zero,List.set_cons_succ,i64_w,i32_w]; rfl
     refine take_ (i := 1) (N := some 38) (v := ?_) (a' := ?_) #[true,true,false,false,false,false,false,false,false,false] rfl rfl (take_ofW HT_.out HW_.out (by kernel_rfl)) (fun _ _ _ h => h) (Or.inl ⟨by rfl,?_⟩) hHeld ?_ ?_; rotate_left
     ·
      rintro w' ⟨s0,s1,s2,s3,s4,s5,s6,s7⟩
      go_simp; with_reducible rfl
     rotate_left
     · simp only [Act.put,List.setIfInBounds_toArray,List.set_cons_zero,List.set_cons_succ,i64_w,i32_w]; rfl
     refine join_ (σ := Value × Value × Nat) 2 #[true,true,true,true,true,true,true,true,false,false] (fun s_ => [(39,.agg #[.int .i64 t271,.int .i64 t272,.string t273]),(40,.tuple #[.agg #[.int .i64 t274,.int .i64 t275,s_.1,.int .i64 t279,s_.2.1],.bool t283]),(9,.pointer (some ⟨s_.2.2,0,none⟩)),(36,.tuple #[.agg #[.int .i64 t274,.int .i64 t275,s_.1,.int .i64 t279,s_.2.1],.bool t283]),(41,.agg #[.int .i64 t274,.int .i64 t275,s_.1,.int .i64 t279,s_.2.1]),(42,.bool t283)]) (fun s_ w' => (w'.cell? ⟨gb270,0,none⟩ = some (.int .i64 t261) ∧ w'.cell? ⟨gb270,1,none⟩ = some (.int .i64 t262) ∧ w'.cell? ⟨gb270,2,none⟩ = some (.slice Ao56 t263.length co56) ∧ w'.cell? ⟨gb270,3,none⟩ = some (.int .i64 t266) ∧ w'.cell? ⟨gb270,4,none⟩ = some (.slice Ao57 t267.length co57) ∧ w'.cell? ⟨gb235,0,none⟩ = some (.int .i64 a1_0) ∧ w'.cell? ⟨gb235,1,none⟩ = some (.int .i64 a1_1) ∧ w'.cell? ⟨gb235,2,none⟩ = some (.string a1_2)) ∧ (Kd.R Kd.string 9 w' w.heap.size (fun k_ => some k_ ≠ (v245 : Value).ownBlock ∧ some k_ ≠ (.slice Ao43 t252.length co43 : Value).ownBlock ∧ some k_ ≠ (.slice Ao46 t256.length co46 : Value).ownBlock ∧ some k_ ≠ (.slice Ao56 t263.length co56 : Value).ownBlock ∧ some k_ ≠ (.slice Ao57 t267.length co57 : Value).ownBlock ∧ some k_ ≠ (s_.1 : Value).ownBlock ∧ some k_ ≠ (s_.2.1 : Value).ownBlock) v241 t240) ∧ (Kd.R Kd.string 9 w' w.heap.size (fun k_ => some k_ ≠ (v241 : Value).ownBlock ∧ some k_ ≠ (.slice Ao43 t252.length co43 : Value).ownBlock ∧ some k_ ≠ (.slice Ao46 t256.length co46 : Value).ownBlock ∧ some k_ ≠ (.slice Ao56 t263.length co56 : Value).ownBlock ∧ some k_ ≠ (.slice Ao57 t267.length co57 : Value).ownBlock ∧ some k_ ≠ (s_.1 : Value).ownBlock ∧ some k_ ≠ (s_.2.1 : Value).ownBlock) v245 t244) ∧ (Kd.R Kd.string 9 w' w.heap.size (fun k_ => some k_ ≠ (v241 : Value).ownBlock ∧ some k_ ≠ (v245 : Value).ownBlock ∧ some k_ ≠ (.slice Ao46 t256.length co46 : Value).ownBlock ∧ some k_ ≠ (.slice Ao56 t263.length co56 : Value).ownBlock ∧ some k_ ≠ (.slice Ao57 t267.length co57 : Value).ownBlock ∧ some k_ ≠ (s_.1 : Value).ownBlock ∧ some k_ ≠ (s_.2.1 : Value).ownBlock) (.slice Ao43 t252.length co43) t252) ∧ (Kd.R Kd.string 9 w' w.heap.size (fun k_ => some k_ ≠ (v241 : Value).ownBlock ∧ some k_ ≠ (v245 : Value).ownBlock ∧ some k_ ≠ (.slice Ao43 t252.length co43 : Value).ownBlock ∧ some k_ ≠ (.slice Ao56 t263.length co56 : Value).ownBlock ∧ some k_ ≠ (.slice Ao57 t267.length co57 : Value).ownBlock ∧ some k_ ≠ (s_.1 : Value).ownBlock ∧ some k_ ≠ (s_.2.1 : Value).ownBlock) (.slice Ao46 t256.length co46) t256) ∧ (Kd.R Kd.string 9 w' w.heap.size (fun k_ => some k_ ≠ (v241 : Value).ownBlock ∧ some k_ ≠ (v245 : Value).ownBlock ∧ some k_ ≠ (.slice Ao43 t252.length co43 : Value).ownBlock ∧ some k_ ≠ (.slice Ao46 t256.length co46 : Value).ownBlock ∧ some k_ ≠ (.slice Ao57 t267.length co57 : Value).ownBlock ∧ some k_ ≠ (s_.1 : Value).ownBlock ∧ some k_ ≠ (s_.2.1 : Value).ownBlock) (.slice Ao56 t263.length co56) t263) ∧ (Kd.R Kd.string 9 w' w.heap.size (fun k_ => some k_ ≠ (v241 : Value).ownBlock ∧ some k_ ≠ (v245 : Value).ownBlock ∧ some k_ ≠ (.slice Ao43 t252.length co43 : Value).ownBlock ∧ some k_ ≠ (.slice Ao46 t256.length co46 : Value).ownBlock ∧ some k_ ≠ (.slice Ao56 t263.length co56 : Value).ownBlock ∧ some k_ ≠ (s_.1 : Value).ownBlock ∧ some k_ ≠ (s_.2.1 : Value).ownBlock) (.slice Ao57 t267.length co57) t267) ∧ (Kd.Q Kd.string 9 w' w.heap.size (fun k_ => some k_ ≠ (v241 : Value).ownBlock ∧ some k_ ≠ (v245 : Value).ownBlock ∧ some k_ ≠ (.slice Ao43 t252.length co43 : Value).ownBlock ∧ some k_ ≠ (.slice Ao46 t256.length co46 : Value).ownBlock ∧ some k_ ≠ (.slice Ao56 t263.length co56 : Value).ownBlock ∧ some k_ ≠ (.slice Ao57 t267.length co57 : Value).ownBlock ∧ some k_ ≠ (s_.2.1 : Value).ownBlock) s_.1 t276) ∧ (Kd.R Kd.string 9 w' w.heap.size (fun k_ => some k_ ≠ (v241 : Value).ownBlock ∧ some k_ ≠ (v245 : Value).ownBlock ∧ some k_ ≠ (.slice Ao43 t252.length co43 : Value).ownBlock ∧ some k_ ≠ (.slice Ao46 t256.length co46 : Value).ownBlock ∧ some k_ ≠ (.slice Ao56 t263.length co56 : Value).ownBlock ∧ some k_ ≠ (.slice Ao57 t267.length co57 : Value).ownBlock ∧ some k_ ≠ (s_.1 : Value).ownBlock) s_.2.1 t280) ∧ (w'.heap[gb234]? = some (.cells #[.int .i64 a0_0,.int .i64 a0_1,.slice A0_2 l0_2.length c0_2,.int .i64 a0_3,.slice A0_4 l0_4.length c0_4] 24 (0,0))) ∧ (w'.heap[gb235]? = some (.cells #[.int .i64 a1_0,.int .i64 a1_1,.string a1_2] 41 (0,0))) ∧ (w'.heap[gb260]? = some (.cells #[.int .i64 t250,.int .i64 t251,.slice Ao43 t252.length co43,.int .i64 t255,.slice Ao46 t256.length co46] 26 (0,0))) ∧ (w'.heap[gb270]? = some (.cells #[.int .i64 t261,.int .i64 t262,.slice Ao56 t263.length co56,.int .i64 t266,.slice Ao57 t267.length co57] 26 (0,0))) ∧ (w'.heap[s_.2.2]? = some (.cells #[.int .i64 0,.int .i64 0,.slice none 0 0,.int .i64 0,.slice none 0 0] 26 (0,0))) ∧ (w.heap.size ≤ s_.2.2) ∧ (w.heap.size ≤ s_.2.2) ∧ (gb234 ≠ s_.2.2) ∧ (s_.2.2 ≠ gb234) ∧ (gb235 ≠ s_.2.2) ∧ (s_.2.2 ≠ gb235) ∧ (gb260 ≠ s_.2.2) ∧ (s_.2.2 ≠ gb260) ∧ (gb270 ≠ s_.2.2) ∧ (s_.2.2 ≠ gb270) ∧ (Below w.heap.size w w')) ?_ ?_
     rotate_left
     ·
      intro hCont
      refine two_ (i := 2) (j := 7) (Ni := some 39) (Nj := some 9) #[true,true,true,false,false,false,false,false,false,false] #[true,true,false,false,false,false,false,true,false,false] rfl rfl rfl rfl (two_of HT_.out (by kernel_rfl)) (by decide) (by decide) (fun K hK => ?_) (fun K hK => ?_)
      ·
       skip
       refine goes_ Try.func25 (by kernel_rfl) rfl #[.agg #[.int .i64 a1_0,.int .i64 a1_1,.string a1_2]] (by rfl) rfl rfl (by (try simp only [List.map_toArray,List.map_cons,List.map_nil]); first | done|rfl|(simp only [List.length_drop,List.length_take]; rfl)) ?_
       with_reducible refine (laws_toParcel.calls a1_0 a1_1 a1_2 t271 t272 t273 _ A23.out).mono ?_
       rintro e w60 ⟨rfl,hb⟩
       refine ⟨_,rfl,?_⟩
       have n0_ := zA (zD (rrA19 HO242.out) hb)
       have n1_ := zA (zD (rrA19 HO246.out) hb)
       have n2_ := zA (zD (rrA19 HO254.out) hb)
       have n3_ := zA (zD (rrA19 HO258.out) hb)
       have n4_ := zA (zD (rrA19 HO265.out) hb)
       have n5_ := zA (zD (rrA19 HO269.out) hb)
       have n6_ := zA (zV (g := gb234) (o := .cells #[.int .i64 a0_0,.int .i64 a0_1,.slice A0_2 l0_2.length c0_2,.int .i64 a0_3,.slice A0_4 l0_4.length c0_4] 24 (0,0)) (rrB19 BK234.out) hb)
       have n7_ := zA (zV (g := gb235) (o := .cells #[.int .i64 a1_0,.int .i64 a1_1,.string a1_2] 41 (0,0)) (rrB19 BK235.out) hb)
       have n8_ := zA (zV (g := gb260) (o := .cells #[.int .i64 t250,.int .i64 t251,.slice Ao43 t252.length co43,.int .i64 t255,.slice Ao46 t256.length co46] 26 (0,0)) (rrB19 BK260.out) hb)
       have n9_ := zA (zV (g := gb270) (o := .cells #[.int .i64 t261,.int .i64 t262,.slice Ao56 t263.length co56,.int .i64 t266,.slice Ao57 t267.length co57] 26 (0,0)) (rrB19 BK270.out) hb)
       have n10_ := zA (zZ (by repeat (first|(with_reducible first|exact HB.out|apply zO|apply zQ|apply zP|refine zN ?_ GE234.out|refine zN ?_ GE235.out|refine zN ?_ GE260.out|refine zN ?_ GE270.out)|exact HB.out)) hb)
       clear HO242 HO246 HO254 HO258 HO265 HO269 BK234 BK235 BK260 BK270 HB
       have HO242 := n0_
       have HO246 := n1_
       have HO254 := n2_
       have HO258 := n3_
       have HO265 := n4_
       have HO269 := n5_
       have BK234 := n6_
       have BK235 := n7_
       have BK260 := n8_
       have BK270 := n9_
       have HB := n10_
       clear n0_ n1_ n2_ n3_ n4_ n5_ n6_ n7_ n8_ n9_ n10_
       (try clear hb)
       (try clear hb2)
       (try clear hk)
       (try clear hi)
       refine hK.out _ _ ⟨(zW BK270.out 0).trans rfl,(zW BK270.out 1).trans rfl,(zW BK270.out 2).trans rfl,(zW BK270.out 3).trans rfl,(zW BK270.out 4).trans rfl,(zW BK235.out 0).trans rfl,(zW BK235.out 1).trans rfl,(zW BK235.out 2).trans rfl⟩ (fun hHeld => ?_)
       clear hK K
       refine norm_ (a' := ?_) ?_ ?_
       rotate_left
       ·
        show Act.put _ (some 39) _ = _
        simp only [Act.put,List.setIfInBounds_toArray,List.set_cons_zero,List.set_cons_succ,i64_w,i32_w]; rfl
       refine two_ (i := 3) (j := 7) (Ni := some 40) (Nj := some 9) #[true,true,true,true,false,false,false,false,false,false] #[true,true,true,false,false,false,false,true,false,false] rfl rfl rfl rfl (two_of HT_.out (by kernel_rfl)) (by decide) (by decide) (fun K hK => ?_) (fun K hK => ?_)
       ·
        skip
        refine goes_ Try.func20 (by kernel_rfl) rfl #[.agg #[.int .i64 t261,.int .i64 t262,.slice Ao56 t263.length co56,.int .i64 t266,.slice Ao57 t267.length co57],.agg #[.int .i64 t271,.int .i64 t272,.string t273]] (by rfl) rfl rfl (by (try simp only [List.map_toArray,List.map_cons,List.map_nil]); first | done|rfl|(simp only [List.length_drop,List.length_take]; rfl)) ?_
        with_reducible refine (impl_Receive.calls k t261 t262 _ _ t263 t266 _ _ t267 t271 t272 t273 t274 t275 t276 t279 t280 t283 _ ?side1 ?side2 ?side3 ?side4 A24.out).mono ?_
        (case side1 => repeat (first|exact (zI HO265.out).2.2|(with_reducible refine Kd.C_alloc ?_ _)|(with_reducible refine Kd.C_drewN ?_ _)|(with_reducible refine Kd.C_drew ?_)))
        (case side2 => exact (zI HO265.out).2.1)
        (case side3 => repeat (first|exact (zI HO269.out).2.2|(with_reducible refine Kd.C_alloc ?_ _)|(with_reducible refine Kd.C_drewN ?_ _)|(with_reducible refine Kd.C_drew ?_)))
        (case side4 => exact (zI HO269.out).2.1)
        rintro e w61 ⟨v277,v281,rfl,ho0,ho1,hb⟩
        refine ⟨_,rfl,?_⟩
        have n0_ := zA (zC (zE (zE (zM (rrA19 HO242.out) hb) (Kd.Q_base ho0)) (zF ho1)) (fun _ h_ => h_.1))
        have n1_ := zA (zC (zE (zE (zM (rrA19 HO246.out) hb) (Kd.Q_base ho0)) (zF ho1)) (fun _ h_ => h_.1))
        have n2_ := zA (zC (zE (zE (zM (rrA19 HO254.out) hb) (Kd.Q_base ho0)) (zF ho1)) (fun _ h_ => h_.1))
        have n3_ := zA (zC (zE (zE (zM (rrA19 HO258.out) hb) (Kd.Q_base ho0)) (zF ho1)) (fun _ h_ => h_.1))
        have n4_ := zA (zC (zE (zE (zM (rrA19 HO265.out) hb) (Kd.Q_base ho0)) (zF ho1)) (fun _ h_ => h_.1))
        have n5_ := zA (zC (zE (zE (zM (rrA19 HO269.out) hb) (Kd.Q_base ho0)) (zF ho1)) (fun _ h_ => h_.1))
        have n6_ := zA (Kd.Q_lower (Kd.Q_new' (Kd.Q_new' (Kd.Q_new' (Kd.Q_new' (Kd.Q_new' (Kd.Q_new' ho0 (Kd.R_lt (rrA19 HO242.out))) (Kd.R_lt (rrA19 HO246.out))) (Kd.R_lt (rrA19 HO254.out))) (Kd.R_lt (rrA19 HO258.out))) (Kd.R_lt (rrA19 HO265.out))) (Kd.R_lt (rrA19 HO269.out))) (below_size (by repeat (first|(with_reducible first|exact HB.out|apply zO|apply zQ|apply zP|refine zN ?_ GE234.out|refine zN ?_ GE235.out|refine zN ?_ GE260.out|refine zN ?_ GE270.out)|exact HB.out))))
        have n7_ := zA (Kd.R_lower (zG (zG (zG (zG (zG (zG ho1 (Kd.R_lt (rrA19 HO242.out))) (Kd.R_lt (rrA19 HO246.out))) (Kd.R_lt (rrA19 HO254.out))) (Kd.R_lt (rrA19 HO258.out))) (Kd.R_lt (rrA19 HO265.out))) (Kd.R_lt (rrA19 HO269.out))) (below_size (by repeat (first|(with_reducible first|exact HB.out|apply zO|apply zQ|apply zP|refine zN ?_ GE234.out|refine zN ?_ GE235.out|refine zN ?_ GE260.out|refine zN ?_ GE270.out)|exact HB.out))))
        have n8_ := zA (zV (g := gb234) (o := .cells #[.int .i64 a0_0,.int .i64 a0_1,.slice A0_2 l0_2.length c0_2,.int .i64 a0_3,.slice A0_4 l0_4.length c0_4] 24 (0,0)) (rrB19 BK234.out) hb)
        have n9_ := zA (zV (g := gb235) (o := .cells #[.int .i64 a1_0,.int .i64 a1_1,.string a1_2] 41 (0,0)) (rrB19 BK235.out) hb)
        have n10_ := zA (zV (g := gb260) (o := .cells #[.int .i64 t250,.int .i64 t251,.slice Ao43 t252.length co43,.int .i64 t255,.slice Ao46 t256.length co46] 26 (0,0)) (rrB19 BK260.out) hb)
        have n11_ := zA (zV (g := gb270) (o := .cells #[.int .i64 t261,.int .i64 t262,.slice Ao56 t263.length co56,.int .i64 t266,.slice Ao57 t267.length co57] 26 (0,0)) (rrB19 BK270.out) hb)
        have n12_ := zA (zZ (by repeat (first|(with_reducible first|exact HB.out|apply zO|apply zQ|apply zP|refine zN ?_ GE234.out|refine zN ?_ GE235.out|refine zN ?_ GE260.out|refine zN ?_ GE270.out)|exact HB.out)) hb)
        clear HO242 HO246 HO254 HO258 HO265 HO269 BK234 BK235 BK260 BK270 HB
        have HO242 := n0_
        have HO246 := n1_
        have HO254 := n2_
        have HO258 := n3_
        have HO265 := n4_
        have HO269 := n5_
        have HO278 := n6_
        have HO282 := n7_
        have BK234 := n8_
        have BK235 := n9_
        have BK260 := n10_
        have BK270 := n11_
        have HB := n12_
        clear n0_ n1_ n2_ n3_ n4_ n5_ n6_ n7_ n8_ n9_ n10_ n11_ n12_
        (try clear hb)
        (try clear hb2)
        (try clear hk)
        (try clear hi)
        (try clear ho0)
        (try clear ho1)
        refine hK.out _ _ ⟨(zW BK270.out 0).trans rfl,(zW BK270.out 1).trans rfl,(zW BK270.out 2).trans rfl,(zW BK270.out 3).trans rfl,(zW BK270.out 4).trans rfl,(zW BK235.out 0).trans rfl,(zW BK235.out 1).trans rfl,(zW BK235.out 2).trans rfl⟩ (fun hHeld => ?_)
        clear hK K
        refine norm_ (a' := ?_) ?_ ?_
        rotate_left
        ·
         show Act.put _ (some 40) _ = _
         simp only [Act.put,List.setIfInBounds_toArray,List.set_cons_zero,List.set_cons_succ,i64_w,i32_w]; rfl
        refine pure_ (i := 4) (N := some 36) (v := ?_) (a' := ?_) #[true,true,true,true,true,false,false,false,false,false] rfl rfl (any_of HT_.out (by kernel_rfl)) (fun _ _ _ h => h) (Or.inl ⟨by rfl,?_⟩) ?_ ?_; rotate_left
        · intro w'; go_simp; with_reducible rfl
        rotate_left
        · simp only [Act.put,List.setIfInBounds_toArray,List.set_cons_zero,List.set_cons_succ,i64_w,i32_w]; rfl
        refine pure_ (i := 5) (N := some 41) (v := ?_) (a' := ?_) #[true,true,true,true,true,true,false,false,false,false] rfl rfl (any_of HT_.out (by kernel_rfl)) (fun _ _ _ h => h) (Or.inl ⟨by rfl,?_⟩) ?_ ?_; rotate_left
        · intro w'; go_simp; with_reducible rfl
        rotate_left
        · simp only [Act.put,List.setIfInBounds_toArray,List.set_cons_zero,List.set_cons_succ,i64_w,i32_w]; rfl
        refine pure_ (i := 6) (N := some 42) (v := ?_) (a' := ?_) #[true,true,true,true,true,true,true,false,false,false] rfl rfl (any_of HT_.out (by kernel_rfl)) (fun _ _ _ h => h) (Or.inl ⟨by rfl,?_⟩) ?_ ?_; rotate_left
        · intro w'; go_simp; with_reducible rfl
        rotate_left
        · simp only [Act.put,List.setIfInBounds_toArray,List.set_cons_zero,List.set_cons_succ,i64_w,i32_w]; rfl
        refine one_ (i := 7) (N := some 9) #[true,true,true,true,true,true,true,true,false,false] rfl rfl (one_of HT_.out (by kernel_rfl)) (by decide) (fun K hK => ?_)
        refine box_step ?hg (N := 9) ?hd (cs := #[.int .i64 0,.int .i64 0,.slice none 0 0,.int .i64 0,.slice none 0 0]) (t := 26) ?hr ?_; (case hd => rfl); (case hg => rfl); (case hr => first | (go_simp; done) | (go_simp; rfl))
        intro gb284 hg w62 hbox hb
        have n0_ := zA (zD (rrA19 HO242.out) hb)
        have n1_ := zA (zD (rrA19 HO246.out) hb)
        have n2_ := zA (zD (rrA19 HO254.out) hb)
        have n3_ := zA (zD (rrA19 HO258.out) hb)
        have n4_ := zA (zD (rrA19 HO265.out) hb)
        have n5_ := zA (zD (rrA19 HO269.out) hb)
        have n6_ := zA (Kd.Q_below (by (with_reducible repeat (first|apply Kd.Q_alloc|apply Kd.Q_drewN|apply Kd.Q_drew)); exact HO278.out) hb)
        have n7_ := zA (zD (rrA19 HO282.out) hb)
        have n8_ := zA (zV (g := gb234) (o := .cells #[.int .i64 a0_0,.int .i64 a0_1,.slice A0_2 l0_2.length c0_2,.int .i64 a0_3,.slice A0_4 l0_4.length c0_4] 24 (0,0)) (rrB19 BK234.out) hb)
        have n9_ := zA (zV (g := gb235) (o := .cells #[.int .i64 a1_0,.int .i64 a1_1,.string a1_2] 41 (0,0)) (rrB19 BK235.out) hb)
        have n10_ := zA (zV (g := gb260) (o := .cells #[.int .i64 t250,.int .i64 t251,.slice Ao43 t252.length co43,.int .i64 t255,.slice Ao46 t256.length co46] 26 (0,0)) (rrB19 BK260.out) hb)
        have n11_ := zA (zV (g := gb270) (o := .cells #[.int .i64 t261,.int .i64 t262,.slice Ao56 t263.length co56,.int .i64 t266,.slice Ao57 t267.length co57] 26 (0,0)) (rrB19 BK270.out) hb)
        have n12_ := zA (zZ (by repeat (first|(with_reducible first|exact HB.out|apply zO|apply zQ|apply zP|refine zN ?_ GE234.out|refine zN ?_ GE235.out|refine zN ?_ GE260.out|refine zN ?_ GE270.out)|exact HB.out)) hb)
        have n13_ := zA (hbox)
        have n14_ := zA ((by rw [hg]; exact (below_size (by repeat (first|(with_reducible first|exact HB.out|apply zO|apply zQ|apply zP|refine zN ?_ GE234.out|refine zN ?_ GE235.out|refine zN ?_ GE260.out|refine zN ?_ GE270.out)|exact HB.out))) : w.heap.size ≤ gb284))
        have n15_ := zA ((by rw [hg]; exact (below_size (by repeat (first|(with_reducible first|exact HB.out|apply zO|apply zQ|apply zP|refine zN ?_ GE234.out|refine zN ?_ GE235.out|refine zN ?_ GE260.out|refine zN ?_ GE270.out)|exact HB.out))) : w.heap.size ≤ gb284))
        have n16_ := zA ((by rw [hg]; exact Nat.ne_of_lt (blk_lt (g := gb234) (o := .cells #[.int .i64 a0_0,.int .i64 a0_1,.slice A0_2 l0_2.length c0_2,.int .i64 a0_3,.slice A0_4 l0_4.length c0_4] 24 (0,0)) (rrB19 BK234.out)) : gb234 ≠ gb284))
        have n17_ := zA ((by rw [hg]; exact Nat.ne_of_gt (blk_lt (g := gb234) (o := .cells #[.int .i64 a0_0,.int .i64 a0_1,.slice A0_2 l0_2.length c0_2,.int .i64 a0_3,.slice A0_4 l0_4.length c0_4] 24 (0,0)) (rrB19 BK234.out)) : gb284 ≠ gb234))
        have n18_ := zA ((by rw [hg]; exact Nat.ne_of_lt (blk_lt (g := gb235) (o := .cells #[.int .i64 a1_0,.int .i64 a1_1,.string a1_2] 41 (0,0)) (rrB19 BK235.out)) : gb235 ≠ gb284))
        have n19_ := zA ((by rw [hg]; exact Nat.ne_of_gt (blk_lt (g := gb235) (o := .cells #[.int .i64 a1_0,.int .i64 a1_1,.string a1_2] 41 (0,0)) (rrB19 BK235.out)) : gb284 ≠ gb235))
        have n20_ := zA ((by rw [hg]; exact Nat.ne_of_lt (blk_lt (g := gb260) (o := .cells #[.int .i64 t250,.int .i64 t251,.slice Ao43 t252.length co43,.int .i64 t255,.slice Ao46 t256.length co46] 26 (0,0)) (rrB19 BK260.out)) : gb260 ≠ gb284))
        have n21_ := zA ((by rw [hg]; exact Nat.ne_of_gt (blk_lt (g := gb260) (o := .cells #[.int .i64 t250,.int .i64 t251,.slice Ao43 t252.length co43,.int .i64 t255,.slice Ao46 t256.length co46] 26 (0,0)) (rrB19 BK260.out)) : gb284 ≠ gb260))
        have n22_ := zA ((by rw [hg]; exact Nat.ne_of_lt (blk_lt (g := gb270) (o := .cells #[.int .i64 t261,.int .i64 t262,.slice Ao56 t263.length co56,.int .i64 t266,.slice Ao57 t267.length co57] 26 (0,0)) (rrB19 BK270.out)) : gb270 ≠ gb284))
        have n23_ := zA ((by rw [hg]; exact Nat.ne_of_gt (blk_lt (g := gb270) (o := .cells #[.int .i64 t261,.int .i64 t262,.slice Ao56 t263.length co56,.int .i64 t266,.slice Ao57 t267.length co57] 26 (0,0)) (rrB19 BK270.out)) : gb284 ≠ gb270))
        clear HO242 HO246 HO254 HO258 HO265 HO269 HO278 HO282 BK234 BK235 BK260 BK270 HB
        have HO242 := n0_
        have HO246 := n1_
        have HO254 := n2_
        have HO258 := n3_
        have HO265 := n4_
        have HO269 := n5_
        have HO278 := n6_
        have HO282 := n7_
        have BK234 := n8_
        have BK235 := n9_
        have BK260 := n10_
        have BK270 := n11_
        have HB := n12_
        have BK284 := n13_
        have GW284 := n14_
        have GE284 := n15_
        have NB234_284 := n16_
        have NB284_234 := n17_
        have NB235_284 := n18_
        have NB284_235 := n19_
        have NB260_284 := n20_
        have NB284_260 := n21_
        have NB270_284 := n22_
        have NB284_270 := n23_
        clear n0_ n1_ n2_ n3_ n4_ n5_ n6_ n7_ n8_ n9_ n10_ n11_ n12_ n13_ n14_ n15_ n16_ n17_ n18_ n19_ n20_ n21_ n22_ n23_ hb hbox hg
        refine hK.out _ _ ⟨(zW BK270.out 0).trans rfl,(zW BK270.out 1).trans rfl,(zW BK270.out 2).trans rfl,(zW BK270.out 3).trans rfl,(zW BK270.out 4).trans rfl,(zW BK235.out 0).trans rfl,(zW BK235.out 1).trans rfl,(zW BK235.out 2).trans rfl⟩ (fun hHeld => ?_)
        clear hK K
        refine norm_ (a' := ?_) ?_ ?_
        rotate_left
        ·
         show Act.put _ (some 9) _ = _
         simp only [Act.put,List.setIfInBounds_toArray,List.set_cons_zero,List.set_cons_succ,i64_w,i32_w]; rfl
        exact norm_ (by simp only [putAll,Act.put,List.setIfInBounds_toArray,List.set_cons_zero,List.set_cons_succ]) (hCont (v277,v281,gb284) _ ⟨hHeld,(by (with_reducible repeat (first|apply zJ|apply zK|apply zL)); exact zC HO242.out (fun _ hk => ⟨hk.1.1.1,⟨hk.1.1.2.1,⟨hk.1.1.2.2.1,⟨hk.1.1.2.2.2.1,⟨hk.1.1.2.2.2.2,⟨hk.1.2,hk.2⟩⟩⟩⟩⟩⟩)),(by (with_reducible repeat (first|apply zJ|apply zK|apply zL)); exact zC HO246.out (fun _ hk => ⟨hk.1.1.1,⟨hk.1.1.2.1,⟨hk.1.1.2.2.1,⟨hk.1.1.2.2.2.1,⟨hk.1.1.2.2.2.2,⟨hk.1.2,hk.2⟩⟩⟩⟩⟩⟩)),(by (with_reducible repeat (first|apply zJ|apply zK|apply zL)); exact zC HO254.out (fun _ hk => ⟨hk.1.1.1,⟨hk.1.1.2.1,⟨hk.1.1.2.2.1,⟨hk.1.1.2.2.2.1,⟨hk.1.1.2.2.2.2,⟨hk.1.2,hk.2⟩⟩⟩⟩⟩⟩)),(by (with_reducible repeat (first|apply zJ|apply zK|apply zL)); exact zC HO258.out (fun _ hk => ⟨hk.1.1.1,⟨hk.1.1.2.1,⟨hk.1.1.2.2.1,⟨hk.1.1.2.2.2.1,⟨hk.1.1.2.2.2.2,⟨hk.1.2,hk.2⟩⟩⟩⟩⟩⟩)),(by (with_reducible repeat (first|apply zJ|apply zK|apply zL)); exact zC HO265.out (fun _ hk => ⟨hk.1.1.1,⟨hk.1.1.2.1,⟨hk.1.1.2.2.1,⟨hk.1.1.2.2.2.1,⟨hk.1.1.2.2.2.2,⟨hk.1.2,hk.2⟩⟩⟩⟩⟩⟩)),(by (with_reducible repeat (first|apply zJ|apply zK|apply zL)); exact zC HO269.out (fun _ hk => ⟨hk.1.1.1,⟨hk.1.1.2.1,⟨hk.1.1.2.2.1,⟨hk.1.1.2.2.2.1,⟨hk.1.1.2.2.2.2,⟨hk.1.2,hk.2⟩⟩⟩⟩⟩⟩)),(by (with_reducible repeat (first|apply Kd.Q_alloc|apply Kd.Q_drewN|apply Kd.Q_drew)); exact Kd.Q_mono HO278.out (fun _ hk => ⟨hk.1.1.1.1.1.2,⟨hk.1.1.1.1.2,⟨hk.1.1.1.2,⟨hk.1.1.2,⟨hk.1.2,⟨hk.2,hk.1.1.1.1.1.1⟩⟩⟩⟩⟩⟩)),(by (with_reducible repeat (first|apply zJ|apply zK|apply zL)); exact zC HO282.out (fun _ hk => ⟨hk.1.1.1.1.1.2,⟨hk.1.1.1.1.2,⟨hk.1.1.1.2,⟨hk.1.1.2,⟨hk.1.2,⟨hk.2,hk.1.1.1.1.1.1⟩⟩⟩⟩⟩⟩)),(rrB19 BK234.out),(rrB19 BK235.out),(rrB19 BK260.out),(rrB19 BK270.out),(rrB19 BK284.out),GW284.out,GE284.out,NB234_284.out,NB284_234.out,NB235_284.out,NB284_235.out,NB260_284.out,NB284_260.out,NB270_284.out,NB284_270.out,(by repeat (first|(with_reducible first|exact HB.out|apply zO|apply zQ|apply zP|refine zN ?_ GE234.out|refine zN ?_ GE235.out|refine zN ?_ GE260.out|refine zN ?_ GE270.out|refine zN ?_ GE284.out)|exact HB.out))⟩)
       ·
        skip
        refine box_step ?hg (N := 9) ?hd (cs := #[.int .i64 0,.int .i64 0,.slice none 0 0,.int .i64 0,.slice none 0 0]) (t := 26) ?hr ?_; (case hd => rfl); (case hg => rfl); (case hr => first | (go_simp; done) | (go_simp; rfl))
        intro gb284 hg w61 hbox hb
        have n0_ := zA (zD (rrA19 HO242.out) hb)
        have n1_ := zA (zD (rrA19 HO246.out) hb)
        have n2_ := zA (zD (rrA19 HO254.out) hb)
        have n3_ := zA (zD (rrA19 HO258.out) hb)
        have n4_ := zA (zD (rrA19 HO265.out) hb)
        have n5_ := zA (zD (rrA19 HO269.out) hb)
        have n6_ := zA (zV (g := gb234) (o := .cells #[.int .i64 a0_0,.int .i64 a0_1,.slice A0_2 l0_2.length c0_2,.int .i64 a0_3,.slice A0_4 l0_4.length c0_4] 24 (0,0)) (rrB19 BK234.out) hb)
        have n7_ := zA (zV (g := gb235) (o := .cells #[.int .i64 a1_0,.int .i64 a1_1,.string a1_2] 41 (0,0)) (rrB19 BK235.out) hb)
        have n8_ := zA (zV (g := gb260) (o := .cells #[.int .i64 t250,.int .i64 t251,.slice Ao43 t252.length co43,.int .i64 t255,.slice Ao46 t256.length co46] 26 (0,0)) (rrB19 BK260.out) hb)
        have n9_ := zA (zV (g := gb270) (o := .cells #[.int .i64 t261,.int .i64 t262,.slice Ao56 t263.length co56,.int .i64 t266,.slice Ao57 t267.length co57] 26 (0,0)) (rrB19 BK270.out) hb)
        have n10_ := zA (zZ (by repeat (first|(with_reducible first|exact HB.out|apply zO|apply zQ|apply zP|refine zN ?_ GE234.out|refine zN ?_ GE235.out|refine zN ?_ GE260.out|refine zN ?_ GE270.out)|exact HB.out)) hb)
        have n11_ := zA (hbox)
        have n12_ := zA ((by rw [hg]; exact (below_size (by repeat (first|(with_reducible first|exact HB.out|apply zO|apply zQ|apply zP|refine zN ?_ GE234.out|refine zN ?_ GE235.out|refine zN ?_ GE260.out|refine zN ?_ GE270.out)|exact HB.out))) : w.heap.size ≤ gb284))
        have n13_ := zA ((by rw [hg]; exact (below_size (by repeat (first|(with_reducible first|exact HB.out|apply zO|apply zQ|apply zP|refine zN ?_ GE234.out|refine zN ?_ GE235.out|refine zN ?_ GE260.out|refine zN ?_ GE270.out)|exact HB.out))) : w.heap.size ≤ gb284))
        have n14_ := zA ((by rw [hg]; exact Nat.ne_of_lt (blk_lt (g := gb234) (o := .cells #[.int .i64 a0_0,.int .i64 a0_1,.slice A0_2 l0_2.length c0_2,.int .i64 a0_3,.slice A0_4 l0_4.length c0_4] 24 (0,0)) (rrB19 BK234.out)) : gb234 ≠ gb284))
        have n15_ := zA ((by rw [hg]; exact Nat.ne_of_gt (blk_lt (g := gb234) (o := .cells #[.int .i64 a0_0,.int .i64 a0_1,.slice A0_2 l0_2.length c0_2,.int .i64 a0_3,.slice A0_4 l0_4.length c0_4] 24 (0,0)) (rrB19 BK234.out)) : gb284 ≠ gb234))
        have n16_ := zA ((by rw [hg]; exact Nat.ne_of_lt (blk_lt (g := gb235) (o := .cells #[.int .i64 a1_0,.int .i64 a1_1,.string a1_2] 41 (0,0)) (rrB19 BK235.out)) : gb235 ≠ gb284))
        have n17_ := zA ((by rw [hg]; exact Nat.ne_of_gt (blk_lt (g := gb235) (o := .cells #[.int .i64 a1_0,.int .i64 a1_1,.string a1_2] 41 (0,0)) (rrB19 BK235.out)) : gb284 ≠ gb235))
        have n18_ := zA ((by rw [hg]; exact Nat.ne_of_lt (blk_lt (g := gb260) (o := .cells #[.int .i64 t250,.int .i64 t251,.slice Ao43 t252.length co43,.int .i64 t255,.slice Ao46 t256.length co46] 26 (0,0)) (rrB19 BK260.out)) : gb260 ≠ gb284))
        have n19_ := zA ((by rw [hg]; exact Nat.ne_of_gt (blk_lt (g := gb260) (o := .cells #[.int .i64 t250,.int .i64 t251,.slice Ao43 t252.length co43,.int .i64 t255,.slice Ao46 t256.length co46] 26 (0,0)) (rrB19 BK260.out)) : gb284 ≠ gb260))
        have n20_ := zA ((by rw [hg]; exact Nat.ne_of_lt (blk_lt (g := gb270) (o := .cells #[.int .i64 t261,.int .i64 t262,.slice Ao56 t263.length co56,.int .i64 t266,.slice Ao57 t267.length co57] 26 (0,0)) (rrB19 BK270.out)) : gb270 ≠ gb284))
        have n21_ := zA ((by rw [hg]; exact Nat.ne_of_gt (blk_lt (g := gb270) (o := .cells #[.int .i64 t261,.int .i64 t262,.slice Ao56 t263.length co56,.int .i64 t266,.slice Ao57 t267.length co57] 26 (0,0)) (rrB19 BK270.out)) : gb284 ≠ gb270))
        clear HO242 HO246 HO254 HO258 HO265 HO269 BK234 BK235 BK260 BK270 HB
        have HO242 := n0_
        have HO246 := n1_
        have HO254 := n2_
        have HO258 := n3_
        have HO265 := n4_
        have HO269 := n5_
        have BK234 := n6_
        have BK235 := n7_
        have BK260 := n8_
        have BK270 := n9_
        have HB := n10_
        have BK284 := n11_
        have GW284 := n12_
        have GE284 := n13_
        have NB234_284 := n14_
        have NB284_234 := n15_
        have NB235_284 := n16_
        have NB284_235 := n17_
        have NB260_284 := n18_
        have NB284_260 := n19_
        have NB270_284 := n20_
        have NB284_270 := n21_
        clear n0_ n1_ n2_ n3_ n4_ n5_ n6_ n7_ n8_ n9_ n10_ n11_ n12_ n13_ n14_ n15_ n16_ n17_ n18_ n19_ n20_ n21_ hb hbox hg
        refine hK.out _ _ ⟨(zW BK270.out 0).trans rfl,(zW BK270.out 1).trans rfl,(zW BK270.out 2).trans rfl,(zW BK270.out 3).trans rfl,(zW BK270.out 4).trans rfl,(zW BK235.out 0).trans rfl,(zW BK235.out 1).trans rfl,(zW BK235.out 2).trans rfl⟩ (fun hHeld => ?_)
        clear hK K
        refine norm_ (a' := ?_) ?_ ?_
        rotate_left
        ·
         show Act.put _ (some 9) _ = _
         simp only [Act.put,List.setIfInBounds_toArray,List.set_cons_zero,List.set_cons_succ,i64_w,i32_w]; rfl
        refine one_ (i := 3) (N := some 40) #[true,true,true,true,false,false,false,true,false,false] rfl rfl (one_of HT_.out (by kernel_rfl)) (by decide) (fun K hK => ?_)
        refine goes_ Try.func20 (by kernel_rfl) rfl #[.agg #[.int .i64 t261,.int .i64 t262,.slice Ao56 t263.length co56,.int .i64 t266,.slice Ao57 t267.length co57],.agg #[.int .i64 t271,.int .i64 t272,.string t273]] (by rfl) rfl rfl (by (try simp only [List.map_toArray,List.map_cons,List.map_nil]); first | done|rfl|(simp only [List.length_drop,List.length_take]; rfl)) ?_
        with_reducible refine (impl_Receive.calls k t261 t262 _ _ t263 t266 _ _ t267 t271 t272 t273 t274 t275 t276 t279 t280 t283 _ ?side1 ?side2 ?side3 ?side4 A24.out).mono ?_
        (case side1 => repeat (first|exact (zI HO265.out).2.2|(with_reducible refine Kd.C_alloc ?_ _)|(with_reducible refine Kd.C_drewN ?_ _)|(with_reducible refine Kd.C_drew ?_)))
        (case side2 => exact (zI HO265.out).2.1)
        (case side3 => repeat (first|exact (zI HO269.out).2.2|(with_reducible refine Kd.C_alloc ?_ _)|(with_reducible refine Kd.C_drewN ?_ _)|(with_reducible refine Kd.C_drew ?_)))
        (case side4 => exact (zI HO269.out).2.1)
        rintro e w62 ⟨v277,v281,rfl,ho0,ho1,hb⟩
        refine ⟨_,rfl,?_⟩
        have n0_ := zA (zC (zE (zE (zM (rrA19 HO242.out) hb) (Kd.Q_base ho0)) (zF ho1)) (fun _ h_ => h_.1))
        have n1_ := zA (zC (zE (zE (zM (rrA19 HO246.out) hb) (Kd.Q_base ho0)) (zF ho1)) (fun _ h_ => h_.1))
        have n2_ := zA (zC (zE (zE (zM (rrA19 HO254.out) hb) (Kd.Q_base ho0)) (zF ho1)) (fun _ h_ => h_.1))
        have n3_ := zA (zC (zE (zE (zM (rrA19 HO258.out) hb) (Kd.Q_base ho0)) (zF ho1)) (fun _ h_ => h_.1))
        have n4_ := zA (zC (zE (zE (zM (rrA19 HO265.out) hb) (Kd.Q_base ho0)) (zF ho1)) (fun _ h_ => h_.1))
        have n5_ := zA (zC (zE (zE (zM (rrA19 HO269.out) hb) (Kd.Q_base ho0)) (zF ho1)) (fun _ h_ => h_.1))
        have n6_ := zA (Kd.Q_lower (Kd.Q_new' (Kd.Q_new' (Kd.Q_new' (Kd.Q_new' (Kd.Q_new' (Kd.Q_new' ho0 (Kd.R_lt (rrA19 HO242.out))) (Kd.R_lt (rrA19 HO246.out))) (Kd.R_lt (rrA19 HO254.out))) (Kd.R_lt (rrA19 HO258.out))) (Kd.R_lt (rrA19 HO265.out))) (Kd.R_lt (rrA19 HO269.out))) (below_size (by repeat (first|(with_reducible first|exact HB.out|apply zO|apply zQ|apply zP|refine zN ?_ GE234.out|refine zN ?_ GE235.out|refine zN ?_ GE260.out|refine zN ?_ GE270.out|refine zN ?_ GE284.out)|exact HB.out))))
        have n7_ := zA (Kd.R_lower (zG (zG (zG (zG (zG (zG ho1 (Kd.R_lt (rrA19 HO242.out))) (Kd.R_lt (rrA19 HO246.out))) (Kd.R_lt (rrA19 HO254.out))) (Kd.R_lt (rrA19 HO258.out))) (Kd.R_lt (rrA19 HO265.out))) (Kd.R_lt (rrA19 HO269.out))) (below_size (by repeat (first|(with_reducible first|exact HB.out|apply zO|apply zQ|apply zP|refine zN ?_ GE234.out|refine zN ?_ GE235.out|refine zN ?_ GE260.out|refine zN ?_ GE270.out|refine zN ?_ GE284.out)|exact HB.out))))
        have n8_ := zA (zV (g := gb234) (o := .cells #[.int .i64 a0_0,.int .i64 a0_1,.slice A0_2 l0_2.length c0_2,.int .i64 a0_3,.slice A0_4 l0_4.length c0_4] 24 (0,0)) (rrB19 BK234.out) hb)
        have n9_ := zA (zV (g := gb235) (o := .cells #[.int .i64 a1_0,.int .i64 a1_1,.string a1_2] 41 (0,0)) (rrB19 BK235.out) hb)
        have n10_ := zA (zV (g := gb260) (o := .cells #[.int .i64 t250,.int .i64 t251,.slice Ao43 t252.length co43,.int .i64 t255,.slice Ao46 t256.length co46] 26 (0,0)) (rrB19 BK260.out) hb)
        have n11_ := zA (zV (g := gb270) (o := .cells #[.int .i64 t261,.int .i64 t262,.slice Ao56 t263.length co56,.int .i64 t266,.slice Ao57 t267.length co57] 26 (0,0)) (rrB19 BK270.out) hb)
        have n12_ := zA (zV (g := gb284) (o := .cells #[.int .i64 0,.int .i64 0,.slice none 0 0,.int .i64 0,.slice none 0 0] 26 (0,0)) (rrB19 BK284.out) hb)
        have n13_ := zA (zZ (by repeat (first|(with_reducible first|exact HB.out|apply zO|apply zQ|apply zP|refine zN ?_ GE234.out|refine zN ?_ GE235.out|refine zN ?_ GE260.out|refine zN ?_ GE270.out|refine zN ?_ GE284.out)|exact HB.out)) hb)
        clear HO242 HO246 HO254 HO258 HO265 HO269 BK234 BK235 BK260 BK270 BK284 HB
        have HO242 := n0_
        have HO246 := n1_
        have HO254 := n2_
        have HO258 := n3_
        have HO265 := n4_
        have HO269 := n5_
        have HO278 := n6_
        have HO282 := n7_
        have BK234 := n8_
        have BK235 := n9_
        have BK260 := n10_
        have BK270 := n11_
        have BK284 := n12_
        have HB := n13_
        clear n0_ n1_ n2_ n3_ n4_ n5_ n6_ n7_ n8_ n9_ n10_ n11_ n12_ n13_
        (try clear hb)
        (try clear hb2)
        (try clear hk)
        (try clear hi)
        (try clear ho0)
        (try clear ho1)
        refine hK.out _ _ ⟨(zW BK270.out 0).trans rfl,(zW BK270.out 1).trans rfl,(zW BK270.out 2).trans rfl,(zW BK270.out 3).trans rfl,(zW BK270.out 4).trans rfl,(zW BK235.out 0).trans rfl,(zW BK235.out 1).trans rfl,(zW BK235.out 2).trans rfl⟩ (fun hHeld => ?_)
        clear hK K
        refine norm_ (a' := ?_) ?_ ?_
        rotate_left
        ·
         show Act.put _ (some 40) _ = _
         simp only [Act.put,List.setIfInBounds_toArray,List.set_cons_zero,List.set_cons_succ,i64_w,i32_w]; rfl
        refine pure_ (i := 4) (N := some 36) (v := ?_) (a' := ?_) #[true,true,true,true,true,false,false,true,false,false] rfl rfl (any_of HT_.out (by kernel_rfl)) (fun _ _ _ h => h) (Or.inl ⟨by rfl,?_⟩) ?_ ?_; rotate_left
        · intro w'; go_simp; with_reducible rfl
        rotate_left
        · simp only [Act.put,List.setIfInBounds_toArray,List.set_cons_zero,List.set_cons_succ,i64_w,i32_w]; rfl
        refine pure_ (i := 5) (N := some 41) (v := ?_) (a' := ?_) #[true,true,true,true,true,true,false,true,false,false] rfl rfl (any_of HT_.out (by kernel_rfl)) (fun _ _ _ h => h) (Or.inl ⟨by rfl,?_⟩) ?_ ?_; rotate_left
        · intro w'; go_simp; with_reducible rfl
        rotate_left
        · simp only [Act.put,List.setIfInBounds_toArray,List.set_cons_zero,List.set_cons_succ,i64_w,i32_w]; rfl
        refine pure_ (i := 6) (N := some 42) (v := ?_) (a' := ?_) #[true,true,true,true,true,true,true,true,false,false] rfl rfl (any_of HT_.out (by kernel_rfl)) (fun _ _ _ h => h) (Or.inl ⟨by rfl,?_⟩) ?_ ?_; rotate_left
        · intro w'; go_simp; with_reducible rfl
        rotate_left
        · simp only [Act.put,List.setIfInBounds_toArray,List.set_cons_zero,List.set_cons_succ,i64_w,i32_w]; rfl
        exact norm_ (by simp only [putAll,Act.put,List.setIfInBounds_toArray,List.set_cons_zero,List.set_cons_succ]) (hCont (v277,v281,gb284) _ ⟨hHeld,(by (with_reducible repeat (first|apply zJ|apply zK|apply zL)); exact zC HO242.out (fun _ hk => ⟨hk.1.1.1,⟨hk.1.1.2.1,⟨hk.1.1.2.2.1,⟨hk.1.1.2.2.2.1,⟨hk.1.1.2.2.2.2,⟨hk.1.2,hk.2⟩⟩⟩⟩⟩⟩)),(by (with_reducible repeat (first|apply zJ|apply zK|apply zL)); exact zC HO246.out (fun _ hk => ⟨hk.1.1.1,⟨hk.1.1.2.1,⟨hk.1.1.2.2.1,⟨hk.1.1.2.2.2.1,⟨hk.1.1.2.2.2.2,⟨hk.1.2,hk.2⟩⟩⟩⟩⟩⟩)),(by (with_reducible repeat (first|apply zJ|apply zK|apply zL)); exact zC HO254.out (fun _ hk => ⟨hk.1.1.1,⟨hk.1.1.2.1,⟨hk.1.1.2.2.1,⟨hk.1.1.2.2.2.1,⟨hk.1.1.2.2.2.2,⟨hk.1.2,hk.2⟩⟩⟩⟩⟩⟩)),(by (with_reducible repeat (first|apply zJ|apply zK|apply zL)); exact zC HO258.out (fun _ hk => ⟨hk.1.1.1,⟨hk.1.1.2.1,⟨hk.1.1.2.2.1,⟨hk.1.1.2.2.2.1,⟨hk.1.1.2.2.2.2,⟨hk.1.2,hk.2⟩⟩⟩⟩⟩⟩)),(by (with_reducible repeat (first|apply zJ|apply zK|apply zL)); exact zC HO265.out (fun _ hk => ⟨hk.1.1.1,⟨hk.1.1.2.1,⟨hk.1.1.2.2.1,⟨hk.1.1.2.2.2.1,⟨hk.1.1.2.2.2.2,⟨hk.1.2,hk.2⟩⟩⟩⟩⟩⟩)),(by (with_reducible repeat (first|apply zJ|apply zK|apply zL)); exact zC HO269.out (fun _ hk => ⟨hk.1.1.1,⟨hk.1.1.2.1,⟨hk.1.1.2.2.1,⟨hk.1.1.2.2.2.1,⟨hk.1.1.2.2.2.2,⟨hk.1.2,hk.2⟩⟩⟩⟩⟩⟩)),(by (with_reducible repeat (first|apply Kd.Q_alloc|apply Kd.Q_drewN|apply Kd.Q_drew)); exact Kd.Q_mono HO278.out (fun _ hk => ⟨hk.1.1.1.1.1.2,⟨hk.1.1.1.1.2,⟨hk.1.1.1.2,⟨hk.1.1.2,⟨hk.1.2,⟨hk.2,hk.1.1.1.1.1.1⟩⟩⟩⟩⟩⟩)),(by (with_reducible repeat (first|apply zJ|apply zK|apply zL)); exact zC HO282.out (fun _ hk => ⟨hk.1.1.1.1.1.2,⟨hk.1.1.1.1.2,⟨hk.1.1.1.2,⟨hk.1.1.2,⟨hk.1.2,⟨hk.2,hk.1.1.1.1.1.1⟩⟩⟩⟩⟩⟩)),(rrB19 BK234.out),(rrB19 BK235.out),(rrB19 BK260.out),(rrB19 BK270.out),(rrB19 BK284.out),GW284.out,GE284.out,NB234_284.out,NB284_234.out,NB235_284.out,NB284_235.out,NB260_284.out,NB284_260.out,NB270_284.out,NB284_270.out,(by repeat (first|(with_reducible first|exact HB.out|apply zO|apply zQ|apply zP|refine zN ?_ GE234.out|refine zN ?_ GE235.out|refine zN ?_ GE260.out|refine zN ?_ GE270.out|refine zN ?_ GE284.out)|exact HB.out))⟩)
      ·
       skip
       refine box_step ?hg (N := 9) ?hd (cs := #[.int .i64 0,.int .i64 0,.slice none 0 0,.int .i64 0,.slice none 0 0]) (t := 26) ?hr ?_; (case hd => rfl); (case hg => rfl); (case hr => first | (go_simp; done) | (go_simp; rfl))
       intro gb284 hg w60 hbox hb
       have n0_ := zA (zD (rrA19 HO242.out) hb)
       have n1_ := zA (zD (rrA19 HO246.out) hb)
       have n2_ := zA (zD (rrA19 HO254.out) hb)
       have n3_ := zA (zD (rrA19 HO258.out) hb)
       have n4_ := zA (zD (rrA19 HO265.out) hb)
       have n5_ := zA (zD (rrA19 HO269.out) hb)
       have n6_ := zA (zV (g := gb234) (o := .cells #[.int .i64 a0_0,.int .i64 a0_1,.slice A0_2 l0_2.length c0_2,.int .i64 a0_3,.slice A0_4 l0_4.length c0_4] 24 (0,0)) (rrB19 BK234.out) hb)
       have n7_ := zA (zV (g := gb235) (o := .cells #[.int .i64 a1_0,.int .i64 a1_1,.string a1_2] 41 (0,0)) (rrB19 BK235.out) hb)
       have n8_ := zA (zV (g := gb260) (o := .cells #[.int .i64 t250,.int .i64 t251,.slice Ao43 t252.length co43,.int .i64 t255,.slice Ao46 t256.length co46] 26 (0,0)) (rrB19 BK260.out) hb)
       have n9_ := zA (zV (g := gb270) (o := .cells #[.int .i64 t261,.int .i64 t262,.slice Ao56 t263.length co56,.int .i64 t266,.slice Ao57 t267.length co57] 26 (0,0)) (rrB19 BK270.out) hb)
       have n10_ := zA (zZ (by repeat (first|(with_reducible first|exact HB.out|apply zO|apply zQ|apply zP|refine zN ?_ GE234.out|refine zN ?_ GE235.out|refine zN ?_ GE260.out|refine zN ?_ GE270.out)|exact HB.out)) hb)
       have n11_ := zA (hbox)
       have n12_ := zA ((by rw [hg]; exact (below_size (by repeat (first|(with_reducible first|exact HB.out|apply zO|apply zQ|apply zP|refine zN ?_ GE234.out|refine zN ?_ GE235.out|refine zN ?_ GE260.out|refine zN ?_ GE270.out)|exact HB.out))) : w.heap.size ≤ gb284))
       have n13_ := zA ((by rw [hg]; exact (below_size (by repeat (first|(with_reducible first|exact HB.out|apply zO|apply zQ|apply zP|refine zN ?_ GE234.out|refine zN ?_ GE235.out|refine zN ?_ GE260.out|refine zN ?_ GE270.out)|exact HB.out))) : w.heap.size ≤ gb284))
       have n14_ := zA ((by rw [hg]; exact Nat.ne_of_lt (blk_lt (g := gb234) (o := .cells #[.int .i64 a0_0,.int .i64 a0_1,.slice A0_2 l0_2.length c0_2,.int .i64 a0_3,.slice A0_4 l0_4.length c0_4] 24 (0,0)) (rrB19 BK234.out)) : gb234 ≠ gb284))
       have n15_ := zA ((by rw [hg]; exact Nat.ne_of_gt (blk_lt (g := gb234) (o := .cells #[.int .i64 a0_0,.int .i64 a0_1,.slice A0_2 l0_2.length c0_2,.int .i64 a0_3,.slice A0_4 l0_4.length c0_4] 24 (0,0)) (rrB19 BK234.out)) : gb284 ≠ gb234))
       have n16_ := zA ((by rw [hg]; exact Nat.ne_of_lt (blk_lt (g := gb235) (o := .cells #[.int .i64 a1_0,.int .i64 a1_1,.string a1_2] 41 (0,0)) (rrB19 BK235.out)) : gb235 ≠ gb284))
       have n17_ := zA ((by rw [hg]; exact Nat.ne_of_gt (blk_lt (g := gb235) (o := .cells #[.int .i64 a1_0,.int .i64 a1_1,.string a1_2] 41 (0,0)) (rrB19 BK235.out)) : gb284 ≠ gb235))
       have n18_ := zA ((by rw [hg]; exact Nat.ne_of_lt (blk_lt (g := gb260) (o := .cells #[.int .i64 t250,.int .i64 t251,.slice Ao43 t252.length co43,.int .i64 t255,.slice Ao46 t256.length co46] 26 (0,0)) (rrB19 BK260.out)) : gb260 ≠ gb284))
       have n19_ := zA ((by rw [hg]; exact Nat.ne_of_gt (blk_lt (g := gb260) (o := .cells #[.int .i64 t250,.int .i64 t251,.slice Ao43 t252.length co43,.int .i64 t255,.slice Ao46 t256.length co46] 26 (0,0)) (rrB19 BK260.out)) : gb284 ≠ gb260))
       have n20_ := zA ((by rw [hg]; exact Nat.ne_of_lt (blk_lt (g := gb270) (o := .cells #[.int .i64 t261,.int .i64 t262,.slice Ao56 t263.length co56,.int .i64 t266,.slice Ao57 t267.length co57] 26 (0,0)) (rrB19 BK270.out)) : gb270 ≠ gb284))
       have n21_ := zA ((by rw [hg]; exact Nat.ne_of_gt (blk_lt (g := gb270) (o := .cells #[.int .i64 t261,.int .i64 t262,.slice Ao56 t263.length co56,.int .i64 t266,.slice Ao57 t267.length co57] 26 (0,0)) (rrB19 BK270.out)) : gb284 ≠ gb270))
       clear HO242 HO246 HO254 HO258 HO265 HO269 BK234 BK235 BK260 BK270 HB
       have HO242 := n0_
       have HO246 := n1_
       have HO254 := n2_
       have HO258 := n3_
       have HO265 := n4_
       have HO269 := n5_
       have BK234 := n6_
       have BK235 := n7_
       have BK260 := n8_
       have BK270 := n9_
       have HB := n10_
       have BK284 := n11_
       have GW284 := n12_
       have GE284 := n13_
       have NB234_284 := n14_
       have NB284_234 := n15_
       have NB235_284 := n16_
       have NB284_235 := n17_
       have NB260_284 := n18_
       have NB284_260 := n19_
       have NB270_284 := n20_
       have NB284_270 := n21_
       clear n0_ n1_ n2_ n3_ n4_ n5_ n6_ n7_ n8_ n9_ n10_ n11_ n12_ n13_ n14_ n15_ n16_ n17_ n18_ n19_ n20_ n21_ hb hbox hg
       refine hK.out _ _ ⟨(zW BK270.out 0).trans rfl,(zW BK270.out 1).trans rfl,(zW BK270.out 2).trans rfl,(zW BK270.out 3).trans rfl,(zW BK270.out 4).trans rfl,(zW BK235.out 0).trans rfl,(zW BK235.out 1).trans rfl,(zW BK235.out 2).trans rfl⟩ (fun hHeld => ?_)
       clear hK K
       refine norm_ (a' := ?_) ?_ ?_
       rotate_left
       ·
        show Act.put _ (some 9) _ = _
        simp only [Act.put,List.setIfInBounds_toArray,List.set_cons_zero,List.set_cons_succ,i64_w,i32_w]; rfl
       refine one_ (i := 2) (N := some 39) #[true,true,true,false,false,false,false,true,false,false] rfl rfl (one_of HT_.out (by kernel_rfl)) (by decide) (fun K hK => ?_)
       refine goes_ Try.func25 (by kernel_rfl) rfl #[.agg #[.int .i64 a1_0,.int .i64 a1_1,.string a1_2]] (by rfl) rfl rfl (by (try simp only [List.map_toArray,List.map_cons,List.map_nil]); first | done|rfl|(simp only [List.length_drop,List.length_take]; rfl)) ?_
       with_reducible refine (laws_toParcel.calls a1_0 a1_1 a1_2 t271 t272 t273 _ A23.out).mono ?_
       rintro e w61 ⟨rfl,hb⟩
       refine ⟨_,rfl,?_⟩
       have n0_ := zA (zD (rrA19 HO242.out) hb)
       have n1_ := zA (zD (rrA19 HO246.out) hb)
       have n2_ := zA (zD (rrA19 HO254.out) hb)
       have n3_ := zA (zD (rrA19 HO258.out) hb)
       have n4_ := zA (zD (rrA19 HO265.out) hb)
       have n5_ := zA (zD (rrA19 HO269.out) hb)
       have n6_ := zA (zV (g := gb234) (o := .cells #[.int .i64 a0_0,.int .i64 a0_1,.slice A0_2 l0_2.length c0_2,.int .i64 a0_3,.slice A0_4 l0_4.length c0_4] 24 (0,0)) (rrB19 BK234.out) hb)
       have n7_ := zA (zV (g := gb235) (o := .cells #[.int .i64 a1_0,.int .i64 a1_1,.string a1_2] 41 (0,0)) (rrB19 BK235.out) hb)
       have n8_ := zA (zV (g := gb260) (o := .cells #[.int .i64 t250,.int .i64 t251,.slice Ao43 t252.length co43,.int .i64 t255,.slice Ao46 t256.length co46] 26 (0,0)) (rrB19 BK260.out) hb)
       have n9_ := zA (zV (g := gb270) (o := .cells #[.int .i64 t261,.int .i64 t262,.slice Ao56 t263.length co56,.int .i64 t266,.slice Ao57 t267.length co57] 26 (0,0)) (rrB19 BK270.out) hb)
       have n10_ := zA (zV (g := gb284) (o := .cells #[.int .i64 0,.int .i64 0,.slice none 0 0,.int .i64 0,.slice none 0 0] 26 (0,0)) (rrB19 BK284.out) hb)
       have n11_ := zA (zZ (by repeat (first|(with_reducible first|exact HB.out|apply zO|apply zQ|apply zP|refine zN ?_ GE234.out|refine zN ?_ GE235.out|refine zN ?_ GE260.out|refine zN ?_ GE270.out|refine zN ?_ GE284.out)|exact HB.out)) hb)
       clear HO242 HO246 HO254 HO258 HO265 HO269 BK234 BK235 BK260 BK270 BK284 HB
       have HO242 := n0_
       have HO246 := n1_
       have HO254 := n2_
       have HO258 := n3_
       have HO265 := n4_
       have HO269 := n5_
       have BK234 := n6_
       have BK235 := n7_
       have BK260 := n8_
       have BK270 := n9_
       have BK284 := n10_
       have HB := n11_
       clear n0_ n1_ n2_ n3_ n4_ n5_ n6_ n7_ n8_ n9_ n10_ n11_
       (try clear hb)
       (try clear hb2)
       (try clear hk)
       (try clear hi)
       refine hK.out _ _ ⟨(zW BK270.out 0).trans rfl,(zW BK270.out 1).trans rfl,(zW BK270.out 2).trans rfl,(zW BK270.out 3).trans rfl,(zW BK270.out 4).trans rfl,(zW BK235.out 0).trans rfl,(zW BK235.out 1).trans rfl,(zW BK235.out 2).trans rfl⟩ (fun hHeld => ?_)
       clear hK K
       refine norm_ (a' := ?_) ?_ ?_
       rotate_left
       ·
        show Act.put _ (some 39) _ = _
        simp only [Act.put,List.setIfInBounds_toArray,List.set_cons_zero,List.set_cons_succ,i64_w,i32_w]; rfl
       refine one_ (i := 3) (N := some 40) #[true,true,true,true,false,false,false,true,false,false] rfl rfl (one_of HT_.out (by kernel_rfl)) (by decide) (fun K hK => ?_)
       refine goes_ Try.func20 (by kernel_rfl) rfl #[.agg #[.int .i64 t261,.int .i64 t262,.slice Ao56 t263.length co56,.int .i64 t266,.slice Ao57 t267.length co57],.agg #[.int .i64 t271,.int .i64 t272,.string t273]] (by rfl) rfl rfl (by (try simp only [List.map_toArray,List.map_cons,List.map_nil]); first | done|rfl|(simp only [List.length_drop,List.length_take]; rfl)) ?_
       with_reducible refine (impl_Receive.calls k t261 t262 _ _ t263 t266 _ _ t267 t271 t272 t273 t274 t275 t276 t279 t280 t283 _ ?side1 ?side2 ?side3 ?side4 A24.out).mono ?_
       (case side1 => repeat (first|exact (zI HO265.out).2.2|(with_reducible refine Kd.C_alloc ?_ _)|(with_reducible refine Kd.C_drewN ?_ _)|(with_reducible refine Kd.C_drew ?_)))
       (case side2 => exact (zI HO265.out).2.1)
       (case side3 => repeat (first|exact (zI HO269.out).2.2|(with_reducible refine Kd.C_alloc ?_ _)|(with_reducible refine Kd.C_drewN ?_ _)|(with_reducible refine Kd.C_drew ?_)))
       (case side4 => exact (zI HO269.out).2.1)
       rintro e w62 ⟨v277,v281,rfl,ho0,ho1,hb⟩
       refine ⟨_,rfl,?_⟩
       have n0_ := zA (zC (zE (zE (zM (rrA19 HO242.out) hb) (Kd.Q_base ho0)) (zF ho1)) (fun _ h_ => h_.1))
       have n1_ := zA (zC (zE (zE (zM (rrA19 HO246.out) hb) (Kd.Q_base ho0)) (zF ho1)) (fun _ h_ => h_.1))
       have n2_ := zA (zC (zE (zE (zM (rrA19 HO254.out) hb) (Kd.Q_base ho0)) (zF ho1)) (fun _ h_ => h_.1))
       have n3_ := zA (zC (zE (zE (zM (rrA19 HO258.out) hb) (Kd.Q_base ho0)) (zF ho1)) (fun _ h_ => h_.1))
       have n4_ := zA (zC (zE (zE (zM (rrA19 HO265.out) hb) (Kd.Q_base ho0)) (zF ho1)) (fun _ h_ => h_.1))
       have n5_ := zA (zC (zE (zE (zM (rrA19 HO269.out) hb) (Kd.Q_base ho0)) (zF ho1)) (fun _ h_ => h_.1))
       have n6_ := zA (Kd.Q_lower (Kd.Q_new' (Kd.Q_new' (Kd.Q_new' (Kd.Q_new' (Kd.Q_new' (Kd.Q_new' ho0 (Kd.R_lt (rrA19 HO242.out))) (Kd.R_lt (rrA19 HO246.out))) (Kd.R_lt (rrA19 HO254.out))) (Kd.R_lt (rrA19 HO258.out))) (Kd.R_lt (rrA19 HO265.out))) (Kd.R_lt (rrA19 HO269.out))) (below_size (by repeat (first|(with_reducible first|exact HB.out|apply zO|apply zQ|apply zP|refine zN ?_ GE234.out|refine zN ?_ GE235.out|refine zN ?_ GE260.out|refine zN ?_ GE270.out|refine zN ?_ GE284.out)|exact HB.out))))
       have n7_ := zA (Kd.R_lower (zG (zG (zG (zG (zG (zG ho1 (Kd.R_lt (rrA19 HO242.out))) (Kd.R_lt (rrA19 HO246.out))) (Kd.R_lt (rrA19 HO254.out))) (Kd.R_lt (rrA19 HO258.out))) (Kd.R_lt (rrA19 HO265.out))) (Kd.R_lt (rrA19 HO269.out))) (below_size (by repeat (first|(with_reducible first|exact HB.out|apply zO|apply zQ|apply zP|refine zN ?_ GE234.out|refine zN ?_ GE235.out|refine zN ?_ GE260.out|refine zN ?_ GE270.out|refine zN ?_ GE284.out)|exact HB.out))))
       have n8_ := zA (zV (g := gb234) (o := .cells #[.int .i64 a0_0,.int .i64 a0_1,.slice A0_2 l0_2.length c0_2,.int .i64 a0_3,.slice A0_4 l0_4.length c0_4] 24 (0,0)) (rrB19 BK234.out) hb)
       have n9_ := zA (zV (g := gb235) (o := .cells #[.int .i64 a1_0,.int .i64 a1_1,.string a1_2] 41 (0,0)) (rrB19 BK235.out) hb)
       have n10_ := zA (zV (g := gb260) (o := .cells #[.int .i64 t250,.int .i64 t251,.slice Ao43 t252.length co43,.int .i64 t255,.slice Ao46 t256.length co46] 26 (0,0)) (rrB19 BK260.out) hb)
       have n11_ := zA (zV (g := gb270) (o := .cells #[.int .i64 t261,.int .i64 t262,.slice Ao56 t263.length co56,.int .i64 t266,.slice Ao57 t267.length co57] 26 (0,0)) (rrB19 BK270.out) hb)
       have n12_ := zA (zV (g := gb284) (o := .cells #[.int .i64 0,.int .i64 0,.slice none 0 0,.int .i64 0,.slice none 0 0] 26 (0,0)) (rrB19 BK284.out) hb)
       have n13_ := zA (zZ (by repeat (first|(with_reducible first|exact HB.out|apply zO|apply zQ|apply zP|refine zN ?_ GE234.out|refine zN ?_ GE235.out|refine zN ?_ GE260.out|refine zN ?_ GE270.out|refine zN ?_ GE284.out)|exact HB.out)) hb)
       clear HO242 HO246 HO254 HO258 HO265 HO269 BK234 BK235 BK260 BK270 BK284 HB
       have HO242 := n0_
       have HO246 := n1_
       have HO254 := n2_
       have HO258 := n3_
       have HO265 := n4_
       have HO269 := n5_
       have HO278 := n6_
       have HO282 := n7_
       have BK234 := n8_
       have BK235 := n9_
       have BK260 := n10_
       have BK270 := n11_
       have BK284 := n12_
       have HB := n13_
       clear n0_ n1_ n2_ n3_ n4_ n5_ n6_ n7_ n8_ n9_ n10_ n11_ n12_ n13_
       (try clear hb)
       (try clear hb2)
       (try clear hk)
       (try clear hi)
       (try clear ho0)
       (try clear ho1)
       refine hK.out _ _ ⟨(zW BK270.out 0).trans rfl,(zW BK270.out 1).trans rfl,(zW BK270.out 2).trans rfl,(zW BK270.out 3).trans rfl,(zW BK270.out 4).trans rfl,(zW BK235.out 0).trans rfl,(zW BK235.out 1).trans rfl,(zW BK235.out 2).trans rfl⟩ (fun hHeld => ?_)
       clear hK K
       refine norm_ (a' := ?_) ?_ ?_
       rotate_left
       ·
        show Act.put _ (some 40) _ = _
        simp only [Act.put,List.setIfInBounds_toArray,List.set_cons_zero,List.set_cons_succ,i64_w,i32_w]; rfl
       refine pure_ (i := 4) (N := some 36) (v := ?_) (a' := ?_) #[true,true,true,true,true,false,false,true,false,false] rfl rfl (any_of HT_.out (by kernel_rfl)) (fun _ _ _ h => h) (Or.inl ⟨by rfl,?_⟩) ?_ ?_; rotate_left
       · intro w'; go_simp; with_reducible rfl
       rotate_left
       · simp only [Act.put,List.setIfInBounds_toArray,List.set_cons_zero,List.set_cons_succ,i64_w,i32_w]; rfl
       refine pure_ (i := 5) (N := some 41) (v := ?_) (a' := ?_) #[true,true,true,true,true,true,false,true,false,false] rfl rfl (any_of HT_.out (by kernel_rfl)) (fun _ _ _ h => h) (Or.inl ⟨by rfl,?_⟩) ?_ ?_; rotate_left
       · intro w'; go_simp; with_reducible rfl
       rotate_left
       · simp only [Act.put,List.setIfInBounds_toArray,List.set_cons_zero,List.set_cons_succ,i64_w,i32_w]; rfl
       refine pure_ (i := 6) (N := some 42) (v := ?_) (a' := ?_) #[true,true,true,true,true,true,true,true,false,false] rfl rfl (any_of HT_.out (by kernel_rfl)) (fun _ _ _ h => h) (Or.inl ⟨by rfl,?_⟩) ?_ ?_; rotate_left
       · intro w'; go_simp; with_reducible rfl
       rotate_left
       · simp only [Act.put,List.setIfInBounds_toArray,List.set_cons_zero,List.set_cons_succ,i64_w,i32_w]; rfl
       exact norm_ (by simp only [putAll,Act.put,List.setIfInBounds_toArray,List.set_cons_zero,List.set_cons_succ]) (hCont (v277,v281,gb284) _ ⟨hHeld,(by (with_reducible repeat (first|apply zJ|apply zK|apply zL)); exact zC HO242.out (fun _ hk => ⟨hk.1.1.1,⟨hk.1.1.2.1,⟨hk.1.1.2.2.1,⟨hk.1.1.2.2.2.1,⟨hk.1.1.2.2.2.2,⟨hk.1.2,hk.2⟩⟩⟩⟩⟩⟩)),(by (with_reducible repeat (first|apply zJ|apply zK|apply zL)); exact zC HO246.out (fun _ hk => ⟨hk.1.1.1,⟨hk.1.1.2.1,⟨hk.1.1.2.2.1,⟨hk.1.1.2.2.2.1,⟨hk.1.1.2.2.2.2,⟨hk.1.2,hk.2⟩⟩⟩⟩⟩⟩)),(by (with_reducible repeat (first|apply zJ|apply zK|apply zL)); exact zC HO254.out (fun _ hk => ⟨hk.1.1.1,⟨hk.1.1.2.1,⟨hk.1.1.2.2.1,⟨hk.1.1.2.2.2.1,⟨hk.1.1.2.2.2.2,⟨hk.1.2,hk.2⟩⟩⟩⟩⟩⟩)),(by (with_reducible repeat (first|apply zJ|apply zK|apply zL)); exact zC HO258.out (fun _ hk => ⟨hk.1.1.1,⟨hk.1.1.2.1,⟨hk.1.1.2.2.1,⟨hk.1.1.2.2.2.1,⟨hk.1.1.2.2.2.2,⟨hk.1.2,hk.2⟩⟩⟩⟩⟩⟩)),(by (with_reducible repeat (first|apply zJ|apply zK|apply zL)); exact zC HO265.out (fun _ hk => ⟨hk.1.1.1,⟨hk.1.1.2.1,⟨hk.1.1.2.2.1,⟨hk.1.1.2.2.2.1,⟨hk.1.1.2.2.2.2,⟨hk.1.2,hk.2⟩⟩⟩⟩⟩⟩)),(by (with_reducible repeat (first|apply zJ|apply zK|apply zL)); exact zC HO269.out (fun _ hk => ⟨hk.1.1.1,⟨hk.1.1.2.1,⟨hk.1.1.2.2.1,⟨hk.1.1.2.2.2.1,⟨hk.1.1.2.2.2.2,⟨hk.1.2,hk.2⟩⟩⟩⟩⟩⟩)),(by (with_reducible repeat (first|apply Kd.Q_alloc|apply Kd.Q_drewN|apply Kd.Q_drew)); exact Kd.Q_mono HO278.out (fun _ hk => ⟨hk.1.1.1.1.1.2,⟨hk.1.1.1.1.2,⟨hk.1.1.1.2,⟨hk.1.1.2,⟨hk.1.2,⟨hk.2,hk.1.1.1.1.1.1⟩⟩⟩⟩⟩⟩)),(by (with_reducible repeat (first|apply zJ|apply zK|apply zL)); exact zC HO282.out (fun _ hk => ⟨hk.1.1.1.1.1.2,⟨hk.1.1.1.1.2,⟨hk.1.1.1.2,⟨hk.1.1.2,⟨hk.1.2,⟨hk.2,hk.1.1.1.1.1.1⟩⟩⟩⟩⟩⟩)),(rrB19 BK234.out),(rrB19 BK235.out),(rrB19 BK260.out),(rrB19 BK270.out),(rrB19 BK284.out),GW284.out,GE284.out,NB234_284.out,NB284_234.out,NB235_284.out,NB284_235.out,NB260_284.out,NB284_260.out,NB270_284.out,NB284_270.out,(by repeat (first|(with_reducible first|exact HB.out|apply zO|apply zQ|apply zP|refine zN ?_ GE234.out|refine zN ?_ GE235.out|refine zN ?_ GE260.out|refine zN ?_ GE270.out|refine zN ?_ GE284.out)|exact HB.out))⟩)
     rintro ⟨v277,v281,gb284⟩ w63 ⟨hS_,h0_,h1_,h2_,h3_,h4_,h5_,h6_,h7_,h8_,h9_,h10_,h11_,h12_,h13_,h14_,h15_,h16_,h17_,h18_,h19_,h20_,h21_,h22_,h23_⟩
     have n0_ : Aside0 (Kd.R Kd.string 9 w63 w.heap.size (fun k_ => some k_ ≠ (v245 : Value).ownBlock ∧ some k_ ≠ (.slice Ao43 t252.length co43 : Value).ownBlock ∧ some k_ ≠ (.slice Ao46 t256.length co46 : Value).ownBlock ∧ some k_ ≠ (.slice Ao56 t263.length co56 : Value).ownBlock ∧ some k_ ≠ (.slice Ao57 t267.length co57 : Value).ownBlock ∧ some k_ ≠ (v277 : Value).ownBlock ∧ some k_ ≠ (v281 : Value).ownBlock) v241 t240) := ⟨h0_⟩
     have n1_ : Aside0 (Kd.R Kd.string 9 w63 w.heap.size (fun k_ => some k_ ≠ (v241 : Value).ownBlock ∧ some k_ ≠ (.slice Ao43 t252.length co43 : Value).ownBlock ∧ some k_ ≠ (.slice Ao46 t256.length co46 : Value).ownBlock ∧ some k_ ≠ (.slice Ao56 t263.length co56 : Value).ownBlock ∧ some k_ ≠ (.slice Ao57 t267.length co57 : Value).ownBlock ∧ some k_ ≠ (v277 : Value).ownBlock ∧ some k_ ≠ (v281 : Value).ownBlock) v245 t244) := ⟨h1_⟩
     have n2_ : Aside0 (Kd.R Kd.string 9 w63 w.heap.size (fun k_ => some k_ ≠ (v241 : Value).ownBlock ∧ some k_ ≠ (v245 : Value).ownBlock ∧ some k_ ≠ (.slice Ao46 t256.length co46 : Value).ownBlock ∧ some k_ ≠ (.slice Ao56 t263.length co56 : Value).ownBlock ∧ some k_ ≠ (.slice Ao57 t267.length co57 : Value).ownBlock ∧ some k_ ≠ (v277 : Value).ownBlock ∧ some k_ ≠ (v281 : Value).ownBlock) (.slice Ao43 t252.length co43) t252) := ⟨h2_⟩
     have n3_ : Aside0 (Kd.R Kd.string 9 w63 w.heap.size (fun k_ => some k_ ≠ (v241 : Value).ownBlock ∧ some k_ ≠ (v245 : Value).ownBlock ∧ some k_ ≠ (.slice Ao43 t252.length co43 : Value).ownBlock ∧ some k_ ≠ (.slice Ao56 t263.length co56 : Value).ownBlock ∧ some k_ ≠ (.slice Ao57 t267.length co57 : Value).ownBlock ∧ some k_ ≠ (v277 : Value).ownBlock ∧ some k_ ≠ (v281 : Value).ownBlock) (.slice Ao46 t256.length co46) t256) := ⟨h3_⟩
     have n4_ : Aside0 (Kd.R Kd.string 9 w63 w.heap.size (fun k_ => some k_ ≠ (v241 : Value).ownBlock ∧ some k_ ≠ (v245 : Value).ownBlock ∧ some k_ ≠ (.slice Ao43 t252.length co43 : Value).ownBlock ∧ some k_ ≠ (.slice Ao46 t256.length co46 : Value).ownBlock ∧ some k_ ≠ (.slice Ao57 t267.length co57 : Value).ownBlock ∧ some k_ ≠ (v277 : Value).ownBlock ∧ some k_ ≠ (v281 : Value).ownBlock) (.slice Ao56 t263.length co56) t263) := ⟨h4_⟩
     have n5_ : Aside0 (Kd.R Kd.string 9 w63 w.heap.size (fun k_ => some k_ ≠ (v241 : Value).ownBlock ∧ some k_ ≠ (v245 : Value).ownBlock ∧ some k_ ≠ (.slice Ao43 t252.length co43 : Value).ownBlock ∧ some k_ ≠ (.slice Ao46 t256.length co46 : Value).ownBlock ∧ some k_ ≠ (.slice Ao56 t263.length co56 : Value).ownBlock ∧ some k_ ≠ (v277 : Value).ownBlock ∧ some k_ ≠ (v281 : Value).ownBlock) (.slice Ao57 t267.length co57) t267) := ⟨h5_⟩
     have n6_ : Aside0 (Kd.Q Kd.string 9 w63 w.heap.size (fun k_ => some k_ ≠ (v241 : Value).ownBlock ∧ some k_ ≠ (v245 : Value).ownBlock ∧ some k_ ≠ (.slice Ao43 t252.length co43 : Value).ownBlock ∧ some k_ ≠ (.slice Ao46 t256.length co46 : Value).ownBlock ∧ some k_ ≠ (.slice Ao56 t263.length co56 : Value).ownBlock ∧ some k_ ≠ (.slice Ao57 t267.length co57 : Value).ownBlock ∧ some k_ ≠ (v281 : Value).ownBlock) v277 t276) := ⟨h6_⟩
     have n7_ : Aside0 (Kd.R Kd.string 9 w63 w.heap.size (fun k_ => some k_ ≠ (v241 : Value).ownBlock ∧ some k_ ≠ (v245 : Value).ownBlock ∧ some k_ ≠ (.slice Ao43 t252.length co43 : Value).ownBlock ∧ some k_ ≠ (.slice Ao46 t256.length co46 : Value).ownBlock ∧ some k_ ≠ (.slice Ao56 t263.length co56 : Value).ownBlock ∧ some k_ ≠ (.slice Ao57 t267.length co57 : Value).ownBlock ∧ some k_ ≠ (v277 : Value).ownBlock) v281 t280) := ⟨h7_⟩
     have n8_ : Aside0 (w63.heap[gb234]? = some (.cells #[.int .i64 a0_0,.int .i64 a0_1,.slice A0_2 l0_2.length c0_2,.int .i64 a0_3,.slice A0_4 l0_4.length c0_4] 24 (0,0))) := ⟨h8_⟩
     have n9_ : Aside0 (w63.heap[gb235]? = some (.cells #[.int .i64 a1_0,.int .i64 a1_1,.string a1_2] 41 (0,0))) := ⟨h9_⟩
     have n10_ : Aside0 (w63.heap[gb260]? = some (.cells #[.int .i64 t250,.int .i64 t251,.slice Ao43 t252.length co43,.int .i64 t255,.slice Ao46 t256.length co46] 26 (0,0))) := ⟨h10_⟩
     have n11_ : Aside0 (w63.heap[gb270]? = some (.cells #[.int .i64 t261,.int .i64 t262,.slice Ao56 t263.length co56,.int .i64 t266,.slice Ao57 t267.length co57] 26 (0,0))) := ⟨h11_⟩
     have n12_ : Aside0 (w63.heap[gb284]? = some (.cells #[.int .i64 0,.int .i64 0,.slice none 0 0,.int .i64 0,.slice none 0 0] 26 (0,0))) := ⟨h12_⟩
     have n13_ : Aside0 (w.heap.size ≤ gb284) := ⟨h13_⟩
     have n14_ : Aside0 (w.heap.size ≤ gb284) := ⟨h14_⟩
     have n15_ : Aside0 (gb234 ≠ gb284) := ⟨h15_⟩
     have n16_ : Aside0 (gb284 ≠ gb234) := ⟨h16_⟩
     have n17_ : Aside0 (gb235 ≠ gb284) := ⟨h17_⟩
     have n18_ : Aside0 (gb284 ≠ gb235) := ⟨h18_⟩
     have n19_ : Aside0 (gb260 ≠ gb284) := ⟨h19_⟩
     have n20_ : Aside0 (gb284 ≠ gb260) := ⟨h20_⟩
     have n21_ : Aside0 (gb270 ≠ gb284) := ⟨h21_⟩
     have n22_ : Aside0 (gb284 ≠ gb270) := ⟨h22_⟩
     have n23_ : Aside0 (Below w.heap.size w w63) := ⟨h23_⟩
     clear HO242 HO246 HO254 HO258 HO265 HO269 BK234 BK235 BK260 BK270 HB h0_ h1_ h2_ h3_ h4_ h5_ h6_ h7_ h8_ h9_ h10_ h11_ h12_ h13_ h14_ h15_ h16_ h17_ h18_ h19_ h20_ h21_ h22_ h23_
     have HO242 := n0_
     have HO246 := n1_
     have HO254 := n2_
     have HO258 := n3_
     have HO265 := n4_
     have HO269 := n5_
     have HO278 := n6_
     have HO282 := n7_
     have BK234 := n8_
     have BK235 := n9_
     have BK260 := n10_
     have BK270 := n11_
     have BK284 := n12_
     have GW284 := n13_
     have GE284 := n14_
     have NB234_284 := n15_
     have NB284_234 := n16_
     have NB235_284 := n17_
     have NB284_235 := n18_
     have NB260_284 := n19_
     have NB284_260 := n20_
     have NB270_284 := n21_
     have NB284_270 := n22_
     have HB := n23_
     clear n0_ n1_ n2_ n3_ n4_ n5_ n6_ n7_ n8_ n9_ n10_ n11_ n12_ n13_ n14_ n15_ n16_ n17_ n18_ n19_ n20_ n21_ n22_ n23_
     have hHeld : w63.cell? ⟨gb270,0,none⟩ = some (.int .i64 t261) ∧ w63.cell? ⟨gb270,1,none⟩ = some (.int .i64 t262) ∧ w63.cell? ⟨gb270,2,none⟩ = some (.slice Ao56 t263.length co56) ∧ w63.cell? ⟨gb270,3,none⟩ = some (.int .i64 t266) ∧ w63.cell? ⟨gb270,4,none⟩ = some (.slice Ao57 t267.length co57) ∧ w63.cell? ⟨gb235,0,none⟩ = some (.int .i64 a1_0) ∧ w63.cell? ⟨gb235,1,none⟩ = some (.int .i64 a1_1) ∧ w63.cell? ⟨gb235,2,none⟩ = some (.string a1_2) := hS_
     obtain ⟨Ao66,co66,eo66,_⟩ := Kd.Q_slice HO278.out
     (first | subst eo66 | (injection eo66 with f1_ f2_ f3_; have f4_ := f1_.symm; have f5_ := f3_.symm; clear f1_ f2_ f3_; subst f4_; subst f5_))
     obtain ⟨Ao69,co69,eo69⟩ := Kd.R_slice HO282.out
     (first | subst eo69 | (injection eo69 with f1_ f2_ f3_; have f4_ := f1_.symm; have f5_ := f3_.symm; clear f1_ f2_ f3_; subst f4_; subst f5_))
     refine norm_ (a' := ?_) ?_ ?_
     rotate_left
     · simp only [putAll,Act.put,List.setIfInBounds_toArray,List.set_cons_zero,List.set_cons_succ]; rfl
     refine one_ (i := 8) (N := none) #[true,true,true,true,true,true,true,true,true,false] rfl rfl (one_of HT_.out (by kernel_rfl)) (by decide) (fun K hK => ?_)
     have hs64 : w63.cell? ⟨gb284,0,none⟩ = some (.int .i64 0) := (zW BK284.out 0).trans rfl
     have hfs64 := zU BK284.out 0
     have hns64_0 := NB234_284.out
     have hns64_1 := NB235_284.out
     have hns64_2 := NB260_284.out
     have hns64_3 := NB270_284.out
     have hms64_0 := NB284_234.out
     have hms64_1 := NB284_235.out
     have hms64_2 := NB284_260.out
     have hms64_3 := NB284_270.out
     have hs65 : w63.cell? ⟨gb284,1,none⟩ = some (.int .i64 0) := (zW BK284.out 1).trans rfl
     have hfs65 := zU BK284.out 1
     have hns65_0 := NB234_284.out
     have hns65_1 := NB235_284.out
     have hns65_2 := NB260_284.out
     have hns65_3 := NB270_284.out
     have hms65_0 := NB284_234.out
     have hms65_1 := NB284_235.out
     have hms65_2 := NB284_260.out
     have hms65_3 := NB284_270.out
     have hs67 : w63.cell? ⟨gb284,2,none⟩ = some (.slice none 0 0) := (zW BK284.out 2).trans rfl
     have hfs67 := zU BK284.out 2
     have hns67_0 := NB234_284.out
     have hns67_1 := NB235_284.out
     have hns67_2 := NB260_284.out
     have hns67_3 := NB270_284.out
     have hms67_0 := NB284_234.out
     have hms67_1 := NB284_235.out
     have hms67_2 := NB284_260.out
     have hms67_3 := NB284_270.out
     have hs68 : w63.cell? ⟨gb284,3,none⟩ = some (.int .i64 0) := (zW BK284.out 3).trans rfl
     have hfs68 := zU BK284.out 3
     have hns68_0 := NB234_284.out
     have hns68_1 := NB235_284.out
     have hns68_2 := NB260_284.out
     have hns68_3 := NB270_284.out
     have hms68_0 := NB284_234.out
     have hms68_1 := NB284_235.out
     have hms68_2 := NB284_260.out
     have hms68_3 := NB284_270.out
     have hs70 : w63.cell? ⟨gb284,4,none⟩ = some (.slice none 0 0) := (zW BK284.out 4).trans rfl
     have hfs70 := zU BK284.out 4
     have hns70_0 := NB234_284.out
     have hns70_1 := NB235_284.out
     have hns70_2 := NB260_284.out
     have hns70_3 := NB270_284.out
     have hms70_0 := NB284_234.out
     have hms70_1 := NB284_235.out
     have hms70_2 := NB284_260.out
     have hms70_3 := NB284_270.out
     refine skip_ (w1 := ?_) (by rfl) rfl ?_ ?_
     rotate_left
     · go_simp; rfl
     refine hK.out _ _ ⟨((cell_far (p := ⟨gb284,_,none⟩) NB270_284.out _).trans (((cell_far (p := ⟨gb284,_,none⟩) NB270_284.out _).trans (((cell_far (p := ⟨gb284,_,none⟩) NB270_284.out _).trans (((cell_far (p := ⟨gb284,_,none⟩) NB270_284.out _).trans (((cell_far (p := ⟨gb284,_,none⟩) NB270_284.out _).trans (hHeld.1)))))))))),((cell_far (p := ⟨gb284,_,none⟩) NB270_284.out _).trans (((cell_far (p := ⟨gb284,_,none⟩) NB270_284.out _).trans (((cell_far (p := ⟨gb284,_,none⟩) NB270_284.out _).trans (((cell_far (p := ⟨gb284,_,none⟩) NB270_284.out _).trans (((cell_far (p := ⟨gb284,_,none⟩) NB270_284.out _).trans (hHeld.2.1)))))))))),((cell_far (p := ⟨gb284,_,none⟩) NB270_284.out _).trans (((cell_far (p := ⟨gb284,_,none⟩) NB270_284.out _).trans (((cell_far (p := ⟨gb284,_,none⟩) NB270_284.out _).trans (((cell_far (p := ⟨gb284,_,none⟩) NB270_284.out _).trans (((cell_far (p := ⟨gb284,_,none⟩) NB270_284.out _).trans (hHeld.2.2.1)))))))))),((cell_far (p := ⟨gb284,_,none⟩) NB270_284.out _).trans (((cell_far (p := ⟨gb284,_,none⟩) NB270_284.out _).trans (((cell_far (p := ⟨gb284,_,none⟩) NB270_284.out _).trans (((cell_far (p := ⟨gb284,_,none⟩) NB270_284.out _).trans (((cell_far (p := ⟨gb284,_,none⟩) NB270_284.out _).trans (hHeld.2.2.2.1)))))))))),((cell_far (p := ⟨gb284,_,none⟩) NB270_284.out _).trans (((cell_far (p := ⟨gb284,_,none⟩) NB270_284.out _).trans (((cell_far (p := ⟨gb284,_,none⟩) NB270_284.out _).trans (((cell_far (p := ⟨gb284,_,none⟩) NB270_284.out _).trans (((cell_far (p := ⟨gb284,_,none⟩) NB270_284.out _).trans (hHeld.2.2.2.2.1)))))))))),((cell_far (p := ⟨gb284,_,none⟩) NB235_284.out _).trans (((cell_far (p := ⟨gb284,_,none⟩) NB235_284.out _).trans (((cell_far (p := ⟨gb284,_,none⟩) NB235_284.out _).trans (((cell_far (p := ⟨gb284,_,none⟩) NB235_284.out _).trans (((cell_far (p := ⟨gb284,_,none⟩) NB235_284.out _).trans (hHeld.2.2.2.2.2.1)))))))))),((cell_far (p := ⟨gb284,_,none⟩) NB235_284.out _).trans (((cell_far (p := ⟨gb284,_,none⟩) NB235_284.out _).trans (((cell_far (p := ⟨gb284,_,none⟩) NB235_284.out _).trans (((cell_far (p := ⟨gb284,_,none⟩) NB235_284.out _).trans (((cell_far (p := ⟨gb284,_,none⟩) NB235_284.out _).trans (hHeld.2.2.2.2.2.2.1)))))))))),((cell_far (p := ⟨gb284,_,none⟩) NB235_284.out _).trans (((cell_far (p := ⟨gb284,_,none⟩) NB235_284.out _).trans (((cell_far (p := ⟨gb284,_,none⟩) NB235_284.out _).trans (((cell_far (p := ⟨gb284,_,none⟩) NB235_284.out _).trans (((cell_far (p := ⟨gb284,_,none⟩) NB235_284.out _).trans (hHeld.2.2.2.2.2.2.2))))))))))⟩ (fun hHeld => ?_)
     clear hK K
     refine pure_ (i := 9) (N := some 10) (v := ?_) (a' := ?_) #[true,true,true,true,true,true,true,true,true,true] rfl rfl (any_of HT_.out (by kernel_rfl)) (fun _ _ _ h => h) (Or.inl ⟨by rfl,?_⟩) ?_ ?_; rotate_left
     · intro w'; go_simp; with_reducible rfl
     rotate_left
     · simp only [Act.put,List.setIfInBounds_toArray,List.set_cons_zero,List.set_cons_succ,i64_w,i32_w]; rfl
     refine done_ (done_of HT_.out (by kernel_rfl)) ?_
     go_upto_region 11 with (fail)
     go_cut [51] (fun v51 wc => ∃ (kq : Nat) (x51_24 : Bool),v51 = .bool x51_24 ∧ Aside0 (laws_FnExactReceive.j0 kq t259 t283 x51_24 a0_0 a0_1 l0_2 a0_3 l0_4 a1_0 a1_1 a1_2 t250 t251 t252 t255 t256 t261 t262 t263 t266 t267 t274 t275 t276 t279 t280 = some r) ∧ Aside0 (kq ≤ k) ∧ Aside0 (Kd.Q Kd.string 9 wc w.heap.size (fun k_ => some k_ ≠ ((.slice Ao46 t256.length co46) : Value).ownBlock ∧ some k_ ≠ ((.slice Ao56 t263.length co56) : Value).ownBlock ∧ some k_ ≠ ((.slice Ao57 t267.length co57) : Value).ownBlock ∧ some k_ ≠ ((.slice Ao66 t276.length co66) : Value).ownBlock ∧ some k_ ≠ ((.slice Ao69 t280.length co69) : Value).ownBlock) (.slice Ao43 t252.length co43) t252) ∧ Aside0 (Kd.R Kd.string 9 wc w.heap.size (fun k_ => some k_ ≠ ((.slice Ao43 t252.length co43) : Value).ownBlock ∧ some k_ ≠ ((.slice Ao56 t263.length co56) : Value).ownBlock ∧ some k_ ≠ ((.slice Ao57 t267.length co57) : Value).ownBlock ∧ some k_ ≠ ((.slice Ao66 t276.length co66) : Value).ownBlock ∧ some k_ ≠ ((.slice Ao69 t280.length co69) : Value).ownBlock) (.slice Ao46 t256.length co46) t256) ∧ Aside0 (Kd.Q Kd.string 9 wc w.heap.size (fun k_ => some k_ ≠ ((.slice Ao43 t252.length co43) : Value).ownBlock ∧ some k_ ≠ ((.slice Ao46 t256.length co46) : Value).ownBlock ∧ some k_ ≠ ((.slice Ao57 t267.length co57) : Value).ownBlock ∧ some k_ ≠ ((.slice Ao66 t276.length co66) : Value).ownBlock ∧ some k_ ≠ ((.slice Ao69 t280.length co69) : Value).ownBlock) (.slice Ao56 t263.length co56) t263) ∧ Aside0 (Kd.R Kd.string 9 wc w.heap.size (fun k_ => some k_ ≠ ((.slice Ao43 t252.length co43) : Value).ownBlock ∧ some k_ ≠ ((.slice Ao46 t256.length co46) : Value).ownBlock ∧ some k_ ≠ ((.slice Ao56 t263.length co56) : Value).ownBlock ∧ some k_ ≠ ((.slice Ao66 t276.length co66) : Value).ownBlock ∧ some k_ ≠ ((.slice Ao69 t280.length co69) : Value).ownBlock) (.slice Ao57 t267.length co57) t267) ∧ Aside0 (Kd.Q Kd.string 9 wc w.heap.size (fun k_ => some k_ ≠ ((.slice Ao43 t252.length co43) : Value).ownBlock ∧ some k_ ≠ ((.slice Ao46 t256.length co46) : Value).ownBlock ∧ some k_ ≠ ((.slice Ao56 t263.length co56) : Value).ownBlock ∧ some k_ ≠ ((.slice Ao57 t267.length co57) : Value).ownBlock ∧ some k_ ≠ ((.slice Ao69 t280.length co69) : Value).ownBlock) (.slice Ao66 t276.length co66) t276) ∧ Aside0 (Kd.R Kd.string 9 wc w.heap.size (fun k_ => some k_ ≠ ((.slice Ao43 t252.length co43) : Value).ownBlock ∧ some k_ ≠ ((.slice Ao46 t256.length co46) : Value).ownBlock ∧ some k_ ≠ ((.slice Ao56 t263.length co56) : Value).ownBlock ∧ some k_ ≠ ((.slice Ao57 t267.length co57) : Value).ownBlock ∧ some k_ ≠ ((.slice Ao66 t276.length co66) : Value).ownBlock) (.slice Ao69 t280.length co69) t280) ∧ Aside0 (wc.heap[gb234]? = some (.cells #[.int .i64 a0_0,.int .i64 a0_1,(.slice A0_2 l0_2.length c0_2),.int .i64 a0_3,(.slice A0_4 l0_4.length c0_4)] 24 (0,0))) ∧ Aside0 (wc.heap[gb235]? = some (.cells #[.int .i64 a1_0,.int .i64 a1_1,.string a1_2] 41 (0,0))) ∧ Aside0 (wc.heap[gb260]? = some (.cells #[.int .i64 t250,.int .i64 t251,(.slice Ao43 t252.length co43),.int .i64 t255,(.slice Ao46 t256.length co46)] 26 (0,0))) ∧ Aside0 (wc.heap[gb270]? = some (.cells #[.int .i64 t261,.int .i64 t262,(.slice Ao56 t263.length co56),.int .i64 t266,(.slice Ao57 t267.length co57)] 26 (0,0))) ∧ Aside0 (wc.heap[gb284]? = some (.cells #[.int .i64 t274,.int .i64 t275,(.slice Ao66 t276.length co66),.int .i64 t279,(.slice Ao69 t280.length co69)] 26 (0,0))) ∧ Aside0 (Below w.heap.size w wc))
     case first =>
      have H := HC25.out
      clear HC25
      replace H := Option.bind_eq_some_iff.mp H
      obtain ⟨t285,A710,H⟩ := H
      replace H : (if t285 = true then (laws_FnExactReceive.j0 k t259 t283 (t283 != t259) a0_0 a0_1 l0_2 a0_3 l0_4 a1_0 a1_1 a1_2 t250 t251 t252 t255 t256 t261 t262 t263 t266 t267 t274 t275 t276 t279 t280) else (laws_FnExactReceive.j0 k t259 t283 true a0_0 a0_1 l0_2 a0_3 l0_4 a1_0 a1_1 a1_2 t250 t251 t252 t255 t256 t261 t262 t263 t266 t267 t274 t275 t276 t279 t280)) = some r := H
      have A71 := zA A710
      clear A710
      by_cases c72 : t285 = true
      ·
       subst c72
       have H1 : (laws_FnExactReceive.j0 k t259 t283 (t283 != t259) a0_0 a0_1 l0_2 a0_3 l0_4 a1_0 a1_1 a1_2 t250 t251 t252 t255 t256 t261 t262 t263 t266 t267 t274 t275 t276 t279 t280) = some r := by rw [if_pos rfl] at H; exact H
       clear H; have H := H1; clear H1
       have H' := zA H
       clear H
       have hnb73 := NB284_234.out
       have hnc73 := NB234_284.out
       have hnb74 := NB284_235.out
       have hnc74 := NB235_284.out
       have hnb75 := NB284_260.out
       have hnc75 := NB260_284.out
       have hnb76 := NB284_270.out
       have hnc76 := NB270_284.out
       have hcz77_0 : w63.cell? ⟨gb284,0,none⟩ = some (.int .i64 0) := (zW BK284.out 0).trans rfl
       have hcz77_1 : w63.cell? ⟨gb284,1,none⟩ = some (.int .i64 0) := (zW BK284.out 1).trans rfl
       have hcz77_2 : w63.cell? ⟨gb284,2,none⟩ = some (.slice none 0 0) := (zW BK284.out 2).trans rfl
       have hcz77_3 : w63.cell? ⟨gb284,3,none⟩ = some (.int .i64 0) := (zW BK284.out 3).trans rfl
       have hcz77_4 : w63.cell? ⟨gb284,4,none⟩ = some (.slice none 0 0) := (zW BK284.out 4).trans rfl
       have hfz77_0 := zU BK284.out 0
       have hfz77_1 := zU BK284.out 1
       have hfz77_2 := zU BK284.out 2
       have hfz77_3 := zU BK284.out 3
       have hfz77_4 := zU BK284.out 4
       have hnb78 := NB260_234.out
       have hnc78 := NB234_260.out
       have hnb79 := NB260_235.out
       have hnc79 := NB235_260.out
       have hnb80 := NB260_270.out
       have hnc80 := NB270_260.out
       have hcz81_0 : w63.cell? ⟨gb260,0,none⟩ = some (.int .i64 t250) := (zW BK260.out 0).trans rfl
       have hcz81_1 : w63.cell? ⟨gb260,1,none⟩ = some (.int .i64 t251) := (zW BK260.out 1).trans rfl
       have hcz81_2 : w63.cell? ⟨gb260,2,none⟩ = some (.slice Ao43 t252.length co43) := (zW BK260.out 2).trans rfl
       have hcz81_3 : w63.cell? ⟨gb260,3,none⟩ = some (.int .i64 t255) := (zW BK260.out 3).trans rfl
       have hcz81_4 : w63.cell? ⟨gb260,4,none⟩ = some (.slice Ao46 t256.length co46) := (zW BK260.out 4).trans rfl
       have hfz81_0 := zU BK260.out 0
       have hfz81_1 := zU BK260.out 1
       have hfz81_2 := zU BK260.out 2
       have hfz81_3 := zU BK260.out 3
       have hfz81_4 := zU BK260.out 4
       go_wp2_with (first | ((with_reducible refine gate_callee (f := 15) rfl ?_); refine goesL_ (some 45) rfl rfl Try.func15 (by kernel_rfl) rfl #[.agg #[.int .i64 t274,.int .i64 t275,.slice Ao66 t276.length co66,.int .i64 t279,.slice Ao69 t280.length co69],.agg #[.int .i64 t250,.int .i64 t251,.slice Ao43 t252.length co43,.int .i64 t255,.slice Ao46 t256.length co46]] rfl (by (try simp only [List.map_toArray,List.map_cons,List.map_nil]); first | done|rfl|(simp only [List.length_drop,List.length_take]; rfl)) ?_; (with_reducible refine (laws_eqEnd.calls k t274 t275 _ _ t276 t279 _ _ t280 t250 t251 _ _ t252 t255 _ _ t256 true _ ?side1 ?side2 ?side3 ?side4 ?side5 ?side6 ?side7 ?side8 A71.out).mono ?_); (case side1 => refine (Kd.Q_reads' (e := 9) (base := w.heap.size) (ok := fun k_ => (some k_ ≠ (v241 : Value).ownBlock ∧ (some k_ ≠ (v245 : Value).ownBlock ∧ (some k_ ≠ (.slice Ao43 t252.length co43 : Value).ownBlock ∧ (some k_ ≠ (.slice Ao46 t256.length co46 : Value).ownBlock ∧ (some k_ ≠ (.slice Ao56 t263.length co56 : Value).ownBlock ∧ (some k_ ≠ (.slice Ao57 t267.length co57 : Value).ownBlock ∧ some k_ ≠ (.slice Ao69 t280.length co69 : Value).ownBlock))))))) (n := t276.length) (c := co66) ?_).2.2; exact (by (with_reducible repeat (first|apply Kd.Q_alloc|apply Kd.Q_drewN|apply Kd.Q_drew)); exact (Kd.Q_mono (Kd.Q_far (p := ⟨gb284,4,none⟩) (Kd.Q_far (p := ⟨gb284,3,none⟩) (Kd.Q_far (p := ⟨gb284,2,none⟩) (Kd.Q_far (p := ⟨gb284,1,none⟩) (Kd.Q_far (p := ⟨gb284,0,none⟩) (Kd.Q_types HO278.out BK284.out (by decide)) (fun _ h=>h.2) (.int .i64 t274)) (fun _ h=>h.2) (.int .i64 t275)) (fun _ h=>h.2) (.slice Ao66 t276.length co66)) (fun _ h=>h.2) (.int .i64 t279)) (fun _ h=>h.2) (.slice Ao69 t280.length co69)) (fun _ h_ => h_.1)))); (case side2 => exact (Kd.Q_reads' HO278.out).2.1); (case side3 => refine (zI (e := 9) (base := w.heap.size) (ok := fun k_ => (some k_ ≠ (v241 : Value).ownBlock ∧ (some k_ ≠ (v245 : Value).ownBlock ∧ (some k_ ≠ (.slice Ao43 t252.length co43 : Value).ownBlock ∧ (some k_ ≠ (.slice Ao46 t256.length co46 : Value).ownBlock ∧ (some k_ ≠ (.slice Ao56 t263.length co56 : Value).ownBlock ∧ (some k_ ≠ (.slice Ao57 t267.length co57 : Value).ownBlock ∧ some k_ ≠ (.slice Ao66 t276.length co66 : Value).ownBlock))))))) (n := t280.length) (c := co69) ?_).2.2; exact (rrA19 (zC (zB (p := ⟨gb284,4,none⟩) (zB (p := ⟨gb284,3,none⟩) (zB (p := ⟨gb284,2,none⟩) (zB (p := ⟨gb284,1,none⟩) (zB (p := ⟨gb284,0,none⟩) (zH HO282.out BK284.out (by decide)) (fun _ h=>h.2) (.int .i64 t274)) (fun _ h=>h.2) (.int .i64 t275)) (fun _ h=>h.2) (.slice Ao66 t276.length co66)) (fun _ h=>h.2) (.int .i64 t279)) (fun _ h=>h.2) (.slice Ao69 t280.length co69)) (fun _ h_ => h_.1)))); (case side4 => exact (zI HO282.out).2.1); (case side5 => refine (zI (e := 9) (base := w.heap.size) (ok := fun k_ => (some k_ ≠ (v241 : Value).ownBlock ∧ (some k_ ≠ (v245 : Value).ownBlock ∧ (some k_ ≠ (.slice Ao46 t256.length co46 : Value).ownBlock ∧ (some k_ ≠ (.slice Ao56 t263.length co56 : Value).ownBlock ∧ (some k_ ≠ (.slice Ao57 t267.length co57 : Value).ownBlock ∧ (some k_ ≠ (.slice Ao66 t276.length co66 : Value).ownBlock ∧ some k_ ≠ (.slice Ao69 t280.length co69 : Value).ownBlock))))))) (n := t252.length) (c := co43) ?_).2.2; exact (rrA19 (zC (zB (p := ⟨gb284,4,none⟩) (zB (p := ⟨gb284,3,none⟩) (zB (p := ⟨gb284,2,none⟩) (zB (p := ⟨gb284,1,none⟩) (zB (p := ⟨gb284,0,none⟩) (zH HO254.out BK284.out (by decide)) (fun _ h=>h.2) (.int .i64 t274)) (fun _ h=>h.2) (.int .i64 t275)) (fun _ h=>h.2) (.slice Ao66 t276.length co66)) (fun _ h=>h.2) (.int .i64 t279)) (fun _ h=>h.2) (.slice Ao69 t280.length co69)) (fun _ h_ => h_.1)))); (case side6 => exact (zI HO254.out).2.1); (case side7 => refine (zI (e := 9) (base := w.heap.size) (ok := fun k_ => (some k_ ≠ (v241 : Value).ownBlock ∧ (some k_ ≠ (v245 : Value).ownBlock ∧ (some k_ ≠ (.slice Ao43 t252.length co43 : Value).ownBlock ∧ (some k_ ≠ (.slice Ao56 t263.length co56 : Value).ownBlock ∧ (some k_ ≠ (.slice Ao57 t267.length co57 : Value).ownBlock ∧ (some k_ ≠ (.slice Ao66 t276.length co66 : Value).ownBlock ∧ some k_ ≠ (.slice Ao69 t280.length co69 : Value).ownBlock))))))) (n := t256.length) (c := co46) ?_).2.2; exact (rrA19 (zC (zB (p := ⟨gb284,4,none⟩) (zB (p := ⟨gb284,3,none⟩) (zB (p := ⟨gb284,2,none⟩) (zB (p := ⟨gb284,1,none⟩) (zB (p := ⟨gb284,0,none⟩) (zH HO258.out BK284.out (by decide)) (fun _ h=>h.2) (.int .i64 t274)) (fun _ h=>h.2) (.int .i64 t275)) (fun _ h=>h.2) (.slice Ao66 t276.length co66)) (fun _ h=>h.2) (.int .i64 t279)) (fun _ h=>h.2) (.slice Ao69 t280.length co69)) (fun _ h_ => h_.1)))); (case side8 => exact (zI HO258.out).2.1); rintro e w82 ⟨rfl,hb⟩; refine ⟨_,rfl,?_⟩; have n0_ := zA (zD (rrA19 (zC (zB (p := ⟨gb284,4,none⟩) (zB (p := ⟨gb284,3,none⟩) (zB (p := ⟨gb284,2,none⟩) (zB (p := ⟨gb284,1,none⟩) (zB (p := ⟨gb284,0,none⟩) (zH HO242.out BK284.out (by decide)) (fun _ h=>h.2) (.int .i64 t274)) (fun _ h=>h.2) (.int .i64 t275)) (fun _ h=>h.2) (.slice Ao66 t276.length co66)) (fun _ h=>h.2) (.int .i64 t279)) (fun _ h=>h.2) (.slice Ao69 t280.length co69)) (fun _ h_ => h_.1))) hb); have n1_ := zA (zD (rrA19 (zC (zB (p := ⟨gb284,4,none⟩) (zB (p := ⟨gb284,3,none⟩) (zB (p := ⟨gb284,2,none⟩) (zB (p := ⟨gb284,1,none⟩) (zB (p := ⟨gb284,0,none⟩) (zH HO246.out BK284.out (by decide)) (fun _ h=>h.2) (.int .i64 t274)) (fun _ h=>h.2) (.int .i64 t275)) (fun _ h=>h.2) (.slice Ao66 t276.length co66)) (fun _ h=>h.2) (.int .i64 t279)) (fun _ h=>h.2) (.slice Ao69 t280.length co69)) (fun _ h_ => h_.1))) hb); have n2_ := zA (zD (rrA19 (zC (zB (p := ⟨gb284,4,none⟩) (zB (p := ⟨gb284,3,none⟩) (zB (p := ⟨gb284,2,none⟩) (zB (p := ⟨gb284,1,none⟩) (zB (p := ⟨gb284,0,none⟩) (zH HO254.out BK284.out (by decide)) (fun _ h=>h.2) (.int .i64 t274)) (fun _ h=>h.2) (.int .i64 t275)) (fun _ h=>h.2) (.slice Ao66 t276.length co66)) (fun _ h=>h.2) (.int .i64 t279)) (fun _ h=>h.2) (.slice Ao69 t280.length co69)) (fun _ h_ => h_.1))) hb); have n3_ := zA (zD (rrA19 (zC (zB (p := ⟨gb284,4,none⟩) (zB (p := ⟨gb284,3,none⟩) (zB (p := ⟨gb284,2,none⟩) (zB (p := ⟨gb284,1,none⟩) (zB (p := ⟨gb284,0,none⟩) (zH HO258.out BK284.out (by decide)) (fun _ h=>h.2) (.int .i64 t274)) (fun _ h=>h.2) (.int .i64 t275)) (fun _ h=>h.2) (.slice Ao66 t276.length co66)) (fun _ h=>h.2) (.int .i64 t279)) (fun _ h=>h.2) (.slice Ao69 t280.length co69)) (fun _ h_ => h_.1))) hb); have n4_ := zA (zD (rrA19 (zC (zB (p := ⟨gb284,4,none⟩) (zB (p := ⟨gb284,3,none⟩) (zB (p := ⟨gb284,2,none⟩) (zB (p := ⟨gb284,1,none⟩) (zB (p := ⟨gb284,0,none⟩) (zH HO265.out BK284.out (by decide)) (fun _ h=>h.2) (.int .i64 t274)) (fun _ h=>h.2) (.int .i64 t275)) (fun _ h=>h.2) (.slice Ao66 t276.length co66)) (fun _ h=>h.2) (.int .i64 t279)) (fun _ h=>h.2) (.slice Ao69 t280.length co69)) (fun _ h_ => h_.1))) hb); have n5_ := zA (zD (rrA19 (zC (zB (p := ⟨gb284,4,none⟩) (zB (p := ⟨gb284,3,none⟩) (zB (p := ⟨gb284,2,none⟩) (zB (p := ⟨gb284,1,none⟩) (zB (p := ⟨gb284,0,none⟩) (zH HO269.out BK284.out (by decide)) (fun _ h=>h.2) (.int .i64 t274)) (fun _ h=>h.2) (.int .i64 t275)) (fun _ h=>h.2) (.slice Ao66 t276.length co66)) (fun _ h=>h.2) (.int .i64 t279)) (fun _ h=>h.2) (.slice Ao69 t280.length co69)) (fun _ h_ => h_.1))) hb); have n6_ := zA (Kd.Q_below (by (with_reducible repeat (first|apply Kd.Q_alloc|apply Kd.Q_drewN|apply Kd.Q_drew)); exact (Kd.Q_mono (Kd.Q_far (p := ⟨gb284,4,none⟩) (Kd.Q_far (p := ⟨gb284,3,none⟩) (Kd.Q_far (p := ⟨gb284,2,none⟩) (Kd.Q_far (p := ⟨gb284,1,none⟩) (Kd.Q_far (p := ⟨gb284,0,none⟩) (Kd.Q_types HO278.out BK284.out (by decide)) (fun _ h=>h.2) (.int .i64 t274)) (fun _ h=>h.2) (.int .i64 t275)) (fun _ h=>h.2) (.slice Ao66 t276.length co66)) (fun _ h=>h.2) (.int .i64 t279)) (fun _ h=>h.2) (.slice Ao69 t280.length co69)) (fun _ h_ => h_.1))) hb); have n7_ := zA (zD (rrA19 (zC (zB (p := ⟨gb284,4,none⟩) (zB (p := ⟨gb284,3,none⟩) (zB (p := ⟨gb284,2,none⟩) (zB (p := ⟨gb284,1,none⟩) (zB (p := ⟨gb284,0,none⟩) (zH HO282.out BK284.out (by decide)) (fun _ h=>h.2) (.int .i64 t274)) (fun _ h=>h.2) (.int .i64 t275)) (fun _ h=>h.2) (.slice Ao66 t276.length co66)) (fun _ h=>h.2) (.int .i64 t279)) (fun _ h=>h.2) (.slice Ao69 t280.length co69)) (fun _ h_ => h_.1))) hb); have n8_ := zA (zV (g := gb234) (o := .cells #[.int .i64 a0_0,.int .i64 a0_1,.slice A0_2 l0_2.length c0_2,.int .i64 a0_3,.slice A0_4 l0_4.length c0_4] 24 (0,0)) (by (with_reducible repeat (first|refine zR ?_ _|refine zT ?_|refine zS ?_ _)); refine zX ?_ NB234_284.out _; (with_reducible repeat (first|refine zR ?_ _|refine zT ?_|refine zS ?_ _)); refine zX ?_ NB234_284.out _; (with_reducible repeat (first|refine zR ?_ _|refine zT ?_|refine zS ?_ _)); refine zX ?_ NB234_284.out _; (with_reducible repeat (first|refine zR ?_ _|refine zT ?_|refine zS ?_ _)); refine zX ?_ NB234_284.out _; (with_reducible repeat (first|refine zR ?_ _|refine zT ?_|refine zS ?_ _)); refine zX ?_ NB234_284.out _; (with_reducible repeat (first|refine zR ?_ _|refine zT ?_|refine zS ?_ _)); exact BK234.out) hb); have n9_ := zA (zV (g := gb235) (o := .cells #[.int .i64 a1_0,.int .i64 a1_1,.string a1_2] 41 (0,0)) (by (with_reducible repeat (first|refine zR ?_ _|refine zT ?_|refine zS ?_ _)); refine zX ?_ NB235_284.out _; (with_reducible repeat (first|refine zR ?_ _|refine zT ?_|refine zS ?_ _)); refine zX ?_ NB235_284.out _; (with_reducible repeat (first|refine zR ?_ _|refine zT ?_|refine zS ?_ _)); refine zX ?_ NB235_284.out _; (with_reducible repeat (first|refine zR ?_ _|refine zT ?_|refine zS ?_ _)); refine zX ?_ NB235_284.out _; (with_reducible repeat (first|refine zR ?_ _|refine zT ?_|refine zS ?_ _)); refine zX ?_ NB235_284.out _; (with_reducible repeat (first|refine zR ?_ _|refine zT ?_|refine zS ?_ _)); exact BK235.out) hb); have n10_ := zA (zV (g := gb260) (o := .cells #[.int .i64 t250,.int .i64 t251,.slice Ao43 t252.length co43,.int .i64 t255,.slice Ao46 t256.length co46] 26 (0,0)) (by (with_reducible repeat (first|refine zR ?_ _|refine zT ?_|refine zS ?_ _)); refine zX ?_ NB260_284.out _; (with_reducible repeat (first|refine zR ?_ _|refine zT ?_|refine zS ?_ _)); refine zX ?_ NB260_284.out _; (with_reducible repeat (first|refine zR ?_ _|refine zT ?_|refine zS ?_ _)); refine zX ?_ NB260_284.out _; (with_reducible repeat (first|refine zR ?_ _|refine zT ?_|refine zS ?_ _)); refine zX ?_ NB260_284.out _; (with_reducible repeat (first|refine zR ?_ _|refine zT ?_|refine zS ?_ _)); refine zX ?_ NB260_284.out _; (with_reducible repeat (first|refine zR ?_ _|refine zT ?_|refine zS ?_ _)); exact BK260.out) hb); have n11_ := zA (zV (g := gb270) (o := .cells #[.int .i64 t261,.int .i64 t262,.slice Ao56 t263.length co56,.int .i64 t266,.slice Ao57 t267.length co57] 26 (0,0)) (by (with_reducible repeat (first|refine zR ?_ _|refine zT ?_|refine zS ?_ _)); refine zX ?_ NB270_284.out _; (with_reducible repeat (first|refine zR ?_ _|refine zT ?_|refine zS ?_ _)); refine zX ?_ NB270_284.out _; (with_reducible repeat (first|refine zR ?_ _|refine zT ?_|refine zS ?_ _)); refine zX ?_ NB270_284.out _; (with_reducible repeat (first|refine zR ?_ _|refine zT ?_|refine zS ?_ _)); refine zX ?_ NB270_284.out _; (with_reducible repeat (first|refine zR ?_ _|refine zT ?_|refine zS ?_ _)); refine zX ?_ NB270_284.out _; (with_reducible repeat (first|refine zR ?_ _|refine zT ?_|refine zS ?_ _)); exact BK270.out) hb); have n12_ := zA (zV (g := gb284) (o := .cells #[.int .i64 t274,.int .i64 t275,.slice Ao66 t276.length co66,.int .i64 t279,.slice Ao69 t280.length co69] 26 (0,0)) (by (with_reducible repeat (first|refine zR ?_ _|refine zT ?_|refine zS ?_ _)); refine blk_put (cs := #[.int .i64 t274,.int .i64 t275,.slice Ao66 t276.length co66,.int .i64 t279,.slice none 0 0]) ?_ 4 _ rfl; (with_reducible repeat (first|refine zR ?_ _|refine zT ?_|refine zS ?_ _)); refine blk_put (cs := #[.int .i64 t274,.int .i64 t275,.slice Ao66 t276.length co66,.int .i64 0,.slice none 0 0]) ?_ 3 _ rfl; (with_reducible repeat (first|refine zR ?_ _|refine zT ?_|refine zS ?_ _)); refine blk_put (cs := #[.int .i64 t274,.int .i64 t275,.slice none 0 0,.int .i64 0,.slice none 0 0]) ?_ 2 _ rfl; (with_reducible repeat (first|refine zR ?_ _|refine zT ?_|refine zS ?_ _)); refine blk_put (cs := #[.int .i64 t274,.int .i64 0,.slice none 0 0,.int .i64 0,.slice none 0 0]) ?_ 1 _ rfl; (with_reducible repeat (first|refine zR ?_ _|refine zT ?_|refine zS ?_ _)); refine blk_put (cs := #[.int .i64 0,.int .i64 0,.slice none 0 0,.int .i64 0,.slice none 0 0]) ?_ 0 _ rfl; (with_reducible repeat (first|refine zR ?_ _|refine zT ?_|refine zS ?_ _)); exact BK284.out) hb); have n13_ := zA (zZ (by repeat (first|(with_reducible first|exact HB.out|apply zO|apply zQ|apply zP|refine zN ?_ GE234.out|refine zN ?_ GE235.out|refine zN ?_ GE260.out|refine zN ?_ GE270.out|refine zN ?_ GE284.out)|exact HB.out)) hb); clear HO242 HO246 HO254 HO258 HO265 HO269 HO278 HO282 BK234 BK235 BK260 BK270 BK284 HB; have HO242 := n0_; have HO246 := n1_; have HO254 := n2_; have HO258 := n3_; have HO265 := n4_; have HO269 := n5_; have HO278 := n6_; have HO282 := n7_; have BK234 := n8_; have BK235 := n9_; have BK260 := n10_; have BK270 := n11_; have BK284 := n12_; have HB := n13_; clear n0_ n1_ n2_ n3_ n4_ n5_ n6_ n7_ n8_ n9_ n10_ n11_ n12_ n13_; (try clear hb); (try clear hb2); (try clear hk); (try clear hi)))
       go_meet
       case rel => exact ⟨_,((t283 != t259)),(by first|rfl|(simp; done)|(simp [*]; done)),H',⟨by first|omega|exact Nat.le_refl _⟩,⟨Kd.Q_of_R (by (with_reducible repeat (first|apply zJ|apply zK|apply zL)); exact zC HO254.out (fun _ hk => ⟨hk.2.2.1,⟨hk.2.2.2.1,⟨hk.2.2.2.2.1,⟨hk.2.2.2.2.2.1,hk.2.2.2.2.2.2⟩⟩⟩⟩))⟩,⟨by (with_reducible repeat (first|apply zJ|apply zK|apply zL)); exact zC HO258.out (fun _ hk => ⟨hk.2.2.1,⟨hk.2.2.2.1,⟨hk.2.2.2.2.1,⟨hk.2.2.2.2.2.1,hk.2.2.2.2.2.2⟩⟩⟩⟩)⟩,⟨Kd.Q_of_R (by (with_reducible repeat (first|apply zJ|apply zK|apply zL)); exact zC HO265.out (fun _ hk => ⟨hk.2.2.1,⟨hk.2.2.2.1,⟨hk.2.2.2.2.1,⟨hk.2.2.2.2.2.1,hk.2.2.2.2.2.2⟩⟩⟩⟩))⟩,⟨by (with_reducible repeat (first|apply zJ|apply zK|apply zL)); exact zC HO269.out (fun _ hk => ⟨hk.2.2.1,⟨hk.2.2.2.1,⟨hk.2.2.2.2.1,⟨hk.2.2.2.2.2.1,hk.2.2.2.2.2.2⟩⟩⟩⟩)⟩,⟨by (with_reducible repeat (first|apply Kd.Q_alloc|apply Kd.Q_drewN|apply Kd.Q_drew)); exact Kd.Q_mono HO278.out (fun _ hk => ⟨hk.2.2.1,⟨hk.2.2.2.1,⟨hk.2.2.2.2.1,⟨hk.2.2.2.2.2.1,hk.2.2.2.2.2.2⟩⟩⟩⟩)⟩,⟨by (with_reducible repeat (first|apply zJ|apply zK|apply zL)); exact zC HO282.out (fun _ hk => ⟨hk.2.2.1,⟨hk.2.2.2.1,⟨hk.2.2.2.2.1,⟨hk.2.2.2.2.2.1,hk.2.2.2.2.2.2⟩⟩⟩⟩)⟩,⟨(rrB19 BK234.out)⟩,⟨(rrB19 BK235.out)⟩,⟨(rrB19 BK260.out)⟩,⟨(rrB19 BK270.out)⟩,⟨(rrB19 BK284.out)⟩,⟨by repeat (first|(with_reducible first|exact HB.out|apply zO|apply zQ|apply zP|refine zN ?_ GE234.out|refine zN ?_ GE235.out|refine zN ?_ GE260.out|refine zN ?_ GE270.out|refine zN ?_ GE284.out)|exact HB.out)⟩⟩
      ·
       replace c72 := Bool.eq_false_iff.mpr c72
       subst c72
       have H1 : (laws_FnExactReceive.j0 k t259 t283 true a0_0 a0_1 l0_2 a0_3 l0_4 a1_0 a1_1 a1_2 t250 t251 t252 t255 t256 t261 t262 t263 t266 t267 t274 t275 t276 t279 t280) = some r := by rw [if_neg (show ¬ (false = true) by decide)] at H; exact H
       clear H; have H := H1; clear H1
       have H' := zA H
       clear H
       have hnb83 := NB284_234.out
       have hnc83 := NB234_284.out
       have hnb84 := NB284_235.out
       have hnc84 := NB235_284.out
       have hnb85 := NB284_260.out
       have hnc85 := NB260_284.out
       have hnb86 := NB284_270.out
       have hnc86 := NB270_284.out
       have hcz87_0 : w63.cell? ⟨gb284,0,none⟩ = some (.int .i64 0) := (zW BK284.out 0).trans rfl
       have hcz87_1 : w63.cell? ⟨gb284,1,none⟩ = some (.int .i64 0) := (zW BK284.out 1).trans rfl
       have hcz87_2 : w63.cell? ⟨gb284,2,none⟩ = some (.slice none 0 0) := (zW BK284.out 2).trans rfl
       have hcz87_3 : w63.cell? ⟨gb284,3,none⟩ = some (.int .i64 0) := (zW BK284.out 3).trans rfl
       have hcz87_4 : w63.cell? ⟨gb284,4,none⟩ = some (.slice none 0 0) := (zW BK284.out 4).trans rfl
       have hfz87_0 := zU BK284.out 0
       have hfz87_1 := zU BK284.out 1
       have hfz87_2 := zU BK284.out 2
       have hfz87_3 := zU BK284.out 3
       have hfz87_4 := zU BK284.out 4
       have hnb88 := NB260_234.out
       have hnc88 := NB234_260.out
       have hnb89 := NB260_235.out
       have hnc89 := NB235_260.out
       have hnb90 := NB260_270.out
       have hnc90 := NB270_260.out
       have hcz91_0 : w63.cell? ⟨gb260,0,none⟩ = some (.int .i64 t250) := (zW BK260.out 0).trans rfl
       have hcz91_1 : w63.cell? ⟨gb260,1,none⟩ = some (.int .i64 t251) := (zW BK260.out 1).trans rfl
       have hcz91_2 : w63.cell? ⟨gb260,2,none⟩ = some (.slice Ao43 t252.length co43) := (zW BK260.out 2).trans rfl
       have hcz91_3 : w63.cell? ⟨gb260,3,none⟩ = some (.int .i64 t255) := (zW BK260.out 3).trans rfl
       have hcz91_4 : w63.cell? ⟨gb260,4,none⟩ = some (.slice Ao46 t256.length co46) := (zW BK260.out 4).trans rfl
       have hfz91_0 := zU BK260.out 0
       have hfz91_1 := zU BK260.out 1
       have hfz91_2 := zU BK260.out 2
       have hfz91_3 := zU BK260.out 3
       have hfz91_4 := zU BK260.out 4
       go_wp2_with (first | ((with_reducible refine gate_callee (f := 15) rfl ?_); refine goesL_ (some 45) rfl rfl Try.func15 (by kernel_rfl) rfl #[.agg #[.int .i64 t274,.int .i64 t275,.slice Ao66 t276.length co66,.int .i64 t279,.slice Ao69 t280.length co69],.agg #[.int .i64 t250,.int .i64 t251,.slice Ao43 t252.length co43,.int .i64 t255,.slice Ao46 t256.length co46]] rfl (by (try simp only [List.map_toArray,List.map_cons,List.map_nil]); first | done|rfl|(simp only [List.length_drop,List.length_take]; rfl)) ?_; (with_reducible refine (laws_eqEnd.calls k t274 t275 _ _ t276 t279 _ _ t280 t250 t251 _ _ t252 t255 _ _ t256 false _ ?side1 ?side2 ?side3 ?side4 ?side5 ?side6 ?side7 ?side8 A71.out).mono ?_); (case side1 => refine (Kd.Q_reads' (e := 9) (base := w.heap.size) (ok := fun k_ => (some k_ ≠ (v241 : Value).ownBlock ∧ (some k_ ≠ (v245 : Value).ownBlock ∧ (some k_ ≠ (.slice Ao43 t252.length co43 : Value).ownBlock ∧ (some k_ ≠ (.slice Ao46 t256.length co46 : Value).ownBlock ∧ (some k_ ≠ (.slice Ao56 t263.length co56 : Value).ownBlock ∧ (some k_ ≠ (.slice Ao57 t267.length co57 : Value).ownBlock ∧ some k_ ≠ (.slice Ao69 t280.length co69 : Value).ownBlock))))))) (n := t276.length) (c := co66) ?_).2.2; exact (by (with_reducible repeat (first|apply Kd.Q_alloc|apply Kd.Q_drewN|apply Kd.Q_drew)); exact (Kd.Q_mono (Kd.Q_far (p := ⟨gb284,4,none⟩) (Kd.Q_far (p := ⟨gb284,3,none⟩) (Kd.Q_far (p := ⟨gb284,2,none⟩) (Kd.Q_far (p := ⟨gb284,1,none⟩) (Kd.Q_far (p := ⟨gb284,0,none⟩) (Kd.Q_types HO278.out BK284.out (by decide)) (fun _ h=>h.2) (.int .i64 t274)) (fun _ h=>h.2) (.int .i64 t275)) (fun _ h=>h.2) (.slice Ao66 t276.length co66)) (fun _ h=>h.2) (.int .i64 t279)) (fun _ h=>h.2) (.slice Ao69 t280.length co69)) (fun _ h_ => h_.1)))); (case side2 => exact (Kd.Q_reads' HO278.out).2.1); (case side3 => refine (zI (e := 9) (base := w.heap.size) (ok := fun k_ => (some k_ ≠ (v241 : Value).ownBlock ∧ (some k_ ≠ (v245 : Value).ownBlock ∧ (some k_ ≠ (.slice Ao43 t252.length co43 : Value).ownBlock ∧ (some k_ ≠ (.slice Ao46 t256.length co46 : Value).ownBlock ∧ (some k_ ≠ (.slice Ao56 t263.length co56 : Value).ownBlock ∧ (some k_ ≠ (.slice Ao57 t267.length co57 : Value).ownBlock ∧ some k_ ≠ (.slice Ao66 t276.length co66 : Value).ownBlock))))))) (n := t280.length) (c := co69) ?_).2.2; exact (rrA19 (zC (zB (p := ⟨gb284,4,none⟩) (zB (p := ⟨gb284,3,none⟩) (zB (p := ⟨gb284,2,none⟩) (zB (p := ⟨gb284,1,none⟩) (zB (p := ⟨gb284,0,none⟩) (zH HO282.out BK284.out (by decide)) (fun _ h=>h.2) (.int .i64 t274)) (fun _ h=>h.2) (.int .i64 t275)) (fun _ h=>h.2) (.slice Ao66 t276.length co66)) (fun _ h=>h.2) (.int .i64 t279)) (fun _ h=>h.2) (.slice Ao69 t280.length co69)) (fun _ h_ => h_.1)))); (case side4 => exact (zI HO282.out).2.1); (case side5 => refine (zI (e := 9) (base := w.heap.size) (ok := fun k_ => (some k_ ≠ (v241 : Value).ownBlock ∧ (some k_ ≠ (v245 : Value).ownBlock ∧ (some k_ ≠ (.slice Ao46 t256.length co46 : Value).ownBlock ∧ (some k_ ≠ (.slice Ao56 t263.length co56 : Value).ownBlock ∧ (some k_ ≠ (.slice Ao57 t267.length co57 : Value).ownBlock ∧ (some k_ ≠ (.slice Ao66 t276.length co66 : Value).ownBlock ∧ some k_ ≠ (.slice Ao69 t280.length co69 : Value).ownBlock))))))) (n := t252.length) (c := co43) ?_).2.2; exact (rrA19 (zC (zB (p := ⟨gb284,4,none⟩) (zB (p := ⟨gb284,3,none⟩) (zB (p := ⟨gb284,2,none⟩) (zB (p := ⟨gb284,1,none⟩) (zB (p := ⟨gb284,0,none⟩) (zH HO254.out BK284.out (by decide)) (fun _ h=>h.2) (.int .i64 t274)) (fun _ h=>h.2) (.int .i64 t275)) (fun _ h=>h.2) (.slice Ao66 t276.length co66)) (fun _ h=>h.2) (.int .i64 t279)) (fun _ h=>h.2) (.slice Ao69 t280.length co69)) (fun _ h_ => h_.1)))); (case side6 => exact (zI HO254.out).2.1); (case side7 => refine (zI (e := 9) (base := w.heap.size) (ok := fun k_ => (some k_ ≠ (v241 : Value).ownBlock ∧ (some k_ ≠ (v245 : Value).ownBlock ∧ (some k_ ≠ (.slice Ao43 t252.length co43 : Value).ownBlock ∧ (some k_ ≠ (.slice Ao56 t263.length co56 : Value).ownBlock ∧ (some k_ ≠ (.slice Ao57 t267.length co57 : Value).ownBlock ∧ (some k_ ≠ (.slice Ao66 t276.length co66 : Value).ownBlock ∧ some k_ ≠ (.slice Ao69 t280.length co69 : Value).ownBlock))))))) (n := t256.length) (c := co46) ?_).2.2; exact (rrA19 (zC (zB (p := ⟨gb284,4,none⟩) (zB (p := ⟨gb284,3,none⟩) (zB (p := ⟨gb284,2,none⟩) (zB (p := ⟨gb284,1,none⟩) (zB (p := ⟨gb284,0,none⟩) (zH HO258.out BK284.out (by decide)) (fun _ h=>h.2) (.int .i64 t274)) (fun _ h=>h.2) (.int .i64 t275)) (fun _ h=>h.2) (.slice Ao66 t276.length co66)) (fun _ h=>h.2) (.int .i64 t279)) (fun _ h=>h.2) (.slice Ao69 t280.length co69)) (fun _ h_ => h_.1)))); (case side8 => exact (zI HO258.out).2.1); rintro e w92 ⟨rfl,hb⟩; refine ⟨_,rfl,?_⟩; have n0_ := zA (zD (rrA19 (zC (zB (p := ⟨gb284,4,none⟩) (zB (p := ⟨gb284,3,none⟩) (zB (p := ⟨gb284,2,none⟩) (zB (p := ⟨gb284,1,none⟩) (zB (p := ⟨gb284,0,none⟩) (zH HO242.out BK284.out (by decide)) (fun _ h=>h.2) (.int .i64 t274)) (fun _ h=>h.2) (.int .i64 t275)) (fun _ h=>h.2) (.slice Ao66 t276.length co66)) (fun _ h=>h.2) (.int .i64 t279)) (fun _ h=>h.2) (.slice Ao69 t280.length co69)) (fun _ h_ => h_.1))) hb); have n1_ := zA (zD (rrA19 (zC (zB (p := ⟨gb284,4,none⟩) (zB (p := ⟨gb284,3,none⟩) (zB (p := ⟨gb284,2,none⟩) (zB (p := ⟨gb284,1,none⟩) (zB (p := ⟨gb284,0,none⟩) (zH HO246.out BK284.out (by decide)) (fun _ h=>h.2) (.int .i64 t274)) (fun _ h=>h.2) (.int .i64 t275)) (fun _ h=>h.2) (.slice Ao66 t276.length co66)) (fun _ h=>h.2) (.int .i64 t279)) (fun _ h=>h.2) (.slice Ao69 t280.length co69)) (fun _ h_ => h_.1))) hb); have n2_ := zA (zD (rrA19 (zC (zB (p := ⟨gb284,4,none⟩) (zB (p := ⟨gb284,3,none⟩) (zB (p := ⟨gb284,2,none⟩) (zB (p := ⟨gb284,1,none⟩) (zB (p := ⟨gb284,0,none⟩) (zH HO254.out BK284.out (by decide)) (fun _ h=>h.2) (.int .i64 t274)) (fun _ h=>h.2) (.int .i64 t275)) (fun _ h=>h.2) (.slice Ao66 t276.length co66)) (fun _ h=>h.2) (.int .i64 t279)) (fun _ h=>h.2) (.slice Ao69 t280.length co69)) (fun _ h_ => h_.1))) hb); have n3_ := zA (zD (rrA19 (zC (zB (p := ⟨gb284,4,none⟩) (zB (p := ⟨gb284,3,none⟩) (zB (p := ⟨gb284,2,none⟩) (zB (p := ⟨gb284,1,none⟩) (zB (p := ⟨gb284,0,none⟩) (zH HO258.out BK284.out (by decide)) (fun _ h=>h.2) (.int .i64 t274)) (fun _ h=>h.2) (.int .i64 t275)) (fun _ h=>h.2) (.slice Ao66 t276.length co66)) (fun _ h=>h.2) (.int .i64 t279)) (fun _ h=>h.2) (.slice Ao69 t280.length co69)) (fun _ h_ => h_.1))) hb); have n4_ := zA (zD (rrA19 (zC (zB (p := ⟨gb284,4,none⟩) (zB (p := ⟨gb284,3,none⟩) (zB (p := ⟨gb284,2,none⟩) (zB (p := ⟨gb284,1,none⟩) (zB (p := ⟨gb284,0,none⟩) (zH HO265.out BK284.out (by decide)) (fun _ h=>h.2) (.int .i64 t274)) (fun _ h=>h.2) (.int .i64 t275)) (fun _ h=>h.2) (.slice Ao66 t276.length co66)) (fun _ h=>h.2) (.int .i64 t279)) (fun _ h=>h.2) (.slice Ao69 t280.length co69)) (fun _ h_ => h_.1))) hb); have n5_ := zA (zD (rrA19 (zC (zB (p := ⟨gb284,4,none⟩) (zB (p := ⟨gb284,3,none⟩) (zB (p := ⟨gb284,2,none⟩) (zB (p := ⟨gb284,1,none⟩) (zB (p := ⟨gb284,0,none⟩) (zH HO269.out BK284.out (by decide)) (fun _ h=>h.2) (.int .i64 t274)) (fun _ h=>h.2) (.int .i64 t275)) (fun _ h=>h.2) (.slice Ao66 t276.length co66)) (fun _ h=>h.2) (.int .i64 t279)) (fun _ h=>h.2) (.slice Ao69 t280.length co69)) (fun _ h_ => h_.1))) hb); have n6_ := zA (Kd.Q_below (by (with_reducible repeat (first|apply Kd.Q_alloc|apply Kd.Q_drewN|apply Kd.Q_drew)); exact (Kd.Q_mono (Kd.Q_far (p := ⟨gb284,4,none⟩) (Kd.Q_far (p := ⟨gb284,3,none⟩) (Kd.Q_far (p := ⟨gb284,2,none⟩) (Kd.Q_far (p := ⟨gb284,1,none⟩) (Kd.Q_far (p := ⟨gb284,0,none⟩) (Kd.Q_types HO278.out BK284.out (by decide)) (fun _ h=>h.2) (.int .i64 t274)) (fun _ h=>h.2) (.int .i64 t275)) (fun _ h=>h.2) (.slice Ao66 t276.length co66)) (fun _ h=>h.2) (.int .i64 t279)) (fun _ h=>h.2) (.slice Ao69 t280.length co69)) (fun _ h_ => h_.1))) hb); have n7_ := zA (zD (rrA19 (zC (zB (p := ⟨gb284,4,none⟩) (zB (p := ⟨gb284,3,none⟩) (zB (p := ⟨gb284,2,none⟩) (zB (p := ⟨gb284,1,none⟩) (zB (p := ⟨gb284,0,none⟩) (zH HO282.out BK284.out (by decide)) (fun _ h=>h.2) (.int .i64 t274)) (fun _ h=>h.2) (.int .i64 t275)) (fun _ h=>h.2) (.slice Ao66 t276.length co66)) (fun _ h=>h.2) (.int .i64 t279)) (fun _ h=>h.2) (.slice Ao69 t280.length co69)) (fun _ h_ => h_.1))) hb); have n8_ := zA (zV (g := gb234) (o := .cells #[.int .i64 a0_0,.int .i64 a0_1,.slice A0_2 l0_2.length c0_2,.int .i64 a0_3,.slice A0_4 l0_4.length c0_4] 24 (0,0)) (by (with_reducible repeat (first|refine zR ?_ _|refine zT ?_|refine zS ?_ _)); refine zX ?_ NB234_284.out _; (with_reducible repeat (first|refine zR ?_ _|refine zT ?_|refine zS ?_ _)); refine zX ?_ NB234_284.out _; (with_reducible repeat (first|refine zR ?_ _|refine zT ?_|refine zS ?_ _)); refine zX ?_ NB234_284.out _; (with_reducible repeat (first|refine zR ?_ _|refine zT ?_|refine zS ?_ _)); refine zX ?_ NB234_284.out _; (with_reducible repeat (first|refine zR ?_ _|refine zT ?_|refine zS ?_ _)); refine zX ?_ NB234_284.out _; (with_reducible repeat (first|refine zR ?_ _|refine zT ?_|refine zS ?_ _)); exact BK234.out) hb); have n9_ := zA (zV (g := gb235) (o := .cells #[.int .i64 a1_0,.int .i64 a1_1,.string a1_2] 41 (0,0)) (by (with_reducible repeat (first|refine zR ?_ _|refine zT ?_|refine zS ?_ _)); refine zX ?_ NB235_284.out _; (with_reducible repeat (first|refine zR ?_ _|refine zT ?_|refine zS ?_ _)); refine zX ?_ NB235_284.out _; (with_reducible repeat (first|refine zR ?_ _|refine zT ?_|refine zS ?_ _)); refine zX ?_ NB235_284.out _; (with_reducible repeat (first|refine zR ?_ _|refine zT ?_|refine zS ?_ _)); refine zX ?_ NB235_284.out _; (with_reducible repeat (first|refine zR ?_ _|refine zT ?_|refine zS ?_ _)); refine zX ?_ NB235_284.out _; (with_reducible repeat (first|refine zR ?_ _|refine zT ?_|refine zS ?_ _)); exact BK235.out) hb); have n10_ := zA (zV (g := gb260) (o := .cells #[.int .i64 t250,.int .i64 t251,.slice Ao43 t252.length co43,.int .i64 t255,.slice Ao46 t256.length co46] 26 (0,0)) (by (with_reducible repeat (first|refine zR ?_ _|refine zT ?_|refine zS ?_ _)); refine zX ?_ NB260_284.out _; (with_reducible repeat (first|refine zR ?_ _|refine zT ?_|refine zS ?_ _)); refine zX ?_ NB260_284.out _; (with_reducible repeat (first|refine zR ?_ _|refine zT ?_|refine zS ?_ _)); refine zX ?_ NB260_284.out _; (with_reducible repeat (first|refine zR ?_ _|refine zT ?_|refine zS ?_ _)); refine zX ?_ NB260_284.out _; (with_reducible repeat (first|refine zR ?_ _|refine zT ?_|refine zS ?_ _)); refine zX ?_ NB260_284.out _; (with_reducible repeat (first|refine zR ?_ _|refine zT ?_|refine zS ?_ _)); exact BK260.out) hb); have n11_ := zA (zV (g := gb270) (o := .cells #[.int .i64 t261,.int .i64 t262,.slice Ao56 t263.length co56,.int .i64 t266,.slice Ao57 t267.length co57] 26 (0,0)) (by (with_reducible repeat (first|refine zR ?_ _|refine zT ?_|refine zS ?_ _)); refine zX ?_ NB270_284.out _; (with_reducible repeat (first|refine zR ?_ _|refine zT ?_|refine zS ?_ _)); refine zX ?_ NB270_284.out _; (with_reducible repeat (first|refine zR ?_ _|refine zT ?_|refine zS ?_ _)); refine zX ?_ NB270_284.out _; (with_reducible repeat (first|refine zR ?_ _|refine zT ?_|refine zS ?_ _)); refine zX ?_ NB270_284.out _; (with_reducible repeat (first|refine zR ?_ _|refine zT ?_|refine zS ?_ _)); refine zX ?_ NB270_284.out _; (with_reducible repeat (first|refine zR ?_ _|refine zT ?_|refine zS ?_ _)); exact BK270.out) hb); have n12_ := zA (zV (g := gb284) (o := .cells #[.int .i64 t274,.int .i64 t275,.slice Ao66 t276.length co66,.int .i64 t279,.slice Ao69 t280.length co69] 26 (0,0)) (by (with_reducible repeat (first|refine zR ?_ _|refine zT ?_|refine zS ?_ _)); refine blk_put (cs := #[.int .i64 t274,.int .i64 t275,.slice Ao66 t276.length co66,.int .i64 t279,.slice none 0 0]) ?_ 4 _ rfl; (with_reducible repeat (first|refine zR ?_ _|refine zT ?_|refine zS ?_ _)); refine blk_put (cs := #[.int .i64 t274,.int .i64 t275,.slice Ao66 t276.length co66,.int .i64 0,.slice none 0 0]) ?_ 3 _ rfl; (with_reducible repeat (first|refine zR ?_ _|refine zT ?_|refine zS ?_ _)); refine blk_put (cs := #[.int .i64 t274,.int .i64 t275,.slice none 0 0,.int .i64 0,.slice none 0 0]) ?_ 2 _ rfl; (with_reducible repeat (first|refine zR ?_ _|refine zT ?_|refine zS ?_ _)); refine blk_put (cs := #[.int .i64 t274,.int .i64 0,.slice none 0 0,.int .i64 0,.slice none 0 0]) ?_ 1 _ rfl; (with_reducible repeat (first|refine zR ?_ _|refine zT ?_|refine zS ?_ _)); refine blk_put (cs := #[.int .i64 0,.int .i64 0,.slice none 0 0,.int .i64 0,.slice none 0 0]) ?_ 0 _ rfl; (with_reducible repeat (first|refine zR ?_ _|refine zT ?_|refine zS ?_ _)); exact BK284.out) hb); have n13_ := zA (zZ (by repeat (first|(with_reducible first|exact HB.out|apply zO|apply zQ|apply zP|refine zN ?_ GE234.out|refine zN ?_ GE235.out|refine zN ?_ GE260.out|refine zN ?_ GE270.out|refine zN ?_ GE284.out)|exact HB.out)) hb); clear HO242 HO246 HO254 HO258 HO265 HO269 HO278 HO282 BK234 BK235 BK260 BK270 BK284 HB; have HO242 := n0_; have HO246 := n1_; have HO254 := n2_; have HO258 := n3_; have HO265 := n4_; have HO269 := n5_; have HO278 := n6_; have HO282 := n7_; have BK234 := n8_; have BK235 := n9_; have BK260 := n10_; have BK270 := n11_; have BK284 := n12_; have HB := n13_; clear n0_ n1_ n2_ n3_ n4_ n5_ n6_ n7_ n8_ n9_ n10_ n11_ n12_ n13_; (try clear hb); (try clear hb2); (try clear hk); (try clear hi)))
       go_meet
       case rel => exact ⟨_,(true),(by first|rfl|(simp; done)|(simp [*]; done)),H',⟨by first|omega|exact Nat.le_refl _⟩,⟨Kd.Q_of_R (by (with_reducible repeat (first|apply zJ|apply zK|apply zL)); exact zC HO254.out (fun _ hk => ⟨hk.2.2.1,⟨hk.2.2.2.1,⟨hk.2.2.2.2.1,⟨hk.2.2.2.2.2.1,hk.2.2.2.2.2.2⟩⟩⟩⟩))⟩,⟨by (with_reducible repeat (first|apply zJ|apply zK|apply zL)); exact zC HO258.out (fun _ hk => ⟨hk.2.2.1,⟨hk.2.2.2.1,⟨hk.2.2.2.2.1,⟨hk.2.2.2.2.2.1,hk.2.2.2.2.2.2⟩⟩⟩⟩)⟩,⟨Kd.Q_of_R (by (with_reducible repeat (first|apply zJ|apply zK|apply zL)); exact zC HO265.out (fun _ hk => ⟨hk.2.2.1,⟨hk.2.2.2.1,⟨hk.2.2.2.2.1,⟨hk.2.2.2.2.2.1,hk.2.2.2.2.2.2⟩⟩⟩⟩))⟩,⟨by (with_reducible repeat (first|apply zJ|apply zK|apply zL)); exact zC HO269.out (fun _ hk => ⟨hk.2.2.1,⟨hk.2.2.2.1,⟨hk.2.2.2.2.1,⟨hk.2.2.2.2.2.1,hk.2.2.2.2.2.2⟩⟩⟩⟩)⟩,⟨by (with_reducible repeat (first|apply Kd.Q_alloc|apply Kd.Q_drewN|apply Kd.Q_drew)); exact Kd.Q_mono HO278.out (fun _ hk => ⟨hk.2.2.1,⟨hk.2.2.2.1,⟨hk.2.2.2.2.1,⟨hk.2.2.2.2.2.1,hk.2.2.2.2.2.2⟩⟩⟩⟩)⟩,⟨by (with_reducible repeat (first|apply zJ|apply zK|apply zL)); exact zC HO282.out (fun _ hk => ⟨hk.2.2.1,⟨hk.2.2.2.1,⟨hk.2.2.2.2.1,⟨hk.2.2.2.2.2.1,hk.2.2.2.2.2.2⟩⟩⟩⟩)⟩,⟨(rrB19 BK234.out)⟩,⟨(rrB19 BK235.out)⟩,⟨(rrB19 BK260.out)⟩,⟨(rrB19 BK270.out)⟩,⟨(rrB19 BK284.out)⟩,⟨by repeat (first|(with_reducible first|exact HB.out|apply zO|apply zQ|apply zP|refine zN ?_ GE234.out|refine zN ?_ GE235.out|refine zN ?_ GE260.out|refine zN ?_ GE270.out|refine zN ?_ GE284.out)|exact HB.out)⟩⟩
     case rest =>
      rename_i xx0_0 xx0_1 xx0_2 xx0_3 xx0_4 xx0_5 xx0_6 xx0_7 xx0_8 xx0_9 xx0_10 xx0_11 xx0_12 xx0_13
      revert hu24 hu41 hu26 HR0_2 HC0_2 HR0_4 HC0_4 t236 A3 c4b0 t237 A10 c11b0 t238 t239 t240 t243 t244 A19 t247 t248 t249 A20 t250 t251 t252 t255 t256 t259 A21 t261 t262 t263 t266 t267 A22 t271 t272 t273 A23 t274 t275 t276 t279 t280 t283 A24 HC25 xx0_0 gb234 w26 GW234 GE234 gb235 w27 GW235 GE235 NB234_235 NB235_234 hnb28 hnc28 hcz29_0 hcz29_1 hcz29_2 hcz29_3 hcz29_4 hfz29_0 hfz29_1 hfz29_2 hfz29_3 hfz29_4 w30 hcz31_0 hcz31_1 hcz31_2 hfz31_0 hfz31_1 hfz31_2 w32 xx0_1 xx0_2 w33 xx0_3 v241 v245 gb260 w40 xx0_4 GW260 GE260 NB234_260 NB260_234 NB235_260 NB260_235 xx0_5 Ao43 co43 Ao46 co46 hs41 hfs41 hns41_0 hns41_1 hms41_0 hms41_1 hs42 hfs42 hns42_0 hns42_1 hms42_0 hms42_1 hs44 hfs44 hns44_0 hns44_1 hms44_0 hms44_1 hs45 hfs45 hns45_0 hns45_1 hms45_0 hms45_1 hs47 hfs47 hns47_0 hns47_1 hms47_0 hms47_1 xx0_6 hnb48 hnc48 hcz49_0 hcz49_1 hcz49_2 hcz49_3 hcz49_4 hfz49_0 hfz49_1 hfz49_2 hfz49_3 hfz49_4 w50 gb270 w51 GW270 GE270 NB234_270 NB270_234 NB235_270 NB270_235 NB260_270 NB270_260 hnb52 hnc52 hnb53 hnc53 hnb54 hnc54 hcz55_0 hcz55_1 hcz55_2 hcz55_3 hcz55_4 hfz55_0 hfz55_1 hfz55_2 hfz55_3 hfz55_4 Ao56 co56 Ao57 co57 w58 HT_ HW_ w59 xx0_7 gb284 w63 hS_ BK234 BK235 BK260 BK270 BK284 GW284 GE284 NB234_284 NB284_234 NB235_284 NB284_235 NB260_284 NB284_260 NB270_284 NB284_270 HB xx0_8 Ao66 co66 xx0_9 Ao69 co69 HO242 HO246 HO254 HO258 HO265 HO269 HO278 HO282 hs64 hfs64 hns64_0 hns64_1 hns64_2 hns64_3 hms64_0 hms64_1 hms64_2 hms64_3 hs65 hfs65 hns65_0 hns65_1 hns65_2 hns65_3 hms65_0 hms65_1 hms65_2 hms65_3 hs67 hfs67 hns67_0 hns67_1 hns67_2 hns67_3 hms67_0 hms67_1 hms67_2 hms67_3 hs68 hfs68 hns68_0 hns68_1 hns68_2 hns68_3 hms68_0 hms68_1 hms68_2 hms68_3 hs70 hfs70 hns70_0 hns70_1 hns70_2 hns70_3 hms70_0 hms70_1 hms70_2 hms70_3 hHeld xx0_10 xx0_11 xx0_12 xx0_13 wc u16 u17 u18 u19 u20 u21 u22 u23 u24 u25 u26 u27 u28 u29 u30 u31 u32 u33 u34 u35 u36 u37 u38 u39 u40 u41 u42 u43 u44 u45 u46 u47 u48 u49 u50 u51 u52 u53 u54 u55 u56 u57 u58 u59 u60 u61 u62 u63 u64 u65 u66 u67 u68 u69 u70 u71 u72 u73 u74 u75 u76 u77 u78 u79 u80 u81 u82 u83 u84 u85 u86 u87 u88 u89 u90 u91 u92 u93 u94 u95 u96 u97 u98 u99 u100 u101 u102 u103 u104 u105 u106 u107 u108 hcut
      exact hG_ ()
end Go.Proofs.Ytlidnobkkgcnlaa.PFnExactReceive
