-- Written by a program out of the translation,for this claim.
import Derived.Test.YtlidnobkkgcnlaaPFnLinksx0
import Derived.Test.YtlidnobkkgcnlaaPFnLinksx1
import Derived.Test.YtlidnobkkgcnlaaPFnLinksx4
import Derived.Test.YtlidnobkkgcnlaaPFnLinksx12
import Derived.Test.YtlidnobkkgcnlaaPFnLinksx21
import Derived.Test.YtlidnobkkgcnlaaPFnLinksx22
namespace Go.Proofs.Ytlidnobkkgcnlaa.PFnLinks
open Go.RowKit Go.Proofs.YtlidnobkkgcnlaaW.PrintWords Go.Proofs.YtlidnobkkgcnlaaW.PrintLast Go.Proofs.YtlidnobkkgcnlaaW.PrintMore
attribute [local go_sem] max2_int min2_int max_two min_two max_three min_three max_four min_four   -- for this text's walks alone
set_option linter.unusedVariables false
set_option linter.unusedSimpArgs false
theorem rrA23 {p q : Prop} (h : p) (f : p → q := by (intro h_; (with_reducible repeat (first | apply Kd.R_alloc | apply Kd.R_drewN | apply Kd.R_drew)); exact h_)) : q := f h
open Go.Proofs.YtlidnobkkgcnlaaW.PrintWords.Aside0 renaming mk → zA
open Go.Proofs.YtlidnobkkgcnlaaW.PrintWords.Kd renaming R_reads' → zB

/-! ### laws_FnLinks: function 10 -/
mutual
def laws_FnLinks.j0 : Nat → List ByteArray → List Int → List ByteArray → Bool → Bool → Option (Bool)
  | 0,_,_,_,_,_ => none
  | k + 1,x3,x4,x5,x6,x40 => if x40 = true then (some false) else (if x6 = true then (if (x5.length : Int) > (x3.length : Int) then (laws_FnLinks.j1 k x3 x4 x5 true) else (if 0 ≤ (x5.length : Int) then (if (x5.length : Int) ≤ (x3.length : Int) then ((laws_sameTexts.f k x5 (x3.take ((x5.length : Int) : Int).toNat)).bind fun t529 => (laws_FnLinks.j1 k x3 x4 x5 (!t529))) else (none)) else (none))) else (some ((x5.length : Int) == 0)))
def laws_FnLinks.j1 : Nat → List ByteArray → List Int → List ByteArray → Bool → Option (Bool)
  | 0,_,_,_,_ => none
  | k + 1,x3,x4,x5,x59 => if x59 = true then (some false) else ((some (([] : List Int) : List Int)).bind fun y530 => (if y530.length + x4.length < 17592186044416 then (laws_FnLinks.l0 k x3 x5 (y530 ++ x4) 0) else (none)))
def laws_FnLinks.l0 : Nat → List ByteArray → List ByteArray → List Int → Int → Option (Bool)
  | 0,_,_,_,_ => none
  | k + 1,x3,x5,x9,x10 => if x10 < 60 then (if (x9.length : Int) < 200 then ((some (([1,2,3,0] : List Int) : List Int)).bind fun y536 => (if 0 ≤ (Int.tmod x10 4) then (if (Int.tmod x10 4) < (y536.length : Int) then (if x9.length < 17592186044416 then (laws_FnLinks.l0 k x3 x5 (x9 ++ [rd y536 (Int.tmod x10 4)]) (wrap64 (x10 + 1))) else (none)) else (none)) else (none))) else ((impl_Talk.f k x3 x9).bind fun bt543 => (if bt543.2 = true then (some (decide ((bt543.1.length : Int) ≥ (x5.length : Int)))) else (some false)))) else ((impl_Talk.f k x3 x9).bind fun bt547 => (if bt547.2 = true then (some (decide ((bt547.1.length : Int) ≥ (x5.length : Int)))) else (some false)))
end
def laws_FnLinks.f (k : Nat) (l0 : List Int) : Option (Bool) := (laws_big.f l0).bind fun t509 => (if t509 = true then (some true) else ((spec_DrawTalk.f k l0).bind fun bt510 => ((impl_Talk.f k bt510.1 bt510.2).bind fun bt516 => ((spec_Talk.f k bt510.1 bt510.2).bind fun bt520 => (if (bt516.2 != bt520.2) = true then (laws_FnLinks.j0 k bt510.1 bt510.2 bt516.1 bt516.2 true) else ((laws_sameTexts.f k bt516.1 bt520.1).bind fun t524 => (laws_FnLinks.j0 k bt510.1 bt510.2 bt516.1 bt516.2 (!t524))))))))
theorem laws_FnLinks.mono_l : ∀ k,(∀ y0 y1 y2 y3 y4,LeO (laws_FnLinks.j0 k y0 y1 y2 y3 y4) (laws_FnLinks.j0 (k + 1) y0 y1 y2 y3 y4)) ∧ (∀ y0 y1 y2 y3,LeO (laws_FnLinks.j1 k y0 y1 y2 y3) (laws_FnLinks.j1 (k + 1) y0 y1 y2 y3)) ∧ (∀ y0 y1 y2 y3,LeO (laws_FnLinks.l0 k y0 y1 y2 y3) (laws_FnLinks.l0 (k + 1) y0 y1 y2 y3))
  | 0 => ⟨fun _ _ _ _ _ r h => by simp [laws_FnLinks.j0] at h,fun _ _ _ _ r h => by simp [laws_FnLinks.j1] at h,fun _ _ _ _ r h => by simp [laws_FnLinks.l0] at h⟩
  | k + 1 => by
   obtain ⟨ih0,ih1,ih2⟩ := laws_FnLinks.mono_l k
   refine ⟨?_,?_,?_⟩
   ·
    intro y0 y1 y2 y3 y4
    unfold laws_FnLinks.j0
    repeat' first
   |(with_reducible exact ih0 _ _ _ _ _)
   |(with_reducible exact ih1 _ _ _ _)
   |(with_reducible exact ih2 _ _ _ _)
   |(with_reducible exact impl_Talk.mono _ _ _)
   |(with_reducible exact laws_sameTexts.mono _ _ _)
   |(with_reducible exact spec_DrawTalk.mono _ _)
   |(with_reducible exact spec_Talk.mono _ _ _)
   |(with_reducible exact LeO.refl _)
   |(with_reducible exact LeO.none _)
   |(with_reducible refine LeO.ite ?_ ?_)
   |(with_reducible refine LeO.bind ?_ (fun _ => ?_))
   |exact ih0 _ _ _ _ _
   |exact ih1 _ _ _ _
   |exact ih2 _ _ _ _
   |exact impl_Talk.mono _ _ _
   |exact laws_sameTexts.mono _ _ _
   |exact spec_DrawTalk.mono _ _
   |exact spec_Talk.mono _ _ _
   |exact LeO.none _
   |refine LeO.ite ?_ ?_
   |refine LeO.bind ?_ (fun _ => ?_)
   ·
    intro y0 y1 y2 y3
    unfold laws_FnLinks.j1
    repeat' first
   |(with_reducible exact ih0 _ _ _ _ _)
   |(with_reducible exact ih1 _ _ _ _)
   |(with_reducible exact ih2 _ _ _ _)
   |(with_reducible exact impl_Talk.mono _ _ _)
   |(with_reducible exact laws_sameTexts.mono _ _ _)
   |(with_reducible exact spec_DrawTalk.mono _ _)
   |(with_reducible exact spec_Talk.mono _ _ _)
   |(with_reducible exact LeO.refl _)
   |(with_reducible exact LeO.none _)
   |(with_reducible refine LeO.ite ?_ ?_)
   |(with_reducible refine LeO.bind ?_ (fun _ => ?_))
   |exact ih0 _ _ _ _ _
   |exact ih1 _ _ _ _
   |exact ih2 _ _ _ _
   |exact impl_Talk.mono _ _ _
   |exact laws_sameTexts.mono _ _ _
   |exact spec_DrawTalk.mono _ _
   |exact spec_Talk.mono _ _ _
   |exact LeO.none _
   |refine LeO.ite ?_ ?_
   |refine LeO.bind ?_ (fun _ => ?_)
   ·
    intro y0 y1 y2 y3
    unfold laws_FnLinks.l0
    repeat' first
   |(with_reducible exact ih0 _ _ _ _ _)
   |(with_reducible exact ih1 _ _ _ _)
   |(with_reducible exact ih2 _ _ _ _)
   |(with_reducible exact impl_Talk.mono _ _ _)
   |(with_reducible exact laws_sameTexts.mono _ _ _)
   |(with_reducible exact spec_DrawTalk.mono _ _)
   |(with_reducible exact spec_Talk.mono _ _ _)
   |(with_reducible exact LeO.refl _)
   |(with_reducible exact LeO.none _)
   |(with_reducible refine LeO.ite ?_ ?_)
   |(with_reducible refine LeO.bind ?_ (fun _ => ?_))
   |exact ih0 _ _ _ _ _
   |exact ih1 _ _ _ _
   |exact ih2 _ _ _ _
   |exact impl_Talk.mono _ _ _
   |exact laws_sameTexts.mono _ _ _
   |exact spec_DrawTalk.mono _ _
   |exact spec_Talk.mono _ _ _
   |exact LeO.none _
   |refine LeO.ite ?_ ?_
   |refine LeO.bind ?_ (fun _ => ?_)
theorem laws_FnLinks.mono : ∀ a0 k,LeO (laws_FnLinks.f k a0) (laws_FnLinks.f (k + 1) a0) := by
  intro a0 k
  obtain ⟨ih0,ih1,ih2⟩ := laws_FnLinks.mono_l k
  unfold laws_FnLinks.f
  repeat' first
   |(with_reducible exact ih0 _ _ _ _ _)
   |(with_reducible exact ih1 _ _ _ _)
   |(with_reducible exact ih2 _ _ _ _)
   |(with_reducible exact impl_Talk.mono _ _ _)
   |(with_reducible exact laws_sameTexts.mono _ _ _)
   |(with_reducible exact spec_DrawTalk.mono _ _)
   |(with_reducible exact spec_Talk.mono _ _ _)
   |(with_reducible exact LeO.refl _)
   |(with_reducible exact LeO.none _)
   |(with_reducible refine LeO.ite ?_ ?_)
   |(with_reducible refine LeO.bind ?_ (fun _ => ?_))
   |exact ih0 _ _ _ _ _
   |exact ih1 _ _ _ _
   |exact ih2 _ _ _ _
   |exact impl_Talk.mono _ _ _
   |exact laws_sameTexts.mono _ _ _
   |exact spec_DrawTalk.mono _ _
   |exact spec_Talk.mono _ _ _
   |exact LeO.none _
   |refine LeO.ite ?_ ?_
   |refine LeO.bind ?_ (fun _ => ?_)
set_option maxHeartbeats 8000000 in
set_option maxRecDepth 100000 in
theorem laws_FnLinks.calls (k : Nat) (A0 : Option Addr) (c0 : Nat) (l0 : List Int) (r : Bool) (w : World) (hr0 : Kd.C (Kd.int .u8) w A0 l0.length l0) (hc0 : l0.length ≤ c0) (h : laws_FnLinks.f k l0 = some r) :
   Calls Try.prog 10 #[.slice A0 l0.length c0] w fun e w' => e = .returned (.bool r) ∧ Below w.heap.size w w' := by
  have HR0 := zA hr0
  have HC0 := zA hc0
  clear hr0 hc0
  have HB := zA (Below.refl w.heap.size w)
  have H : ((laws_big.f l0).bind fun t509 => (if t509 = true then (some true) else ((spec_DrawTalk.f k l0).bind fun bt510 => ((impl_Talk.f k bt510.1 bt510.2).bind fun bt516 => ((spec_Talk.f k bt510.1 bt510.2).bind fun bt520 => (if (bt516.2 != bt520.2) = true then (laws_FnLinks.j0 k bt510.1 bt510.2 bt516.1 bt516.2 true) else ((laws_sameTexts.f k bt516.1 bt520.1).bind fun t524 => (laws_FnLinks.j0 k bt510.1 bt510.2 bt516.1 bt516.2 (!t524))))))))) = some r := h
  clear h
  replace H := Option.bind_eq_some_iff.mp H
  obtain ⟨t509,A20,H⟩ := H
  replace H : (if t509 = true then (some true) else ((spec_DrawTalk.f k l0).bind fun bt510 => ((impl_Talk.f k bt510.1 bt510.2).bind fun bt516 => ((spec_Talk.f k bt510.1 bt510.2).bind fun bt520 => (if (bt516.2 != bt520.2) = true then (laws_FnLinks.j0 k bt510.1 bt510.2 bt516.1 bt516.2 true) else ((laws_sameTexts.f k bt516.1 bt520.1).bind fun t524 => (laws_FnLinks.j0 k bt510.1 bt510.2 bt516.1 bt516.2 (!t524)))))))) = some r := H
  have A2 := zA A20
  clear A20
  by_cases c3 : t509 = true
  ·
   subst c3
   have H1 : (some true) = some r := by rw [if_pos rfl] at H; exact H
   clear H; have H := H1; clear H1
   obtain rfl := Option.some.inj H
   go_enter Try.func10,Try.ntmps10
   go_wp2_with (first | ((with_reducible refine gate_callee (f := 18) rfl ?_); refine goesL_ (some 14) rfl rfl Try.func18 (by kernel_rfl) rfl #[.slice A0 l0.length c0] rfl (by (try simp only [List.map_toArray,List.map_cons,List.map_nil]); first | done|rfl|(simp only [List.length_drop,List.length_take]; rfl)) ?_; (with_reducible refine (laws_big.calls _ _ l0 true _ ?side1 ?side2 A2.out).mono ?_); (case side1 => repeat (first|exact HR0.out|(with_reducible refine Kd.C_alloc ?_ _)|(with_reducible refine Kd.C_drewN ?_ _)|(with_reducible refine Kd.C_drew ?_))); (case side2 => exact HC0.out); rintro e w' ⟨rfl,⟨nd,rfl⟩⟩; refine ⟨_,rfl,?_⟩))
   go_ret
   exact ⟨by first|rfl|(simp [errW_none,errW_some] <;> rfl)|(simp [*,errW_none,errW_some] <;> rfl),bT HB⟩
  ·
   replace c3 := Bool.eq_false_iff.mpr c3
   subst c3
   have H1 : ((spec_DrawTalk.f k l0).bind fun bt510 => ((impl_Talk.f k bt510.1 bt510.2).bind fun bt516 => ((spec_Talk.f k bt510.1 bt510.2).bind fun bt520 => (if (bt516.2 != bt520.2) = true then (laws_FnLinks.j0 k bt510.1 bt510.2 bt516.1 bt516.2 true) else ((laws_sameTexts.f k bt516.1 bt520.1).bind fun t524 => (laws_FnLinks.j0 k bt510.1 bt510.2 bt516.1 bt516.2 (!t524))))))) = some r := by rw [if_neg (show ¬ (false = true) by decide)] at H; exact H
   clear H; have H := H1; clear H1
   replace H := Option.bind_eq_some_iff.mp H
   obtain ⟨⟨t510,t511⟩,A40,H⟩ := H
   replace H : ((impl_Talk.f k t510 t511).bind fun bt516 => ((spec_Talk.f k t510 t511).bind fun bt520 => (if (bt516.2 != bt520.2) = true then (laws_FnLinks.j0 k t510 t511 bt516.1 bt516.2 true) else ((laws_sameTexts.f k bt516.1 bt520.1).bind fun t524 => (laws_FnLinks.j0 k t510 t511 bt516.1 bt516.2 (!t524)))))) = some r := H
   have A4 := zA A40
   clear A40
   replace H := Option.bind_eq_some_iff.mp H
   obtain ⟨⟨t516,t517⟩,A50,H⟩ := H
   replace H : ((spec_Talk.f k t510 t511).bind fun bt520 => (if (t517 != bt520.2) = true then (laws_FnLinks.j0 k t510 t511 t516 t517 true) else ((laws_sameTexts.f k t516 bt520.1).bind fun t524 => (laws_FnLinks.j0 k t510 t511 t516 t517 (!t524))))) = some r := H
   have A5 := zA A50
   clear A50
   replace H := Option.bind_eq_some_iff.mp H
   obtain ⟨⟨t520,t521⟩,A60,H⟩ := H
   replace H : (if (t517 != t521) = true then (laws_FnLinks.j0 k t510 t511 t516 t517 true) else ((laws_sameTexts.f k t516 t520).bind fun t524 => (laws_FnLinks.j0 k t510 t511 t516 t517 (!t524)))) = some r := H
   have A6 := zA A60
   clear A60
   have HC7 := zA H
   clear H
   go_enter Try.func10,Try.ntmps10
   go_upto_region 6 with (first | ((with_reducible refine gate_callee (f := 18) rfl ?_); refine goesL_ (some 14) rfl rfl Try.func18 (by kernel_rfl) rfl #[.slice A0 l0.length c0] rfl (by (try simp only [List.map_toArray,List.map_cons,List.map_nil]); first | done|rfl|(simp only [List.length_drop,List.length_take]; rfl)) ?_; (with_reducible refine (laws_big.calls _ _ l0 false _ ?side1 ?side2 A2.out).mono ?_); (case side1 => repeat (first|exact HR0.out|(with_reducible refine Kd.C_alloc ?_ _)|(with_reducible refine Kd.C_drewN ?_ _)|(with_reducible refine Kd.C_drew ?_))); (case side2 => exact HC0.out); rintro e w' ⟨rfl,⟨nd,rfl⟩⟩; refine ⟨_,rfl,?_⟩) | ((with_reducible refine gate_callee (f := 33) rfl ?_); refine goesL_ (some 17) rfl rfl Try.func33 (by kernel_rfl) rfl #[.slice A0 l0.length c0] rfl (by (try simp only [List.map_toArray,List.map_cons,List.map_nil]); first | done|rfl|(simp only [List.length_drop,List.length_take]; rfl)) ?_; (with_reducible refine (spec_DrawTalk.calls k _ _ l0 t510 t511 _ ?side1 ?side2 A4.out).mono ?_); (case side1 => repeat (first|exact HR0.out|(with_reducible refine Kd.C_alloc ?_ _)|(with_reducible refine Kd.C_drewN ?_ _)|(with_reducible refine Kd.C_drew ?_))); (case side2 => exact HC0.out); rintro e w8 ⟨v512,v514,rfl,ho0,ho1,hb⟩; refine ⟨_,rfl,?_⟩; have n0_ := zA (Kd.R_lower ho0 (below_size (bT HB))); have n1_ := zA (Kd.R_lower ho1 (below_size (bT HB))); have n2_ := zA (below_step (bT HB) hb); clear HB; have HO513 := n0_; have HO515 := n1_; have HB := n2_; clear n0_ n1_ n2_; obtain ⟨Ao9,co9,eo9⟩ := Kd.R_slice HO513.out; subst eo9; obtain ⟨Ao10,co10,eo10⟩ := Kd.R_slice HO515.out; subst eo10) | ((with_reducible refine gate_callee (f := 38) rfl ?_); refine goesL_ (some 23) rfl rfl Try.func38 (by kernel_rfl) rfl #[.slice Ao9 t510.length co9,.slice Ao10 t511.length co10] rfl (by (try simp only [List.map_toArray,List.map_cons,List.map_nil]); first | done|rfl|(simp only [List.length_drop,List.length_take]; rfl)) ?_; (with_reducible refine (impl_Talk.calls k _ _ t510 _ _ t511 t516 t517 _ ?side1 ?side2 ?side3 ?side4 A5.out).mono ?_); (case side1 => exact ccT ((zB HO513.out).2.2)); (case side2 => exact (zB HO513.out).2.1); (case side3 => exact ccT ((zB HO515.out).2.2)); (case side4 => exact (zB HO515.out).2.1); rintro e w11 ⟨v518,rfl,ho0,hb⟩; refine ⟨_,rfl,?_⟩; have n0_ := zA (Kd.R_elder' (rrA23 HO513.out) (Kd.R_base ho0) hb); have n1_ := zA (Kd.R_below (rrA23 HO515.out) hb); have n2_ := zA (Kd.R_lower (Kd.R_new' ho0 (Kd.R_lt (rrA23 HO513.out))) (below_size (bT HB))); have n3_ := zA (below_step (bT HB) hb); clear HO513 HO515 HB; have HO513 := n0_; have HO515 := n1_; have HO519 := n2_; have HB := n3_; clear n0_ n1_ n2_ n3_) | ((with_reducible refine gate_callee (f := 35) rfl ?_); refine goesL_ (some 29) rfl rfl Try.func35 (by kernel_rfl) rfl #[.slice Ao9 t510.length co9,.slice Ao10 t511.length co10] rfl (by (try simp only [List.map_toArray,List.map_cons,List.map_nil]); first | done|rfl|(simp only [List.length_drop,List.length_take]; rfl)) ?_; (with_reducible refine (spec_Talk.calls k _ _ t510 _ _ t511 t520 t521 _ ?side1 ?side2 ?side3 ?side4 A6.out).mono ?_); (case side1 => exact ccT ((zB HO513.out).2.2)); (case side2 => exact (zB HO513.out).2.1); (case side3 => exact ccT ((zB HO515.out).2.2)); (case side4 => exact (zB HO515.out).2.1); rintro e w12 ⟨v522,rfl,ho0,hb⟩; refine ⟨_,rfl,?_⟩; have n0_ := zA (Kd.R_elder' (rrA23 HO513.out) (Kd.R_base ho0) hb); have n1_ := zA (Kd.R_below (rrA23 HO515.out) hb); have n2_ := zA (Kd.R_elder' (rrA23 HO519.out) (Kd.R_base ho0) hb); have n3_ := zA (Kd.R_lower (Kd.R_new' (Kd.R_new' ho0 (Kd.R_lt (rrA23 HO513.out))) (Kd.R_lt (rrA23 HO519.out))) (below_size (bT HB))); have n4_ := zA (below_step (bT HB) hb); clear HO513 HO515 HO519 HB; have HO513 := n0_; have HO515 := n1_; have HO519 := n2_; have HO523 := n3_; have HB := n4_; clear n0_ n1_ n2_ n3_ n4_))
   (try simp only [Act.put,List.setIfInBounds_toArray,List.set_cons_zero,List.set_cons_succ])
   go_cut [40] (fun v40 wc => ∃ (kq : Nat) (x40_6 : Bool),v40 = .bool x40_6 ∧ Aside0 (laws_FnLinks.j0 kq t510 t511 t516 t517 x40_6 = some r) ∧ Aside0 (kq ≤ k) ∧ Aside0 (Kd.R Kd.string 9 wc w.heap.size (fun k_ => some k_ ≠ (v518 : Value).ownBlock) (.slice Ao9 t510.length co9) t510) ∧ Aside0 (Kd.R (Kd.int .i64) 3 wc w.heap.size (fun _ => True) (.slice Ao10 t511.length co10) t511) ∧ Aside0 (Kd.R Kd.string 9 wc w.heap.size (fun k_ => some k_ ≠ ((.slice Ao9 t510.length co9) : Value).ownBlock) v518 t516) ∧ Aside0 (Below w.heap.size w wc))
   case first =>
    have H := HC7.out
    clear HC7
    by_cases c13 : (t517 != t521) = true
    ·
     rw [if_pos c13] at H
     have c13b0 : (t517 != t521) = true := c13
     (try (have c13b1 : decide (t517 = t521) = false := by simpa using c13))
     (try (have c13b2 : (t517 == t521) = false := by simpa using c13))
     (try (have c13b3 : ¬ (t517 = t521) := by simpa using c13))
     clear c13
     (first | rw [c13b0]|(simp only [i64_w,i32_w]; rw [c13b0])|skip)
     have H' := zA H
     clear H; go_wp2
     go_meet
     case rel => exact ⟨_,(true),(by first|rfl|(simp; done)|(simp [*]; done)),H',⟨by first|omega|exact Nat.le_refl _⟩,⟨by (with_reducible repeat (first|apply Kd.R_alloc|apply Kd.R_drewN|apply Kd.R_drew)); exact Kd.R_mono HO513.out (fun _ hk => hk.1.2)⟩,⟨(rrA23 HO515.out)⟩,⟨by (with_reducible repeat (first|apply Kd.R_alloc|apply Kd.R_drewN|apply Kd.R_drew)); exact Kd.R_mono HO519.out (fun _ hk => hk.1.2)⟩,⟨bT HB⟩⟩
    ·
     rw [if_neg c13] at H
     have c13b0 : (t517 != t521) = false := by simpa using c13
     (try (have c13b1 : decide (t517 = t521) = true := by simpa using c13))
     (try (have c13b2 : (t517 == t521) = true := by simpa using c13))
     clear c13
     (first | rw [c13b0]|(simp only [i64_w,i32_w]; rw [c13b0])|skip)
     replace H := Option.bind_eq_some_iff.mp H
     obtain ⟨t524,A140,H⟩ := H
     replace H : (laws_FnLinks.j0 k t510 t511 t516 t517 (!t524)) = some r := H
     have A14 := zA A140
     clear A140
     have H' := zA H
     clear H
     obtain ⟨Ao15,co15,eo15⟩ := Kd.R_slice HO519.out
     subst eo15
     obtain ⟨Ao16,co16,eo16⟩ := Kd.R_slice HO523.out
     subst eo16
     go_wp2_with (first | (go_at_call 44; (with_reducible refine (laws_sameTexts.calls k _ _ t516 _ _ t520 t524 _ ?side1 ?side2 ?side3 ?side4 A14.out).mono ?_); (case side1 => exact ccT ((zB HO519.out).2.2)); (case side2 => exact (zB HO519.out).2.1); (case side3 => exact ccT ((zB HO523.out).2.2)); (case side4 => exact (zB HO523.out).2.1); rintro e w' ⟨rfl,⟨nd,rfl⟩⟩))
     go_meet
     case rel => exact ⟨_,(!t524),(by first|rfl|(simp; done)|(simp [*]; done)),H',⟨by first|omega|exact Nat.le_refl _⟩,⟨by (with_reducible repeat (first|apply Kd.R_alloc|apply Kd.R_drewN|apply Kd.R_drew)); exact Kd.R_mono HO513.out (fun _ hk => hk.1.2)⟩,⟨(rrA23 HO515.out)⟩,⟨by (with_reducible repeat (first|apply Kd.R_alloc|apply Kd.R_drewN|apply Kd.R_drew)); exact Kd.R_mono HO519.out (fun _ hk => hk.1.2)⟩,⟨bT HB⟩⟩
   case rest =>
    clear HC7
    obtain ⟨kq,x40_6,rfl,HA,HJ6,HO_3,HO_4,HO_5,HB⟩ := hcut
    cases kq with
    | zero => exact absurd HA.out (by simp [laws_FnLinks.j0])
    | succ kj6 =>
     have H := HA.out
     clear HA
     simp only [laws_FnLinks.j0] at H
     by_cases c17 : x40_6 = true
     ·
      subst c17
      have H1 : (some false) = some r := by rw [if_pos rfl] at H; exact H
      clear H; have H := H1; clear H1
      obtain rfl := Option.some.inj H
      go_wp2
      go_ret
      exact ⟨by first|rfl|(simp [errW_none,errW_some] <;> rfl)|(simp [*,errW_none,errW_some] <;> rfl),bT HB⟩
     ·
      replace c17 := Bool.eq_false_iff.mpr c17
      subst c17
      have H1 : (if t517 = true then (if (t516.length : Int) > (t510.length : Int) then (laws_FnLinks.j1 kj6 t510 t511 t516 true) else (if 0 ≤ (t516.length : Int) then (if (t516.length : Int) ≤ (t510.length : Int) then ((laws_sameTexts.f kj6 t516 (t510.take ((t516.length : Int) : Int).toNat)).bind fun t529 => (laws_FnLinks.j1 kj6 t510 t511 t516 (!t529))) else (none)) else (none))) else (some ((t516.length : Int) == 0))) = some r := by rw [if_neg (show ¬ (false = true) by decide)] at H; exact H
      clear H; have H := H1; clear H1
      by_cases c18 : t517 = true
      ·
       subst c18
       have H1 : (if (t516.length : Int) > (t510.length : Int) then (laws_FnLinks.j1 kj6 t510 t511 t516 true) else (if 0 ≤ (t516.length : Int) then (if (t516.length : Int) ≤ (t510.length : Int) then ((laws_sameTexts.f kj6 t516 (t510.take ((t516.length : Int) : Int).toNat)).bind fun t529 => (laws_FnLinks.j1 kj6 t510 t511 t516 (!t529))) else (none)) else (none))) = some r := by rw [if_pos rfl] at H; exact H
       clear H; have H := H1; clear H1
       have HC19 := zA H
       clear H
       go_upto_region 10 with (fail)
       go_cut [59] (fun v59 wc => ∃ (kq : Nat) (x59_18 : Bool),v59 = .bool x59_18 ∧ Aside0 (laws_FnLinks.j1 kq t510 t511 t516 x59_18 = some r) ∧ Aside0 (kq ≤ kj6) ∧ Aside0 (Kd.R Kd.string 9 wc w.heap.size (fun k_ => some k_ ≠ (v518 : Value).ownBlock) (.slice Ao9 t510.length co9) t510) ∧ Aside0 (Kd.R (Kd.int .i64) 3 wc w.heap.size (fun _ => True) (.slice Ao10 t511.length co10) t511) ∧ Aside0 (Kd.R Kd.string 9 wc w.heap.size (fun k_ => some k_ ≠ ((.slice Ao9 t510.length co9) : Value).ownBlock) v518 t516) ∧ Aside0 (Below w.heap.size w wc))
       case first =>
        have H := HC19.out
        clear HC19
        by_cases c20 : (t516.length : Int) > (t510.length : Int)
        ·
         rw [if_pos c20] at H
         have c20b0 : decide ((t510.length : Int) < (t516.length : Int)) = true := decide_eq_true c20
         have c20b1 : decide (t510.length < t516.length) = true := decide_eq_true (Int.ofNat_lt.mp c20)
         clear c20
         (first | rw [c20b0]|(simp only [i64_w,i32_w]; rw [c20b0])|skip)
         have H' := zA H
         clear H
         obtain ⟨Ao21,co21,eo21⟩ := Kd.R_slice HO_5.out
         subst eo21
         go_wp2
         go_meet
         case rel => exact ⟨_,(true),(by first|rfl|(simp; done)|(simp [*]; done)),H',⟨by have := HJ6.out; first|omega|exact Nat.le_refl _⟩,⟨(rrA23 HO_3.out)⟩,⟨(rrA23 HO_4.out)⟩,⟨(rrA23 HO_5.out)⟩,⟨bT HB⟩⟩
        ·
         rw [if_neg c20] at H
         have c20b0 : decide ((t510.length : Int) < (t516.length : Int)) = false := decide_eq_false c20
         have c20b1 : decide (t510.length < t516.length) = false := decide_eq_false (fun h => c20 (Int.ofNat_lt.mpr h))
         clear c20
         (first | rw [c20b0]|(simp only [i64_w,i32_w]; rw [c20b0])|skip)
         by_cases c22 : 0 ≤ (t516.length : Int)
         ·
          rw [if_pos c22] at H
          have c22b0 := eq_true c22
          have c22b1 : decide (0 ≤ (t516.length : Int)) = true := decide_eq_true c22
          clear c22
          by_cases c23 : (t516.length : Int) ≤ (t510.length : Int)
          ·
           rw [if_pos c23] at H
           have c23b0 := eq_true c23
           have c23b1 : decide ((t516.length : Int) ≤ (t510.length : Int)) = true := decide_eq_true c23
           clear c23
           obtain ⟨y525,hy525⟩ : ∃ y_ : List ByteArray,y_ = (t510.take ((t516.length : Int) : Int).toNat) := ⟨_,rfl⟩
           replace H : ((laws_sameTexts.f kj6 t516 y525).bind fun t529 => (laws_FnLinks.j1 kj6 t510 t511 t516 (!t529))) = some r := by first | (rw [hy525]; with_reducible exact H) | (have H2_ := (Option.bind_some _ _).symm.trans H; rw [hy525]; with_reducible exact H2_) | (have H2_ := (Option.bind_some _ _).symm.trans H; with_reducible exact H2_)|with_reducible exact H | (rw [hy525]; exact H)|exact H
           have Ny525 := zA hy525
           clear hy525
           replace H := Option.bind_eq_some_iff.mp H
           obtain ⟨t529,A240,H⟩ := H
           replace H : (laws_FnLinks.j1 kj6 t510 t511 t516 (!t529)) = some r := H
           have A24 := zA A240
           clear A240
           have H' := zA H
           clear H
           obtain ⟨Ao25,co25,eo25⟩ := Kd.R_slice HO_5.out
           subst eo25
           have q26 : ((t516.length : Int) : Int) ≤ ((t510.length : Int) : Int) := of_decide_eq_true (by first|(with_reducible assumption) | assumption)
           obtain ⟨i026,hi026,_,hsz26,_⟩ := info_parts info9
           have hroom26 : t510.length ≤ co9 := (zB HO_3.out).2.1
           have hC26 : Kd.C Kd.string _ Ao9 t510.length t510 := (zB HO_3.out).2.2
           have hcut26 := cut_to (P := Try.prog) 22 9 .i64 Try.underlying22 hi026 Ao9 t510.length co9 (t516.length : Int) (of_decide_eq_true (by first|(with_reducible assumption) | assumption)) q26 hroom26
           have hr26 := Kd.C_take (m := ((t516.length : Int) : Int).toNat) hC26 (by omega)
           have hy26 : y525.length = ((t516.length : Int) : Int).toNat := (by rw [Ny525.out,List.length_take]; omega)
           rw [← Ny525.out] at hr26
           rw [← hy26] at hcut26
           have HR528 := zA hr26
           have HC528 := zA (show y525.length ≤ co9 from by omega)
           clear hr26 hC26 hroom26 hi026 hsz26
           have KY26 := zA hy26
           clear hy26
           have KL26 := zA (show ((t516.length : Int) : Int).toNat ≤ t510.length from by omega)
           replace q26 := eq_true q26
           go_wp2_with (first | (go_at_call 44; (with_reducible refine (laws_sameTexts.calls kj6 _ _ t516 _ _ y525 t529 _ ?side1 ?side2 ?side3 ?side4 A24.out).mono ?_); (case side1 => exact ccT ((zB HO_5.out).2.2)); (case side2 => exact (zB HO_5.out).2.1); (case side3 => exact ccT ((by repeat (first|(with_reducible exact HR528.out)|(with_reducible refine Kd.C_alloc ?_ _)|(with_reducible refine Kd.C_drewN ?_ _)|(with_reducible refine Kd.C_drew ?_)|exact HR528.out)))); (case side4 => exact HC528.out); rintro e w' ⟨rfl,⟨nd,rfl⟩⟩))
           go_meet
           case rel => exact ⟨_,(!t529),(by first|rfl|(simp; done)|(simp [*]; done)),H',⟨by have := HJ6.out; first|omega|exact Nat.le_refl _⟩,⟨(rrA23 HO_3.out)⟩,⟨(rrA23 HO_4.out)⟩,⟨(rrA23 HO_5.out)⟩,⟨bT HB⟩⟩
          ·
           rw [if_neg c23] at H
           exact absurd H (by simp)
         ·
          rw [if_neg c22] at H
          exact absurd H (by simp)
       case rest =>
        clear HC19
        obtain ⟨kq,x59_18,rfl,HA,HJ18,HO_3,HO_4,HO_5,HB⟩ := hcut
        cases kq with
        | zero => exact absurd HA.out (by simp [laws_FnLinks.j1])
        | succ kj18 =>
         have H := HA.out
         clear HA
         simp only [laws_FnLinks.j1] at H
         by_cases c27 : x59_18 = true
         ·
          subst c27
          have H1 : (some false) = some r := by rw [if_pos rfl] at H; exact H
          clear H; have H := H1; clear H1
          obtain rfl := Option.some.inj H
          go_wp2
          go_ret
          exact ⟨by first|rfl|(simp [errW_none,errW_some] <;> rfl)|(simp [*,errW_none,errW_some] <;> rfl),bT HB⟩
         ·
          replace c27 := Bool.eq_false_iff.mpr c27
          subst c27
          have H1 : ((some (([] : List Int) : List Int)).bind fun y530 => (if y530.length + t511.length < 17592186044416 then (laws_FnLinks.l0 kj18 t510 t516 (y530 ++ t511) 0) else (none))) = some r := by rw [if_neg (show ¬ (false = true) by decide)] at H; exact H
          clear H; have H := H1; clear H1
          obtain ⟨y530,hy530⟩ : ∃ y_ : List Int,y_ = (([] : List Int)) := ⟨_,rfl⟩
          replace H : (if y530.length + t511.length < 17592186044416 then (laws_FnLinks.l0 kj18 t510 t516 (y530 ++ t511) 0) else (none)) = some r := by first | (rw [hy530]; with_reducible exact H) | (have H2_ := (Option.bind_some _ _).symm.trans H; rw [hy530]; with_reducible exact H2_) | (have H2_ := (Option.bind_some _ _).symm.trans H; with_reducible exact H2_)|with_reducible exact H | (rw [hy530]; exact H)|exact H
          have Ny530 := zA hy530
          clear hy530
          by_cases c28 : y530.length + t511.length < 17592186044416
          ·
           rw [if_pos c28] at H
           have LMc28 := zA c28
           clear c28
           obtain ⟨y533,hy533⟩ : ∃ y_ : List Int,y_ = (y530 ++ t511) := ⟨_,rfl⟩
           replace H : (laws_FnLinks.l0 kj18 t510 t516 y533 0) = some r := by first | (rw [hy533]; with_reducible exact H) | (have H2_ := (Option.bind_some _ _).symm.trans H; rw [hy533]; with_reducible exact H2_) | (have H2_ := (Option.bind_some _ _).symm.trans H; with_reducible exact H2_)|with_reducible exact H | (rw [hy533]; exact H)|exact H
           have Ny533 := zA hy533
           clear hy533
           have H' := zA H
           clear H
           go_wp2_with (first | ((with_reducible refine gate_dst (N := 60) rfl ?_); (try (refine gate_guard (by rfl) ?_; dsimp only)); refine Kd.R_lit (Kd.int .i64) _ 3 ?hg (N := 60) ?hd (xs := ([] : List Int)) (inner := []) (ok := fun _ => True) (okp := fun _ => True) ?hr ?hp (fun _ hk => hk) trivial (Below.refl _ _) (Nat.le_refl _) (by simp) ?_; (case hd => rfl); (case hg => rfl); (case hr => first | (go_simp; done) | (go_simp; rfl)); (case hp => exact (Reps.none _ _)); intro v531 w29 ho30 hb hg_ hnew_; clear hg_ hnew_; (first | rw [← Ny530.out] at ho30|(simp only [Int.reduceToNat] at ho30; rw [← Ny530.out] at ho30)); have n0_ := zA (Kd.R_below (rrA23 HO_3.out) hb); have n1_ := zA (Kd.R_elder' (rrA23 HO_4.out) (Kd.R_base ho30) hb); have n2_ := zA (Kd.R_below (rrA23 HO_5.out) hb); have n3_ := zA (Kd.R_lower (Kd.R_new' ho30 (Kd.R_lt (rrA23 HO_4.out))) (below_size (bT HB))); have n4_ := zA (below_step (bT HB) hb); clear HO_3 HO_4 HO_5 HB; have HO_3 := n0_; have HO_4 := n1_; have HO_5 := n2_; have HO532 := n3_; have HB := n4_; clear n0_ n1_ n2_ n3_ n4_ hb ho30) | ((with_reducible refine gate_builtin (b := .append) (xs := #[.tmp 60,.tmp 61]) rfl ?_); (try (refine gate_guard (by rfl) ?_; dsimp only)); at_builtin; refine Kd.R_append_rows (Kd.int .i64) (w0 := w) w.heap.size rfl (.tmp 60) (.tmp 61) 52 3 (.int .i64 0) 8 rfl Try.underlying52 info3 rfl (by decide) (by omega) v531 y530 t511 _ _ _ (fun k_ => some k_ ≠ (.slice Ao10 t511.length co10 : Value).ownBlock) (fun _ => False) rfl rfl ?aO ?aR (fun _ _ h => h) (fun _ h => h.elim) ?aF ?aB ?aS ?aL ?_; (case aR => exact ccT ((zB HO_4.out).2.2)); (case aB => exact (bT HB)); (case aF => exact (fun k_ hk => Kd.fresh' (Kd.R_lt (rrA23 HO_4.out)) k_ hk)); (case aO => exact (by (with_reducible repeat (first|apply Kd.R_alloc|apply Kd.R_drewN|apply Kd.R_drew)); exact Kd.R_mono HO532.out (fun _ h=>h.2))); (case aS => exact (below_size (bT HB))); (case aL => have := LMc28.out; omega); intro v534 w31 ho hb hg hat; rw [← Ny533.out] at ho; have n0_ := zA (Kd.R_over' (rrA23 HO_3.out) (Kd.R_typed (rrA23 HO532.out)) (by decide) hg); have n1_ := zA (Kd.R_after (ok := (fun _ => True)) (rrA23 HO_4.out) hg hat); have n2_ := zA (Kd.R_over' (rrA23 HO_5.out) (Kd.R_typed (rrA23 HO532.out)) (by decide) hg); have n3_ := zA (hb); have n4_ := zA (ho); clear HO_3 HO_4 HO_5 HB HO532; have HO_3 := n0_; have HO_4 := n1_; have HO_5 := n2_; have HB := n3_; have HO535 := n4_; clear n0_ n1_ n2_ n3_ n4_ ho hb hg hat))
           go_loopg [9,10] kj18 (fun kq v9 v10 w' => ∃ (x9_3 : List Int) (x10_3 : Int),v10 = .int .i64 x10_3 ∧ Aside0 (laws_FnLinks.l0 kq t510 t516 x9_3 x10_3 = some r) ∧ Aside0 (kq ≤ kj18) ∧ Aside0 (Kd.R Kd.string 9 w' w.heap.size (fun k_ => some k_ ≠ (v518 : Value).ownBlock) (.slice Ao9 t510.length co9) t510) ∧ Aside0 (Kd.R Kd.string 9 w' w.heap.size (fun k_ => some k_ ≠ ((.slice Ao9 t510.length co9) : Value).ownBlock) v518 t516) ∧ Aside0 (Kd.R (Kd.int .i64) 3 w' w.heap.size (fun _ => True) v9 x9_3) ∧ Aside0 (Below w.heap.size w w'))
           case atStart => exact ⟨(y533),(0),(by first|rfl|(simp; done)|(simp [*]; done)),H',⟨Nat.le_refl _⟩,⟨(rrA23 HO_3.out)⟩,⟨(rrA23 HO_5.out)⟩,⟨by (with_reducible repeat (first|apply Kd.R_alloc|apply Kd.R_drewN|apply Kd.R_drew)); exact Kd.R_mono HO535.out (fun _ hk => trivial)⟩,⟨bT HB⟩⟩
           case round =>
            clear H'
            obtain ⟨x9_3,x10_3,rfl,HA,HK3,HO_3,HO_5,HO_9,HB⟩ := hrel
            cases gk with
            | zero => exact absurd HA.out (by simp [laws_FnLinks.l0])
            | succ k3 =>
             have H := HA.out
             clear HA
             simp only [laws_FnLinks.l0] at H
             by_cases c32 : x10_3 < 60
             ·
              rw [if_pos c32] at H
              have c32b0 : decide (x10_3 < 60) = true := decide_eq_true c32
              clear c32
              by_cases c33 : (x9_3.length : Int) < 200
              ·
               rw [if_pos c33] at H
               have c33b0 : decide ((x9_3.length : Int) < 200) = true := decide_eq_true c33
               have c33b1 : decide (x9_3.length < 200) = true := decide_eq_true (by omega)
               clear c33
               obtain ⟨y536,hy536⟩ : ∃ y_ : List Int,y_ = (([1,2,3,0] : List Int)) := ⟨_,rfl⟩
               replace H : (if 0 ≤ (Int.tmod x10_3 4) then (if (Int.tmod x10_3 4) < (y536.length : Int) then (if x9_3.length < 17592186044416 then (laws_FnLinks.l0 k3 t510 t516 (x9_3 ++ [rd y536 (Int.tmod x10_3 4)]) (wrap64 (x10_3 + 1))) else (none)) else (none)) else (none)) = some r := by first | (rw [hy536]; with_reducible exact H) | (have H2_ := (Option.bind_some _ _).symm.trans H; rw [hy536]; with_reducible exact H2_) | (have H2_ := (Option.bind_some _ _).symm.trans H; with_reducible exact H2_)|with_reducible exact H | (rw [hy536]; exact H)|exact H
               have Ny536 := zA hy536
               clear hy536
               obtain ⟨ji34,hji34⟩ : ∃ j_ : Int,(Int.tmod x10_3 4) = j_ := ⟨_,rfl⟩
               replace H : (if 0 ≤ (ji34) then (if (ji34) < (y536.length : Int) then (if x9_3.length < 17592186044416 then (laws_FnLinks.l0 k3 t510 t516 (x9_3 ++ [rd y536 (ji34)]) (wrap64 (x10_3 + 1))) else (none)) else (none)) else (none)) = some r := by first | (rw [hji34] at H; exact H)|(simp only [hji34] at H ⊢; exact H)
               by_cases c35 : 0 ≤ (ji34)
               ·
                rw [if_pos c35] at H
                have c35b0 : decide (0 ≤ (ji34)) = true := decide_eq_true c35
                clear c35
                by_cases c36 : (ji34) < (y536.length : Int)
                ·
                 rw [if_pos c36] at H
                 have c36b0 : decide ((ji34) < (y536.length : Int)) = true := decide_eq_true c36
                 clear c36
                 by_cases c37 : x9_3.length < 17592186044416
                 ·
                  rw [if_pos c37] at H
                  have LMc37 := zA c37
                  clear c37
                  obtain ⟨y540,hy540⟩ : ∃ y_ : List Int,y_ = (x9_3 ++ [rd y536 (ji34)]) := ⟨_,rfl⟩
                  replace H : (laws_FnLinks.l0 k3 t510 t516 y540 (wrap64 (x10_3 + 1))) = some r := by first | (rw [hy540]; with_reducible exact H) | (have H2_ := (Option.bind_some _ _).symm.trans H; rw [hy540]; with_reducible exact H2_) | (have H2_ := (Option.bind_some _ _).symm.trans H; with_reducible exact H2_)|with_reducible exact H | (rw [hy540]; exact H)|exact H
                  have Ny540 := zA hy540
                  clear hy540
                  have H' := zA H
                  clear H
                  obtain ⟨Ao38,co38,eo38⟩ := Kd.R_slice HO_9.out
                  subst eo38
                  go_wp2_with (first | ((with_reducible refine gate_dst (N := 73) rfl ?_); (try (refine gate_guard (by rfl) ?_; dsimp only)); refine Kd.R_lit (Kd.int .i64) _ 3 ?hg (N := 73) ?hd (xs := ([1,2,3,0] : List Int)) (inner := [.int .i64 1,.int .i64 2,.int .i64 3,.int .i64 0]) (ok := fun _ => True) (okp := fun _ => True) ?hr ?hp (fun _ hk => hk) trivial (Below.refl _ _) (Nat.le_refl _) (by simp) ?_; (case hd => rfl); (case hg => rfl); (case hr => first | (go_simp; done) | (go_simp; rfl)); (case hp => exact (Reps.one (show Kd.M (Kd.int .i64) _ _ _ 1 [.int .i64 1] from rfl) (Reps.one (show Kd.M (Kd.int .i64) _ _ _ 2 [.int .i64 2] from rfl) (Reps.one (show Kd.M (Kd.int .i64) _ _ _ 3 [.int .i64 3] from rfl) (Reps.one (show Kd.M (Kd.int .i64) _ _ _ 0 [.int .i64 0] from rfl) (Reps.none _ _)))))); intro v537 w39 ho40 hb hg_ hnew_; clear hg_ hnew_; (first | rw [← Ny536.out] at ho40|(simp only [Int.reduceToNat] at ho40; rw [← Ny536.out] at ho40)); have n0_ := zA (Kd.R_below (rrA23 HO_3.out) hb); have n1_ := zA (Kd.R_below (rrA23 HO_5.out) hb); have n2_ := zA (Kd.R_elder' (rrA23 HO_9.out) (Kd.R_base ho40) hb); have n3_ := zA (Kd.R_lower (Kd.R_new' ho40 (Kd.R_lt (rrA23 HO_9.out))) (below_size (bT HB))); have n4_ := zA (below_step (bT HB) hb); clear HO_3 HO_5 HO_9 HB; have HO_3 := n0_; have HO_5 := n1_; have HO_9 := n2_; have HO538 := n3_; have HB := n4_; clear n0_ n1_ n2_ n3_ n4_ hb ho40; obtain ⟨Ao41,co41,eo41⟩ := Kd.R_slice HO538.out; subst eo41; have p539 : 0 ≤ ((ji34) : Int) := of_decide_eq_true (by first|(with_reducible assumption) | assumption); have q539 : (ji34) < (y536.length : Int) := of_decide_eq_true (by first|(with_reducible assumption) | assumption); obtain ⟨ad539,e539,hx539_0⟩ := Kd.at_int (zB HO538.out).2.2 (ji34) p539 q539; cases e539; replace p539 := eq_true p539; replace q539 := eq_true q539) | ((with_reducible refine gate_builtin (b := .append) (xs := #[.tmp 72,.tmp 78]) rfl ?_); (try (refine gate_guard (by rfl) ?_; dsimp only)); at_builtin; refine Kd.R_append (Kd.int .i64) (w0 := w) w.heap.size rfl (.tmp 72) (.tmp 78) 52 3 (.int .i64 0) 8 rfl Try.underlying52 info3 rfl (by decide) (by omega) (.slice Ao38 x9_3.length co38) x9_3 (rd y536 (ji34)) [.int .i64 (rd y536 (ji34))] (fun k_ => some k_ ≠ (.slice (some ad539) y536.length co41 : Value).ownBlock) (fun _ => False) rfl rfl ?aP (fun _ hk => hk.elim) ?aF ?aO ?aB ?aS ?aL ?_; (case aP => exact rfl); (case aB => exact (bT HB)); (case aF => exact (fun k_ hk => Kd.fresh' (Kd.R_lt (rrA23 HO538.out)) k_ hk)); (case aO => exact (by (with_reducible repeat (first|apply Kd.R_alloc|apply Kd.R_drewN|apply Kd.R_drew)); exact Kd.R_mono HO_9.out (fun _ h=>h.2))); (case aS => exact (below_size (bT HB))); (case aL => have := LMc37.out; omega); intro v541 w42 ho hb hg hat; rw [← Ny540.out] at ho; have n0_ := zA (Kd.R_over' (rrA23 HO_3.out) (Kd.R_typed (rrA23 HO_9.out)) (by decide) hg); have n1_ := zA (Kd.R_over' (rrA23 HO_5.out) (Kd.R_typed (rrA23 HO_9.out)) (by decide) hg); have n2_ := zA (Kd.R_after (ok := (fun _ => True)) (rrA23 HO538.out) hg hat); have n3_ := zA (hb); have n4_ := zA (ho); clear HO_3 HO_5 HO538 HB HO_9; have HO_3 := n0_; have HO_5 := n1_; have HO538 := n2_; have HB := n3_; have HO542 := n4_; clear n0_ n1_ n2_ n3_ n4_ ho hb hg hat))
                  go_roundg k3
                  case measure => have := HJ6.out; have := HJ18.out; have := HK3.out; omega
                  case rel => exact ⟨(y540),(wrap64 (x10_3 + 1)),(by first|rfl|(simp; done)|(simp [*]; done)),H',⟨by have := HJ6.out; have := HJ18.out; have := HK3.out; omega⟩,⟨(rrA23 HO_3.out)⟩,⟨(rrA23 HO_5.out)⟩,⟨by (with_reducible repeat (first|apply Kd.R_alloc|apply Kd.R_drewN|apply Kd.R_drew)); exact Kd.R_mono HO542.out (fun _ hk => trivial)⟩,⟨bT HB⟩⟩
                 ·
                  rw [if_neg c37] at H
                  exact absurd H (by simp)
                ·
                 rw [if_neg c36] at H
                 exact absurd H (by simp)
               ·
                rw [if_neg c35] at H
                exact absurd H (by simp)
              ·
               rw [if_neg c33] at H
               have c33b0 : decide ((x9_3.length : Int) < 200) = false := decide_eq_false c33
               have c33b1 : decide (x9_3.length < 200) = false := decide_eq_false (by omega)
               clear c33
               replace H := Option.bind_eq_some_iff.mp H
               obtain ⟨⟨t543,t544⟩,A430,H⟩ := H
               replace H : (if t544 = true then (some (decide ((t543.length : Int) ≥ (t516.length : Int)))) else (some false)) = some r := H
               have A43 := zA A430
               clear A430
               by_cases c44 : t544 = true
               ·
                subst c44
                have H1 : (some (decide ((t543.length : Int) ≥ (t516.length : Int)))) = some r := by rw [if_pos rfl] at H; exact H
                clear H; have H := H1; clear H1
                obtain rfl := Option.some.inj H
                obtain ⟨Ao45,co45,eo45⟩ := Kd.R_slice HO_9.out
                subst eo45
                go_wp2_with (first | ((with_reducible refine gate_callee (f := 38) rfl ?_); refine goesL_ (some 83) rfl rfl Try.func38 (by kernel_rfl) rfl #[.slice Ao9 t510.length co9,.slice Ao45 x9_3.length co45] rfl (by (try simp only [List.map_toArray,List.map_cons,List.map_nil]); first | done|rfl|(simp only [List.length_drop,List.length_take]; rfl)) ?_; (with_reducible refine (impl_Talk.calls k3 _ _ t510 _ _ x9_3 t543 true _ ?side1 ?side2 ?side3 ?side4 A43.out).mono ?_); (case side1 => exact ccT ((zB HO_3.out).2.2)); (case side2 => exact (zB HO_3.out).2.1); (case side3 => exact ccT ((zB HO_9.out).2.2)); (case side4 => exact (zB HO_9.out).2.1); rintro e w46 ⟨v545,rfl,ho0,hb⟩; refine ⟨_,rfl,?_⟩; have n0_ := zA (Kd.R_elder' (rrA23 HO_3.out) (Kd.R_base ho0) hb); have n1_ := zA (Kd.R_elder' (rrA23 HO_5.out) (Kd.R_base ho0) hb); have n2_ := zA (Kd.R_below (rrA23 HO_9.out) hb); have n3_ := zA (Kd.R_lower (Kd.R_new' (Kd.R_new' ho0 (Kd.R_lt (rrA23 HO_3.out))) (Kd.R_lt (rrA23 HO_5.out))) (below_size (bT HB))); have n4_ := zA (below_step (bT HB) hb); clear HO_3 HO_5 HO_9 HB; have HO_3 := n0_; have HO_5 := n1_; have HO_9 := n2_; have HO546 := n3_; have HB := n4_; clear n0_ n1_ n2_ n3_ n4_; obtain ⟨Ao47,co47,eo47⟩ := Kd.R_slice HO546.out; subst eo47; obtain ⟨Ao48,co48,eo48⟩ := Kd.R_slice HO_5.out; subst eo48))
                go_ret
                exact ⟨by first|rfl|(simp [errW_none,errW_some] <;> rfl)|(simp [*,errW_none,errW_some] <;> rfl),bT HB⟩
               ·
                replace c44 := Bool.eq_false_iff.mpr c44
                subst c44
                have H1 : (some false) = some r := by rw [if_neg (show ¬ (false = true) by decide)] at H; exact H
                clear H; have H := H1; clear H1
                obtain rfl := Option.some.inj H
                obtain ⟨Ao49,co49,eo49⟩ := Kd.R_slice HO_9.out
                subst eo49
                go_wp2_with (first | ((with_reducible refine gate_callee (f := 38) rfl ?_); refine goesL_ (some 83) rfl rfl Try.func38 (by kernel_rfl) rfl #[.slice Ao9 t510.length co9,.slice Ao49 x9_3.length co49] rfl (by (try simp only [List.map_toArray,List.map_cons,List.map_nil]); first | done|rfl|(simp only [List.length_drop,List.length_take]; rfl)) ?_; (with_reducible refine (impl_Talk.calls k3 _ _ t510 _ _ x9_3 t543 false _ ?side1 ?side2 ?side3 ?side4 A43.out).mono ?_); (case side1 => exact ccT ((zB HO_3.out).2.2)); (case side2 => exact (zB HO_3.out).2.1); (case side3 => exact ccT ((zB HO_9.out).2.2)); (case side4 => exact (zB HO_9.out).2.1); rintro e w50 ⟨v545,rfl,ho0,hb⟩; refine ⟨_,rfl,?_⟩; have n0_ := zA (Kd.R_elder' (rrA23 HO_3.out) (Kd.R_base ho0) hb); have n1_ := zA (Kd.R_elder' (rrA23 HO_5.out) (Kd.R_base ho0) hb); have n2_ := zA (Kd.R_below (rrA23 HO_9.out) hb); have n3_ := zA (Kd.R_lower (Kd.R_new' (Kd.R_new' ho0 (Kd.R_lt (rrA23 HO_3.out))) (Kd.R_lt (rrA23 HO_5.out))) (below_size (bT HB))); have n4_ := zA (below_step (bT HB) hb); clear HO_3 HO_5 HO_9 HB; have HO_3 := n0_; have HO_5 := n1_; have HO_9 := n2_; have HO546 := n3_; have HB := n4_; clear n0_ n1_ n2_ n3_ n4_))
                go_ret
                exact ⟨by first|rfl|(simp [errW_none,errW_some] <;> rfl)|(simp [*,errW_none,errW_some] <;> rfl),bT HB⟩
             ·
              rw [if_neg c32] at H
              have c32b0 : decide (x10_3 < 60) = false := decide_eq_false c32
              clear c32
              replace H := Option.bind_eq_some_iff.mp H
              obtain ⟨⟨t547,t548⟩,A510,H⟩ := H
              replace H : (if t548 = true then (some (decide ((t547.length : Int) ≥ (t516.length : Int)))) else (some false)) = some r := H
              have A51 := zA A510
              clear A510
              by_cases c52 : t548 = true
              ·
               subst c52
               have H1 : (some (decide ((t547.length : Int) ≥ (t516.length : Int)))) = some r := by rw [if_pos rfl] at H; exact H
               clear H; have H := H1; clear H1
               obtain rfl := Option.some.inj H
               obtain ⟨Ao53,co53,eo53⟩ := Kd.R_slice HO_9.out
               subst eo53
               go_wp2_with (first | ((with_reducible refine gate_callee (f := 38) rfl ?_); refine goesL_ (some 83) rfl rfl Try.func38 (by kernel_rfl) rfl #[.slice Ao9 t510.length co9,.slice Ao53 x9_3.length co53] rfl (by (try simp only [List.map_toArray,List.map_cons,List.map_nil]); first | done|rfl|(simp only [List.length_drop,List.length_take]; rfl)) ?_; (with_reducible refine (impl_Talk.calls k3 _ _ t510 _ _ x9_3 t547 true _ ?side1 ?side2 ?side3 ?side4 A51.out).mono ?_); (case side1 => exact ccT ((zB HO_3.out).2.2)); (case side2 => exact (zB HO_3.out).2.1); (case side3 => exact ccT ((zB HO_9.out).2.2)); (case side4 => exact (zB HO_9.out).2.1); rintro e w54 ⟨v549,rfl,ho0,hb⟩; refine ⟨_,rfl,?_⟩; have n0_ := zA (Kd.R_elder' (rrA23 HO_3.out) (Kd.R_base ho0) hb); have n1_ := zA (Kd.R_elder' (rrA23 HO_5.out) (Kd.R_base ho0) hb); have n2_ := zA (Kd.R_below (rrA23 HO_9.out) hb); have n3_ := zA (Kd.R_lower (Kd.R_new' (Kd.R_new' ho0 (Kd.R_lt (rrA23 HO_3.out))) (Kd.R_lt (rrA23 HO_5.out))) (below_size (bT HB))); have n4_ := zA (below_step (bT HB) hb); clear HO_3 HO_5 HO_9 HB; have HO_3 := n0_; have HO_5 := n1_; have HO_9 := n2_; have HO550 := n3_; have HB := n4_; clear n0_ n1_ n2_ n3_ n4_; obtain ⟨Ao55,co55,eo55⟩ := Kd.R_slice HO550.out; subst eo55; obtain ⟨Ao56,co56,eo56⟩ := Kd.R_slice HO_5.out; subst eo56))
               go_ret
               exact ⟨by first|rfl|(simp [errW_none,errW_some] <;> rfl)|(simp [*,errW_none,errW_some] <;> rfl),bT HB⟩
              ·
               replace c52 := Bool.eq_false_iff.mpr c52
               subst c52
               have H1 : (some false) = some r := by rw [if_neg (show ¬ (false = true) by decide)] at H; exact H
               clear H; have H := H1; clear H1
               obtain rfl := Option.some.inj H
               obtain ⟨Ao57,co57,eo57⟩ := Kd.R_slice HO_9.out
               subst eo57
               go_wp2_with (first | ((with_reducible refine gate_callee (f := 38) rfl ?_); refine goesL_ (some 83) rfl rfl Try.func38 (by kernel_rfl) rfl #[.slice Ao9 t510.length co9,.slice Ao57 x9_3.length co57] rfl (by (try simp only [List.map_toArray,List.map_cons,List.map_nil]); first | done|rfl|(simp only [List.length_drop,List.length_take]; rfl)) ?_; (with_reducible refine (impl_Talk.calls k3 _ _ t510 _ _ x9_3 t547 false _ ?side1 ?side2 ?side3 ?side4 A51.out).mono ?_); (case side1 => exact ccT ((zB HO_3.out).2.2)); (case side2 => exact (zB HO_3.out).2.1); (case side3 => exact ccT ((zB HO_9.out).2.2)); (case side4 => exact (zB HO_9.out).2.1); rintro e w58 ⟨v549,rfl,ho0,hb⟩; refine ⟨_,rfl,?_⟩; have n0_ := zA (Kd.R_elder' (rrA23 HO_3.out) (Kd.R_base ho0) hb); have n1_ := zA (Kd.R_elder' (rrA23 HO_5.out) (Kd.R_base ho0) hb); have n2_ := zA (Kd.R_below (rrA23 HO_9.out) hb); have n3_ := zA (Kd.R_lower (Kd.R_new' (Kd.R_new' ho0 (Kd.R_lt (rrA23 HO_3.out))) (Kd.R_lt (rrA23 HO_5.out))) (below_size (bT HB))); have n4_ := zA (below_step (bT HB) hb); clear HO_3 HO_5 HO_9 HB; have HO_3 := n0_; have HO_5 := n1_; have HO_9 := n2_; have HO550 := n3_; have HB := n4_; clear n0_ n1_ n2_ n3_ n4_))
               go_ret
               exact ⟨by first|rfl|(simp [errW_none,errW_some] <;> rfl)|(simp [*,errW_none,errW_some] <;> rfl),bT HB⟩
          ·
           rw [if_neg c28] at H
           exact absurd H (by simp)
      ·
       replace c18 := Bool.eq_false_iff.mpr c18
       subst c18
       have H1 : (some ((t516.length : Int) == 0)) = some r := by rw [if_neg (show ¬ (false = true) by decide)] at H; exact H
       clear H; have H := H1; clear H1
       obtain rfl := Option.some.inj H
       obtain ⟨Ao59,co59,eo59⟩ := Kd.R_slice HO_5.out
       subst eo59
       go_wp2
       go_ret
       exact ⟨by first|rfl|(simp [errW_none,errW_some] <;> rfl)|(simp [*,errW_none,errW_some] <;> rfl),bT HB⟩

/-- THE ONE PURE STATEMENT of laws_FnLinks: yours. -/
def laws_FnLinks.Pure : Prop := ∀ (l0 : List Int),l0.length ≤ maxLen → l0.length * 1 ≤ 140737488351232 → (∀ x ∈ l0,(Lit.int .u8 x).wf = true) → ∃ k,laws_FnLinks.f k l0 = some true
theorem laws_FnLinks.walk (P : laws_FnLinks.Pure) (a0 : Option Addr) (len0 cap0 : Nat) (z0 : List Int) (w : World) (w0 : (a0 = none ∧ len0 = 0 ∧ cap0 = 0 ∧ z0 = []) ∨ ∃ x,a0 = some x ∧ len0 ≤ cap0 ∧ cap0 ≤ maxLen ∧ z0.length = cap0 ∧ (∀ i,i < z0.length → w.cell? (x.add i) = some (.int .u8 (z0.getD i 0))) ∧ ∀ n ∈ z0,(Lit.int .u8 n).wf = true) (y0 : len0 * 1 ≤ 140737488351232) :
   Calls Try.prog 10 #[.slice a0 len0 cap0] w fun e w' => e = .returned (.bool true) ∧ Below w.heap.size w w' := by
  obtain ⟨l0,rfl,hr0,hm0,hw0,hc0⟩ := ReadsInt.ofRowC w0
  obtain ⟨k,h⟩ := P l0 hm0 y0 hw0
  refine (laws_FnLinks.calls k _ _ l0 true w (Kd.C_of_reads (d := (0 : Int)) (h1 := fun _ => rfl) hr0) hc0 h).mono ?_
  rintro e w' ⟨rfl,hd⟩
  exact ⟨rfl,hd⟩

end Go.Proofs.Ytlidnobkkgcnlaa.PFnLinks
