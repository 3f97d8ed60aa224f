-- Written by a program out of the translation,for this claim.
import Derived.Test.YtlidnobkkgcnlaaPFnExactTalkx0
import Derived.Test.YtlidnobkkgcnlaaPFnExactTalkx1
import Derived.Test.YtlidnobkkgcnlaaPFnExactTalkx8
import Derived.Test.YtlidnobkkgcnlaaPFnExactTalkx9
import Derived.Test.YtlidnobkkgcnlaaPFnExactTalkx10
import Derived.Test.YtlidnobkkgcnlaaPFnExactTalkx19
import Derived.Test.YtlidnobkkgcnlaaPFnExactTalkx20
import Derived.Test.YtlidnobkkgcnlaaPFnExactTalkx21
import Derived.Test.YtlidnobkkgcnlaaPFnExactTalkx23
import Derived.Test.YtlidnobkkgcnlaaPFnExactTalkx24
import Derived.Test.YtlidnobkkgcnlaaPFnExactTalkx25
namespace Go.Proofs.Ytlidnobkkgcnlaa.PFnExactTalk
open Go.RowKit Go.Proofs.YtlidnobkkgcnlaaW.PrintWords Go.Proofs.YtlidnobkkgcnlaaW.PrintLast Go.Proofs.YtlidnobkkgcnlaaW.PrintMore
attribute [local go_sem] max2_int min2_int max_two min_two max_three min_three max_four min_four   -- for this text's walks alone
set_option linter.unusedVariables false
set_option linter.unusedSimpArgs false
theorem rrA26 {p q : Prop} (h : p) (f : p → q := by (intro h_; (with_reducible repeat (first | apply Kd.R_alloc | apply Kd.R_drewN | apply Kd.R_drew)); exact h_)) : q := f h
open Go.Proofs.YtlidnobkkgcnlaaW.PrintWords.Aside0 renaming mk → zA
open Go.Proofs.YtlidnobkkgcnlaaW.PrintWords.Kd renaming R_mono → zB
open Go.Proofs.YtlidnobkkgcnlaaW.PrintWords.Kd renaming R_below → zC
open Go.Proofs.YtlidnobkkgcnlaaW.PrintWords.Kd renaming R_base → zD
open Go.Proofs.YtlidnobkkgcnlaaW.PrintWords.Kd renaming R_new' → zE
open Go.Proofs.YtlidnobkkgcnlaaW.PrintWords.Kd renaming R_reads' → zF
open Go.Proofs.YtlidnobkkgcnlaaW.PrintWords.Kd renaming R_alloc → zG
open Go.Proofs.YtlidnobkkgcnlaaW.PrintWords.Kd renaming R_drewN → zH
open Go.Proofs.YtlidnobkkgcnlaaW.PrintWords.Kd renaming R_drew → zI
open Go.Proofs.YtlidnobkkgcnlaaW.PrintWords renaming below_step → zJ

/-! ### laws_FnExactTalk: function 9 -/
mutual
def laws_FnExactTalk.j0 : Nat → List ByteArray → List Int → List ByteArray → Bool → List ByteArray → List Int → List ByteArray → Bool → Bool → Option (Bool)
  | 0,_,_,_,_,_,_,_,_,_ => none
  | k + 1,x0,x1,x6,x7,x8,x9,x10,x11,x51 => if x51 = true then (some false) else ((laws_toStringS.f k x0).bind fun t475 => ((laws_eqStringS.f k x8 t475).bind fun t478 => (if t478 = true then ((laws_toIntS.f k x1).bind fun t479 => ((laws_eqIntS.f k x9 t479).bind fun t482 => (if t482 = true then ((laws_markStringS.f k x8 1).bind fun bt483 => ((laws_markIntS.f k x9 bt483.1).bind fun bt485 => (if bt485.1 < 0 then (laws_FnExactTalk.j1 k x0 x1 x6 x7 x10 true) else ((laws_eqStringS.f k x10 x6).bind fun t487 => (if t487 = true then (laws_FnExactTalk.j1 k x0 x1 x6 x7 x10 (x11 != x7)) else (laws_FnExactTalk.j1 k x0 x1 x6 x7 x10 true)))))) else (some false)))) else (some false))))
def laws_FnExactTalk.j1 : Nat → List ByteArray → List Int → List ByteArray → Bool → List ByteArray → Bool → Option (Bool)
  | 0,_,_,_,_,_,_ => none
  | k + 1,x0,x1,x6,x7,x10,x80 => if x80 = true then (some false) else ((laws_markStringS.f k x10 1).bind fun bt488 => ((laws_heldStringS.f k bt488.2 1).bind fun t490 => (if t490 < 0 then (some false) else (if t490 = bt488.1 then ((laws_toStringS.f k x0).bind fun t491 => ((laws_toIntS.f k x1).bind fun t494 => ((impl_Talk.f k t491 t494).bind fun bt497 => ((laws_eqStringS.f k bt497.1 x6).bind fun t501 => (if t501 = true then (laws_FnExactTalk.j2 k bt488.2 bt488.1 (bt497.2 != x7)) else (laws_FnExactTalk.j2 k bt488.2 bt488.1 true)))))) else (some false)))))
def laws_FnExactTalk.j2 : Nat → List ByteArray → Int → Bool → Option (Bool)
  | 0,_,_,_ => none
  | k + 1,x10,x13,x108 => if x108 = true then (some false) else ((laws_heldStringS.f k x10 1).bind fun t502 => (if t502 < 0 then (some false) else (if t502 = x13 then (some true) else (some false))))
end
def laws_FnExactTalk.f (k : Nat) (l0 : List ByteArray) (l1 : List Int) : Option (Bool) := if (l1.length : Int) > 1048576 then (some true) else ((laws_szStringS.f k l0 1048576).bind fun t453 => (if t453 < 0 then (some true) else ((laws_toStringS.f k l0).bind fun t454 => ((laws_toIntS.f k l1).bind fun t457 => ((spec_Talk.f k t454 t457).bind fun bt460 => ((laws_toStringS.f k l0).bind fun t464 => ((laws_toIntS.f k l1).bind fun t467 => ((impl_Talk.f k t464 t467).bind fun bt470 => ((laws_eqStringS.f k bt470.1 bt460.1).bind fun t474 => (if t474 = true then (laws_FnExactTalk.j0 k l0 l1 bt460.1 bt460.2 t464 t467 bt470.1 bt470.2 (bt470.2 != bt460.2)) else (laws_FnExactTalk.j0 k l0 l1 bt460.1 bt460.2 t464 t467 bt470.1 bt470.2 true)))))))))))
theorem laws_FnExactTalk.mono_l : ∀ k,(∀ y0 y1 y2 y3 y4 y5 y6 y7 y8,LeO (laws_FnExactTalk.j0 k y0 y1 y2 y3 y4 y5 y6 y7 y8) (laws_FnExactTalk.j0 (k + 1) y0 y1 y2 y3 y4 y5 y6 y7 y8)) ∧ (∀ y0 y1 y2 y3 y4 y5,LeO (laws_FnExactTalk.j1 k y0 y1 y2 y3 y4 y5) (laws_FnExactTalk.j1 (k + 1) y0 y1 y2 y3 y4 y5)) ∧ (∀ y0 y1 y2,LeO (laws_FnExactTalk.j2 k y0 y1 y2) (laws_FnExactTalk.j2 (k + 1) y0 y1 y2))
  | 0 => ⟨fun _ _ _ _ _ _ _ _ _ r h => by simp [laws_FnExactTalk.j0] at h,fun _ _ _ _ _ _ r h => by simp [laws_FnExactTalk.j1] at h,fun _ _ _ r h => by simp [laws_FnExactTalk.j2] at h⟩
  | k + 1 => by
   obtain ⟨ih0,ih1,ih2⟩ := laws_FnExactTalk.mono_l k
   refine ⟨?_,?_,?_⟩
   ·
    intro y0 y1 y2 y3 y4 y5 y6 y7 y8
    unfold laws_FnExactTalk.j0
    repeat' first
   |(with_reducible exact ih0 _ _ _ _ _ _ _ _ _)
   |(with_reducible exact ih1 _ _ _ _ _ _)
   |(with_reducible exact ih2 _ _ _)
   |(with_reducible exact impl_Talk.mono _ _ _)
   |(with_reducible exact laws_eqIntS.mono _ _ _)
   |(with_reducible exact laws_eqStringS.mono _ _ _)
   |(with_reducible exact laws_heldStringS.mono _ _ _)
   |(with_reducible exact laws_markIntS.mono _ _ _)
   |(with_reducible exact laws_markStringS.mono _ _ _)
   |(with_reducible exact laws_szStringS.mono _ _ _)
   |(with_reducible exact laws_toIntS.mono _ _)
   |(with_reducible exact laws_toStringS.mono _ _)
   |(with_reducible exact spec_Talk.mono _ _ _)
   |(with_reducible exact LeO.refl _)
   |(with_reducible exact LeO.none _)
   |(with_reducible refine LeO.ite ?_ ?_)
   |(with_reducible refine LeO.bind ?_ (fun _ => ?_))
   |exact ih0 _ _ _ _ _ _ _ _ _
   |exact ih1 _ _ _ _ _ _
   |exact ih2 _ _ _
   |exact impl_Talk.mono _ _ _
   |exact laws_eqIntS.mono _ _ _
   |exact laws_eqStringS.mono _ _ _
   |exact laws_heldStringS.mono _ _ _
   |exact laws_markIntS.mono _ _ _
   |exact laws_markStringS.mono _ _ _
   |exact laws_szStringS.mono _ _ _
   |exact laws_toIntS.mono _ _
   |exact laws_toStringS.mono _ _
   |exact spec_Talk.mono _ _ _
   |exact LeO.none _
   |refine LeO.ite ?_ ?_
   |refine LeO.bind ?_ (fun _ => ?_)
   ·
    intro y0 y1 y2 y3 y4 y5
    unfold laws_FnExactTalk.j1
    repeat' first
   |(with_reducible exact ih0 _ _ _ _ _ _ _ _ _)
   |(with_reducible exact ih1 _ _ _ _ _ _)
   |(with_reducible exact ih2 _ _ _)
   |(with_reducible exact impl_Talk.mono _ _ _)
   |(with_reducible exact laws_eqIntS.mono _ _ _)
   |(with_reducible exact laws_eqStringS.mono _ _ _)
   |(with_reducible exact laws_heldStringS.mono _ _ _)
   |(with_reducible exact laws_markIntS.mono _ _ _)
   |(with_reducible exact laws_markStringS.mono _ _ _)
   |(with_reducible exact laws_szStringS.mono _ _ _)
   |(with_reducible exact laws_toIntS.mono _ _)
   |(with_reducible exact laws_toStringS.mono _ _)
   |(with_reducible exact spec_Talk.mono _ _ _)
   |(with_reducible exact LeO.refl _)
   |(with_reducible exact LeO.none _)
   |(with_reducible refine LeO.ite ?_ ?_)
   |(with_reducible refine LeO.bind ?_ (fun _ => ?_))
   |exact ih0 _ _ _ _ _ _ _ _ _
   |exact ih1 _ _ _ _ _ _
   |exact ih2 _ _ _
   |exact impl_Talk.mono _ _ _
   |exact laws_eqIntS.mono _ _ _
   |exact laws_eqStringS.mono _ _ _
   |exact laws_heldStringS.mono _ _ _
   |exact laws_markIntS.mono _ _ _
   |exact laws_markStringS.mono _ _ _
   |exact laws_szStringS.mono _ _ _
   |exact laws_toIntS.mono _ _
   |exact laws_toStringS.mono _ _
   |exact spec_Talk.mono _ _ _
   |exact LeO.none _
   |refine LeO.ite ?_ ?_
   |refine LeO.bind ?_ (fun _ => ?_)
   ·
    intro y0 y1 y2
    unfold laws_FnExactTalk.j2
    repeat' first
   |(with_reducible exact ih0 _ _ _ _ _ _ _ _ _)
   |(with_reducible exact ih1 _ _ _ _ _ _)
   |(with_reducible exact ih2 _ _ _)
   |(with_reducible exact impl_Talk.mono _ _ _)
   |(with_reducible exact laws_eqIntS.mono _ _ _)
   |(with_reducible exact laws_eqStringS.mono _ _ _)
   |(with_reducible exact laws_heldStringS.mono _ _ _)
   |(with_reducible exact laws_markIntS.mono _ _ _)
   |(with_reducible exact laws_markStringS.mono _ _ _)
   |(with_reducible exact laws_szStringS.mono _ _ _)
   |(with_reducible exact laws_toIntS.mono _ _)
   |(with_reducible exact laws_toStringS.mono _ _)
   |(with_reducible exact spec_Talk.mono _ _ _)
   |(with_reducible exact LeO.refl _)
   |(with_reducible exact LeO.none _)
   |(with_reducible refine LeO.ite ?_ ?_)
   |(with_reducible refine LeO.bind ?_ (fun _ => ?_))
   |exact ih0 _ _ _ _ _ _ _ _ _
   |exact ih1 _ _ _ _ _ _
   |exact ih2 _ _ _
   |exact impl_Talk.mono _ _ _
   |exact laws_eqIntS.mono _ _ _
   |exact laws_eqStringS.mono _ _ _
   |exact laws_heldStringS.mono _ _ _
   |exact laws_markIntS.mono _ _ _
   |exact laws_markStringS.mono _ _ _
   |exact laws_szStringS.mono _ _ _
   |exact laws_toIntS.mono _ _
   |exact laws_toStringS.mono _ _
   |exact spec_Talk.mono _ _ _
   |exact LeO.none _
   |refine LeO.ite ?_ ?_
   |refine LeO.bind ?_ (fun _ => ?_)
theorem laws_FnExactTalk.mono : ∀ a0 a1 k,LeO (laws_FnExactTalk.f k a0 a1) (laws_FnExactTalk.f (k + 1) a0 a1) := by
  intro a0 a1 k
  obtain ⟨ih0,ih1,ih2⟩ := laws_FnExactTalk.mono_l k
  unfold laws_FnExactTalk.f
  repeat' first
   |(with_reducible exact ih0 _ _ _ _ _ _ _ _ _)
   |(with_reducible exact ih1 _ _ _ _ _ _)
   |(with_reducible exact ih2 _ _ _)
   |(with_reducible exact impl_Talk.mono _ _ _)
   |(with_reducible exact laws_eqIntS.mono _ _ _)
   |(with_reducible exact laws_eqStringS.mono _ _ _)
   |(with_reducible exact laws_heldStringS.mono _ _ _)
   |(with_reducible exact laws_markIntS.mono _ _ _)
   |(with_reducible exact laws_markStringS.mono _ _ _)
   |(with_reducible exact laws_szStringS.mono _ _ _)
   |(with_reducible exact laws_toIntS.mono _ _)
   |(with_reducible exact laws_toStringS.mono _ _)
   |(with_reducible exact spec_Talk.mono _ _ _)
   |(with_reducible exact LeO.refl _)
   |(with_reducible exact LeO.none _)
   |(with_reducible refine LeO.ite ?_ ?_)
   |(with_reducible refine LeO.bind ?_ (fun _ => ?_))
   |exact ih0 _ _ _ _ _ _ _ _ _
   |exact ih1 _ _ _ _ _ _
   |exact ih2 _ _ _
   |exact impl_Talk.mono _ _ _
   |exact laws_eqIntS.mono _ _ _
   |exact laws_eqStringS.mono _ _ _
   |exact laws_heldStringS.mono _ _ _
   |exact laws_markIntS.mono _ _ _
   |exact laws_markStringS.mono _ _ _
   |exact laws_szStringS.mono _ _ _
   |exact laws_toIntS.mono _ _
   |exact laws_toStringS.mono _ _
   |exact spec_Talk.mono _ _ _
   |exact LeO.none _
   |refine LeO.ite ?_ ?_
   |refine LeO.bind ?_ (fun _ => ?_)
set_option maxHeartbeats 8000000 in
set_option maxRecDepth 100000 in
theorem laws_FnExactTalk.calls (k : Nat) (A0 : Option Addr) (c0 : Nat) (l0 : List ByteArray) (A1 : Option Addr) (c1 : Nat) (l1 : List Int) (r : Bool) (w : World) (hr0 : Kd.C Kd.string w A0 l0.length l0) (hc0 : l0.length ≤ c0) (hr1 : Kd.C (Kd.int .i64) w A1 l1.length l1) (hc1 : l1.length ≤ c1) (h : laws_FnExactTalk.f k l0 l1 = some r) :
   Calls Try.prog 9 #[.slice A0 l0.length c0,.slice A1 l1.length c1] w fun e w' => e = .returned (.bool r) ∧ Below w.heap.size w w' := by
  have HR0 := zA hr0
  have HC0 := zA hc0
  clear hr0 hc0
  have HR1 := zA hr1
  have HC1 := zA hc1
  clear hr1 hc1
  have HB := zA (Below.refl w.heap.size w)
  have H : (if (l1.length : Int) > 1048576 then (some true) else ((laws_szStringS.f k l0 1048576).bind fun t453 => (if t453 < 0 then (some true) else ((laws_toStringS.f k l0).bind fun t454 => ((laws_toIntS.f k l1).bind fun t457 => ((spec_Talk.f k t454 t457).bind fun bt460 => ((laws_toStringS.f k l0).bind fun t464 => ((laws_toIntS.f k l1).bind fun t467 => ((impl_Talk.f k t464 t467).bind fun bt470 => ((laws_eqStringS.f k bt470.1 bt460.1).bind fun t474 => (if t474 = true then (laws_FnExactTalk.j0 k l0 l1 bt460.1 bt460.2 t464 t467 bt470.1 bt470.2 (bt470.2 != bt460.2)) else (laws_FnExactTalk.j0 k l0 l1 bt460.1 bt460.2 t464 t467 bt470.1 bt470.2 true)))))))))))) = some r := h
  clear h
  by_cases c3 : (l1.length : Int) > 1048576
  ·
   rw [if_pos c3] at H
   have c3b0 : decide (1048576 < (l1.length : Int)) = true := decide_eq_true c3
   have c3b1 : decide (1048576 < l1.length) = true := decide_eq_true (by omega)
   clear c3
   obtain rfl := Option.some.inj H
   go_enter Try.func9,Try.ntmps9
   go_wp2
   go_ret
   exact ⟨by first|rfl|(simp [errW_none,errW_some] <;> rfl)|(simp [*,errW_none,errW_some] <;> rfl),bT HB⟩
  ·
   rw [if_neg c3] at H
   have c3b0 : decide (1048576 < (l1.length : Int)) = false := decide_eq_false c3
   have c3b1 : decide (1048576 < l1.length) = false := decide_eq_false (by omega)
   clear c3
   replace H := Option.bind_eq_some_iff.mp H
   obtain ⟨t453,A40,H⟩ := H
   replace H : (if t453 < 0 then (some true) else ((laws_toStringS.f k l0).bind fun t454 => ((laws_toIntS.f k l1).bind fun t457 => ((spec_Talk.f k t454 t457).bind fun bt460 => ((laws_toStringS.f k l0).bind fun t464 => ((laws_toIntS.f k l1).bind fun t467 => ((impl_Talk.f k t464 t467).bind fun bt470 => ((laws_eqStringS.f k bt470.1 bt460.1).bind fun t474 => (if t474 = true then (laws_FnExactTalk.j0 k l0 l1 bt460.1 bt460.2 t464 t467 bt470.1 bt470.2 (bt470.2 != bt460.2)) else (laws_FnExactTalk.j0 k l0 l1 bt460.1 bt460.2 t464 t467 bt470.1 bt470.2 true)))))))))) = some r := H
   have A4 := zA A40
   clear A40
   by_cases c5 : t453 < 0
   ·
    rw [if_pos c5] at H
    have c5b0 : decide (t453 < 0) = true := decide_eq_true c5
    clear c5
    obtain rfl := Option.some.inj H
    go_enter Try.func9,Try.ntmps9
    go_wp2_with (first | ((with_reducible refine gate_callee (f := 34) rfl ?_); refine goesL_ (some 22) rfl rfl Try.func34 (by kernel_rfl) rfl #[.slice A0 l0.length c0,.int .i64 1048576] rfl (by (try simp only [List.map_toArray,List.map_cons,List.map_nil]); first | done|rfl|(simp only [List.length_drop,List.length_take]; rfl)) ?_; (with_reducible refine (laws_szStringS.calls k _ _ l0 1048576 t453 _ ?side1 ?side2 A4.out).mono ?_); (case side1 => repeat (first|exact HR0.out|(with_reducible refine Kd.C_alloc ?_ _)|(with_reducible refine Kd.C_drewN ?_ _)|(with_reducible refine Kd.C_drew ?_))); (case side2 => exact HC0.out); rintro e w' ⟨rfl,⟨nd,rfl⟩⟩; refine ⟨_,rfl,?_⟩))
    go_ret
    exact ⟨by first|rfl|(simp [errW_none,errW_some] <;> rfl)|(simp [*,errW_none,errW_some] <;> rfl),bT HB⟩
   ·
    rw [if_neg c5] at H
    have c5b0 : decide (t453 < 0) = false := decide_eq_false c5
    clear c5
    replace H := Option.bind_eq_some_iff.mp H
    obtain ⟨t454,A60,H⟩ := H
    replace H : ((laws_toIntS.f k l1).bind fun t457 => ((spec_Talk.f k t454 t457).bind fun bt460 => ((laws_toStringS.f k l0).bind fun t464 => ((laws_toIntS.f k l1).bind fun t467 => ((impl_Talk.f k t464 t467).bind fun bt470 => ((laws_eqStringS.f k bt470.1 bt460.1).bind fun t474 => (if t474 = true then (laws_FnExactTalk.j0 k l0 l1 bt460.1 bt460.2 t464 t467 bt470.1 bt470.2 (bt470.2 != bt460.2)) else (laws_FnExactTalk.j0 k l0 l1 bt460.1 bt460.2 t464 t467 bt470.1 bt470.2 true)))))))) = some r := H
    have A6 := zA A60
    clear A60
    replace H := Option.bind_eq_some_iff.mp H
    obtain ⟨t457,A70,H⟩ := H
    replace H : ((spec_Talk.f k t454 t457).bind fun bt460 => ((laws_toStringS.f k l0).bind fun t464 => ((laws_toIntS.f k l1).bind fun t467 => ((impl_Talk.f k t464 t467).bind fun bt470 => ((laws_eqStringS.f k bt470.1 bt460.1).bind fun t474 => (if t474 = true then (laws_FnExactTalk.j0 k l0 l1 bt460.1 bt460.2 t464 t467 bt470.1 bt470.2 (bt470.2 != bt460.2)) else (laws_FnExactTalk.j0 k l0 l1 bt460.1 bt460.2 t464 t467 bt470.1 bt470.2 true))))))) = some r := H
    have A7 := zA A70
    clear A70
    replace H := Option.bind_eq_some_iff.mp H
    obtain ⟨⟨t460,t461⟩,A80,H⟩ := H
    replace H : ((laws_toStringS.f k l0).bind fun t464 => ((laws_toIntS.f k l1).bind fun t467 => ((impl_Talk.f k t464 t467).bind fun bt470 => ((laws_eqStringS.f k bt470.1 t460).bind fun t474 => (if t474 = true then (laws_FnExactTalk.j0 k l0 l1 t460 t461 t464 t467 bt470.1 bt470.2 (bt470.2 != t461)) else (laws_FnExactTalk.j0 k l0 l1 t460 t461 t464 t467 bt470.1 bt470.2 true)))))) = some r := H
    have A8 := zA A80
    clear A80
    replace H := Option.bind_eq_some_iff.mp H
    obtain ⟨t464,A90,H⟩ := H
    replace H : ((laws_toIntS.f k l1).bind fun t467 => ((impl_Talk.f k t464 t467).bind fun bt470 => ((laws_eqStringS.f k bt470.1 t460).bind fun t474 => (if t474 = true then (laws_FnExactTalk.j0 k l0 l1 t460 t461 t464 t467 bt470.1 bt470.2 (bt470.2 != t461)) else (laws_FnExactTalk.j0 k l0 l1 t460 t461 t464 t467 bt470.1 bt470.2 true))))) = some r := H
    have A9 := zA A90
    clear A90
    replace H := Option.bind_eq_some_iff.mp H
    obtain ⟨t467,A100,H⟩ := H
    replace H : ((impl_Talk.f k t464 t467).bind fun bt470 => ((laws_eqStringS.f k bt470.1 t460).bind fun t474 => (if t474 = true then (laws_FnExactTalk.j0 k l0 l1 t460 t461 t464 t467 bt470.1 bt470.2 (bt470.2 != t461)) else (laws_FnExactTalk.j0 k l0 l1 t460 t461 t464 t467 bt470.1 bt470.2 true)))) = some r := H
    have A10 := zA A100
    clear A100
    replace H := Option.bind_eq_some_iff.mp H
    obtain ⟨⟨t470,t471⟩,A110,H⟩ := H
    replace H : ((laws_eqStringS.f k t470 t460).bind fun t474 => (if t474 = true then (laws_FnExactTalk.j0 k l0 l1 t460 t461 t464 t467 t470 t471 (t471 != t461)) else (laws_FnExactTalk.j0 k l0 l1 t460 t461 t464 t467 t470 t471 true))) = some r := H
    have A11 := zA A110
    clear A110
    have HC12 := zA H
    clear H
    go_enter Try.func9,Try.ntmps9
    go_upto_region 11 with (first | ((with_reducible refine gate_callee (f := 34) rfl ?_); refine goesL_ (some 22) rfl rfl Try.func34 (by kernel_rfl) rfl #[.slice A0 l0.length c0,.int .i64 1048576] rfl (by (try simp only [List.map_toArray,List.map_cons,List.map_nil]); first | done|rfl|(simp only [List.length_drop,List.length_take]; rfl)) ?_; (with_reducible refine (laws_szStringS.calls k _ _ l0 1048576 t453 _ ?side1 ?side2 A4.out).mono ?_); (case side1 => repeat (first|exact HR0.out|(with_reducible refine Kd.C_alloc ?_ _)|(with_reducible refine Kd.C_drewN ?_ _)|(with_reducible refine Kd.C_drew ?_))); (case side2 => exact HC0.out); rintro e w' ⟨rfl,⟨nd,rfl⟩⟩; refine ⟨_,rfl,?_⟩) | ((with_reducible refine gate_callee (f := 36) rfl ?_); refine goesL_ (some 27) rfl rfl Try.func36 (by kernel_rfl) rfl #[.slice A0 l0.length c0] rfl (by (try simp only [List.map_toArray,List.map_cons,List.map_nil]); first | done|rfl|(simp only [List.length_drop,List.length_take]; rfl)) ?_; (with_reducible refine (laws_toStringS.calls k _ _ l0 t454 _ ?side1 ?side2 A6.out).mono ?_); (case side1 => repeat (first|exact HR0.out|(with_reducible refine Kd.C_alloc ?_ _)|(with_reducible refine Kd.C_drewN ?_ _)|(with_reducible refine Kd.C_drew ?_))); (case side2 => exact HC0.out); rintro e w13 ⟨v455,rfl,ho0,hb⟩; refine ⟨_,rfl,?_⟩; have n0_ := zA (Kd.R_lower ho0 (below_size (bT HB))); have n1_ := zA (zJ (bT HB) hb); clear HB; have HO456 := n0_; have HB := n1_; clear n0_ n1_) | ((with_reducible refine gate_callee (f := 37) rfl ?_); refine goesL_ (some 29) rfl rfl Try.func37 (by kernel_rfl) rfl #[.slice A1 l1.length c1] rfl (by (try simp only [List.map_toArray,List.map_cons,List.map_nil]); first | done|rfl|(simp only [List.length_drop,List.length_take]; rfl)) ?_; (with_reducible refine (laws_toIntS.calls k _ _ l1 t457 _ ?side1 ?side2 A7.out).mono ?_); (case side1 => exact ccT (Kd.C_below HR1.out HB.out)); (case side2 => exact HC1.out); rintro e w14 ⟨v458,rfl,ho0,hb⟩; refine ⟨_,rfl,?_⟩; have n0_ := zA (zC (rrA26 HO456.out) hb); have n1_ := zA (Kd.R_lower ho0 (below_size (bT HB))); have n2_ := zA (zJ (bT HB) hb); clear HO456 HB; have HO456 := n0_; have HO459 := n1_; have HB := n2_; clear n0_ n1_ n2_; obtain ⟨Ao15,co15,eo15⟩ := Kd.R_slice HO456.out; subst eo15; obtain ⟨Ao16,co16,eo16⟩ := Kd.R_slice HO459.out; subst eo16) | ((with_reducible refine gate_callee (f := 35) rfl ?_); refine goesL_ (some 30) rfl rfl Try.func35 (by kernel_rfl) rfl #[.slice Ao15 t454.length co15,.slice Ao16 t457.length co16] rfl (by (try simp only [List.map_toArray,List.map_cons,List.map_nil]); first | done|rfl|(simp only [List.length_drop,List.length_take]; rfl)) ?_; (with_reducible refine (spec_Talk.calls k _ _ t454 _ _ t457 t460 t461 _ ?side1 ?side2 ?side3 ?side4 A8.out).mono ?_); (case side1 => exact ccT ((zF HO456.out).2.2)); (case side2 => exact (zF HO456.out).2.1); (case side3 => exact ccT ((zF HO459.out).2.2)); (case side4 => exact (zF HO459.out).2.1); rintro e w17 ⟨v462,rfl,ho0,hb⟩; refine ⟨_,rfl,?_⟩; have n0_ := zA (Kd.R_elder' (rrA26 HO456.out) (zD ho0) hb); have n1_ := zA (zC (rrA26 HO459.out) hb); have n2_ := zA (Kd.R_lower (zE ho0 (Kd.R_lt (rrA26 HO456.out))) (below_size (bT HB))); have n3_ := zA (zJ (bT HB) hb); clear HO456 HO459 HB; have HO456 := n0_; have HO459 := n1_; have HO463 := n2_; have HB := n3_; clear n0_ n1_ n2_ n3_) | ((with_reducible refine gate_callee (f := 36) rfl ?_); refine goesL_ (some 34) rfl rfl Try.func36 (by kernel_rfl) rfl #[.slice A0 l0.length c0] rfl (by (try simp only [List.map_toArray,List.map_cons,List.map_nil]); first | done|rfl|(simp only [List.length_drop,List.length_take]; rfl)) ?_; (with_reducible refine (laws_toStringS.calls k _ _ l0 t464 _ ?side1 ?side2 A9.out).mono ?_); (case side1 => exact ccT (Kd.C_below HR0.out HB.out)); (case side2 => exact HC0.out); rintro e w18 ⟨v465,rfl,ho0,hb⟩; refine ⟨_,rfl,?_⟩; have n0_ := zA (Kd.R_elder' (rrA26 HO456.out) (zD ho0) hb); have n1_ := zA (zC (rrA26 HO459.out) hb); have n2_ := zA (Kd.R_elder' (rrA26 HO463.out) (zD ho0) hb); have n3_ := zA (Kd.R_lower (zE (zE ho0 (Kd.R_lt (rrA26 HO456.out))) (Kd.R_lt (rrA26 HO463.out))) (below_size (bT HB))); have n4_ := zA (zJ (bT HB) hb); clear HO456 HO459 HO463 HB; have HO456 := n0_; have HO459 := n1_; have HO463 := n2_; have HO466 := n3_; have HB := n4_; clear n0_ n1_ n2_ n3_ n4_) | ((with_reducible refine gate_callee (f := 37) rfl ?_); refine goesL_ (some 36) rfl rfl Try.func37 (by kernel_rfl) rfl #[.slice A1 l1.length c1] rfl (by (try simp only [List.map_toArray,List.map_cons,List.map_nil]); first | done|rfl|(simp only [List.length_drop,List.length_take]; rfl)) ?_; (with_reducible refine (laws_toIntS.calls k _ _ l1 t467 _ ?side1 ?side2 A10.out).mono ?_); (case side1 => exact ccT (Kd.C_below HR1.out HB.out)); (case side2 => exact HC1.out); rintro e w19 ⟨v468,rfl,ho0,hb⟩; refine ⟨_,rfl,?_⟩; have n0_ := zA (zC (rrA26 HO456.out) hb); have n1_ := zA (Kd.R_elder' (rrA26 HO459.out) (zD ho0) hb); have n2_ := zA (zC (rrA26 HO463.out) hb); have n3_ := zA (zC (rrA26 HO466.out) hb); have n4_ := zA (Kd.R_lower (zE ho0 (Kd.R_lt (rrA26 HO459.out))) (below_size (bT HB))); have n5_ := zA (zJ (bT HB) hb); clear HO456 HO459 HO463 HO466 HB; have HO456 := n0_; have HO459 := n1_; have HO463 := n2_; have HO466 := n3_; have HO469 := n4_; have HB := n5_; clear n0_ n1_ n2_ n3_ n4_ n5_; obtain ⟨Ao20,co20,eo20⟩ := Kd.R_slice HO466.out; subst eo20; obtain ⟨Ao21,co21,eo21⟩ := Kd.R_slice HO469.out; subst eo21) | ((with_reducible refine gate_callee (f := 38) rfl ?_); refine goesL_ (some 40) rfl rfl Try.func38 (by kernel_rfl) rfl #[.slice Ao20 t464.length co20,.slice Ao21 t467.length co21] rfl (by (try simp only [List.map_toArray,List.map_cons,List.map_nil]); first | done|rfl|(simp only [List.length_drop,List.length_take]; rfl)) ?_; (with_reducible refine (impl_Talk.calls k _ _ t464 _ _ t467 t470 t471 _ ?side1 ?side2 ?side3 ?side4 A11.out).mono ?_); (case side1 => exact ccT ((zF HO466.out).2.2)); (case side2 => exact (zF HO466.out).2.1); (case side3 => exact ccT ((zF HO469.out).2.2)); (case side4 => exact (zF HO469.out).2.1); rintro e w22 ⟨v472,rfl,ho0,hb⟩; refine ⟨_,rfl,?_⟩; have n0_ := zA (Kd.R_elder' (rrA26 HO456.out) (zD ho0) hb); have n1_ := zA (zC (rrA26 HO459.out) hb); have n2_ := zA (Kd.R_elder' (rrA26 HO463.out) (zD ho0) hb); have n3_ := zA (Kd.R_elder' (rrA26 HO466.out) (zD ho0) hb); have n4_ := zA (zC (rrA26 HO469.out) hb); have n5_ := zA (Kd.R_lower (zE (zE (zE ho0 (Kd.R_lt (rrA26 HO456.out))) (Kd.R_lt (rrA26 HO463.out))) (Kd.R_lt (rrA26 HO466.out))) (below_size (bT HB))); have n6_ := zA (zJ (bT HB) hb); clear HO456 HO459 HO463 HO466 HO469 HB; have HO456 := n0_; have HO459 := n1_; have HO463 := n2_; have HO466 := n3_; have HO469 := n4_; have HO473 := n5_; have HB := n6_; clear n0_ n1_ n2_ n3_ n4_ n5_ n6_))
    (try simp only [Act.put,List.setIfInBounds_toArray,List.set_cons_zero,List.set_cons_succ])
    go_cut [51] (fun v51 wc => ∃ (kq : Nat) (x51_11 : Bool),v51 = .bool x51_11 ∧ Aside0 (laws_FnExactTalk.j0 kq l0 l1 t460 t461 t464 t467 t470 t471 x51_11 = some r) ∧ Aside0 (kq ≤ k) ∧ Aside0 (Kd.R Kd.string 9 wc w.heap.size (fun k_ => some k_ ≠ ((.slice Ao20 t464.length co20) : Value).ownBlock ∧ some k_ ≠ (v472 : Value).ownBlock) v462 t460) ∧ Aside0 (Kd.R Kd.string 9 wc w.heap.size (fun k_ => some k_ ≠ (v462 : Value).ownBlock ∧ some k_ ≠ (v472 : Value).ownBlock) (.slice Ao20 t464.length co20) t464) ∧ Aside0 (Kd.R (Kd.int .i64) 3 wc w.heap.size (fun _ => True) (.slice Ao21 t467.length co21) t467) ∧ Aside0 (Kd.R Kd.string 9 wc w.heap.size (fun k_ => some k_ ≠ (v462 : Value).ownBlock ∧ some k_ ≠ ((.slice Ao20 t464.length co20) : Value).ownBlock) v472 t470) ∧ Aside0 (Below w.heap.size w wc))
    case first =>
     have H := HC12.out
     clear HC12
     replace H := Option.bind_eq_some_iff.mp H
     obtain ⟨t474,A230,H⟩ := H
     replace H : (if t474 = true then (laws_FnExactTalk.j0 k l0 l1 t460 t461 t464 t467 t470 t471 (t471 != t461)) else (laws_FnExactTalk.j0 k l0 l1 t460 t461 t464 t467 t470 t471 true)) = some r := H
     have A23 := zA A230
     clear A230
     by_cases c24 : t474 = true
     ·
      subst c24
      have H1 : (laws_FnExactTalk.j0 k l0 l1 t460 t461 t464 t467 t470 t471 (t471 != t461)) = some r := by rw [if_pos rfl] at H; exact H
      clear H; have H := H1; clear H1
      have H' := zA H
      clear H
      obtain ⟨Ao25,co25,eo25⟩ := Kd.R_slice HO473.out
      subst eo25
      obtain ⟨Ao26,co26,eo26⟩ := Kd.R_slice HO463.out
      subst eo26
      go_wp2_with (first | ((with_reducible refine gate_callee (f := 39) rfl ?_); refine goesL_ (some 45) rfl rfl Try.func39 (by kernel_rfl) rfl #[.slice Ao25 t470.length co25,.slice Ao26 t460.length co26] rfl (by (try simp only [List.map_toArray,List.map_cons,List.map_nil]); first | done|rfl|(simp only [List.length_drop,List.length_take]; rfl)) ?_; (with_reducible refine (laws_eqStringS.calls k _ _ t470 _ _ t460 true _ ?side1 ?side2 ?side3 ?side4 A23.out).mono ?_); (case side1 => exact ccT ((zF HO473.out).2.2)); (case side2 => exact (zF HO473.out).2.1); (case side3 => exact ccT ((zF HO463.out).2.2)); (case side4 => exact (zF HO463.out).2.1); rintro e w' ⟨rfl,⟨nd,rfl⟩⟩; refine ⟨_,rfl,?_⟩))
      go_meet
      case rel => exact ⟨_,((t471 != t461)),(by first|rfl|(simp; done)|(simp [*]; done)),H',⟨by first|omega|exact Nat.le_refl _⟩,⟨by (with_reducible repeat (first|apply zG|apply zH|apply zI)); exact zB HO463.out (fun _ hk => ⟨hk.1.2,hk.2⟩)⟩,⟨by (with_reducible repeat (first|apply zG|apply zH|apply zI)); exact zB HO466.out (fun _ hk => ⟨hk.1.2,hk.2⟩)⟩,⟨by (with_reducible repeat (first|apply zG|apply zH|apply zI)); exact zB HO469.out (fun _ hk => trivial)⟩,⟨by (with_reducible repeat (first|apply zG|apply zH|apply zI)); exact zB HO473.out (fun _ hk => ⟨hk.1.2,hk.2⟩)⟩,⟨bT HB⟩⟩
     ·
      replace c24 := Bool.eq_false_iff.mpr c24
      subst c24
      have H1 : (laws_FnExactTalk.j0 k l0 l1 t460 t461 t464 t467 t470 t471 true) = some r := by rw [if_neg (show ¬ (false = true) by decide)] at H; exact H
      clear H; have H := H1; clear H1
      have H' := zA H
      clear H
      obtain ⟨Ao27,co27,eo27⟩ := Kd.R_slice HO473.out
      subst eo27
      obtain ⟨Ao28,co28,eo28⟩ := Kd.R_slice HO463.out
      subst eo28
      go_wp2_with (first | ((with_reducible refine gate_callee (f := 39) rfl ?_); refine goesL_ (some 45) rfl rfl Try.func39 (by kernel_rfl) rfl #[.slice Ao27 t470.length co27,.slice Ao28 t460.length co28] rfl (by (try simp only [List.map_toArray,List.map_cons,List.map_nil]); first | done|rfl|(simp only [List.length_drop,List.length_take]; rfl)) ?_; (with_reducible refine (laws_eqStringS.calls k _ _ t470 _ _ t460 false _ ?side1 ?side2 ?side3 ?side4 A23.out).mono ?_); (case side1 => exact ccT ((zF HO473.out).2.2)); (case side2 => exact (zF HO473.out).2.1); (case side3 => exact ccT ((zF HO463.out).2.2)); (case side4 => exact (zF HO463.out).2.1); rintro e w' ⟨rfl,⟨nd,rfl⟩⟩; refine ⟨_,rfl,?_⟩))
      go_meet
      case rel => exact ⟨_,(true),(by first|rfl|(simp; done)|(simp [*]; done)),H',⟨by first|omega|exact Nat.le_refl _⟩,⟨by (with_reducible repeat (first|apply zG|apply zH|apply zI)); exact zB HO463.out (fun _ hk => ⟨hk.1.2,hk.2⟩)⟩,⟨by (with_reducible repeat (first|apply zG|apply zH|apply zI)); exact zB HO466.out (fun _ hk => ⟨hk.1.2,hk.2⟩)⟩,⟨by (with_reducible repeat (first|apply zG|apply zH|apply zI)); exact zB HO469.out (fun _ hk => trivial)⟩,⟨by (with_reducible repeat (first|apply zG|apply zH|apply zI)); exact zB HO473.out (fun _ hk => ⟨hk.1.2,hk.2⟩)⟩,⟨bT HB⟩⟩
    case rest =>
     clear HC12
     obtain ⟨kq,x51_11,rfl,HA,HJ11,HO_6,HO_8,HO_9,HO_10,HB⟩ := hcut
     cases kq with
     | zero => exact absurd HA.out (by simp [laws_FnExactTalk.j0])
     | succ kj11 =>
      have H := HA.out
      clear HA
      simp only [laws_FnExactTalk.j0] at H
      by_cases c29 : x51_11 = true
      ·
       subst c29
       have H1 : (some false) = some r := by rw [if_pos rfl] at H; exact H
       clear H; have H := H1; clear H1
       obtain rfl := Option.some.inj H
       go_wp2
       go_ret
       exact ⟨by first|rfl|(simp [errW_none,errW_some] <;> rfl)|(simp [*,errW_none,errW_some] <;> rfl),bT HB⟩
      ·
       replace c29 := Bool.eq_false_iff.mpr c29
       subst c29
       have H1 : ((laws_toStringS.f kj11 l0).bind fun t475 => ((laws_eqStringS.f kj11 t464 t475).bind fun t478 => (if t478 = true then ((laws_toIntS.f kj11 l1).bind fun t479 => ((laws_eqIntS.f kj11 t467 t479).bind fun t482 => (if t482 = true then ((laws_markStringS.f kj11 t464 1).bind fun bt483 => ((laws_markIntS.f kj11 t467 bt483.1).bind fun bt485 => (if bt485.1 < 0 then (laws_FnExactTalk.j1 kj11 l0 l1 t460 t461 t470 true) else ((laws_eqStringS.f kj11 t470 t460).bind fun t487 => (if t487 = true then (laws_FnExactTalk.j1 kj11 l0 l1 t460 t461 t470 (t471 != t461)) else (laws_FnExactTalk.j1 kj11 l0 l1 t460 t461 t470 true)))))) else (some false)))) else (some false)))) = some r := by rw [if_neg (show ¬ (false = true) by decide)] at H; exact H
       clear H; have H := H1; clear H1
       replace H := Option.bind_eq_some_iff.mp H
       obtain ⟨t475,A300,H⟩ := H
       replace H : ((laws_eqStringS.f kj11 t464 t475).bind fun t478 => (if t478 = true then ((laws_toIntS.f kj11 l1).bind fun t479 => ((laws_eqIntS.f kj11 t467 t479).bind fun t482 => (if t482 = true then ((laws_markStringS.f kj11 t464 1).bind fun bt483 => ((laws_markIntS.f kj11 t467 bt483.1).bind fun bt485 => (if bt485.1 < 0 then (laws_FnExactTalk.j1 kj11 l0 l1 t460 t461 t470 true) else ((laws_eqStringS.f kj11 t470 t460).bind fun t487 => (if t487 = true then (laws_FnExactTalk.j1 kj11 l0 l1 t460 t461 t470 (t471 != t461)) else (laws_FnExactTalk.j1 kj11 l0 l1 t460 t461 t470 true)))))) else (some false)))) else (some false))) = some r := H
       have A30 := zA A300
       clear A300
       replace H := Option.bind_eq_some_iff.mp H
       obtain ⟨t478,A310,H⟩ := H
       replace H : (if t478 = true then ((laws_toIntS.f kj11 l1).bind fun t479 => ((laws_eqIntS.f kj11 t467 t479).bind fun t482 => (if t482 = true then ((laws_markStringS.f kj11 t464 1).bind fun bt483 => ((laws_markIntS.f kj11 t467 bt483.1).bind fun bt485 => (if bt485.1 < 0 then (laws_FnExactTalk.j1 kj11 l0 l1 t460 t461 t470 true) else ((laws_eqStringS.f kj11 t470 t460).bind fun t487 => (if t487 = true then (laws_FnExactTalk.j1 kj11 l0 l1 t460 t461 t470 (t471 != t461)) else (laws_FnExactTalk.j1 kj11 l0 l1 t460 t461 t470 true)))))) else (some false)))) else (some false)) = some r := H
       have A31 := zA A310
       clear A310
       by_cases c32 : t478 = true
       ·
        subst c32
        have H1 : ((laws_toIntS.f kj11 l1).bind fun t479 => ((laws_eqIntS.f kj11 t467 t479).bind fun t482 => (if t482 = true then ((laws_markStringS.f kj11 t464 1).bind fun bt483 => ((laws_markIntS.f kj11 t467 bt483.1).bind fun bt485 => (if bt485.1 < 0 then (laws_FnExactTalk.j1 kj11 l0 l1 t460 t461 t470 true) else ((laws_eqStringS.f kj11 t470 t460).bind fun t487 => (if t487 = true then (laws_FnExactTalk.j1 kj11 l0 l1 t460 t461 t470 (t471 != t461)) else (laws_FnExactTalk.j1 kj11 l0 l1 t460 t461 t470 true)))))) else (some false)))) = some r := by rw [if_pos rfl] at H; exact H
        clear H; have H := H1; clear H1
        replace H := Option.bind_eq_some_iff.mp H
        obtain ⟨t479,A330,H⟩ := H
        replace H : ((laws_eqIntS.f kj11 t467 t479).bind fun t482 => (if t482 = true then ((laws_markStringS.f kj11 t464 1).bind fun bt483 => ((laws_markIntS.f kj11 t467 bt483.1).bind fun bt485 => (if bt485.1 < 0 then (laws_FnExactTalk.j1 kj11 l0 l1 t460 t461 t470 true) else ((laws_eqStringS.f kj11 t470 t460).bind fun t487 => (if t487 = true then (laws_FnExactTalk.j1 kj11 l0 l1 t460 t461 t470 (t471 != t461)) else (laws_FnExactTalk.j1 kj11 l0 l1 t460 t461 t470 true)))))) else (some false))) = some r := H
        have A33 := zA A330
        clear A330
        replace H := Option.bind_eq_some_iff.mp H
        obtain ⟨t482,A340,H⟩ := H
        replace H : (if t482 = true then ((laws_markStringS.f kj11 t464 1).bind fun bt483 => ((laws_markIntS.f kj11 t467 bt483.1).bind fun bt485 => (if bt485.1 < 0 then (laws_FnExactTalk.j1 kj11 l0 l1 t460 t461 t470 true) else ((laws_eqStringS.f kj11 t470 t460).bind fun t487 => (if t487 = true then (laws_FnExactTalk.j1 kj11 l0 l1 t460 t461 t470 (t471 != t461)) else (laws_FnExactTalk.j1 kj11 l0 l1 t460 t461 t470 true)))))) else (some false)) = some r := H
        have A34 := zA A340
        clear A340
        by_cases c35 : t482 = true
        ·
         subst c35
         have H1 : ((laws_markStringS.f kj11 t464 1).bind fun bt483 => ((laws_markIntS.f kj11 t467 bt483.1).bind fun bt485 => (if bt485.1 < 0 then (laws_FnExactTalk.j1 kj11 l0 l1 t460 t461 t470 true) else ((laws_eqStringS.f kj11 t470 t460).bind fun t487 => (if t487 = true then (laws_FnExactTalk.j1 kj11 l0 l1 t460 t461 t470 (t471 != t461)) else (laws_FnExactTalk.j1 kj11 l0 l1 t460 t461 t470 true)))))) = some r := by rw [if_pos rfl] at H; exact H
         clear H; have H := H1; clear H1
         replace H := Option.bind_eq_some_iff.mp H
         obtain ⟨⟨t483,t484⟩,A360,H⟩ := H
         replace H : ((laws_markIntS.f kj11 t467 t483).bind fun bt485 => (if bt485.1 < 0 then (laws_FnExactTalk.j1 kj11 l0 l1 t460 t461 t470 true) else ((laws_eqStringS.f kj11 t470 t460).bind fun t487 => (if t487 = true then (laws_FnExactTalk.j1 kj11 l0 l1 t460 t461 t470 (t471 != t461)) else (laws_FnExactTalk.j1 kj11 l0 l1 t460 t461 t470 true))))) = some r := H
         have A36 := zA A360
         clear A360
         replace H := Option.bind_eq_some_iff.mp H
         obtain ⟨⟨t485,t486⟩,A370,H⟩ := H
         replace H : (if t485 < 0 then (laws_FnExactTalk.j1 kj11 l0 l1 t460 t461 t470 true) else ((laws_eqStringS.f kj11 t470 t460).bind fun t487 => (if t487 = true then (laws_FnExactTalk.j1 kj11 l0 l1 t460 t461 t470 (t471 != t461)) else (laws_FnExactTalk.j1 kj11 l0 l1 t460 t461 t470 true)))) = some r := H
         have A37 := zA A370
         clear A370
         have HC38 := zA H
         clear H
         go_upto_region 20 with (first | ((with_reducible refine gate_callee (f := 36) rfl ?_); refine goesL_ (some 54) rfl rfl Try.func36 (by kernel_rfl) rfl #[.slice A0 l0.length c0] rfl (by (try simp only [List.map_toArray,List.map_cons,List.map_nil]); first | done|rfl|(simp only [List.length_drop,List.length_take]; rfl)) ?_; (with_reducible refine (laws_toStringS.calls kj11 _ _ l0 t475 _ ?side1 ?side2 A30.out).mono ?_); (case side1 => exact ccT (Kd.C_below HR0.out HB.out)); (case side2 => exact HC0.out); rintro e w39 ⟨v476,rfl,ho0,hb⟩; refine ⟨_,rfl,?_⟩; have n0_ := zA (Kd.R_elder' (rrA26 HO_6.out) (zD ho0) hb); have n1_ := zA (Kd.R_elder' (rrA26 HO_8.out) (zD ho0) hb); have n2_ := zA (zC (rrA26 HO_9.out) hb); have n3_ := zA (Kd.R_elder' (rrA26 HO_10.out) (zD ho0) hb); have n4_ := zA (Kd.R_lower (zE (zE (zE ho0 (Kd.R_lt (rrA26 HO_6.out))) (Kd.R_lt (rrA26 HO_8.out))) (Kd.R_lt (rrA26 HO_10.out))) (below_size (bT HB))); have n5_ := zA (zJ (bT HB) hb); clear HO_6 HO_8 HO_9 HO_10 HB; have HO_6 := n0_; have HO_8 := n1_; have HO_9 := n2_; have HO_10 := n3_; have HO477 := n4_; have HB := n5_; clear n0_ n1_ n2_ n3_ n4_ n5_; obtain ⟨Ao40,co40,eo40⟩ := Kd.R_slice HO477.out; subst eo40) | ((with_reducible refine gate_callee (f := 39) rfl ?_); refine goesL_ (some 55) rfl rfl Try.func39 (by kernel_rfl) rfl #[.slice Ao20 t464.length co20,.slice Ao40 t475.length co40] rfl (by (try simp only [List.map_toArray,List.map_cons,List.map_nil]); first | done|rfl|(simp only [List.length_drop,List.length_take]; rfl)) ?_; (with_reducible refine (laws_eqStringS.calls kj11 _ _ t464 _ _ t475 true _ ?side1 ?side2 ?side3 ?side4 A31.out).mono ?_); (case side1 => exact ccT ((zF HO_8.out).2.2)); (case side2 => exact (zF HO_8.out).2.1); (case side3 => exact ccT ((zF HO477.out).2.2)); (case side4 => exact (zF HO477.out).2.1); rintro e w' ⟨rfl,⟨nd,rfl⟩⟩; refine ⟨_,rfl,?_⟩) | ((with_reducible refine gate_callee (f := 37) rfl ?_); refine goesL_ (some 59) rfl rfl Try.func37 (by kernel_rfl) rfl #[.slice A1 l1.length c1] rfl (by (try simp only [List.map_toArray,List.map_cons,List.map_nil]); first | done|rfl|(simp only [List.length_drop,List.length_take]; rfl)) ?_; (with_reducible refine (laws_toIntS.calls kj11 _ _ l1 t479 _ ?side1 ?side2 A33.out).mono ?_); (case side1 => exact ccT (Kd.C_below HR1.out (bT HB))); (case side2 => exact HC1.out); rintro e w41 ⟨v480,rfl,ho0,hb⟩; refine ⟨_,rfl,?_⟩; have n0_ := zA (zC (rrA26 HO_6.out) hb); have n1_ := zA (zC (rrA26 HO_8.out) hb); have n2_ := zA (Kd.R_elder' (rrA26 HO_9.out) (zD ho0) hb); have n3_ := zA (zC (rrA26 HO_10.out) hb); have n4_ := zA (zC (rrA26 HO477.out) hb); have n5_ := zA (Kd.R_lower (zE ho0 (Kd.R_lt (rrA26 HO_9.out))) (below_size (bT HB))); have n6_ := zA (zJ (bT HB) hb); clear HO_6 HO_8 HO_9 HO_10 HO477 HB; have HO_6 := n0_; have HO_8 := n1_; have HO_9 := n2_; have HO_10 := n3_; have HO477 := n4_; have HO481 := n5_; have HB := n6_; clear n0_ n1_ n2_ n3_ n4_ n5_ n6_; obtain ⟨Ao42,co42,eo42⟩ := Kd.R_slice HO481.out; subst eo42) | ((with_reducible refine gate_callee (f := 40) rfl ?_); refine goesL_ (some 60) rfl rfl Try.func40 (by kernel_rfl) rfl #[.slice Ao21 t467.length co21,.slice Ao42 t479.length co42] rfl (by (try simp only [List.map_toArray,List.map_cons,List.map_nil]); first | done|rfl|(simp only [List.length_drop,List.length_take]; rfl)) ?_; (with_reducible refine (laws_eqIntS.calls kj11 _ _ t467 _ _ t479 true _ ?side1 ?side2 ?side3 ?side4 A34.out).mono ?_); (case side1 => exact ccT ((zF HO_9.out).2.2)); (case side2 => exact (zF HO_9.out).2.1); (case side3 => exact ccT ((zF HO481.out).2.2)); (case side4 => exact (zF HO481.out).2.1); rintro e w' ⟨rfl,⟨nd,rfl⟩⟩; refine ⟨_,rfl,?_⟩) | ((with_reducible refine gate_callee (f := 41) rfl ?_); refine goesL_ (some 64) rfl rfl Try.func41 (by kernel_rfl) rfl #[.slice Ao20 t464.length co20,.int .i64 1] rfl (by (try simp only [List.map_toArray,List.map_cons,List.map_nil]); first | done|rfl|(simp only [List.length_drop,List.length_take]; rfl)) ?_; (with_reducible refine (laws_markStringS.calls kj11 (fun k_ => some k_ = (.slice Ao20 t464.length co20 : Value).ownBlock) (.slice Ao20 t464.length co20) t464 1 t483 t484 w _ ?side1 ?side2 A36.out).mono ?_); (case side1 => repeat (first|(with_reducible first|exact HB.out|apply below_alloc|apply pw_below_drewN|apply below_drew1)|exact HB.out)); (case side2 => exact Kd.R_tight rfl HO_8.out); rintro e w43 ⟨rfl,hy0,hb,hkp⟩; refine ⟨_,rfl,?_⟩; have n0_ := zA (zB (ok' := fun k_ => some k_ ≠ (.slice Ao20 t464.length co20 : Value).ownBlock ∧ some k_ ≠ (v472 : Value).ownBlock ∧ some k_ ≠ (.slice Ao40 t475.length co40 : Value).ownBlock) (Kd.R_keptB (HO_6.out) hkp (fun k_ hk_ hs_ => (hk_.1.1) hs_)) (fun k_ hk_ => ⟨hk_.1.1.1,hk_.1.1.2,hk_.1.2⟩)); have n1_ := zA (Kd.R_reok rfl hy0 (fun k_ e_ => HO_8.out.1 k_ e_)); have n2_ := zA (zB (ok' := fun k_ => some k_ ≠ (.slice Ao42 t479.length co42 : Value).ownBlock) (Kd.R_keptB ((Kd.R_apart' HO_9.out (Kd.R_typed HO_8.out) (by decide))) hkp (fun k_ hk_ hs_ => (hk_.2) hs_)) (fun k_ hk_ => hk_.1.1.2)); have n3_ := zA (zB (ok' := fun k_ => some k_ ≠ (v462 : Value).ownBlock ∧ some k_ ≠ (.slice Ao20 t464.length co20 : Value).ownBlock ∧ some k_ ≠ (.slice Ao40 t475.length co40 : Value).ownBlock) (Kd.R_keptB (HO_10.out) hkp (fun k_ hk_ hs_ => (hk_.1.2) hs_)) (fun k_ hk_ => ⟨hk_.1.1.1,hk_.1.1.2,hk_.1.2⟩)); have n4_ := zA (zB (ok' := fun k_ => some k_ ≠ (v462 : Value).ownBlock ∧ some k_ ≠ (.slice Ao20 t464.length co20 : Value).ownBlock ∧ some k_ ≠ (v472 : Value).ownBlock) (Kd.R_keptB (HO477.out) hkp (fun k_ hk_ hs_ => (hk_.1.2) hs_)) (fun k_ hk_ => ⟨hk_.1.1.1.2,hk_.1.1.2,hk_.1.2⟩)); have n5_ := zA (zB (ok' := fun k_ => some k_ ≠ (.slice Ao21 t467.length co21 : Value).ownBlock) (Kd.R_keptB ((Kd.R_apart' HO481.out (Kd.R_typed HO_8.out) (by decide))) hkp (fun k_ hk_ hs_ => (hk_.2) hs_)) (fun k_ hk_ => hk_.1.1.2)); have n6_ := zA (hb); clear HO_6 HO_8 HO_9 HO_10 HO477 HO481 HB; have HO_6 := n0_; have HO_8 := n1_; have HO_9 := n2_; have HO_10 := n3_; have HO477 := n4_; have HO481 := n5_; have HB := n6_; clear n0_ n1_ n2_ n3_ n4_ n5_ n6_) | ((with_reducible refine gate_callee (f := 42) rfl ?_); refine goesL_ (some 67) rfl rfl Try.func42 (by kernel_rfl) rfl #[.slice Ao21 t467.length co21,.int .i64 t483] rfl (by (try simp only [List.map_toArray,List.map_cons,List.map_nil]); first | done|rfl|(simp only [List.length_drop,List.length_take]; rfl)) ?_; (with_reducible refine (laws_markIntS.calls kj11 (fun k_ => some k_ = (.slice Ao21 t467.length co21 : Value).ownBlock) (.slice Ao21 t467.length co21) t467 t483 t485 t486 w _ ?side1 ?side2 A37.out).mono ?_); (case side1 => repeat (first|(with_reducible first|exact HB.out|apply below_alloc|apply pw_below_drewN|apply below_drew1)|exact HB.out)); (case side2 => exact Kd.R_tight rfl HO_9.out); rintro e w44 ⟨rfl,hy0,hb,hkp⟩; refine ⟨_,rfl,?_⟩; have n0_ := zA (zB (ok' := fun k_ => some k_ ≠ (.slice Ao20 t464.length co20 : Value).ownBlock ∧ some k_ ≠ (v472 : Value).ownBlock ∧ some k_ ≠ (.slice Ao40 t475.length co40 : Value).ownBlock) (Kd.R_keptB ((Kd.R_apart' HO_6.out (Kd.R_typed HO_9.out) (by decide))) hkp (fun k_ hk_ hs_ => (hk_.2) hs_)) (fun k_ hk_ => ⟨hk_.1.1.1,hk_.1.1.2.1,hk_.1.1.2.2⟩)); have n1_ := zA (zB (ok' := fun k_ => some k_ ≠ (v462 : Value).ownBlock ∧ some k_ ≠ (v472 : Value).ownBlock ∧ some k_ ≠ (.slice Ao40 t475.length co40 : Value).ownBlock) (Kd.R_keptB ((Kd.R_apart' HO_8.out (Kd.R_typed HO_9.out) (by decide))) hkp (fun k_ hk_ hs_ => (hk_.2) hs_)) (fun k_ hk_ => ⟨hk_.1.1.1.1,hk_.1.1.1.2,hk_.1.1.2⟩)); have n2_ := zA (Kd.R_reok rfl hy0 (fun k_ e_ => HO_9.out.1 k_ e_)); have n3_ := zA (zB (ok' := fun k_ => some k_ ≠ (v462 : Value).ownBlock ∧ some k_ ≠ (.slice Ao20 t464.length co20 : Value).ownBlock ∧ some k_ ≠ (.slice Ao40 t475.length co40 : Value).ownBlock) (Kd.R_keptB ((Kd.R_apart' HO_10.out (Kd.R_typed HO_9.out) (by decide))) hkp (fun k_ hk_ hs_ => (hk_.2) hs_)) (fun k_ hk_ => ⟨hk_.1.1.1,hk_.1.1.2.1,hk_.1.1.2.2⟩)); have n4_ := zA (zB (ok' := fun k_ => some k_ ≠ (v462 : Value).ownBlock ∧ some k_ ≠ (.slice Ao20 t464.length co20 : Value).ownBlock ∧ some k_ ≠ (v472 : Value).ownBlock) (Kd.R_keptB ((Kd.R_apart' HO477.out (Kd.R_typed HO_9.out) (by decide))) hkp (fun k_ hk_ hs_ => (hk_.2) hs_)) (fun k_ hk_ => ⟨hk_.1.1.1,hk_.1.1.2.1,hk_.1.1.2.2⟩)); have n5_ := zA (zB (ok' := fun k_ => some k_ ≠ (.slice Ao21 t467.length co21 : Value).ownBlock) (Kd.R_keptB (HO481.out) hkp (fun k_ hk_ hs_ => (hk_) hs_)) (fun k_ hk_ => hk_.1)); have n6_ := zA (hb); clear HO_6 HO_8 HO_9 HO_10 HO477 HO481 HB; have HO_6 := n0_; have HO_8 := n1_; have HO_9 := n2_; have HO_10 := n3_; have HO477 := n4_; have HO481 := n5_; have HB := n6_; clear n0_ n1_ n2_ n3_ n4_ n5_ n6_))
         (try simp only [Act.put,List.setIfInBounds_toArray,List.set_cons_zero,List.set_cons_succ])
         go_cut [80] (fun v80 wc => ∃ (kq : Nat) (x80_37 : Bool),v80 = .bool x80_37 ∧ Aside0 (laws_FnExactTalk.j1 kq l0 l1 t460 t461 t470 x80_37 = some r) ∧ Aside0 (kq ≤ kj11) ∧ Aside0 (Kd.R Kd.string 9 wc w.heap.size (fun k_ => some k_ ≠ (v472 : Value).ownBlock) v462 t460) ∧ Aside0 (Kd.R Kd.string 9 wc w.heap.size (fun k_ => some k_ ≠ (v462 : Value).ownBlock) v472 t470) ∧ Aside0 (Below w.heap.size w wc))
         case first =>
          have H := HC38.out
          clear HC38
          by_cases c45 : t485 < 0
          ·
           rw [if_pos c45] at H
           have c45b0 : decide (t485 < 0) = true := decide_eq_true c45
           clear c45
           (first | rw [c45b0]|(simp only [i64_w,i32_w]; rw [c45b0])|skip)
           have H' := zA H
           clear H; go_wp2
           go_meet
           case rel => exact ⟨_,(true),(by first|rfl|(simp; done)|(simp [*]; done)),H',⟨by have := HJ11.out; first|omega|exact Nat.le_refl _⟩,⟨by (with_reducible repeat (first|apply zG|apply zH|apply zI)); exact zB HO_6.out (fun _ hk => hk.2.1)⟩,⟨by (with_reducible repeat (first|apply zG|apply zH|apply zI)); exact zB HO_10.out (fun _ hk => hk.1)⟩,⟨bT HB⟩⟩
          ·
           rw [if_neg c45] at H
           have c45b0 : decide (t485 < 0) = false := decide_eq_false c45
           clear c45
           (first | rw [c45b0]|(simp only [i64_w,i32_w]; rw [c45b0])|skip)
           replace H := Option.bind_eq_some_iff.mp H
           obtain ⟨t487,A460,H⟩ := H
           replace H : (if t487 = true then (laws_FnExactTalk.j1 kj11 l0 l1 t460 t461 t470 (t471 != t461)) else (laws_FnExactTalk.j1 kj11 l0 l1 t460 t461 t470 true)) = some r := H
           have A46 := zA A460
           clear A460
           by_cases c47 : t487 = true
           ·
            subst c47
            have H1 : (laws_FnExactTalk.j1 kj11 l0 l1 t460 t461 t470 (t471 != t461)) = some r := by rw [if_pos rfl] at H; exact H
            clear H; have H := H1; clear H1
            have H' := zA H
            clear H
            obtain ⟨Ao48,co48,eo48⟩ := Kd.R_slice HO_10.out
            subst eo48
            obtain ⟨Ao49,co49,eo49⟩ := Kd.R_slice HO_6.out
            subst eo49
            go_wp2_with (first | (go_at_call 39; (with_reducible refine (laws_eqStringS.calls kj11 _ _ t470 _ _ t460 true _ ?side1 ?side2 ?side3 ?side4 A46.out).mono ?_); (case side1 => exact ccT ((zF HO_10.out).2.2)); (case side2 => exact (zF HO_10.out).2.1); (case side3 => exact ccT ((zF HO_6.out).2.2)); (case side4 => exact (zF HO_6.out).2.1); rintro e w' ⟨rfl,⟨nd,rfl⟩⟩))
            go_meet
            case rel => exact ⟨_,((t471 != t461)),(by first|rfl|(simp; done)|(simp [*]; done)),H',⟨by have := HJ11.out; first|omega|exact Nat.le_refl _⟩,⟨by (with_reducible repeat (first|apply zG|apply zH|apply zI)); exact zB HO_6.out (fun _ hk => hk.2.1)⟩,⟨by (with_reducible repeat (first|apply zG|apply zH|apply zI)); exact zB HO_10.out (fun _ hk => hk.1)⟩,⟨bT HB⟩⟩
           ·
            replace c47 := Bool.eq_false_iff.mpr c47
            subst c47
            have H1 : (laws_FnExactTalk.j1 kj11 l0 l1 t460 t461 t470 true) = some r := by rw [if_neg (show ¬ (false = true) by decide)] at H; exact H
            clear H; have H := H1; clear H1
            have H' := zA H
            clear H
            obtain ⟨Ao50,co50,eo50⟩ := Kd.R_slice HO_10.out
            subst eo50
            obtain ⟨Ao51,co51,eo51⟩ := Kd.R_slice HO_6.out
            subst eo51
            go_wp2_with (first | (go_at_call 39; (with_reducible refine (laws_eqStringS.calls kj11 _ _ t470 _ _ t460 false _ ?side1 ?side2 ?side3 ?side4 A46.out).mono ?_); (case side1 => exact ccT ((zF HO_10.out).2.2)); (case side2 => exact (zF HO_10.out).2.1); (case side3 => exact ccT ((zF HO_6.out).2.2)); (case side4 => exact (zF HO_6.out).2.1); rintro e w' ⟨rfl,⟨nd,rfl⟩⟩))
            go_meet
            case rel => exact ⟨_,(true),(by first|rfl|(simp; done)|(simp [*]; done)),H',⟨by have := HJ11.out; first|omega|exact Nat.le_refl _⟩,⟨by (with_reducible repeat (first|apply zG|apply zH|apply zI)); exact zB HO_6.out (fun _ hk => hk.2.1)⟩,⟨by (with_reducible repeat (first|apply zG|apply zH|apply zI)); exact zB HO_10.out (fun _ hk => hk.1)⟩,⟨bT HB⟩⟩
         case rest =>
          clear HC38
          obtain ⟨kq,x80_37,rfl,HA,HJ37,HO_6,HO_10,HB⟩ := hcut
          cases kq with
          | zero => exact absurd HA.out (by simp [laws_FnExactTalk.j1])
          | succ kj37 =>
           have H := HA.out
           clear HA
           simp only [laws_FnExactTalk.j1] at H
           by_cases c52 : x80_37 = true
           ·
            subst c52
            have H1 : (some false) = some r := by rw [if_pos rfl] at H; exact H
            clear H; have H := H1; clear H1
            obtain rfl := Option.some.inj H
            go_wp2
            go_ret
            exact ⟨by first|rfl|(simp [errW_none,errW_some] <;> rfl)|(simp [*,errW_none,errW_some] <;> rfl),bT HB⟩
           ·
            replace c52 := Bool.eq_false_iff.mpr c52
            subst c52
            have H1 : ((laws_markStringS.f kj37 t470 1).bind fun bt488 => ((laws_heldStringS.f kj37 bt488.2 1).bind fun t490 => (if t490 < 0 then (some false) else (if t490 = bt488.1 then ((laws_toStringS.f kj37 l0).bind fun t491 => ((laws_toIntS.f kj37 l1).bind fun t494 => ((impl_Talk.f kj37 t491 t494).bind fun bt497 => ((laws_eqStringS.f kj37 bt497.1 t460).bind fun t501 => (if t501 = true then (laws_FnExactTalk.j2 kj37 bt488.2 bt488.1 (bt497.2 != t461)) else (laws_FnExactTalk.j2 kj37 bt488.2 bt488.1 true)))))) else (some false))))) = some r := by rw [if_neg (show ¬ (false = true) by decide)] at H; exact H
            clear H; have H := H1; clear H1
            replace H := Option.bind_eq_some_iff.mp H
            obtain ⟨⟨t488,t489⟩,A530,H⟩ := H
            replace H : ((laws_heldStringS.f kj37 t489 1).bind fun t490 => (if t490 < 0 then (some false) else (if t490 = t488 then ((laws_toStringS.f kj37 l0).bind fun t491 => ((laws_toIntS.f kj37 l1).bind fun t494 => ((impl_Talk.f kj37 t491 t494).bind fun bt497 => ((laws_eqStringS.f kj37 bt497.1 t460).bind fun t501 => (if t501 = true then (laws_FnExactTalk.j2 kj37 t489 t488 (bt497.2 != t461)) else (laws_FnExactTalk.j2 kj37 t489 t488 true)))))) else (some false)))) = some r := H
            have A53 := zA A530
            clear A530
            replace H := Option.bind_eq_some_iff.mp H
            obtain ⟨t490,A540,H⟩ := H
            replace H : (if t490 < 0 then (some false) else (if t490 = t488 then ((laws_toStringS.f kj37 l0).bind fun t491 => ((laws_toIntS.f kj37 l1).bind fun t494 => ((impl_Talk.f kj37 t491 t494).bind fun bt497 => ((laws_eqStringS.f kj37 bt497.1 t460).bind fun t501 => (if t501 = true then (laws_FnExactTalk.j2 kj37 t489 t488 (bt497.2 != t461)) else (laws_FnExactTalk.j2 kj37 t489 t488 true)))))) else (some false))) = some r := H
            have A54 := zA A540
            clear A540
            by_cases c55 : t490 < 0
            ·
             rw [if_pos c55] at H
             have c55b0 : decide (t490 < 0) = true := decide_eq_true c55
             clear c55
             obtain rfl := Option.some.inj H
             obtain ⟨Ao56,co56,eo56⟩ := Kd.R_slice HO_10.out
             subst eo56
             go_wp2_with (first | ((with_reducible refine gate_callee (f := 41) rfl ?_); refine goesL_ (some 83) rfl rfl Try.func41 (by kernel_rfl) rfl #[.slice Ao56 t470.length co56,.int .i64 1] rfl (by (try simp only [List.map_toArray,List.map_cons,List.map_nil]); first | done|rfl|(simp only [List.length_drop,List.length_take]; rfl)) ?_; (with_reducible refine (laws_markStringS.calls kj37 (fun k_ => some k_ = (.slice Ao56 t470.length co56 : Value).ownBlock) (.slice Ao56 t470.length co56) t470 1 t488 t489 w _ ?side1 ?side2 A53.out).mono ?_); (case side1 => repeat (first|(with_reducible first|exact HB.out|apply below_alloc|apply pw_below_drewN|apply below_drew1)|exact HB.out)); (case side2 => exact Kd.R_tight rfl HO_10.out); rintro e w57 ⟨rfl,hy0,hb,hkp⟩; refine ⟨_,rfl,?_⟩; have n0_ := zA (zB (ok' := fun k_ => some k_ ≠ (.slice Ao56 t470.length co56 : Value).ownBlock) (Kd.R_keptB (HO_6.out) hkp (fun k_ hk_ hs_ => (hk_) hs_)) (fun k_ hk_ => hk_.1)); have n1_ := zA (Kd.R_reok rfl hy0 (fun k_ e_ => HO_10.out.1 k_ e_)); have n2_ := zA (hb); clear HO_6 HO_10 HB; have HO_6 := n0_; have HO_10 := n1_; have HB := n2_; clear n0_ n1_ n2_) | ((with_reducible refine gate_callee (f := 43) rfl ?_); refine goesL_ (some 86) rfl rfl Try.func43 (by kernel_rfl) rfl #[.slice Ao56 t489.length co56,.int .i64 1] rfl (by (try simp only [List.map_toArray,List.map_cons,List.map_nil]); first | done | (rw [show t489.length = t470.length from (zF HO_10.out).1.symm] <;> rfl)|rfl|(simp only [List.length_drop,List.length_take]; rfl)) ?_; (with_reducible refine (laws_heldStringS.calls kj37 _ _ t489 1 t490 _ ?side1 ?side2 A54.out).mono ?_); (case side1 => exact ccT ((zF HO_10.out).2.2)); (case side2 => rw [show t489.length = t470.length from (zF HO_10.out).1.symm]; exact (zF HO_10.out).2.1); rintro e w58 ⟨rfl,hb⟩; refine ⟨_,rfl,?_⟩; have n0_ := zA (zC (rrA26 HO_6.out) hb); have n1_ := zA (zC (rrA26 HO_10.out) hb); have n2_ := zA (zJ (bT HB) hb); clear HO_6 HO_10 HB; have HO_6 := n0_; have HO_10 := n1_; have HB := n2_; clear n0_ n1_ n2_))
             go_ret
             exact ⟨by first|rfl|(simp [errW_none,errW_some] <;> rfl)|(simp [*,errW_none,errW_some] <;> rfl),bT HB⟩
            ·
             rw [if_neg c55] at H
             have c55b0 : decide (t490 < 0) = false := decide_eq_false c55
             clear c55
             by_cases c59 : t490 = t488
             ·
              rw [if_pos c59] at H
              have c59b0 : (t490 == t488) = true := beq_iff_eq.mpr c59
              have c59b1 : (t490 != t488) = false := bne_eq_false_iff_eq.mpr c59
              clear c59
              replace H := Option.bind_eq_some_iff.mp H
              obtain ⟨t491,A600,H⟩ := H
              replace H : ((laws_toIntS.f kj37 l1).bind fun t494 => ((impl_Talk.f kj37 t491 t494).bind fun bt497 => ((laws_eqStringS.f kj37 bt497.1 t460).bind fun t501 => (if t501 = true then (laws_FnExactTalk.j2 kj37 t489 t488 (bt497.2 != t461)) else (laws_FnExactTalk.j2 kj37 t489 t488 true))))) = some r := H
              have A60 := zA A600
              clear A600
              replace H := Option.bind_eq_some_iff.mp H
              obtain ⟨t494,A610,H⟩ := H
              replace H : ((impl_Talk.f kj37 t491 t494).bind fun bt497 => ((laws_eqStringS.f kj37 bt497.1 t460).bind fun t501 => (if t501 = true then (laws_FnExactTalk.j2 kj37 t489 t488 (bt497.2 != t461)) else (laws_FnExactTalk.j2 kj37 t489 t488 true)))) = some r := H
              have A61 := zA A610
              clear A610
              replace H := Option.bind_eq_some_iff.mp H
              obtain ⟨⟨t497,t498⟩,A620,H⟩ := H
              replace H : ((laws_eqStringS.f kj37 t497 t460).bind fun t501 => (if t501 = true then (laws_FnExactTalk.j2 kj37 t489 t488 (t498 != t461)) else (laws_FnExactTalk.j2 kj37 t489 t488 true))) = some r := H
              have A62 := zA A620
              clear A620
              have HC63 := zA H
              clear H
              obtain ⟨Ao64,co64,eo64⟩ := Kd.R_slice HO_10.out
              subst eo64
              go_upto_region 31 with (first | ((with_reducible refine gate_callee (f := 41) rfl ?_); refine goesL_ (some 83) rfl rfl Try.func41 (by kernel_rfl) rfl #[.slice Ao64 t470.length co64,.int .i64 1] rfl (by (try simp only [List.map_toArray,List.map_cons,List.map_nil]); first | done|rfl|(simp only [List.length_drop,List.length_take]; rfl)) ?_; (with_reducible refine (laws_markStringS.calls kj37 (fun k_ => some k_ = (.slice Ao64 t470.length co64 : Value).ownBlock) (.slice Ao64 t470.length co64) t470 1 t488 t489 w _ ?side1 ?side2 A53.out).mono ?_); (case side1 => repeat (first|(with_reducible first|exact HB.out|apply below_alloc|apply pw_below_drewN|apply below_drew1)|exact HB.out)); (case side2 => exact Kd.R_tight rfl HO_10.out); rintro e w65 ⟨rfl,hy0,hb,hkp⟩; refine ⟨_,rfl,?_⟩; have n0_ := zA (zB (ok' := fun k_ => some k_ ≠ (.slice Ao64 t470.length co64 : Value).ownBlock) (Kd.R_keptB (HO_6.out) hkp (fun k_ hk_ hs_ => (hk_) hs_)) (fun k_ hk_ => hk_.1)); have n1_ := zA (Kd.R_reok rfl hy0 (fun k_ e_ => HO_10.out.1 k_ e_)); have n2_ := zA (hb); clear HO_6 HO_10 HB; have HO_6 := n0_; have HO_10 := n1_; have HB := n2_; clear n0_ n1_ n2_) | ((with_reducible refine gate_callee (f := 43) rfl ?_); refine goesL_ (some 86) rfl rfl Try.func43 (by kernel_rfl) rfl #[.slice Ao64 t489.length co64,.int .i64 1] rfl (by (try simp only [List.map_toArray,List.map_cons,List.map_nil]); first | done | (rw [show t489.length = t470.length from (zF HO_10.out).1.symm] <;> rfl)|rfl|(simp only [List.length_drop,List.length_take]; rfl)) ?_; (with_reducible refine (laws_heldStringS.calls kj37 _ _ t489 1 t490 _ ?side1 ?side2 A54.out).mono ?_); (case side1 => exact ccT ((zF HO_10.out).2.2)); (case side2 => rw [show t489.length = t470.length from (zF HO_10.out).1.symm]; exact (zF HO_10.out).2.1); rintro e w66 ⟨rfl,hb⟩; refine ⟨_,rfl,?_⟩; have n0_ := zA (zC (rrA26 HO_6.out) hb); have n1_ := zA (zC (rrA26 HO_10.out) hb); have n2_ := zA (zJ (bT HB) hb); clear HO_6 HO_10 HB; have HO_6 := n0_; have HO_10 := n1_; have HB := n2_; clear n0_ n1_ n2_) | ((with_reducible refine gate_callee (f := 36) rfl ?_); refine goesL_ (some 94) rfl rfl Try.func36 (by kernel_rfl) rfl #[.slice A0 l0.length c0] rfl (by (try simp only [List.map_toArray,List.map_cons,List.map_nil]); first | done|rfl|(simp only [List.length_drop,List.length_take]; rfl)) ?_; (with_reducible refine (laws_toStringS.calls kj37 _ _ l0 t491 _ ?side1 ?side2 A60.out).mono ?_); (case side1 => exact ccT (Kd.C_below HR0.out HB.out)); (case side2 => exact HC0.out); rintro e w67 ⟨v492,rfl,ho0,hb⟩; refine ⟨_,rfl,?_⟩; have n0_ := zA (Kd.R_elder' (rrA26 HO_6.out) (zD ho0) hb); have n1_ := zA (Kd.R_elder' (rrA26 HO_10.out) (zD ho0) hb); have n2_ := zA (Kd.R_lower (zE (zE ho0 (Kd.R_lt (rrA26 HO_6.out))) (Kd.R_lt (rrA26 HO_10.out))) (below_size (bT HB))); have n3_ := zA (zJ (bT HB) hb); clear HO_6 HO_10 HB; have HO_6 := n0_; have HO_10 := n1_; have HO493 := n2_; have HB := n3_; clear n0_ n1_ n2_ n3_) | ((with_reducible refine gate_callee (f := 37) rfl ?_); refine goesL_ (some 96) rfl rfl Try.func37 (by kernel_rfl) rfl #[.slice A1 l1.length c1] rfl (by (try simp only [List.map_toArray,List.map_cons,List.map_nil]); first | done|rfl|(simp only [List.length_drop,List.length_take]; rfl)) ?_; (with_reducible refine (laws_toIntS.calls kj37 _ _ l1 t494 _ ?side1 ?side2 A61.out).mono ?_); (case side1 => exact ccT (Kd.C_below HR1.out HB.out)); (case side2 => exact HC1.out); rintro e w68 ⟨v495,rfl,ho0,hb⟩; refine ⟨_,rfl,?_⟩; have n0_ := zA (zC (rrA26 HO_6.out) hb); have n1_ := zA (zC (rrA26 HO_10.out) hb); have n2_ := zA (zC (rrA26 HO493.out) hb); have n3_ := zA (Kd.R_lower ho0 (below_size (bT HB))); have n4_ := zA (zJ (bT HB) hb); clear HO_6 HO_10 HO493 HB; have HO_6 := n0_; have HO_10 := n1_; have HO493 := n2_; have HO496 := n3_; have HB := n4_; clear n0_ n1_ n2_ n3_ n4_; obtain ⟨Ao69,co69,eo69⟩ := Kd.R_slice HO493.out; subst eo69; obtain ⟨Ao70,co70,eo70⟩ := Kd.R_slice HO496.out; subst eo70) | ((with_reducible refine gate_callee (f := 38) rfl ?_); refine goesL_ (some 97) rfl rfl Try.func38 (by kernel_rfl) rfl #[.slice Ao69 t491.length co69,.slice Ao70 t494.length co70] rfl (by (try simp only [List.map_toArray,List.map_cons,List.map_nil]); first | done|rfl|(simp only [List.length_drop,List.length_take]; rfl)) ?_; (with_reducible refine (impl_Talk.calls kj37 _ _ t491 _ _ t494 t497 t498 _ ?side1 ?side2 ?side3 ?side4 A62.out).mono ?_); (case side1 => exact ccT ((zF HO493.out).2.2)); (case side2 => exact (zF HO493.out).2.1); (case side3 => exact ccT ((zF HO496.out).2.2)); (case side4 => exact (zF HO496.out).2.1); rintro e w71 ⟨v499,rfl,ho0,hb⟩; refine ⟨_,rfl,?_⟩; have n0_ := zA (Kd.R_elder' (rrA26 HO_6.out) (zD ho0) hb); have n1_ := zA (Kd.R_elder' (rrA26 HO_10.out) (zD ho0) hb); have n2_ := zA (Kd.R_elder' (rrA26 HO493.out) (zD ho0) hb); have n3_ := zA (zC (rrA26 HO496.out) hb); have n4_ := zA (Kd.R_lower (zE (zE (zE ho0 (Kd.R_lt (rrA26 HO_6.out))) (Kd.R_lt (rrA26 HO_10.out))) (Kd.R_lt (rrA26 HO493.out))) (below_size (bT HB))); have n5_ := zA (zJ (bT HB) hb); clear HO_6 HO_10 HO493 HO496 HB; have HO_6 := n0_; have HO_10 := n1_; have HO493 := n2_; have HO496 := n3_; have HO500 := n4_; have HB := n5_; clear n0_ n1_ n2_ n3_ n4_ n5_))
              (try simp only [Act.put,List.setIfInBounds_toArray,List.set_cons_zero,List.set_cons_succ])
              go_cut [108] (fun v108 wc => ∃ (kq : Nat) (x108_62 : Bool),v108 = .bool x108_62 ∧ Aside0 (laws_FnExactTalk.j2 kq t489 t488 x108_62 = some r) ∧ Aside0 (kq ≤ kj37) ∧ Aside0 (Kd.R Kd.string 9 wc w.heap.size (fun _ => True) (.slice Ao64 t470.length co64) t489) ∧ Aside0 (Below w.heap.size w wc))
              case first =>
               have H := HC63.out
               clear HC63
               replace H := Option.bind_eq_some_iff.mp H
               obtain ⟨t501,A720,H⟩ := H
               replace H : (if t501 = true then (laws_FnExactTalk.j2 kj37 t489 t488 (t498 != t461)) else (laws_FnExactTalk.j2 kj37 t489 t488 true)) = some r := H
               have A72 := zA A720
               clear A720
               by_cases c73 : t501 = true
               ·
                subst c73
                have H1 : (laws_FnExactTalk.j2 kj37 t489 t488 (t498 != t461)) = some r := by rw [if_pos rfl] at H; exact H
                clear H; have H := H1; clear H1
                have H' := zA H
                clear H
                obtain ⟨Ao74,co74,eo74⟩ := Kd.R_slice HO500.out
                subst eo74
                obtain ⟨Ao75,co75,eo75⟩ := Kd.R_slice HO_6.out
                subst eo75
                go_wp2_with (first | ((with_reducible refine gate_callee (f := 39) rfl ?_); refine goesL_ (some 102) rfl rfl Try.func39 (by kernel_rfl) rfl #[.slice Ao74 t497.length co74,.slice Ao75 t460.length co75] rfl (by (try simp only [List.map_toArray,List.map_cons,List.map_nil]); first | done|rfl|(simp only [List.length_drop,List.length_take]; rfl)) ?_; (with_reducible refine (laws_eqStringS.calls kj37 _ _ t497 _ _ t460 true _ ?side1 ?side2 ?side3 ?side4 A72.out).mono ?_); (case side1 => exact ccT ((zF HO500.out).2.2)); (case side2 => exact (zF HO500.out).2.1); (case side3 => exact ccT ((zF HO_6.out).2.2)); (case side4 => exact (zF HO_6.out).2.1); rintro e w' ⟨rfl,⟨nd,rfl⟩⟩; refine ⟨_,rfl,?_⟩))
                go_meet
                case rel => exact ⟨_,((t498 != t461)),(by first|rfl|(simp; done)|(simp [*]; done)),H',⟨by have := HJ11.out; have := HJ37.out; first|omega|exact Nat.le_refl _⟩,⟨by (with_reducible repeat (first|apply zG|apply zH|apply zI)); exact zB HO_10.out (fun _ hk => trivial)⟩,⟨bT HB⟩⟩
               ·
                replace c73 := Bool.eq_false_iff.mpr c73
                subst c73
                have H1 : (laws_FnExactTalk.j2 kj37 t489 t488 true) = some r := by rw [if_neg (show ¬ (false = true) by decide)] at H; exact H
                clear H; have H := H1; clear H1
                have H' := zA H
                clear H
                obtain ⟨Ao76,co76,eo76⟩ := Kd.R_slice HO500.out
                subst eo76
                obtain ⟨Ao77,co77,eo77⟩ := Kd.R_slice HO_6.out
                subst eo77
                go_wp2_with (first | ((with_reducible refine gate_callee (f := 39) rfl ?_); refine goesL_ (some 102) rfl rfl Try.func39 (by kernel_rfl) rfl #[.slice Ao76 t497.length co76,.slice Ao77 t460.length co77] rfl (by (try simp only [List.map_toArray,List.map_cons,List.map_nil]); first | done|rfl|(simp only [List.length_drop,List.length_take]; rfl)) ?_; (with_reducible refine (laws_eqStringS.calls kj37 _ _ t497 _ _ t460 false _ ?side1 ?side2 ?side3 ?side4 A72.out).mono ?_); (case side1 => exact ccT ((zF HO500.out).2.2)); (case side2 => exact (zF HO500.out).2.1); (case side3 => exact ccT ((zF HO_6.out).2.2)); (case side4 => exact (zF HO_6.out).2.1); rintro e w' ⟨rfl,⟨nd,rfl⟩⟩; refine ⟨_,rfl,?_⟩))
                go_meet
                case rel => exact ⟨_,(true),(by first|rfl|(simp; done)|(simp [*]; done)),H',⟨by have := HJ11.out; have := HJ37.out; first|omega|exact Nat.le_refl _⟩,⟨by (with_reducible repeat (first|apply zG|apply zH|apply zI)); exact zB HO_10.out (fun _ hk => trivial)⟩,⟨bT HB⟩⟩
              case rest =>
               clear HC63
               obtain ⟨kq,x108_62,rfl,HA,HJ62,HO_10,HB⟩ := hcut
               have hl10_62 := (zF HO_10.out).1
               rw [hl10_62] at HO_10
               (try simp only [hl10_62])
               cases kq with
               | zero => exact absurd HA.out (by simp [laws_FnExactTalk.j2])
               | succ kj62 =>
                have H := HA.out
                clear HA
                simp only [laws_FnExactTalk.j2] at H
                by_cases c78 : x108_62 = true
                ·
                 subst c78
                 have H1 : (some false) = some r := by rw [if_pos rfl] at H; exact H
                 clear H; have H := H1; clear H1
                 obtain rfl := Option.some.inj H
                 go_wp2
                 go_ret
                 exact ⟨by first|rfl|(simp [errW_none,errW_some] <;> rfl)|(simp [*,errW_none,errW_some] <;> rfl),bT HB⟩
                ·
                 replace c78 := Bool.eq_false_iff.mpr c78
                 subst c78
                 have H1 : ((laws_heldStringS.f kj62 t489 1).bind fun t502 => (if t502 < 0 then (some false) else (if t502 = t488 then (some true) else (some false)))) = some r := by rw [if_neg (show ¬ (false = true) by decide)] at H; exact H
                 clear H; have H := H1; clear H1
                 replace H := Option.bind_eq_some_iff.mp H
                 obtain ⟨t502,A790,H⟩ := H
                 replace H : (if t502 < 0 then (some false) else (if t502 = t488 then (some true) else (some false))) = some r := H
                 have A79 := zA A790
                 clear A790
                 by_cases c80 : t502 < 0
                 ·
                  rw [if_pos c80] at H
                  have c80b0 : decide (t502 < 0) = true := decide_eq_true c80
                  clear c80
                  obtain rfl := Option.some.inj H
                  go_wp2_with (first | ((with_reducible refine gate_callee (f := 43) rfl ?_); refine goesL_ (some 111) rfl rfl Try.func43 (by kernel_rfl) rfl #[.slice Ao64 t489.length co64,.int .i64 1] rfl (by (try simp only [List.map_toArray,List.map_cons,List.map_nil]); first | done|rfl|(simp only [List.length_drop,List.length_take]; rfl)) ?_; (with_reducible refine (laws_heldStringS.calls kj62 _ _ t489 1 t502 _ ?side1 ?side2 A79.out).mono ?_); (case side1 => exact ccT ((zF HO_10.out).2.2)); (case side2 => exact (zF HO_10.out).2.1); rintro e w81 ⟨rfl,hb⟩; refine ⟨_,rfl,?_⟩; have n0_ := zA (zC (rrA26 HO_10.out) hb); have n1_ := zA (zJ (bT HB) hb); clear HO_10 HB; have HO_10 := n0_; have HB := n1_; clear n0_ n1_))
                  go_ret
                  exact ⟨by first|rfl|(simp [errW_none,errW_some] <;> rfl)|(simp [*,errW_none,errW_some] <;> rfl),bT HB⟩
                 ·
                  rw [if_neg c80] at H
                  have c80b0 : decide (t502 < 0) = false := decide_eq_false c80
                  clear c80
                  by_cases c82 : t502 = t488
                  ·
                   rw [if_pos c82] at H
                   have c82b0 : (t502 == t488) = true := beq_iff_eq.mpr c82
                   have c82b1 : (t502 != t488) = false := bne_eq_false_iff_eq.mpr c82
                   clear c82
                   obtain rfl := Option.some.inj H
                   go_wp2_with (first | ((with_reducible refine gate_callee (f := 43) rfl ?_); refine goesL_ (some 111) rfl rfl Try.func43 (by kernel_rfl) rfl #[.slice Ao64 t489.length co64,.int .i64 1] rfl (by (try simp only [List.map_toArray,List.map_cons,List.map_nil]); first | done|rfl|(simp only [List.length_drop,List.length_take]; rfl)) ?_; (with_reducible refine (laws_heldStringS.calls kj62 _ _ t489 1 t502 _ ?side1 ?side2 A79.out).mono ?_); (case side1 => exact ccT ((zF HO_10.out).2.2)); (case side2 => exact (zF HO_10.out).2.1); rintro e w83 ⟨rfl,hb⟩; refine ⟨_,rfl,?_⟩; have n0_ := zA (zC (rrA26 HO_10.out) hb); have n1_ := zA (zJ (bT HB) hb); clear HO_10 HB; have HO_10 := n0_; have HB := n1_; clear n0_ n1_))
                   go_ret
                   exact ⟨by first|rfl|(simp [errW_none,errW_some] <;> rfl)|(simp [*,errW_none,errW_some] <;> rfl),bT HB⟩
                  ·
                   rw [if_neg c82] at H
                   have c82b0 : (t502 == t488) = false := beq_eq_false_iff_ne.mpr c82
                   have c82b1 : (t502 != t488) = true := bne_iff_ne.mpr c82
                   obtain rfl := Option.some.inj H
                   go_wp2_with (first | ((with_reducible refine gate_callee (f := 43) rfl ?_); refine goesL_ (some 111) rfl rfl Try.func43 (by kernel_rfl) rfl #[.slice Ao64 t489.length co64,.int .i64 1] rfl (by (try simp only [List.map_toArray,List.map_cons,List.map_nil]); first | done|rfl|(simp only [List.length_drop,List.length_take]; rfl)) ?_; (with_reducible refine (laws_heldStringS.calls kj62 _ _ t489 1 t502 _ ?side1 ?side2 A79.out).mono ?_); (case side1 => exact ccT ((zF HO_10.out).2.2)); (case side2 => exact (zF HO_10.out).2.1); rintro e w84 ⟨rfl,hb⟩; refine ⟨_,rfl,?_⟩; have n0_ := zA (zC (rrA26 HO_10.out) hb); have n1_ := zA (zJ (bT HB) hb); clear HO_10 HB; have HO_10 := n0_; have HB := n1_; clear n0_ n1_))
                   go_ret
                   exact ⟨by first|rfl|(simp [errW_none,errW_some] <;> rfl)|(simp [*,errW_none,errW_some] <;> rfl),bT HB⟩
             ·
              rw [if_neg c59] at H
              have c59b0 : (t490 == t488) = false := beq_eq_false_iff_ne.mpr c59
              have c59b1 : (t490 != t488) = true := bne_iff_ne.mpr c59
              obtain rfl := Option.some.inj H
              obtain ⟨Ao85,co85,eo85⟩ := Kd.R_slice HO_10.out
              subst eo85
              go_wp2_with (first | ((with_reducible refine gate_callee (f := 41) rfl ?_); refine goesL_ (some 83) rfl rfl Try.func41 (by kernel_rfl) rfl #[.slice Ao85 t470.length co85,.int .i64 1] rfl (by (try simp only [List.map_toArray,List.map_cons,List.map_nil]); first | done|rfl|(simp only [List.length_drop,List.length_take]; rfl)) ?_; (with_reducible refine (laws_markStringS.calls kj37 (fun k_ => some k_ = (.slice Ao85 t470.length co85 : Value).ownBlock) (.slice Ao85 t470.length co85) t470 1 t488 t489 w _ ?side1 ?side2 A53.out).mono ?_); (case side1 => repeat (first|(with_reducible first|exact HB.out|apply below_alloc|apply pw_below_drewN|apply below_drew1)|exact HB.out)); (case side2 => exact Kd.R_tight rfl HO_10.out); rintro e w86 ⟨rfl,hy0,hb,hkp⟩; refine ⟨_,rfl,?_⟩; have n0_ := zA (zB (ok' := fun k_ => some k_ ≠ (.slice Ao85 t470.length co85 : Value).ownBlock) (Kd.R_keptB (HO_6.out) hkp (fun k_ hk_ hs_ => (hk_) hs_)) (fun k_ hk_ => hk_.1)); have n1_ := zA (Kd.R_reok rfl hy0 (fun k_ e_ => HO_10.out.1 k_ e_)); have n2_ := zA (hb); clear HO_6 HO_10 HB; have HO_6 := n0_; have HO_10 := n1_; have HB := n2_; clear n0_ n1_ n2_) | ((with_reducible refine gate_callee (f := 43) rfl ?_); refine goesL_ (some 86) rfl rfl Try.func43 (by kernel_rfl) rfl #[.slice Ao85 t489.length co85,.int .i64 1] rfl (by (try simp only [List.map_toArray,List.map_cons,List.map_nil]); first | done | (rw [show t489.length = t470.length from (zF HO_10.out).1.symm] <;> rfl)|rfl|(simp only [List.length_drop,List.length_take]; rfl)) ?_; (with_reducible refine (laws_heldStringS.calls kj37 _ _ t489 1 t490 _ ?side1 ?side2 A54.out).mono ?_); (case side1 => exact ccT ((zF HO_10.out).2.2)); (case side2 => rw [show t489.length = t470.length from (zF HO_10.out).1.symm]; exact (zF HO_10.out).2.1); rintro e w87 ⟨rfl,hb⟩; refine ⟨_,rfl,?_⟩; have n0_ := zA (zC (rrA26 HO_6.out) hb); have n1_ := zA (zC (rrA26 HO_10.out) hb); have n2_ := zA (zJ (bT HB) hb); clear HO_6 HO_10 HB; have HO_6 := n0_; have HO_10 := n1_; have HB := n2_; clear n0_ n1_ n2_))
              go_ret
              exact ⟨by first|rfl|(simp [errW_none,errW_some] <;> rfl)|(simp [*,errW_none,errW_some] <;> rfl),bT HB⟩
        ·
         replace c35 := Bool.eq_false_iff.mpr c35
         subst c35
         have H1 : (some false) = some r := by rw [if_neg (show ¬ (false = true) by decide)] at H; exact H
         clear H; have H := H1; clear H1
         obtain rfl := Option.some.inj H
         go_wp2_with (first | ((with_reducible refine gate_callee (f := 36) rfl ?_); refine goesL_ (some 54) rfl rfl Try.func36 (by kernel_rfl) rfl #[.slice A0 l0.length c0] rfl (by (try simp only [List.map_toArray,List.map_cons,List.map_nil]); first | done|rfl|(simp only [List.length_drop,List.length_take]; rfl)) ?_; (with_reducible refine (laws_toStringS.calls kj11 _ _ l0 t475 _ ?side1 ?side2 A30.out).mono ?_); (case side1 => exact ccT (Kd.C_below HR0.out HB.out)); (case side2 => exact HC0.out); rintro e w88 ⟨v476,rfl,ho0,hb⟩; refine ⟨_,rfl,?_⟩; have n0_ := zA (Kd.R_elder' (rrA26 HO_6.out) (zD ho0) hb); have n1_ := zA (Kd.R_elder' (rrA26 HO_8.out) (zD ho0) hb); have n2_ := zA (zC (rrA26 HO_9.out) hb); have n3_ := zA (Kd.R_elder' (rrA26 HO_10.out) (zD ho0) hb); have n4_ := zA (Kd.R_lower (zE (zE (zE ho0 (Kd.R_lt (rrA26 HO_6.out))) (Kd.R_lt (rrA26 HO_8.out))) (Kd.R_lt (rrA26 HO_10.out))) (below_size (bT HB))); have n5_ := zA (zJ (bT HB) hb); clear HO_6 HO_8 HO_9 HO_10 HB; have HO_6 := n0_; have HO_8 := n1_; have HO_9 := n2_; have HO_10 := n3_; have HO477 := n4_; have HB := n5_; clear n0_ n1_ n2_ n3_ n4_ n5_; obtain ⟨Ao89,co89,eo89⟩ := Kd.R_slice HO477.out; subst eo89) | ((with_reducible refine gate_callee (f := 39) rfl ?_); refine goesL_ (some 55) rfl rfl Try.func39 (by kernel_rfl) rfl #[.slice Ao20 t464.length co20,.slice Ao89 t475.length co89] rfl (by (try simp only [List.map_toArray,List.map_cons,List.map_nil]); first | done|rfl|(simp only [List.length_drop,List.length_take]; rfl)) ?_; (with_reducible refine (laws_eqStringS.calls kj11 _ _ t464 _ _ t475 true _ ?side1 ?side2 ?side3 ?side4 A31.out).mono ?_); (case side1 => exact ccT ((zF HO_8.out).2.2)); (case side2 => exact (zF HO_8.out).2.1); (case side3 => exact ccT ((zF HO477.out).2.2)); (case side4 => exact (zF HO477.out).2.1); rintro e w' ⟨rfl,⟨nd,rfl⟩⟩; refine ⟨_,rfl,?_⟩) | ((with_reducible refine gate_callee (f := 37) rfl ?_); refine goesL_ (some 59) rfl rfl Try.func37 (by kernel_rfl) rfl #[.slice A1 l1.length c1] rfl (by (try simp only [List.map_toArray,List.map_cons,List.map_nil]); first | done|rfl|(simp only [List.length_drop,List.length_take]; rfl)) ?_; (with_reducible refine (laws_toIntS.calls kj11 _ _ l1 t479 _ ?side1 ?side2 A33.out).mono ?_); (case side1 => exact ccT (Kd.C_below HR1.out (bT HB))); (case side2 => exact HC1.out); rintro e w90 ⟨v480,rfl,ho0,hb⟩; refine ⟨_,rfl,?_⟩; have n0_ := zA (zC (rrA26 HO_6.out) hb); have n1_ := zA (zC (rrA26 HO_8.out) hb); have n2_ := zA (Kd.R_elder' (rrA26 HO_9.out) (zD ho0) hb); have n3_ := zA (zC (rrA26 HO_10.out) hb); have n4_ := zA (zC (rrA26 HO477.out) hb); have n5_ := zA (Kd.R_lower (zE ho0 (Kd.R_lt (rrA26 HO_9.out))) (below_size (bT HB))); have n6_ := zA (zJ (bT HB) hb); clear HO_6 HO_8 HO_9 HO_10 HO477 HB; have HO_6 := n0_; have HO_8 := n1_; have HO_9 := n2_; have HO_10 := n3_; have HO477 := n4_; have HO481 := n5_; have HB := n6_; clear n0_ n1_ n2_ n3_ n4_ n5_ n6_; obtain ⟨Ao91,co91,eo91⟩ := Kd.R_slice HO481.out; subst eo91) | ((with_reducible refine gate_callee (f := 40) rfl ?_); refine goesL_ (some 60) rfl rfl Try.func40 (by kernel_rfl) rfl #[.slice Ao21 t467.length co21,.slice Ao91 t479.length co91] rfl (by (try simp only [List.map_toArray,List.map_cons,List.map_nil]); first | done|rfl|(simp only [List.length_drop,List.length_take]; rfl)) ?_; (with_reducible refine (laws_eqIntS.calls kj11 _ _ t467 _ _ t479 false _ ?side1 ?side2 ?side3 ?side4 A34.out).mono ?_); (case side1 => exact ccT ((zF HO_9.out).2.2)); (case side2 => exact (zF HO_9.out).2.1); (case side3 => exact ccT ((zF HO481.out).2.2)); (case side4 => exact (zF HO481.out).2.1); rintro e w' ⟨rfl,⟨nd,rfl⟩⟩; refine ⟨_,rfl,?_⟩))
         go_ret
         exact ⟨by first|rfl|(simp [errW_none,errW_some] <;> rfl)|(simp [*,errW_none,errW_some] <;> rfl),bT HB⟩
       ·
        replace c32 := Bool.eq_false_iff.mpr c32
        subst c32
        have H1 : (some false) = some r := by rw [if_neg (show ¬ (false = true) by decide)] at H; exact H
        clear H; have H := H1; clear H1
        obtain rfl := Option.some.inj H
        go_wp2_with (first | ((with_reducible refine gate_callee (f := 36) rfl ?_); refine goesL_ (some 54) rfl rfl Try.func36 (by kernel_rfl) rfl #[.slice A0 l0.length c0] rfl (by (try simp only [List.map_toArray,List.map_cons,List.map_nil]); first | done|rfl|(simp only [List.length_drop,List.length_take]; rfl)) ?_; (with_reducible refine (laws_toStringS.calls kj11 _ _ l0 t475 _ ?side1 ?side2 A30.out).mono ?_); (case side1 => exact ccT (Kd.C_below HR0.out HB.out)); (case side2 => exact HC0.out); rintro e w92 ⟨v476,rfl,ho0,hb⟩; refine ⟨_,rfl,?_⟩; have n0_ := zA (Kd.R_elder' (rrA26 HO_6.out) (zD ho0) hb); have n1_ := zA (Kd.R_elder' (rrA26 HO_8.out) (zD ho0) hb); have n2_ := zA (zC (rrA26 HO_9.out) hb); have n3_ := zA (Kd.R_elder' (rrA26 HO_10.out) (zD ho0) hb); have n4_ := zA (Kd.R_lower (zE (zE (zE ho0 (Kd.R_lt (rrA26 HO_6.out))) (Kd.R_lt (rrA26 HO_8.out))) (Kd.R_lt (rrA26 HO_10.out))) (below_size (bT HB))); have n5_ := zA (zJ (bT HB) hb); clear HO_6 HO_8 HO_9 HO_10 HB; have HO_6 := n0_; have HO_8 := n1_; have HO_9 := n2_; have HO_10 := n3_; have HO477 := n4_; have HB := n5_; clear n0_ n1_ n2_ n3_ n4_ n5_; obtain ⟨Ao93,co93,eo93⟩ := Kd.R_slice HO477.out; subst eo93) | ((with_reducible refine gate_callee (f := 39) rfl ?_); refine goesL_ (some 55) rfl rfl Try.func39 (by kernel_rfl) rfl #[.slice Ao20 t464.length co20,.slice Ao93 t475.length co93] rfl (by (try simp only [List.map_toArray,List.map_cons,List.map_nil]); first | done|rfl|(simp only [List.length_drop,List.length_take]; rfl)) ?_; (with_reducible refine (laws_eqStringS.calls kj11 _ _ t464 _ _ t475 false _ ?side1 ?side2 ?side3 ?side4 A31.out).mono ?_); (case side1 => exact ccT ((zF HO_8.out).2.2)); (case side2 => exact (zF HO_8.out).2.1); (case side3 => exact ccT ((zF HO477.out).2.2)); (case side4 => exact (zF HO477.out).2.1); rintro e w' ⟨rfl,⟨nd,rfl⟩⟩; refine ⟨_,rfl,?_⟩))
        go_ret
        exact ⟨by first|rfl|(simp [errW_none,errW_some] <;> rfl)|(simp [*,errW_none,errW_some] <;> rfl),bT HB⟩

end Go.Proofs.Ytlidnobkkgcnlaa.PFnExactTalk
