-- Written by a program out of the translation, for this claim.
import Derived.Test.YtlidnobkkgcnlaaPFnLinksx0
import Derived.Test.YtlidnobkkgcnlaaPFnLinksx13
import Derived.Test.YtlidnobkkgcnlaaPFnLinksx15
import Derived.Test.YtlidnobkkgcnlaaPFnLinksx19
import Derived.Test.YtlidnobkkgcnlaaPFnLinksx20
namespace Go.Proofs.Ytlidnobkkgcnlaa.PFnLinks
open Go.RowKit Go.Proofs.YtlidnobkkgcnlaaW.PrintWords Go.Proofs.YtlidnobkkgcnlaaW.PrintLast Go.Proofs.YtlidnobkkgcnlaaW.PrintMore
attribute [local go_sem] max2_int min2_int max_two min_two max_three min_three max_four min_four   -- for this text's walks alone
set_option linter.unusedVariables false
set_option linter.unusedSimpArgs false

/-! ### impl_Talk: function 38, by hand -/

mutual
def impl_Talk.j0 : Nat → List ByteArray → List Int → Bool → Option (List ByteArray × Bool)
  | 0,_,_,_ => none
  | k + 1,x0,x1,x26 => if x26 = true then (some (([] : List ByteArray),false)) else (impl_Talk.l0 k x0 x1 x1 (x1.length : Int) 0)
def impl_Talk.l0 : Nat → List ByteArray → List Int → List Int → Int → Int → Option (List ByteArray × Bool)
  | 0,_,_,_,_,_ => none
  | k + 1,x0,x1,x27,x28,x29 => if x29 < x28 then (if 0 ≤ x29 then (if x29 < (x27.length : Int) then (if (rd x27 x29) < 0 then (some (([] : List ByteArray),false)) else (impl_Talk.l0 k x0 x1 x27 x28 (wrap64 (x29 + 1)))) else (none)) else (none)) else (impl_Talk.l1 k x0 x1 x0 (x0.length : Int) 0 0 0 ([] : List ByteArray) 0 ([] : List ByteArray) 0 0 0)
def impl_Talk.l1 : Nat → List ByteArray → List Int → List ByteArray → Int → Int → Int → Int → List ByteArray → Int → List ByteArray → Int → Int → Int → Option (List ByteArray × Bool)
  | 0,_,_,_,_,_,_,_,_,_,_,_,_,_ => none
  | k + 1,x0,x1,x36,x37,x38,x444000,x444001,x444002,x444003,x444004,x444005,x444006,x444008 => if x38 < x37 then (if 0 ≤ x38 then (if x38 < (x36.length : Int) then ((impl_Offer.f k x444000 x444001 x444002 x444003 x444004 (rdOf ByteArray.empty x36 x38)).bind fun bt445 => (impl_Talk.l1 k x0 x1 x36 x37 (wrap64 (x38 + 1)) bt445.1 bt445.2.1 bt445.2.2.1 bt445.2.2.2.1 bt445.2.2.2.2.1 x444005 x444006 x444008)) else (none)) else (none)) else (impl_Talk.l2 k x0 x1 (x1.length : Int) 0 x444000 x444001 x444002 x444003 x444004 x444005 x444006 ([] : List ByteArray) x444008 ([] : List ByteArray) ([] : List (S36)) ([] : List (S36)))
def impl_Talk.l2 : Nat → List ByteArray → List Int → Int → Int → Int → Int → List ByteArray → Int → List ByteArray → Int → Int → List ByteArray → Int → List ByteArray → List (S36) → List (S36) → Option (List ByteArray × Bool)
  | 0,_,_,_,_,_,_,_,_,_,_,_,_,_,_,_,_ => none
  | k + 1,x0,x51,x52,x53,x444000,x444001,x444002,x444003,x444004,x444005,x444006,x444007,x444008,x444009,x444010,x444011 => if x53 < x52 then (if 0 ≤ x53 then (if x53 < (x51.length : Int) then ((impl_talk_pick.f k (rd x51 x53) x444000 x444001 x444002 x444003 x444004 x444005 x444006 x444007 x444008 x444009 x444010 x444011).bind fun bt460 => (impl_Talk.l2 k x0 x51 x52 (wrap64 (x53 + 1)) bt460.1 bt460.2.1 bt460.2.2.1 bt460.2.2.2.1 bt460.2.2.2.2.1 bt460.2.2.2.2.2.1 bt460.2.2.2.2.2.2.1 bt460.2.2.2.2.2.2.2.1 bt460.2.2.2.2.2.2.2.2.1 bt460.2.2.2.2.2.2.2.2.2.1 bt460.2.2.2.2.2.2.2.2.2.2.1 bt460.2.2.2.2.2.2.2.2.2.2.2)) else (none)) else (none)) else ((slices_Clone_string_string.f x444009).bind fun t455 => (if (x444009.length : Int) ≤ (x0.length : Int) then (if 0 ≤ (x444009.length : Int) then ((slices_Equal_string_string.f k x444009 (x0.take ((x444009.length : Int) : Int).toNat)).bind fun t459 => (some (t455,t459))) else (none)) else (some (t455,false))))
end
def impl_Talk.f (k : Nat) (l0 : List ByteArray) (l1 : List Int) : Option (List ByteArray × Bool) := if (l0.length : Int) > 20 then (impl_Talk.j0 k l0 l1 true) else (if (l1.length : Int) > 200 then (impl_Talk.j0 k l0 l1 true) else ((impl_areShort.f k l0).bind fun t441 => (impl_Talk.j0 k l0 l1 (!t441))))
theorem impl_Talk.mono_l : ∀ k,(∀ y0 y1 y2,LeO (impl_Talk.j0 k y0 y1 y2) (impl_Talk.j0 (k + 1) y0 y1 y2)) ∧ (∀ y0 y1 y2 y3 y4,LeO (impl_Talk.l0 k y0 y1 y2 y3 y4) (impl_Talk.l0 (k + 1) y0 y1 y2 y3 y4)) ∧ (∀ y0 y1 y2 y3 y4 y5 y6 y7 y8 y9 y10 y11 y12,LeO (impl_Talk.l1 k y0 y1 y2 y3 y4 y5 y6 y7 y8 y9 y10 y11 y12) (impl_Talk.l1 (k + 1) y0 y1 y2 y3 y4 y5 y6 y7 y8 y9 y10 y11 y12)) ∧ (∀ y0 y1 y2 y3 y4 y5 y6 y7 y8 y9 y10 y11 y12 y13 y14 y15,LeO (impl_Talk.l2 k y0 y1 y2 y3 y4 y5 y6 y7 y8 y9 y10 y11 y12 y13 y14 y15) (impl_Talk.l2 (k + 1) y0 y1 y2 y3 y4 y5 y6 y7 y8 y9 y10 y11 y12 y13 y14 y15))
  | 0 => ⟨fun _ _ _ r h => by simp [impl_Talk.j0] at h,fun _ _ _ _ _ r h => by simp [impl_Talk.l0] at h,fun _ _ _ _ _ _ _ _ _ _ _ _ _ r h => by simp [impl_Talk.l1] at h,fun _ _ _ _ _ _ _ _ _ _ _ _ _ _ _ _ r h => by simp [impl_Talk.l2] at h⟩
  | k + 1 => by
   obtain ⟨ih0,ih1,ih2,ih3⟩ := impl_Talk.mono_l k
   refine ⟨?_,?_,?_,?_⟩
   ·
    intro y0 y1 y2
    unfold impl_Talk.j0
    repeat' first
   |(with_reducible exact ih0 _ _ _)
   |(with_reducible exact ih1 _ _ _ _ _)
   |(with_reducible exact ih2 _ _ _ _ _ _ _ _ _ _ _ _ _)
   |(with_reducible exact ih3 _ _ _ _ _ _ _ _ _ _ _ _ _ _ _ _)
   |(with_reducible exact impl_Offer.mono _ _ _ _ _ _ _)
   |(with_reducible exact impl_talk_pick.mono _ _ _ _ _ _ _ _ _ _ _ _ _ _)
   |(with_reducible exact impl_areShort.mono _ _)
   |(with_reducible exact slices_Equal_string_string.mono _ _ _)
   |(with_reducible exact LeO.refl _)
   |(with_reducible exact LeO.none _)
   |(with_reducible refine LeO.ite ?_ ?_)
   |(with_reducible refine LeO.bind ?_ (fun _ => ?_))
   |exact ih0 _ _ _
   |exact ih1 _ _ _ _ _
   |exact ih2 _ _ _ _ _ _ _ _ _ _ _ _ _
   |exact ih3 _ _ _ _ _ _ _ _ _ _ _ _ _ _ _ _
   |exact impl_Offer.mono _ _ _ _ _ _ _
   |exact impl_talk_pick.mono _ _ _ _ _ _ _ _ _ _ _ _ _ _
   |exact impl_areShort.mono _ _
   |exact slices_Equal_string_string.mono _ _ _
   |exact LeO.none _
   |refine LeO.ite ?_ ?_
   |refine LeO.bind ?_ (fun _ => ?_)
   ·
    intro y0 y1 y2 y3 y4
    unfold impl_Talk.l0
    repeat' first
   |(with_reducible exact ih0 _ _ _)
   |(with_reducible exact ih1 _ _ _ _ _)
   |(with_reducible exact ih2 _ _ _ _ _ _ _ _ _ _ _ _ _)
   |(with_reducible exact ih3 _ _ _ _ _ _ _ _ _ _ _ _ _ _ _ _)
   |(with_reducible exact impl_Offer.mono _ _ _ _ _ _ _)
   |(with_reducible exact impl_talk_pick.mono _ _ _ _ _ _ _ _ _ _ _ _ _ _)
   |(with_reducible exact impl_areShort.mono _ _)
   |(with_reducible exact slices_Equal_string_string.mono _ _ _)
   |(with_reducible exact LeO.refl _)
   |(with_reducible exact LeO.none _)
   |(with_reducible refine LeO.ite ?_ ?_)
   |(with_reducible refine LeO.bind ?_ (fun _ => ?_))
   |exact ih0 _ _ _
   |exact ih1 _ _ _ _ _
   |exact ih2 _ _ _ _ _ _ _ _ _ _ _ _ _
   |exact ih3 _ _ _ _ _ _ _ _ _ _ _ _ _ _ _ _
   |exact impl_Offer.mono _ _ _ _ _ _ _
   |exact impl_talk_pick.mono _ _ _ _ _ _ _ _ _ _ _ _ _ _
   |exact impl_areShort.mono _ _
   |exact slices_Equal_string_string.mono _ _ _
   |exact LeO.none _
   |refine LeO.ite ?_ ?_
   |refine LeO.bind ?_ (fun _ => ?_)
   ·
    intro y0 y1 y2 y3 y4 y5 y6 y7 y8 y9 y10 y11 y12
    unfold impl_Talk.l1
    repeat' first
   |(with_reducible exact ih0 _ _ _)
   |(with_reducible exact ih1 _ _ _ _ _)
   |(with_reducible exact ih2 _ _ _ _ _ _ _ _ _ _ _ _ _)
   |(with_reducible exact ih3 _ _ _ _ _ _ _ _ _ _ _ _ _ _ _ _)
   |(with_reducible exact impl_Offer.mono _ _ _ _ _ _ _)
   |(with_reducible exact impl_talk_pick.mono _ _ _ _ _ _ _ _ _ _ _ _ _ _)
   |(with_reducible exact impl_areShort.mono _ _)
   |(with_reducible exact slices_Equal_string_string.mono _ _ _)
   |(with_reducible exact LeO.refl _)
   |(with_reducible exact LeO.none _)
   |(with_reducible refine LeO.ite ?_ ?_)
   |(with_reducible refine LeO.bind ?_ (fun _ => ?_))
   |exact ih0 _ _ _
   |exact ih1 _ _ _ _ _
   |exact ih2 _ _ _ _ _ _ _ _ _ _ _ _ _
   |exact ih3 _ _ _ _ _ _ _ _ _ _ _ _ _ _ _ _
   |exact impl_Offer.mono _ _ _ _ _ _ _
   |exact impl_talk_pick.mono _ _ _ _ _ _ _ _ _ _ _ _ _ _
   |exact impl_areShort.mono _ _
   |exact slices_Equal_string_string.mono _ _ _
   |exact LeO.none _
   |refine LeO.ite ?_ ?_
   |refine LeO.bind ?_ (fun _ => ?_)
   ·
    intro y0 y1 y2 y3 y4 y5 y6 y7 y8 y9 y10 y11 y12 y13 y14 y15
    unfold impl_Talk.l2
    repeat' first
   |(with_reducible exact ih0 _ _ _)
   |(with_reducible exact ih1 _ _ _ _ _)
   |(with_reducible exact ih2 _ _ _ _ _ _ _ _ _ _ _ _ _)
   |(with_reducible exact ih3 _ _ _ _ _ _ _ _ _ _ _ _ _ _ _ _)
   |(with_reducible exact impl_Offer.mono _ _ _ _ _ _ _)
   |(with_reducible exact impl_talk_pick.mono _ _ _ _ _ _ _ _ _ _ _ _ _ _)
   |(with_reducible exact impl_areShort.mono _ _)
   |(with_reducible exact slices_Equal_string_string.mono _ _ _)
   |(with_reducible exact LeO.refl _)
   |(with_reducible exact LeO.none _)
   |(with_reducible refine LeO.ite ?_ ?_)
   |(with_reducible refine LeO.bind ?_ (fun _ => ?_))
   |exact ih0 _ _ _
   |exact ih1 _ _ _ _ _
   |exact ih2 _ _ _ _ _ _ _ _ _ _ _ _ _
   |exact ih3 _ _ _ _ _ _ _ _ _ _ _ _ _ _ _ _
   |exact impl_Offer.mono _ _ _ _ _ _ _
   |exact impl_talk_pick.mono _ _ _ _ _ _ _ _ _ _ _ _ _ _
   |exact impl_areShort.mono _ _
   |exact slices_Equal_string_string.mono _ _ _
   |exact LeO.none _
   |refine LeO.ite ?_ ?_
   |refine LeO.bind ?_ (fun _ => ?_)
theorem impl_Talk.mono : ∀ a0 a1 k,LeO (impl_Talk.f k a0 a1) (impl_Talk.f (k + 1) a0 a1) := by
  intro a0 a1 k
  obtain ⟨ih0,ih1,ih2,ih3⟩ := impl_Talk.mono_l k
  unfold impl_Talk.f
  repeat' first
   |(with_reducible exact ih0 _ _ _)
   |(with_reducible exact ih1 _ _ _ _ _)
   |(with_reducible exact ih2 _ _ _ _ _ _ _ _ _ _ _ _ _)
   |(with_reducible exact ih3 _ _ _ _ _ _ _ _ _ _ _ _ _ _ _ _)
   |(with_reducible exact impl_Offer.mono _ _ _ _ _ _ _)
   |(with_reducible exact impl_talk_pick.mono _ _ _ _ _ _ _ _ _ _ _ _ _ _)
   |(with_reducible exact impl_areShort.mono _ _)
   |(with_reducible exact slices_Equal_string_string.mono _ _ _)
   |(with_reducible exact LeO.refl _)
   |(with_reducible exact LeO.none _)
   |(with_reducible refine LeO.ite ?_ ?_)
   |(with_reducible refine LeO.bind ?_ (fun _ => ?_))
   |exact ih0 _ _ _
   |exact ih1 _ _ _ _ _
   |exact ih2 _ _ _ _ _ _ _ _ _ _ _ _ _
   |exact ih3 _ _ _ _ _ _ _ _ _ _ _ _ _ _ _ _
   |exact impl_Offer.mono _ _ _ _ _ _ _
   |exact impl_talk_pick.mono _ _ _ _ _ _ _ _ _ _ _ _ _ _
   |exact impl_areShort.mono _ _
   |exact slices_Equal_string_string.mono _ _ _
   |exact LeO.none _
   |refine LeO.ite ?_ ?_
   |refine LeO.bind ?_ (fun _ => ?_)
set_option maxHeartbeats 8000000 in
set_option maxRecDepth 100000 in
theorem impl_Talk.calls (k : Nat) (A0 : Option Addr) (c0 : Nat) (l0 : List ByteArray) (A1 : Option Addr) (c1 : Nat) (l1 : List Int) (r1 : List ByteArray) (r2 : Bool) (w : World) (hr0 : Kd.C Kd.string w A0 l0.length l0) (hc0 : l0.length ≤ c0) (hr1 : Kd.C (Kd.int .i64) w A1 l1.length l1) (hc1 : l1.length ≤ c1) (h : impl_Talk.f k l0 l1 = some (r1,r2)) :
   Calls Try.prog 38 #[.slice A0 l0.length c0,.slice A1 l1.length c1] w fun e w' => ∃ v0_ : Value,e = .returned (.tuple #[v0_,.bool r2]) ∧ Kd.R Kd.string 9 w' w.heap.size (fun _ => True) v0_ r1 ∧ Below w.heap.size w w' := by
  have hu78 := Try.underlying78
  have hu26 := Try.underlying26
  have hu36 := Try.underlying36
  have HR0 := Aside0.mk hr0
  have HC0 := Aside0.mk hc0
  clear hr0 hc0
  have HR1 := Aside0.mk hr1
  have HC1 := Aside0.mk hc1
  clear hr1 hc1
  have HB := Aside0.mk (Below.refl w.heap.size w)
  have H : (if (l0.length : Int) > 20 then (impl_Talk.j0 k l0 l1 true) else (if (l1.length : Int) > 200 then (impl_Talk.j0 k l0 l1 true) else ((impl_areShort.f k l0).bind fun t441 => (impl_Talk.j0 k l0 l1 (!t441))))) = some (r1,r2) := h
  clear h
  have HC3 := Aside0.mk H
  clear H
  go_enter Try.func38,Try.ntmps38
  go_upto_region 1 with (fail)
  go_cut [26] (fun v26 wc => ∃ (kq : Nat) (x26_2 : Bool),v26 = .bool x26_2 ∧ Aside0 (impl_Talk.j0 kq l0 l1 x26_2 = some (r1,r2)) ∧ Aside0 (kq ≤ k) ∧ Aside0 (Below w.heap.size w wc))
  case first =>
   have H := HC3.out
   clear HC3
   by_cases c4 : (l0.length : Int) > 20
   ·
    rw [if_pos c4] at H
    have c4b0 : decide (20 < (l0.length : Int)) = true := decide_eq_true c4
    have c4b1 : decide (20 < l0.length) = true := decide_eq_true (by omega)
    clear c4
    (first | rw [c4b0]|(simp only [i64_w,i32_w]; rw [c4b0])|skip)
    have H' := Aside0.mk H
    clear H; go_wp2
    go_meet
    case rel => exact ⟨_,(true),(by first|rfl|(simp; done)|(simp [*]; done)),H',⟨by first|omega|exact Nat.le_refl _⟩,⟨bT HB⟩⟩
   ·
    rw [if_neg c4] at H
    have c4b0 : decide (20 < (l0.length : Int)) = false := decide_eq_false c4
    have c4b1 : decide (20 < l0.length) = false := decide_eq_false (by omega)
    clear c4
    (first | rw [c4b0]|(simp only [i64_w,i32_w]; rw [c4b0])|skip)
    by_cases c5 : (l1.length : Int) > 200
    ·
     rw [if_pos c5] at H
     have c5b0 : decide (200 < (l1.length : Int)) = true := decide_eq_true c5
     have c5b1 : decide (200 < l1.length) = true := decide_eq_true (by omega)
     clear c5
     have H' := Aside0.mk H
     clear H; go_wp2
     go_meet
     case rel => exact ⟨_,(true),(by first|rfl|(simp; done)|(simp [*]; done)),H',⟨by first|omega|exact Nat.le_refl _⟩,⟨bT HB⟩⟩
    ·
     rw [if_neg c5] at H
     have c5b0 : decide (200 < (l1.length : Int)) = false := decide_eq_false c5
     have c5b1 : decide (200 < l1.length) = false := decide_eq_false (by omega)
     clear c5
     replace H := Option.bind_eq_some_iff.mp H
     obtain ⟨t441,A60,H⟩ := H
     replace H : (impl_Talk.j0 k l0 l1 (!t441)) = some (r1,r2) := H
     have A6 := Aside0.mk A60
     clear A60
     have H' := Aside0.mk H
     clear H
     go_wp2_with (first | (go_at_call 55; (with_reducible refine (impl_areShort.calls k _ _ l0 t441 _ ?side1 ?side2 A6.out).mono ?_); (case side1 => exact ccT (Kd.C_below HR0.out HB.out)); (case side2 => exact HC0.out); rintro e w' ⟨rfl,⟨nd,rfl⟩⟩))
     go_meet
     case rel => exact ⟨_,(!t441),(by first|rfl|(simp; done)|(simp [*]; done)),H',⟨by first|omega|exact Nat.le_refl _⟩,⟨bT HB⟩⟩
  case rest =>
   clear HC3
   obtain ⟨kq,x26_2,rfl,HA,HJ2,HB⟩ := hcut
   cases kq with
   | zero => exact absurd HA.out (by simp [impl_Talk.j0])
   | succ kj2 =>
    have H := HA.out
    clear HA
    simp only [impl_Talk.j0] at H
    by_cases c7 : x26_2 = true
    ·
     subst c7
     have H1 : (some (([] : List ByteArray),false)) = some (r1,r2) := by rw [if_pos rfl] at H; exact H
     clear H; have H := H1; clear H1
     simp only [Option.some.injEq,Prod.mk.injEq] at H
     obtain ⟨rfl,rfl⟩ := H
     go_wp2
     go_ret2
     exact ⟨_,by first|rfl|(simp [errW_none,errW_some] <;> rfl)|(simp [*,errW_none,errW_some] <;> rfl),by first|exact Kd.R_nil _ _ _ _ _|exact Kd.N_nil _ _ _ _ _|exact Kd.V_nil _ _ _ _ _|exact Kd.Q_nil _ _ _ _ _|exact Kd.S_nil _ _ _ _ _,bT HB⟩
    ·
     replace c7 := Bool.eq_false_iff.mpr c7
     subst c7
     have H1 : (impl_Talk.l0 kj2 l0 l1 l1 (l1.length : Int) 0) = some (r1,r2) := by rw [if_neg (show ¬ (false = true) by decide)] at H; exact H
     clear H; have H := H1; clear H1
     have H' := Aside0.mk H
     clear H; go_wp2
     go_loopg [29] kj2 (fun kq v29 w' => ∃ (x29_2 : Int),v29 = .int .i64 x29_2 ∧ Aside0 (impl_Talk.l0 kq l0 l1 l1 (l1.length : Int) x29_2 = some (r1,r2)) ∧ Aside0 (kq ≤ kj2) ∧ Aside0 (Below w.heap.size w w'))
     case atStart => exact ⟨(0),(by first|rfl|(simp; done)|(simp [*]; done)),H',⟨Nat.le_refl _⟩,⟨bT HB⟩⟩
     case round =>
      clear H'
      obtain ⟨x29_2,rfl,HA,HK2,HB⟩ := hrel
      cases gk with
      | zero => exact absurd HA.out (by simp [impl_Talk.l0])
      | succ k2 =>
       have H := HA.out
       clear HA
       simp only [impl_Talk.l0] at H
       by_cases c8 : x29_2 < (l1.length : Int)
       ·
        rw [if_pos c8] at H
        have c8b0 : decide (x29_2 < (l1.length : Int)) = true := decide_eq_true c8
        clear c8
        by_cases c9 : 0 ≤ x29_2
        ·
         rw [if_pos c9] at H
         have c9b0 : decide (0 ≤ x29_2) = true := decide_eq_true c9
         clear c9
         by_cases c10 : x29_2 < (l1.length : Int)
         ·
          rw [if_pos c10] at H
          have c10b0 : decide (x29_2 < (l1.length : Int)) = true := decide_eq_true c10
          clear c10
          by_cases c11 : (rd l1 x29_2) < 0
          ·
           rw [if_pos c11] at H
           have c11b0 : decide ((rd l1 x29_2) < 0) = true := decide_eq_true c11
           clear c11
           simp only [Option.some.injEq,Prod.mk.injEq] at H
           obtain ⟨rfl,rfl⟩ := H
           have p442 : 0 ≤ (x29_2 : Int) := of_decide_eq_true (by first|(with_reducible assumption) | assumption)
           have q442 : x29_2 < (l1.length : Int) := of_decide_eq_true (by first|(with_reducible assumption) | assumption)
           obtain ⟨ad442,e442,hx442_0⟩ := Kd.at_int HR1.out x29_2 p442 q442
           cases e442
           replace hx442_0 := (HB.out.cell (World.block_lt_of_cell? w _ hx442_0)).trans hx442_0
           replace p442 := eq_true p442
           replace q442 := eq_true q442
           go_wp2
           go_ret2
           exact ⟨_,by first|rfl|(simp [errW_none,errW_some] <;> rfl)|(simp [*,errW_none,errW_some] <;> rfl),by first|exact Kd.R_nil _ _ _ _ _|exact Kd.N_nil _ _ _ _ _|exact Kd.V_nil _ _ _ _ _|exact Kd.Q_nil _ _ _ _ _|exact Kd.S_nil _ _ _ _ _,bT HB⟩
          ·
           rw [if_neg c11] at H
           have c11b0 : decide ((rd l1 x29_2) < 0) = false := decide_eq_false c11
           clear c11
           have H' := Aside0.mk H
           clear H
           have p442 : 0 ≤ (x29_2 : Int) := of_decide_eq_true (by first|(with_reducible assumption) | assumption)
           have q442 : x29_2 < (l1.length : Int) := of_decide_eq_true (by first|(with_reducible assumption) | assumption)
           obtain ⟨ad442,e442,hx442_0⟩ := Kd.at_int HR1.out x29_2 p442 q442
           cases e442
           replace hx442_0 := (HB.out.cell (World.block_lt_of_cell? w _ hx442_0)).trans hx442_0
           replace p442 := eq_true p442
           replace q442 := eq_true q442
           go_wp2
           go_roundg k2
           case measure => have := HJ2.out; have := HK2.out; omega
           case rel => exact ⟨(wrap64 (x29_2 + 1)),(by first|rfl|(simp; done)|(simp [*]; done)),H',⟨by have := HJ2.out; have := HK2.out; omega⟩,⟨bT HB⟩⟩
         ·
          rw [if_neg c10] at H
          exact absurd H (by simp)
        ·
         rw [if_neg c9] at H
         exact absurd H (by simp)
       ·
        rw [if_neg c8] at H
        have c8b0 : decide (x29_2 < (l1.length : Int)) = false := decide_eq_false c8
        clear c8
        have H' := Aside0.mk H
        clear H
        go_wp2_with (first | ((with_reducible refine gate_dst (N := 8) rfl ?_); (try (refine gate_guard (by rfl) ?_; dsimp only)); refine box_event ?hg (N := 8) ?hd (cs := #[.int .i64 0,.int .i64 0,.slice none 0 0,.int .i64 0,.slice none 0 0,.int .i64 0,.int .i64 0,.slice none 0 0,.int .i64 0,.slice none 0 0,.slice none 0 0,.slice none 0 0]) (t := 78) ?hr ?_; (case hd => rfl); (case hg => rfl); (case hr => first | (go_simp; done) | (go_simp; rfl)); intro gb443 hg w12 hbox hb; have n0_ := Aside0.mk (below_step (bT HB) hb); have n1_ := Aside0.mk (hbox); have n2_ := Aside0.mk ((by rw [hg]; exact (below_size (bT HB)) : w.heap.size ≤ gb443)); have n3_ := Aside0.mk ((by rw [hg]; exact (below_size (bT HB)) : w.heap.size ≤ gb443)); clear HB; have HB := n0_; have BK443 := n1_; have GW443 := n2_; have GE443 := n3_; clear n0_ n1_ n2_ n3_ hb hbox hg))
        go_loopg [38] k2 (fun kq v38 w' => ∃ (x38_3 : Int) (x444000_3 : Int) (x444001_3 : Int) (x444002_3 : List ByteArray) (x444003_3 : Int) (x444004_3 : List ByteArray) (u444002 : Value) (u444004 : Value),v38 = .int .i64 x38_3 ∧ Aside0 (impl_Talk.l1 kq l0 l1 l0 (l0.length : Int) x38_3 x444000_3 x444001_3 x444002_3 x444003_3 x444004_3 0 0 0 = some (r1,r2)) ∧ Aside0 (kq ≤ k2) ∧ Aside0 (Kd.Q Kd.string 9 w' w.heap.size (fun k_ => some k_ ≠ (u444004 : Value).ownBlock) u444002 x444002_3) ∧ Aside0 (Kd.R Kd.string 9 w' w.heap.size (fun k_ => some k_ ≠ (u444002 : Value).ownBlock) u444004 x444004_3) ∧ Aside0 (w'.heap[gb443]? = some (.cells #[.int .i64 x444000_3,.int .i64 x444001_3,u444002,.int .i64 x444003_3,u444004,.int .i64 0,.int .i64 0,(.slice none 0 0),.int .i64 0,(.slice none 0 0),(.slice none 0 0),(.slice none 0 0)] 78 (0,0))) ∧ Aside0 (Below w.heap.size w w'))
        case atStart => exact ⟨(0),(0),(0),(([] : List ByteArray)),(0),(([] : List ByteArray)),(.slice none 0 0),(.slice none 0 0),(by first|rfl|(simp; done)|(simp [*]; done)),H',⟨Nat.le_refl _⟩,⟨Kd.Q_of_R (by first|exact Kd.R_nil _ _ _ _ _|exact Kd.N_nil _ _ _ _ _|exact Kd.V_nil _ _ _ _ _|exact Kd.Q_nil _ _ _ _ _|exact Kd.S_nil _ _ _ _ _)⟩,⟨by first|exact Kd.R_nil _ _ _ _ _|exact Kd.N_nil _ _ _ _ _|exact Kd.V_nil _ _ _ _ _|exact Kd.Q_nil _ _ _ _ _|exact Kd.S_nil _ _ _ _ _⟩,⟨(bkT BK443.out)⟩,⟨bT HB⟩⟩
        case round =>
         clear H'
         obtain ⟨x38_3,x444000_3,x444001_3,x444002_3,x444003_3,x444004_3,u444002,u444004,rfl,HA,HK3,HO_444002,HO_444004,BK443,HB⟩ := hrel
         cases gk with
         | zero => exact absurd HA.out (by simp [impl_Talk.l1])
         | succ k3 =>
          have H := HA.out
          clear HA
          simp only [impl_Talk.l1] at H
          by_cases c13 : x38_3 < (l0.length : Int)
          ·
           rw [if_pos c13] at H
           have c13b0 : decide (x38_3 < (l0.length : Int)) = true := decide_eq_true c13
           clear c13
           by_cases c14 : 0 ≤ x38_3
           ·
            rw [if_pos c14] at H
            have c14b0 : decide (0 ≤ x38_3) = true := decide_eq_true c14
            clear c14
            by_cases c15 : x38_3 < (l0.length : Int)
            ·
             rw [if_pos c15] at H
             have c15b0 : decide (x38_3 < (l0.length : Int)) = true := decide_eq_true c15
             clear c15
             replace H := Option.bind_eq_some_iff.mp H
             obtain ⟨⟨t445,t446,t447,t450,t451,t454⟩,A160,H⟩ := H
             replace H : (impl_Talk.l1 k3 l0 l1 l0 (l0.length : Int) (wrap64 (x38_3 + 1)) t445 t446 t447 t450 t451 0 0 0) = some (r1,r2) := H
             have A16 := Aside0.mk A160
             clear A160
             have H' := Aside0.mk H
             clear H
             have p444 : 0 ≤ (x38_3 : Int) := of_decide_eq_true (by first|(with_reducible assumption) | assumption)
             have q444 : x38_3 < (l0.length : Int) := of_decide_eq_true (by first|(with_reducible assumption) | assumption)
             obtain ⟨ad444,e444,hx444_0⟩ := Kd.at_string HR0.out x38_3 p444 q444
             cases e444
             replace hx444_0 := (HB.out.cell (World.block_lt_of_cell? w _ hx444_0)).trans hx444_0
             replace p444 := eq_true p444
             replace q444 := eq_true q444
             obtain ⟨_,_,_,_,_,_,_,_,_,_,_,_,_,_,_,_,_,_,_,_,_,_,_,_⟩ := cz12 BK443.out
             obtain ⟨Ao18,co18,eo18,_⟩ := Kd.Q_slice HO_444002.out
             subst eo18
             obtain ⟨Ao19,co19,eo19⟩ := Kd.R_slice HO_444004.out
             subst eo19
             go_wp2_with (first | ((with_reducible refine gate_callee (f := 14) rfl ?_); refine goesL_ (some 46) rfl rfl Try.func14 (by kernel_rfl) rfl #[.agg #[.int .i64 x444000_3,.int .i64 x444001_3,.slice Ao18 x444002_3.length co18,.int .i64 x444003_3,.slice Ao19 x444004_3.length co19],.string (rdOf ByteArray.empty l0 x38_3)] rfl (by (try simp only [List.map_toArray,List.map_cons,List.map_nil]); first | done|rfl|(simp only [List.length_drop,List.length_take]; rfl)) ?_; (with_reducible refine (impl_Offer.calls k3 x444000_3 x444001_3 _ _ x444002_3 x444003_3 _ _ x444004_3 (rdOf ByteArray.empty l0 x38_3) t445 t446 t447 t450 t451 t454 _ ?side1 ?side2 ?side3 ?side4 A16.out).mono ?_); (case side1 => exact ccT ((Kd.Q_reads' HO_444002.out).2.2)); (case side2 => exact (Kd.Q_reads' HO_444002.out).2.1); (case side3 => exact ccT ((Kd.R_reads' HO_444004.out).2.2)); (case side4 => exact (Kd.R_reads' HO_444004.out).2.1); rintro e w20 ⟨v448,v452,rfl,ho0,ho1,hb⟩; refine ⟨_,rfl,?_⟩; have n0_ := Aside0.mk (Kd.Q_mono (Kd.Q_told (Kd.Q_told (Kd.Q_old (rrQ HO_444002.out) hb) (Kd.R_base ho0)) (Kd.R_base ho1)) (fun _ h_ => h_.1)); have n1_ := Aside0.mk (Kd.R_mono (Kd.R_told (Kd.R_told (Kd.R_old (rrAT HO_444004.out) hb) (Kd.R_base ho0)) (Kd.R_base ho1)) (fun _ h_ => h_.1)); have n2_ := Aside0.mk (Kd.R_lower (Kd.R_new' (Kd.R_new' ho0 (Kd.Q_lt (rrQ HO_444002.out))) (Kd.R_lt (rrAT HO_444004.out))) (below_size (bT HB))); have n3_ := Aside0.mk (Kd.R_lower (Kd.R_new' (Kd.R_new' ho1 (Kd.Q_lt (rrQ HO_444002.out))) (Kd.R_lt (rrAT HO_444004.out))) (below_size (bT HB))); have n4_ := Aside0.mk (blk_below (bkT BK443.out) hb); have n5_ := Aside0.mk (below_step (bT HB) hb); clear HO_444002 HO_444004 BK443 HB; have HO_444002 := n0_; have HO_444004 := n1_; have HO449 := n2_; have HO453 := n3_; have BK443 := n4_; have HB := n5_; clear n0_ n1_ n2_ n3_ n4_ n5_; obtain ⟨_,_,_,_,_,_,_,_,_,_,_,_,_,_,_,_,_,_,_,_,_,_,_,_⟩ := cz12 BK443.out; obtain ⟨Ao22,co22,eo22⟩ := Kd.R_slice HO449.out; subst eo22; obtain ⟨Ao23,co23,eo23⟩ := Kd.R_slice HO453.out; subst eo23))
             go_roundg k3
             case measure => have := HJ2.out; have := HK2.out; have := HK3.out; omega
             case rel => exact ⟨(wrap64 (x38_3 + 1)),(t445),(t446),(t447),(t450),(t451),(.slice Ao22 t447.length co22),(.slice Ao23 t451.length co23),(by first|rfl|(simp; done)|(simp [*]; done)),H',⟨by have := HJ2.out; have := HK2.out; have := HK3.out; omega⟩,⟨Kd.Q_of_R (by (with_reducible repeat (first|apply Kd.R_alloc|apply Kd.R_drewN|apply Kd.R_drew)); exact Kd.R_mono (Kd.R_far (p := ⟨gb443,4,none⟩) (Kd.R_far (p := ⟨gb443,3,none⟩) (Kd.R_far (p := ⟨gb443,2,none⟩) (Kd.R_far (p := ⟨gb443,1,none⟩) (Kd.R_far (p := ⟨gb443,0,none⟩) (Kd.R_types HO449.out BK443.out (by decide)) (fun _ h=>h.2) (.int .i64 t445)) (fun _ h=>h.2) (.int .i64 t446)) (fun _ h=>h.2) (.slice Ao22 t447.length co22)) (fun _ h=>h.2) (.int .i64 t450)) (fun _ h=>h.2) (.slice Ao23 t451.length co23)) (fun _ hk => hk.1.1.1))⟩,⟨by (with_reducible repeat (first|apply Kd.R_alloc|apply Kd.R_drewN|apply Kd.R_drew)); exact Kd.R_mono (Kd.R_far (p := ⟨gb443,4,none⟩) (Kd.R_far (p := ⟨gb443,3,none⟩) (Kd.R_far (p := ⟨gb443,2,none⟩) (Kd.R_far (p := ⟨gb443,1,none⟩) (Kd.R_far (p := ⟨gb443,0,none⟩) (Kd.R_types HO453.out BK443.out (by decide)) (fun _ h=>h.2) (.int .i64 t445)) (fun _ h=>h.2) (.int .i64 t446)) (fun _ h=>h.2) (.slice Ao22 t447.length co22)) (fun _ h=>h.2) (.int .i64 t450)) (fun _ h=>h.2) (.slice Ao23 t451.length co23)) (fun _ hk => hk.1.1.1)⟩,⟨by (with_reducible repeat (first|refine blk_drewN ?_ _|refine blk_drew ?_|refine blk_alloc ?_ _)); refine blk_put (cs := #[.int .i64 t445,.int .i64 t446,.slice Ao22 t447.length co22,.int .i64 t450,.slice Ao19 x444004_3.length co19,.int .i64 0,.int .i64 0,.slice none 0 0,.int .i64 0,.slice none 0 0,.slice none 0 0,.slice none 0 0]) ?_ 4 _ rfl; (with_reducible repeat (first|refine blk_drewN ?_ _|refine blk_drew ?_|refine blk_alloc ?_ _)); refine blk_put (cs := #[.int .i64 t445,.int .i64 t446,.slice Ao22 t447.length co22,.int .i64 x444003_3,.slice Ao19 x444004_3.length co19,.int .i64 0,.int .i64 0,.slice none 0 0,.int .i64 0,.slice none 0 0,.slice none 0 0,.slice none 0 0]) ?_ 3 _ rfl; (with_reducible repeat (first|refine blk_drewN ?_ _|refine blk_drew ?_|refine blk_alloc ?_ _)); refine blk_put (cs := #[.int .i64 t445,.int .i64 t446,.slice Ao18 x444002_3.length co18,.int .i64 x444003_3,.slice Ao19 x444004_3.length co19,.int .i64 0,.int .i64 0,.slice none 0 0,.int .i64 0,.slice none 0 0,.slice none 0 0,.slice none 0 0]) ?_ 2 _ rfl; (with_reducible repeat (first|refine blk_drewN ?_ _|refine blk_drew ?_|refine blk_alloc ?_ _)); refine blk_put (cs := #[.int .i64 t445,.int .i64 x444001_3,.slice Ao18 x444002_3.length co18,.int .i64 x444003_3,.slice Ao19 x444004_3.length co19,.int .i64 0,.int .i64 0,.slice none 0 0,.int .i64 0,.slice none 0 0,.slice none 0 0,.slice none 0 0]) ?_ 1 _ rfl; (with_reducible repeat (first|refine blk_drewN ?_ _|refine blk_drew ?_|refine blk_alloc ?_ _)); refine blk_put (cs := #[.int .i64 x444000_3,.int .i64 x444001_3,.slice Ao18 x444002_3.length co18,.int .i64 x444003_3,.slice Ao19 x444004_3.length co19,.int .i64 0,.int .i64 0,.slice none 0 0,.int .i64 0,.slice none 0 0,.slice none 0 0,.slice none 0 0]) ?_ 0 _ rfl; (with_reducible repeat (first|refine blk_drewN ?_ _|refine blk_drew ?_|refine blk_alloc ?_ _)); exact BK443.out⟩,⟨bT HB⟩⟩
            ·
             rw [if_neg c15] at H
             exact absurd H (by simp)
           ·
            rw [if_neg c14] at H
            exact absurd H (by simp)
          ·
           rw [if_neg c13] at H
           have c13b0 : decide (x38_3 < (l0.length : Int)) = false := decide_eq_false c13
           clear c13
           have H' := Aside0.mk H
           clear H; go_wp2
           go_loopg [53] k3 (fun kq v53 w' => ∃ (x53_4 : Int) (x444000_4 : Int) (x444001_4 : Int) (x444002_4 : List ByteArray) (x444003_4 : Int) (x444004_4 : List ByteArray) (x444005_4 : Int) (x444006_4 : Int) (x444007_4 : List ByteArray) (x444008_4 : Int) (x444009_4 : List ByteArray) (x444010_4 : List (S36)) (x444011_4 : List (S36)) (u444002 : Value) (u444004 : Value) (u444007 : Value) (u444009 : Value) (u444010 : Value) (u444011 : Value),v53 = .int .i64 x53_4 ∧ Aside0 (impl_Talk.l2 kq l0 l1 (l1.length : Int) x53_4 x444000_4 x444001_4 x444002_4 x444003_4 x444004_4 x444005_4 x444006_4 x444007_4 x444008_4 x444009_4 x444010_4 x444011_4 = some (r1,r2)) ∧ Aside0 (kq ≤ k3) ∧ Aside0 (Kd.Q Kd.string 9 w' w.heap.size (fun k_ => some k_ ≠ (u444004 : Value).ownBlock ∧ some k_ ≠ (u444007 : Value).ownBlock ∧ some k_ ≠ (u444009 : Value).ownBlock) u444002 x444002_4) ∧ Aside0 (Kd.R Kd.string 9 w' w.heap.size (fun k_ => some k_ ≠ (u444002 : Value).ownBlock ∧ some k_ ≠ (u444007 : Value).ownBlock ∧ some k_ ≠ (u444009 : Value).ownBlock) u444004 x444004_4) ∧ Aside0 (Kd.Q Kd.string 9 w' w.heap.size (fun k_ => some k_ ≠ (u444002 : Value).ownBlock ∧ some k_ ≠ (u444004 : Value).ownBlock ∧ some k_ ≠ (u444009 : Value).ownBlock) u444007 x444007_4) ∧ Aside0 (Kd.R Kd.string 9 w' w.heap.size (fun k_ => some k_ ≠ (u444002 : Value).ownBlock ∧ some k_ ≠ (u444004 : Value).ownBlock ∧ some k_ ≠ (u444007 : Value).ownBlock) u444009 x444009_4) ∧ Aside0 (Kd.Q k36 36 w' w.heap.size (fun k_ => some k_ ≠ (u444011 : Value).ownBlock) u444010 x444010_4) ∧ Aside0 (Kd.Q k36 36 w' w.heap.size (fun k_ => some k_ ≠ (u444010 : Value).ownBlock) u444011 x444011_4) ∧ Aside0 (w'.heap[gb443]? = some (.cells #[.int .i64 x444000_4,.int .i64 x444001_4,u444002,.int .i64 x444003_4,u444004,.int .i64 x444005_4,.int .i64 x444006_4,u444007,.int .i64 x444008_4,u444009,u444010,u444011] 78 (0,0))) ∧ Aside0 (Below w.heap.size w w'))
           case atStart => exact ⟨(0),(x444000_3),(x444001_3),(x444002_3),(x444003_3),(x444004_3),(0),(0),(([] : List ByteArray)),(0),(([] : List ByteArray)),(([] : List (S36))),(([] : List (S36))),(u444002),(u444004),(.slice none 0 0),(.slice none 0 0),(.slice none 0 0),(.slice none 0 0),(by first|rfl|(simp; done)|(simp [*]; done)),H',⟨Nat.le_refl _⟩,⟨by (with_reducible repeat (first|apply Kd.Q_alloc|apply Kd.Q_drewN|apply Kd.Q_drew)); exact Kd.Q_mono HO_444002.out (fun _ hk => ⟨hk,⟨(by simp [Value.ownBlock]),(by simp [Value.ownBlock])⟩⟩)⟩,⟨by (with_reducible repeat (first|apply Kd.R_alloc|apply Kd.R_drewN|apply Kd.R_drew)); exact Kd.R_mono HO_444004.out (fun _ hk => ⟨hk,⟨(by simp [Value.ownBlock]),(by simp [Value.ownBlock])⟩⟩)⟩,⟨by first|exact Kd.R_nil _ _ _ _ _|exact Kd.N_nil _ _ _ _ _|exact Kd.V_nil _ _ _ _ _|exact Kd.Q_nil _ _ _ _ _|exact Kd.S_nil _ _ _ _ _⟩,⟨by first|exact Kd.R_nil _ _ _ _ _|exact Kd.N_nil _ _ _ _ _|exact Kd.V_nil _ _ _ _ _|exact Kd.Q_nil _ _ _ _ _|exact Kd.S_nil _ _ _ _ _⟩,⟨by first|exact Kd.R_nil _ _ _ _ _|exact Kd.N_nil _ _ _ _ _|exact Kd.V_nil _ _ _ _ _|exact Kd.Q_nil _ _ _ _ _|exact Kd.S_nil _ _ _ _ _⟩,⟨by first|exact Kd.R_nil _ _ _ _ _|exact Kd.N_nil _ _ _ _ _|exact Kd.V_nil _ _ _ _ _|exact Kd.Q_nil _ _ _ _ _|exact Kd.S_nil _ _ _ _ _⟩,⟨(bkT BK443.out)⟩,⟨bT HB⟩⟩
           case round =>
            clear H'
            obtain ⟨x53_4,x444000_4,x444001_4,x444002_4,x444003_4,x444004_4,x444005_4,x444006_4,x444007_4,x444008_4,x444009_4,x444010_4,x444011_4,u444002,u444004,u444007,u444009,u444010,u444011,rfl,HA,HK4,HO_444002,HO_444004,HO_444007,HO_444009,HO_444010,HO_444011,BK443,HB⟩ := hrel
            cases gk with
            | zero => exact absurd HA.out (by simp [impl_Talk.l2])
            | succ k4 =>
             have H := HA.out
             clear HA
             simp only [impl_Talk.l2] at H
             by_cases c24 : x53_4 < (l1.length : Int)
             ·
              rw [if_pos c24] at H
              have c24b0 : decide (x53_4 < (l1.length : Int)) = true := decide_eq_true c24
              clear c24
              by_cases c25 : 0 ≤ x53_4
              ·
               rw [if_pos c25] at H
               have c25b0 : decide (0 ≤ x53_4) = true := decide_eq_true c25
               clear c25
               by_cases c26 : x53_4 < (l1.length : Int)
               ·
                rw [if_pos c26] at H
                have c26b0 : decide (x53_4 < (l1.length : Int)) = true := decide_eq_true c26
                clear c26
                replace H := Option.bind_eq_some_iff.mp H
                obtain ⟨⟨t900,t901,t902,t903,t904,t905,t906,t907,t908,t909,t910,t911⟩,A280,H⟩ := H
                replace H : (impl_Talk.l2 k4 l0 l1 (l1.length : Int) (wrap64 (x53_4 + 1)) t900 t901 t902 t903 t904 t905 t906 t907 t908 t909 t910 t911) = some (r1,r2) := H
                have A28 := Aside0.mk A280
                clear A280
                have H' := Aside0.mk H
                clear H
                have p460 : 0 ≤ (x53_4 : Int) := of_decide_eq_true (by first|(with_reducible assumption) | assumption)
                have q460 : x53_4 < (l1.length : Int) := of_decide_eq_true (by first|(with_reducible assumption) | assumption)
                obtain ⟨ad460,e460,hx460_0⟩ := Kd.at_int HR1.out x53_4 p460 q460
                cases e460
                replace hx460_0 := (HB.out.cell (World.block_lt_of_cell? w _ hx460_0)).trans hx460_0
                replace p460 := eq_true p460
                replace q460 := eq_true q460
                go_wp2_with (first | (go_at_call 60; (refine (impl_talk_pick.calls k4 gb443 (rd l1 x53_4) x444000_4 x444001_4 x444002_4 x444003_4 x444004_4 x444005_4 x444006_4 x444007_4 x444008_4 x444009_4 x444010_4 x444011_4 t900 t901 t902 t903 t904 t905 t906 t907 t908 t909 t910 t911 u444002 u444004 u444007 u444009 u444010 u444011 w _ GE443 ?side1 A28.out).mono ?_); (case side1 => exact ⟨⟨(rrQ HO_444002.out)⟩,⟨rrAT HO_444004.out⟩,⟨(rrQ HO_444007.out)⟩,⟨rrAT HO_444009.out⟩,⟨(rrQ HO_444010.out)⟩,⟨(rrQ HO_444011.out)⟩,⟨rrBT BK443.out⟩,⟨bT HB⟩⟩); rintro e w900 ⟨u900,u901,u902,u903,u904,u905,rfl,n0_,n1_,n2_,n3_,n4_,n5_,n6_,n7_⟩; clear HO_444002 HO_444004 HO_444007 HO_444009 HO_444010 HO_444011 BK443 HB; have HO_444002 := n0_; have HO_444004 := n1_; have HO_444007 := n2_; have HO_444009 := n3_; have HO_444010 := n4_; have HO_444011 := n5_; have BK443 := n6_; have HB := n7_; clear n0_ n1_ n2_ n3_ n4_ n5_ n6_ n7_))
                go_roundg k4
                case measure => have := HJ2.out; have := HK2.out; have := HK3.out; have := HK4.out; omega
                case rel => exact ⟨(wrap64 (x53_4 + 1)),t900,t901,t902,t903,t904,t905,t906,t907,t908,t909,t910,t911,u900,u901,u902,u903,u904,u905,(by first|rfl|(simp; done)|(simp [*]; done)),H',⟨by have := HJ2.out; have := HK2.out; have := HK3.out; have := HK4.out; omega⟩,⟨(rrQ HO_444002.out)⟩,⟨(rrAT HO_444004.out)⟩,⟨(rrQ HO_444007.out)⟩,⟨(rrAT HO_444009.out)⟩,⟨(rrQ HO_444010.out)⟩,⟨(rrQ HO_444011.out)⟩,⟨(bkT BK443.out)⟩,⟨bT HB⟩⟩
               ·
                rw [if_neg c26] at H
                exact absurd H (by simp)
              ·
               rw [if_neg c25] at H
               exact absurd H (by simp)
             ·
              rw [if_neg c24] at H
              have c24b0 : decide (x53_4 < (l1.length : Int)) = false := decide_eq_false c24
              clear c24
              replace H := Option.bind_eq_some_iff.mp H
              obtain ⟨t455,A1360,H⟩ := H
              replace H : (if (x444009_4.length : Int) ≤ (l0.length : Int) then (if 0 ≤ (x444009_4.length : Int) then ((slices_Equal_string_string.f k4 x444009_4 (l0.take ((x444009_4.length : Int) : Int).toNat)).bind fun t459 => (some (t455,t459))) else (none)) else (some (t455,false))) = some (r1,r2) := H
              have A136 := Aside0.mk A1360
              clear A1360
              by_cases c137 : (x444009_4.length : Int) ≤ (l0.length : Int)
              ·
               rw [if_pos c137] at H
               have c137b0 : decide ((x444009_4.length : Int) ≤ (l0.length : Int)) = true := decide_eq_true c137
               have c137b1 : decide (x444009_4.length ≤ l0.length) = true := decide_eq_true (Int.ofNat_le.mp c137)
               clear c137
               by_cases c138 : 0 ≤ (x444009_4.length : Int)
               ·
                rw [if_pos c138] at H
                have c138b0 := eq_true c138
                have c138b1 : decide (0 ≤ (x444009_4.length : Int)) = true := decide_eq_true c138
                clear c138
                have c139b0 := eq_true (of_decide_eq_true (by first|(with_reducible assumption) | assumption) : (x444009_4.length : Int) ≤ (l0.length : Int))
                replace H := Option.bind_eq_some_iff.mp H
                obtain ⟨t459,A1400,H⟩ := H
                replace H : (some (t455,t459)) = some (r1,r2) := H
                have A140 := Aside0.mk A1400
                clear A1400
                simp only [Option.some.injEq,Prod.mk.injEq] at H
                obtain ⟨rfl,rfl⟩ := H
                obtain ⟨_,_,_,_,_,_,_,_,_,_,_,_,_,_,_,_,_,_,_,_,_,_,_,_⟩ := cz12 BK443.out
                obtain ⟨Ao142,co142,eo142⟩ := Kd.R_slice HO_444009.out
                subst eo142
                go_wp2_with (first | ((with_reducible refine gate_callee (f := 61) rfl ?_); refine goesL_ (some 64) rfl rfl Try.func61 (by kernel_rfl) rfl #[.slice Ao142 x444009_4.length co142] rfl (by (try simp only [List.map_toArray,List.map_cons,List.map_nil]); first | done|rfl|(simp only [List.length_drop,List.length_take]; rfl)) ?_; (with_reducible refine (slices_Clone_string_string.calls _ _ x444009_4 t455 _ ?side1 ?side2 A136.out).mono ?_); (case side1 => exact ccT ((Kd.R_reads' HO_444009.out).2.2)); (case side2 => exact (Kd.R_reads' HO_444009.out).2.1); rintro e w143 ⟨v456,rfl,ho0,hb⟩; refine ⟨_,rfl,?_⟩; have n0_ := Aside0.mk (Kd.Q_elder' (rrQ HO_444002.out) (Kd.R_base ho0) hb); have n1_ := Aside0.mk (Kd.R_elder' (rrAT HO_444004.out) (Kd.R_base ho0) hb); have n2_ := Aside0.mk (Kd.Q_elder' (rrQ HO_444007.out) (Kd.R_base ho0) hb); have n3_ := Aside0.mk (Kd.R_elder' (rrAT HO_444009.out) (Kd.R_base ho0) hb); have n4_ := Aside0.mk (Kd.Q_below (rrQ HO_444010.out) hb); have n5_ := Aside0.mk (Kd.Q_below (rrQ HO_444011.out) hb); have n6_ := Aside0.mk (Kd.R_lower (Kd.R_new' (Kd.R_new' (Kd.R_new' (Kd.R_new' ho0 (Kd.Q_lt (rrQ HO_444002.out))) (Kd.R_lt (rrAT HO_444004.out))) (Kd.Q_lt (rrQ HO_444007.out))) (Kd.R_lt (rrAT HO_444009.out))) (below_size (bT HB))); have n7_ := Aside0.mk (blk_below (bkT BK443.out) hb); have n8_ := Aside0.mk (below_step (bT HB) hb); clear HO_444002 HO_444004 HO_444007 HO_444009 HO_444010 HO_444011 BK443 HB; have HO_444002 := n0_; have HO_444004 := n1_; have HO_444007 := n2_; have HO_444009 := n3_; have HO_444010 := n4_; have HO_444011 := n5_; have HO457 := n6_; have BK443 := n7_; have HB := n8_; clear n0_ n1_ n2_ n3_ n4_ n5_ n6_ n7_ n8_; obtain ⟨i0144,hi0144,_,hsz144,_⟩ := info_parts info9; obtain ⟨hcut144,hA144,hC144⟩ := print_take_of (P := Try.prog) Value.string (⟨#[]⟩ : ByteArray) 22 9 .i64 Try.underlying22 hi0144 hsz144 A0 c0 l0 (x444009_4.length : Int) (of_decide_eq_true (by first|(with_reducible assumption) | assumption)) (of_decide_eq_true (by first|(with_reducible assumption) | assumption)) HC0.out; have HR458 := Aside0.mk (Kd.C_of_reads (h1 := fun _ => rfl) (hA144 _ (Kd.reads_of_C HR0.out))); have HC458 := Aside0.mk hC144; clear hA144 hC144 hi0144 hsz144) | (go_at_call 62; (rw [show min x444009_4.length l0.length = (l0.take ((x444009_4.length : Int) : Int).toNat).length from (by rw [List.length_take,Int.toNat_natCast])]); (with_reducible refine (slices_Equal_string_string.calls k4 _ _ x444009_4 _ _ (l0.take ((x444009_4.length : Int) : Int).toNat) t459 _ ?side1 ?side2 ?side3 ?side4 A140.out).mono ?_); (case side1 => exact ccT ((Kd.R_reads' HO_444009.out).2.2)); (case side2 => exact (Kd.R_reads' HO_444009.out).2.1); (case side3 => exact ccT (Kd.C_below HR458.out HB.out)); (case side4 => exact HC458.out); rintro e w' ⟨rfl,⟨nd,rfl⟩⟩))
                go_ret2
                exact ⟨_,by first|rfl|(simp [errW_none,errW_some] <;> rfl)|(simp [*,errW_none,errW_some] <;> rfl),by (with_reducible repeat (first|apply Kd.R_alloc|apply Kd.R_drewN|apply Kd.R_drew)); exact Kd.R_mono HO457.out (fun _ hk => trivial),bT HB⟩
               ·
                rw [if_neg c138] at H
                exact absurd H (by simp)
              ·
               rw [if_neg c137] at H
               have c137b0 : decide ((x444009_4.length : Int) ≤ (l0.length : Int)) = false := decide_eq_false c137
               have c137b1 : decide (x444009_4.length ≤ l0.length) = false := decide_eq_false (fun h => c137 (Int.ofNat_le.mpr h))
               clear c137
               simp only [Option.some.injEq,Prod.mk.injEq] at H
               obtain ⟨rfl,rfl⟩ := H
               obtain ⟨_,_,_,_,_,_,_,_,_,_,_,_,_,_,_,_,_,_,_,_,_,_,_,_⟩ := cz12 BK443.out
               obtain ⟨Ao146,co146,eo146⟩ := Kd.R_slice HO_444009.out
               subst eo146
               go_wp2_with (first | ((with_reducible refine gate_callee (f := 61) rfl ?_); refine goesL_ (some 64) rfl rfl Try.func61 (by kernel_rfl) rfl #[.slice Ao146 x444009_4.length co146] rfl (by (try simp only [List.map_toArray,List.map_cons,List.map_nil]); first | done|rfl|(simp only [List.length_drop,List.length_take]; rfl)) ?_; (with_reducible refine (slices_Clone_string_string.calls _ _ x444009_4 t455 _ ?side1 ?side2 A136.out).mono ?_); (case side1 => exact ccT ((Kd.R_reads' HO_444009.out).2.2)); (case side2 => exact (Kd.R_reads' HO_444009.out).2.1); rintro e w147 ⟨v456,rfl,ho0,hb⟩; refine ⟨_,rfl,?_⟩; have n0_ := Aside0.mk (Kd.Q_elder' (rrQ HO_444002.out) (Kd.R_base ho0) hb); have n1_ := Aside0.mk (Kd.R_elder' (rrAT HO_444004.out) (Kd.R_base ho0) hb); have n2_ := Aside0.mk (Kd.Q_elder' (rrQ HO_444007.out) (Kd.R_base ho0) hb); have n3_ := Aside0.mk (Kd.R_elder' (rrAT HO_444009.out) (Kd.R_base ho0) hb); have n4_ := Aside0.mk (Kd.Q_below (rrQ HO_444010.out) hb); have n5_ := Aside0.mk (Kd.Q_below (rrQ HO_444011.out) hb); have n6_ := Aside0.mk (Kd.R_lower (Kd.R_new' (Kd.R_new' (Kd.R_new' (Kd.R_new' ho0 (Kd.Q_lt (rrQ HO_444002.out))) (Kd.R_lt (rrAT HO_444004.out))) (Kd.Q_lt (rrQ HO_444007.out))) (Kd.R_lt (rrAT HO_444009.out))) (below_size (bT HB))); have n7_ := Aside0.mk (blk_below (bkT BK443.out) hb); have n8_ := Aside0.mk (below_step (bT HB) hb); clear HO_444002 HO_444004 HO_444007 HO_444009 HO_444010 HO_444011 BK443 HB; have HO_444002 := n0_; have HO_444004 := n1_; have HO_444007 := n2_; have HO_444009 := n3_; have HO_444010 := n4_; have HO_444011 := n5_; have HO457 := n6_; have BK443 := n7_; have HB := n8_; clear n0_ n1_ n2_ n3_ n4_ n5_ n6_ n7_ n8_))
               go_ret2
               exact ⟨_,by first|rfl|(simp [errW_none,errW_some] <;> rfl)|(simp [*,errW_none,errW_some] <;> rfl),by (with_reducible repeat (first|apply Kd.R_alloc|apply Kd.R_drewN|apply Kd.R_drew)); exact Kd.R_mono HO457.out (fun _ hk => trivial),bT HB⟩


end Go.Proofs.Ytlidnobkkgcnlaa.PFnLinks
