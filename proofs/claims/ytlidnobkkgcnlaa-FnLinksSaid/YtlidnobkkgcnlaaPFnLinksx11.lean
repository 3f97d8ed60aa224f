-- Written by a program out of the translation,for this claim.
import Derived.Test.YtlidnobkkgcnlaaPFnLinksx0
namespace Go.Proofs.Ytlidnobkkgcnlaa.PFnLinks
open Go.RowKit Go.Proofs.YtlidnobkkgcnlaaW.PrintWords Go.Proofs.YtlidnobkkgcnlaaW.PrintLast Go.Proofs.YtlidnobkkgcnlaaW.PrintMore
attribute [local go_sem] max2_int min2_int max_two min_two max_three min_three max_four min_four   -- for this text's walks alone
set_option linter.unusedVariables false
set_option linter.unusedSimpArgs false

/-! ### spec_l06TalkOk: function 59 -/
mutual
def spec_l06TalkOk.j0 : Nat → List ByteArray → List Int → Bool → Option (Bool)
  | 0,_,_,_ => none
  | k + 1,x0,x1,x14 => if x14 = true then (some false) else (spec_l06TalkOk.l0 k x0 x1 0)
def spec_l06TalkOk.l0 : Nat → List ByteArray → List Int → Int → Option (Bool)
  | 0,_,_,_ => none
  | k + 1,x0,x1,x5 => if x5 < (x0.length : Int) then (if 0 ≤ x5 then (if ((rdOf ByteArray.empty x0 x5).size : Int) > 60 then (some false) else (spec_l06TalkOk.l0 k x0 x1 (wrap64 (x5 + 1)))) else (none)) else (spec_l06TalkOk.l1 k x1 0)
def spec_l06TalkOk.l1 : Nat → List Int → Int → Option (Bool)
  | 0,_,_ => none
  | k + 1,x1,x6 => if x6 < (x1.length : Int) then (if 0 ≤ x6 then (if (rd x1 x6) < 0 then (some false) else (spec_l06TalkOk.l1 k x1 (wrap64 (x6 + 1)))) else (none)) else (some true)
end
def spec_l06TalkOk.f (k : Nat) (l0 : List ByteArray) (l1 : List Int) : Option (Bool) := if (l0.length : Int) > 20 then (spec_l06TalkOk.j0 k l0 l1 true) else (spec_l06TalkOk.j0 k l0 l1 (decide ((l1.length : Int) > 200)))
theorem spec_l06TalkOk.mono_l : ∀ k,(∀ y0 y1 y2,LeO (spec_l06TalkOk.j0 k y0 y1 y2) (spec_l06TalkOk.j0 (k + 1) y0 y1 y2)) ∧ (∀ y0 y1 y2,LeO (spec_l06TalkOk.l0 k y0 y1 y2) (spec_l06TalkOk.l0 (k + 1) y0 y1 y2)) ∧ (∀ y0 y1,LeO (spec_l06TalkOk.l1 k y0 y1) (spec_l06TalkOk.l1 (k + 1) y0 y1))
  | 0 => ⟨fun _ _ _ r h => by simp [spec_l06TalkOk.j0] at h,fun _ _ _ r h => by simp [spec_l06TalkOk.l0] at h,fun _ _ r h => by simp [spec_l06TalkOk.l1] at h⟩
  | k + 1 => by
   obtain ⟨ih0,ih1,ih2⟩ := spec_l06TalkOk.mono_l k
   refine ⟨?_,?_,?_⟩
   ·
    intro y0 y1 y2
    unfold spec_l06TalkOk.j0
    repeat' first
   |(with_reducible exact ih0 _ _ _)
   |(with_reducible exact ih1 _ _ _)
   |(with_reducible exact ih2 _ _)
   |(with_reducible exact LeO.refl _)
   |(with_reducible exact LeO.none _)
   |(with_reducible refine LeO.ite ?_ ?_)
   |(with_reducible refine LeO.bind ?_ (fun _ => ?_))
   |exact ih0 _ _ _
   |exact ih1 _ _ _
   |exact ih2 _ _
   |exact LeO.none _
   |refine LeO.ite ?_ ?_
   |refine LeO.bind ?_ (fun _ => ?_)
   ·
    intro y0 y1 y2
    unfold spec_l06TalkOk.l0
    repeat' first
   |(with_reducible exact ih0 _ _ _)
   |(with_reducible exact ih1 _ _ _)
   |(with_reducible exact ih2 _ _)
   |(with_reducible exact LeO.refl _)
   |(with_reducible exact LeO.none _)
   |(with_reducible refine LeO.ite ?_ ?_)
   |(with_reducible refine LeO.bind ?_ (fun _ => ?_))
   |exact ih0 _ _ _
   |exact ih1 _ _ _
   |exact ih2 _ _
   |exact LeO.none _
   |refine LeO.ite ?_ ?_
   |refine LeO.bind ?_ (fun _ => ?_)
   ·
    intro y0 y1
    unfold spec_l06TalkOk.l1
    repeat' first
   |(with_reducible exact ih0 _ _ _)
   |(with_reducible exact ih1 _ _ _)
   |(with_reducible exact ih2 _ _)
   |(with_reducible exact LeO.refl _)
   |(with_reducible exact LeO.none _)
   |(with_reducible refine LeO.ite ?_ ?_)
   |(with_reducible refine LeO.bind ?_ (fun _ => ?_))
   |exact ih0 _ _ _
   |exact ih1 _ _ _
   |exact ih2 _ _
   |exact LeO.none _
   |refine LeO.ite ?_ ?_
   |refine LeO.bind ?_ (fun _ => ?_)
theorem spec_l06TalkOk.mono : ∀ a0 a1 k,LeO (spec_l06TalkOk.f k a0 a1) (spec_l06TalkOk.f (k + 1) a0 a1) := by
  intro a0 a1 k
  obtain ⟨ih0,ih1,ih2⟩ := spec_l06TalkOk.mono_l k
  unfold spec_l06TalkOk.f
  repeat' first
   |(with_reducible exact ih0 _ _ _)
   |(with_reducible exact ih1 _ _ _)
   |(with_reducible exact ih2 _ _)
   |(with_reducible exact LeO.refl _)
   |(with_reducible exact LeO.none _)
   |(with_reducible refine LeO.ite ?_ ?_)
   |(with_reducible refine LeO.bind ?_ (fun _ => ?_))
   |exact ih0 _ _ _
   |exact ih1 _ _ _
   |exact ih2 _ _
   |exact LeO.none _
   |refine LeO.ite ?_ ?_
   |refine LeO.bind ?_ (fun _ => ?_)
set_option maxHeartbeats 8000000 in
set_option maxRecDepth 100000 in
theorem spec_l06TalkOk.calls (k : Nat) (A0 : Option Addr) (c0 : Nat) (l0 : List ByteArray) (A1 : Option Addr) (c1 : Nat) (l1 : List Int) (r : Bool) (w : World) (hr0 : Kd.C Kd.string w A0 l0.length l0) (hc0 : l0.length ≤ c0) (hr1 : Kd.C (Kd.int .i64) w A1 l1.length l1) (hc1 : l1.length ≤ c1) (h : spec_l06TalkOk.f k l0 l1 = some r) :
   Calls Try.prog 59 #[.slice A0 l0.length c0,.slice A1 l1.length c1] w fun e w' => e = .returned (.bool r) ∧ Drawn0 w w' := by
  have HR0 := Aside0.mk hr0
  have HC0 := Aside0.mk hc0
  clear hr0 hc0
  have HR1 := Aside0.mk hr1
  have HC1 := Aside0.mk hc1
  clear hr1 hc1
  have H : (if (l0.length : Int) > 20 then (spec_l06TalkOk.j0 k l0 l1 true) else (spec_l06TalkOk.j0 k l0 l1 (decide ((l1.length : Int) > 200)))) = some r := h
  clear h
  have HC3 := Aside0.mk H
  clear H
  go_enter Try.func59,Try.ntmps59
  go_upto_region 1 with (fail)
  go_cut [14] (fun v14 wc => ∃ (kq : Nat) (x14_2 : Bool),v14 = .bool x14_2 ∧ Aside0 (spec_l06TalkOk.j0 kq l0 l1 x14_2 = some r) ∧ Aside0 (kq ≤ k) ∧ Drawn0 w wc)
  case first =>
   have H := HC3.out
   clear HC3
   by_cases c4 : (l0.length : Int) > 20
   ·
    rw [if_pos c4] at H
    have c4b0 : decide (20 < (l0.length : Int)) = true := decide_eq_true c4
    have c4b1 : decide (20 < l0.length) = true := decide_eq_true (by omega)
    clear c4
    (first | rw [c4b0]|(simp only [i64_w,i32_w]; rw [c4b0])|skip)
    have H' := Aside0.mk H
    clear H; go_wp2
    go_meet
    case rel => exact ⟨_,(true),(by first|rfl|(simp; done)|(simp [*]; done)),H',⟨by first|omega|exact Nat.le_refl _⟩,by repeat (first|exact Drawn0.refl _|apply Drawn0.step)⟩
   ·
    rw [if_neg c4] at H
    have c4b0 : decide (20 < (l0.length : Int)) = false := decide_eq_false c4
    have c4b1 : decide (20 < l0.length) = false := decide_eq_false (by omega)
    clear c4
    (first | rw [c4b0]|(simp only [i64_w,i32_w]; rw [c4b0])|skip)
    have H' := Aside0.mk H
    clear H; go_wp2
    go_meet
    case rel => exact ⟨_,(decide ((l1.length : Int) > 200)),(by first|rfl|(simp; done)|(simp [*]; done)),H',⟨by first|omega|exact Nat.le_refl _⟩,by repeat (first|exact Drawn0.refl _|apply Drawn0.step)⟩
  case rest =>
   clear HC3
   obtain ⟨kq,x14_2,rfl,HA,HJ2,⟨mc2,rfl⟩⟩ := hcut
   cases kq with
   | zero => exact absurd HA.out (by simp [spec_l06TalkOk.j0])
   | succ kj2 =>
    have H := HA.out
    clear HA
    simp only [spec_l06TalkOk.j0] at H
    by_cases c5 : x14_2 = true
    ·
     subst c5
     have H1 : (some false) = some r := by rw [if_pos rfl] at H; exact H
     clear H; have H := H1; clear H1
     obtain rfl := Option.some.inj H
     go_wp2
     go_ret
     exact ⟨by first|rfl|(simp; done)|(simp [*]; done),by repeat (first|exact Drawn0.refl _|apply Drawn0.step)⟩
    ·
     replace c5 := Bool.eq_false_iff.mpr c5
     subst c5
     have H1 : (spec_l06TalkOk.l0 kj2 l0 l1 0) = some r := by rw [if_neg (show ¬ (false = true) by decide)] at H; exact H
     clear H; have H := H1; clear H1
     have H' := Aside0.mk H
     clear H; go_wp2
     go_loopg [5] kj2 (fun kq v5 w' => ∃ (x5_2 : Int),v5 = .int .i64 x5_2 ∧ Aside0 (spec_l06TalkOk.l0 kq l0 l1 x5_2 = some r) ∧ Aside0 (kq ≤ kj2) ∧ Drawn0 w w')
     case atStart => exact ⟨(0),(by first|rfl|(simp; done)|(simp [*]; done)),H',⟨Nat.le_refl _⟩,by repeat (first|exact Drawn0.refl _|apply Drawn0.step)⟩
     case round =>
      clear H'
      obtain ⟨x5_2,rfl,HA,HK2,⟨m2,rfl⟩⟩ := hrel
      cases gk with
      | zero => exact absurd HA.out (by simp [spec_l06TalkOk.l0])
      | succ k2 =>
       have H := HA.out
       clear HA
       simp only [spec_l06TalkOk.l0] at H
       by_cases c6 : x5_2 < (l0.length : Int)
       ·
        rw [if_pos c6] at H
        have c6b0 : decide (x5_2 < (l0.length : Int)) = true := decide_eq_true c6
        clear c6
        by_cases c7 : 0 ≤ x5_2
        ·
         rw [if_pos c7] at H
         have c7b0 : decide (0 ≤ x5_2) = true := decide_eq_true c7
         clear c7
         by_cases c8 : ((rdOf ByteArray.empty l0 x5_2).size : Int) > 60
         ·
          rw [if_pos c8] at H
          have c8b0 : decide (60 < ((rdOf ByteArray.empty l0 x5_2).size : Int)) = true := decide_eq_true c8
          have c8b1 : decide (60 < (rdOf ByteArray.empty l0 x5_2).size) = true := decide_eq_true (by omega)
          clear c8
          obtain rfl := Option.some.inj H
          have p276 : 0 ≤ (x5_2 : Int) := of_decide_eq_true (by first|(with_reducible assumption) | assumption)
          have q276 : x5_2 < (l0.length : Int) := of_decide_eq_true (by first|(with_reducible assumption) | assumption)
          obtain ⟨ad276,e276,hx276_0⟩ := Kd.at_string HR0.out x5_2 p276 q276
          cases e276
          replace p276 := eq_true p276
          replace q276 := eq_true q276
          go_wp2
          go_ret
          exact ⟨by first|rfl|(simp; done)|(simp [*]; done),by repeat (first|exact Drawn0.refl _|apply Drawn0.step)⟩
         ·
          rw [if_neg c8] at H
          have c8b0 : decide (60 < ((rdOf ByteArray.empty l0 x5_2).size : Int)) = false := decide_eq_false c8
          have c8b1 : decide (60 < (rdOf ByteArray.empty l0 x5_2).size) = false := decide_eq_false (by omega)
          clear c8
          have H' := Aside0.mk H
          clear H
          have p276 : 0 ≤ (x5_2 : Int) := of_decide_eq_true (by first|(with_reducible assumption) | assumption)
          have q276 : x5_2 < (l0.length : Int) := of_decide_eq_true (by first|(with_reducible assumption) | assumption)
          obtain ⟨ad276,e276,hx276_0⟩ := Kd.at_string HR0.out x5_2 p276 q276
          cases e276
          replace p276 := eq_true p276
          replace q276 := eq_true q276
          go_wp2
          go_roundg k2
          case measure => have := HJ2.out; have := HK2.out; omega
          case rel => exact ⟨(wrap64 (x5_2 + 1)),(by first|rfl|(simp; done)|(simp [*]; done)),H',⟨by have := HJ2.out; have := HK2.out; omega⟩,by repeat (first|exact Drawn0.refl _|apply Drawn0.step)⟩
        ·
         rw [if_neg c7] at H
         exact absurd H (by simp)
       ·
        rw [if_neg c6] at H
        have c6b0 : decide (x5_2 < (l0.length : Int)) = false := decide_eq_false c6
        clear c6
        have H' := Aside0.mk H
        clear H; go_wp2
        go_loopg [6] k2 (fun kq v6 w' => ∃ (x6_3 : Int),v6 = .int .i64 x6_3 ∧ Aside0 (spec_l06TalkOk.l1 kq l1 x6_3 = some r) ∧ Aside0 (kq ≤ k2) ∧ Drawn0 w w')
        case atStart => exact ⟨(0),(by first|rfl|(simp; done)|(simp [*]; done)),H',⟨Nat.le_refl _⟩,by repeat (first|exact Drawn0.refl _|apply Drawn0.step)⟩
        case round =>
         clear H'
         obtain ⟨x6_3,rfl,HA,HK3,⟨m3,rfl⟩⟩ := hrel
         cases gk with
         | zero => exact absurd HA.out (by simp [spec_l06TalkOk.l1])
         | succ k3 =>
          have H := HA.out
          clear HA
          simp only [spec_l06TalkOk.l1] at H
          by_cases c9 : x6_3 < (l1.length : Int)
          ·
           rw [if_pos c9] at H
           have c9b0 : decide (x6_3 < (l1.length : Int)) = true := decide_eq_true c9
           clear c9
           by_cases c10 : 0 ≤ x6_3
           ·
            rw [if_pos c10] at H
            have c10b0 : decide (0 ≤ x6_3) = true := decide_eq_true c10
            clear c10
            by_cases c11 : (rd l1 x6_3) < 0
            ·
             rw [if_pos c11] at H
             have c11b0 : decide ((rd l1 x6_3) < 0) = true := decide_eq_true c11
             clear c11
             obtain rfl := Option.some.inj H
             have p277 : 0 ≤ (x6_3 : Int) := of_decide_eq_true (by first|(with_reducible assumption) | assumption)
             have q277 : x6_3 < (l1.length : Int) := of_decide_eq_true (by first|(with_reducible assumption) | assumption)
             obtain ⟨ad277,e277,hx277_0⟩ := Kd.at_int HR1.out x6_3 p277 q277
             cases e277
             replace p277 := eq_true p277
             replace q277 := eq_true q277
             go_wp2
             go_ret
             exact ⟨by first|rfl|(simp; done)|(simp [*]; done),by repeat (first|exact Drawn0.refl _|apply Drawn0.step)⟩
            ·
             rw [if_neg c11] at H
             have c11b0 : decide ((rd l1 x6_3) < 0) = false := decide_eq_false c11
             clear c11
             have H' := Aside0.mk H
             clear H
             have p277 : 0 ≤ (x6_3 : Int) := of_decide_eq_true (by first|(with_reducible assumption) | assumption)
             have q277 : x6_3 < (l1.length : Int) := of_decide_eq_true (by first|(with_reducible assumption) | assumption)
             obtain ⟨ad277,e277,hx277_0⟩ := Kd.at_int HR1.out x6_3 p277 q277
             cases e277
             replace p277 := eq_true p277
             replace q277 := eq_true q277
             go_wp2
             go_roundg k3
             case measure => have := HJ2.out; have := HK2.out; have := HK3.out; omega
             case rel => exact ⟨(wrap64 (x6_3 + 1)),(by first|rfl|(simp; done)|(simp [*]; done)),H',⟨by have := HJ2.out; have := HK2.out; have := HK3.out; omega⟩,by repeat (first|exact Drawn0.refl _|apply Drawn0.step)⟩
           ·
            rw [if_neg c10] at H
            exact absurd H (by simp)
          ·
           rw [if_neg c9] at H
           have c9b0 : decide (x6_3 < (l1.length : Int)) = false := decide_eq_false c9
           clear c9
           obtain rfl := Option.some.inj H
           go_wp2
           go_ret
           exact ⟨by first|rfl|(simp; done)|(simp [*]; done),by repeat (first|exact Drawn0.refl _|apply Drawn0.step)⟩

end Go.Proofs.Ytlidnobkkgcnlaa.PFnLinks
