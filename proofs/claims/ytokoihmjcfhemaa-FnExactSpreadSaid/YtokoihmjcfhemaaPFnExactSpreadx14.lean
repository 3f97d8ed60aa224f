-- Written by a program out of the translation, for this claim.
import Derived.Test.YtokoihmjcfhemaaPFnExactSpreadx0
namespace Go.Proofs.Ytokoihmjcfhemaa.PFnExactSpread
open Go.RowKit Go.Proofs.YtokoihmjcfhemaaW.PrintWords Go.Proofs.YtokoihmjcfhemaaW.PrintLast Go.Proofs.YtokoihmjcfhemaaW.PrintMore
attribute [local go_sem] max2_int min2_int max_two min_two max_three min_three max_four min_four   -- for this text's walks alone
set_option linter.unusedVariables false
set_option linter.unusedSimpArgs false

/-! ### spec_l07Lost: function 44 -/
mutual
def spec_l07Lost.l0 : Nat → List (List Int) → Int → Int → Int → Option (Bool)
  | 0, _, _, _, _ => none
  | k + 1, x0, x1, x2, x7 => if x7 < (x0.length : Int) then (if 0 ≤ x7 then (if ((rd_L3 x0 x7).length : Int) = 2 then (if 0 < ((rd_L3 x0 x7).length : Int) then (if (rd (rd_L3 x0 x7) 0) = x1 then (if 1 < ((rd_L3 x0 x7).length : Int) then (spec_l07Lost.j1 k x0 x1 x2 x7 ((rd (rd_L3 x0 x7) 1) == x2)) else (none)) else (spec_l07Lost.j1 k x0 x1 x2 x7 false)) else (none)) else (spec_l07Lost.j1 k x0 x1 x2 x7 false)) else (none)) else (some false)
def spec_l07Lost.j1 : Nat → List (List Int) → Int → Int → Int → Bool → Option (Bool)
  | 0, _, _, _, _, _ => none
  | k + 1, x0, x1, x2, x7, x39 => if x39 = true then (some true) else (spec_l07Lost.l0 k x0 x1 x2 (wrap64 (x7 + 1)))
end
def spec_l07Lost.f (k : Nat) (l0 : List (List Int)) (a1 : Int) (a2 : Int) : Option (Bool) := spec_l07Lost.l0 k l0 a1 a2 0
theorem spec_l07Lost.mono_l : ∀ k, (∀ y0 y1 y2 y3, LeO (spec_l07Lost.l0 k y0 y1 y2 y3) (spec_l07Lost.l0 (k + 1) y0 y1 y2 y3)) ∧ (∀ y0 y1 y2 y3 y4, LeO (spec_l07Lost.j1 k y0 y1 y2 y3 y4) (spec_l07Lost.j1 (k + 1) y0 y1 y2 y3 y4))
  | 0 => ⟨fun _ _ _ _ r h => by simp [spec_l07Lost.l0] at h, fun _ _ _ _ _ r h => by simp [spec_l07Lost.j1] at h⟩
  | k + 1 => by
    obtain ⟨ih0, ih1⟩ := spec_l07Lost.mono_l k
    refine ⟨?_, ?_⟩
    · intro y0 y1 y2 y3
      unfold spec_l07Lost.l0
      repeat' first
      | (with_reducible exact ih0 _ _ _ _)
      | (with_reducible exact ih1 _ _ _ _ _)
      | (with_reducible exact LeO.refl _)
      | (with_reducible exact LeO.none _)
      | (with_reducible refine LeO.ite ?_ ?_)
      | (with_reducible refine LeO.bind ?_ (fun _ => ?_))
      | exact ih0 _ _ _ _
      | exact ih1 _ _ _ _ _
      | exact LeO.none _
      | refine LeO.ite ?_ ?_
      | refine LeO.bind ?_ (fun _ => ?_)
    · intro y0 y1 y2 y3 y4
      unfold spec_l07Lost.j1
      repeat' first
      | (with_reducible exact ih0 _ _ _ _)
      | (with_reducible exact ih1 _ _ _ _ _)
      | (with_reducible exact LeO.refl _)
      | (with_reducible exact LeO.none _)
      | (with_reducible refine LeO.ite ?_ ?_)
      | (with_reducible refine LeO.bind ?_ (fun _ => ?_))
      | exact ih0 _ _ _ _
      | exact ih1 _ _ _ _ _
      | exact LeO.none _
      | refine LeO.ite ?_ ?_
      | refine LeO.bind ?_ (fun _ => ?_)
theorem spec_l07Lost.mono : ∀ a0 a1 a2 k, LeO (spec_l07Lost.f k a0 a1 a2) (spec_l07Lost.f (k + 1) a0 a1 a2) := by
  intro a0 a1 a2 k
  obtain ⟨ih0, ih1⟩ := spec_l07Lost.mono_l k
  unfold spec_l07Lost.f
  repeat' first
      | (with_reducible exact ih0 _ _ _ _)
      | (with_reducible exact ih1 _ _ _ _ _)
      | (with_reducible exact LeO.refl _)
      | (with_reducible exact LeO.none _)
      | (with_reducible refine LeO.ite ?_ ?_)
      | (with_reducible refine LeO.bind ?_ (fun _ => ?_))
      | exact ih0 _ _ _ _
      | exact ih1 _ _ _ _ _
      | exact LeO.none _
      | refine LeO.ite ?_ ?_
      | refine LeO.bind ?_ (fun _ => ?_)
set_option maxHeartbeats 8000000 in
set_option maxRecDepth 100000 in
theorem spec_l07Lost.calls (k : Nat) (A0 : Option Addr) (c0 : Nat) (l0 : List (List Int)) (a1 : Int) (a2 : Int) (r : Bool) (w : World) (hr0 : Kd.C (Kd.slice 3 (Kd.int .i64)) w A0 l0.length l0) (hc0 : l0.length ≤ c0) (h : spec_l07Lost.f k l0 a1 a2 = some r) :
    Calls Try.prog 44 #[.slice A0 l0.length c0, .int .i64 a1, .int .i64 a2] w fun e w' => e = .returned (.bool r) ∧ Drawn0 w w' := by
  have HR0 := Aside0.mk hr0
  have HC0 := Aside0.mk hc0
  clear hr0 hc0
  have H : (spec_l07Lost.l0 k l0 a1 a2 0) = some r := h
  clear h
  have H' := Aside0.mk H
  clear H
  go_enter Try.func44, Try.ntmps44
  go_wp2
  go_loopg [7] k (fun kq v7 w' => ∃ (x7_1 : Int), v7 = .int .i64 x7_1 ∧ Aside0 (spec_l07Lost.l0 kq l0 a1 a2 x7_1 = some r) ∧ Aside0 (kq ≤ k) ∧ Drawn0 w w')
  case atStart => exact ⟨(0), (by first | rfl | (simp; done) | (simp [*]; done)), H', ⟨Nat.le_refl _⟩, by repeat (first | exact Drawn0.refl _ | apply Drawn0.step)⟩
  case round =>
    clear H'
    try clear p2
    obtain ⟨x7_1, rfl, HA, HK1, ⟨m1, rfl⟩⟩ := hrel
    cases gk with
    | zero => exact absurd HA.out (by simp [spec_l07Lost.l0])
    | succ k1 =>
      have H := HA.out
      clear HA
      simp only [spec_l07Lost.l0] at H
      by_cases c4 : x7_1 < (l0.length : Int)
      · rw [if_pos c4] at H
        have c4b0 : decide (x7_1 < (l0.length : Int)) = true := decide_eq_true c4
        clear c4
        have HC5 := Aside0.mk H
        clear H
        go_upto_region 4 with (fail)
        go_cut [39] (fun v39 wc => ∃ (kq : Nat) (x39_4 : Bool), v39 = .bool x39_4 ∧ Aside0 (spec_l07Lost.j1 kq l0 a1 a2 x7_1 x39_4 = some r) ∧ Aside0 (kq ≤ k1) ∧ Drawn0 w wc)
        case first =>
          have H := HC5.out
          clear HC5
          by_cases c6 : 0 ≤ x7_1
          · rw [if_pos c6] at H
            have c6b0 : decide (0 ≤ x7_1) = true := decide_eq_true c6
            clear c6
            (first | rw [c6b0] | (simp only [i64_w, i32_w]; rw [c6b0]) | skip)
            by_cases c7 : ((rd_L3 l0 x7_1).length : Int) = 2
            · rw [if_pos c7] at H
              have c7b0 : (((rd_L3 l0 x7_1).length : Int) == 2) = true := beq_iff_eq.mpr c7
              have c7b1 : (((rd_L3 l0 x7_1).length : Int) != 2) = false := bne_eq_false_iff_eq.mpr c7
              clear c7
              by_cases c8 : 0 < ((rd_L3 l0 x7_1).length : Int)
              · rw [if_pos c8] at H
                have c8b0 : decide (0 < ((rd_L3 l0 x7_1).length : Int)) = true := decide_eq_true c8
                have c8b1 : decide (0 < (rd_L3 l0 x7_1).length) = true := decide_eq_true (by omega)
                clear c8
                by_cases c9 : (rd (rd_L3 l0 x7_1) 0) = a1
                · rw [if_pos c9] at H
                  have c9b0 : ((rd (rd_L3 l0 x7_1) 0) == a1) = true := beq_iff_eq.mpr c9
                  have c9b1 : ((rd (rd_L3 l0 x7_1) 0) != a1) = false := bne_eq_false_iff_eq.mpr c9
                  clear c9
                  by_cases c10 : 1 < ((rd_L3 l0 x7_1).length : Int)
                  · rw [if_pos c10] at H
                    have c10b0 : decide (1 < ((rd_L3 l0 x7_1).length : Int)) = true := decide_eq_true c10
                    have c10b1 : decide (1 < (rd_L3 l0 x7_1).length) = true := decide_eq_true (by omega)
                    clear c10
                    have H' := Aside0.mk H
                    clear H
                    have p180 : 0 ≤ (x7_1 : Int) := of_decide_eq_true (by first | (with_reducible assumption) | assumption)
                    have q180 : x7_1 < (l0.length : Int) := of_decide_eq_true (by first | (with_reducible assumption) | assumption)
                    obtain ⟨ad180, A180_0, c180_0, e180, hx180_0, hl180_0, hi180_0⟩ := at_L3 HR0.out x7_1 p180 q180
                    cases e180
                    have HR180_0 := Aside0.mk hi180_0
                    have HC180_0 := Aside0.mk hl180_0
                    clear hi180_0 hl180_0
                    replace p180 := eq_true p180
                    replace q180 := eq_true q180
                    have p181 : 0 ≤ (x7_1 : Int) := of_decide_eq_true (by first | (with_reducible assumption) | assumption)
                    have q181 : x7_1 < (l0.length : Int) := of_decide_eq_true (by first | (with_reducible assumption) | assumption)
                    obtain ⟨ad181, A181_0, c181_0, e181, hx181_0, hl181_0, hi181_0⟩ := at_L3 HR0.out x7_1 p181 q181
                    obtain rfl : ad180 = ad181 := (by injection e181)
                    have HR181_0 := Aside0.mk hi181_0
                    have HC181_0 := Aside0.mk hl181_0
                    clear hi181_0 hl181_0
                    replace p181 := eq_true p181
                    replace q181 := eq_true q181
                    have ea_ := Option.some.inj (hx180_0.symm.trans hx181_0)
                    injection ea_ with ea_ en_ ec_
                    subst ea_
                    subst ec_
                    clear en_
                    have p182 : 0 ≤ (0 : Int) := (by omega)
                    have q182 : 0 < ((rd_L3 l0 x7_1).length : Int) := of_decide_eq_true (by first | (with_reducible assumption) | assumption)
                    obtain ⟨ad182, e182, hx182_0⟩ := Kd.at_int HR181_0.out 0 p182 q182
                    cases e182
                    have qi182 : (0 < (rd_L3 l0 x7_1).length) = True := eq_true (by omega)
                    (try rw [show ((0 : Int)).toNat = 0 from rfl] at hx182_0)
                    (try rw [Addr.add_zero'] at hx182_0)
                    replace p182 := eq_true p182
                    replace q182 := eq_true q182
                    have p183 : 0 ≤ (x7_1 : Int) := of_decide_eq_true (by first | (with_reducible assumption) | assumption)
                    have q183 : x7_1 < (l0.length : Int) := of_decide_eq_true (by first | (with_reducible assumption) | assumption)
                    obtain ⟨ad183, A183_0, c183_0, e183, hx183_0, hl183_0, hi183_0⟩ := at_L3 HR0.out x7_1 p183 q183
                    obtain rfl : ad180 = ad183 := (by injection e183)
                    have HR183_0 := Aside0.mk hi183_0
                    have HC183_0 := Aside0.mk hl183_0
                    clear hi183_0 hl183_0
                    replace p183 := eq_true p183
                    replace q183 := eq_true q183
                    have ea_ := Option.some.inj (hx180_0.symm.trans hx183_0)
                    injection ea_ with ea_ en_ ec_
                    subst ea_
                    subst ec_
                    clear en_
                    have p184 : 0 ≤ (1 : Int) := (by omega)
                    have q184 : 1 < ((rd_L3 l0 x7_1).length : Int) := of_decide_eq_true (by first | (with_reducible assumption) | assumption)
                    obtain ⟨ad184, e184, hx184_0⟩ := Kd.at_int HR183_0.out 1 p184 q184
                    cases e184
                    (try simp only [show (1 : Int).toNat = 1 from rfl, Nat.reduceMul, Nat.reduceEqDiff, Go.Addr.add, ↓reduceIte] at hx184_0)
                    have qi184 : (1 < (rd_L3 l0 x7_1).length) = True := eq_true (by omega)
                    (try rw [show ((1 : Int)).toNat = 1 from rfl] at hx184_0)
                    replace p184 := eq_true p184
                    replace q184 := eq_true q184
                    go_wp2
                    go_meet
                    case rel => exact ⟨_, (((rd (rd_L3 l0 x7_1) 1) == a2)), (by first | rfl | (simp; done) | (simp [*]; done)), H', ⟨by have := HK1.out; first | omega | exact Nat.le_refl _⟩, by repeat (first | exact Drawn0.refl _ | apply Drawn0.step)⟩
                  · rw [if_neg c10] at H
                    exact absurd H (by simp)
                · rw [if_neg c9] at H
                  have c9b0 : ((rd (rd_L3 l0 x7_1) 0) == a1) = false := beq_eq_false_iff_ne.mpr c9
                  have c9b1 : ((rd (rd_L3 l0 x7_1) 0) != a1) = true := bne_iff_ne.mpr c9
                  have H' := Aside0.mk H
                  clear H
                  have p180 : 0 ≤ (x7_1 : Int) := of_decide_eq_true (by first | (with_reducible assumption) | assumption)
                  have q180 : x7_1 < (l0.length : Int) := of_decide_eq_true (by first | (with_reducible assumption) | assumption)
                  obtain ⟨ad180, A180_0, c180_0, e180, hx180_0, hl180_0, hi180_0⟩ := at_L3 HR0.out x7_1 p180 q180
                  cases e180
                  have HR180_0 := Aside0.mk hi180_0
                  have HC180_0 := Aside0.mk hl180_0
                  clear hi180_0 hl180_0
                  replace p180 := eq_true p180
                  replace q180 := eq_true q180
                  have p181 : 0 ≤ (x7_1 : Int) := of_decide_eq_true (by first | (with_reducible assumption) | assumption)
                  have q181 : x7_1 < (l0.length : Int) := of_decide_eq_true (by first | (with_reducible assumption) | assumption)
                  obtain ⟨ad181, A181_0, c181_0, e181, hx181_0, hl181_0, hi181_0⟩ := at_L3 HR0.out x7_1 p181 q181
                  obtain rfl : ad180 = ad181 := (by injection e181)
                  have HR181_0 := Aside0.mk hi181_0
                  have HC181_0 := Aside0.mk hl181_0
                  clear hi181_0 hl181_0
                  replace p181 := eq_true p181
                  replace q181 := eq_true q181
                  have ea_ := Option.some.inj (hx180_0.symm.trans hx181_0)
                  injection ea_ with ea_ en_ ec_
                  subst ea_
                  subst ec_
                  clear en_
                  have p182 : 0 ≤ (0 : Int) := (by omega)
                  have q182 : 0 < ((rd_L3 l0 x7_1).length : Int) := of_decide_eq_true (by first | (with_reducible assumption) | assumption)
                  obtain ⟨ad182, e182, hx182_0⟩ := Kd.at_int HR181_0.out 0 p182 q182
                  cases e182
                  have qi182 : (0 < (rd_L3 l0 x7_1).length) = True := eq_true (by omega)
                  (try rw [show ((0 : Int)).toNat = 0 from rfl] at hx182_0)
                  (try rw [Addr.add_zero'] at hx182_0)
                  replace p182 := eq_true p182
                  replace q182 := eq_true q182
                  go_wp2
                  go_meet
                  case rel => exact ⟨_, (false), (by first | rfl | (simp; done) | (simp [*]; done)), H', ⟨by have := HK1.out; first | omega | exact Nat.le_refl _⟩, by repeat (first | exact Drawn0.refl _ | apply Drawn0.step)⟩
              · rw [if_neg c8] at H
                exact absurd H (by simp)
            · rw [if_neg c7] at H
              have c7b0 : (((rd_L3 l0 x7_1).length : Int) == 2) = false := beq_eq_false_iff_ne.mpr c7
              have c7b1 : (((rd_L3 l0 x7_1).length : Int) != 2) = true := bne_iff_ne.mpr c7
              have H' := Aside0.mk H
              clear H
              have p180 : 0 ≤ (x7_1 : Int) := of_decide_eq_true (by first | (with_reducible assumption) | assumption)
              have q180 : x7_1 < (l0.length : Int) := of_decide_eq_true (by first | (with_reducible assumption) | assumption)
              obtain ⟨ad180, A180_0, c180_0, e180, hx180_0, hl180_0, hi180_0⟩ := at_L3 HR0.out x7_1 p180 q180
              cases e180
              have HR180_0 := Aside0.mk hi180_0
              have HC180_0 := Aside0.mk hl180_0
              clear hi180_0 hl180_0
              replace p180 := eq_true p180
              replace q180 := eq_true q180
              go_wp2
              go_meet
              case rel => exact ⟨_, (false), (by first | rfl | (simp; done) | (simp [*]; done)), H', ⟨by have := HK1.out; first | omega | exact Nat.le_refl _⟩, by repeat (first | exact Drawn0.refl _ | apply Drawn0.step)⟩
          · rw [if_neg c6] at H
            exact absurd H (by simp)
        case rest =>
          clear HC5
          try clear c1
          try clear p1
          try clear q1
          try clear hx1
          try clear qi1
          try clear p2
          try clear c4
          try clear c4b0
          try clear c6
          try clear c6b0
          try clear c7
          try clear c7b0
          try clear c7b1
          try clear c8
          try clear c8b0
          try clear c8b1
          try clear c9
          try clear c9b0
          try clear c9b1
          try clear c10
          try clear c10b0
          try clear c10b1
          try clear hx180_0
          try clear hx181_0
          try clear hx182_0
          try clear hx183_0
          try clear hx184_0
          try clear p180
          try clear p181
          try clear p182
          try clear p183
          try clear p184
          try clear p2
          try clear q180
          try clear q181
          try clear q182
          try clear q183
          try clear q184
          obtain ⟨kq, x39_4, rfl, HA, HJ4, ⟨mc4, rfl⟩⟩ := hcut
          cases kq with
          | zero => exact absurd HA.out (by simp [spec_l07Lost.j1])
          | succ kj4 =>
            have H := HA.out
            clear HA
            simp only [spec_l07Lost.j1] at H
            by_cases c11 : x39_4 = true
            · subst c11
              have H1 : (some true) = some r := by rw [if_pos rfl] at H; exact H
              clear H
              have H := H1
              clear H1
              obtain rfl := Option.some.inj H
              go_wp2
              go_ret
              exact ⟨by first | rfl | (simp; done) | (simp [*]; done), by repeat (first | exact Drawn0.refl _ | apply Drawn0.step)⟩
            · replace c11 := Bool.eq_false_iff.mpr c11
              subst c11
              have H1 : (spec_l07Lost.l0 kj4 l0 a1 a2 (wrap64 (x7_1 + 1))) = some r := by rw [if_neg (show ¬ (false = true) by decide)] at H; exact H
              clear H
              have H := H1
              clear H1
              have H' := Aside0.mk H
              clear H
              go_wp2
              go_roundg kj4
              case measure => have := HK1.out; have := HJ4.out; omega
              case rel => exact ⟨(wrap64 (x7_1 + 1)), (by first | rfl | (simp; done) | (simp [*]; done)), H', ⟨by have := HK1.out; have := HJ4.out; omega⟩, by repeat (first | exact Drawn0.refl _ | apply Drawn0.step)⟩
      · rw [if_neg c4] at H
        have c4b0 : decide (x7_1 < (l0.length : Int)) = false := decide_eq_false c4
        clear c4
        obtain rfl := Option.some.inj H
        go_wp2
        go_ret
        exact ⟨by first | rfl | (simp; done) | (simp [*]; done), by repeat (first | exact Drawn0.refl _ | apply Drawn0.step)⟩

end Go.Proofs.Ytokoihmjcfhemaa.PFnExactSpread
