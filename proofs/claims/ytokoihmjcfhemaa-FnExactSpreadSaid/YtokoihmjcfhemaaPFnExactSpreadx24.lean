-- Written by a program out of the translation,for this claim.
import Derived.Test.YtokoihmjcfhemaaPFnExactSpreadx0
import Derived.Test.YtokoihmjcfhemaaPFnExactSpreadx20
import Derived.Test.YtokoihmjcfhemaaPFnExactSpreadx21
import Derived.Test.YtokoihmjcfhemaaPFnExactSpreadx22
import Derived.Test.YtokoihmjcfhemaaPFnExactSpreadx23
namespace Go.Proofs.Ytokoihmjcfhemaa.PFnExactSpread
open Go.RowKit Go.Proofs.YtokoihmjcfhemaaW.PrintWords Go.Proofs.YtokoihmjcfhemaaW.PrintLast Go.Proofs.YtokoihmjcfhemaaW.PrintMore
attribute [local go_sem] max2_int min2_int max_two min_two max_three min_three max_four min_four   -- for this text's walks alone
set_option linter.unusedVariables false
set_option linter.unusedSimpArgs false
theorem rrA24 {p q : Prop} (h : p) (f : p → q := by (intro h_; (with_reducible repeat (first | apply Kd.R_alloc | apply Kd.R_drewN | apply Kd.R_drew)); exact h_)) : q := f h
open Go.Proofs.YtokoihmjcfhemaaW.PrintWords.Aside0 renaming mk → zA
open Go.Proofs.YtokoihmjcfhemaaW.PrintWords renaming below_alloc → zB
open Go.Proofs.YtokoihmjcfhemaaW.PrintWords renaming below_drew1 → zC
open Go.Proofs.YtokoihmjcfhemaaW.PrintWords renaming pw_below_drewN → zD

/-! ### impl_Spread: function 26 -/
mutual
def impl_Spread.l0 : Nat → List (List Int) → List Int → List Int → Int → Int → Option (List Int × Int)
  | 0,_,_,_,_,_ => none
  | k + 1,x3,x10,x11,x12,x13 => if x13 < (x11.length : Int) then (if 0 ≤ x13 then ((impl_Children.f k x10 (rd x11 x13)).bind fun t251 => (impl_Spread.l1 k x3 x10 x11 x12 x13 t251 (t251.length : Int) 0)) else (none)) else ((slices_Sort_int_int.f x11).bind fun t249 => (some (t249,x12)))
def impl_Spread.l1 : Nat → List (List Int) → List Int → List Int → Int → Int → List Int → Int → Int → Option (List Int × Int)
  | 0,_,_,_,_,_,_,_,_ => none
  | k + 1,x3,x10,x11,x12,x13,x36,x37,x38 => if x38 < x37 then (if 0 ≤ x38 then (if x38 < (x36.length : Int) then (if 0 ≤ x13 then (if x13 < (x11.length : Int) then ((impl_isLost.f x3 (rd x11 x13) (rd x36 x38)).bind fun t256 => (if t256 = true then (impl_Spread.l1 k x3 x10 x11 (wrap64 (x12 + 1)) x13 x36 x37 (wrap64 (x38 + 1))) else (if x11.length < 17592186044416 then (impl_Spread.l1 k x3 x10 (x11 ++ [rd x36 x38]) (wrap64 (x12 + 1)) x13 x36 x37 (wrap64 (x38 + 1))) else (none)))) else (none)) else (none)) else (none)) else (none)) else (impl_Spread.l0 k x3 x10 x11 x12 (wrap64 (x13 + 1)))
end
def impl_Spread.f (k : Nat) (a0 : Int) (l1 : List (S38)) (a2 : Int) (l3 : List (List Int)) : Option (List Int × Int) := (impl_TreeOf.f k a0 l1 a2).bind fun t243 => (if (t243.length : Int) = 0 then (some (([] : List Int),0)) else (impl_Spread.l0 k l3 t243 (([a2] : List Int)) 0 0))
theorem impl_Spread.mono_l : ∀ k,(∀ y0 y1 y2 y3 y4,LeO (impl_Spread.l0 k y0 y1 y2 y3 y4) (impl_Spread.l0 (k + 1) y0 y1 y2 y3 y4)) ∧ (∀ y0 y1 y2 y3 y4 y5 y6 y7,LeO (impl_Spread.l1 k y0 y1 y2 y3 y4 y5 y6 y7) (impl_Spread.l1 (k + 1) y0 y1 y2 y3 y4 y5 y6 y7))
  | 0 => ⟨fun _ _ _ _ _ r h => by simp [impl_Spread.l0] at h,fun _ _ _ _ _ _ _ _ r h => by simp [impl_Spread.l1] at h⟩
  | k + 1 => by
   obtain ⟨ih0,ih1⟩ := impl_Spread.mono_l k
   refine ⟨?_,?_⟩
   ·
    intro y0 y1 y2 y3 y4
    unfold impl_Spread.l0
    repeat' first
   |(with_reducible exact ih0 _ _ _ _ _)
   |(with_reducible exact ih1 _ _ _ _ _ _ _ _)
   |(with_reducible exact impl_Children.mono _ _ _)
   |(with_reducible exact impl_TreeOf.mono _ _ _ _)
   |(with_reducible exact LeO.refl _)
   |(with_reducible exact LeO.none _)
   |(with_reducible refine LeO.ite ?_ ?_)
   |(with_reducible refine LeO.bind ?_ (fun _ => ?_))
   |exact ih0 _ _ _ _ _
   |exact ih1 _ _ _ _ _ _ _ _
   |exact impl_Children.mono _ _ _
   |exact impl_TreeOf.mono _ _ _ _
   |exact LeO.none _
   |refine LeO.ite ?_ ?_
   |refine LeO.bind ?_ (fun _ => ?_)
   ·
    intro y0 y1 y2 y3 y4 y5 y6 y7
    unfold impl_Spread.l1
    repeat' first
   |(with_reducible exact ih0 _ _ _ _ _)
   |(with_reducible exact ih1 _ _ _ _ _ _ _ _)
   |(with_reducible exact impl_Children.mono _ _ _)
   |(with_reducible exact impl_TreeOf.mono _ _ _ _)
   |(with_reducible exact LeO.refl _)
   |(with_reducible exact LeO.none _)
   |(with_reducible refine LeO.ite ?_ ?_)
   |(with_reducible refine LeO.bind ?_ (fun _ => ?_))
   |exact ih0 _ _ _ _ _
   |exact ih1 _ _ _ _ _ _ _ _
   |exact impl_Children.mono _ _ _
   |exact impl_TreeOf.mono _ _ _ _
   |exact LeO.none _
   |refine LeO.ite ?_ ?_
   |refine LeO.bind ?_ (fun _ => ?_)
theorem impl_Spread.mono : ∀ a0 a1 a2 a3 k,LeO (impl_Spread.f k a0 a1 a2 a3) (impl_Spread.f (k + 1) a0 a1 a2 a3) := by
  intro a0 a1 a2 a3 k
  obtain ⟨ih0,ih1⟩ := impl_Spread.mono_l k
  unfold impl_Spread.f
  repeat' first
   |(with_reducible exact ih0 _ _ _ _ _)
   |(with_reducible exact ih1 _ _ _ _ _ _ _ _)
   |(with_reducible exact impl_Children.mono _ _ _)
   |(with_reducible exact impl_TreeOf.mono _ _ _ _)
   |(with_reducible exact LeO.refl _)
   |(with_reducible exact LeO.none _)
   |(with_reducible refine LeO.ite ?_ ?_)
   |(with_reducible refine LeO.bind ?_ (fun _ => ?_))
   |exact ih0 _ _ _ _ _
   |exact ih1 _ _ _ _ _ _ _ _
   |exact impl_Children.mono _ _ _
   |exact impl_TreeOf.mono _ _ _ _
   |exact LeO.none _
   |refine LeO.ite ?_ ?_
   |refine LeO.bind ?_ (fun _ => ?_)
set_option maxHeartbeats 8000000 in
set_option maxRecDepth 100000 in
theorem impl_Spread.calls (k : Nat) (a0 : Int) (A1 : Option Addr) (c1 : Nat) (l1 : List (S38)) (a2 : Int) (A3 : Option Addr) (c3 : Nat) (l3 : List (List Int)) (r1 : List Int) (r2 : Int) (w : World) (hr1 : Kd.C k38 w A1 l1.length l1) (hc1 : l1.length ≤ c1) (hr3 : Kd.C (Kd.slice 3 (Kd.int .i64)) w A3 l3.length l3) (hc3 : l3.length ≤ c3) (h : impl_Spread.f k a0 l1 a2 l3 = some (r1,r2)) :
   Calls Try.prog 26 #[.int .i64 a0,.slice A1 l1.length c1,.int .i64 a2,.slice A3 l3.length c3] w fun e w' => ∃ v0_ : Value,e = .returned (.tuple #[v0_,.int .i64 r2]) ∧ Kd.R (Kd.int .i64) 3 w' w.heap.size (fun _ => True) v0_ r1 ∧ Below w.heap.size w w' := by
  have HR1 := zA hr1
  have HC1 := zA hc1
  clear hr1 hc1
  have HR3 := zA hr3
  have HC3 := zA hc3
  clear hr3 hc3
  have HB := zA (Below.refl w.heap.size w)
  have H : ((impl_TreeOf.f k a0 l1 a2).bind fun t243 => (if (t243.length : Int) = 0 then (some (([] : List Int),0)) else (impl_Spread.l0 k l3 t243 (([a2] : List Int)) 0 0))) = some (r1,r2) := h
  clear h
  replace H := Option.bind_eq_some_iff.mp H
  obtain ⟨t243,A50,H⟩ := H
  replace H : (if (t243.length : Int) = 0 then (some (([] : List Int),0)) else (impl_Spread.l0 k l3 t243 (([a2] : List Int)) 0 0)) = some (r1,r2) := H
  have A5 := zA A50
  clear A50
  by_cases c6 : (t243.length : Int) = 0
  ·
   rw [if_pos c6] at H
   have c6b0 : ((t243.length : Int) == 0) = true := beq_iff_eq.mpr c6
   have c6b1 : ((t243.length : Int) != 0) = false := bne_eq_false_iff_eq.mpr c6
   clear c6
   simp only [Option.some.injEq,Prod.mk.injEq] at H
   obtain ⟨rfl,rfl⟩ := H
   go_enter Try.func26,Try.ntmps26
   go_wp2_with (first | ((with_reducible refine gate_callee (f := 18) rfl ?_); refine goesL_ (some 19) rfl rfl Try.func18 (by kernel_rfl) rfl #[.int .i64 a0,.slice A1 l1.length c1,.int .i64 a2] rfl (by (try simp only [List.map_toArray,List.map_cons,List.map_nil]); first | done|rfl|(simp only [List.length_drop,List.length_take]; rfl)) ?_; (with_reducible refine (impl_TreeOf.calls k a0 _ _ l1 a2 t243 _ ?side1 ?side2 A5.out).mono ?_); (case side1 => repeat (first|exact HR1.out|(with_reducible refine Kd.C_alloc ?_ _)|(with_reducible refine Kd.C_drewN ?_ _)|(with_reducible refine Kd.C_drew ?_))); (case side2 => exact HC1.out); rintro e w7 ⟨v244,rfl,ho0,hb⟩; refine ⟨_,rfl,?_⟩; have n0_ := zA (Kd.R_lower ho0 (below_size (by repeat (first|(with_reducible first|exact HB.out|apply zB|apply zD|apply zC)|exact HB.out)))); have n1_ := zA (below_step (by repeat (first|(with_reducible first|exact HB.out|apply zB|apply zD|apply zC)|exact HB.out)) hb); clear HB; have HO245 := n0_; have HB := n1_; clear n0_ n1_; (try clear hb); (try clear hb2); (try clear hk); (try clear hi); (try clear ho0); obtain ⟨Ao8,co8,eo8⟩ := Kd.R_slice HO245.out; subst eo8))
   go_ret2
   exact ⟨_,by first|rfl|(simp [errW_none,errW_some] <;> rfl)|(simp [*,errW_none,errW_some] <;> rfl),by first|exact Kd.R_nil _ _ _ _ _|exact Kd.N_nil _ _ _ _ _|exact Kd.V_nil _ _ _ _ _|exact Kd.Q_nil _ _ _ _ _|exact Kd.S_nil _ _ _ _ _,by repeat (first|(with_reducible first|exact HB.out|apply zB|apply zD|apply zC)|exact HB.out)⟩
  ·
   rw [if_neg c6] at H
   have c6b0 : ((t243.length : Int) == 0) = false := beq_eq_false_iff_ne.mpr c6
   have c6b1 : ((t243.length : Int) != 0) = true := bne_iff_ne.mpr c6
   have c6b2 : ¬ (t243 = []) := fun h_ => c6 (by rw [h_]; rfl)
   obtain ⟨y246,hy246⟩ : ∃ y_ : List Int,y_ = (([a2] : List Int)) := ⟨_,rfl⟩
   replace H : (impl_Spread.l0 k l3 t243 y246 0 0) = some (r1,r2) := by first | (rw [hy246]; with_reducible exact H) | (have H2_ := (Option.bind_some _ _).symm.trans H; rw [hy246]; with_reducible exact H2_) | (have H2_ := (Option.bind_some _ _).symm.trans H; with_reducible exact H2_)|with_reducible exact H | (rw [hy246]; exact H)|exact H
   have Ny246 := zA hy246
   clear hy246
   have H' := zA H
   clear H
   go_enter Try.func26,Try.ntmps26
   go_wp2_with (first | ((with_reducible refine gate_callee (f := 18) rfl ?_); refine goesL_ (some 19) rfl rfl Try.func18 (by kernel_rfl) rfl #[.int .i64 a0,.slice A1 l1.length c1,.int .i64 a2] rfl (by (try simp only [List.map_toArray,List.map_cons,List.map_nil]); first | done|rfl|(simp only [List.length_drop,List.length_take]; rfl)) ?_; (with_reducible refine (impl_TreeOf.calls k a0 _ _ l1 a2 t243 _ ?side1 ?side2 A5.out).mono ?_); (case side1 => repeat (first|exact HR1.out|(with_reducible refine Kd.C_alloc ?_ _)|(with_reducible refine Kd.C_drewN ?_ _)|(with_reducible refine Kd.C_drew ?_))); (case side2 => exact HC1.out); rintro e w9 ⟨v244,rfl,ho0,hb⟩; refine ⟨_,rfl,?_⟩; have n0_ := zA (Kd.R_lower ho0 (below_size (by repeat (first|(with_reducible first|exact HB.out|apply zB|apply zD|apply zC)|exact HB.out)))); have n1_ := zA (below_step (by repeat (first|(with_reducible first|exact HB.out|apply zB|apply zD|apply zC)|exact HB.out)) hb); clear HB; have HO245 := n0_; have HB := n1_; clear n0_ n1_; (try clear hb); (try clear hb2); (try clear hk); (try clear hi); (try clear ho0); obtain ⟨Ao10,co10,eo10⟩ := Kd.R_slice HO245.out; subst eo10) | ((with_reducible refine gate_dst (N := 24) rfl ?_); refine Kd.R_lit (Kd.int .i64) _ 3 ?hg (N := 24) ?hd (xs := ([a2] : List Int)) (inner := [.int .i64 a2]) (ok := fun _ => True) (okp := fun _ => True) ?hr ?hp (fun _ hk => hk) trivial (Below.refl _ _) (Nat.le_refl _) (by simp) ?_; (case hd => rfl); (case hg => rfl); (case hr => first | (go_simp; done) | (go_simp; rfl)); (case hp => exact (Reps.one (show Kd.M (Kd.int .i64) _ _ _ a2 [.int .i64 a2] from rfl) (Reps.none _ _))); intro v247 w11 ho12 hb hg_ hnew_; clear hg_ hnew_; (first | rw [← Ny246.out] at ho12|(simp only [Int.reduceToNat] at ho12; rw [← Ny246.out] at ho12)); have n0_ := zA (Kd.R_elder' (rrA24 HO245.out) (Kd.R_base ho12) hb); have n1_ := zA (Kd.R_lower (Kd.R_new' ho12 (Kd.R_lt (rrA24 HO245.out))) (below_size (by repeat (first|(with_reducible first|exact HB.out|apply zB|apply zD|apply zC)|exact HB.out)))); have n2_ := zA (below_step (by repeat (first|(with_reducible first|exact HB.out|apply zB|apply zD|apply zC)|exact HB.out)) hb); clear HO245 HB; have HO245 := n0_; have HO248 := n1_; have HB := n2_; clear n0_ n1_ n2_ hb ho12))
   go_loopg [11,12,13] k (fun kq v11 v12 v13 w' => ∃ (x11_1 : List Int) (x12_1 : Int) (x13_1 : Int),v12 = .int .i64 x12_1 ∧ v13 = .int .i64 x13_1 ∧ Aside0 (impl_Spread.l0 kq l3 t243 x11_1 x12_1 x13_1 = some (r1,r2)) ∧ Aside0 (kq ≤ k) ∧ Aside0 (Kd.R (Kd.int .i64) 3 w' w.heap.size (fun k_ => some k_ ≠ (v11 : Value).ownBlock) (.slice Ao10 t243.length co10) t243) ∧ Aside0 (Kd.R (Kd.int .i64) 3 w' w.heap.size (fun k_ => some k_ ≠ ((.slice Ao10 t243.length co10) : Value).ownBlock) v11 x11_1) ∧ Aside0 (Below w.heap.size w w'))
   case atStart => exact ⟨(y246),(0),(0),(by first|rfl|(simp; done)|(simp [*]; done)),(by first|rfl|(simp; done)|(simp [*]; done)),H',⟨Nat.le_refl _⟩,⟨by (with_reducible repeat (first|apply Kd.R_alloc|apply Kd.R_drewN|apply Kd.R_drew)); exact Kd.R_mono HO245.out (fun _ h=>h.2)⟩,⟨by (with_reducible repeat (first|apply Kd.R_alloc|apply Kd.R_drewN|apply Kd.R_drew)); exact Kd.R_mono HO248.out (fun _ h=>h.2)⟩,⟨by repeat (first|(with_reducible first|exact HB.out|apply zB|apply zD|apply zC)|exact HB.out)⟩⟩
   case round =>
    clear H'; try clear c1; try clear c2; try clear p2; try clear c3; try clear c6; try clear c6b0; try clear c6b1; try clear c6b2
    obtain ⟨x11_1,x12_1,x13_1,rfl,rfl,HA,HK1,HO_10,HO_11,HB⟩ := hrel
    cases gk with
    | zero => exact absurd HA.out (by simp [impl_Spread.l0])
    | succ k1 =>
     have H := HA.out
     clear HA
     simp only [impl_Spread.l0] at H
     by_cases c13 : x13_1 < (x11_1.length : Int)
     ·
      rw [if_pos c13] at H
      have c13b0 : decide (x13_1 < (x11_1.length : Int)) = true := decide_eq_true c13
      clear c13
      by_cases c14 : 0 ≤ x13_1
      ·
       rw [if_pos c14] at H
       have c14b0 : decide (0 ≤ x13_1) = true := decide_eq_true c14
       clear c14
       replace H := Option.bind_eq_some_iff.mp H
       obtain ⟨t251,A150,H⟩ := H
       replace H : (impl_Spread.l1 k1 l3 t243 x11_1 x12_1 x13_1 t251 (t251.length : Int) 0) = some (r1,r2) := H
       have A15 := zA A150
       clear A150
       have H' := zA H
       clear H
       obtain ⟨Ao16,co16,eo16⟩ := Kd.R_slice HO_11.out
       subst eo16
       have p250 : 0 ≤ (x13_1 : Int) := of_decide_eq_true (by first|(with_reducible assumption) | assumption)
       have q250 : x13_1 < (x11_1.length : Int) := of_decide_eq_true (by first|(with_reducible assumption) | assumption)
       obtain ⟨ad250,e250,hx250_0⟩ := Kd.at_int (Kd.R_reads' HO_11.out).2.2 x13_1 p250 q250
       cases e250
       replace p250 := eq_true p250
       replace q250 := eq_true q250
       go_wp2_with (first | ((with_reducible refine gate_callee (f := 31) rfl ?_); refine goesL_ (some 36) rfl rfl Try.func31 (by kernel_rfl) rfl #[.slice Ao10 t243.length co10,.int .i64 (rd x11_1 x13_1)] rfl (by (try simp only [List.map_toArray,List.map_cons,List.map_nil]); first | done|rfl|(simp only [List.length_drop,List.length_take]; rfl)) ?_; (with_reducible refine (impl_Children.calls k1 _ _ t243 (rd x11_1 x13_1) t251 _ ?side1 ?side2 A15.out).mono ?_); (case side1 => repeat (first|exact (Kd.R_reads' HO_10.out).2.2|(with_reducible refine Kd.C_alloc ?_ _)|(with_reducible refine Kd.C_drewN ?_ _)|(with_reducible refine Kd.C_drew ?_))); (case side2 => exact (Kd.R_reads' HO_10.out).2.1); rintro e w17 ⟨v252,rfl,ho0,hb⟩; refine ⟨_,rfl,?_⟩; have n0_ := zA (Kd.R_elder' (rrA24 HO_10.out) (Kd.R_base ho0) hb); have n1_ := zA (Kd.R_elder' (rrA24 HO_11.out) (Kd.R_base ho0) hb); have n2_ := zA (Kd.R_lower (Kd.R_new' (Kd.R_new' ho0 (Kd.R_lt (rrA24 HO_10.out))) (Kd.R_lt (rrA24 HO_11.out))) (below_size (by repeat (first|(with_reducible first|exact HB.out|apply zB|apply zD|apply zC)|exact HB.out)))); have n3_ := zA (below_step (by repeat (first|(with_reducible first|exact HB.out|apply zB|apply zD|apply zC)|exact HB.out)) hb); clear HO_10 HO_11 HB; have HO_10 := n0_; have HO_11 := n1_; have HO253 := n2_; have HB := n3_; clear n0_ n1_ n2_ n3_; (try clear hb); (try clear hb2); (try clear hk); (try clear hi); (try clear ho0); obtain ⟨Ao18,co18,eo18⟩ := Kd.R_slice HO253.out; subst eo18))
       go_loopg [11,12,38] k1 (fun kq v11 v12 v38 w' => ∃ (x11_2 : List Int) (x12_2 : Int) (x38_2 : Int),v12 = .int .i64 x12_2 ∧ v38 = .int .i64 x38_2 ∧ Aside0 (impl_Spread.l1 kq l3 t243 x11_2 x12_2 x13_1 t251 (t251.length : Int) x38_2 = some (r1,r2)) ∧ Aside0 (kq ≤ k1) ∧ Aside0 (Kd.R (Kd.int .i64) 3 w' w.heap.size (fun k_ => some k_ ≠ (v11 : Value).ownBlock ∧ some k_ ≠ ((.slice Ao18 t251.length co18) : Value).ownBlock) (.slice Ao10 t243.length co10) t243) ∧ Aside0 (Kd.R (Kd.int .i64) 3 w' w.heap.size (fun k_ => some k_ ≠ ((.slice Ao10 t243.length co10) : Value).ownBlock ∧ some k_ ≠ ((.slice Ao18 t251.length co18) : Value).ownBlock) v11 x11_2) ∧ Aside0 (Kd.R (Kd.int .i64) 3 w' w.heap.size (fun k_ => some k_ ≠ ((.slice Ao10 t243.length co10) : Value).ownBlock ∧ some k_ ≠ (v11 : Value).ownBlock) (.slice Ao18 t251.length co18) t251) ∧ Aside0 (Below w.heap.size w w'))
       case atStart => exact ⟨(x11_1),(x12_1),(0),(by first|rfl|(simp; done)|(simp [*]; done)),(by first|rfl|(simp; done)|(simp [*]; done)),H',⟨Nat.le_refl _⟩,⟨(rrA24 HO_10.out)⟩,⟨(rrA24 HO_11.out)⟩,⟨by (with_reducible repeat (first|apply Kd.R_alloc|apply Kd.R_drewN|apply Kd.R_drew)); exact Kd.R_mono HO253.out (fun _ hk => ⟨hk.1.2,hk.2⟩)⟩,⟨by repeat (first|(with_reducible first|exact HB.out|apply zB|apply zD|apply zC)|exact HB.out)⟩⟩
       case round =>
        clear H'; try clear c1; try clear c2; try clear p2; try clear q2; try clear hx2; try clear c3; try clear c6; try clear c6b0; try clear c6b1; try clear c6b2; try clear c13; try clear c13b0; try clear c14; try clear c14b0; try clear c18; try clear hx250_0; try clear p2; try clear p250; try clear q250
        obtain ⟨x11_2,x12_2,x38_2,rfl,rfl,HA,HK2,HO_10,HO_11,HO_36,HB⟩ := hrel
        cases gk with
        | zero => exact absurd HA.out (by simp [impl_Spread.l1])
        | succ k2 =>
         have H := HA.out
         clear HA
         simp only [impl_Spread.l1] at H
         by_cases c19 : x38_2 < (t251.length : Int)
         ·
          rw [if_pos c19] at H
          have c19b0 : decide (x38_2 < (t251.length : Int)) = true := decide_eq_true c19
          clear c19
          by_cases c20 : 0 ≤ x38_2
          ·
           rw [if_pos c20] at H
           have c20b0 : decide (0 ≤ x38_2) = true := decide_eq_true c20
           clear c20
           by_cases c21 : x38_2 < (t251.length : Int)
           ·
            rw [if_pos c21] at H
            have c21b0 : decide (x38_2 < (t251.length : Int)) = true := decide_eq_true c21
            clear c21
            by_cases c22 : 0 ≤ x13_1
            ·
             rw [if_pos c22] at H
             have c22b0 : decide (0 ≤ x13_1) = true := decide_eq_true c22
             clear c22
             by_cases c23 : x13_1 < (x11_2.length : Int)
             ·
              rw [if_pos c23] at H
              have c23b0 : decide (x13_1 < (x11_2.length : Int)) = true := decide_eq_true c23
              clear c23
              replace H := Option.bind_eq_some_iff.mp H
              obtain ⟨t256,A240,H⟩ := H
              replace H : (if t256 = true then (impl_Spread.l1 k2 l3 t243 x11_2 (wrap64 (x12_2 + 1)) x13_1 t251 (t251.length : Int) (wrap64 (x38_2 + 1))) else (if x11_2.length < 17592186044416 then (impl_Spread.l1 k2 l3 t243 (x11_2 ++ [rd t251 x38_2]) (wrap64 (x12_2 + 1)) x13_1 t251 (t251.length : Int) (wrap64 (x38_2 + 1))) else (none))) = some (r1,r2) := H
              have A24 := zA A240
              clear A240
              by_cases c25 : t256 = true
              ·
               subst c25
               have H1 : (impl_Spread.l1 k2 l3 t243 x11_2 (wrap64 (x12_2 + 1)) x13_1 t251 (t251.length : Int) (wrap64 (x38_2 + 1))) = some (r1,r2) := by rw [if_pos rfl] at H; exact H
               clear H; have H := H1; clear H1
               have H' := zA H
               clear H
               have p254 : 0 ≤ (x38_2 : Int) := of_decide_eq_true (by first|(with_reducible assumption) | assumption)
               have q254 : x38_2 < (t251.length : Int) := of_decide_eq_true (by first|(with_reducible assumption) | assumption)
               obtain ⟨ad254,e254,hx254_0⟩ := Kd.at_int (Kd.R_reads' HO_36.out).2.2 x38_2 p254 q254
               cases e254
               replace p254 := eq_true p254
               replace q254 := eq_true q254
               obtain ⟨Ao26,co26,eo26⟩ := Kd.R_slice HO_11.out
               subst eo26
               have p255 : 0 ≤ (x13_1 : Int) := of_decide_eq_true (by first|(with_reducible assumption) | assumption)
               have q255 : x13_1 < (x11_2.length : Int) := of_decide_eq_true (by first|(with_reducible assumption) | assumption)
               obtain ⟨ad255,e255,hx255_0⟩ := Kd.at_int (Kd.R_reads' HO_11.out).2.2 x13_1 p255 q255
               cases e255
               replace p255 := eq_true p255
               replace q255 := eq_true q255
               go_wp2_with (first | ((with_reducible refine gate_callee (f := 46) rfl ?_); refine goesL_ (some 50) rfl rfl Try.func46 (by kernel_rfl) rfl #[.slice A3 l3.length c3,.int .i64 (rd x11_2 x13_1),.int .i64 (rd t251 x38_2)] rfl (by (try simp only [List.map_toArray,List.map_cons,List.map_nil]); first | done|rfl|(simp only [List.length_drop,List.length_take]; rfl)) ?_; (with_reducible refine (impl_isLost.calls _ _ l3 (rd x11_2 x13_1) (rd t251 x38_2) true _ ?side1 ?side2 A24.out).mono ?_); (case side1 => repeat (first|exact (Kd.C_below HR3.out HB.out)|(with_reducible refine Kd.C_alloc ?_ _)|(with_reducible refine Kd.C_drewN ?_ _)|(with_reducible refine Kd.C_drew ?_))); (case side2 => exact HC3.out); rintro e w27 ⟨rfl,hb⟩; refine ⟨_,rfl,?_⟩; have n0_ := zA (Kd.R_below (rrA24 HO_10.out) hb); have n1_ := zA (Kd.R_below (rrA24 HO_11.out) hb); have n2_ := zA (Kd.R_below (rrA24 HO_36.out) hb); have n3_ := zA (below_step (by repeat (first|(with_reducible first|exact HB.out|apply zB|apply zD|apply zC)|exact HB.out)) hb); clear HO_10 HO_11 HO_36 HB; have HO_10 := n0_; have HO_11 := n1_; have HO_36 := n2_; have HB := n3_; clear n0_ n1_ n2_ n3_; (try clear hb); (try clear hb2); (try clear hk); (try clear hi)))
               go_roundg k2
               case measure => have := HK1.out; have := HK2.out; omega
               case rel => exact ⟨(x11_2),(wrap64 (x12_2 + 1)),(wrap64 (x38_2 + 1)),(by first|rfl|(simp; done)|(simp [*]; done)),(by first|rfl|(simp; done)|(simp [*]; done)),H',⟨by have := HK1.out; have := HK2.out; omega⟩,⟨(rrA24 HO_10.out)⟩,⟨(rrA24 HO_11.out)⟩,⟨(rrA24 HO_36.out)⟩,⟨by repeat (first|(with_reducible first|exact HB.out|apply zB|apply zD|apply zC)|exact HB.out)⟩⟩
              ·
               replace c25 := Bool.eq_false_iff.mpr c25
               subst c25
               have H1 : (if x11_2.length < 17592186044416 then (impl_Spread.l1 k2 l3 t243 (x11_2 ++ [rd t251 x38_2]) (wrap64 (x12_2 + 1)) x13_1 t251 (t251.length : Int) (wrap64 (x38_2 + 1))) else (none)) = some (r1,r2) := by rw [if_neg (show ¬ (false = true) by decide)] at H; exact H
               clear H; have H := H1; clear H1
               by_cases c28 : x11_2.length < 17592186044416
               ·
                rw [if_pos c28] at H
                have LMc28 := zA c28
                clear c28
                obtain ⟨y257,hy257⟩ : ∃ y_ : List Int,y_ = (x11_2 ++ [rd t251 x38_2]) := ⟨_,rfl⟩
                replace H : (impl_Spread.l1 k2 l3 t243 y257 (wrap64 (x12_2 + 1)) x13_1 t251 (t251.length : Int) (wrap64 (x38_2 + 1))) = some (r1,r2) := by first | (rw [hy257]; with_reducible exact H) | (have H2_ := (Option.bind_some _ _).symm.trans H; rw [hy257]; with_reducible exact H2_) | (have H2_ := (Option.bind_some _ _).symm.trans H; with_reducible exact H2_)|with_reducible exact H | (rw [hy257]; exact H)|exact H
                have Ny257 := zA hy257
                clear hy257
                have H' := zA H
                clear H
                have p254 : 0 ≤ (x38_2 : Int) := of_decide_eq_true (by first|(with_reducible assumption) | assumption)
                have q254 : x38_2 < (t251.length : Int) := of_decide_eq_true (by first|(with_reducible assumption) | assumption)
                obtain ⟨ad254,e254,hx254_0⟩ := Kd.at_int (Kd.R_reads' HO_36.out).2.2 x38_2 p254 q254
                cases e254
                replace p254 := eq_true p254
                replace q254 := eq_true q254
                obtain ⟨Ao29,co29,eo29⟩ := Kd.R_slice HO_11.out
                subst eo29
                have p255 : 0 ≤ (x13_1 : Int) := of_decide_eq_true (by first|(with_reducible assumption) | assumption)
                have q255 : x13_1 < (x11_2.length : Int) := of_decide_eq_true (by first|(with_reducible assumption) | assumption)
                obtain ⟨ad255,e255,hx255_0⟩ := Kd.at_int (Kd.R_reads' HO_11.out).2.2 x13_1 p255 q255
                cases e255
                replace p255 := eq_true p255
                replace q255 := eq_true q255
                go_wp2_with (first | ((with_reducible refine gate_callee (f := 46) rfl ?_); refine goesL_ (some 50) rfl rfl Try.func46 (by kernel_rfl) rfl #[.slice A3 l3.length c3,.int .i64 (rd x11_2 x13_1),.int .i64 (rd t251 x38_2)] rfl (by (try simp only [List.map_toArray,List.map_cons,List.map_nil]); first | done|rfl|(simp only [List.length_drop,List.length_take]; rfl)) ?_; (with_reducible refine (impl_isLost.calls _ _ l3 (rd x11_2 x13_1) (rd t251 x38_2) false _ ?side1 ?side2 A24.out).mono ?_); (case side1 => repeat (first|exact (Kd.C_below HR3.out HB.out)|(with_reducible refine Kd.C_alloc ?_ _)|(with_reducible refine Kd.C_drewN ?_ _)|(with_reducible refine Kd.C_drew ?_))); (case side2 => exact HC3.out); rintro e w30 ⟨rfl,hb⟩; refine ⟨_,rfl,?_⟩; have n0_ := zA (Kd.R_below (rrA24 HO_10.out) hb); have n1_ := zA (Kd.R_below (rrA24 HO_11.out) hb); have n2_ := zA (Kd.R_below (rrA24 HO_36.out) hb); have n3_ := zA (below_step (by repeat (first|(with_reducible first|exact HB.out|apply zB|apply zD|apply zC)|exact HB.out)) hb); clear HO_10 HO_11 HO_36 HB; have HO_10 := n0_; have HO_11 := n1_; have HO_36 := n2_; have HB := n3_; clear n0_ n1_ n2_ n3_; (try clear hb); (try clear hb2); (try clear hk); (try clear hi)) | ((with_reducible refine gate_builtin (b := .append) (xs := #[.tmp 52,.tmp 54]) rfl ?_); at_builtin; refine Kd.R_append (Kd.int .i64) (w0 := w) w.heap.size rfl (.tmp 52) (.tmp 54) 24 3 (.int .i64 0) 8 rfl Try.underlying24 info3 rfl (by decide) (by omega) (.slice (some ad255) x11_2.length co29) x11_2 (rd t251 x38_2) [.int .i64 (rd t251 x38_2)] (fun k_ => some k_ ≠ (.slice Ao10 t243.length co10 : Value).ownBlock ∧ some k_ ≠ (.slice (some ad254) t251.length co18 : Value).ownBlock) (fun _ => False) rfl rfl ?aP (fun _ hk => hk.elim) ?aF ?aO ?aB ?aS ?aL ?_; (case aP => exact rfl); (case aB => exact (by repeat (first|(with_reducible first|exact HB.out|apply zB|apply zD|apply zC)|exact HB.out))); (case aF => exact (fun k_ hk => ⟨Kd.fresh' (Kd.R_lt (rrA24 HO_10.out)) k_ hk,Kd.fresh' (Kd.R_lt (rrA24 HO_36.out)) k_ hk⟩)); (case aO => exact (rrA24 HO_11.out)); (case aS => exact (below_size (by repeat (first|(with_reducible first|exact HB.out|apply zB|apply zD|apply zC)|exact HB.out)))); (case aL => have := LMc28.out; omega); intro v258 w31 ho hb hg hat; rw [← Ny257.out] at ho; have n0_ := zA (Kd.R_after (ok := (fun k_ => some k_ ≠ (.slice (some ad254) t251.length co18 : Value).ownBlock)) (by (with_reducible repeat (first|apply Kd.R_alloc|apply Kd.R_drewN|apply Kd.R_drew)); exact Kd.R_mono HO_10.out (fun _ hk => ⟨hk.2,hk.1⟩)) hg hat); have n1_ := zA (Kd.R_after (ok := (fun k_ => some k_ ≠ (.slice Ao10 t243.length co10 : Value).ownBlock)) (rrA24 HO_36.out) hg hat); have n2_ := zA (hb); have n3_ := zA (ho); clear HO_10 HO_36 HB HO_11; have HO_10 := n0_; have HO_36 := n1_; have HB := n2_; have HO259 := n3_; clear n0_ n1_ n2_ n3_ ho hb hg hat))
                go_roundg k2
                case measure => have := HK1.out; have := HK2.out; omega
                case rel => exact ⟨(y257),(wrap64 (x12_2 + 1)),(wrap64 (x38_2 + 1)),(by first|rfl|(simp; done)|(simp [*]; done)),(by first|rfl|(simp; done)|(simp [*]; done)),H',⟨by have := HK1.out; have := HK2.out; omega⟩,⟨by (with_reducible repeat (first|apply Kd.R_alloc|apply Kd.R_drewN|apply Kd.R_drew)); exact Kd.R_mono HO_10.out (fun _ hk => ⟨hk.2,hk.1⟩)⟩,⟨(rrA24 HO259.out)⟩,⟨(rrA24 HO_36.out)⟩,⟨by repeat (first|(with_reducible first|exact HB.out|apply zB|apply zD|apply zC)|exact HB.out)⟩⟩
               ·
                rw [if_neg c28] at H
                exact absurd H (by simp)
             ·
              rw [if_neg c23] at H
              exact absurd H (by simp)
            ·
             rw [if_neg c22] at H
             exact absurd H (by simp)
           ·
            rw [if_neg c21] at H
            exact absurd H (by simp)
          ·
           rw [if_neg c20] at H
           exact absurd H (by simp)
         ·
          rw [if_neg c19] at H
          have c19b0 : decide (x38_2 < (t251.length : Int)) = false := decide_eq_false c19
          clear c19
          have H' := zA H
          clear H; go_wp2
          go_roundg k2
          case measure => have := HK1.out; have := HK2.out; omega
          case rel => exact ⟨(x11_2),(x12_2),(wrap64 (x13_1 + 1)),(by first|rfl|(simp; done)|(simp [*]; done)),(by first|rfl|(simp; done)|(simp [*]; done)),H',⟨by have := HK1.out; have := HK2.out; omega⟩,⟨by (with_reducible repeat (first|apply Kd.R_alloc|apply Kd.R_drewN|apply Kd.R_drew)); exact Kd.R_mono HO_10.out (fun _ hk => hk.1)⟩,⟨by (with_reducible repeat (first|apply Kd.R_alloc|apply Kd.R_drewN|apply Kd.R_drew)); exact Kd.R_mono HO_11.out (fun _ hk => hk.1)⟩,⟨by repeat (first|(with_reducible first|exact HB.out|apply zB|apply zD|apply zC)|exact HB.out)⟩⟩
      ·
       rw [if_neg c14] at H
       exact absurd H (by simp)
     ·
      rw [if_neg c13] at H
      have c13b0 : decide (x13_1 < (x11_1.length : Int)) = false := decide_eq_false c13
      clear c13
      replace H := Option.bind_eq_some_iff.mp H
      obtain ⟨t249,A320,H⟩ := H
      replace H : (some (t249,x12_1)) = some (r1,r2) := H
      have A32 := zA A320
      clear A320
      simp only [Option.some.injEq,Prod.mk.injEq] at H
      obtain ⟨rfl,rfl⟩ := H
      obtain ⟨Ao33,co33,eo33⟩ := Kd.R_slice HO_11.out
      subst eo33
      go_wp2_with (first | ((with_reducible refine gate_callee (f := 47) rfl ?_); refine goesL_ (some 58) rfl rfl Try.func47 (by kernel_rfl) rfl #[.slice Ao33 x11_1.length co33] rfl (by (try simp only [List.map_toArray,List.map_cons,List.map_nil]); first | done|rfl|(simp only [List.length_drop,List.length_take]; rfl)) ?_; (with_reducible refine (slices_Sort_int_int.calls (fun k_ => some k_ = (.slice Ao33 x11_1.length co33 : Value).ownBlock) (.slice Ao33 x11_1.length co33) x11_1 t249 w _ ?side1 ?side2 A32.out).mono ?_); (case side1 => repeat (first|(with_reducible first|exact HB.out|apply zB|apply zD|apply zC)|exact HB.out)); (case side2 => exact Kd.R_tight rfl HO_11.out); rintro e w34 ⟨rfl,hy0,hb,hkp⟩; refine ⟨_,rfl,?_⟩; have n0_ := zA (Kd.R_mono (ok' := fun k_ => some k_ ≠ (.slice Ao33 x11_1.length co33 : Value).ownBlock) (Kd.R_keptB (HO_10.out) hkp (fun k_ hk_ hs_ => (hk_) hs_)) (fun k_ hk_ => hk_.1)); have n1_ := zA (Kd.R_reok rfl hy0 (fun k_ e_ => HO_11.out.1 k_ e_)); have n2_ := zA (hb); clear HO_10 HO_11 HB; have HO_10 := n0_; have HO_11 := n1_; have HB := n2_; clear n0_ n1_ n2_; (try clear hb); (try clear hkp); (try clear hy0)))
      go_ret2
      exact ⟨_,by first|rfl|(simp [errW_none,errW_some] <;> rfl)|(simp [*,errW_none,errW_some] <;> rfl),by (with_reducible repeat (first|apply Kd.R_alloc|apply Kd.R_drewN|apply Kd.R_drew)); exact Kd.R_mono HO_11.out (fun _ hk => trivial),by repeat (first|(with_reducible first|exact HB.out|apply zB|apply zD|apply zC)|exact HB.out)⟩

end Go.Proofs.Ytokoihmjcfhemaa.PFnExactSpread
