-- Written by a program out of the translation,for this claim.
import Derived.Test.YtlidnobkkgcnlaaPFnLinksx0
import Derived.Test.YtlidnobkkgcnlaaPFnLinksx14
import Derived.Test.YtlidnobkkgcnlaaPFnLinksx15
import Derived.Test.YtlidnobkkgcnlaaPFnLinksx17
namespace Go.Proofs.Ytlidnobkkgcnlaa.PFnLinks
open Go.RowKit Go.Proofs.YtlidnobkkgcnlaaW.PrintWords Go.Proofs.YtlidnobkkgcnlaaW.PrintLast Go.Proofs.YtlidnobkkgcnlaaW.PrintMore
attribute [local go_sem] max2_int min2_int max_two min_two max_three min_three max_four min_four   -- for this text's walks alone
set_option linter.unusedVariables false
set_option linter.unusedSimpArgs false
theorem rrA18 {p q : Prop} (h : p) (f : p → q := by (intro h_; (with_reducible repeat (first | apply Kd.R_alloc | apply Kd.R_drewN | apply Kd.R_drew)); exact h_)) : q := f h
open Go.Proofs.YtlidnobkkgcnlaaW.PrintWords.Aside0 renaming mk → zA
open Go.Proofs.YtlidnobkkgcnlaaW.PrintWords.Kd renaming R_far → zB
open Go.Proofs.YtlidnobkkgcnlaaW.PrintWords renaming blk_drewN → zC
open Go.Proofs.YtlidnobkkgcnlaaW.PrintWords renaming blk_alloc → zD
open Go.Proofs.YtlidnobkkgcnlaaW.PrintWords renaming blk_drew → zE
open Go.Proofs.YtlidnobkkgcnlaaW.PrintWords renaming blk_below → zF
open Go.Proofs.YtlidnobkkgcnlaaW.PrintWords renaming blk_cell → zG

/-! ### impl_SendNew: function 32 -/
def impl_SendNew.f (k : Nat) (a0_0 : Int) (a0_1 : Int) (l0_2 : List ByteArray) (a0_3 : Int) (l0_4 : List ByteArray) : Option (Int × Int × List ByteArray × Int × List ByteArray × (List (S36))) := (impl_copyEnd.f a0_0 a0_1 l0_2 a0_3 l0_4).bind fun bt478 => ((impl_EndOk.f k a0_0 a0_1 l0_2 a0_3 l0_4).bind fun t488 => (if t488 = true then ((impl_End_parcels.f a0_0 a0_1 l0_2 a0_3 l0_4 (wrap64 (a0_0 + 1)) (wrap64 (a0_1 + (mn (l0_2.length : Int) 4)))).bind fun t489 => (some (wrap64 (a0_1 + (mn (l0_2.length : Int) 4)),bt478.2.1,bt478.2.2.1,bt478.2.2.2.1,bt478.2.2.2.2,t489))) else (some (bt478.1,bt478.2.1,bt478.2.2.1,bt478.2.2.2.1,bt478.2.2.2.2,([] : List (S36))))))
theorem impl_SendNew.mono : ∀ a0 a1 a2 a3 a4 k,LeO (impl_SendNew.f k a0 a1 a2 a3 a4) (impl_SendNew.f (k + 1) a0 a1 a2 a3 a4) := by
  intro a0 a1 a2 a3 a4 k
  unfold impl_SendNew.f
  repeat' first
   |(with_reducible exact impl_EndOk.mono _ _ _ _ _ _)
   |(with_reducible exact LeO.refl _)
   |(with_reducible exact LeO.none _)
   |(with_reducible refine LeO.ite ?_ ?_)
   |(with_reducible refine LeO.bind ?_ (fun _ => ?_))
   |exact impl_EndOk.mono _ _ _ _ _ _
   |exact LeO.none _
   |refine LeO.ite ?_ ?_
   |refine LeO.bind ?_ (fun _ => ?_)
def impl_SendNew.T5 : Bool × List (List Nat × List Nat) := (true,[([],[]),([],[]),([1],[1]),([2],[2]),([],[]),([4],[4]),([3,5],[3,5]),([0,6,0],[0]),([6,7,0,1,2,3,4,5,6,7],[6])])
def impl_SendNew.B5 : List Nat := [0,0,2,6,0,16,62,127,255]
theorem impl_SendNew.tab5 : rtab .any (opsOf Try.f32 5) = impl_SendNew.T5 := by kernel_rfl
theorem impl_SendNew.bits5 : waitsOk impl_SendNew.T5.2 impl_SendNew.B5 = true := by kernel_rfl
set_option maxHeartbeats 8000000 in
set_option maxRecDepth 100000 in
theorem impl_SendNew.calls (k : Nat) (a0_0 : Int) (a0_1 : Int) (A0_2 : Option Addr) (c0_2 : Nat) (l0_2 : List ByteArray) (a0_3 : Int) (A0_4 : Option Addr) (c0_4 : Nat) (l0_4 : List ByteArray) (r1 : Int) (r2 : Int) (r3 : List ByteArray) (r4 : Int) (r5 : List ByteArray) (r6 : List (S36)) (w : World) (hr0_2 : Kd.C Kd.string w A0_2 l0_2.length l0_2) (hc0_2 : l0_2.length ≤ c0_2) (hr0_4 : Kd.C Kd.string w A0_4 l0_4.length l0_4) (hc0_4 : l0_4.length ≤ c0_4) (h : impl_SendNew.f k a0_0 a0_1 l0_2 a0_3 l0_4 = some (r1,r2,r3,r4,r5,r6)) :
   Calls Try.prog 32 #[.agg #[.int .i64 a0_0,.int .i64 a0_1,.slice A0_2 l0_2.length c0_2,.int .i64 a0_3,.slice A0_4 l0_4.length c0_4]] w fun e w' => ∃ v2_ v4_ v5_ : Value,e = .returned (.tuple #[.agg #[.int .i64 r1,.int .i64 r2,v2_,.int .i64 r4,v4_],v5_]) ∧ Kd.R Kd.string 9 w' w.heap.size (fun k_ => some k_ ≠ (v4_ : Value).ownBlock) v2_ r3 ∧ Kd.R Kd.string 9 w' w.heap.size (fun k_ => some k_ ≠ (v2_ : Value).ownBlock) v4_ r5 ∧ Kd.R k36 36 w' w.heap.size (fun _ => True) v5_ r6 ∧ Below w.heap.size w w' := by
  have hu26 := Try.underlying26
  have HR0_2 := zA hr0_2
  have HC0_2 := zA hc0_2
  clear hr0_2 hc0_2
  have HR0_4 := zA hr0_4
  have HC0_4 := zA hc0_4
  clear hr0_4 hc0_4
  have HB := zA (Below.refl w.heap.size w)
  have H : ((impl_copyEnd.f a0_0 a0_1 l0_2 a0_3 l0_4).bind fun bt478 => ((impl_EndOk.f k a0_0 a0_1 l0_2 a0_3 l0_4).bind fun t488 => (if t488 = true then ((impl_End_parcels.f a0_0 a0_1 l0_2 a0_3 l0_4 (wrap64 (a0_0 + 1)) (wrap64 (a0_1 + (mn (l0_2.length : Int) 4)))).bind fun t489 => (some (wrap64 (a0_1 + (mn (l0_2.length : Int) 4)),bt478.2.1,bt478.2.2.1,bt478.2.2.2.1,bt478.2.2.2.2,t489))) else (some (bt478.1,bt478.2.1,bt478.2.2.1,bt478.2.2.2.1,bt478.2.2.2.2,([] : List (S36))))))) = some (r1,r2,r3,r4,r5,r6) := h
  clear h
  replace H := Option.bind_eq_some_iff.mp H
  obtain ⟨⟨t478,t479,t480,t483,t484⟩,A20,H⟩ := H
  replace H : ((impl_EndOk.f k a0_0 a0_1 l0_2 a0_3 l0_4).bind fun t488 => (if t488 = true then ((impl_End_parcels.f a0_0 a0_1 l0_2 a0_3 l0_4 (wrap64 (a0_0 + 1)) (wrap64 (a0_1 + (mn (l0_2.length : Int) 4)))).bind fun t489 => (some (wrap64 (a0_1 + (mn (l0_2.length : Int) 4)),t479,t480,t483,t484,t489))) else (some (t478,t479,t480,t483,t484,([] : List (S36)))))) = some (r1,r2,r3,r4,r5,r6) := H
  have A2 := zA A20
  clear A20
  replace H := Option.bind_eq_some_iff.mp H
  obtain ⟨t488,A30,H⟩ := H
  replace H : (if t488 = true then ((impl_End_parcels.f a0_0 a0_1 l0_2 a0_3 l0_4 (wrap64 (a0_0 + 1)) (wrap64 (a0_1 + (mn (l0_2.length : Int) 4)))).bind fun t489 => (some (wrap64 (a0_1 + (mn (l0_2.length : Int) 4)),t479,t480,t483,t484,t489))) else (some (t478,t479,t480,t483,t484,([] : List (S36))))) = some (r1,r2,r3,r4,r5,r6) := H
  have A3 := zA A30
  clear A30
  by_cases c4 : t488 = true
  ·
   subst c4
   have H1 : ((impl_End_parcels.f a0_0 a0_1 l0_2 a0_3 l0_4 (wrap64 (a0_0 + 1)) (wrap64 (a0_1 + (mn (l0_2.length : Int) 4)))).bind fun t489 => (some (wrap64 (a0_1 + (mn (l0_2.length : Int) 4)),t479,t480,t483,t484,t489))) = some (r1,r2,r3,r4,r5,r6) := by rw [if_pos rfl] at H; exact H
   clear H; have H := H1; clear H1
   obtain ⟨ji5,hji5⟩ : ∃ j_ : Int,(mn (l0_2.length : Int) 4) = j_ := ⟨_,rfl⟩
   replace H : ((impl_End_parcels.f a0_0 a0_1 l0_2 a0_3 l0_4 (wrap64 (a0_0 + 1)) (wrap64 (a0_1 + (ji5)))).bind fun t489 => (some (wrap64 (a0_1 + (ji5)),t479,t480,t483,t484,t489))) = some (r1,r2,r3,r4,r5,r6) := by first | (rw [hji5] at H; exact H)|(simp only [hji5] at H ⊢; exact H)
   (try rw [hji5] at A2)
   (try rw [hji5] at A3)
   (try (have hji5h : ji5 ≤ 4 := by (rw [← hji5]; unfold mn; (repeat' split) <;> omega)))
   (try (have hji5g : ji5 ≤ 64 := by omega))
   (try (have hji5l : 0 ≤ ji5 := by (rw [← hji5]; unfold mn; (repeat' split) <;> omega)))
   (try (have hji5m : 0 ≤ ji5 := by omega))
   have hji5_ : (if 4 < (l0_2.length : Int) then 4 else (l0_2.length : Int)) = ji5 := hji5
   replace H := Option.bind_eq_some_iff.mp H
   obtain ⟨t489,A60,H⟩ := H
   replace H : (some (wrap64 (a0_1 + (ji5)),t479,t480,t483,t484,t489)) = some (r1,r2,r3,r4,r5,r6) := H
   have A6 := zA A60
   clear A60
   simp only [Option.some.injEq,Prod.mk.injEq] at H
   obtain ⟨rfl,rfl,rfl,rfl,rfl,rfl⟩ := H
   go_enter Try.func32,Try.ntmps32
   try go_wp2_with (first | ((with_reducible refine gate_dst (N := 1) rfl ?_); refine box_event ?hg (N := 1) ?hd (cs := #[.int .i64 a0_0,.int .i64 a0_1,.slice A0_2 l0_2.length c0_2,.int .i64 a0_3,.slice A0_4 l0_4.length c0_4]) (t := 26) ?hr ?_; (case hd => rfl); (case hg => rfl); (case hr => first | (go_simp; done) | (go_simp; rfl)); intro gb476 hg w7 hbox hb; have n0_ := zA (below_step (bT HB) hb); have n1_ := zA (hbox); have n2_ := zA ((by rw [hg]; exact (below_size (bT HB)) : w.heap.size ≤ gb476)); have n3_ := zA ((by rw [hg]; exact (below_size (bT HB)) : w.heap.size ≤ gb476)); clear HB; have HB := n0_; have BK476 := n1_; have GW476 := n2_; have GE476 := n3_; clear n0_ n1_ n2_ n3_ hb hbox hg) | ((with_reducible refine gate_dst (N := 2) rfl ?_); refine box_event ?hg (N := 2) ?hd (cs := #[.int .i64 0,.int .i64 0,.slice none 0 0,.int .i64 0,.slice none 0 0]) (t := 26) ?hr ?_; (case hd => rfl); (case hg => rfl); (case hr => first | (go_simp; done) | (go_simp; rfl)); intro gb477 hg w8 hbox hb; have n0_ := zA (zF (bkT BK476.out) hb); have n1_ := zA (below_step (bT HB) hb); have n2_ := zA (hbox); have n3_ := zA ((by rw [hg]; exact (below_size (bT HB)) : w.heap.size ≤ gb477)); have n4_ := zA ((by rw [hg]; exact (below_size (bT HB)) : w.heap.size ≤ gb477)); have n5_ := zA ((by rw [hg]; exact Nat.ne_of_lt (blk_lt (g := gb476) (o := .cells #[.int .i64 a0_0,.int .i64 a0_1,.slice A0_2 l0_2.length c0_2,.int .i64 a0_3,.slice A0_4 l0_4.length c0_4] 26 (0,0)) (bkT BK476.out)) : gb476 ≠ gb477)); have n6_ := zA ((by rw [hg]; exact Nat.ne_of_gt (blk_lt (g := gb476) (o := .cells #[.int .i64 a0_0,.int .i64 a0_1,.slice A0_2 l0_2.length c0_2,.int .i64 a0_3,.slice A0_4 l0_4.length c0_4] 26 (0,0)) (bkT BK476.out)) : gb477 ≠ gb476)); clear BK476 HB; have BK476 := n0_; have HB := n1_; have BK477 := n2_; have GW477 := n3_; have GE477 := n4_; have NB476_477 := n5_; have NB477_476 := n6_; clear n0_ n1_ n2_ n3_ n4_ n5_ n6_ hb hbox hg; have hnb9 := NB476_477.out; have hnc9 := NB477_476.out; obtain ⟨_,_,_,_,_,_,_,_,_,_⟩ := cz5 BK476.out) | ((with_reducible refine gate_callee (f := 46) rfl ?_); refine goesL_ (some 6) rfl rfl Try.func46 (by kernel_rfl) rfl #[.agg #[.int .i64 a0_0,.int .i64 a0_1,.slice A0_2 l0_2.length c0_2,.int .i64 a0_3,.slice A0_4 l0_4.length c0_4]] rfl (by (try simp only [List.map_toArray,List.map_cons,List.map_nil]); first | done|rfl|(simp only [List.length_drop,List.length_take]; rfl)) ?_; (with_reducible refine (impl_copyEnd.calls a0_0 a0_1 _ _ l0_2 a0_3 _ _ l0_4 t478 t479 t480 t483 t484 _ ?side1 ?side2 ?side3 ?side4 A2.out).mono ?_); (case side1 => exact ccT (Kd.C_below HR0_2.out HB.out)); (case side2 => exact HC0_2.out); (case side3 => exact ccT (Kd.C_below HR0_4.out HB.out)); (case side4 => exact HC0_4.out); rintro e w11 ⟨v481,v485,rfl,ho0,ho1,hb⟩; refine ⟨_,rfl,?_⟩; have n0_ := zA (Kd.R_lower ho0 (below_size (bT HB))); have n1_ := zA (Kd.R_lower ho1 (below_size (bT HB))); have n2_ := zA (zF (bkT BK476.out) hb); have n3_ := zA (zF (bkT BK477.out) hb); have n4_ := zA (below_step (bT HB) hb); clear BK476 BK477 HB; have HO482 := n0_; have HO486 := n1_; have BK476 := n2_; have BK477 := n3_; have HB := n4_; clear n0_ n1_ n2_ n3_ n4_) | ((with_reducible refine gate_dst (N := 4) rfl ?_); refine box_event ?hg (N := 4) ?hd (cs := #[.int .i64 0,.int .i64 0,.slice none 0 0,.int .i64 0,.slice none 0 0]) (t := 26) ?hr ?_; (case hd => rfl); (case hg => rfl); (case hr => first | (go_simp; done) | (go_simp; rfl)); intro gb487 hg w12 hbox hb; have n0_ := zA (Kd.R_below (rrA18 HO482.out) hb); have n1_ := zA (Kd.R_below (rrA18 HO486.out) hb); have n2_ := zA (zF (bkT BK476.out) hb); have n3_ := zA (zF (bkT BK477.out) hb); have n4_ := zA (below_step (bT HB) hb); have n5_ := zA (hbox); have n6_ := zA ((by rw [hg]; exact (below_size (bT HB)) : w.heap.size ≤ gb487)); have n7_ := zA ((by rw [hg]; exact (below_size (bT HB)) : w.heap.size ≤ gb487)); have n8_ := zA ((by rw [hg]; exact Nat.ne_of_lt (blk_lt (g := gb476) (o := .cells #[.int .i64 a0_0,.int .i64 a0_1,.slice A0_2 l0_2.length c0_2,.int .i64 a0_3,.slice A0_4 l0_4.length c0_4] 26 (0,0)) (bkT BK476.out)) : gb476 ≠ gb487)); have n9_ := zA ((by rw [hg]; exact Nat.ne_of_gt (blk_lt (g := gb476) (o := .cells #[.int .i64 a0_0,.int .i64 a0_1,.slice A0_2 l0_2.length c0_2,.int .i64 a0_3,.slice A0_4 l0_4.length c0_4] 26 (0,0)) (bkT BK476.out)) : gb487 ≠ gb476)); have n10_ := zA ((by rw [hg]; exact Nat.ne_of_lt (blk_lt (g := gb477) (o := .cells #[.int .i64 0,.int .i64 0,.slice none 0 0,.int .i64 0,.slice none 0 0] 26 (0,0)) (bkT BK477.out)) : gb477 ≠ gb487)); have n11_ := zA ((by rw [hg]; exact Nat.ne_of_gt (blk_lt (g := gb477) (o := .cells #[.int .i64 0,.int .i64 0,.slice none 0 0,.int .i64 0,.slice none 0 0] 26 (0,0)) (bkT BK477.out)) : gb487 ≠ gb477)); clear HO482 HO486 BK476 BK477 HB; have HO482 := n0_; have HO486 := n1_; have BK476 := n2_; have BK477 := n3_; have HB := n4_; have BK487 := n5_; have GW487 := n6_; have GE487 := n7_; have NB476_487 := n8_; have NB487_476 := n9_; have NB477_487 := n10_; have NB487_477 := n11_; clear n0_ n1_ n2_ n3_ n4_ n5_ n6_ n7_ n8_ n9_ n10_ n11_ hb hbox hg; have hnb13 := NB487_476.out; have hnc13 := NB476_487.out; have hnb14 := NB487_477.out; have hnc14 := NB477_487.out; obtain ⟨_,_,_,_,_,_,_,_,_,_⟩ := cz5 BK487.out; obtain ⟨Ao16,co16,eo16⟩ := Kd.R_slice HO482.out; subst eo16; obtain ⟨Ao17,co17,eo17⟩ := Kd.R_slice HO486.out; subst eo17; obtain ⟨_,_,_,_,_,_,_,_,_,_⟩ := cz5 BK476.out) | ((with_reducible refine gate_callee (f := 23) rfl ?_); refine goesL_ (some 8) rfl rfl Try.func23 (by kernel_rfl) rfl #[.agg #[.int .i64 a0_0,.int .i64 a0_1,.slice A0_2 l0_2.length c0_2,.int .i64 a0_3,.slice A0_4 l0_4.length c0_4]] rfl (by (try simp only [List.map_toArray,List.map_cons,List.map_nil]); first | done|rfl|(simp only [List.length_drop,List.length_take]; rfl)) ?_; (with_reducible refine (impl_EndOk.calls k a0_0 a0_1 _ _ l0_2 a0_3 _ _ l0_4 true _ ?side1 ?side2 ?side3 ?side4 A3.out).mono ?_); (case side1 => exact Kd.C_below HR0_2.out (bT HB)); (case side2 => exact HC0_2.out); (case side3 => exact Kd.C_below HR0_4.out (bT HB)); (case side4 => exact HC0_4.out); rintro e w19 ⟨rfl,hb⟩; refine ⟨_,rfl,?_⟩; have n0_ := zA (Kd.R_below (rrA18 (Kd.R_mono (zB (p := ⟨gb487,4,none⟩) (zB (p := ⟨gb487,3,none⟩) (zB (p := ⟨gb487,2,none⟩) (zB (p := ⟨gb487,1,none⟩) (zB (p := ⟨gb487,0,none⟩) (Kd.R_types HO482.out BK487.out (by decide)) (fun _ h=>h.2) (.int .i64 t478)) (fun _ h=>h.2) (.int .i64 t479)) (fun _ h=>h.2) (.slice Ao16 t480.length co16)) (fun _ h=>h.2) (.int .i64 t483)) (fun _ h=>h.2) (.slice Ao17 t484.length co17)) (fun _ h_ => h_.1))) hb); have n1_ := zA (Kd.R_below (rrA18 (Kd.R_mono (zB (p := ⟨gb487,4,none⟩) (zB (p := ⟨gb487,3,none⟩) (zB (p := ⟨gb487,2,none⟩) (zB (p := ⟨gb487,1,none⟩) (zB (p := ⟨gb487,0,none⟩) (Kd.R_types HO486.out BK487.out (by decide)) (fun _ h=>h.2) (.int .i64 t478)) (fun _ h=>h.2) (.int .i64 t479)) (fun _ h=>h.2) (.slice Ao16 t480.length co16)) (fun _ h=>h.2) (.int .i64 t483)) (fun _ h=>h.2) (.slice Ao17 t484.length co17)) (fun _ h_ => h_.1))) hb); have n2_ := zA (zF (bkT BK476.out) hb); have n3_ := zA (zF (bkT BK477.out) hb); have n4_ := zA (zF (g := gb487) (o := .cells #[.int .i64 t478,.int .i64 t479,.slice Ao16 t480.length co16,.int .i64 t483,.slice Ao17 t484.length co17] 26 (0,0)) (by (with_reducible repeat (first|refine zC ?_ _|refine zE ?_|refine zD ?_ _)); refine blk_put (cs := #[.int .i64 t478,.int .i64 t479,.slice Ao16 t480.length co16,.int .i64 t483,.slice none 0 0]) ?_ 4 _ rfl; (with_reducible repeat (first|refine zC ?_ _|refine zE ?_|refine zD ?_ _)); refine blk_put (cs := #[.int .i64 t478,.int .i64 t479,.slice Ao16 t480.length co16,.int .i64 0,.slice none 0 0]) ?_ 3 _ rfl; (with_reducible repeat (first|refine zC ?_ _|refine zE ?_|refine zD ?_ _)); refine blk_put (cs := #[.int .i64 t478,.int .i64 t479,.slice none 0 0,.int .i64 0,.slice none 0 0]) ?_ 2 _ rfl; (with_reducible repeat (first|refine zC ?_ _|refine zE ?_|refine zD ?_ _)); refine blk_put (cs := #[.int .i64 t478,.int .i64 0,.slice none 0 0,.int .i64 0,.slice none 0 0]) ?_ 1 _ rfl; (with_reducible repeat (first|refine zC ?_ _|refine zE ?_|refine zD ?_ _)); refine blk_put (cs := #[.int .i64 0,.int .i64 0,.slice none 0 0,.int .i64 0,.slice none 0 0]) ?_ 0 _ rfl; (with_reducible repeat (first|refine zC ?_ _|refine zE ?_|refine zD ?_ _)); exact BK487.out) hb); have n5_ := zA (below_step (bT HB) hb); clear HO482 HO486 BK476 BK477 BK487 HB; have HO482 := n0_; have HO486 := n1_; have BK476 := n2_; have BK477 := n3_; have BK487 := n4_; have HB := n5_; clear n0_ n1_ n2_ n3_ n4_ n5_; obtain ⟨_,_,_,_,_,_,_,_,_,_⟩ := cz5 BK476.out; obtain ⟨_,_,_,_,_,_,_,_,_,_⟩ := cz5 BK487.out))
   have n0_ : Aside0 (Kd.R Kd.string 9 (w19.setCell ⟨gb487,0,none⟩ (.int .i64 (wrap64 (a0_1 + (ji5))))) w.heap.size (fun k_ => some k_ ≠ (.slice Ao17 t484.length co17 : Value).ownBlock) (.slice Ao16 t480.length co16) t480) := ⟨by (with_reducible repeat (first|apply Kd.R_alloc|apply Kd.R_drewN|apply Kd.R_drew)); exact Kd.R_mono (zB (p := ⟨gb487,0,none⟩) (Kd.R_types HO482.out BK487.out (by decide)) (fun _ h=>h.2) (.int .i64 (wrap64 (a0_1 + (ji5))))) (fun _ hk => hk.1)⟩
   have n1_ : Aside0 (Kd.R Kd.string 9 (w19.setCell ⟨gb487,0,none⟩ (.int .i64 (wrap64 (a0_1 + (ji5))))) w.heap.size (fun k_ => some k_ ≠ (.slice Ao16 t480.length co16 : Value).ownBlock) (.slice Ao17 t484.length co17) t484) := ⟨by (with_reducible repeat (first|apply Kd.R_alloc|apply Kd.R_drewN|apply Kd.R_drew)); exact Kd.R_mono (zB (p := ⟨gb487,0,none⟩) (Kd.R_types HO486.out BK487.out (by decide)) (fun _ h=>h.2) (.int .i64 (wrap64 (a0_1 + (ji5))))) (fun _ hk => hk.1)⟩
   have n2_ : Aside0 ((w19.setCell ⟨gb487,0,none⟩ (.int .i64 (wrap64 (a0_1 + (ji5))))).heap[gb476]? = some (.cells #[.int .i64 a0_0,.int .i64 a0_1,.slice A0_2 l0_2.length c0_2,.int .i64 a0_3,.slice A0_4 l0_4.length c0_4] 26 (0,0))) := ⟨(bkT BK476.out)⟩
   have n3_ : Aside0 ((w19.setCell ⟨gb487,0,none⟩ (.int .i64 (wrap64 (a0_1 + (ji5))))).heap[gb477]? = some (.cells #[.int .i64 0,.int .i64 0,.slice none 0 0,.int .i64 0,.slice none 0 0] 26 (0,0))) := ⟨(bkT BK477.out)⟩
   have n4_ : Aside0 ((w19.setCell ⟨gb487,0,none⟩ (.int .i64 (wrap64 (a0_1 + (ji5))))).heap[gb487]? = some (.cells #[.int .i64 (wrap64 (a0_1 + (ji5))),.int .i64 t479,.slice Ao16 t480.length co16,.int .i64 t483,.slice Ao17 t484.length co17] 26 (0,0))) := ⟨by (with_reducible repeat (first|refine zC ?_ _|refine zE ?_|refine zD ?_ _)); refine blk_put (cs := #[.int .i64 t478,.int .i64 t479,.slice Ao16 t480.length co16,.int .i64 t483,.slice Ao17 t484.length co17]) ?_ 0 _ rfl; (with_reducible repeat (first|refine zC ?_ _|refine zE ?_|refine zD ?_ _)); exact BK487.out⟩
   have n5_ : Aside0 (Below w.heap.size w (w19.setCell ⟨gb487,0,none⟩ (.int .i64 (wrap64 (a0_1 + (ji5)))))) := ⟨bT HB⟩
   generalize (w19.setCell ⟨gb487,0,none⟩ (.int .i64 (wrap64 (a0_1 + (ji5))))) = w22 at n0_ n1_ n2_ n3_ n4_ n5_ ⊢
   have HO482 := n0_
   have HO486 := n1_
   have BK476 := n2_
   have BK477 := n3_
   have BK487 := n4_
   have HB := n5_
   clear n0_ n1_ n2_ n3_ n4_ n5_
   have n0_ := zA (Kd.R_drew HO482.out)
   have n1_ := zA (Kd.R_drew HO486.out)
   have n2_ := zA (zE BK476.out)
   have n3_ := zA (zE BK477.out)
   have n4_ := zA (zE BK487.out)
   have n5_ := zA (below_drew1 HB.out)
   clear HO482 HO486 BK476 BK477 BK487 HB
   have HO482 := n0_
   have HO486 := n1_
   have BK476 := n2_
   have BK477 := n3_
   have BK487 := n4_
   have HB := n5_
   clear n0_ n1_ n2_ n3_ n4_ n5_
   refine start_ (n := 9) (S := fun w' => w'.cell? ⟨gb487,0,none⟩ = some (.int .i64 (wrap64 (a0_1 + (ji5)))) ∧ w'.cell? ⟨gb487,1,none⟩ = some (.int .i64 t479) ∧ w'.cell? ⟨gb487,2,none⟩ = some (.slice Ao16 t480.length co16) ∧ w'.cell? ⟨gb487,3,none⟩ = some (.int .i64 t483) ∧ w'.cell? ⟨gb487,4,none⟩ = some (.slice Ao17 t484.length co17) ∧ w'.cell? ⟨gb476,0,none⟩ = some (.int .i64 a0_0) ∧ w'.cell? ⟨gb476,1,none⟩ = some (.int .i64 a0_1) ∧ w'.cell? ⟨gb476,2,none⟩ = some (.slice A0_2 l0_2.length c0_2) ∧ w'.cell? ⟨gb476,3,none⟩ = some (.int .i64 a0_3) ∧ w'.cell? ⟨gb476,4,none⟩ = some (.slice A0_4 l0_4.length c0_4)) (ds := []) #[false,false,false,false,false,false,false,false,false] (by kernel_rfl) rfl rfl ⟨(zG BK487.out 0).trans rfl,(zG BK487.out 1).trans rfl,(zG BK487.out 2).trans rfl,(zG BK487.out 3).trans rfl,(zG BK487.out 4).trans rfl,(zG BK476.out 0).trans rfl,(zG BK476.out 1).trans rfl,(zG BK476.out 2).trans rfl,(zG BK476.out 3).trans rfl,(zG BK476.out 4).trans rfl⟩ (fun hHeld => ?_); refine with_tabW impl_SendNew.tab5 impl_SendNew.bits5 (fun HT_ HW_ => ?_)
   generalize w22.drew = w23 at HO482 HO486 BK476 BK477 BK487 HB hHeld ⊢
   refine pure_ (i := 1) (N := some 20) (v := ?_) (a' := ?_) #[false,true,false,false,false,false,false,false,false] rfl rfl (any_of HT_.out (by kernel_rfl)) (fun _ _ _ h => h) (Or.inl ⟨by rfl,?_⟩) ?_ ?_; rotate_left
   · intro w'; go_simp; with_reducible rfl
   rotate_left
   · simp only [Act.put,List.setIfInBounds_toArray,List.set_cons_zero,List.set_cons_succ,i64_w,i32_w]; rfl
   refine pure_ (i := 4) (N := some 23) (v := ?_) (a' := ?_) #[false,true,false,false,true,false,false,false,false] rfl rfl (any_of HT_.out (by kernel_rfl)) (fun _ _ _ h => h) (Or.inl ⟨by rfl,?_⟩) ?_ ?_; rotate_left
   · intro w'; go_simp; with_reducible rfl
   rotate_left
   · simp only [Act.put,List.setIfInBounds_toArray,List.set_cons_zero,List.set_cons_succ,i64_w,i32_w]; rfl
   refine take_ (i := 0) (N := some 19) (v := ?_) (a' := ?_) #[true,true,false,false,true,false,false,false,false] rfl rfl (take_ofW HT_.out HW_.out (by kernel_rfl)) (fun _ _ _ h => h) (Or.inl ⟨by rfl,?_⟩) hHeld ?_ ?_; rotate_left
   ·
    rintro w' ⟨s0,s1,s2,s3,s4,s5,s6,s7,s8,s9⟩
    go_simp; with_reducible rfl
   rotate_left
   · simp only [Act.put,List.setIfInBounds_toArray,List.set_cons_zero,List.set_cons_succ,i64_w,i32_w]; rfl
   refine take_ (i := 2) (N := some 21) (v := ?_) (a' := ?_) #[true,true,true,false,true,false,false,false,false] rfl rfl (take_ofW HT_.out HW_.out (by kernel_rfl)) (fun _ _ _ h => h) (Or.inl ⟨by rfl,?_⟩) hHeld ?_ ?_; rotate_left
   ·
    rintro w' ⟨s0,s1,s2,s3,s4,s5,s6,s7,s8,s9⟩
    go_simp; with_reducible rfl
   rotate_left
   · simp only [Act.put,List.setIfInBounds_toArray,List.set_cons_zero,List.set_cons_succ,i64_w,i32_w]; rfl
   refine pure_ (i := 3) (N := some 22) (v := ?_) (a' := ?_) #[true,true,true,true,true,false,false,false,false] rfl rfl (any_of HT_.out (by kernel_rfl)) (fun _ _ _ h => h) (Or.inl ⟨by rfl,?_⟩) ?_ ?_; rotate_left
   · intro w'; go_simp; with_reducible rfl
   rotate_left
   · simp only [Act.put,List.setIfInBounds_toArray,List.set_cons_zero,List.set_cons_succ,i64_w,i32_w]; rfl
   refine take_ (i := 5) (N := some 24) (v := ?_) (a' := ?_) #[true,true,true,true,true,true,false,false,false] rfl rfl (take_ofW HT_.out HW_.out (by kernel_rfl)) (fun _ _ _ h => h) (Or.inl ⟨by rfl,?_⟩) hHeld ?_ ?_; rotate_left
   ·
    rintro w' ⟨s0,s1,s2,s3,s4,s5,s6,s7,s8,s9⟩
    go_simp; with_reducible rfl
   rotate_left
   · simp only [Act.put,List.setIfInBounds_toArray,List.set_cons_zero,List.set_cons_succ,i64_w,i32_w]; rfl
   refine one_ (i := 6) (N := some 25) #[true,true,true,true,true,true,true,false,false] rfl rfl (one_of HT_.out (by kernel_rfl)) (by decide) (fun K hK => ?_)
   refine goes_ Try.func56 (by kernel_rfl) rfl #[.pointer (some ⟨gb476,0,none⟩),.int .i64 (wrap64 (a0_0 + 1)),.int .i64 (wrap64 (a0_1 + (ji5)))] (by rfl) rfl rfl (by (try simp only [List.map_toArray,List.map_cons,List.map_nil]); first | done|(simp only [hji5]; rfl)|rfl|(simp only [List.length_drop,List.length_take]; rfl)) ?_
   with_reducible refine (impl_End_parcels.calls gb476 a0_0 a0_1 A0_2 c0_2 l0_2 a0_3 A0_4 c0_4 l0_4 (wrap64 (a0_0 + 1)) (wrap64 (a0_1 + (ji5))) t489 _ ?side5 ?side1 ?side2 ?side3 ?side4 A6.out).mono ?_
   (case side1 => exact ccT (Kd.C_below HR0_2.out HB.out))
   (case side2 => exact HC0_2.out)
   (case side3 => exact ccT (Kd.C_below HR0_4.out HB.out))
   (case side4 => exact HC0_4.out)
   (case side5 => (with_reducible repeat (first|refine zC ?_ _|refine zE ?_|refine zD ?_ _)); exact BK476.out)
   rintro e w24 ⟨v490,rfl,ho0,hb⟩
   refine ⟨_,rfl,?_⟩
   have n0_ := zA (Kd.R_below (rrA18 HO482.out) hb)
   have n1_ := zA (Kd.R_below (rrA18 HO486.out) hb)
   have n2_ := zA (Kd.R_lower ho0 (below_size (bT HB)))
   have n3_ := zA (zF (bkT BK476.out) hb)
   have n4_ := zA (zF (bkT BK477.out) hb)
   have n5_ := zA (zF (bkT BK487.out) hb)
   have n6_ := zA (below_step (bT HB) hb)
   clear HO482 HO486 BK476 BK477 BK487 HB
   have HO482 := n0_
   have HO486 := n1_
   have HO491 := n2_
   have BK476 := n3_
   have BK477 := n4_
   have BK487 := n5_
   have HB := n6_
   clear n0_ n1_ n2_ n3_ n4_ n5_ n6_
   refine hK.out _ _ ⟨(zG BK487.out 0).trans rfl,(zG BK487.out 1).trans rfl,(zG BK487.out 2).trans rfl,(zG BK487.out 3).trans rfl,(zG BK487.out 4).trans rfl,(zG BK476.out 0).trans rfl,(zG BK476.out 1).trans rfl,(zG BK476.out 2).trans rfl,(zG BK476.out 3).trans rfl,(zG BK476.out 4).trans rfl⟩ (fun hHeld => ?_)
   clear hK K
   refine norm_ (a' := ?_) ?_ ?_
   rotate_left
   ·
    show Act.put _ (some 25) _ = _
    simp only [Act.put,List.setIfInBounds_toArray,List.set_cons_zero,List.set_cons_succ,i64_w,i32_w]; rfl
   refine one_ (i := 7) (N := none) #[true,true,true,true,true,true,true,true,false] rfl rfl (one_of HT_.out (by kernel_rfl)) (by decide) (fun K hK => ?_)
   have hs25 : w24.cell? ⟨gb477,0,none⟩ = some (.int .i64 0) := (zG BK477.out 0).trans rfl
   have hfs25 := blk_frozen BK477.out 0
   have hns25_0 := NB476_477.out
   have hns25_2 := NB487_477.out
   have hms25_0 := NB477_476.out
   have hms25_2 := NB477_487.out
   have hs26 : w24.cell? ⟨gb477,1,none⟩ = some (.int .i64 0) := (zG BK477.out 1).trans rfl
   have hfs26 := blk_frozen BK477.out 1
   have hns26_0 := NB476_477.out
   have hns26_2 := NB487_477.out
   have hms26_0 := NB477_476.out
   have hms26_2 := NB477_487.out
   have hs27 : w24.cell? ⟨gb477,2,none⟩ = some (.slice none 0 0) := (zG BK477.out 2).trans rfl
   have hfs27 := blk_frozen BK477.out 2
   have hns27_0 := NB476_477.out
   have hns27_2 := NB487_477.out
   have hms27_0 := NB477_476.out
   have hms27_2 := NB477_487.out
   have hs28 : w24.cell? ⟨gb477,3,none⟩ = some (.int .i64 0) := (zG BK477.out 3).trans rfl
   have hfs28 := blk_frozen BK477.out 3
   have hns28_0 := NB476_477.out
   have hns28_2 := NB487_477.out
   have hms28_0 := NB477_476.out
   have hms28_2 := NB477_487.out
   have hs29 : w24.cell? ⟨gb477,4,none⟩ = some (.slice none 0 0) := (zG BK477.out 4).trans rfl
   have hfs29 := blk_frozen BK477.out 4
   have hns29_0 := NB476_477.out
   have hns29_2 := NB487_477.out
   have hms29_0 := NB477_476.out
   have hms29_2 := NB477_487.out
   refine skip_ (w1 := ?_) (by rfl) rfl ?_ ?_
   rotate_left
   · go_simp; rfl
   refine hK.out _ _ ⟨((cell_far (p := ⟨gb477,_,none⟩) NB487_477.out _).trans (((cell_far (p := ⟨gb477,_,none⟩) NB487_477.out _).trans (((cell_far (p := ⟨gb477,_,none⟩) NB487_477.out _).trans (((cell_far (p := ⟨gb477,_,none⟩) NB487_477.out _).trans (((cell_far (p := ⟨gb477,_,none⟩) NB487_477.out _).trans (hHeld.1)))))))))),((cell_far (p := ⟨gb477,_,none⟩) NB487_477.out _).trans (((cell_far (p := ⟨gb477,_,none⟩) NB487_477.out _).trans (((cell_far (p := ⟨gb477,_,none⟩) NB487_477.out _).trans (((cell_far (p := ⟨gb477,_,none⟩) NB487_477.out _).trans (((cell_far (p := ⟨gb477,_,none⟩) NB487_477.out _).trans (hHeld.2.1)))))))))),((cell_far (p := ⟨gb477,_,none⟩) NB487_477.out _).trans (((cell_far (p := ⟨gb477,_,none⟩) NB487_477.out _).trans (((cell_far (p := ⟨gb477,_,none⟩) NB487_477.out _).trans (((cell_far (p := ⟨gb477,_,none⟩) NB487_477.out _).trans (((cell_far (p := ⟨gb477,_,none⟩) NB487_477.out _).trans (hHeld.2.2.1)))))))))),((cell_far (p := ⟨gb477,_,none⟩) NB487_477.out _).trans (((cell_far (p := ⟨gb477,_,none⟩) NB487_477.out _).trans (((cell_far (p := ⟨gb477,_,none⟩) NB487_477.out _).trans (((cell_far (p := ⟨gb477,_,none⟩) NB487_477.out _).trans (((cell_far (p := ⟨gb477,_,none⟩) NB487_477.out _).trans (hHeld.2.2.2.1)))))))))),((cell_far (p := ⟨gb477,_,none⟩) NB487_477.out _).trans (((cell_far (p := ⟨gb477,_,none⟩) NB487_477.out _).trans (((cell_far (p := ⟨gb477,_,none⟩) NB487_477.out _).trans (((cell_far (p := ⟨gb477,_,none⟩) NB487_477.out _).trans (((cell_far (p := ⟨gb477,_,none⟩) NB487_477.out _).trans (hHeld.2.2.2.2.1)))))))))),((cell_far (p := ⟨gb477,_,none⟩) NB476_477.out _).trans (((cell_far (p := ⟨gb477,_,none⟩) NB476_477.out _).trans (((cell_far (p := ⟨gb477,_,none⟩) NB476_477.out _).trans (((cell_far (p := ⟨gb477,_,none⟩) NB476_477.out _).trans (((cell_far (p := ⟨gb477,_,none⟩) NB476_477.out _).trans (hHeld.2.2.2.2.2.1)))))))))),((cell_far (p := ⟨gb477,_,none⟩) NB476_477.out _).trans (((cell_far (p := ⟨gb477,_,none⟩) NB476_477.out _).trans (((cell_far (p := ⟨gb477,_,none⟩) NB476_477.out _).trans (((cell_far (p := ⟨gb477,_,none⟩) NB476_477.out _).trans (((cell_far (p := ⟨gb477,_,none⟩) NB476_477.out _).trans (hHeld.2.2.2.2.2.2.1)))))))))),((cell_far (p := ⟨gb477,_,none⟩) NB476_477.out _).trans (((cell_far (p := ⟨gb477,_,none⟩) NB476_477.out _).trans (((cell_far (p := ⟨gb477,_,none⟩) NB476_477.out _).trans (((cell_far (p := ⟨gb477,_,none⟩) NB476_477.out _).trans (((cell_far (p := ⟨gb477,_,none⟩) NB476_477.out _).trans (hHeld.2.2.2.2.2.2.2.1)))))))))),((cell_far (p := ⟨gb477,_,none⟩) NB476_477.out _).trans (((cell_far (p := ⟨gb477,_,none⟩) NB476_477.out _).trans (((cell_far (p := ⟨gb477,_,none⟩) NB476_477.out _).trans (((cell_far (p := ⟨gb477,_,none⟩) NB476_477.out _).trans (((cell_far (p := ⟨gb477,_,none⟩) NB476_477.out _).trans (hHeld.2.2.2.2.2.2.2.2.1)))))))))),((cell_far (p := ⟨gb477,_,none⟩) NB476_477.out _).trans (((cell_far (p := ⟨gb477,_,none⟩) NB476_477.out _).trans (((cell_far (p := ⟨gb477,_,none⟩) NB476_477.out _).trans (((cell_far (p := ⟨gb477,_,none⟩) NB476_477.out _).trans (((cell_far (p := ⟨gb477,_,none⟩) NB476_477.out _).trans (hHeld.2.2.2.2.2.2.2.2.2))))))))))⟩ (fun hHeld => ?_)
   clear hK K
   refine pure_ (i := 8) (N := some 3) (v := ?_) (a' := ?_) #[true,true,true,true,true,true,true,true,true] rfl rfl (any_of HT_.out (by kernel_rfl)) (fun _ _ _ h => h) (Or.inl ⟨by rfl,?_⟩) ?_ ?_; rotate_left
   · intro w'; go_simp; with_reducible rfl
   rotate_left
   · simp only [Act.put,List.setIfInBounds_toArray,List.set_cons_zero,List.set_cons_succ,i64_w,i32_w]; rfl
   refine done_ (done_of HT_.out (by kernel_rfl)) ?_
   try go_wp2
   refine bodyPost_ret (results_ct rfl _ _ gb477 26 #[.int .i64 (wrap64 (a0_1 + (ji5))),.int .i64 t479,.slice Ao16 t480.length co16,.int .i64 t483,.slice Ao17 t484.length co17] (0,0) _ rfl (by (with_reducible repeat (first|refine zC ?_ _|refine zE ?_|refine zD ?_ _)); refine blk_put (cs := #[.int .i64 (wrap64 (a0_1 + (ji5))),.int .i64 t479,.slice Ao16 t480.length co16,.int .i64 t483,.slice none 0 0]) ?_ 4 _ rfl; (with_reducible repeat (first|refine zC ?_ _|refine zE ?_|refine zD ?_ _)); refine blk_put (cs := #[.int .i64 (wrap64 (a0_1 + (ji5))),.int .i64 t479,.slice Ao16 t480.length co16,.int .i64 0,.slice none 0 0]) ?_ 3 _ rfl; (with_reducible repeat (first|refine zC ?_ _|refine zE ?_|refine zD ?_ _)); refine blk_put (cs := #[.int .i64 (wrap64 (a0_1 + (ji5))),.int .i64 t479,.slice none 0 0,.int .i64 0,.slice none 0 0]) ?_ 2 _ rfl; (with_reducible repeat (first|refine zC ?_ _|refine zE ?_|refine zD ?_ _)); refine blk_put (cs := #[.int .i64 (wrap64 (a0_1 + (ji5))),.int .i64 0,.slice none 0 0,.int .i64 0,.slice none 0 0]) ?_ 1 _ rfl; (with_reducible repeat (first|refine zC ?_ _|refine zE ?_|refine zD ?_ _)); refine blk_put (cs := #[.int .i64 0,.int .i64 0,.slice none 0 0,.int .i64 0,.slice none 0 0]) ?_ 0 _ rfl; (with_reducible repeat (first|refine zC ?_ _|refine zE ?_|refine zD ?_ _)); exact BK477.out) Try.underlying26 rfl (by kernel_rfl)) rfl ?_
   exact ⟨_,_,_,by first|rfl|(simp [errW_none,errW_some] <;> rfl)|(simp only [← hji5]; first|rfl|(simp [errW_none,errW_some] <;> rfl))|(simp [*,errW_none,errW_some] <;> rfl),by (with_reducible repeat (first|apply Kd.R_alloc|apply Kd.R_drewN|apply Kd.R_drew)); exact Kd.R_mono (zB (p := ⟨gb477,4,none⟩) (zB (p := ⟨gb477,3,none⟩) (zB (p := ⟨gb477,2,none⟩) (zB (p := ⟨gb477,1,none⟩) (zB (p := ⟨gb477,0,none⟩) (Kd.R_types HO482.out BK477.out (by decide)) (fun _ h=>h.2) (.int .i64 (wrap64 (a0_1 + (ji5))))) (fun _ h=>h.2) (.int .i64 t479)) (fun _ h=>h.2) (.slice Ao16 t480.length co16)) (fun _ h=>h.2) (.int .i64 t483)) (fun _ h=>h.2) (.slice Ao17 t484.length co17)) (fun _ hk => hk.1),by (with_reducible repeat (first|apply Kd.R_alloc|apply Kd.R_drewN|apply Kd.R_drew)); exact Kd.R_mono (zB (p := ⟨gb477,4,none⟩) (zB (p := ⟨gb477,3,none⟩) (zB (p := ⟨gb477,2,none⟩) (zB (p := ⟨gb477,1,none⟩) (zB (p := ⟨gb477,0,none⟩) (Kd.R_types HO486.out BK477.out (by decide)) (fun _ h=>h.2) (.int .i64 (wrap64 (a0_1 + (ji5))))) (fun _ h=>h.2) (.int .i64 t479)) (fun _ h=>h.2) (.slice Ao16 t480.length co16)) (fun _ h=>h.2) (.int .i64 t483)) (fun _ h=>h.2) (.slice Ao17 t484.length co17)) (fun _ hk => hk.1),by (with_reducible repeat (first|apply Kd.R_alloc|apply Kd.R_drewN|apply Kd.R_drew)); exact Kd.R_mono (zB (p := ⟨gb477,4,none⟩) (zB (p := ⟨gb477,3,none⟩) (zB (p := ⟨gb477,2,none⟩) (zB (p := ⟨gb477,1,none⟩) (zB (p := ⟨gb477,0,none⟩) (Kd.R_types HO491.out BK477.out (by decide)) (fun _ h=>h.2) (.int .i64 (wrap64 (a0_1 + (ji5))))) (fun _ h=>h.2) (.int .i64 t479)) (fun _ h=>h.2) (.slice Ao16 t480.length co16)) (fun _ h=>h.2) (.int .i64 t483)) (fun _ h=>h.2) (.slice Ao17 t484.length co17)) (fun _ hk => trivial),bT HB⟩
  ·
   replace c4 := Bool.eq_false_iff.mpr c4
   subst c4
   have H1 : (some (t478,t479,t480,t483,t484,([] : List (S36)))) = some (r1,r2,r3,r4,r5,r6) := by rw [if_neg (show ¬ (false = true) by decide)] at H; exact H
   clear H; have H := H1; clear H1
   simp only [Option.some.injEq,Prod.mk.injEq] at H
   obtain ⟨rfl,rfl,rfl,rfl,rfl,rfl⟩ := H
   go_enter Try.func32,Try.ntmps32
   go_wp2_with (first | ((with_reducible refine gate_dst (N := 1) rfl ?_); refine box_event ?hg (N := 1) ?hd (cs := #[.int .i64 a0_0,.int .i64 a0_1,.slice A0_2 l0_2.length c0_2,.int .i64 a0_3,.slice A0_4 l0_4.length c0_4]) (t := 26) ?hr ?_; (case hd => rfl); (case hg => rfl); (case hr => first | (go_simp; done) | (go_simp; rfl)); intro gb476 hg w30 hbox hb; have n0_ := zA (below_step (bT HB) hb); have n1_ := zA (hbox); have n2_ := zA ((by rw [hg]; exact (below_size (bT HB)) : w.heap.size ≤ gb476)); have n3_ := zA ((by rw [hg]; exact (below_size (bT HB)) : w.heap.size ≤ gb476)); clear HB; have HB := n0_; have BK476 := n1_; have GW476 := n2_; have GE476 := n3_; clear n0_ n1_ n2_ n3_ hb hbox hg) | ((with_reducible refine gate_dst (N := 2) rfl ?_); refine box_event ?hg (N := 2) ?hd (cs := #[.int .i64 0,.int .i64 0,.slice none 0 0,.int .i64 0,.slice none 0 0]) (t := 26) ?hr ?_; (case hd => rfl); (case hg => rfl); (case hr => first | (go_simp; done) | (go_simp; rfl)); intro gb477 hg w31 hbox hb; have n0_ := zA (zF (bkT BK476.out) hb); have n1_ := zA (below_step (bT HB) hb); have n2_ := zA (hbox); have n3_ := zA ((by rw [hg]; exact (below_size (bT HB)) : w.heap.size ≤ gb477)); have n4_ := zA ((by rw [hg]; exact (below_size (bT HB)) : w.heap.size ≤ gb477)); have n5_ := zA ((by rw [hg]; exact Nat.ne_of_lt (blk_lt (g := gb476) (o := .cells #[.int .i64 a0_0,.int .i64 a0_1,.slice A0_2 l0_2.length c0_2,.int .i64 a0_3,.slice A0_4 l0_4.length c0_4] 26 (0,0)) (bkT BK476.out)) : gb476 ≠ gb477)); have n6_ := zA ((by rw [hg]; exact Nat.ne_of_gt (blk_lt (g := gb476) (o := .cells #[.int .i64 a0_0,.int .i64 a0_1,.slice A0_2 l0_2.length c0_2,.int .i64 a0_3,.slice A0_4 l0_4.length c0_4] 26 (0,0)) (bkT BK476.out)) : gb477 ≠ gb476)); clear BK476 HB; have BK476 := n0_; have HB := n1_; have BK477 := n2_; have GW477 := n3_; have GE477 := n4_; have NB476_477 := n5_; have NB477_476 := n6_; clear n0_ n1_ n2_ n3_ n4_ n5_ n6_ hb hbox hg; have hnb32 := NB476_477.out; have hnc32 := NB477_476.out; obtain ⟨_,_,_,_,_,_,_,_,_,_⟩ := cz5 BK476.out) | ((with_reducible refine gate_callee (f := 46) rfl ?_); refine goesL_ (some 6) rfl rfl Try.func46 (by kernel_rfl) rfl #[.agg #[.int .i64 a0_0,.int .i64 a0_1,.slice A0_2 l0_2.length c0_2,.int .i64 a0_3,.slice A0_4 l0_4.length c0_4]] rfl (by (try simp only [List.map_toArray,List.map_cons,List.map_nil]); first | done|rfl|(simp only [List.length_drop,List.length_take]; rfl)) ?_; (with_reducible refine (impl_copyEnd.calls a0_0 a0_1 _ _ l0_2 a0_3 _ _ l0_4 t478 t479 t480 t483 t484 _ ?side1 ?side2 ?side3 ?side4 A2.out).mono ?_); (case side1 => exact ccT (Kd.C_below HR0_2.out HB.out)); (case side2 => exact HC0_2.out); (case side3 => exact ccT (Kd.C_below HR0_4.out HB.out)); (case side4 => exact HC0_4.out); rintro e w34 ⟨v481,v485,rfl,ho0,ho1,hb⟩; refine ⟨_,rfl,?_⟩; have n0_ := zA (Kd.R_lower ho0 (below_size (bT HB))); have n1_ := zA (Kd.R_lower ho1 (below_size (bT HB))); have n2_ := zA (zF (bkT BK476.out) hb); have n3_ := zA (zF (bkT BK477.out) hb); have n4_ := zA (below_step (bT HB) hb); clear BK476 BK477 HB; have HO482 := n0_; have HO486 := n1_; have BK476 := n2_; have BK477 := n3_; have HB := n4_; clear n0_ n1_ n2_ n3_ n4_) | ((with_reducible refine gate_dst (N := 4) rfl ?_); refine box_event ?hg (N := 4) ?hd (cs := #[.int .i64 0,.int .i64 0,.slice none 0 0,.int .i64 0,.slice none 0 0]) (t := 26) ?hr ?_; (case hd => rfl); (case hg => rfl); (case hr => first | (go_simp; done) | (go_simp; rfl)); intro gb487 hg w35 hbox hb; have n0_ := zA (Kd.R_below (rrA18 HO482.out) hb); have n1_ := zA (Kd.R_below (rrA18 HO486.out) hb); have n2_ := zA (zF (bkT BK476.out) hb); have n3_ := zA (zF (bkT BK477.out) hb); have n4_ := zA (below_step (bT HB) hb); have n5_ := zA (hbox); have n6_ := zA ((by rw [hg]; exact (below_size (bT HB)) : w.heap.size ≤ gb487)); have n7_ := zA ((by rw [hg]; exact (below_size (bT HB)) : w.heap.size ≤ gb487)); have n8_ := zA ((by rw [hg]; exact Nat.ne_of_lt (blk_lt (g := gb476) (o := .cells #[.int .i64 a0_0,.int .i64 a0_1,.slice A0_2 l0_2.length c0_2,.int .i64 a0_3,.slice A0_4 l0_4.length c0_4] 26 (0,0)) (bkT BK476.out)) : gb476 ≠ gb487)); have n9_ := zA ((by rw [hg]; exact Nat.ne_of_gt (blk_lt (g := gb476) (o := .cells #[.int .i64 a0_0,.int .i64 a0_1,.slice A0_2 l0_2.length c0_2,.int .i64 a0_3,.slice A0_4 l0_4.length c0_4] 26 (0,0)) (bkT BK476.out)) : gb487 ≠ gb476)); have n10_ := zA ((by rw [hg]; exact Nat.ne_of_lt (blk_lt (g := gb477) (o := .cells #[.int .i64 0,.int .i64 0,.slice none 0 0,.int .i64 0,.slice none 0 0] 26 (0,0)) (bkT BK477.out)) : gb477 ≠ gb487)); have n11_ := zA ((by rw [hg]; exact Nat.ne_of_gt (blk_lt (g := gb477) (o := .cells #[.int .i64 0,.int .i64 0,.slice none 0 0,.int .i64 0,.slice none 0 0] 26 (0,0)) (bkT BK477.out)) : gb487 ≠ gb477)); clear HO482 HO486 BK476 BK477 HB; have HO482 := n0_; have HO486 := n1_; have BK476 := n2_; have BK477 := n3_; have HB := n4_; have BK487 := n5_; have GW487 := n6_; have GE487 := n7_; have NB476_487 := n8_; have NB487_476 := n9_; have NB477_487 := n10_; have NB487_477 := n11_; clear n0_ n1_ n2_ n3_ n4_ n5_ n6_ n7_ n8_ n9_ n10_ n11_ hb hbox hg; have hnb36 := NB487_476.out; have hnc36 := NB476_487.out; have hnb37 := NB487_477.out; have hnc37 := NB477_487.out; obtain ⟨_,_,_,_,_,_,_,_,_,_⟩ := cz5 BK487.out; obtain ⟨Ao39,co39,eo39⟩ := Kd.R_slice HO482.out; subst eo39; obtain ⟨Ao40,co40,eo40⟩ := Kd.R_slice HO486.out; subst eo40; obtain ⟨_,_,_,_,_,_,_,_,_,_⟩ := cz5 BK476.out) | ((with_reducible refine gate_callee (f := 23) rfl ?_); refine goesL_ (some 8) rfl rfl Try.func23 (by kernel_rfl) rfl #[.agg #[.int .i64 a0_0,.int .i64 a0_1,.slice A0_2 l0_2.length c0_2,.int .i64 a0_3,.slice A0_4 l0_4.length c0_4]] rfl (by (try simp only [List.map_toArray,List.map_cons,List.map_nil]); first | done|rfl|(simp only [List.length_drop,List.length_take]; rfl)) ?_; (with_reducible refine (impl_EndOk.calls k a0_0 a0_1 _ _ l0_2 a0_3 _ _ l0_4 false _ ?side1 ?side2 ?side3 ?side4 A3.out).mono ?_); (case side1 => exact Kd.C_below HR0_2.out (bT HB)); (case side2 => exact HC0_2.out); (case side3 => exact Kd.C_below HR0_4.out (bT HB)); (case side4 => exact HC0_4.out); rintro e w42 ⟨rfl,hb⟩; refine ⟨_,rfl,?_⟩; have n0_ := zA (Kd.R_below (rrA18 (Kd.R_mono (zB (p := ⟨gb487,4,none⟩) (zB (p := ⟨gb487,3,none⟩) (zB (p := ⟨gb487,2,none⟩) (zB (p := ⟨gb487,1,none⟩) (zB (p := ⟨gb487,0,none⟩) (Kd.R_types HO482.out BK487.out (by decide)) (fun _ h=>h.2) (.int .i64 t478)) (fun _ h=>h.2) (.int .i64 t479)) (fun _ h=>h.2) (.slice Ao39 t480.length co39)) (fun _ h=>h.2) (.int .i64 t483)) (fun _ h=>h.2) (.slice Ao40 t484.length co40)) (fun _ h_ => h_.1))) hb); have n1_ := zA (Kd.R_below (rrA18 (Kd.R_mono (zB (p := ⟨gb487,4,none⟩) (zB (p := ⟨gb487,3,none⟩) (zB (p := ⟨gb487,2,none⟩) (zB (p := ⟨gb487,1,none⟩) (zB (p := ⟨gb487,0,none⟩) (Kd.R_types HO486.out BK487.out (by decide)) (fun _ h=>h.2) (.int .i64 t478)) (fun _ h=>h.2) (.int .i64 t479)) (fun _ h=>h.2) (.slice Ao39 t480.length co39)) (fun _ h=>h.2) (.int .i64 t483)) (fun _ h=>h.2) (.slice Ao40 t484.length co40)) (fun _ h_ => h_.1))) hb); have n2_ := zA (zF (bkT BK476.out) hb); have n3_ := zA (zF (bkT BK477.out) hb); have n4_ := zA (zF (g := gb487) (o := .cells #[.int .i64 t478,.int .i64 t479,.slice Ao39 t480.length co39,.int .i64 t483,.slice Ao40 t484.length co40] 26 (0,0)) (by (with_reducible repeat (first|refine zC ?_ _|refine zE ?_|refine zD ?_ _)); refine blk_put (cs := #[.int .i64 t478,.int .i64 t479,.slice Ao39 t480.length co39,.int .i64 t483,.slice none 0 0]) ?_ 4 _ rfl; (with_reducible repeat (first|refine zC ?_ _|refine zE ?_|refine zD ?_ _)); refine blk_put (cs := #[.int .i64 t478,.int .i64 t479,.slice Ao39 t480.length co39,.int .i64 0,.slice none 0 0]) ?_ 3 _ rfl; (with_reducible repeat (first|refine zC ?_ _|refine zE ?_|refine zD ?_ _)); refine blk_put (cs := #[.int .i64 t478,.int .i64 t479,.slice none 0 0,.int .i64 0,.slice none 0 0]) ?_ 2 _ rfl; (with_reducible repeat (first|refine zC ?_ _|refine zE ?_|refine zD ?_ _)); refine blk_put (cs := #[.int .i64 t478,.int .i64 0,.slice none 0 0,.int .i64 0,.slice none 0 0]) ?_ 1 _ rfl; (with_reducible repeat (first|refine zC ?_ _|refine zE ?_|refine zD ?_ _)); refine blk_put (cs := #[.int .i64 0,.int .i64 0,.slice none 0 0,.int .i64 0,.slice none 0 0]) ?_ 0 _ rfl; (with_reducible repeat (first|refine zC ?_ _|refine zE ?_|refine zD ?_ _)); exact BK487.out) hb); have n5_ := zA (below_step (bT HB) hb); clear HO482 HO486 BK476 BK477 BK487 HB; have HO482 := n0_; have HO486 := n1_; have BK476 := n2_; have BK477 := n3_; have BK487 := n4_; have HB := n5_; clear n0_ n1_ n2_ n3_ n4_ n5_; obtain ⟨_,_,_,_,_,_,_,_,_,_⟩ := cz5 BK487.out; obtain ⟨_,_,_,_,_,_,_,_,_,_⟩ := cz5 BK477.out))
   refine bodyPost_ret (results_ct rfl _ _ gb477 26 #[.int .i64 t478,.int .i64 t479,.slice Ao39 t480.length co39,.int .i64 t483,.slice Ao40 t484.length co40] (0,0) _ rfl (by (with_reducible repeat (first|refine zC ?_ _|refine zE ?_|refine zD ?_ _)); refine blk_put (cs := #[.int .i64 t478,.int .i64 t479,.slice Ao39 t480.length co39,.int .i64 t483,.slice none 0 0]) ?_ 4 _ rfl; (with_reducible repeat (first|refine zC ?_ _|refine zE ?_|refine zD ?_ _)); refine blk_put (cs := #[.int .i64 t478,.int .i64 t479,.slice Ao39 t480.length co39,.int .i64 0,.slice none 0 0]) ?_ 3 _ rfl; (with_reducible repeat (first|refine zC ?_ _|refine zE ?_|refine zD ?_ _)); refine blk_put (cs := #[.int .i64 t478,.int .i64 t479,.slice none 0 0,.int .i64 0,.slice none 0 0]) ?_ 2 _ rfl; (with_reducible repeat (first|refine zC ?_ _|refine zE ?_|refine zD ?_ _)); refine blk_put (cs := #[.int .i64 t478,.int .i64 0,.slice none 0 0,.int .i64 0,.slice none 0 0]) ?_ 1 _ rfl; (with_reducible repeat (first|refine zC ?_ _|refine zE ?_|refine zD ?_ _)); refine blk_put (cs := #[.int .i64 0,.int .i64 0,.slice none 0 0,.int .i64 0,.slice none 0 0]) ?_ 0 _ rfl; (with_reducible repeat (first|refine zC ?_ _|refine zE ?_|refine zD ?_ _)); exact BK477.out) Try.underlying26 rfl (by kernel_rfl)) rfl ?_
   exact ⟨_,_,_,by first|rfl|(simp [errW_none,errW_some] <;> rfl)|(simp [*,errW_none,errW_some] <;> rfl),by (with_reducible repeat (first|apply Kd.R_alloc|apply Kd.R_drewN|apply Kd.R_drew)); exact Kd.R_mono (zB (p := ⟨gb477,4,none⟩) (zB (p := ⟨gb477,3,none⟩) (zB (p := ⟨gb477,2,none⟩) (zB (p := ⟨gb477,1,none⟩) (zB (p := ⟨gb477,0,none⟩) (Kd.R_types HO482.out BK477.out (by decide)) (fun _ h=>h.2) (.int .i64 t478)) (fun _ h=>h.2) (.int .i64 t479)) (fun _ h=>h.2) (.slice Ao39 t480.length co39)) (fun _ h=>h.2) (.int .i64 t483)) (fun _ h=>h.2) (.slice Ao40 t484.length co40)) (fun _ hk => hk.1),by (with_reducible repeat (first|apply Kd.R_alloc|apply Kd.R_drewN|apply Kd.R_drew)); exact Kd.R_mono (zB (p := ⟨gb477,4,none⟩) (zB (p := ⟨gb477,3,none⟩) (zB (p := ⟨gb477,2,none⟩) (zB (p := ⟨gb477,1,none⟩) (zB (p := ⟨gb477,0,none⟩) (Kd.R_types HO486.out BK477.out (by decide)) (fun _ h=>h.2) (.int .i64 t478)) (fun _ h=>h.2) (.int .i64 t479)) (fun _ h=>h.2) (.slice Ao39 t480.length co39)) (fun _ h=>h.2) (.int .i64 t483)) (fun _ h=>h.2) (.slice Ao40 t484.length co40)) (fun _ hk => hk.1),by first|exact Kd.R_nil _ _ _ _ _|exact Kd.N_nil _ _ _ _ _|exact Kd.V_nil _ _ _ _ _|exact Kd.Q_nil _ _ _ _ _|exact Kd.S_nil _ _ _ _ _,bT HB⟩

end Go.Proofs.Ytlidnobkkgcnlaa.PFnLinks
