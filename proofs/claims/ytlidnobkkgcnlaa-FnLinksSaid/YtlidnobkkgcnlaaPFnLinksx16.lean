-- Written by a program out of the translation,for this claim.
import Derived.Test.YtlidnobkkgcnlaaPFnLinksx0
import Derived.Test.YtlidnobkkgcnlaaPFnLinksx14
import Derived.Test.YtlidnobkkgcnlaaPFnLinksx15
namespace Go.Proofs.Ytlidnobkkgcnlaa.PFnLinks
open Go.RowKit Go.Proofs.YtlidnobkkgcnlaaW.PrintWords Go.Proofs.YtlidnobkkgcnlaaW.PrintLast Go.Proofs.YtlidnobkkgcnlaaW.PrintMore
attribute [local go_sem] max2_int min2_int max_two min_two max_three min_three max_four min_four   -- for this text's walks alone
set_option linter.unusedVariables false
set_option linter.unusedSimpArgs false
theorem rrA16 {p q : Prop} (h : p) (f : p → q := by (intro h_; (with_reducible repeat (first | apply Kd.R_alloc | apply Kd.R_drewN | apply Kd.R_drew)); exact h_)) : q := f h
open Go.Proofs.YtlidnobkkgcnlaaW.PrintWords.Aside0 renaming mk → zA
open Go.Proofs.YtlidnobkkgcnlaaW.PrintWords.Kd renaming R_far → zB
open Go.Proofs.YtlidnobkkgcnlaaW.PrintWords.Kd renaming R_mono → zC
open Go.Proofs.YtlidnobkkgcnlaaW.PrintWords.Kd renaming R_types → zD
open Go.Proofs.YtlidnobkkgcnlaaW.PrintWords renaming blk_drewN → zE
open Go.Proofs.YtlidnobkkgcnlaaW.PrintWords renaming blk_alloc → zF
open Go.Proofs.YtlidnobkkgcnlaaW.PrintWords renaming blk_drew → zG

/-! ### impl_Receive: function 20 -/
mutual
def impl_Receive.j0 : Nat → Bool → Int → Int → List ByteArray → Int → List ByteArray → Int → Int → ByteArray → Int → Int → List ByteArray → Int → List ByteArray → Option (Int × Int × List ByteArray × Int × List ByteArray × Bool)
  | 0,_,_,_,_,_,_,_,_,_,_,_,_,_,_ => none
  | k + 1,x22,x446000,x446001,x446002,x446003,x446004,x447000,x447001,x447002,x458000,x458001,x458002,x458003,x458004 => if x22 = true then (some (x458000,x458001,x458002,x458003,x458004,false)) else (if x447001 > x446001 then (impl_Receive.j1 k (decide (x447001 ≤ x446000)) x446000 x446001 x446002 x446003 x446004 x447000 x447001 x447002 x458000 x458001 x458002 x458003 x458004) else (impl_Receive.j1 k false x446000 x446001 x446002 x446003 x446004 x447000 x447001 x447002 x458000 x458001 x458002 x458003 x458004))
def impl_Receive.j1 : Nat → Bool → Int → Int → List ByteArray → Int → List ByteArray → Int → Int → ByteArray → Int → Int → List ByteArray → Int → List ByteArray → Option (Int × Int × List ByteArray × Int × List ByteArray × Bool)
  | 0,_,_,_,_,_,_,_,_,_,_,_,_,_,_ => none
  | k + 1,x35,x446000,x446001,x446002,x446003,x446004,x447000,x447001,x447002,x458000,x458001,x458002,x458003,x458004 => if x35 = true then (if 0 ≤ (wrap64 (x447001 - x446001)) then (if (wrap64 (x447001 - x446001)) ≤ (x458002.length : Int) then ((some (x458002.drop ((wrap64 (x447001 - x446001)) : Int).toNat : List ByteArray)).bind fun y459 => (if x447000 = (wrap64 (x446003 + 1)) then (if x446003 ≥ 1000 then (some (x458000,x447001,y459,x458003,x458004,false)) else (if x458004.length < 8796093022208 then (some (x458000,x447001,y459,wrap64 (x458003 + 1),(x458004 ++ [x447002]),true)) else (none))) else (some (x458000,x447001,y459,x458003,x458004,false)))) else (none)) else (none)) else (if x447000 = (wrap64 (x446003 + 1)) then (if x446003 ≥ 1000 then (some (x458000,x458001,x458002,x458003,x458004,false)) else (if x458004.length < 8796093022208 then (some (x458000,x458001,x458002,wrap64 (x458003 + 1),(x458004 ++ [x447002]),true)) else (none))) else (some (x458000,x458001,x458002,x458003,x458004,false)))
end
def impl_Receive.f (k : Nat) (a0_0 : Int) (a0_1 : Int) (l0_2 : List ByteArray) (a0_3 : Int) (l0_4 : List ByteArray) (a1_0 : Int) (a1_1 : Int) (a1_2 : ByteArray) : Option (Int × Int × List ByteArray × Int × List ByteArray × Bool) := (impl_copyEnd.f a0_0 a0_1 l0_2 a0_3 l0_4).bind fun bt448 => (if a1_0 < 0 then (impl_Receive.j0 k true a0_0 a0_1 l0_2 a0_3 l0_4 a1_0 a1_1 a1_2 bt448.1 bt448.2.1 bt448.2.2.1 bt448.2.2.2.1 bt448.2.2.2.2) else (if (a1_2.size : Int) > 60 then (impl_Receive.j0 k true a0_0 a0_1 l0_2 a0_3 l0_4 a1_0 a1_1 a1_2 bt448.1 bt448.2.1 bt448.2.2.1 bt448.2.2.2.1 bt448.2.2.2.2) else ((impl_EndOk.f k a0_0 a0_1 l0_2 a0_3 l0_4).bind fun t458 => (impl_Receive.j0 k (!t458) a0_0 a0_1 l0_2 a0_3 l0_4 a1_0 a1_1 a1_2 bt448.1 bt448.2.1 bt448.2.2.1 bt448.2.2.2.1 bt448.2.2.2.2))))
theorem impl_Receive.mono_l : ∀ k,(∀ y0 y1 y2 y3 y4 y5 y6 y7 y8 y9 y10 y11 y12 y13,LeO (impl_Receive.j0 k y0 y1 y2 y3 y4 y5 y6 y7 y8 y9 y10 y11 y12 y13) (impl_Receive.j0 (k + 1) y0 y1 y2 y3 y4 y5 y6 y7 y8 y9 y10 y11 y12 y13)) ∧ (∀ y0 y1 y2 y3 y4 y5 y6 y7 y8 y9 y10 y11 y12 y13,LeO (impl_Receive.j1 k y0 y1 y2 y3 y4 y5 y6 y7 y8 y9 y10 y11 y12 y13) (impl_Receive.j1 (k + 1) y0 y1 y2 y3 y4 y5 y6 y7 y8 y9 y10 y11 y12 y13))
  | 0 => ⟨fun _ _ _ _ _ _ _ _ _ _ _ _ _ _ r h => by simp [impl_Receive.j0] at h,fun _ _ _ _ _ _ _ _ _ _ _ _ _ _ r h => by simp [impl_Receive.j1] at h⟩
  | k + 1 => by
   obtain ⟨ih0,ih1⟩ := impl_Receive.mono_l k
   refine ⟨?_,?_⟩
   ·
    intro y0 y1 y2 y3 y4 y5 y6 y7 y8 y9 y10 y11 y12 y13
    unfold impl_Receive.j0
    repeat' first
   |(with_reducible exact ih0 _ _ _ _ _ _ _ _ _ _ _ _ _ _)
   |(with_reducible exact ih1 _ _ _ _ _ _ _ _ _ _ _ _ _ _)
   |(with_reducible exact impl_EndOk.mono _ _ _ _ _ _)
   |(with_reducible exact LeO.refl _)
   |(with_reducible exact LeO.none _)
   |(with_reducible refine LeO.ite ?_ ?_)
   |(with_reducible refine LeO.bind ?_ (fun _ => ?_))
   |exact ih0 _ _ _ _ _ _ _ _ _ _ _ _ _ _
   |exact ih1 _ _ _ _ _ _ _ _ _ _ _ _ _ _
   |exact impl_EndOk.mono _ _ _ _ _ _
   |exact LeO.none _
   |refine LeO.ite ?_ ?_
   |refine LeO.bind ?_ (fun _ => ?_)
   ·
    intro y0 y1 y2 y3 y4 y5 y6 y7 y8 y9 y10 y11 y12 y13
    unfold impl_Receive.j1
    repeat' first
   |(with_reducible exact ih0 _ _ _ _ _ _ _ _ _ _ _ _ _ _)
   |(with_reducible exact ih1 _ _ _ _ _ _ _ _ _ _ _ _ _ _)
   |(with_reducible exact impl_EndOk.mono _ _ _ _ _ _)
   |(with_reducible exact LeO.refl _)
   |(with_reducible exact LeO.none _)
   |(with_reducible refine LeO.ite ?_ ?_)
   |(with_reducible refine LeO.bind ?_ (fun _ => ?_))
   |exact ih0 _ _ _ _ _ _ _ _ _ _ _ _ _ _
   |exact ih1 _ _ _ _ _ _ _ _ _ _ _ _ _ _
   |exact impl_EndOk.mono _ _ _ _ _ _
   |exact LeO.none _
   |refine LeO.ite ?_ ?_
   |refine LeO.bind ?_ (fun _ => ?_)
theorem impl_Receive.mono : ∀ a0 a1 a2 a3 a4 a5 a6 a7 k,LeO (impl_Receive.f k a0 a1 a2 a3 a4 a5 a6 a7) (impl_Receive.f (k + 1) a0 a1 a2 a3 a4 a5 a6 a7) := by
  intro a0 a1 a2 a3 a4 a5 a6 a7 k
  obtain ⟨ih0,ih1⟩ := impl_Receive.mono_l k
  unfold impl_Receive.f
  repeat' first
   |(with_reducible exact ih0 _ _ _ _ _ _ _ _ _ _ _ _ _ _)
   |(with_reducible exact ih1 _ _ _ _ _ _ _ _ _ _ _ _ _ _)
   |(with_reducible exact impl_EndOk.mono _ _ _ _ _ _)
   |(with_reducible exact LeO.refl _)
   |(with_reducible exact LeO.none _)
   |(with_reducible refine LeO.ite ?_ ?_)
   |(with_reducible refine LeO.bind ?_ (fun _ => ?_))
   |exact ih0 _ _ _ _ _ _ _ _ _ _ _ _ _ _
   |exact ih1 _ _ _ _ _ _ _ _ _ _ _ _ _ _
   |exact impl_EndOk.mono _ _ _ _ _ _
   |exact LeO.none _
   |refine LeO.ite ?_ ?_
   |refine LeO.bind ?_ (fun _ => ?_)
set_option maxHeartbeats 8000000 in
set_option maxRecDepth 100000 in
theorem impl_Receive.calls (k : Nat) (a0_0 : Int) (a0_1 : Int) (A0_2 : Option Addr) (c0_2 : Nat) (l0_2 : List ByteArray) (a0_3 : Int) (A0_4 : Option Addr) (c0_4 : Nat) (l0_4 : List ByteArray) (a1_0 : Int) (a1_1 : Int) (a1_2 : ByteArray) (r1 : Int) (r2 : Int) (r3 : List ByteArray) (r4 : Int) (r5 : List ByteArray) (r6 : Bool) (w : World) (hr0_2 : Kd.C Kd.string w A0_2 l0_2.length l0_2) (hc0_2 : l0_2.length ≤ c0_2) (hr0_4 : Kd.C Kd.string w A0_4 l0_4.length l0_4) (hc0_4 : l0_4.length ≤ c0_4) (h : impl_Receive.f k a0_0 a0_1 l0_2 a0_3 l0_4 a1_0 a1_1 a1_2 = some (r1,r2,r3,r4,r5,r6)) :
   Calls Try.prog 20 #[.agg #[.int .i64 a0_0,.int .i64 a0_1,.slice A0_2 l0_2.length c0_2,.int .i64 a0_3,.slice A0_4 l0_4.length c0_4],.agg #[.int .i64 a1_0,.int .i64 a1_1,.string a1_2]] w fun e w' => ∃ v2_ v4_ : Value,e = .returned (.tuple #[.agg #[.int .i64 r1,.int .i64 r2,v2_,.int .i64 r4,v4_],.bool r6]) ∧ Kd.Q Kd.string 9 w' w.heap.size (fun k_ => some k_ ≠ (v4_ : Value).ownBlock) v2_ r3 ∧ Kd.R Kd.string 9 w' w.heap.size (fun k_ => some k_ ≠ (v2_ : Value).ownBlock) v4_ r5 ∧ Below w.heap.size w w' := by
  have hu26 := Try.underlying26
  have hu36 := Try.underlying36
  have HR0_2 := zA hr0_2
  have HC0_2 := zA hc0_2
  clear hr0_2 hc0_2
  have HR0_4 := zA hr0_4
  have HC0_4 := zA hc0_4
  clear hr0_4 hc0_4
  have HB := zA (Below.refl w.heap.size w)
  have H : ((impl_copyEnd.f a0_0 a0_1 l0_2 a0_3 l0_4).bind fun bt448 => (if a1_0 < 0 then (impl_Receive.j0 k true a0_0 a0_1 l0_2 a0_3 l0_4 a1_0 a1_1 a1_2 bt448.1 bt448.2.1 bt448.2.2.1 bt448.2.2.2.1 bt448.2.2.2.2) else (if (a1_2.size : Int) > 60 then (impl_Receive.j0 k true a0_0 a0_1 l0_2 a0_3 l0_4 a1_0 a1_1 a1_2 bt448.1 bt448.2.1 bt448.2.2.1 bt448.2.2.2.1 bt448.2.2.2.2) else ((impl_EndOk.f k a0_0 a0_1 l0_2 a0_3 l0_4).bind fun t458 => (impl_Receive.j0 k (!t458) a0_0 a0_1 l0_2 a0_3 l0_4 a1_0 a1_1 a1_2 bt448.1 bt448.2.1 bt448.2.2.1 bt448.2.2.2.1 bt448.2.2.2.2))))) = some (r1,r2,r3,r4,r5,r6) := h
  clear h
  replace H := Option.bind_eq_some_iff.mp H
  obtain ⟨⟨t448,t449,t450,t453,t454⟩,A30,H⟩ := H
  replace H : (if a1_0 < 0 then (impl_Receive.j0 k true a0_0 a0_1 l0_2 a0_3 l0_4 a1_0 a1_1 a1_2 t448 t449 t450 t453 t454) else (if (a1_2.size : Int) > 60 then (impl_Receive.j0 k true a0_0 a0_1 l0_2 a0_3 l0_4 a1_0 a1_1 a1_2 t448 t449 t450 t453 t454) else ((impl_EndOk.f k a0_0 a0_1 l0_2 a0_3 l0_4).bind fun t458 => (impl_Receive.j0 k (!t458) a0_0 a0_1 l0_2 a0_3 l0_4 a1_0 a1_1 a1_2 t448 t449 t450 t453 t454)))) = some (r1,r2,r3,r4,r5,r6) := H
  have A3 := zA A30
  clear A30
  have HC4 := zA H
  clear H
  go_enter Try.func20,Try.ntmps20
  go_upto_region 2 with (first | ((with_reducible refine gate_dst (N := 2) rfl ?_); (try (refine gate_guard (by rfl) ?_; dsimp only)); refine box_event ?hg (N := 2) ?hd (cs := #[.int .i64 a0_0,.int .i64 a0_1,.slice A0_2 l0_2.length c0_2,.int .i64 a0_3,.slice A0_4 l0_4.length c0_4]) (t := 26) ?hr ?_; (case hd => rfl); (case hg => rfl); (case hr => first | (go_simp; done) | (go_simp; rfl)); intro gb445 hg w5 hbox hb; have n0_ := zA (below_step (bT HB) hb); have n1_ := zA (hbox); have n2_ := zA ((by rw [hg]; exact (below_size (bT HB)) : w.heap.size ≤ gb445)); have n3_ := zA ((by rw [hg]; exact (below_size (bT HB)) : w.heap.size ≤ gb445)); clear HB; have HB := n0_; have BK445 := n1_; have GW445 := n2_; have GE445 := n3_; clear n0_ n1_ n2_ n3_ hb hbox hg) | ((with_reducible refine gate_dst (N := 3) rfl ?_); (try (refine gate_guard (by rfl) ?_; dsimp only)); refine box_event ?hg (N := 3) ?hd (cs := #[.int .i64 a1_0,.int .i64 a1_1,.string a1_2]) (t := 36) ?hr ?_; (case hd => rfl); (case hg => rfl); (case hr => first | (go_simp; done) | (go_simp; rfl)); intro gb446 hg w6 hbox hb; have n0_ := zA (blk_below (bkT BK445.out) hb); have n1_ := zA (below_step (bT HB) hb); have n2_ := zA (hbox); have n3_ := zA ((by rw [hg]; exact (below_size (bT HB)) : w.heap.size ≤ gb446)); have n4_ := zA ((by rw [hg]; exact (below_size (bT HB)) : w.heap.size ≤ gb446)); have n5_ := zA ((by rw [hg]; exact Nat.ne_of_lt (blk_lt (g := gb445) (o := .cells #[.int .i64 a0_0,.int .i64 a0_1,.slice A0_2 l0_2.length c0_2,.int .i64 a0_3,.slice A0_4 l0_4.length c0_4] 26 (0,0)) (bkT BK445.out)) : gb445 ≠ gb446)); have n6_ := zA ((by rw [hg]; exact Nat.ne_of_gt (blk_lt (g := gb445) (o := .cells #[.int .i64 a0_0,.int .i64 a0_1,.slice A0_2 l0_2.length c0_2,.int .i64 a0_3,.slice A0_4 l0_4.length c0_4] 26 (0,0)) (bkT BK445.out)) : gb446 ≠ gb445)); clear BK445 HB; have BK445 := n0_; have HB := n1_; have BK446 := n2_; have GW446 := n3_; have GE446 := n4_; have NB445_446 := n5_; have NB446_445 := n6_; clear n0_ n1_ n2_ n3_ n4_ n5_ n6_ hb hbox hg) | ((with_reducible refine gate_dst (N := 4) rfl ?_); (try (refine gate_guard (by rfl) ?_; dsimp only)); refine box_event ?hg (N := 4) ?hd (cs := #[.int .i64 0,.int .i64 0,.slice none 0 0,.int .i64 0,.slice none 0 0]) (t := 26) ?hr ?_; (case hd => rfl); (case hg => rfl); (case hr => first | (go_simp; done) | (go_simp; rfl)); intro gb447 hg w7 hbox hb; have n0_ := zA (blk_below (bkT BK445.out) hb); have n1_ := zA (blk_below (bkT BK446.out) hb); have n2_ := zA (below_step (bT HB) hb); have n3_ := zA (hbox); have n4_ := zA ((by rw [hg]; exact (below_size (bT HB)) : w.heap.size ≤ gb447)); have n5_ := zA ((by rw [hg]; exact (below_size (bT HB)) : w.heap.size ≤ gb447)); have n6_ := zA ((by rw [hg]; exact Nat.ne_of_lt (blk_lt (g := gb445) (o := .cells #[.int .i64 a0_0,.int .i64 a0_1,.slice A0_2 l0_2.length c0_2,.int .i64 a0_3,.slice A0_4 l0_4.length c0_4] 26 (0,0)) (bkT BK445.out)) : gb445 ≠ gb447)); have n7_ := zA ((by rw [hg]; exact Nat.ne_of_gt (blk_lt (g := gb445) (o := .cells #[.int .i64 a0_0,.int .i64 a0_1,.slice A0_2 l0_2.length c0_2,.int .i64 a0_3,.slice A0_4 l0_4.length c0_4] 26 (0,0)) (bkT BK445.out)) : gb447 ≠ gb445)); have n8_ := zA ((by rw [hg]; exact Nat.ne_of_lt (blk_lt (g := gb446) (o := .cells #[.int .i64 a1_0,.int .i64 a1_1,.string a1_2] 36 (0,0)) (bkT BK446.out)) : gb446 ≠ gb447)); have n9_ := zA ((by rw [hg]; exact Nat.ne_of_gt (blk_lt (g := gb446) (o := .cells #[.int .i64 a1_0,.int .i64 a1_1,.string a1_2] 36 (0,0)) (bkT BK446.out)) : gb447 ≠ gb446)); clear BK445 BK446 HB; have BK445 := n0_; have BK446 := n1_; have HB := n2_; have BK447 := n3_; have GW447 := n4_; have GE447 := n5_; have NB445_447 := n6_; have NB447_445 := n7_; have NB446_447 := n8_; have NB447_446 := n9_; clear n0_ n1_ n2_ n3_ n4_ n5_ n6_ n7_ n8_ n9_ hb hbox hg; have hnb8 := NB445_446.out; have hnc8 := NB446_445.out; have hnb9 := NB445_447.out; have hnc9 := NB447_445.out; obtain ⟨_,_,_,_,_,_,_,_,_,_⟩ := cz5 BK445.out) | ((with_reducible refine gate_callee (f := 46) rfl ?_); refine goesL_ (some 8) rfl rfl Try.func46 (by kernel_rfl) rfl #[.agg #[.int .i64 a0_0,.int .i64 a0_1,.slice A0_2 l0_2.length c0_2,.int .i64 a0_3,.slice A0_4 l0_4.length c0_4]] rfl (by (try simp only [List.map_toArray,List.map_cons,List.map_nil]); first | done|rfl|(simp only [List.length_drop,List.length_take]; rfl)) ?_; (with_reducible refine (impl_copyEnd.calls a0_0 a0_1 _ _ l0_2 a0_3 _ _ l0_4 t448 t449 t450 t453 t454 _ ?side1 ?side2 ?side3 ?side4 A3.out).mono ?_); (case side1 => exact ccT (Kd.C_below HR0_2.out HB.out)); (case side2 => exact HC0_2.out); (case side3 => exact ccT (Kd.C_below HR0_4.out HB.out)); (case side4 => exact HC0_4.out); rintro e w11 ⟨v451,v455,rfl,ho0,ho1,hb⟩; refine ⟨_,rfl,?_⟩; have n0_ := zA (Kd.R_lower ho0 (below_size (bT HB))); have n1_ := zA (Kd.R_lower ho1 (below_size (bT HB))); have n2_ := zA (blk_below (bkT BK445.out) hb); have n3_ := zA (blk_below (bkT BK446.out) hb); have n4_ := zA (blk_below (bkT BK447.out) hb); have n5_ := zA (below_step (bT HB) hb); clear BK445 BK446 BK447 HB; have HO452 := n0_; have HO456 := n1_; have BK445 := n2_; have BK446 := n3_; have BK447 := n4_; have HB := n5_; clear n0_ n1_ n2_ n3_ n4_ n5_) | ((with_reducible refine gate_dst (N := 6) rfl ?_); (try (refine gate_guard (by rfl) ?_; dsimp only)); refine box_event ?hg (N := 6) ?hd (cs := #[.int .i64 0,.int .i64 0,.slice none 0 0,.int .i64 0,.slice none 0 0]) (t := 26) ?hr ?_; (case hd => rfl); (case hg => rfl); (case hr => first | (go_simp; done) | (go_simp; rfl)); intro gb457 hg w12 hbox hb; have n0_ := zA (Kd.R_below (rrA16 HO452.out) hb); have n1_ := zA (Kd.R_below (rrA16 HO456.out) hb); have n2_ := zA (blk_below (bkT BK445.out) hb); have n3_ := zA (blk_below (bkT BK446.out) hb); have n4_ := zA (blk_below (bkT BK447.out) hb); have n5_ := zA (below_step (bT HB) hb); have n6_ := zA (hbox); have n7_ := zA ((by rw [hg]; exact (below_size (bT HB)) : w.heap.size ≤ gb457)); have n8_ := zA ((by rw [hg]; exact (below_size (bT HB)) : w.heap.size ≤ gb457)); have n9_ := zA ((by rw [hg]; exact Nat.ne_of_lt (blk_lt (g := gb445) (o := .cells #[.int .i64 a0_0,.int .i64 a0_1,.slice A0_2 l0_2.length c0_2,.int .i64 a0_3,.slice A0_4 l0_4.length c0_4] 26 (0,0)) (bkT BK445.out)) : gb445 ≠ gb457)); have n10_ := zA ((by rw [hg]; exact Nat.ne_of_gt (blk_lt (g := gb445) (o := .cells #[.int .i64 a0_0,.int .i64 a0_1,.slice A0_2 l0_2.length c0_2,.int .i64 a0_3,.slice A0_4 l0_4.length c0_4] 26 (0,0)) (bkT BK445.out)) : gb457 ≠ gb445)); have n11_ := zA ((by rw [hg]; exact Nat.ne_of_lt (blk_lt (g := gb446) (o := .cells #[.int .i64 a1_0,.int .i64 a1_1,.string a1_2] 36 (0,0)) (bkT BK446.out)) : gb446 ≠ gb457)); have n12_ := zA ((by rw [hg]; exact Nat.ne_of_gt (blk_lt (g := gb446) (o := .cells #[.int .i64 a1_0,.int .i64 a1_1,.string a1_2] 36 (0,0)) (bkT BK446.out)) : gb457 ≠ gb446)); have n13_ := zA ((by rw [hg]; exact Nat.ne_of_lt (blk_lt (g := gb447) (o := .cells #[.int .i64 0,.int .i64 0,.slice none 0 0,.int .i64 0,.slice none 0 0] 26 (0,0)) (bkT BK447.out)) : gb447 ≠ gb457)); have n14_ := zA ((by rw [hg]; exact Nat.ne_of_gt (blk_lt (g := gb447) (o := .cells #[.int .i64 0,.int .i64 0,.slice none 0 0,.int .i64 0,.slice none 0 0] 26 (0,0)) (bkT BK447.out)) : gb457 ≠ gb447)); clear HO452 HO456 BK445 BK446 BK447 HB; have HO452 := n0_; have HO456 := n1_; have BK445 := n2_; have BK446 := n3_; have BK447 := n4_; have HB := n5_; have BK457 := n6_; have GW457 := n7_; have GE457 := n8_; have NB445_457 := n9_; have NB457_445 := n10_; have NB446_457 := n11_; have NB457_446 := n12_; have NB447_457 := n13_; have NB457_447 := n14_; clear n0_ n1_ n2_ n3_ n4_ n5_ n6_ n7_ n8_ n9_ n10_ n11_ n12_ n13_ n14_ hb hbox hg; have hnb13 := NB457_445.out; have hnc13 := NB445_457.out; have hnb14 := NB457_446.out; have hnc14 := NB446_457.out; have hnb15 := NB457_447.out; have hnc15 := NB447_457.out; obtain ⟨_,_,_,_,_,_,_,_,_,_⟩ := cz5 BK457.out; obtain ⟨Ao17,co17,eo17⟩ := Kd.R_slice HO452.out; subst eo17; obtain ⟨Ao18,co18,eo18⟩ := Kd.R_slice HO456.out; subst eo18))
  (try simp only [Act.put,List.setIfInBounds_toArray,List.set_cons_zero,List.set_cons_succ])
  go_cut [22] (fun v22 wc => ∃ (kq : Nat) (x22_3 : Bool),v22 = .bool x22_3 ∧ Aside0 (impl_Receive.j0 kq x22_3 a0_0 a0_1 l0_2 a0_3 l0_4 a1_0 a1_1 a1_2 t448 t449 t450 t453 t454 = some (r1,r2,r3,r4,r5,r6)) ∧ Aside0 (kq ≤ k) ∧ Aside0 (Kd.Q Kd.string 9 wc w.heap.size (fun k_ => some k_ ≠ ((.slice Ao18 t454.length co18) : Value).ownBlock) (.slice Ao17 t450.length co17) t450) ∧ Aside0 (Kd.R Kd.string 9 wc w.heap.size (fun k_ => some k_ ≠ ((.slice Ao17 t450.length co17) : Value).ownBlock) (.slice Ao18 t454.length co18) t454) ∧ Aside0 (wc.heap[gb445]? = some (.cells #[.int .i64 a0_0,.int .i64 a0_1,(.slice A0_2 l0_2.length c0_2),.int .i64 a0_3,(.slice A0_4 l0_4.length c0_4)] 26 (0,0))) ∧ Aside0 (wc.heap[gb446]? = some (.cells #[.int .i64 a1_0,.int .i64 a1_1,.string a1_2] 36 (0,0))) ∧ Aside0 (wc.heap[gb447]? = some (.cells #[.int .i64 0,.int .i64 0,(.slice none 0 0),.int .i64 0,(.slice none 0 0)] 26 (0,0))) ∧ Aside0 (wc.heap[gb457]? = some (.cells #[.int .i64 t448,.int .i64 t449,(.slice Ao17 t450.length co17),.int .i64 t453,(.slice Ao18 t454.length co18)] 26 (0,0))) ∧ Aside0 (Below w.heap.size w wc))
  case first =>
   have H := HC4.out
   clear HC4
   by_cases c19 : a1_0 < 0
   ·
    rw [if_pos c19] at H
    have c19b0 : decide (a1_0 < 0) = true := decide_eq_true c19
    clear c19
    (first | rw [c19b0]|(simp only [i64_w,i32_w]; rw [c19b0])|skip)
    have H' := zA H
    clear H
    have hnb20 := NB446_445.out
    have hnc20 := NB445_446.out
    have hnb21 := NB446_447.out
    have hnc21 := NB447_446.out
    have hnb22 := NB446_457.out
    have hnc22 := NB457_446.out
    obtain ⟨_,_,_,_,_,_⟩ := cz3 BK446.out
    go_wp2
    go_meet
    case rel => exact ⟨_,(true),(by first|rfl|(simp; done)|(simp [*]; done)),H',⟨by first|omega|exact Nat.le_refl _⟩,⟨Kd.Q_of_R (by (with_reducible repeat (first|apply Kd.R_alloc|apply Kd.R_drewN|apply Kd.R_drew)); exact zC (zB (p := ⟨gb457,4,none⟩) (zB (p := ⟨gb457,3,none⟩) (zB (p := ⟨gb457,2,none⟩) (zB (p := ⟨gb457,1,none⟩) (zB (p := ⟨gb457,0,none⟩) (zD HO452.out BK457.out (by decide)) (fun _ h=>h.2) (.int .i64 t448)) (fun _ h=>h.2) (.int .i64 t449)) (fun _ h=>h.2) (.slice Ao17 t450.length co17)) (fun _ h=>h.2) (.int .i64 t453)) (fun _ h=>h.2) (.slice Ao18 t454.length co18)) (fun _ hk => hk.1))⟩,⟨by (with_reducible repeat (first|apply Kd.R_alloc|apply Kd.R_drewN|apply Kd.R_drew)); exact zC (zB (p := ⟨gb457,4,none⟩) (zB (p := ⟨gb457,3,none⟩) (zB (p := ⟨gb457,2,none⟩) (zB (p := ⟨gb457,1,none⟩) (zB (p := ⟨gb457,0,none⟩) (zD HO456.out BK457.out (by decide)) (fun _ h=>h.2) (.int .i64 t448)) (fun _ h=>h.2) (.int .i64 t449)) (fun _ h=>h.2) (.slice Ao17 t450.length co17)) (fun _ h=>h.2) (.int .i64 t453)) (fun _ h=>h.2) (.slice Ao18 t454.length co18)) (fun _ hk => hk.1)⟩,⟨(bkT BK445.out)⟩,⟨(bkT BK446.out)⟩,⟨(bkT BK447.out)⟩,⟨by (with_reducible repeat (first|refine zE ?_ _|refine zG ?_|refine zF ?_ _)); refine blk_put (cs := #[.int .i64 t448,.int .i64 t449,.slice Ao17 t450.length co17,.int .i64 t453,.slice none 0 0]) ?_ 4 _ rfl; (with_reducible repeat (first|refine zE ?_ _|refine zG ?_|refine zF ?_ _)); refine blk_put (cs := #[.int .i64 t448,.int .i64 t449,.slice Ao17 t450.length co17,.int .i64 0,.slice none 0 0]) ?_ 3 _ rfl; (with_reducible repeat (first|refine zE ?_ _|refine zG ?_|refine zF ?_ _)); refine blk_put (cs := #[.int .i64 t448,.int .i64 t449,.slice none 0 0,.int .i64 0,.slice none 0 0]) ?_ 2 _ rfl; (with_reducible repeat (first|refine zE ?_ _|refine zG ?_|refine zF ?_ _)); refine blk_put (cs := #[.int .i64 t448,.int .i64 0,.slice none 0 0,.int .i64 0,.slice none 0 0]) ?_ 1 _ rfl; (with_reducible repeat (first|refine zE ?_ _|refine zG ?_|refine zF ?_ _)); refine blk_put (cs := #[.int .i64 0,.int .i64 0,.slice none 0 0,.int .i64 0,.slice none 0 0]) ?_ 0 _ rfl; (with_reducible repeat (first|refine zE ?_ _|refine zG ?_|refine zF ?_ _)); exact BK457.out⟩,⟨bT HB⟩⟩
   ·
    rw [if_neg c19] at H
    have c19b0 : decide (a1_0 < 0) = false := decide_eq_false c19
    clear c19
    (first | rw [c19b0]|(simp only [i64_w,i32_w]; rw [c19b0])|skip)
    by_cases c24 : (a1_2.size : Int) > 60
    ·
     rw [if_pos c24] at H
     have c24b0 : decide (60 < (a1_2.size : Int)) = true := decide_eq_true c24
     have c24b1 : decide (60 < a1_2.size) = true := decide_eq_true (by omega)
     clear c24
     have H' := zA H
     clear H
     have hnb25 := NB446_445.out
     have hnc25 := NB445_446.out
     have hnb26 := NB446_447.out
     have hnc26 := NB447_446.out
     have hnb27 := NB446_457.out
     have hnc27 := NB457_446.out
     obtain ⟨_,_,_,_,_,_⟩ := cz3 BK446.out
     go_wp2
     go_meet
     case rel => exact ⟨_,(true),(by first|rfl|(simp; done)|(simp [*]; done)),H',⟨by first|omega|exact Nat.le_refl _⟩,⟨Kd.Q_of_R (by (with_reducible repeat (first|apply Kd.R_alloc|apply Kd.R_drewN|apply Kd.R_drew)); exact zC (zB (p := ⟨gb457,4,none⟩) (zB (p := ⟨gb457,3,none⟩) (zB (p := ⟨gb457,2,none⟩) (zB (p := ⟨gb457,1,none⟩) (zB (p := ⟨gb457,0,none⟩) (zD HO452.out BK457.out (by decide)) (fun _ h=>h.2) (.int .i64 t448)) (fun _ h=>h.2) (.int .i64 t449)) (fun _ h=>h.2) (.slice Ao17 t450.length co17)) (fun _ h=>h.2) (.int .i64 t453)) (fun _ h=>h.2) (.slice Ao18 t454.length co18)) (fun _ hk => hk.1))⟩,⟨by (with_reducible repeat (first|apply Kd.R_alloc|apply Kd.R_drewN|apply Kd.R_drew)); exact zC (zB (p := ⟨gb457,4,none⟩) (zB (p := ⟨gb457,3,none⟩) (zB (p := ⟨gb457,2,none⟩) (zB (p := ⟨gb457,1,none⟩) (zB (p := ⟨gb457,0,none⟩) (zD HO456.out BK457.out (by decide)) (fun _ h=>h.2) (.int .i64 t448)) (fun _ h=>h.2) (.int .i64 t449)) (fun _ h=>h.2) (.slice Ao17 t450.length co17)) (fun _ h=>h.2) (.int .i64 t453)) (fun _ h=>h.2) (.slice Ao18 t454.length co18)) (fun _ hk => hk.1)⟩,⟨(bkT BK445.out)⟩,⟨(bkT BK446.out)⟩,⟨(bkT BK447.out)⟩,⟨by (with_reducible repeat (first|refine zE ?_ _|refine zG ?_|refine zF ?_ _)); refine blk_put (cs := #[.int .i64 t448,.int .i64 t449,.slice Ao17 t450.length co17,.int .i64 t453,.slice none 0 0]) ?_ 4 _ rfl; (with_reducible repeat (first|refine zE ?_ _|refine zG ?_|refine zF ?_ _)); refine blk_put (cs := #[.int .i64 t448,.int .i64 t449,.slice Ao17 t450.length co17,.int .i64 0,.slice none 0 0]) ?_ 3 _ rfl; (with_reducible repeat (first|refine zE ?_ _|refine zG ?_|refine zF ?_ _)); refine blk_put (cs := #[.int .i64 t448,.int .i64 t449,.slice none 0 0,.int .i64 0,.slice none 0 0]) ?_ 2 _ rfl; (with_reducible repeat (first|refine zE ?_ _|refine zG ?_|refine zF ?_ _)); refine blk_put (cs := #[.int .i64 t448,.int .i64 0,.slice none 0 0,.int .i64 0,.slice none 0 0]) ?_ 1 _ rfl; (with_reducible repeat (first|refine zE ?_ _|refine zG ?_|refine zF ?_ _)); refine blk_put (cs := #[.int .i64 0,.int .i64 0,.slice none 0 0,.int .i64 0,.slice none 0 0]) ?_ 0 _ rfl; (with_reducible repeat (first|refine zE ?_ _|refine zG ?_|refine zF ?_ _)); exact BK457.out⟩,⟨bT HB⟩⟩
    ·
     rw [if_neg c24] at H
     have c24b0 : decide (60 < (a1_2.size : Int)) = false := decide_eq_false c24
     have c24b1 : decide (60 < a1_2.size) = false := decide_eq_false (by omega)
     clear c24
     replace H := Option.bind_eq_some_iff.mp H
     obtain ⟨t458,A290,H⟩ := H
     replace H : (impl_Receive.j0 k (!t458) a0_0 a0_1 l0_2 a0_3 l0_4 a1_0 a1_1 a1_2 t448 t449 t450 t453 t454) = some (r1,r2,r3,r4,r5,r6) := H
     have A29 := zA A290
     clear A290
     have H' := zA H
     clear H
     have hnb30 := NB446_445.out
     have hnc30 := NB445_446.out
     have hnb31 := NB446_447.out
     have hnc31 := NB447_446.out
     have hnb32 := NB446_457.out
     have hnc32 := NB457_446.out
     obtain ⟨_,_,_,_,_,_⟩ := cz3 BK446.out
     have hnb34 := NB445_447.out
     have hnc34 := NB447_445.out
     have hnb35 := NB445_457.out
     have hnc35 := NB457_445.out
     obtain ⟨_,_,_,_,_,_,_,_,_,_⟩ := cz5 BK445.out
     go_wp2_with (first | (go_at_call 23; (with_reducible refine (impl_EndOk.calls k a0_0 a0_1 _ _ l0_2 a0_3 _ _ l0_4 t458 _ ?side1 ?side2 ?side3 ?side4 A29.out).mono ?_); (case side1 => exact Kd.C_below HR0_2.out (bT HB)); (case side2 => exact HC0_2.out); (case side3 => exact Kd.C_below HR0_4.out (bT HB)); (case side4 => exact HC0_4.out); rintro e w37 ⟨rfl,hb⟩; have n0_ := zA (Kd.R_below (rrA16 (zC (zB (p := ⟨gb457,4,none⟩) (zB (p := ⟨gb457,3,none⟩) (zB (p := ⟨gb457,2,none⟩) (zB (p := ⟨gb457,1,none⟩) (zB (p := ⟨gb457,0,none⟩) (zD HO452.out BK457.out (by decide)) (fun _ h=>h.2) (.int .i64 t448)) (fun _ h=>h.2) (.int .i64 t449)) (fun _ h=>h.2) (.slice Ao17 t450.length co17)) (fun _ h=>h.2) (.int .i64 t453)) (fun _ h=>h.2) (.slice Ao18 t454.length co18)) (fun _ h_ => h_.1))) hb); have n1_ := zA (Kd.R_below (rrA16 (zC (zB (p := ⟨gb457,4,none⟩) (zB (p := ⟨gb457,3,none⟩) (zB (p := ⟨gb457,2,none⟩) (zB (p := ⟨gb457,1,none⟩) (zB (p := ⟨gb457,0,none⟩) (zD HO456.out BK457.out (by decide)) (fun _ h=>h.2) (.int .i64 t448)) (fun _ h=>h.2) (.int .i64 t449)) (fun _ h=>h.2) (.slice Ao17 t450.length co17)) (fun _ h=>h.2) (.int .i64 t453)) (fun _ h=>h.2) (.slice Ao18 t454.length co18)) (fun _ h_ => h_.1))) hb); have n2_ := zA (blk_below (bkT BK445.out) hb); have n3_ := zA (blk_below (bkT BK446.out) hb); have n4_ := zA (blk_below (bkT BK447.out) hb); have n5_ := zA (blk_below (g := gb457) (o := .cells #[.int .i64 t448,.int .i64 t449,.slice Ao17 t450.length co17,.int .i64 t453,.slice Ao18 t454.length co18] 26 (0,0)) (by (with_reducible repeat (first|refine zE ?_ _|refine zG ?_|refine zF ?_ _)); refine blk_put (cs := #[.int .i64 t448,.int .i64 t449,.slice Ao17 t450.length co17,.int .i64 t453,.slice none 0 0]) ?_ 4 _ rfl; (with_reducible repeat (first|refine zE ?_ _|refine zG ?_|refine zF ?_ _)); refine blk_put (cs := #[.int .i64 t448,.int .i64 t449,.slice Ao17 t450.length co17,.int .i64 0,.slice none 0 0]) ?_ 3 _ rfl; (with_reducible repeat (first|refine zE ?_ _|refine zG ?_|refine zF ?_ _)); refine blk_put (cs := #[.int .i64 t448,.int .i64 t449,.slice none 0 0,.int .i64 0,.slice none 0 0]) ?_ 2 _ rfl; (with_reducible repeat (first|refine zE ?_ _|refine zG ?_|refine zF ?_ _)); refine blk_put (cs := #[.int .i64 t448,.int .i64 0,.slice none 0 0,.int .i64 0,.slice none 0 0]) ?_ 1 _ rfl; (with_reducible repeat (first|refine zE ?_ _|refine zG ?_|refine zF ?_ _)); refine blk_put (cs := #[.int .i64 0,.int .i64 0,.slice none 0 0,.int .i64 0,.slice none 0 0]) ?_ 0 _ rfl; (with_reducible repeat (first|refine zE ?_ _|refine zG ?_|refine zF ?_ _)); exact BK457.out) hb); have n6_ := zA (below_step (bT HB) hb); clear HO452 HO456 BK445 BK446 BK447 BK457 HB; have HO452 := n0_; have HO456 := n1_; have BK445 := n2_; have BK446 := n3_; have BK447 := n4_; have BK457 := n5_; have HB := n6_; clear n0_ n1_ n2_ n3_ n4_ n5_ n6_))
     go_meet
     case rel => exact ⟨_,(!t458),(by first|rfl|(simp; done)|(simp [*]; done)),H',⟨by first|omega|exact Nat.le_refl _⟩,⟨Kd.Q_of_R (rrA16 HO452.out)⟩,⟨(rrA16 HO456.out)⟩,⟨(bkT BK445.out)⟩,⟨(bkT BK446.out)⟩,⟨(bkT BK447.out)⟩,⟨(bkT BK457.out)⟩,⟨bT HB⟩⟩
  case rest =>
   clear HC4
   obtain ⟨kq,x22_3,rfl,HA,HJ3,HO_458002,HO_458004,BK445,BK446,BK447,BK457,HB⟩ := hcut
   cases kq with
   | zero => exact absurd HA.out (by simp [impl_Receive.j0])
   | succ kj3 =>
    have H := HA.out
    clear HA
    simp only [impl_Receive.j0] at H
    by_cases c38 : x22_3 = true
    ·
     subst c38
     have H1 : (some (t448,t449,t450,t453,t454,false)) = some (r1,r2,r3,r4,r5,r6) := by rw [if_pos rfl] at H; exact H
     clear H; have H := H1; clear H1
     simp only [Option.some.injEq,Prod.mk.injEq] at H
     obtain ⟨rfl,rfl,rfl,rfl,rfl,rfl⟩ := H
     have hnb39 := NB457_445.out
     have hnc39 := NB445_457.out
     have hnb40 := NB457_446.out
     have hnc40 := NB446_457.out
     have hnb41 := NB457_447.out
     have hnc41 := NB447_457.out
     obtain ⟨_,_,_,_,_,_,_,_,_,_⟩ := cz5 BK457.out
     have hnb43 := NB447_445.out
     have hnc43 := NB445_447.out
     have hnb44 := NB447_446.out
     have hnc44 := NB446_447.out
     obtain ⟨_,_,_,_,_,_,_,_,_,_⟩ := cz5 BK447.out
     go_wp2
     refine bodyPost_ret (results_ct rfl _ _ gb447 26 #[.int .i64 t448,.int .i64 t449,.slice Ao17 t450.length co17,.int .i64 t453,.slice Ao18 t454.length co18] (0,0) _ rfl (by (with_reducible repeat (first|refine zE ?_ _|refine zG ?_|refine zF ?_ _)); refine blk_put (cs := #[.int .i64 t448,.int .i64 t449,.slice Ao17 t450.length co17,.int .i64 t453,.slice none 0 0]) ?_ 4 _ rfl; (with_reducible repeat (first|refine zE ?_ _|refine zG ?_|refine zF ?_ _)); refine blk_put (cs := #[.int .i64 t448,.int .i64 t449,.slice Ao17 t450.length co17,.int .i64 0,.slice none 0 0]) ?_ 3 _ rfl; (with_reducible repeat (first|refine zE ?_ _|refine zG ?_|refine zF ?_ _)); refine blk_put (cs := #[.int .i64 t448,.int .i64 t449,.slice none 0 0,.int .i64 0,.slice none 0 0]) ?_ 2 _ rfl; (with_reducible repeat (first|refine zE ?_ _|refine zG ?_|refine zF ?_ _)); refine blk_put (cs := #[.int .i64 t448,.int .i64 0,.slice none 0 0,.int .i64 0,.slice none 0 0]) ?_ 1 _ rfl; (with_reducible repeat (first|refine zE ?_ _|refine zG ?_|refine zF ?_ _)); refine blk_put (cs := #[.int .i64 0,.int .i64 0,.slice none 0 0,.int .i64 0,.slice none 0 0]) ?_ 0 _ rfl; (with_reducible repeat (first|refine zE ?_ _|refine zG ?_|refine zF ?_ _)); exact BK447.out) Try.underlying26 rfl (by kernel_rfl)) rfl ?_
     exact ⟨_,_,by first|rfl|(simp [errW_none,errW_some] <;> rfl)|(simp [*,errW_none,errW_some] <;> rfl),by (with_reducible repeat (first|apply Kd.Q_alloc|apply Kd.Q_drewN|apply Kd.Q_drew)); exact Kd.Q_mono (Kd.Q_far (p := ⟨gb447,4,none⟩) (Kd.Q_far (p := ⟨gb447,3,none⟩) (Kd.Q_far (p := ⟨gb447,2,none⟩) (Kd.Q_far (p := ⟨gb447,1,none⟩) (Kd.Q_far (p := ⟨gb447,0,none⟩) (Kd.Q_types HO_458002.out BK447.out (by decide)) (fun _ h=>h.2) (.int .i64 t448)) (fun _ h=>h.2) (.int .i64 t449)) (fun _ h=>h.2) (.slice Ao17 t450.length co17)) (fun _ h=>h.2) (.int .i64 t453)) (fun _ h=>h.2) (.slice Ao18 t454.length co18)) (fun _ hk => hk.1),by (with_reducible repeat (first|apply Kd.R_alloc|apply Kd.R_drewN|apply Kd.R_drew)); exact zC (zB (p := ⟨gb447,4,none⟩) (zB (p := ⟨gb447,3,none⟩) (zB (p := ⟨gb447,2,none⟩) (zB (p := ⟨gb447,1,none⟩) (zB (p := ⟨gb447,0,none⟩) (zD HO_458004.out BK447.out (by decide)) (fun _ h=>h.2) (.int .i64 t448)) (fun _ h=>h.2) (.int .i64 t449)) (fun _ h=>h.2) (.slice Ao17 t450.length co17)) (fun _ h=>h.2) (.int .i64 t453)) (fun _ h=>h.2) (.slice Ao18 t454.length co18)) (fun _ hk => hk.1),bT HB⟩
    ·
     replace c38 := Bool.eq_false_iff.mpr c38
     subst c38
     have H1 : (if a1_1 > a0_1 then (impl_Receive.j1 kj3 (decide (a1_1 ≤ a0_0)) a0_0 a0_1 l0_2 a0_3 l0_4 a1_0 a1_1 a1_2 t448 t449 t450 t453 t454) else (impl_Receive.j1 kj3 false a0_0 a0_1 l0_2 a0_3 l0_4 a1_0 a1_1 a1_2 t448 t449 t450 t453 t454)) = some (r1,r2,r3,r4,r5,r6) := by rw [if_neg (show ¬ (false = true) by decide)] at H; exact H
     clear H; have H := H1; clear H1
     have HC46 := zA H
     clear H
     go_upto_region 4 with (fail)
     go_cut [35] (fun v35 wc => ∃ (kq : Nat) (x35_45 : Bool),v35 = .bool x35_45 ∧ Aside0 (impl_Receive.j1 kq x35_45 a0_0 a0_1 l0_2 a0_3 l0_4 a1_0 a1_1 a1_2 t448 t449 t450 t453 t454 = some (r1,r2,r3,r4,r5,r6)) ∧ Aside0 (kq ≤ kj3) ∧ Aside0 (Kd.Q Kd.string 9 wc w.heap.size (fun k_ => some k_ ≠ ((.slice Ao18 t454.length co18) : Value).ownBlock) (.slice Ao17 t450.length co17) t450) ∧ Aside0 (Kd.R Kd.string 9 wc w.heap.size (fun k_ => some k_ ≠ ((.slice Ao17 t450.length co17) : Value).ownBlock) (.slice Ao18 t454.length co18) t454) ∧ Aside0 (wc.heap[gb445]? = some (.cells #[.int .i64 a0_0,.int .i64 a0_1,(.slice A0_2 l0_2.length c0_2),.int .i64 a0_3,(.slice A0_4 l0_4.length c0_4)] 26 (0,0))) ∧ Aside0 (wc.heap[gb446]? = some (.cells #[.int .i64 a1_0,.int .i64 a1_1,.string a1_2] 36 (0,0))) ∧ Aside0 (wc.heap[gb447]? = some (.cells #[.int .i64 0,.int .i64 0,(.slice none 0 0),.int .i64 0,(.slice none 0 0)] 26 (0,0))) ∧ Aside0 (wc.heap[gb457]? = some (.cells #[.int .i64 t448,.int .i64 t449,(.slice Ao17 t450.length co17),.int .i64 t453,(.slice Ao18 t454.length co18)] 26 (0,0))) ∧ Aside0 (Below w.heap.size w wc))
     case first =>
      have H := HC46.out
      clear HC46
      by_cases c47 : a1_1 > a0_1
      ·
       rw [if_pos c47] at H
       have c47b0 : decide (a0_1 < a1_1) = true := decide_eq_true c47
       clear c47
       (first | rw [c47b0]|(simp only [i64_w,i32_w]; rw [c47b0])|skip)
       have H' := zA H
       clear H
       have hnb48 := NB446_445.out
       have hnc48 := NB445_446.out
       have hnb49 := NB446_447.out
       have hnc49 := NB447_446.out
       have hnb50 := NB446_457.out
       have hnc50 := NB457_446.out
       obtain ⟨_,_,_,_,_,_⟩ := cz3 BK446.out
       have hnb52 := NB445_447.out
       have hnc52 := NB447_445.out
       have hnb53 := NB445_457.out
       have hnc53 := NB457_445.out
       obtain ⟨_,_,_,_,_,_,_,_,_,_⟩ := cz5 BK445.out
       go_wp2
       go_meet
       case rel => exact ⟨_,(decide (a1_1 ≤ a0_0)),(by first|rfl|(simp; done)|(simp [*]; done)),H',⟨by have := HJ3.out; first|omega|exact Nat.le_refl _⟩,⟨(rrQ HO_458002.out)⟩,⟨(rrA16 HO_458004.out)⟩,⟨(bkT BK445.out)⟩,⟨(bkT BK446.out)⟩,⟨(bkT BK447.out)⟩,⟨(bkT BK457.out)⟩,⟨bT HB⟩⟩
      ·
       rw [if_neg c47] at H
       have c47b0 : decide (a0_1 < a1_1) = false := decide_eq_false c47
       clear c47
       (first | rw [c47b0]|(simp only [i64_w,i32_w]; rw [c47b0])|skip)
       have H' := zA H
       clear H
       have hnb55 := NB446_445.out
       have hnc55 := NB445_446.out
       have hnb56 := NB446_447.out
       have hnc56 := NB447_446.out
       have hnb57 := NB446_457.out
       have hnc57 := NB457_446.out
       obtain ⟨_,_,_,_,_,_⟩ := cz3 BK446.out
       have hnb59 := NB445_447.out
       have hnc59 := NB447_445.out
       have hnb60 := NB445_457.out
       have hnc60 := NB457_445.out
       obtain ⟨_,_,_,_,_,_,_,_,_,_⟩ := cz5 BK445.out
       go_wp2
       go_meet
       case rel => exact ⟨_,(false),(by first|rfl|(simp; done)|(simp [*]; done)),H',⟨by have := HJ3.out; first|omega|exact Nat.le_refl _⟩,⟨(rrQ HO_458002.out)⟩,⟨(rrA16 HO_458004.out)⟩,⟨(bkT BK445.out)⟩,⟨(bkT BK446.out)⟩,⟨(bkT BK447.out)⟩,⟨(bkT BK457.out)⟩,⟨bT HB⟩⟩
     case rest =>
      clear HC46
      obtain ⟨kq,x35_45,rfl,HA,HJ45,HO_458002,HO_458004,BK445,BK446,BK447,BK457,HB⟩ := hcut
      cases kq with
      | zero => exact absurd HA.out (by simp [impl_Receive.j1])
      | succ kj45 =>
       have H := HA.out
       clear HA
       simp only [impl_Receive.j1] at H
       by_cases c62 : x35_45 = true
       ·
        subst c62
        have H1 : (if 0 ≤ (wrap64 (a1_1 - a0_1)) then (if (wrap64 (a1_1 - a0_1)) ≤ (t450.length : Int) then ((some (t450.drop ((wrap64 (a1_1 - a0_1)) : Int).toNat : List ByteArray)).bind fun y459 => (if a1_0 = (wrap64 (a0_3 + 1)) then (if a0_3 ≥ 1000 then (some (t448,a1_1,y459,t453,t454,false)) else (if t454.length < 8796093022208 then (some (t448,a1_1,y459,wrap64 (t453 + 1),(t454 ++ [a1_2]),true)) else (none))) else (some (t448,a1_1,y459,t453,t454,false)))) else (none)) else (none)) = some (r1,r2,r3,r4,r5,r6) := by rw [if_pos rfl] at H; exact H
        clear H; have H := H1; clear H1
        obtain ⟨ji63,hji63⟩ : ∃ j_ : Int,(wrap64 (a1_1 - a0_1)) = j_ := ⟨_,rfl⟩
        replace H : (if 0 ≤ (ji63) then (if (ji63) ≤ (t450.length : Int) then ((some (t450.drop ((ji63) : Int).toNat : List ByteArray)).bind fun y459 => (if a1_0 = (wrap64 (a0_3 + 1)) then (if a0_3 ≥ 1000 then (some (t448,a1_1,y459,t453,t454,false)) else (if t454.length < 8796093022208 then (some (t448,a1_1,y459,wrap64 (t453 + 1),(t454 ++ [a1_2]),true)) else (none))) else (some (t448,a1_1,y459,t453,t454,false)))) else (none)) else (none)) = some (r1,r2,r3,r4,r5,r6) := by first | (rw [hji63] at H; exact H)|(simp only [hji63] at H ⊢; exact H)
        have hji63w : (IntKind.i64.wrap (a1_1 - a0_1)) = ji63 := (i64_w _).trans hji63
        by_cases c64 : 0 ≤ (ji63)
        ·
         rw [if_pos c64] at H
         have c64b0 := eq_true c64
         have c64b1 : decide (0 ≤ (ji63)) = true := decide_eq_true c64
         clear c64
         by_cases c65 : (ji63) ≤ (t450.length : Int)
         ·
          rw [if_pos c65] at H
          have c65b0 := eq_true c65
          have c65b1 : decide ((ji63) ≤ (t450.length : Int)) = true := decide_eq_true c65
          clear c65
          obtain ⟨y459,hy459⟩ : ∃ y_ : List ByteArray,y_ = (t450.drop ((ji63) : Int).toNat) := ⟨_,rfl⟩
          replace H : (if a1_0 = (wrap64 (a0_3 + 1)) then (if a0_3 ≥ 1000 then (some (t448,a1_1,y459,t453,t454,false)) else (if t454.length < 8796093022208 then (some (t448,a1_1,y459,wrap64 (t453 + 1),(t454 ++ [a1_2]),true)) else (none))) else (some (t448,a1_1,y459,t453,t454,false))) = some (r1,r2,r3,r4,r5,r6) := by first | (rw [hy459]; with_reducible exact H) | (have H2_ := (Option.bind_some _ _).symm.trans H; rw [hy459]; with_reducible exact H2_) | (have H2_ := (Option.bind_some _ _).symm.trans H; with_reducible exact H2_)|with_reducible exact H | (rw [hy459]; exact H)|exact H
          have Ny459 := zA hy459
          clear hy459
          by_cases c66 : a1_0 = (wrap64 (a0_3 + 1))
          ·
           rw [if_pos c66] at H
           have c66b0 : (a1_0 == (wrap64 (a0_3 + 1))) = true := beq_iff_eq.mpr c66
           have c66b1 : (a1_0 != (wrap64 (a0_3 + 1))) = false := bne_eq_false_iff_eq.mpr c66
           clear c66
           by_cases c67 : a0_3 ≥ 1000
           ·
            rw [if_pos c67] at H
            have c67b0 : decide (1000 ≤ a0_3) = true := decide_eq_true c67
            clear c67
            simp only [Option.some.injEq,Prod.mk.injEq] at H
            obtain ⟨rfl,rfl,rfl,rfl,rfl,rfl⟩ := H
            have hnb68 := NB457_445.out
            have hnc68 := NB445_457.out
            have hnb69 := NB457_446.out
            have hnc69 := NB446_457.out
            have hnb70 := NB457_447.out
            have hnc70 := NB447_457.out
            obtain ⟨_,_,_,_,_,_,_,_,_,_⟩ := cz5 BK457.out
            have hnb72 := NB446_445.out
            have hnc72 := NB445_446.out
            have hnb73 := NB446_447.out
            have hnc73 := NB447_446.out
            obtain ⟨_,_,_,_,_,_⟩ := cz3 BK446.out
            have hnb75 := NB445_447.out
            have hnc75 := NB447_445.out
            obtain ⟨_,_,_,_,_,_,_,_,_,_⟩ := cz5 BK445.out
            have q77 : ((ji63) : Int) ≤ ((t450.length : Int) : Int) := of_decide_eq_true (by first|(with_reducible assumption) | assumption)
            obtain ⟨i077,hi077,_,hsz77,_⟩ := info_parts info9
            have hcut77 := cut_from (P := Try.prog) 22 9 .i64 Try.underlying22 hi077 1 hsz77 Ao17 t450.length co17 (ji63) (of_decide_eq_true (by first|(with_reducible assumption) | assumption)) q77
            have hr77 := Kd.Q_drop (k := ((ji63) : Int).toNat) HO_458002.out (by omega)
            obtain ⟨A77,hA77⟩ : ∃ A1,A1 = (if co17 = ((ji63) : Int).toNat then Ao17 else (Ao17 : Option Addr).map (·.add (((ji63) : Int).toNat * 1))) := ⟨_,rfl⟩
            obtain ⟨c77,hc77⟩ : ∃ c1,c1 = co17 - ((ji63) : Int).toNat := ⟨_,rfl⟩
            have hy77 : y459.length = t450.length - ((ji63) : Int).toNat := (by rw [Ny459.out,List.length_drop])
            rw [← Ny459.out] at hr77
            rw [← hy77,← hA77,← hc77] at hcut77
            replace hr77 : Kd.Q Kd.string 9 wc w.heap.size (fun k_ => some k_ ≠ (.slice Ao18 t454.length co18 : Value).ownBlock) (.slice A77 y459.length c77) y459 := (by rw [hA77,hc77,hy77]; exact hr77)
            have HE77 : Aside0 ((Value.slice A77 y459.length c77).ownBlock = (.slice Ao17 t450.length co17 : Value).ownBlock) := ⟨by rw [hA77]; split <;> (cases (Ao17 : Option Addr) <;> first|rfl|(simp only [Option.map_some,Value.ownBlock]; unfold Addr.add; split <;> rfl))⟩
            clear hy77 hi077 hsz77 HO_458002 hA77 hc77
            have HO461 := zA hr77
            clear hr77
            replace q77 := eq_true q77
            have n_ := zA (zC (ok' := fun k_ => some k_ ≠ (.slice A77 y459.length c77 : Value).ownBlock) HO_458004.out (fun k_ hk => (by rw [HE77.out]; exact hk)))
            clear HO_458004
            have HO_458004 := n_
            clear n_
            obtain ⟨_,_,_,_,_,_,_,_,_,_⟩ := cz5 BK447.out
            go_wp2
            refine bodyPost_ret (results_ct rfl _ _ gb447 26 #[.int .i64 t448,.int .i64 a1_1,.slice A77 y459.length c77,.int .i64 t453,.slice Ao18 t454.length co18] (0,0) _ rfl (by (with_reducible repeat (first|refine zE ?_ _|refine zG ?_|refine zF ?_ _)); refine blk_put (cs := #[.int .i64 t448,.int .i64 a1_1,.slice A77 y459.length c77,.int .i64 t453,.slice none 0 0]) ?_ 4 _ rfl; (with_reducible repeat (first|refine zE ?_ _|refine zG ?_|refine zF ?_ _)); refine blk_put (cs := #[.int .i64 t448,.int .i64 a1_1,.slice A77 y459.length c77,.int .i64 0,.slice none 0 0]) ?_ 3 _ rfl; (with_reducible repeat (first|refine zE ?_ _|refine zG ?_|refine zF ?_ _)); refine blk_put (cs := #[.int .i64 t448,.int .i64 a1_1,.slice none 0 0,.int .i64 0,.slice none 0 0]) ?_ 2 _ rfl; (with_reducible repeat (first|refine zE ?_ _|refine zG ?_|refine zF ?_ _)); refine blk_put (cs := #[.int .i64 t448,.int .i64 0,.slice none 0 0,.int .i64 0,.slice none 0 0]) ?_ 1 _ rfl; (with_reducible repeat (first|refine zE ?_ _|refine zG ?_|refine zF ?_ _)); refine blk_put (cs := #[.int .i64 0,.int .i64 0,.slice none 0 0,.int .i64 0,.slice none 0 0]) ?_ 0 _ rfl; (with_reducible repeat (first|refine zE ?_ _|refine zG ?_|refine zF ?_ _)); refine blk_far ?_ NB447_457.out _; (with_reducible repeat (first|refine zE ?_ _|refine zG ?_|refine zF ?_ _)); refine blk_far ?_ NB447_457.out _; (with_reducible repeat (first|refine zE ?_ _|refine zG ?_|refine zF ?_ _)); exact BK447.out) Try.underlying26 rfl (by kernel_rfl)) rfl ?_
            exact ⟨_,_,by first|rfl|(simp [errW_none,errW_some] <;> rfl)|(simp only [← hji63]; first|rfl|(simp [errW_none,errW_some] <;> rfl))|(simp [*,errW_none,errW_some] <;> rfl),by (with_reducible repeat (first|apply Kd.Q_alloc|apply Kd.Q_drewN|apply Kd.Q_drew)); exact Kd.Q_mono (Kd.Q_far (p := ⟨gb447,4,none⟩) (Kd.Q_far (p := ⟨gb447,3,none⟩) (Kd.Q_far (p := ⟨gb447,2,none⟩) (Kd.Q_far (p := ⟨gb447,1,none⟩) (Kd.Q_far (p := ⟨gb447,0,none⟩) (Kd.Q_far (p := ⟨gb457,1,none⟩) (Kd.Q_far (p := ⟨gb457,2,none⟩) (Kd.Q_types (Kd.Q_types HO461.out BK457.out (by decide)) BK447.out (by decide)) (fun _ hk => hk.1.2) (.slice A77 y459.length c77)) (fun _ hk => hk.1.2) (.int .i64 a1_1)) (fun _ h=>h.2) (.int .i64 t448)) (fun _ h=>h.2) (.int .i64 a1_1)) (fun _ h=>h.2) (.slice A77 y459.length c77)) (fun _ h=>h.2) (.int .i64 t453)) (fun _ h=>h.2) (.slice Ao18 t454.length co18)) (fun _ hk => hk.1.1),by (with_reducible repeat (first|apply Kd.R_alloc|apply Kd.R_drewN|apply Kd.R_drew)); exact zC (zB (p := ⟨gb447,4,none⟩) (zB (p := ⟨gb447,3,none⟩) (zB (p := ⟨gb447,2,none⟩) (zB (p := ⟨gb447,1,none⟩) (zB (p := ⟨gb447,0,none⟩) (zB (p := ⟨gb457,1,none⟩) (zB (p := ⟨gb457,2,none⟩) (zD (zD HO_458004.out BK457.out (by decide)) BK447.out (by decide)) (fun _ hk => hk.1.2) (.slice A77 y459.length c77)) (fun _ hk => hk.1.2) (.int .i64 a1_1)) (fun _ h=>h.2) (.int .i64 t448)) (fun _ h=>h.2) (.int .i64 a1_1)) (fun _ h=>h.2) (.slice A77 y459.length c77)) (fun _ h=>h.2) (.int .i64 t453)) (fun _ h=>h.2) (.slice Ao18 t454.length co18)) (fun _ hk => hk.1.1),bT HB⟩
           ·
            rw [if_neg c67] at H
            have c67b0 : decide (1000 ≤ a0_3) = false := decide_eq_false c67
            clear c67
            by_cases c79 : t454.length < 8796093022208
            ·
             rw [if_pos c79] at H
             have LMc79 := zA c79
             clear c79
             obtain ⟨y462,hy462⟩ : ∃ y_ : List ByteArray,y_ = (t454 ++ [a1_2]) := ⟨_,rfl⟩
             replace H : (some (t448,a1_1,y459,wrap64 (t453 + 1),y462,true)) = some (r1,r2,r3,r4,r5,r6) := by first | (rw [hy462]; with_reducible exact H) | (have H2_ := (Option.bind_some _ _).symm.trans H; rw [hy462]; with_reducible exact H2_) | (have H2_ := (Option.bind_some _ _).symm.trans H; with_reducible exact H2_)|with_reducible exact H | (rw [hy462]; exact H)|exact H
             have Ny462 := zA hy462
             clear hy462
             simp only [Option.some.injEq,Prod.mk.injEq] at H
             obtain ⟨rfl,rfl,rfl,rfl,rfl,rfl⟩ := H
             have hnb80 := NB457_445.out
             have hnc80 := NB445_457.out
             have hnb81 := NB457_446.out
             have hnc81 := NB446_457.out
             have hnb82 := NB457_447.out
             have hnc82 := NB447_457.out
             obtain ⟨_,_,_,_,_,_,_,_,_,_⟩ := cz5 BK457.out
             have hnb84 := NB446_445.out
             have hnc84 := NB445_446.out
             have hnb85 := NB446_447.out
             have hnc85 := NB447_446.out
             obtain ⟨_,_,_,_,_,_⟩ := cz3 BK446.out
             have hnb87 := NB445_447.out
             have hnc87 := NB447_445.out
             obtain ⟨_,_,_,_,_,_,_,_,_,_⟩ := cz5 BK445.out
             have q89 : ((ji63) : Int) ≤ ((t450.length : Int) : Int) := of_decide_eq_true (by first|(with_reducible assumption) | assumption)
             obtain ⟨i089,hi089,_,hsz89,_⟩ := info_parts info9
             have hcut89 := cut_from (P := Try.prog) 22 9 .i64 Try.underlying22 hi089 1 hsz89 Ao17 t450.length co17 (ji63) (of_decide_eq_true (by first|(with_reducible assumption) | assumption)) q89
             have hr89 := Kd.Q_drop (k := ((ji63) : Int).toNat) HO_458002.out (by omega)
             obtain ⟨A89,hA89⟩ : ∃ A1,A1 = (if co17 = ((ji63) : Int).toNat then Ao17 else (Ao17 : Option Addr).map (·.add (((ji63) : Int).toNat * 1))) := ⟨_,rfl⟩
             obtain ⟨c89,hc89⟩ : ∃ c1,c1 = co17 - ((ji63) : Int).toNat := ⟨_,rfl⟩
             have hy89 : y459.length = t450.length - ((ji63) : Int).toNat := (by rw [Ny459.out,List.length_drop])
             rw [← Ny459.out] at hr89
             rw [← hy89,← hA89,← hc89] at hcut89
             replace hr89 : Kd.Q Kd.string 9 wc w.heap.size (fun k_ => some k_ ≠ (.slice Ao18 t454.length co18 : Value).ownBlock) (.slice A89 y459.length c89) y459 := (by rw [hA89,hc89,hy89]; exact hr89)
             have HE89 : Aside0 ((Value.slice A89 y459.length c89).ownBlock = (.slice Ao17 t450.length co17 : Value).ownBlock) := ⟨by rw [hA89]; split <;> (cases (Ao17 : Option Addr) <;> first|rfl|(simp only [Option.map_some,Value.ownBlock]; unfold Addr.add; split <;> rfl))⟩
             clear hy89 hi089 hsz89 HO_458002 hA89 hc89
             have HO461 := zA hr89
             clear hr89
             replace q89 := eq_true q89
             have n_ := zA (zC (ok' := fun k_ => some k_ ≠ (.slice A89 y459.length c89 : Value).ownBlock) HO_458004.out (fun k_ hk => (by rw [HE89.out]; exact hk)))
             clear HO_458004
             have HO_458004 := n_
             clear n_
             go_wp2_with (first | ((with_reducible refine gate_builtin (b := .append) (xs := #[.tmp 61,.tmp 64]) rfl ?_); (try (refine gate_guard (by rfl) ?_; dsimp only)); at_builtin; refine Kd.R_append Kd.string (w0 := w) w.heap.size rfl (.tmp 61) (.tmp 64) 22 9 (.string ⟨#[]⟩) 16 rfl Try.underlying22 info9 rfl (by decide) (by omega) (.slice Ao18 t454.length co18) t454 a1_2 [.string a1_2] (fun k_ => some k_ ≠ (.slice A89 y459.length c89 : Value).ownBlock) (fun _ => False) rfl (by first | (go_simp; done) | (go_simp; rfl)) ?aP (fun _ hk => hk.elim) ?aF ?aO ?aB ?aS ?aL ?_; (case aP => exact rfl); (case aB => exact (bT HB)); (case aF => exact (fun k_ hk => Kd.fresh' (Kd.Q_lt (by (with_reducible repeat (first|apply Kd.Q_alloc|apply Kd.Q_drewN|apply Kd.Q_drew)); exact (Kd.Q_mono (Kd.Q_far (p := ⟨gb457,1,none⟩) (Kd.Q_far (p := ⟨gb457,2,none⟩) (Kd.Q_types HO461.out BK457.out (by decide)) (fun _ h=>h.2) (.slice A89 y459.length c89)) (fun _ h=>h.2) (.int .i64 a1_1)) (fun _ h_ => h_.1)))) k_ hk)); (case aO => exact (by (with_reducible repeat (first|apply Kd.R_alloc|apply Kd.R_drewN|apply Kd.R_drew)); exact zC (zB (p := ⟨gb457,1,none⟩) (zB (p := ⟨gb457,2,none⟩) (zD HO_458004.out BK457.out (by decide)) (fun _ h=>h.2) (.slice A89 y459.length c89)) (fun _ h=>h.2) (.int .i64 a1_1)) (fun _ hk => hk.1))); (case aS => exact (below_size (bT HB))); (case aL => have := LMc79.out; omega); intro v463 w90 ho hb hg hat; rw [← Ny462.out] at ho; have n0_ := zA (Kd.Q_after (ok := (fun _ => True)) (by (with_reducible repeat (first|apply Kd.Q_alloc|apply Kd.Q_drewN|apply Kd.Q_drew)); exact Kd.Q_mono (Kd.Q_far (p := ⟨gb457,1,none⟩) (Kd.Q_far (p := ⟨gb457,2,none⟩) (Kd.Q_types HO461.out BK457.out (by decide)) (fun _ h=>h.2) (.slice A89 y459.length c89)) (fun _ h=>h.2) (.int .i64 a1_1)) (fun _ hk => ⟨trivial,hk.1⟩)) hg hat); have n1_ := zA (blk_grown (bkT BK445.out) hg (Kd.R_ne HO_458004.out BK445.out (by decide))); have n2_ := zA (blk_grown (bkT BK446.out) hg (Kd.R_ne HO_458004.out BK446.out (by decide))); have n3_ := zA (blk_grown (bkT BK447.out) hg (Kd.R_ne HO_458004.out BK447.out (by decide))); have n4_ := zA (blk_grown (g := gb457) (o := .cells #[.int .i64 t448,.int .i64 a1_1,.slice A89 y459.length c89,.int .i64 t453,.slice Ao18 t454.length co18] 26 (0,0)) (by (with_reducible repeat (first|refine zE ?_ _|refine zG ?_|refine zF ?_ _)); refine blk_put (cs := #[.int .i64 t448,.int .i64 t449,.slice A89 y459.length c89,.int .i64 t453,.slice Ao18 t454.length co18]) ?_ 1 _ rfl; (with_reducible repeat (first|refine zE ?_ _|refine zG ?_|refine zF ?_ _)); refine blk_put (cs := #[.int .i64 t448,.int .i64 t449,.slice Ao17 t450.length co17,.int .i64 t453,.slice Ao18 t454.length co18]) ?_ 2 _ rfl; (with_reducible repeat (first|refine zE ?_ _|refine zG ?_|refine zF ?_ _)); exact BK457.out) hg (Kd.R_ne HO_458004.out BK457.out (by decide))); have n5_ := zA (hb); have n6_ := zA (ho); clear HO461 BK445 BK446 BK447 BK457 HB HO_458004; have HO461 := n0_; have BK445 := n1_; have BK446 := n2_; have BK447 := n3_; have BK457 := n4_; have HB := n5_; have HO464 := n6_; clear n0_ n1_ n2_ n3_ n4_ n5_ n6_ ho hb hg hat; obtain ⟨Ao91,co91,eo91⟩ := Kd.R_slice HO464.out; subst eo91; obtain ⟨_,_,_,_,_,_,_,_,_,_⟩ := cz5 BK457.out; obtain ⟨_,_,_,_,_,_,_,_,_,_⟩ := cz5 BK447.out))
             refine bodyPost_ret (results_ct rfl _ _ gb447 26 #[.int .i64 t448,.int .i64 a1_1,.slice A89 y459.length c89,.int .i64 (wrap64 (t453 + 1)),.slice Ao91 y462.length co91] (0,0) _ rfl (by (with_reducible repeat (first|refine zE ?_ _|refine zG ?_|refine zF ?_ _)); refine blk_put (cs := #[.int .i64 t448,.int .i64 a1_1,.slice A89 y459.length c89,.int .i64 (wrap64 (t453 + 1)),.slice none 0 0]) ?_ 4 _ rfl; (with_reducible repeat (first|refine zE ?_ _|refine zG ?_|refine zF ?_ _)); refine blk_put (cs := #[.int .i64 t448,.int .i64 a1_1,.slice A89 y459.length c89,.int .i64 0,.slice none 0 0]) ?_ 3 _ rfl; (with_reducible repeat (first|refine zE ?_ _|refine zG ?_|refine zF ?_ _)); refine blk_put (cs := #[.int .i64 t448,.int .i64 a1_1,.slice none 0 0,.int .i64 0,.slice none 0 0]) ?_ 2 _ rfl; (with_reducible repeat (first|refine zE ?_ _|refine zG ?_|refine zF ?_ _)); refine blk_put (cs := #[.int .i64 t448,.int .i64 0,.slice none 0 0,.int .i64 0,.slice none 0 0]) ?_ 1 _ rfl; (with_reducible repeat (first|refine zE ?_ _|refine zG ?_|refine zF ?_ _)); refine blk_put (cs := #[.int .i64 0,.int .i64 0,.slice none 0 0,.int .i64 0,.slice none 0 0]) ?_ 0 _ rfl; (with_reducible repeat (first|refine zE ?_ _|refine zG ?_|refine zF ?_ _)); refine blk_far ?_ NB447_457.out _; (with_reducible repeat (first|refine zE ?_ _|refine zG ?_|refine zF ?_ _)); refine blk_far ?_ NB447_457.out _; (with_reducible repeat (first|refine zE ?_ _|refine zG ?_|refine zF ?_ _)); exact BK447.out) Try.underlying26 rfl (by kernel_rfl)) rfl ?_
             exact ⟨_,_,by first|rfl|(simp [errW_none,errW_some] <;> rfl)|(simp only [← hji63]; first|rfl|(simp [errW_none,errW_some] <;> rfl))|(simp [*,errW_none,errW_some] <;> rfl),by (with_reducible repeat (first|apply Kd.Q_alloc|apply Kd.Q_drewN|apply Kd.Q_drew)); exact Kd.Q_mono (Kd.Q_far (p := ⟨gb447,4,none⟩) (Kd.Q_far (p := ⟨gb447,3,none⟩) (Kd.Q_far (p := ⟨gb447,2,none⟩) (Kd.Q_far (p := ⟨gb447,1,none⟩) (Kd.Q_far (p := ⟨gb447,0,none⟩) (Kd.Q_far (p := ⟨gb457,3,none⟩) (Kd.Q_far (p := ⟨gb457,4,none⟩) (Kd.Q_types (Kd.Q_types HO461.out BK457.out (by decide)) BK447.out (by decide)) (fun _ hk => hk.1.2) (.slice Ao91 y462.length co91)) (fun _ hk => hk.1.2) (.int .i64 (wrap64 (t453 + 1)))) (fun _ h=>h.2) (.int .i64 t448)) (fun _ h=>h.2) (.int .i64 a1_1)) (fun _ h=>h.2) (.slice A89 y459.length c89)) (fun _ h=>h.2) (.int .i64 (wrap64 (t453 + 1)))) (fun _ h=>h.2) (.slice Ao91 y462.length co91)) (fun _ hk => hk.1.1.2),by (with_reducible repeat (first|apply Kd.R_alloc|apply Kd.R_drewN|apply Kd.R_drew)); exact zC (zB (p := ⟨gb447,4,none⟩) (zB (p := ⟨gb447,3,none⟩) (zB (p := ⟨gb447,2,none⟩) (zB (p := ⟨gb447,1,none⟩) (zB (p := ⟨gb447,0,none⟩) (zB (p := ⟨gb457,3,none⟩) (zB (p := ⟨gb457,4,none⟩) (zD (zD HO464.out BK457.out (by decide)) BK447.out (by decide)) (fun _ hk => hk.1.2) (.slice Ao91 y462.length co91)) (fun _ hk => hk.1.2) (.int .i64 (wrap64 (t453 + 1)))) (fun _ h=>h.2) (.int .i64 t448)) (fun _ h=>h.2) (.int .i64 a1_1)) (fun _ h=>h.2) (.slice A89 y459.length c89)) (fun _ h=>h.2) (.int .i64 (wrap64 (t453 + 1)))) (fun _ h=>h.2) (.slice Ao91 y462.length co91)) (fun _ hk => hk.1.1),bT HB⟩
            ·
             rw [if_neg c79] at H
             exact absurd H (by simp)
          ·
           rw [if_neg c66] at H
           have c66b0 : (a1_0 == (wrap64 (a0_3 + 1))) = false := beq_eq_false_iff_ne.mpr c66
           have c66b1 : (a1_0 != (wrap64 (a0_3 + 1))) = true := bne_iff_ne.mpr c66
           simp only [Option.some.injEq,Prod.mk.injEq] at H
           obtain ⟨rfl,rfl,rfl,rfl,rfl,rfl⟩ := H
           have hnb94 := NB457_445.out
           have hnc94 := NB445_457.out
           have hnb95 := NB457_446.out
           have hnc95 := NB446_457.out
           have hnb96 := NB457_447.out
           have hnc96 := NB447_457.out
           obtain ⟨_,_,_,_,_,_,_,_,_,_⟩ := cz5 BK457.out
           have hnb98 := NB446_445.out
           have hnc98 := NB445_446.out
           have hnb99 := NB446_447.out
           have hnc99 := NB447_446.out
           obtain ⟨_,_,_,_,_,_⟩ := cz3 BK446.out
           have hnb101 := NB445_447.out
           have hnc101 := NB447_445.out
           obtain ⟨_,_,_,_,_,_,_,_,_,_⟩ := cz5 BK445.out
           have q103 : ((ji63) : Int) ≤ ((t450.length : Int) : Int) := of_decide_eq_true (by first|(with_reducible assumption) | assumption)
           obtain ⟨i0103,hi0103,_,hsz103,_⟩ := info_parts info9
           have hcut103 := cut_from (P := Try.prog) 22 9 .i64 Try.underlying22 hi0103 1 hsz103 Ao17 t450.length co17 (ji63) (of_decide_eq_true (by first|(with_reducible assumption) | assumption)) q103
           have hr103 := Kd.Q_drop (k := ((ji63) : Int).toNat) HO_458002.out (by omega)
           obtain ⟨A103,hA103⟩ : ∃ A1,A1 = (if co17 = ((ji63) : Int).toNat then Ao17 else (Ao17 : Option Addr).map (·.add (((ji63) : Int).toNat * 1))) := ⟨_,rfl⟩
           obtain ⟨c103,hc103⟩ : ∃ c1,c1 = co17 - ((ji63) : Int).toNat := ⟨_,rfl⟩
           have hy103 : y459.length = t450.length - ((ji63) : Int).toNat := (by rw [Ny459.out,List.length_drop])
           rw [← Ny459.out] at hr103
           rw [← hy103,← hA103,← hc103] at hcut103
           replace hr103 : Kd.Q Kd.string 9 wc w.heap.size (fun k_ => some k_ ≠ (.slice Ao18 t454.length co18 : Value).ownBlock) (.slice A103 y459.length c103) y459 := (by rw [hA103,hc103,hy103]; exact hr103)
           have HE103 : Aside0 ((Value.slice A103 y459.length c103).ownBlock = (.slice Ao17 t450.length co17 : Value).ownBlock) := ⟨by rw [hA103]; split <;> (cases (Ao17 : Option Addr) <;> first|rfl|(simp only [Option.map_some,Value.ownBlock]; unfold Addr.add; split <;> rfl))⟩
           clear hy103 hi0103 hsz103 HO_458002 hA103 hc103
           have HO461 := zA hr103
           clear hr103
           replace q103 := eq_true q103
           have n_ := zA (zC (ok' := fun k_ => some k_ ≠ (.slice A103 y459.length c103 : Value).ownBlock) HO_458004.out (fun k_ hk => (by rw [HE103.out]; exact hk)))
           clear HO_458004
           have HO_458004 := n_
           clear n_
           obtain ⟨_,_,_,_,_,_,_,_,_,_⟩ := cz5 BK447.out
           go_wp2
           refine bodyPost_ret (results_ct rfl _ _ gb447 26 #[.int .i64 t448,.int .i64 a1_1,.slice A103 y459.length c103,.int .i64 t453,.slice Ao18 t454.length co18] (0,0) _ rfl (by (with_reducible repeat (first|refine zE ?_ _|refine zG ?_|refine zF ?_ _)); refine blk_put (cs := #[.int .i64 t448,.int .i64 a1_1,.slice A103 y459.length c103,.int .i64 t453,.slice none 0 0]) ?_ 4 _ rfl; (with_reducible repeat (first|refine zE ?_ _|refine zG ?_|refine zF ?_ _)); refine blk_put (cs := #[.int .i64 t448,.int .i64 a1_1,.slice A103 y459.length c103,.int .i64 0,.slice none 0 0]) ?_ 3 _ rfl; (with_reducible repeat (first|refine zE ?_ _|refine zG ?_|refine zF ?_ _)); refine blk_put (cs := #[.int .i64 t448,.int .i64 a1_1,.slice none 0 0,.int .i64 0,.slice none 0 0]) ?_ 2 _ rfl; (with_reducible repeat (first|refine zE ?_ _|refine zG ?_|refine zF ?_ _)); refine blk_put (cs := #[.int .i64 t448,.int .i64 0,.slice none 0 0,.int .i64 0,.slice none 0 0]) ?_ 1 _ rfl; (with_reducible repeat (first|refine zE ?_ _|refine zG ?_|refine zF ?_ _)); refine blk_put (cs := #[.int .i64 0,.int .i64 0,.slice none 0 0,.int .i64 0,.slice none 0 0]) ?_ 0 _ rfl; (with_reducible repeat (first|refine zE ?_ _|refine zG ?_|refine zF ?_ _)); refine blk_far ?_ NB447_457.out _; (with_reducible repeat (first|refine zE ?_ _|refine zG ?_|refine zF ?_ _)); refine blk_far ?_ NB447_457.out _; (with_reducible repeat (first|refine zE ?_ _|refine zG ?_|refine zF ?_ _)); exact BK447.out) Try.underlying26 rfl (by kernel_rfl)) rfl ?_
           exact ⟨_,_,by first|rfl|(simp [errW_none,errW_some] <;> rfl)|(simp only [← hji63]; first|rfl|(simp [errW_none,errW_some] <;> rfl))|(simp [*,errW_none,errW_some] <;> rfl),by (with_reducible repeat (first|apply Kd.Q_alloc|apply Kd.Q_drewN|apply Kd.Q_drew)); exact Kd.Q_mono (Kd.Q_far (p := ⟨gb447,4,none⟩) (Kd.Q_far (p := ⟨gb447,3,none⟩) (Kd.Q_far (p := ⟨gb447,2,none⟩) (Kd.Q_far (p := ⟨gb447,1,none⟩) (Kd.Q_far (p := ⟨gb447,0,none⟩) (Kd.Q_far (p := ⟨gb457,1,none⟩) (Kd.Q_far (p := ⟨gb457,2,none⟩) (Kd.Q_types (Kd.Q_types HO461.out BK457.out (by decide)) BK447.out (by decide)) (fun _ hk => hk.1.2) (.slice A103 y459.length c103)) (fun _ hk => hk.1.2) (.int .i64 a1_1)) (fun _ h=>h.2) (.int .i64 t448)) (fun _ h=>h.2) (.int .i64 a1_1)) (fun _ h=>h.2) (.slice A103 y459.length c103)) (fun _ h=>h.2) (.int .i64 t453)) (fun _ h=>h.2) (.slice Ao18 t454.length co18)) (fun _ hk => hk.1.1),by (with_reducible repeat (first|apply Kd.R_alloc|apply Kd.R_drewN|apply Kd.R_drew)); exact zC (zB (p := ⟨gb447,4,none⟩) (zB (p := ⟨gb447,3,none⟩) (zB (p := ⟨gb447,2,none⟩) (zB (p := ⟨gb447,1,none⟩) (zB (p := ⟨gb447,0,none⟩) (zB (p := ⟨gb457,1,none⟩) (zB (p := ⟨gb457,2,none⟩) (zD (zD HO_458004.out BK457.out (by decide)) BK447.out (by decide)) (fun _ hk => hk.1.2) (.slice A103 y459.length c103)) (fun _ hk => hk.1.2) (.int .i64 a1_1)) (fun _ h=>h.2) (.int .i64 t448)) (fun _ h=>h.2) (.int .i64 a1_1)) (fun _ h=>h.2) (.slice A103 y459.length c103)) (fun _ h=>h.2) (.int .i64 t453)) (fun _ h=>h.2) (.slice Ao18 t454.length co18)) (fun _ hk => hk.1.1),bT HB⟩
         ·
          rw [if_neg c65] at H
          exact absurd H (by simp)
        ·
         rw [if_neg c64] at H
         exact absurd H (by simp)
       ·
        replace c62 := Bool.eq_false_iff.mpr c62
        subst c62
        have H1 : (if a1_0 = (wrap64 (a0_3 + 1)) then (if a0_3 ≥ 1000 then (some (t448,t449,t450,t453,t454,false)) else (if t454.length < 8796093022208 then (some (t448,t449,t450,wrap64 (t453 + 1),(t454 ++ [a1_2]),true)) else (none))) else (some (t448,t449,t450,t453,t454,false))) = some (r1,r2,r3,r4,r5,r6) := by rw [if_neg (show ¬ (false = true) by decide)] at H; exact H
        clear H; have H := H1; clear H1
        by_cases c105 : a1_0 = (wrap64 (a0_3 + 1))
        ·
         rw [if_pos c105] at H
         have c105b0 : (a1_0 == (wrap64 (a0_3 + 1))) = true := beq_iff_eq.mpr c105
         have c105b1 : (a1_0 != (wrap64 (a0_3 + 1))) = false := bne_eq_false_iff_eq.mpr c105
         clear c105
         by_cases c106 : a0_3 ≥ 1000
         ·
          rw [if_pos c106] at H
          have c106b0 : decide (1000 ≤ a0_3) = true := decide_eq_true c106
          clear c106
          simp only [Option.some.injEq,Prod.mk.injEq] at H
          obtain ⟨rfl,rfl,rfl,rfl,rfl,rfl⟩ := H
          have hnb107 := NB446_445.out
          have hnc107 := NB445_446.out
          have hnb108 := NB446_447.out
          have hnc108 := NB447_446.out
          have hnb109 := NB446_457.out
          have hnc109 := NB457_446.out
          obtain ⟨_,_,_,_,_,_⟩ := cz3 BK446.out
          have hnb111 := NB445_447.out
          have hnc111 := NB447_445.out
          have hnb112 := NB445_457.out
          have hnc112 := NB457_445.out
          obtain ⟨_,_,_,_,_,_,_,_,_,_⟩ := cz5 BK445.out
          have hnb114 := NB457_447.out
          have hnc114 := NB447_457.out
          obtain ⟨_,_,_,_,_,_,_,_,_,_⟩ := cz5 BK457.out
          obtain ⟨_,_,_,_,_,_,_,_,_,_⟩ := cz5 BK447.out
          go_wp2
          refine bodyPost_ret (results_ct rfl _ _ gb447 26 #[.int .i64 t448,.int .i64 t449,.slice Ao17 t450.length co17,.int .i64 t453,.slice Ao18 t454.length co18] (0,0) _ rfl (by (with_reducible repeat (first|refine zE ?_ _|refine zG ?_|refine zF ?_ _)); refine blk_put (cs := #[.int .i64 t448,.int .i64 t449,.slice Ao17 t450.length co17,.int .i64 t453,.slice none 0 0]) ?_ 4 _ rfl; (with_reducible repeat (first|refine zE ?_ _|refine zG ?_|refine zF ?_ _)); refine blk_put (cs := #[.int .i64 t448,.int .i64 t449,.slice Ao17 t450.length co17,.int .i64 0,.slice none 0 0]) ?_ 3 _ rfl; (with_reducible repeat (first|refine zE ?_ _|refine zG ?_|refine zF ?_ _)); refine blk_put (cs := #[.int .i64 t448,.int .i64 t449,.slice none 0 0,.int .i64 0,.slice none 0 0]) ?_ 2 _ rfl; (with_reducible repeat (first|refine zE ?_ _|refine zG ?_|refine zF ?_ _)); refine blk_put (cs := #[.int .i64 t448,.int .i64 0,.slice none 0 0,.int .i64 0,.slice none 0 0]) ?_ 1 _ rfl; (with_reducible repeat (first|refine zE ?_ _|refine zG ?_|refine zF ?_ _)); refine blk_put (cs := #[.int .i64 0,.int .i64 0,.slice none 0 0,.int .i64 0,.slice none 0 0]) ?_ 0 _ rfl; (with_reducible repeat (first|refine zE ?_ _|refine zG ?_|refine zF ?_ _)); exact BK447.out) Try.underlying26 rfl (by kernel_rfl)) rfl ?_
          exact ⟨_,_,by first|rfl|(simp [errW_none,errW_some] <;> rfl)|(simp [*,errW_none,errW_some] <;> rfl),by (with_reducible repeat (first|apply Kd.Q_alloc|apply Kd.Q_drewN|apply Kd.Q_drew)); exact Kd.Q_mono (Kd.Q_far (p := ⟨gb447,4,none⟩) (Kd.Q_far (p := ⟨gb447,3,none⟩) (Kd.Q_far (p := ⟨gb447,2,none⟩) (Kd.Q_far (p := ⟨gb447,1,none⟩) (Kd.Q_far (p := ⟨gb447,0,none⟩) (Kd.Q_types HO_458002.out BK447.out (by decide)) (fun _ h=>h.2) (.int .i64 t448)) (fun _ h=>h.2) (.int .i64 t449)) (fun _ h=>h.2) (.slice Ao17 t450.length co17)) (fun _ h=>h.2) (.int .i64 t453)) (fun _ h=>h.2) (.slice Ao18 t454.length co18)) (fun _ hk => hk.1),by (with_reducible repeat (first|apply Kd.R_alloc|apply Kd.R_drewN|apply Kd.R_drew)); exact zC (zB (p := ⟨gb447,4,none⟩) (zB (p := ⟨gb447,3,none⟩) (zB (p := ⟨gb447,2,none⟩) (zB (p := ⟨gb447,1,none⟩) (zB (p := ⟨gb447,0,none⟩) (zD HO_458004.out BK447.out (by decide)) (fun _ h=>h.2) (.int .i64 t448)) (fun _ h=>h.2) (.int .i64 t449)) (fun _ h=>h.2) (.slice Ao17 t450.length co17)) (fun _ h=>h.2) (.int .i64 t453)) (fun _ h=>h.2) (.slice Ao18 t454.length co18)) (fun _ hk => hk.1),bT HB⟩
         ·
          rw [if_neg c106] at H
          have c106b0 : decide (1000 ≤ a0_3) = false := decide_eq_false c106
          clear c106
          by_cases c117 : t454.length < 8796093022208
          ·
           rw [if_pos c117] at H
           have LMc117 := zA c117
           clear c117
           obtain ⟨y465,hy465⟩ : ∃ y_ : List ByteArray,y_ = (t454 ++ [a1_2]) := ⟨_,rfl⟩
           replace H : (some (t448,t449,t450,wrap64 (t453 + 1),y465,true)) = some (r1,r2,r3,r4,r5,r6) := by first | (rw [hy465]; with_reducible exact H) | (have H2_ := (Option.bind_some _ _).symm.trans H; rw [hy465]; with_reducible exact H2_) | (have H2_ := (Option.bind_some _ _).symm.trans H; with_reducible exact H2_)|with_reducible exact H | (rw [hy465]; exact H)|exact H
           have Ny465 := zA hy465
           clear hy465
           simp only [Option.some.injEq,Prod.mk.injEq] at H
           obtain ⟨rfl,rfl,rfl,rfl,rfl,rfl⟩ := H
           have hnb118 := NB446_445.out
           have hnc118 := NB445_446.out
           have hnb119 := NB446_447.out
           have hnc119 := NB447_446.out
           have hnb120 := NB446_457.out
           have hnc120 := NB457_446.out
           obtain ⟨_,_,_,_,_,_⟩ := cz3 BK446.out
           have hnb122 := NB445_447.out
           have hnc122 := NB447_445.out
           have hnb123 := NB445_457.out
           have hnc123 := NB457_445.out
           obtain ⟨_,_,_,_,_,_,_,_,_,_⟩ := cz5 BK445.out
           have hnb125 := NB457_447.out
           have hnc125 := NB447_457.out
           obtain ⟨_,_,_,_,_,_,_,_,_,_⟩ := cz5 BK457.out
           go_wp2_with (first | ((with_reducible refine gate_builtin (b := .append) (xs := #[.tmp 61,.tmp 64]) rfl ?_); (try (refine gate_guard (by rfl) ?_; dsimp only)); at_builtin; refine Kd.R_append Kd.string (w0 := w) w.heap.size rfl (.tmp 61) (.tmp 64) 22 9 (.string ⟨#[]⟩) 16 rfl Try.underlying22 info9 rfl (by decide) (by omega) (.slice Ao18 t454.length co18) t454 a1_2 [.string a1_2] (fun k_ => some k_ ≠ (.slice Ao17 t450.length co17 : Value).ownBlock) (fun _ => False) rfl rfl ?aP (fun _ hk => hk.elim) ?aF ?aO ?aB ?aS ?aL ?_; (case aP => exact rfl); (case aB => exact (bT HB)); (case aF => exact (fun k_ hk => Kd.fresh' (Kd.Q_lt (rrQ HO_458002.out)) k_ hk)); (case aO => exact (rrA16 HO_458004.out)); (case aS => exact (below_size (bT HB))); (case aL => have := LMc117.out; omega); intro v466 w127 ho hb hg hat; rw [← Ny465.out] at ho; have n0_ := zA (Kd.Q_after (ok := (fun _ => True)) (by (with_reducible repeat (first|apply Kd.Q_alloc|apply Kd.Q_drewN|apply Kd.Q_drew)); exact Kd.Q_mono HO_458002.out (fun _ hk => ⟨trivial,hk⟩)) hg hat); have n1_ := zA (blk_grown (bkT BK445.out) hg (Kd.R_ne HO_458004.out BK445.out (by decide))); have n2_ := zA (blk_grown (bkT BK446.out) hg (Kd.R_ne HO_458004.out BK446.out (by decide))); have n3_ := zA (blk_grown (bkT BK447.out) hg (Kd.R_ne HO_458004.out BK447.out (by decide))); have n4_ := zA (blk_grown (bkT BK457.out) hg (Kd.R_ne HO_458004.out BK457.out (by decide))); have n5_ := zA (hb); have n6_ := zA (ho); clear HO_458002 BK445 BK446 BK447 BK457 HB HO_458004; have HO_458002 := n0_; have BK445 := n1_; have BK446 := n2_; have BK447 := n3_; have BK457 := n4_; have HB := n5_; have HO467 := n6_; clear n0_ n1_ n2_ n3_ n4_ n5_ n6_ ho hb hg hat; obtain ⟨Ao128,co128,eo128⟩ := Kd.R_slice HO467.out; subst eo128; obtain ⟨_,_,_,_,_,_,_,_,_,_⟩ := cz5 BK457.out; obtain ⟨_,_,_,_,_,_,_,_,_,_⟩ := cz5 BK447.out))
           refine bodyPost_ret (results_ct rfl _ _ gb447 26 #[.int .i64 t448,.int .i64 t449,.slice Ao17 t450.length co17,.int .i64 (wrap64 (t453 + 1)),.slice Ao128 y465.length co128] (0,0) _ rfl (by (with_reducible repeat (first|refine zE ?_ _|refine zG ?_|refine zF ?_ _)); refine blk_put (cs := #[.int .i64 t448,.int .i64 t449,.slice Ao17 t450.length co17,.int .i64 (wrap64 (t453 + 1)),.slice none 0 0]) ?_ 4 _ rfl; (with_reducible repeat (first|refine zE ?_ _|refine zG ?_|refine zF ?_ _)); refine blk_put (cs := #[.int .i64 t448,.int .i64 t449,.slice Ao17 t450.length co17,.int .i64 0,.slice none 0 0]) ?_ 3 _ rfl; (with_reducible repeat (first|refine zE ?_ _|refine zG ?_|refine zF ?_ _)); refine blk_put (cs := #[.int .i64 t448,.int .i64 t449,.slice none 0 0,.int .i64 0,.slice none 0 0]) ?_ 2 _ rfl; (with_reducible repeat (first|refine zE ?_ _|refine zG ?_|refine zF ?_ _)); refine blk_put (cs := #[.int .i64 t448,.int .i64 0,.slice none 0 0,.int .i64 0,.slice none 0 0]) ?_ 1 _ rfl; (with_reducible repeat (first|refine zE ?_ _|refine zG ?_|refine zF ?_ _)); refine blk_put (cs := #[.int .i64 0,.int .i64 0,.slice none 0 0,.int .i64 0,.slice none 0 0]) ?_ 0 _ rfl; (with_reducible repeat (first|refine zE ?_ _|refine zG ?_|refine zF ?_ _)); refine blk_far ?_ NB447_457.out _; (with_reducible repeat (first|refine zE ?_ _|refine zG ?_|refine zF ?_ _)); refine blk_far ?_ NB447_457.out _; (with_reducible repeat (first|refine zE ?_ _|refine zG ?_|refine zF ?_ _)); exact BK447.out) Try.underlying26 rfl (by kernel_rfl)) rfl ?_
           exact ⟨_,_,by first|rfl|(simp [errW_none,errW_some] <;> rfl)|(simp [*,errW_none,errW_some] <;> rfl),by (with_reducible repeat (first|apply Kd.Q_alloc|apply Kd.Q_drewN|apply Kd.Q_drew)); exact Kd.Q_mono (Kd.Q_far (p := ⟨gb447,4,none⟩) (Kd.Q_far (p := ⟨gb447,3,none⟩) (Kd.Q_far (p := ⟨gb447,2,none⟩) (Kd.Q_far (p := ⟨gb447,1,none⟩) (Kd.Q_far (p := ⟨gb447,0,none⟩) (Kd.Q_far (p := ⟨gb457,3,none⟩) (Kd.Q_far (p := ⟨gb457,4,none⟩) (Kd.Q_types (Kd.Q_types HO_458002.out BK457.out (by decide)) BK447.out (by decide)) (fun _ hk => hk.1.2) (.slice Ao128 y465.length co128)) (fun _ hk => hk.1.2) (.int .i64 (wrap64 (t453 + 1)))) (fun _ h=>h.2) (.int .i64 t448)) (fun _ h=>h.2) (.int .i64 t449)) (fun _ h=>h.2) (.slice Ao17 t450.length co17)) (fun _ h=>h.2) (.int .i64 (wrap64 (t453 + 1)))) (fun _ h=>h.2) (.slice Ao128 y465.length co128)) (fun _ hk => hk.1.1.2),by (with_reducible repeat (first|apply Kd.R_alloc|apply Kd.R_drewN|apply Kd.R_drew)); exact zC (zB (p := ⟨gb447,4,none⟩) (zB (p := ⟨gb447,3,none⟩) (zB (p := ⟨gb447,2,none⟩) (zB (p := ⟨gb447,1,none⟩) (zB (p := ⟨gb447,0,none⟩) (zB (p := ⟨gb457,3,none⟩) (zB (p := ⟨gb457,4,none⟩) (zD (zD HO467.out BK457.out (by decide)) BK447.out (by decide)) (fun _ hk => hk.1.2) (.slice Ao128 y465.length co128)) (fun _ hk => hk.1.2) (.int .i64 (wrap64 (t453 + 1)))) (fun _ h=>h.2) (.int .i64 t448)) (fun _ h=>h.2) (.int .i64 t449)) (fun _ h=>h.2) (.slice Ao17 t450.length co17)) (fun _ h=>h.2) (.int .i64 (wrap64 (t453 + 1)))) (fun _ h=>h.2) (.slice Ao128 y465.length co128)) (fun _ hk => hk.1.1),bT HB⟩
          ·
           rw [if_neg c117] at H
           exact absurd H (by simp)
        ·
         rw [if_neg c105] at H
         have c105b0 : (a1_0 == (wrap64 (a0_3 + 1))) = false := beq_eq_false_iff_ne.mpr c105
         have c105b1 : (a1_0 != (wrap64 (a0_3 + 1))) = true := bne_iff_ne.mpr c105
         simp only [Option.some.injEq,Prod.mk.injEq] at H
         obtain ⟨rfl,rfl,rfl,rfl,rfl,rfl⟩ := H
         have hnb131 := NB446_445.out
         have hnc131 := NB445_446.out
         have hnb132 := NB446_447.out
         have hnc132 := NB447_446.out
         have hnb133 := NB446_457.out
         have hnc133 := NB457_446.out
         obtain ⟨_,_,_,_,_,_⟩ := cz3 BK446.out
         have hnb135 := NB445_447.out
         have hnc135 := NB447_445.out
         have hnb136 := NB445_457.out
         have hnc136 := NB457_445.out
         obtain ⟨_,_,_,_,_,_,_,_,_,_⟩ := cz5 BK445.out
         have hnb138 := NB457_447.out
         have hnc138 := NB447_457.out
         obtain ⟨_,_,_,_,_,_,_,_,_,_⟩ := cz5 BK457.out
         obtain ⟨_,_,_,_,_,_,_,_,_,_⟩ := cz5 BK447.out
         go_wp2
         refine bodyPost_ret (results_ct rfl _ _ gb447 26 #[.int .i64 t448,.int .i64 t449,.slice Ao17 t450.length co17,.int .i64 t453,.slice Ao18 t454.length co18] (0,0) _ rfl (by (with_reducible repeat (first|refine zE ?_ _|refine zG ?_|refine zF ?_ _)); refine blk_put (cs := #[.int .i64 t448,.int .i64 t449,.slice Ao17 t450.length co17,.int .i64 t453,.slice none 0 0]) ?_ 4 _ rfl; (with_reducible repeat (first|refine zE ?_ _|refine zG ?_|refine zF ?_ _)); refine blk_put (cs := #[.int .i64 t448,.int .i64 t449,.slice Ao17 t450.length co17,.int .i64 0,.slice none 0 0]) ?_ 3 _ rfl; (with_reducible repeat (first|refine zE ?_ _|refine zG ?_|refine zF ?_ _)); refine blk_put (cs := #[.int .i64 t448,.int .i64 t449,.slice none 0 0,.int .i64 0,.slice none 0 0]) ?_ 2 _ rfl; (with_reducible repeat (first|refine zE ?_ _|refine zG ?_|refine zF ?_ _)); refine blk_put (cs := #[.int .i64 t448,.int .i64 0,.slice none 0 0,.int .i64 0,.slice none 0 0]) ?_ 1 _ rfl; (with_reducible repeat (first|refine zE ?_ _|refine zG ?_|refine zF ?_ _)); refine blk_put (cs := #[.int .i64 0,.int .i64 0,.slice none 0 0,.int .i64 0,.slice none 0 0]) ?_ 0 _ rfl; (with_reducible repeat (first|refine zE ?_ _|refine zG ?_|refine zF ?_ _)); exact BK447.out) Try.underlying26 rfl (by kernel_rfl)) rfl ?_
         exact ⟨_,_,by first|rfl|(simp [errW_none,errW_some] <;> rfl)|(simp [*,errW_none,errW_some] <;> rfl),by (with_reducible repeat (first|apply Kd.Q_alloc|apply Kd.Q_drewN|apply Kd.Q_drew)); exact Kd.Q_mono (Kd.Q_far (p := ⟨gb447,4,none⟩) (Kd.Q_far (p := ⟨gb447,3,none⟩) (Kd.Q_far (p := ⟨gb447,2,none⟩) (Kd.Q_far (p := ⟨gb447,1,none⟩) (Kd.Q_far (p := ⟨gb447,0,none⟩) (Kd.Q_types HO_458002.out BK447.out (by decide)) (fun _ h=>h.2) (.int .i64 t448)) (fun _ h=>h.2) (.int .i64 t449)) (fun _ h=>h.2) (.slice Ao17 t450.length co17)) (fun _ h=>h.2) (.int .i64 t453)) (fun _ h=>h.2) (.slice Ao18 t454.length co18)) (fun _ hk => hk.1),by (with_reducible repeat (first|apply Kd.R_alloc|apply Kd.R_drewN|apply Kd.R_drew)); exact zC (zB (p := ⟨gb447,4,none⟩) (zB (p := ⟨gb447,3,none⟩) (zB (p := ⟨gb447,2,none⟩) (zB (p := ⟨gb447,1,none⟩) (zB (p := ⟨gb447,0,none⟩) (zD HO_458004.out BK447.out (by decide)) (fun _ h=>h.2) (.int .i64 t448)) (fun _ h=>h.2) (.int .i64 t449)) (fun _ h=>h.2) (.slice Ao17 t450.length co17)) (fun _ h=>h.2) (.int .i64 t453)) (fun _ h=>h.2) (.slice Ao18 t454.length co18)) (fun _ hk => hk.1),bT HB⟩

end Go.Proofs.Ytlidnobkkgcnlaa.PFnLinks
