-- Written by a program out of the translation,for this claim.
import Derived.Test.YtlidnobkkgcnlaaPFnExactTalkx0
import Derived.Test.YtlidnobkkgcnlaaPFnExactTalkx12
import Derived.Test.YtlidnobkkgcnlaaPFnExactTalkx13
namespace Go.Proofs.Ytlidnobkkgcnlaa.PFnExactTalk
open Go.RowKit Go.Proofs.YtlidnobkkgcnlaaW.PrintWords Go.Proofs.YtlidnobkkgcnlaaW.PrintLast Go.Proofs.YtlidnobkkgcnlaaW.PrintMore
attribute [local go_sem] max2_int min2_int max_two min_two max_three min_three max_four min_four   -- for this text's walks alone
set_option linter.unusedVariables false
set_option linter.unusedSimpArgs false
theorem rrA14 {p q : Prop} (h : p) (f : p → q := by (intro h_; (with_reducible repeat (first | apply Kd.R_alloc | apply Kd.R_drewN | apply Kd.R_drew)); exact h_)) : q := f h
open Go.Proofs.YtlidnobkkgcnlaaW.PrintWords.Aside0 renaming mk → zA
open Go.Proofs.YtlidnobkkgcnlaaW.PrintWords.Kd renaming R_far → zB
open Go.Proofs.YtlidnobkkgcnlaaW.PrintWords.Kd renaming R_mono → zC
open Go.Proofs.YtlidnobkkgcnlaaW.PrintWords.Kd renaming R_types → zD
open Go.Proofs.YtlidnobkkgcnlaaW.PrintWords renaming blk_drewN → zE
open Go.Proofs.YtlidnobkkgcnlaaW.PrintWords renaming blk_alloc → zF
open Go.Proofs.YtlidnobkkgcnlaaW.PrintWords renaming blk_drew → zG

/-! ### impl_Receive: function 20 -/
mutual
def impl_Receive.j0 : Nat → Bool → Int → Int → List ByteArray → Int → List ByteArray → Int → Int → ByteArray → Int → Int → List ByteArray → Int → List ByteArray → Option (Int × Int × List ByteArray × Int × List ByteArray × Bool)
  | 0,_,_,_,_,_,_,_,_,_,_,_,_,_,_ => none
  | k + 1,x22,x380000,x380001,x380002,x380003,x380004,x381000,x381001,x381002,x392000,x392001,x392002,x392003,x392004 => if x22 = true then (some (x392000,x392001,x392002,x392003,x392004,false)) else (if x381001 > x380001 then (impl_Receive.j1 k (decide (x381001 ≤ x380000)) x380000 x380001 x380002 x380003 x380004 x381000 x381001 x381002 x392000 x392001 x392002 x392003 x392004) else (impl_Receive.j1 k false x380000 x380001 x380002 x380003 x380004 x381000 x381001 x381002 x392000 x392001 x392002 x392003 x392004))
def impl_Receive.j1 : Nat → Bool → Int → Int → List ByteArray → Int → List ByteArray → Int → Int → ByteArray → Int → Int → List ByteArray → Int → List ByteArray → Option (Int × Int × List ByteArray × Int × List ByteArray × Bool)
  | 0,_,_,_,_,_,_,_,_,_,_,_,_,_,_ => none
  | k + 1,x35,x380000,x380001,x380002,x380003,x380004,x381000,x381001,x381002,x392000,x392001,x392002,x392003,x392004 => if x35 = true then (if 0 ≤ (wrap64 (x381001 - x380001)) then (if (wrap64 (x381001 - x380001)) ≤ (x392002.length : Int) then ((some (x392002.drop ((wrap64 (x381001 - x380001)) : Int).toNat : List ByteArray)).bind fun y393 => (if x381000 = (wrap64 (x380003 + 1)) then (if x380003 ≥ 1000 then (some (x392000,x381001,y393,x392003,x392004,false)) else (if x392004.length < 8796093022208 then (some (x392000,x381001,y393,wrap64 (x392003 + 1),(x392004 ++ [x381002]),true)) else (none))) else (some (x392000,x381001,y393,x392003,x392004,false)))) else (none)) else (none)) else (if x381000 = (wrap64 (x380003 + 1)) then (if x380003 ≥ 1000 then (some (x392000,x392001,x392002,x392003,x392004,false)) else (if x392004.length < 8796093022208 then (some (x392000,x392001,x392002,wrap64 (x392003 + 1),(x392004 ++ [x381002]),true)) else (none))) else (some (x392000,x392001,x392002,x392003,x392004,false)))
end
def impl_Receive.f (k : Nat) (a0_0 : Int) (a0_1 : Int) (l0_2 : List ByteArray) (a0_3 : Int) (l0_4 : List ByteArray) (a1_0 : Int) (a1_1 : Int) (a1_2 : ByteArray) : Option (Int × Int × List ByteArray × Int × List ByteArray × Bool) := (impl_copyEnd.f a0_0 a0_1 l0_2 a0_3 l0_4).bind fun bt382 => (if a1_0 < 0 then (impl_Receive.j0 k true a0_0 a0_1 l0_2 a0_3 l0_4 a1_0 a1_1 a1_2 bt382.1 bt382.2.1 bt382.2.2.1 bt382.2.2.2.1 bt382.2.2.2.2) else (if (a1_2.size : Int) > 60 then (impl_Receive.j0 k true a0_0 a0_1 l0_2 a0_3 l0_4 a1_0 a1_1 a1_2 bt382.1 bt382.2.1 bt382.2.2.1 bt382.2.2.2.1 bt382.2.2.2.2) else ((impl_EndOk.f k a0_0 a0_1 l0_2 a0_3 l0_4).bind fun t392 => (impl_Receive.j0 k (!t392) a0_0 a0_1 l0_2 a0_3 l0_4 a1_0 a1_1 a1_2 bt382.1 bt382.2.1 bt382.2.2.1 bt382.2.2.2.1 bt382.2.2.2.2))))
theorem impl_Receive.mono_l : ∀ k,(∀ y0 y1 y2 y3 y4 y5 y6 y7 y8 y9 y10 y11 y12 y13,LeO (impl_Receive.j0 k y0 y1 y2 y3 y4 y5 y6 y7 y8 y9 y10 y11 y12 y13) (impl_Receive.j0 (k + 1) y0 y1 y2 y3 y4 y5 y6 y7 y8 y9 y10 y11 y12 y13)) ∧ (∀ y0 y1 y2 y3 y4 y5 y6 y7 y8 y9 y10 y11 y12 y13,LeO (impl_Receive.j1 k y0 y1 y2 y3 y4 y5 y6 y7 y8 y9 y10 y11 y12 y13) (impl_Receive.j1 (k + 1) y0 y1 y2 y3 y4 y5 y6 y7 y8 y9 y10 y11 y12 y13))
  | 0 => ⟨fun _ _ _ _ _ _ _ _ _ _ _ _ _ _ r h => by simp [impl_Receive.j0] at h,fun _ _ _ _ _ _ _ _ _ _ _ _ _ _ r h => by simp [impl_Receive.j1] at h⟩
  | k + 1 => by
   obtain ⟨ih0,ih1⟩ := impl_Receive.mono_l k
   refine ⟨?_,?_⟩
   ·
    intro y0 y1 y2 y3 y4 y5 y6 y7 y8 y9 y10 y11 y12 y13
    unfold impl_Receive.j0
    repeat' first
   |(with_reducible exact ih0 _ _ _ _ _ _ _ _ _ _ _ _ _ _)
   |(with_reducible exact ih1 _ _ _ _ _ _ _ _ _ _ _ _ _ _)
   |(with_reducible exact impl_EndOk.mono _ _ _ _ _ _)
   |(with_reducible exact LeO.refl _)
   |(with_reducible exact LeO.none _)
   |(with_reducible refine LeO.ite ?_ ?_)
   |(with_reducible refine LeO.bind ?_ (fun _ => ?_))
   |exact ih0 _ _ _ _ _ _ _ _ _ _ _ _ _ _
   |exact ih1 _ _ _ _ _ _ _ _ _ _ _ _ _ _
   |exact impl_EndOk.mono _ _ _ _ _ _
   |exact LeO.none _
   |refine LeO.ite ?_ ?_
   |refine LeO.bind ?_ (fun _ => ?_)
   ·
    intro y0 y1 y2 y3 y4 y5 y6 y7 y8 y9 y10 y11 y12 y13
    unfold impl_Receive.j1
    repeat' first
   |(with_reducible exact ih0 _ _ _ _ _ _ _ _ _ _ _ _ _ _)
   |(with_reducible exact ih1 _ _ _ _ _ _ _ _ _ _ _ _ _ _)
   |(with_reducible exact impl_EndOk.mono _ _ _ _ _ _)
   |(with_reducible exact LeO.refl _)
   |(with_reducible exact LeO.none _)
   |(with_reducible refine LeO.ite ?_ ?_)
   |(with_reducible refine LeO.bind ?_ (fun _ => ?_))
   |exact ih0 _ _ _ _ _ _ _ _ _ _ _ _ _ _
   |exact ih1 _ _ _ _ _ _ _ _ _ _ _ _ _ _
   |exact impl_EndOk.mono _ _ _ _ _ _
   |exact LeO.none _
   |refine LeO.ite ?_ ?_
   |refine LeO.bind ?_ (fun _ => ?_)
theorem impl_Receive.mono : ∀ a0 a1 a2 a3 a4 a5 a6 a7 k,LeO (impl_Receive.f k a0 a1 a2 a3 a4 a5 a6 a7) (impl_Receive.f (k + 1) a0 a1 a2 a3 a4 a5 a6 a7) := by
  intro a0 a1 a2 a3 a4 a5 a6 a7 k
  obtain ⟨ih0,ih1⟩ := impl_Receive.mono_l k
  unfold impl_Receive.f
  repeat' first
   |(with_reducible exact ih0 _ _ _ _ _ _ _ _ _ _ _ _ _ _)
   |(with_reducible exact ih1 _ _ _ _ _ _ _ _ _ _ _ _ _ _)
   |(with_reducible exact impl_EndOk.mono _ _ _ _ _ _)
   |(with_reducible exact LeO.refl _)
   |(with_reducible exact LeO.none _)
   |(with_reducible refine LeO.ite ?_ ?_)
   |(with_reducible refine LeO.bind ?_ (fun _ => ?_))
   |exact ih0 _ _ _ _ _ _ _ _ _ _ _ _ _ _
   |exact ih1 _ _ _ _ _ _ _ _ _ _ _ _ _ _
   |exact impl_EndOk.mono _ _ _ _ _ _
   |exact LeO.none _
   |refine LeO.ite ?_ ?_
   |refine LeO.bind ?_ (fun _ => ?_)
set_option maxHeartbeats 8000000 in
set_option maxRecDepth 100000 in
theorem impl_Receive.calls (k : Nat) (a0_0 : Int) (a0_1 : Int) (A0_2 : Option Addr) (c0_2 : Nat) (l0_2 : List ByteArray) (a0_3 : Int) (A0_4 : Option Addr) (c0_4 : Nat) (l0_4 : List ByteArray) (a1_0 : Int) (a1_1 : Int) (a1_2 : ByteArray) (r1 : Int) (r2 : Int) (r3 : List ByteArray) (r4 : Int) (r5 : List ByteArray) (r6 : Bool) (w : World) (hr0_2 : Kd.C Kd.string w A0_2 l0_2.length l0_2) (hc0_2 : l0_2.length ≤ c0_2) (hr0_4 : Kd.C Kd.string w A0_4 l0_4.length l0_4) (hc0_4 : l0_4.length ≤ c0_4) (h : impl_Receive.f k a0_0 a0_1 l0_2 a0_3 l0_4 a1_0 a1_1 a1_2 = some (r1,r2,r3,r4,r5,r6)) :
   Calls Try.prog 20 #[.agg #[.int .i64 a0_0,.int .i64 a0_1,.slice A0_2 l0_2.length c0_2,.int .i64 a0_3,.slice A0_4 l0_4.length c0_4],.agg #[.int .i64 a1_0,.int .i64 a1_1,.string a1_2]] w fun e w' => ∃ v2_ v4_ : Value,e = .returned (.tuple #[.agg #[.int .i64 r1,.int .i64 r2,v2_,.int .i64 r4,v4_],.bool r6]) ∧ Kd.Q Kd.string 9 w' w.heap.size (fun k_ => some k_ ≠ (v4_ : Value).ownBlock) v2_ r3 ∧ Kd.R Kd.string 9 w' w.heap.size (fun k_ => some k_ ≠ (v2_ : Value).ownBlock) v4_ r5 ∧ Below w.heap.size w w' := by
  have hu26 := Try.underlying26
  have hu36 := Try.underlying36
  have HR0_2 := zA hr0_2
  have HC0_2 := zA hc0_2
  clear hr0_2 hc0_2
  have HR0_4 := zA hr0_4
  have HC0_4 := zA hc0_4
  clear hr0_4 hc0_4
  have HB := zA (Below.refl w.heap.size w)
  have H : ((impl_copyEnd.f a0_0 a0_1 l0_2 a0_3 l0_4).bind fun bt382 => (if a1_0 < 0 then (impl_Receive.j0 k true a0_0 a0_1 l0_2 a0_3 l0_4 a1_0 a1_1 a1_2 bt382.1 bt382.2.1 bt382.2.2.1 bt382.2.2.2.1 bt382.2.2.2.2) else (if (a1_2.size : Int) > 60 then (impl_Receive.j0 k true a0_0 a0_1 l0_2 a0_3 l0_4 a1_0 a1_1 a1_2 bt382.1 bt382.2.1 bt382.2.2.1 bt382.2.2.2.1 bt382.2.2.2.2) else ((impl_EndOk.f k a0_0 a0_1 l0_2 a0_3 l0_4).bind fun t392 => (impl_Receive.j0 k (!t392) a0_0 a0_1 l0_2 a0_3 l0_4 a1_0 a1_1 a1_2 bt382.1 bt382.2.1 bt382.2.2.1 bt382.2.2.2.1 bt382.2.2.2.2))))) = some (r1,r2,r3,r4,r5,r6) := h
  clear h
  replace H := Option.bind_eq_some_iff.mp H
  obtain ⟨⟨t382,t383,t384,t387,t388⟩,A30,H⟩ := H
  replace H : (if a1_0 < 0 then (impl_Receive.j0 k true a0_0 a0_1 l0_2 a0_3 l0_4 a1_0 a1_1 a1_2 t382 t383 t384 t387 t388) else (if (a1_2.size : Int) > 60 then (impl_Receive.j0 k true a0_0 a0_1 l0_2 a0_3 l0_4 a1_0 a1_1 a1_2 t382 t383 t384 t387 t388) else ((impl_EndOk.f k a0_0 a0_1 l0_2 a0_3 l0_4).bind fun t392 => (impl_Receive.j0 k (!t392) a0_0 a0_1 l0_2 a0_3 l0_4 a1_0 a1_1 a1_2 t382 t383 t384 t387 t388)))) = some (r1,r2,r3,r4,r5,r6) := H
  have A3 := zA A30
  clear A30
  have HC4 := zA H
  clear H
  go_enter Try.func20,Try.ntmps20
  go_upto_region 2 with (first | ((with_reducible refine gate_dst (N := 2) rfl ?_); (try (refine gate_guard (by rfl) ?_; dsimp only)); refine box_event ?hg (N := 2) ?hd (cs := #[.int .i64 a0_0,.int .i64 a0_1,.slice A0_2 l0_2.length c0_2,.int .i64 a0_3,.slice A0_4 l0_4.length c0_4]) (t := 26) ?hr ?_; (case hd => rfl); (case hg => rfl); (case hr => first | (go_simp; done) | (go_simp; rfl)); intro gb379 hg w5 hbox hb; have n0_ := zA (below_step (bT HB) hb); have n1_ := zA (hbox); have n2_ := zA ((by rw [hg]; exact (below_size (bT HB)) : w.heap.size ≤ gb379)); have n3_ := zA ((by rw [hg]; exact (below_size (bT HB)) : w.heap.size ≤ gb379)); clear HB; have HB := n0_; have BK379 := n1_; have GW379 := n2_; have GE379 := n3_; clear n0_ n1_ n2_ n3_ hb hbox hg) | ((with_reducible refine gate_dst (N := 3) rfl ?_); (try (refine gate_guard (by rfl) ?_; dsimp only)); refine box_event ?hg (N := 3) ?hd (cs := #[.int .i64 a1_0,.int .i64 a1_1,.string a1_2]) (t := 36) ?hr ?_; (case hd => rfl); (case hg => rfl); (case hr => first | (go_simp; done) | (go_simp; rfl)); intro gb380 hg w6 hbox hb; have n0_ := zA (blk_below (bkT BK379.out) hb); have n1_ := zA (below_step (bT HB) hb); have n2_ := zA (hbox); have n3_ := zA ((by rw [hg]; exact (below_size (bT HB)) : w.heap.size ≤ gb380)); have n4_ := zA ((by rw [hg]; exact (below_size (bT HB)) : w.heap.size ≤ gb380)); have n5_ := zA ((by rw [hg]; exact Nat.ne_of_lt (blk_lt (g := gb379) (o := .cells #[.int .i64 a0_0,.int .i64 a0_1,.slice A0_2 l0_2.length c0_2,.int .i64 a0_3,.slice A0_4 l0_4.length c0_4] 26 (0,0)) (bkT BK379.out)) : gb379 ≠ gb380)); have n6_ := zA ((by rw [hg]; exact Nat.ne_of_gt (blk_lt (g := gb379) (o := .cells #[.int .i64 a0_0,.int .i64 a0_1,.slice A0_2 l0_2.length c0_2,.int .i64 a0_3,.slice A0_4 l0_4.length c0_4] 26 (0,0)) (bkT BK379.out)) : gb380 ≠ gb379)); clear BK379 HB; have BK379 := n0_; have HB := n1_; have BK380 := n2_; have GW380 := n3_; have GE380 := n4_; have NB379_380 := n5_; have NB380_379 := n6_; clear n0_ n1_ n2_ n3_ n4_ n5_ n6_ hb hbox hg) | ((with_reducible refine gate_dst (N := 4) rfl ?_); (try (refine gate_guard (by rfl) ?_; dsimp only)); refine box_event ?hg (N := 4) ?hd (cs := #[.int .i64 0,.int .i64 0,.slice none 0 0,.int .i64 0,.slice none 0 0]) (t := 26) ?hr ?_; (case hd => rfl); (case hg => rfl); (case hr => first | (go_simp; done) | (go_simp; rfl)); intro gb381 hg w7 hbox hb; have n0_ := zA (blk_below (bkT BK379.out) hb); have n1_ := zA (blk_below (bkT BK380.out) hb); have n2_ := zA (below_step (bT HB) hb); have n3_ := zA (hbox); have n4_ := zA ((by rw [hg]; exact (below_size (bT HB)) : w.heap.size ≤ gb381)); have n5_ := zA ((by rw [hg]; exact (below_size (bT HB)) : w.heap.size ≤ gb381)); have n6_ := zA ((by rw [hg]; exact Nat.ne_of_lt (blk_lt (g := gb379) (o := .cells #[.int .i64 a0_0,.int .i64 a0_1,.slice A0_2 l0_2.length c0_2,.int .i64 a0_3,.slice A0_4 l0_4.length c0_4] 26 (0,0)) (bkT BK379.out)) : gb379 ≠ gb381)); have n7_ := zA ((by rw [hg]; exact Nat.ne_of_gt (blk_lt (g := gb379) (o := .cells #[.int .i64 a0_0,.int .i64 a0_1,.slice A0_2 l0_2.length c0_2,.int .i64 a0_3,.slice A0_4 l0_4.length c0_4] 26 (0,0)) (bkT BK379.out)) : gb381 ≠ gb379)); have n8_ := zA ((by rw [hg]; exact Nat.ne_of_lt (blk_lt (g := gb380) (o := .cells #[.int .i64 a1_0,.int .i64 a1_1,.string a1_2] 36 (0,0)) (bkT BK380.out)) : gb380 ≠ gb381)); have n9_ := zA ((by rw [hg]; exact Nat.ne_of_gt (blk_lt (g := gb380) (o := .cells #[.int .i64 a1_0,.int .i64 a1_1,.string a1_2] 36 (0,0)) (bkT BK380.out)) : gb381 ≠ gb380)); clear BK379 BK380 HB; have BK379 := n0_; have BK380 := n1_; have HB := n2_; have BK381 := n3_; have GW381 := n4_; have GE381 := n5_; have NB379_381 := n6_; have NB381_379 := n7_; have NB380_381 := n8_; have NB381_380 := n9_; clear n0_ n1_ n2_ n3_ n4_ n5_ n6_ n7_ n8_ n9_ hb hbox hg; have hnb8 := NB379_380.out; have hnc8 := NB380_379.out; have hnb9 := NB379_381.out; have hnc9 := NB381_379.out; obtain ⟨_,_,_,_,_,_,_,_,_,_⟩ := cz5 BK379.out) | ((with_reducible refine gate_callee (f := 46) rfl ?_); refine goesL_ (some 8) rfl rfl Try.func46 (by kernel_rfl) rfl #[.agg #[.int .i64 a0_0,.int .i64 a0_1,.slice A0_2 l0_2.length c0_2,.int .i64 a0_3,.slice A0_4 l0_4.length c0_4]] rfl (by (try simp only [List.map_toArray,List.map_cons,List.map_nil]); first | done|rfl|(simp only [List.length_drop,List.length_take]; rfl)) ?_; (with_reducible refine (impl_copyEnd.calls a0_0 a0_1 _ _ l0_2 a0_3 _ _ l0_4 t382 t383 t384 t387 t388 _ ?side1 ?side2 ?side3 ?side4 A3.out).mono ?_); (case side1 => exact ccT (Kd.C_below HR0_2.out HB.out)); (case side2 => exact HC0_2.out); (case side3 => exact ccT (Kd.C_below HR0_4.out HB.out)); (case side4 => exact HC0_4.out); rintro e w11 ⟨v385,v389,rfl,ho0,ho1,hb⟩; refine ⟨_,rfl,?_⟩; have n0_ := zA (Kd.R_lower ho0 (below_size (bT HB))); have n1_ := zA (Kd.R_lower ho1 (below_size (bT HB))); have n2_ := zA (blk_below (bkT BK379.out) hb); have n3_ := zA (blk_below (bkT BK380.out) hb); have n4_ := zA (blk_below (bkT BK381.out) hb); have n5_ := zA (below_step (bT HB) hb); clear BK379 BK380 BK381 HB; have HO386 := n0_; have HO390 := n1_; have BK379 := n2_; have BK380 := n3_; have BK381 := n4_; have HB := n5_; clear n0_ n1_ n2_ n3_ n4_ n5_) | ((with_reducible refine gate_dst (N := 6) rfl ?_); (try (refine gate_guard (by rfl) ?_; dsimp only)); refine box_event ?hg (N := 6) ?hd (cs := #[.int .i64 0,.int .i64 0,.slice none 0 0,.int .i64 0,.slice none 0 0]) (t := 26) ?hr ?_; (case hd => rfl); (case hg => rfl); (case hr => first | (go_simp; done) | (go_simp; rfl)); intro gb391 hg w12 hbox hb; have n0_ := zA (Kd.R_below (rrA14 HO386.out) hb); have n1_ := zA (Kd.R_below (rrA14 HO390.out) hb); have n2_ := zA (blk_below (bkT BK379.out) hb); have n3_ := zA (blk_below (bkT BK380.out) hb); have n4_ := zA (blk_below (bkT BK381.out) hb); have n5_ := zA (below_step (bT HB) hb); have n6_ := zA (hbox); have n7_ := zA ((by rw [hg]; exact (below_size (bT HB)) : w.heap.size ≤ gb391)); have n8_ := zA ((by rw [hg]; exact (below_size (bT HB)) : w.heap.size ≤ gb391)); have n9_ := zA ((by rw [hg]; exact Nat.ne_of_lt (blk_lt (g := gb379) (o := .cells #[.int .i64 a0_0,.int .i64 a0_1,.slice A0_2 l0_2.length c0_2,.int .i64 a0_3,.slice A0_4 l0_4.length c0_4] 26 (0,0)) (bkT BK379.out)) : gb379 ≠ gb391)); have n10_ := zA ((by rw [hg]; exact Nat.ne_of_gt (blk_lt (g := gb379) (o := .cells #[.int .i64 a0_0,.int .i64 a0_1,.slice A0_2 l0_2.length c0_2,.int .i64 a0_3,.slice A0_4 l0_4.length c0_4] 26 (0,0)) (bkT BK379.out)) : gb391 ≠ gb379)); have n11_ := zA ((by rw [hg]; exact Nat.ne_of_lt (blk_lt (g := gb380) (o := .cells #[.int .i64 a1_0,.int .i64 a1_1,.string a1_2] 36 (0,0)) (bkT BK380.out)) : gb380 ≠ gb391)); have n12_ := zA ((by rw [hg]; exact Nat.ne_of_gt (blk_lt (g := gb380) (o := .cells #[.int .i64 a1_0,.int .i64 a1_1,.string a1_2] 36 (0,0)) (bkT BK380.out)) : gb391 ≠ gb380)); have n13_ := zA ((by rw [hg]; exact Nat.ne_of_lt (blk_lt (g := gb381) (o := .cells #[.int .i64 0,.int .i64 0,.slice none 0 0,.int .i64 0,.slice none 0 0] 26 (0,0)) (bkT BK381.out)) : gb381 ≠ gb391)); have n14_ := zA ((by rw [hg]; exact Nat.ne_of_gt (blk_lt (g := gb381) (o := .cells #[.int .i64 0,.int .i64 0,.slice none 0 0,.int .i64 0,.slice none 0 0] 26 (0,0)) (bkT BK381.out)) : gb391 ≠ gb381)); clear HO386 HO390 BK379 BK380 BK381 HB; have HO386 := n0_; have HO390 := n1_; have BK379 := n2_; have BK380 := n3_; have BK381 := n4_; have HB := n5_; have BK391 := n6_; have GW391 := n7_; have GE391 := n8_; have NB379_391 := n9_; have NB391_379 := n10_; have NB380_391 := n11_; have NB391_380 := n12_; have NB381_391 := n13_; have NB391_381 := n14_; clear n0_ n1_ n2_ n3_ n4_ n5_ n6_ n7_ n8_ n9_ n10_ n11_ n12_ n13_ n14_ hb hbox hg; have hnb13 := NB391_379.out; have hnc13 := NB379_391.out; have hnb14 := NB391_380.out; have hnc14 := NB380_391.out; have hnb15 := NB391_381.out; have hnc15 := NB381_391.out; obtain ⟨_,_,_,_,_,_,_,_,_,_⟩ := cz5 BK391.out; obtain ⟨Ao17,co17,eo17⟩ := Kd.R_slice HO386.out; subst eo17; obtain ⟨Ao18,co18,eo18⟩ := Kd.R_slice HO390.out; subst eo18))
  (try simp only [Act.put,List.setIfInBounds_toArray,List.set_cons_zero,List.set_cons_succ])
  go_cut [22] (fun v22 wc => ∃ (kq : Nat) (x22_3 : Bool),v22 = .bool x22_3 ∧ Aside0 (impl_Receive.j0 kq x22_3 a0_0 a0_1 l0_2 a0_3 l0_4 a1_0 a1_1 a1_2 t382 t383 t384 t387 t388 = some (r1,r2,r3,r4,r5,r6)) ∧ Aside0 (kq ≤ k) ∧ Aside0 (Kd.Q Kd.string 9 wc w.heap.size (fun k_ => some k_ ≠ ((.slice Ao18 t388.length co18) : Value).ownBlock) (.slice Ao17 t384.length co17) t384) ∧ Aside0 (Kd.R Kd.string 9 wc w.heap.size (fun k_ => some k_ ≠ ((.slice Ao17 t384.length co17) : Value).ownBlock) (.slice Ao18 t388.length co18) t388) ∧ Aside0 (wc.heap[gb379]? = some (.cells #[.int .i64 a0_0,.int .i64 a0_1,(.slice A0_2 l0_2.length c0_2),.int .i64 a0_3,(.slice A0_4 l0_4.length c0_4)] 26 (0,0))) ∧ Aside0 (wc.heap[gb380]? = some (.cells #[.int .i64 a1_0,.int .i64 a1_1,.string a1_2] 36 (0,0))) ∧ Aside0 (wc.heap[gb381]? = some (.cells #[.int .i64 0,.int .i64 0,(.slice none 0 0),.int .i64 0,(.slice none 0 0)] 26 (0,0))) ∧ Aside0 (wc.heap[gb391]? = some (.cells #[.int .i64 t382,.int .i64 t383,(.slice Ao17 t384.length co17),.int .i64 t387,(.slice Ao18 t388.length co18)] 26 (0,0))) ∧ Aside0 (Below w.heap.size w wc))
  case first =>
   have H := HC4.out
   clear HC4
   by_cases c19 : a1_0 < 0
   ·
    rw [if_pos c19] at H
    have c19b0 : decide (a1_0 < 0) = true := decide_eq_true c19
    clear c19
    (first | rw [c19b0]|(simp only [i64_w,i32_w]; rw [c19b0])|skip)
    have H' := zA H
    clear H
    have hnb20 := NB380_379.out
    have hnc20 := NB379_380.out
    have hnb21 := NB380_381.out
    have hnc21 := NB381_380.out
    have hnb22 := NB380_391.out
    have hnc22 := NB391_380.out
    obtain ⟨_,_,_,_,_,_⟩ := cz3 BK380.out
    go_wp2
    go_meet
    case rel => exact ⟨_,(true),(by first|rfl|(simp; done)|(simp [*]; done)),H',⟨by first|omega|exact Nat.le_refl _⟩,⟨Kd.Q_of_R (by (with_reducible repeat (first|apply Kd.R_alloc|apply Kd.R_drewN|apply Kd.R_drew)); exact zC (zB (p := ⟨gb391,4,none⟩) (zB (p := ⟨gb391,3,none⟩) (zB (p := ⟨gb391,2,none⟩) (zB (p := ⟨gb391,1,none⟩) (zB (p := ⟨gb391,0,none⟩) (zD HO386.out BK391.out (by decide)) (fun _ h=>h.2) (.int .i64 t382)) (fun _ h=>h.2) (.int .i64 t383)) (fun _ h=>h.2) (.slice Ao17 t384.length co17)) (fun _ h=>h.2) (.int .i64 t387)) (fun _ h=>h.2) (.slice Ao18 t388.length co18)) (fun _ hk => hk.1))⟩,⟨by (with_reducible repeat (first|apply Kd.R_alloc|apply Kd.R_drewN|apply Kd.R_drew)); exact zC (zB (p := ⟨gb391,4,none⟩) (zB (p := ⟨gb391,3,none⟩) (zB (p := ⟨gb391,2,none⟩) (zB (p := ⟨gb391,1,none⟩) (zB (p := ⟨gb391,0,none⟩) (zD HO390.out BK391.out (by decide)) (fun _ h=>h.2) (.int .i64 t382)) (fun _ h=>h.2) (.int .i64 t383)) (fun _ h=>h.2) (.slice Ao17 t384.length co17)) (fun _ h=>h.2) (.int .i64 t387)) (fun _ h=>h.2) (.slice Ao18 t388.length co18)) (fun _ hk => hk.1)⟩,⟨(bkT BK379.out)⟩,⟨(bkT BK380.out)⟩,⟨(bkT BK381.out)⟩,⟨by (with_reducible repeat (first|refine zE ?_ _|refine zG ?_|refine zF ?_ _)); refine blk_put (cs := #[.int .i64 t382,.int .i64 t383,.slice Ao17 t384.length co17,.int .i64 t387,.slice none 0 0]) ?_ 4 _ rfl; (with_reducible repeat (first|refine zE ?_ _|refine zG ?_|refine zF ?_ _)); refine blk_put (cs := #[.int .i64 t382,.int .i64 t383,.slice Ao17 t384.length co17,.int .i64 0,.slice none 0 0]) ?_ 3 _ rfl; (with_reducible repeat (first|refine zE ?_ _|refine zG ?_|refine zF ?_ _)); refine blk_put (cs := #[.int .i64 t382,.int .i64 t383,.slice none 0 0,.int .i64 0,.slice none 0 0]) ?_ 2 _ rfl; (with_reducible repeat (first|refine zE ?_ _|refine zG ?_|refine zF ?_ _)); refine blk_put (cs := #[.int .i64 t382,.int .i64 0,.slice none 0 0,.int .i64 0,.slice none 0 0]) ?_ 1 _ rfl; (with_reducible repeat (first|refine zE ?_ _|refine zG ?_|refine zF ?_ _)); refine blk_put (cs := #[.int .i64 0,.int .i64 0,.slice none 0 0,.int .i64 0,.slice none 0 0]) ?_ 0 _ rfl; (with_reducible repeat (first|refine zE ?_ _|refine zG ?_|refine zF ?_ _)); exact BK391.out⟩,⟨bT HB⟩⟩
   ·
    rw [if_neg c19] at H
    have c19b0 : decide (a1_0 < 0) = false := decide_eq_false c19
    clear c19
    (first | rw [c19b0]|(simp only [i64_w,i32_w]; rw [c19b0])|skip)
    by_cases c24 : (a1_2.size : Int) > 60
    ·
     rw [if_pos c24] at H
     have c24b0 : decide (60 < (a1_2.size : Int)) = true := decide_eq_true c24
     have c24b1 : decide (60 < a1_2.size) = true := decide_eq_true (by omega)
     clear c24
     have H' := zA H
     clear H
     have hnb25 := NB380_379.out
     have hnc25 := NB379_380.out
     have hnb26 := NB380_381.out
     have hnc26 := NB381_380.out
     have hnb27 := NB380_391.out
     have hnc27 := NB391_380.out
     obtain ⟨_,_,_,_,_,_⟩ := cz3 BK380.out
     go_wp2
     go_meet
     case rel => exact ⟨_,(true),(by first|rfl|(simp; done)|(simp [*]; done)),H',⟨by first|omega|exact Nat.le_refl _⟩,⟨Kd.Q_of_R (by (with_reducible repeat (first|apply Kd.R_alloc|apply Kd.R_drewN|apply Kd.R_drew)); exact zC (zB (p := ⟨gb391,4,none⟩) (zB (p := ⟨gb391,3,none⟩) (zB (p := ⟨gb391,2,none⟩) (zB (p := ⟨gb391,1,none⟩) (zB (p := ⟨gb391,0,none⟩) (zD HO386.out BK391.out (by decide)) (fun _ h=>h.2) (.int .i64 t382)) (fun _ h=>h.2) (.int .i64 t383)) (fun _ h=>h.2) (.slice Ao17 t384.length co17)) (fun _ h=>h.2) (.int .i64 t387)) (fun _ h=>h.2) (.slice Ao18 t388.length co18)) (fun _ hk => hk.1))⟩,⟨by (with_reducible repeat (first|apply Kd.R_alloc|apply Kd.R_drewN|apply Kd.R_drew)); exact zC (zB (p := ⟨gb391,4,none⟩) (zB (p := ⟨gb391,3,none⟩) (zB (p := ⟨gb391,2,none⟩) (zB (p := ⟨gb391,1,none⟩) (zB (p := ⟨gb391,0,none⟩) (zD HO390.out BK391.out (by decide)) (fun _ h=>h.2) (.int .i64 t382)) (fun _ h=>h.2) (.int .i64 t383)) (fun _ h=>h.2) (.slice Ao17 t384.length co17)) (fun _ h=>h.2) (.int .i64 t387)) (fun _ h=>h.2) (.slice Ao18 t388.length co18)) (fun _ hk => hk.1)⟩,⟨(bkT BK379.out)⟩,⟨(bkT BK380.out)⟩,⟨(bkT BK381.out)⟩,⟨by (with_reducible repeat (first|refine zE ?_ _|refine zG ?_|refine zF ?_ _)); refine blk_put (cs := #[.int .i64 t382,.int .i64 t383,.slice Ao17 t384.length co17,.int .i64 t387,.slice none 0 0]) ?_ 4 _ rfl; (with_reducible repeat (first|refine zE ?_ _|refine zG ?_|refine zF ?_ _)); refine blk_put (cs := #[.int .i64 t382,.int .i64 t383,.slice Ao17 t384.length co17,.int .i64 0,.slice none 0 0]) ?_ 3 _ rfl; (with_reducible repeat (first|refine zE ?_ _|refine zG ?_|refine zF ?_ _)); refine blk_put (cs := #[.int .i64 t382,.int .i64 t383,.slice none 0 0,.int .i64 0,.slice none 0 0]) ?_ 2 _ rfl; (with_reducible repeat (first|refine zE ?_ _|refine zG ?_|refine zF ?_ _)); refine blk_put (cs := #[.int .i64 t382,.int .i64 0,.slice none 0 0,.int .i64 0,.slice none 0 0]) ?_ 1 _ rfl; (with_reducible repeat (first|refine zE ?_ _|refine zG ?_|refine zF ?_ _)); refine blk_put (cs := #[.int .i64 0,.int .i64 0,.slice none 0 0,.int .i64 0,.slice none 0 0]) ?_ 0 _ rfl; (with_reducible repeat (first|refine zE ?_ _|refine zG ?_|refine zF ?_ _)); exact BK391.out⟩,⟨bT HB⟩⟩
    ·
     rw [if_neg c24] at H
     have c24b0 : decide (60 < (a1_2.size : Int)) = false := decide_eq_false c24
     have c24b1 : decide (60 < a1_2.size) = false := decide_eq_false (by omega)
     clear c24
     replace H := Option.bind_eq_some_iff.mp H
     obtain ⟨t392,A290,H⟩ := H
     replace H : (impl_Receive.j0 k (!t392) a0_0 a0_1 l0_2 a0_3 l0_4 a1_0 a1_1 a1_2 t382 t383 t384 t387 t388) = some (r1,r2,r3,r4,r5,r6) := H
     have A29 := zA A290
     clear A290
     have H' := zA H
     clear H
     have hnb30 := NB380_379.out
     have hnc30 := NB379_380.out
     have hnb31 := NB380_381.out
     have hnc31 := NB381_380.out
     have hnb32 := NB380_391.out
     have hnc32 := NB391_380.out
     obtain ⟨_,_,_,_,_,_⟩ := cz3 BK380.out
     have hnb34 := NB379_381.out
     have hnc34 := NB381_379.out
     have hnb35 := NB379_391.out
     have hnc35 := NB391_379.out
     obtain ⟨_,_,_,_,_,_,_,_,_,_⟩ := cz5 BK379.out
     go_wp2_with (first | (go_at_call 23; (with_reducible refine (impl_EndOk.calls k a0_0 a0_1 _ _ l0_2 a0_3 _ _ l0_4 t392 _ ?side1 ?side2 ?side3 ?side4 A29.out).mono ?_); (case side1 => exact Kd.C_below HR0_2.out (bT HB)); (case side2 => exact HC0_2.out); (case side3 => exact Kd.C_below HR0_4.out (bT HB)); (case side4 => exact HC0_4.out); rintro e w37 ⟨rfl,hb⟩; have n0_ := zA (Kd.R_below (rrA14 (zC (zB (p := ⟨gb391,4,none⟩) (zB (p := ⟨gb391,3,none⟩) (zB (p := ⟨gb391,2,none⟩) (zB (p := ⟨gb391,1,none⟩) (zB (p := ⟨gb391,0,none⟩) (zD HO386.out BK391.out (by decide)) (fun _ h=>h.2) (.int .i64 t382)) (fun _ h=>h.2) (.int .i64 t383)) (fun _ h=>h.2) (.slice Ao17 t384.length co17)) (fun _ h=>h.2) (.int .i64 t387)) (fun _ h=>h.2) (.slice Ao18 t388.length co18)) (fun _ h_ => h_.1))) hb); have n1_ := zA (Kd.R_below (rrA14 (zC (zB (p := ⟨gb391,4,none⟩) (zB (p := ⟨gb391,3,none⟩) (zB (p := ⟨gb391,2,none⟩) (zB (p := ⟨gb391,1,none⟩) (zB (p := ⟨gb391,0,none⟩) (zD HO390.out BK391.out (by decide)) (fun _ h=>h.2) (.int .i64 t382)) (fun _ h=>h.2) (.int .i64 t383)) (fun _ h=>h.2) (.slice Ao17 t384.length co17)) (fun _ h=>h.2) (.int .i64 t387)) (fun _ h=>h.2) (.slice Ao18 t388.length co18)) (fun _ h_ => h_.1))) hb); have n2_ := zA (blk_below (bkT BK379.out) hb); have n3_ := zA (blk_below (bkT BK380.out) hb); have n4_ := zA (blk_below (bkT BK381.out) hb); have n5_ := zA (blk_below (g := gb391) (o := .cells #[.int .i64 t382,.int .i64 t383,.slice Ao17 t384.length co17,.int .i64 t387,.slice Ao18 t388.length co18] 26 (0,0)) (by (with_reducible repeat (first|refine zE ?_ _|refine zG ?_|refine zF ?_ _)); refine blk_put (cs := #[.int .i64 t382,.int .i64 t383,.slice Ao17 t384.length co17,.int .i64 t387,.slice none 0 0]) ?_ 4 _ rfl; (with_reducible repeat (first|refine zE ?_ _|refine zG ?_|refine zF ?_ _)); refine blk_put (cs := #[.int .i64 t382,.int .i64 t383,.slice Ao17 t384.length co17,.int .i64 0,.slice none 0 0]) ?_ 3 _ rfl; (with_reducible repeat (first|refine zE ?_ _|refine zG ?_|refine zF ?_ _)); refine blk_put (cs := #[.int .i64 t382,.int .i64 t383,.slice none 0 0,.int .i64 0,.slice none 0 0]) ?_ 2 _ rfl; (with_reducible repeat (first|refine zE ?_ _|refine zG ?_|refine zF ?_ _)); refine blk_put (cs := #[.int .i64 t382,.int .i64 0,.slice none 0 0,.int .i64 0,.slice none 0 0]) ?_ 1 _ rfl; (with_reducible repeat (first|refine zE ?_ _|refine zG ?_|refine zF ?_ _)); refine blk_put (cs := #[.int .i64 0,.int .i64 0,.slice none 0 0,.int .i64 0,.slice none 0 0]) ?_ 0 _ rfl; (with_reducible repeat (first|refine zE ?_ _|refine zG ?_|refine zF ?_ _)); exact BK391.out) hb); have n6_ := zA (below_step (bT HB) hb); clear HO386 HO390 BK379 BK380 BK381 BK391 HB; have HO386 := n0_; have HO390 := n1_; have BK379 := n2_; have BK380 := n3_; have BK381 := n4_; have BK391 := n5_; have HB := n6_; clear n0_ n1_ n2_ n3_ n4_ n5_ n6_))
     go_meet
     case rel => exact ⟨_,(!t392),(by first|rfl|(simp; done)|(simp [*]; done)),H',⟨by first|omega|exact Nat.le_refl _⟩,⟨Kd.Q_of_R (rrA14 HO386.out)⟩,⟨(rrA14 HO390.out)⟩,⟨(bkT BK379.out)⟩,⟨(bkT BK380.out)⟩,⟨(bkT BK381.out)⟩,⟨(bkT BK391.out)⟩,⟨bT HB⟩⟩
  case rest =>
   clear HC4
   obtain ⟨kq,x22_3,rfl,HA,HJ3,HO_392002,HO_392004,BK379,BK380,BK381,BK391,HB⟩ := hcut
   cases kq with
   | zero => exact absurd HA.out (by simp [impl_Receive.j0])
   | succ kj3 =>
    have H := HA.out
    clear HA
    simp only [impl_Receive.j0] at H
    by_cases c38 : x22_3 = true
    ·
     subst c38
     have H1 : (some (t382,t383,t384,t387,t388,false)) = some (r1,r2,r3,r4,r5,r6) := by rw [if_pos rfl] at H; exact H
     clear H; have H := H1; clear H1
     simp only [Option.some.injEq,Prod.mk.injEq] at H
     obtain ⟨rfl,rfl,rfl,rfl,rfl,rfl⟩ := H
     have hnb39 := NB391_379.out
     have hnc39 := NB379_391.out
     have hnb40 := NB391_380.out
     have hnc40 := NB380_391.out
     have hnb41 := NB391_381.out
     have hnc41 := NB381_391.out
     obtain ⟨_,_,_,_,_,_,_,_,_,_⟩ := cz5 BK391.out
     have hnb43 := NB381_379.out
     have hnc43 := NB379_381.out
     have hnb44 := NB381_380.out
     have hnc44 := NB380_381.out
     obtain ⟨_,_,_,_,_,_,_,_,_,_⟩ := cz5 BK381.out
     go_wp2
     refine bodyPost_ret (results_ct rfl _ _ gb381 26 #[.int .i64 t382,.int .i64 t383,.slice Ao17 t384.length co17,.int .i64 t387,.slice Ao18 t388.length co18] (0,0) _ rfl (by (with_reducible repeat (first|refine zE ?_ _|refine zG ?_|refine zF ?_ _)); refine blk_put (cs := #[.int .i64 t382,.int .i64 t383,.slice Ao17 t384.length co17,.int .i64 t387,.slice none 0 0]) ?_ 4 _ rfl; (with_reducible repeat (first|refine zE ?_ _|refine zG ?_|refine zF ?_ _)); refine blk_put (cs := #[.int .i64 t382,.int .i64 t383,.slice Ao17 t384.length co17,.int .i64 0,.slice none 0 0]) ?_ 3 _ rfl; (with_reducible repeat (first|refine zE ?_ _|refine zG ?_|refine zF ?_ _)); refine blk_put (cs := #[.int .i64 t382,.int .i64 t383,.slice none 0 0,.int .i64 0,.slice none 0 0]) ?_ 2 _ rfl; (with_reducible repeat (first|refine zE ?_ _|refine zG ?_|refine zF ?_ _)); refine blk_put (cs := #[.int .i64 t382,.int .i64 0,.slice none 0 0,.int .i64 0,.slice none 0 0]) ?_ 1 _ rfl; (with_reducible repeat (first|refine zE ?_ _|refine zG ?_|refine zF ?_ _)); refine blk_put (cs := #[.int .i64 0,.int .i64 0,.slice none 0 0,.int .i64 0,.slice none 0 0]) ?_ 0 _ rfl; (with_reducible repeat (first|refine zE ?_ _|refine zG ?_|refine zF ?_ _)); exact BK381.out) Try.underlying26 rfl (by kernel_rfl)) rfl ?_
     exact ⟨_,_,by first|rfl|(simp [errW_none,errW_some] <;> rfl)|(simp [*,errW_none,errW_some] <;> rfl),by (with_reducible repeat (first|apply Kd.Q_alloc|apply Kd.Q_drewN|apply Kd.Q_drew)); exact Kd.Q_mono (Kd.Q_far (p := ⟨gb381,4,none⟩) (Kd.Q_far (p := ⟨gb381,3,none⟩) (Kd.Q_far (p := ⟨gb381,2,none⟩) (Kd.Q_far (p := ⟨gb381,1,none⟩) (Kd.Q_far (p := ⟨gb381,0,none⟩) (Kd.Q_types HO_392002.out BK381.out (by decide)) (fun _ h=>h.2) (.int .i64 t382)) (fun _ h=>h.2) (.int .i64 t383)) (fun _ h=>h.2) (.slice Ao17 t384.length co17)) (fun _ h=>h.2) (.int .i64 t387)) (fun _ h=>h.2) (.slice Ao18 t388.length co18)) (fun _ hk => hk.1),by (with_reducible repeat (first|apply Kd.R_alloc|apply Kd.R_drewN|apply Kd.R_drew)); exact zC (zB (p := ⟨gb381,4,none⟩) (zB (p := ⟨gb381,3,none⟩) (zB (p := ⟨gb381,2,none⟩) (zB (p := ⟨gb381,1,none⟩) (zB (p := ⟨gb381,0,none⟩) (zD HO_392004.out BK381.out (by decide)) (fun _ h=>h.2) (.int .i64 t382)) (fun _ h=>h.2) (.int .i64 t383)) (fun _ h=>h.2) (.slice Ao17 t384.length co17)) (fun _ h=>h.2) (.int .i64 t387)) (fun _ h=>h.2) (.slice Ao18 t388.length co18)) (fun _ hk => hk.1),bT HB⟩
    ·
     replace c38 := Bool.eq_false_iff.mpr c38
     subst c38
     have H1 : (if a1_1 > a0_1 then (impl_Receive.j1 kj3 (decide (a1_1 ≤ a0_0)) a0_0 a0_1 l0_2 a0_3 l0_4 a1_0 a1_1 a1_2 t382 t383 t384 t387 t388) else (impl_Receive.j1 kj3 false a0_0 a0_1 l0_2 a0_3 l0_4 a1_0 a1_1 a1_2 t382 t383 t384 t387 t388)) = some (r1,r2,r3,r4,r5,r6) := by rw [if_neg (show ¬ (false = true) by decide)] at H; exact H
     clear H; have H := H1; clear H1
     have HC46 := zA H
     clear H
     go_upto_region 4 with (fail)
     go_cut [35] (fun v35 wc => ∃ (kq : Nat) (x35_45 : Bool),v35 = .bool x35_45 ∧ Aside0 (impl_Receive.j1 kq x35_45 a0_0 a0_1 l0_2 a0_3 l0_4 a1_0 a1_1 a1_2 t382 t383 t384 t387 t388 = some (r1,r2,r3,r4,r5,r6)) ∧ Aside0 (kq ≤ kj3) ∧ Aside0 (Kd.Q Kd.string 9 wc w.heap.size (fun k_ => some k_ ≠ ((.slice Ao18 t388.length co18) : Value).ownBlock) (.slice Ao17 t384.length co17) t384) ∧ Aside0 (Kd.R Kd.string 9 wc w.heap.size (fun k_ => some k_ ≠ ((.slice Ao17 t384.length co17) : Value).ownBlock) (.slice Ao18 t388.length co18) t388) ∧ Aside0 (wc.heap[gb379]? = some (.cells #[.int .i64 a0_0,.int .i64 a0_1,(.slice A0_2 l0_2.length c0_2),.int .i64 a0_3,(.slice A0_4 l0_4.length c0_4)] 26 (0,0))) ∧ Aside0 (wc.heap[gb380]? = some (.cells #[.int .i64 a1_0,.int .i64 a1_1,.string a1_2] 36 (0,0))) ∧ Aside0 (wc.heap[gb381]? = some (.cells #[.int .i64 0,.int .i64 0,(.slice none 0 0),.int .i64 0,(.slice none 0 0)] 26 (0,0))) ∧ Aside0 (wc.heap[gb391]? = some (.cells #[.int .i64 t382,.int .i64 t383,(.slice Ao17 t384.length co17),.int .i64 t387,(.slice Ao18 t388.length co18)] 26 (0,0))) ∧ Aside0 (Below w.heap.size w wc))
     case first =>
      have H := HC46.out
      clear HC46
      by_cases c47 : a1_1 > a0_1
      ·
       rw [if_pos c47] at H
       have c47b0 : decide (a0_1 < a1_1) = true := decide_eq_true c47
       clear c47
       (first | rw [c47b0]|(simp only [i64_w,i32_w]; rw [c47b0])|skip)
       have H' := zA H
       clear H
       have hnb48 := NB380_379.out
       have hnc48 := NB379_380.out
       have hnb49 := NB380_381.out
       have hnc49 := NB381_380.out
       have hnb50 := NB380_391.out
       have hnc50 := NB391_380.out
       obtain ⟨_,_,_,_,_,_⟩ := cz3 BK380.out
       have hnb52 := NB379_381.out
       have hnc52 := NB381_379.out
       have hnb53 := NB379_391.out
       have hnc53 := NB391_379.out
       obtain ⟨_,_,_,_,_,_,_,_,_,_⟩ := cz5 BK379.out
       go_wp2
       go_meet
       case rel => exact ⟨_,(decide (a1_1 ≤ a0_0)),(by first|rfl|(simp; done)|(simp [*]; done)),H',⟨by have := HJ3.out; first|omega|exact Nat.le_refl _⟩,⟨(rrQ HO_392002.out)⟩,⟨(rrA14 HO_392004.out)⟩,⟨(bkT BK379.out)⟩,⟨(bkT BK380.out)⟩,⟨(bkT BK381.out)⟩,⟨(bkT BK391.out)⟩,⟨bT HB⟩⟩
      ·
       rw [if_neg c47] at H
       have c47b0 : decide (a0_1 < a1_1) = false := decide_eq_false c47
       clear c47
       (first | rw [c47b0]|(simp only [i64_w,i32_w]; rw [c47b0])|skip)
       have H' := zA H
       clear H
       have hnb55 := NB380_379.out
       have hnc55 := NB379_380.out
       have hnb56 := NB380_381.out
       have hnc56 := NB381_380.out
       have hnb57 := NB380_391.out
       have hnc57 := NB391_380.out
       obtain ⟨_,_,_,_,_,_⟩ := cz3 BK380.out
       have hnb59 := NB379_381.out
       have hnc59 := NB381_379.out
       have hnb60 := NB379_391.out
       have hnc60 := NB391_379.out
       obtain ⟨_,_,_,_,_,_,_,_,_,_⟩ := cz5 BK379.out
       go_wp2
       go_meet
       case rel => exact ⟨_,(false),(by first|rfl|(simp; done)|(simp [*]; done)),H',⟨by have := HJ3.out; first|omega|exact Nat.le_refl _⟩,⟨(rrQ HO_392002.out)⟩,⟨(rrA14 HO_392004.out)⟩,⟨(bkT BK379.out)⟩,⟨(bkT BK380.out)⟩,⟨(bkT BK381.out)⟩,⟨(bkT BK391.out)⟩,⟨bT HB⟩⟩
     case rest =>
      clear HC46
      obtain ⟨kq,x35_45,rfl,HA,HJ45,HO_392002,HO_392004,BK379,BK380,BK381,BK391,HB⟩ := hcut
      cases kq with
      | zero => exact absurd HA.out (by simp [impl_Receive.j1])
      | succ kj45 =>
       have H := HA.out
       clear HA
       simp only [impl_Receive.j1] at H
       by_cases c62 : x35_45 = true
       ·
        subst c62
        have H1 : (if 0 ≤ (wrap64 (a1_1 - a0_1)) then (if (wrap64 (a1_1 - a0_1)) ≤ (t384.length : Int) then ((some (t384.drop ((wrap64 (a1_1 - a0_1)) : Int).toNat : List ByteArray)).bind fun y393 => (if a1_0 = (wrap64 (a0_3 + 1)) then (if a0_3 ≥ 1000 then (some (t382,a1_1,y393,t387,t388,false)) else (if t388.length < 8796093022208 then (some (t382,a1_1,y393,wrap64 (t387 + 1),(t388 ++ [a1_2]),true)) else (none))) else (some (t382,a1_1,y393,t387,t388,false)))) else (none)) else (none)) = some (r1,r2,r3,r4,r5,r6) := by rw [if_pos rfl] at H; exact H
        clear H; have H := H1; clear H1
        obtain ⟨ji63,hji63⟩ : ∃ j_ : Int,(wrap64 (a1_1 - a0_1)) = j_ := ⟨_,rfl⟩
        replace H : (if 0 ≤ (ji63) then (if (ji63) ≤ (t384.length : Int) then ((some (t384.drop ((ji63) : Int).toNat : List ByteArray)).bind fun y393 => (if a1_0 = (wrap64 (a0_3 + 1)) then (if a0_3 ≥ 1000 then (some (t382,a1_1,y393,t387,t388,false)) else (if t388.length < 8796093022208 then (some (t382,a1_1,y393,wrap64 (t387 + 1),(t388 ++ [a1_2]),true)) else (none))) else (some (t382,a1_1,y393,t387,t388,false)))) else (none)) else (none)) = some (r1,r2,r3,r4,r5,r6) := by first | (rw [hji63] at H; exact H)|(simp only [hji63] at H ⊢; exact H)
        have hji63w : (IntKind.i64.wrap (a1_1 - a0_1)) = ji63 := (i64_w _).trans hji63
        by_cases c64 : 0 ≤ (ji63)
        ·
         rw [if_pos c64] at H
         have c64b0 := eq_true c64
         have c64b1 : decide (0 ≤ (ji63)) = true := decide_eq_true c64
         clear c64
         by_cases c65 : (ji63) ≤ (t384.length : Int)
         ·
          rw [if_pos c65] at H
          have c65b0 := eq_true c65
          have c65b1 : decide ((ji63) ≤ (t384.length : Int)) = true := decide_eq_true c65
          clear c65
          obtain ⟨y393,hy393⟩ : ∃ y_ : List ByteArray,y_ = (t384.drop ((ji63) : Int).toNat) := ⟨_,rfl⟩
          replace H : (if a1_0 = (wrap64 (a0_3 + 1)) then (if a0_3 ≥ 1000 then (some (t382,a1_1,y393,t387,t388,false)) else (if t388.length < 8796093022208 then (some (t382,a1_1,y393,wrap64 (t387 + 1),(t388 ++ [a1_2]),true)) else (none))) else (some (t382,a1_1,y393,t387,t388,false))) = some (r1,r2,r3,r4,r5,r6) := by first | (rw [hy393]; with_reducible exact H) | (have H2_ := (Option.bind_some _ _).symm.trans H; rw [hy393]; with_reducible exact H2_) | (have H2_ := (Option.bind_some _ _).symm.trans H; with_reducible exact H2_)|with_reducible exact H | (rw [hy393]; exact H)|exact H
          have Ny393 := zA hy393
          clear hy393
          by_cases c66 : a1_0 = (wrap64 (a0_3 + 1))
          ·
           rw [if_pos c66] at H
           have c66b0 : (a1_0 == (wrap64 (a0_3 + 1))) = true := beq_iff_eq.mpr c66
           have c66b1 : (a1_0 != (wrap64 (a0_3 + 1))) = false := bne_eq_false_iff_eq.mpr c66
           clear c66
           by_cases c67 : a0_3 ≥ 1000
           ·
            rw [if_pos c67] at H
            have c67b0 : decide (1000 ≤ a0_3) = true := decide_eq_true c67
            clear c67
            simp only [Option.some.injEq,Prod.mk.injEq] at H
            obtain ⟨rfl,rfl,rfl,rfl,rfl,rfl⟩ := H
            have hnb68 := NB391_379.out
            have hnc68 := NB379_391.out
            have hnb69 := NB391_380.out
            have hnc69 := NB380_391.out
            have hnb70 := NB391_381.out
            have hnc70 := NB381_391.out
            obtain ⟨_,_,_,_,_,_,_,_,_,_⟩ := cz5 BK391.out
            have hnb72 := NB380_379.out
            have hnc72 := NB379_380.out
            have hnb73 := NB380_381.out
            have hnc73 := NB381_380.out
            obtain ⟨_,_,_,_,_,_⟩ := cz3 BK380.out
            have hnb75 := NB379_381.out
            have hnc75 := NB381_379.out
            obtain ⟨_,_,_,_,_,_,_,_,_,_⟩ := cz5 BK379.out
            have q77 : ((ji63) : Int) ≤ ((t384.length : Int) : Int) := of_decide_eq_true (by first|(with_reducible assumption) | assumption)
            obtain ⟨i077,hi077,_,hsz77,_⟩ := info_parts info9
            have hcut77 := cut_from (P := Try.prog) 22 9 .i64 Try.underlying22 hi077 1 hsz77 Ao17 t384.length co17 (ji63) (of_decide_eq_true (by first|(with_reducible assumption) | assumption)) q77
            have hr77 := Kd.Q_drop (k := ((ji63) : Int).toNat) HO_392002.out (by omega)
            obtain ⟨A77,hA77⟩ : ∃ A1,A1 = (if co17 = ((ji63) : Int).toNat then Ao17 else (Ao17 : Option Addr).map (·.add (((ji63) : Int).toNat * 1))) := ⟨_,rfl⟩
            obtain ⟨c77,hc77⟩ : ∃ c1,c1 = co17 - ((ji63) : Int).toNat := ⟨_,rfl⟩
            have hy77 : y393.length = t384.length - ((ji63) : Int).toNat := (by rw [Ny393.out,List.length_drop])
            rw [← Ny393.out] at hr77
            rw [← hy77,← hA77,← hc77] at hcut77
            replace hr77 : Kd.Q Kd.string 9 wc w.heap.size (fun k_ => some k_ ≠ (.slice Ao18 t388.length co18 : Value).ownBlock) (.slice A77 y393.length c77) y393 := (by rw [hA77,hc77,hy77]; exact hr77)
            have HE77 : Aside0 ((Value.slice A77 y393.length c77).ownBlock = (.slice Ao17 t384.length co17 : Value).ownBlock) := ⟨by rw [hA77]; split <;> (cases (Ao17 : Option Addr) <;> first|rfl|(simp only [Option.map_some,Value.ownBlock]; unfold Addr.add; split <;> rfl))⟩
            clear hy77 hi077 hsz77 HO_392002 hA77 hc77
            have HO395 := zA hr77
            clear hr77
            replace q77 := eq_true q77
            have n_ := zA (zC (ok' := fun k_ => some k_ ≠ (.slice A77 y393.length c77 : Value).ownBlock) HO_392004.out (fun k_ hk => (by rw [HE77.out]; exact hk)))
            clear HO_392004
            have HO_392004 := n_
            clear n_
            obtain ⟨_,_,_,_,_,_,_,_,_,_⟩ := cz5 BK381.out
            go_wp2
            refine bodyPost_ret (results_ct rfl _ _ gb381 26 #[.int .i64 t382,.int .i64 a1_1,.slice A77 y393.length c77,.int .i64 t387,.slice Ao18 t388.length co18] (0,0) _ rfl (by (with_reducible repeat (first|refine zE ?_ _|refine zG ?_|refine zF ?_ _)); refine blk_put (cs := #[.int .i64 t382,.int .i64 a1_1,.slice A77 y393.length c77,.int .i64 t387,.slice none 0 0]) ?_ 4 _ rfl; (with_reducible repeat (first|refine zE ?_ _|refine zG ?_|refine zF ?_ _)); refine blk_put (cs := #[.int .i64 t382,.int .i64 a1_1,.slice A77 y393.length c77,.int .i64 0,.slice none 0 0]) ?_ 3 _ rfl; (with_reducible repeat (first|refine zE ?_ _|refine zG ?_|refine zF ?_ _)); refine blk_put (cs := #[.int .i64 t382,.int .i64 a1_1,.slice none 0 0,.int .i64 0,.slice none 0 0]) ?_ 2 _ rfl; (with_reducible repeat (first|refine zE ?_ _|refine zG ?_|refine zF ?_ _)); refine blk_put (cs := #[.int .i64 t382,.int .i64 0,.slice none 0 0,.int .i64 0,.slice none 0 0]) ?_ 1 _ rfl; (with_reducible repeat (first|refine zE ?_ _|refine zG ?_|refine zF ?_ _)); refine blk_put (cs := #[.int .i64 0,.int .i64 0,.slice none 0 0,.int .i64 0,.slice none 0 0]) ?_ 0 _ rfl; (with_reducible repeat (first|refine zE ?_ _|refine zG ?_|refine zF ?_ _)); refine blk_far ?_ NB381_391.out _; (with_reducible repeat (first|refine zE ?_ _|refine zG ?_|refine zF ?_ _)); refine blk_far ?_ NB381_391.out _; (with_reducible repeat (first|refine zE ?_ _|refine zG ?_|refine zF ?_ _)); exact BK381.out) Try.underlying26 rfl (by kernel_rfl)) rfl ?_
            exact ⟨_,_,by first|rfl|(simp [errW_none,errW_some] <;> rfl)|(simp only [← hji63]; first|rfl|(simp [errW_none,errW_some] <;> rfl))|(simp [*,errW_none,errW_some] <;> rfl),by (with_reducible repeat (first|apply Kd.Q_alloc|apply Kd.Q_drewN|apply Kd.Q_drew)); exact Kd.Q_mono (Kd.Q_far (p := ⟨gb381,4,none⟩) (Kd.Q_far (p := ⟨gb381,3,none⟩) (Kd.Q_far (p := ⟨gb381,2,none⟩) (Kd.Q_far (p := ⟨gb381,1,none⟩) (Kd.Q_far (p := ⟨gb381,0,none⟩) (Kd.Q_far (p := ⟨gb391,1,none⟩) (Kd.Q_far (p := ⟨gb391,2,none⟩) (Kd.Q_types (Kd.Q_types HO395.out BK391.out (by decide)) BK381.out (by decide)) (fun _ hk => hk.1.2) (.slice A77 y393.length c77)) (fun _ hk => hk.1.2) (.int .i64 a1_1)) (fun _ h=>h.2) (.int .i64 t382)) (fun _ h=>h.2) (.int .i64 a1_1)) (fun _ h=>h.2) (.slice A77 y393.length c77)) (fun _ h=>h.2) (.int .i64 t387)) (fun _ h=>h.2) (.slice Ao18 t388.length co18)) (fun _ hk => hk.1.1),by (with_reducible repeat (first|apply Kd.R_alloc|apply Kd.R_drewN|apply Kd.R_drew)); exact zC (zB (p := ⟨gb381,4,none⟩) (zB (p := ⟨gb381,3,none⟩) (zB (p := ⟨gb381,2,none⟩) (zB (p := ⟨gb381,1,none⟩) (zB (p := ⟨gb381,0,none⟩) (zB (p := ⟨gb391,1,none⟩) (zB (p := ⟨gb391,2,none⟩) (zD (zD HO_392004.out BK391.out (by decide)) BK381.out (by decide)) (fun _ hk => hk.1.2) (.slice A77 y393.length c77)) (fun _ hk => hk.1.2) (.int .i64 a1_1)) (fun _ h=>h.2) (.int .i64 t382)) (fun _ h=>h.2) (.int .i64 a1_1)) (fun _ h=>h.2) (.slice A77 y393.length c77)) (fun _ h=>h.2) (.int .i64 t387)) (fun _ h=>h.2) (.slice Ao18 t388.length co18)) (fun _ hk => hk.1.1),bT HB⟩
           ·
            rw [if_neg c67] at H
            have c67b0 : decide (1000 ≤ a0_3) = false := decide_eq_false c67
            clear c67
            by_cases c79 : t388.length < 8796093022208
            ·
             rw [if_pos c79] at H
             have LMc79 := zA c79
             clear c79
             obtain ⟨y396,hy396⟩ : ∃ y_ : List ByteArray,y_ = (t388 ++ [a1_2]) := ⟨_,rfl⟩
             replace H : (some (t382,a1_1,y393,wrap64 (t387 + 1),y396,true)) = some (r1,r2,r3,r4,r5,r6) := by first | (rw [hy396]; with_reducible exact H) | (have H2_ := (Option.bind_some _ _).symm.trans H; rw [hy396]; with_reducible exact H2_) | (have H2_ := (Option.bind_some _ _).symm.trans H; with_reducible exact H2_)|with_reducible exact H | (rw [hy396]; exact H)|exact H
             have Ny396 := zA hy396
             clear hy396
             simp only [Option.some.injEq,Prod.mk.injEq] at H
             obtain ⟨rfl,rfl,rfl,rfl,rfl,rfl⟩ := H
             have hnb80 := NB391_379.out
             have hnc80 := NB379_391.out
             have hnb81 := NB391_380.out
             have hnc81 := NB380_391.out
             have hnb82 := NB391_381.out
             have hnc82 := NB381_391.out
             obtain ⟨_,_,_,_,_,_,_,_,_,_⟩ := cz5 BK391.out
             have hnb84 := NB380_379.out
             have hnc84 := NB379_380.out
             have hnb85 := NB380_381.out
             have hnc85 := NB381_380.out
             obtain ⟨_,_,_,_,_,_⟩ := cz3 BK380.out
             have hnb87 := NB379_381.out
             have hnc87 := NB381_379.out
             obtain ⟨_,_,_,_,_,_,_,_,_,_⟩ := cz5 BK379.out
             have q89 : ((ji63) : Int) ≤ ((t384.length : Int) : Int) := of_decide_eq_true (by first|(with_reducible assumption) | assumption)
             obtain ⟨i089,hi089,_,hsz89,_⟩ := info_parts info9
             have hcut89 := cut_from (P := Try.prog) 22 9 .i64 Try.underlying22 hi089 1 hsz89 Ao17 t384.length co17 (ji63) (of_decide_eq_true (by first|(with_reducible assumption) | assumption)) q89
             have hr89 := Kd.Q_drop (k := ((ji63) : Int).toNat) HO_392002.out (by omega)
             obtain ⟨A89,hA89⟩ : ∃ A1,A1 = (if co17 = ((ji63) : Int).toNat then Ao17 else (Ao17 : Option Addr).map (·.add (((ji63) : Int).toNat * 1))) := ⟨_,rfl⟩
             obtain ⟨c89,hc89⟩ : ∃ c1,c1 = co17 - ((ji63) : Int).toNat := ⟨_,rfl⟩
             have hy89 : y393.length = t384.length - ((ji63) : Int).toNat := (by rw [Ny393.out,List.length_drop])
             rw [← Ny393.out] at hr89
             rw [← hy89,← hA89,← hc89] at hcut89
             replace hr89 : Kd.Q Kd.string 9 wc w.heap.size (fun k_ => some k_ ≠ (.slice Ao18 t388.length co18 : Value).ownBlock) (.slice A89 y393.length c89) y393 := (by rw [hA89,hc89,hy89]; exact hr89)
             have HE89 : Aside0 ((Value.slice A89 y393.length c89).ownBlock = (.slice Ao17 t384.length co17 : Value).ownBlock) := ⟨by rw [hA89]; split <;> (cases (Ao17 : Option Addr) <;> first|rfl|(simp only [Option.map_some,Value.ownBlock]; unfold Addr.add; split <;> rfl))⟩
             clear hy89 hi089 hsz89 HO_392002 hA89 hc89
             have HO395 := zA hr89
             clear hr89
             replace q89 := eq_true q89
             have n_ := zA (zC (ok' := fun k_ => some k_ ≠ (.slice A89 y393.length c89 : Value).ownBlock) HO_392004.out (fun k_ hk => (by rw [HE89.out]; exact hk)))
             clear HO_392004
             have HO_392004 := n_
             clear n_
             go_wp2_with (first | ((with_reducible refine gate_builtin (b := .append) (xs := #[.tmp 61,.tmp 64]) rfl ?_); (try (refine gate_guard (by rfl) ?_; dsimp only)); at_builtin; refine Kd.R_append Kd.string (w0 := w) w.heap.size rfl (.tmp 61) (.tmp 64) 22 9 (.string ⟨#[]⟩) 16 rfl Try.underlying22 info9 rfl (by decide) (by omega) (.slice Ao18 t388.length co18) t388 a1_2 [.string a1_2] (fun k_ => some k_ ≠ (.slice A89 y393.length c89 : Value).ownBlock) (fun _ => False) rfl (by first | (go_simp; done) | (go_simp; rfl)) ?aP (fun _ hk => hk.elim) ?aF ?aO ?aB ?aS ?aL ?_; (case aP => exact rfl); (case aB => exact (bT HB)); (case aF => exact (fun k_ hk => Kd.fresh' (Kd.Q_lt (by (with_reducible repeat (first|apply Kd.Q_alloc|apply Kd.Q_drewN|apply Kd.Q_drew)); exact (Kd.Q_mono (Kd.Q_far (p := ⟨gb391,1,none⟩) (Kd.Q_far (p := ⟨gb391,2,none⟩) (Kd.Q_types HO395.out BK391.out (by decide)) (fun _ h=>h.2) (.slice A89 y393.length c89)) (fun _ h=>h.2) (.int .i64 a1_1)) (fun _ h_ => h_.1)))) k_ hk)); (case aO => exact (by (with_reducible repeat (first|apply Kd.R_alloc|apply Kd.R_drewN|apply Kd.R_drew)); exact zC (zB (p := ⟨gb391,1,none⟩) (zB (p := ⟨gb391,2,none⟩) (zD HO_392004.out BK391.out (by decide)) (fun _ h=>h.2) (.slice A89 y393.length c89)) (fun _ h=>h.2) (.int .i64 a1_1)) (fun _ hk => hk.1))); (case aS => exact (below_size (bT HB))); (case aL => have := LMc79.out; omega); intro v397 w90 ho hb hg hat; rw [← Ny396.out] at ho; have n0_ := zA (Kd.Q_after (ok := (fun _ => True)) (by (with_reducible repeat (first|apply Kd.Q_alloc|apply Kd.Q_drewN|apply Kd.Q_drew)); exact Kd.Q_mono (Kd.Q_far (p := ⟨gb391,1,none⟩) (Kd.Q_far (p := ⟨gb391,2,none⟩) (Kd.Q_types HO395.out BK391.out (by decide)) (fun _ h=>h.2) (.slice A89 y393.length c89)) (fun _ h=>h.2) (.int .i64 a1_1)) (fun _ hk => ⟨trivial,hk.1⟩)) hg hat); have n1_ := zA (blk_grown (bkT BK379.out) hg (Kd.R_ne HO_392004.out BK379.out (by decide))); have n2_ := zA (blk_grown (bkT BK380.out) hg (Kd.R_ne HO_392004.out BK380.out (by decide))); have n3_ := zA (blk_grown (bkT BK381.out) hg (Kd.R_ne HO_392004.out BK381.out (by decide))); have n4_ := zA (blk_grown (g := gb391) (o := .cells #[.int .i64 t382,.int .i64 a1_1,.slice A89 y393.length c89,.int .i64 t387,.slice Ao18 t388.length co18] 26 (0,0)) (by (with_reducible repeat (first|refine zE ?_ _|refine zG ?_|refine zF ?_ _)); refine blk_put (cs := #[.int .i64 t382,.int .i64 t383,.slice A89 y393.length c89,.int .i64 t387,.slice Ao18 t388.length co18]) ?_ 1 _ rfl; (with_reducible repeat (first|refine zE ?_ _|refine zG ?_|refine zF ?_ _)); refine blk_put (cs := #[.int .i64 t382,.int .i64 t383,.slice Ao17 t384.length co17,.int .i64 t387,.slice Ao18 t388.length co18]) ?_ 2 _ rfl; (with_reducible repeat (first|refine zE ?_ _|refine zG ?_|refine zF ?_ _)); exact BK391.out) hg (Kd.R_ne HO_392004.out BK391.out (by decide))); have n5_ := zA (hb); have n6_ := zA (ho); clear HO395 BK379 BK380 BK381 BK391 HB HO_392004; have HO395 := n0_; have BK379 := n1_; have BK380 := n2_; have BK381 := n3_; have BK391 := n4_; have HB := n5_; have HO398 := n6_; clear n0_ n1_ n2_ n3_ n4_ n5_ n6_ ho hb hg hat; obtain ⟨Ao91,co91,eo91⟩ := Kd.R_slice HO398.out; subst eo91; obtain ⟨_,_,_,_,_,_,_,_,_,_⟩ := cz5 BK391.out; obtain ⟨_,_,_,_,_,_,_,_,_,_⟩ := cz5 BK381.out))
             refine bodyPost_ret (results_ct rfl _ _ gb381 26 #[.int .i64 t382,.int .i64 a1_1,.slice A89 y393.length c89,.int .i64 (wrap64 (t387 + 1)),.slice Ao91 y396.length co91] (0,0) _ rfl (by (with_reducible repeat (first|refine zE ?_ _|refine zG ?_|refine zF ?_ _)); refine blk_put (cs := #[.int .i64 t382,.int .i64 a1_1,.slice A89 y393.length c89,.int .i64 (wrap64 (t387 + 1)),.slice none 0 0]) ?_ 4 _ rfl; (with_reducible repeat (first|refine zE ?_ _|refine zG ?_|refine zF ?_ _)); refine blk_put (cs := #[.int .i64 t382,.int .i64 a1_1,.slice A89 y393.length c89,.int .i64 0,.slice none 0 0]) ?_ 3 _ rfl; (with_reducible repeat (first|refine zE ?_ _|refine zG ?_|refine zF ?_ _)); refine blk_put (cs := #[.int .i64 t382,.int .i64 a1_1,.slice none 0 0,.int .i64 0,.slice none 0 0]) ?_ 2 _ rfl; (with_reducible repeat (first|refine zE ?_ _|refine zG ?_|refine zF ?_ _)); refine blk_put (cs := #[.int .i64 t382,.int .i64 0,.slice none 0 0,.int .i64 0,.slice none 0 0]) ?_ 1 _ rfl; (with_reducible repeat (first|refine zE ?_ _|refine zG ?_|refine zF ?_ _)); refine blk_put (cs := #[.int .i64 0,.int .i64 0,.slice none 0 0,.int .i64 0,.slice none 0 0]) ?_ 0 _ rfl; (with_reducible repeat (first|refine zE ?_ _|refine zG ?_|refine zF ?_ _)); refine blk_far ?_ NB381_391.out _; (with_reducible repeat (first|refine zE ?_ _|refine zG ?_|refine zF ?_ _)); refine blk_far ?_ NB381_391.out _; (with_reducible repeat (first|refine zE ?_ _|refine zG ?_|refine zF ?_ _)); exact BK381.out) Try.underlying26 rfl (by kernel_rfl)) rfl ?_
             exact ⟨_,_,by first|rfl|(simp [errW_none,errW_some] <;> rfl)|(simp only [← hji63]; first|rfl|(simp [errW_none,errW_some] <;> rfl))|(simp [*,errW_none,errW_some] <;> rfl),by (with_reducible repeat (first|apply Kd.Q_alloc|apply Kd.Q_drewN|apply Kd.Q_drew)); exact Kd.Q_mono (Kd.Q_far (p := ⟨gb381,4,none⟩) (Kd.Q_far (p := ⟨gb381,3,none⟩) (Kd.Q_far (p := ⟨gb381,2,none⟩) (Kd.Q_far (p := ⟨gb381,1,none⟩) (Kd.Q_far (p := ⟨gb381,0,none⟩) (Kd.Q_far (p := ⟨gb391,3,none⟩) (Kd.Q_far (p := ⟨gb391,4,none⟩) (Kd.Q_types (Kd.Q_types HO395.out BK391.out (by decide)) BK381.out (by decide)) (fun _ hk => hk.1.2) (.slice Ao91 y396.length co91)) (fun _ hk => hk.1.2) (.int .i64 (wrap64 (t387 + 1)))) (fun _ h=>h.2) (.int .i64 t382)) (fun _ h=>h.2) (.int .i64 a1_1)) (fun _ h=>h.2) (.slice A89 y393.length c89)) (fun _ h=>h.2) (.int .i64 (wrap64 (t387 + 1)))) (fun _ h=>h.2) (.slice Ao91 y396.length co91)) (fun _ hk => hk.1.1.2),by (with_reducible repeat (first|apply Kd.R_alloc|apply Kd.R_drewN|apply Kd.R_drew)); exact zC (zB (p := ⟨gb381,4,none⟩) (zB (p := ⟨gb381,3,none⟩) (zB (p := ⟨gb381,2,none⟩) (zB (p := ⟨gb381,1,none⟩) (zB (p := ⟨gb381,0,none⟩) (zB (p := ⟨gb391,3,none⟩) (zB (p := ⟨gb391,4,none⟩) (zD (zD HO398.out BK391.out (by decide)) BK381.out (by decide)) (fun _ hk => hk.1.2) (.slice Ao91 y396.length co91)) (fun _ hk => hk.1.2) (.int .i64 (wrap64 (t387 + 1)))) (fun _ h=>h.2) (.int .i64 t382)) (fun _ h=>h.2) (.int .i64 a1_1)) (fun _ h=>h.2) (.slice A89 y393.length c89)) (fun _ h=>h.2) (.int .i64 (wrap64 (t387 + 1)))) (fun _ h=>h.2) (.slice Ao91 y396.length co91)) (fun _ hk => hk.1.1),bT HB⟩
            ·
             rw [if_neg c79] at H
             exact absurd H (by simp)
          ·
           rw [if_neg c66] at H
           have c66b0 : (a1_0 == (wrap64 (a0_3 + 1))) = false := beq_eq_false_iff_ne.mpr c66
           have c66b1 : (a1_0 != (wrap64 (a0_3 + 1))) = true := bne_iff_ne.mpr c66
           simp only [Option.some.injEq,Prod.mk.injEq] at H
           obtain ⟨rfl,rfl,rfl,rfl,rfl,rfl⟩ := H
           have hnb94 := NB391_379.out
           have hnc94 := NB379_391.out
           have hnb95 := NB391_380.out
           have hnc95 := NB380_391.out
           have hnb96 := NB391_381.out
           have hnc96 := NB381_391.out
           obtain ⟨_,_,_,_,_,_,_,_,_,_⟩ := cz5 BK391.out
           have hnb98 := NB380_379.out
           have hnc98 := NB379_380.out
           have hnb99 := NB380_381.out
           have hnc99 := NB381_380.out
           obtain ⟨_,_,_,_,_,_⟩ := cz3 BK380.out
           have hnb101 := NB379_381.out
           have hnc101 := NB381_379.out
           obtain ⟨_,_,_,_,_,_,_,_,_,_⟩ := cz5 BK379.out
           have q103 : ((ji63) : Int) ≤ ((t384.length : Int) : Int) := of_decide_eq_true (by first|(with_reducible assumption) | assumption)
           obtain ⟨i0103,hi0103,_,hsz103,_⟩ := info_parts info9
           have hcut103 := cut_from (P := Try.prog) 22 9 .i64 Try.underlying22 hi0103 1 hsz103 Ao17 t384.length co17 (ji63) (of_decide_eq_true (by first|(with_reducible assumption) | assumption)) q103
           have hr103 := Kd.Q_drop (k := ((ji63) : Int).toNat) HO_392002.out (by omega)
           obtain ⟨A103,hA103⟩ : ∃ A1,A1 = (if co17 = ((ji63) : Int).toNat then Ao17 else (Ao17 : Option Addr).map (·.add (((ji63) : Int).toNat * 1))) := ⟨_,rfl⟩
           obtain ⟨c103,hc103⟩ : ∃ c1,c1 = co17 - ((ji63) : Int).toNat := ⟨_,rfl⟩
           have hy103 : y393.length = t384.length - ((ji63) : Int).toNat := (by rw [Ny393.out,List.length_drop])
           rw [← Ny393.out] at hr103
           rw [← hy103,← hA103,← hc103] at hcut103
           replace hr103 : Kd.Q Kd.string 9 wc w.heap.size (fun k_ => some k_ ≠ (.slice Ao18 t388.length co18 : Value).ownBlock) (.slice A103 y393.length c103) y393 := (by rw [hA103,hc103,hy103]; exact hr103)
           have HE103 : Aside0 ((Value.slice A103 y393.length c103).ownBlock = (.slice Ao17 t384.length co17 : Value).ownBlock) := ⟨by rw [hA103]; split <;> (cases (Ao17 : Option Addr) <;> first|rfl|(simp only [Option.map_some,Value.ownBlock]; unfold Addr.add; split <;> rfl))⟩
           clear hy103 hi0103 hsz103 HO_392002 hA103 hc103
           have HO395 := zA hr103
           clear hr103
           replace q103 := eq_true q103
           have n_ := zA (zC (ok' := fun k_ => some k_ ≠ (.slice A103 y393.length c103 : Value).ownBlock) HO_392004.out (fun k_ hk => (by rw [HE103.out]; exact hk)))
           clear HO_392004
           have HO_392004 := n_
           clear n_
           obtain ⟨_,_,_,_,_,_,_,_,_,_⟩ := cz5 BK381.out
           go_wp2
           refine bodyPost_ret (results_ct rfl _ _ gb381 26 #[.int .i64 t382,.int .i64 a1_1,.slice A103 y393.length c103,.int .i64 t387,.slice Ao18 t388.length co18] (0,0) _ rfl (by (with_reducible repeat (first|refine zE ?_ _|refine zG ?_|refine zF ?_ _)); refine blk_put (cs := #[.int .i64 t382,.int .i64 a1_1,.slice A103 y393.length c103,.int .i64 t387,.slice none 0 0]) ?_ 4 _ rfl; (with_reducible repeat (first|refine zE ?_ _|refine zG ?_|refine zF ?_ _)); refine blk_put (cs := #[.int .i64 t382,.int .i64 a1_1,.slice A103 y393.length c103,.int .i64 0,.slice none 0 0]) ?_ 3 _ rfl; (with_reducible repeat (first|refine zE ?_ _|refine zG ?_|refine zF ?_ _)); refine blk_put (cs := #[.int .i64 t382,.int .i64 a1_1,.slice none 0 0,.int .i64 0,.slice none 0 0]) ?_ 2 _ rfl; (with_reducible repeat (first|refine zE ?_ _|refine zG ?_|refine zF ?_ _)); refine blk_put (cs := #[.int .i64 t382,.int .i64 0,.slice none 0 0,.int .i64 0,.slice none 0 0]) ?_ 1 _ rfl; (with_reducible repeat (first|refine zE ?_ _|refine zG ?_|refine zF ?_ _)); refine blk_put (cs := #[.int .i64 0,.int .i64 0,.slice none 0 0,.int .i64 0,.slice none 0 0]) ?_ 0 _ rfl; (with_reducible repeat (first|refine zE ?_ _|refine zG ?_|refine zF ?_ _)); refine blk_far ?_ NB381_391.out _; (with_reducible repeat (first|refine zE ?_ _|refine zG ?_|refine zF ?_ _)); refine blk_far ?_ NB381_391.out _; (with_reducible repeat (first|refine zE ?_ _|refine zG ?_|refine zF ?_ _)); exact BK381.out) Try.underlying26 rfl (by kernel_rfl)) rfl ?_
           exact ⟨_,_,by first|rfl|(simp [errW_none,errW_some] <;> rfl)|(simp only [← hji63]; first|rfl|(simp [errW_none,errW_some] <;> rfl))|(simp [*,errW_none,errW_some] <;> rfl),by (with_reducible repeat (first|apply Kd.Q_alloc|apply Kd.Q_drewN|apply Kd.Q_drew)); exact Kd.Q_mono (Kd.Q_far (p := ⟨gb381,4,none⟩) (Kd.Q_far (p := ⟨gb381,3,none⟩) (Kd.Q_far (p := ⟨gb381,2,none⟩) (Kd.Q_far (p := ⟨gb381,1,none⟩) (Kd.Q_far (p := ⟨gb381,0,none⟩) (Kd.Q_far (p := ⟨gb391,1,none⟩) (Kd.Q_far (p := ⟨gb391,2,none⟩) (Kd.Q_types (Kd.Q_types HO395.out BK391.out (by decide)) BK381.out (by decide)) (fun _ hk => hk.1.2) (.slice A103 y393.length c103)) (fun _ hk => hk.1.2) (.int .i64 a1_1)) (fun _ h=>h.2) (.int .i64 t382)) (fun _ h=>h.2) (.int .i64 a1_1)) (fun _ h=>h.2) (.slice A103 y393.length c103)) (fun _ h=>h.2) (.int .i64 t387)) (fun _ h=>h.2) (.slice Ao18 t388.length co18)) (fun _ hk => hk.1.1),by (with_reducible repeat (first|apply Kd.R_alloc|apply Kd.R_drewN|apply Kd.R_drew)); exact zC (zB (p := ⟨gb381,4,none⟩) (zB (p := ⟨gb381,3,none⟩) (zB (p := ⟨gb381,2,none⟩) (zB (p := ⟨gb381,1,none⟩) (zB (p := ⟨gb381,0,none⟩) (zB (p := ⟨gb391,1,none⟩) (zB (p := ⟨gb391,2,none⟩) (zD (zD HO_392004.out BK391.out (by decide)) BK381.out (by decide)) (fun _ hk => hk.1.2) (.slice A103 y393.length c103)) (fun _ hk => hk.1.2) (.int .i64 a1_1)) (fun _ h=>h.2) (.int .i64 t382)) (fun _ h=>h.2) (.int .i64 a1_1)) (fun _ h=>h.2) (.slice A103 y393.length c103)) (fun _ h=>h.2) (.int .i64 t387)) (fun _ h=>h.2) (.slice Ao18 t388.length co18)) (fun _ hk => hk.1.1),bT HB⟩
         ·
          rw [if_neg c65] at H
          exact absurd H (by simp)
        ·
         rw [if_neg c64] at H
         exact absurd H (by simp)
       ·
        replace c62 := Bool.eq_false_iff.mpr c62
        subst c62
        have H1 : (if a1_0 = (wrap64 (a0_3 + 1)) then (if a0_3 ≥ 1000 then (some (t382,t383,t384,t387,t388,false)) else (if t388.length < 8796093022208 then (some (t382,t383,t384,wrap64 (t387 + 1),(t388 ++ [a1_2]),true)) else (none))) else (some (t382,t383,t384,t387,t388,false))) = some (r1,r2,r3,r4,r5,r6) := by rw [if_neg (show ¬ (false = true) by decide)] at H; exact H
        clear H; have H := H1; clear H1
        by_cases c105 : a1_0 = (wrap64 (a0_3 + 1))
        ·
         rw [if_pos c105] at H
         have c105b0 : (a1_0 == (wrap64 (a0_3 + 1))) = true := beq_iff_eq.mpr c105
         have c105b1 : (a1_0 != (wrap64 (a0_3 + 1))) = false := bne_eq_false_iff_eq.mpr c105
         clear c105
         by_cases c106 : a0_3 ≥ 1000
         ·
          rw [if_pos c106] at H
          have c106b0 : decide (1000 ≤ a0_3) = true := decide_eq_true c106
          clear c106
          simp only [Option.some.injEq,Prod.mk.injEq] at H
          obtain ⟨rfl,rfl,rfl,rfl,rfl,rfl⟩ := H
          have hnb107 := NB380_379.out
          have hnc107 := NB379_380.out
          have hnb108 := NB380_381.out
          have hnc108 := NB381_380.out
          have hnb109 := NB380_391.out
          have hnc109 := NB391_380.out
          obtain ⟨_,_,_,_,_,_⟩ := cz3 BK380.out
          have hnb111 := NB379_381.out
          have hnc111 := NB381_379.out
          have hnb112 := NB379_391.out
          have hnc112 := NB391_379.out
          obtain ⟨_,_,_,_,_,_,_,_,_,_⟩ := cz5 BK379.out
          have hnb114 := NB391_381.out
          have hnc114 := NB381_391.out
          obtain ⟨_,_,_,_,_,_,_,_,_,_⟩ := cz5 BK391.out
          obtain ⟨_,_,_,_,_,_,_,_,_,_⟩ := cz5 BK381.out
          go_wp2
          refine bodyPost_ret (results_ct rfl _ _ gb381 26 #[.int .i64 t382,.int .i64 t383,.slice Ao17 t384.length co17,.int .i64 t387,.slice Ao18 t388.length co18] (0,0) _ rfl (by (with_reducible repeat (first|refine zE ?_ _|refine zG ?_|refine zF ?_ _)); refine blk_put (cs := #[.int .i64 t382,.int .i64 t383,.slice Ao17 t384.length co17,.int .i64 t387,.slice none 0 0]) ?_ 4 _ rfl; (with_reducible repeat (first|refine zE ?_ _|refine zG ?_|refine zF ?_ _)); refine blk_put (cs := #[.int .i64 t382,.int .i64 t383,.slice Ao17 t384.length co17,.int .i64 0,.slice none 0 0]) ?_ 3 _ rfl; (with_reducible repeat (first|refine zE ?_ _|refine zG ?_|refine zF ?_ _)); refine blk_put (cs := #[.int .i64 t382,.int .i64 t383,.slice none 0 0,.int .i64 0,.slice none 0 0]) ?_ 2 _ rfl; (with_reducible repeat (first|refine zE ?_ _|refine zG ?_|refine zF ?_ _)); refine blk_put (cs := #[.int .i64 t382,.int .i64 0,.slice none 0 0,.int .i64 0,.slice none 0 0]) ?_ 1 _ rfl; (with_reducible repeat (first|refine zE ?_ _|refine zG ?_|refine zF ?_ _)); refine blk_put (cs := #[.int .i64 0,.int .i64 0,.slice none 0 0,.int .i64 0,.slice none 0 0]) ?_ 0 _ rfl; (with_reducible repeat (first|refine zE ?_ _|refine zG ?_|refine zF ?_ _)); exact BK381.out) Try.underlying26 rfl (by kernel_rfl)) rfl ?_
          exact ⟨_,_,by first|rfl|(simp [errW_none,errW_some] <;> rfl)|(simp [*,errW_none,errW_some] <;> rfl),by (with_reducible repeat (first|apply Kd.Q_alloc|apply Kd.Q_drewN|apply Kd.Q_drew)); exact Kd.Q_mono (Kd.Q_far (p := ⟨gb381,4,none⟩) (Kd.Q_far (p := ⟨gb381,3,none⟩) (Kd.Q_far (p := ⟨gb381,2,none⟩) (Kd.Q_far (p := ⟨gb381,1,none⟩) (Kd.Q_far (p := ⟨gb381,0,none⟩) (Kd.Q_types HO_392002.out BK381.out (by decide)) (fun _ h=>h.2) (.int .i64 t382)) (fun _ h=>h.2) (.int .i64 t383)) (fun _ h=>h.2) (.slice Ao17 t384.length co17)) (fun _ h=>h.2) (.int .i64 t387)) (fun _ h=>h.2) (.slice Ao18 t388.length co18)) (fun _ hk => hk.1),by (with_reducible repeat (first|apply Kd.R_alloc|apply Kd.R_drewN|apply Kd.R_drew)); exact zC (zB (p := ⟨gb381,4,none⟩) (zB (p := ⟨gb381,3,none⟩) (zB (p := ⟨gb381,2,none⟩) (zB (p := ⟨gb381,1,none⟩) (zB (p := ⟨gb381,0,none⟩) (zD HO_392004.out BK381.out (by decide)) (fun _ h=>h.2) (.int .i64 t382)) (fun _ h=>h.2) (.int .i64 t383)) (fun _ h=>h.2) (.slice Ao17 t384.length co17)) (fun _ h=>h.2) (.int .i64 t387)) (fun _ h=>h.2) (.slice Ao18 t388.length co18)) (fun _ hk => hk.1),bT HB⟩
         ·
          rw [if_neg c106] at H
          have c106b0 : decide (1000 ≤ a0_3) = false := decide_eq_false c106
          clear c106
          by_cases c117 : t388.length < 8796093022208
          ·
           rw [if_pos c117] at H
           have LMc117 := zA c117
           clear c117
           obtain ⟨y399,hy399⟩ : ∃ y_ : List ByteArray,y_ = (t388 ++ [a1_2]) := ⟨_,rfl⟩
           replace H : (some (t382,t383,t384,wrap64 (t387 + 1),y399,true)) = some (r1,r2,r3,r4,r5,r6) := by first | (rw [hy399]; with_reducible exact H) | (have H2_ := (Option.bind_some _ _).symm.trans H; rw [hy399]; with_reducible exact H2_) | (have H2_ := (Option.bind_some _ _).symm.trans H; with_reducible exact H2_)|with_reducible exact H | (rw [hy399]; exact H)|exact H
           have Ny399 := zA hy399
           clear hy399
           simp only [Option.some.injEq,Prod.mk.injEq] at H
           obtain ⟨rfl,rfl,rfl,rfl,rfl,rfl⟩ := H
           have hnb118 := NB380_379.out
           have hnc118 := NB379_380.out
           have hnb119 := NB380_381.out
           have hnc119 := NB381_380.out
           have hnb120 := NB380_391.out
           have hnc120 := NB391_380.out
           obtain ⟨_,_,_,_,_,_⟩ := cz3 BK380.out
           have hnb122 := NB379_381.out
           have hnc122 := NB381_379.out
           have hnb123 := NB379_391.out
           have hnc123 := NB391_379.out
           obtain ⟨_,_,_,_,_,_,_,_,_,_⟩ := cz5 BK379.out
           have hnb125 := NB391_381.out
           have hnc125 := NB381_391.out
           obtain ⟨_,_,_,_,_,_,_,_,_,_⟩ := cz5 BK391.out
           go_wp2_with (first | ((with_reducible refine gate_builtin (b := .append) (xs := #[.tmp 61,.tmp 64]) rfl ?_); (try (refine gate_guard (by rfl) ?_; dsimp only)); at_builtin; refine Kd.R_append Kd.string (w0 := w) w.heap.size rfl (.tmp 61) (.tmp 64) 22 9 (.string ⟨#[]⟩) 16 rfl Try.underlying22 info9 rfl (by decide) (by omega) (.slice Ao18 t388.length co18) t388 a1_2 [.string a1_2] (fun k_ => some k_ ≠ (.slice Ao17 t384.length co17 : Value).ownBlock) (fun _ => False) rfl rfl ?aP (fun _ hk => hk.elim) ?aF ?aO ?aB ?aS ?aL ?_; (case aP => exact rfl); (case aB => exact (bT HB)); (case aF => exact (fun k_ hk => Kd.fresh' (Kd.Q_lt (rrQ HO_392002.out)) k_ hk)); (case aO => exact (rrA14 HO_392004.out)); (case aS => exact (below_size (bT HB))); (case aL => have := LMc117.out; omega); intro v400 w127 ho hb hg hat; rw [← Ny399.out] at ho; have n0_ := zA (Kd.Q_after (ok := (fun _ => True)) (by (with_reducible repeat (first|apply Kd.Q_alloc|apply Kd.Q_drewN|apply Kd.Q_drew)); exact Kd.Q_mono HO_392002.out (fun _ hk => ⟨trivial,hk⟩)) hg hat); have n1_ := zA (blk_grown (bkT BK379.out) hg (Kd.R_ne HO_392004.out BK379.out (by decide))); have n2_ := zA (blk_grown (bkT BK380.out) hg (Kd.R_ne HO_392004.out BK380.out (by decide))); have n3_ := zA (blk_grown (bkT BK381.out) hg (Kd.R_ne HO_392004.out BK381.out (by decide))); have n4_ := zA (blk_grown (bkT BK391.out) hg (Kd.R_ne HO_392004.out BK391.out (by decide))); have n5_ := zA (hb); have n6_ := zA (ho); clear HO_392002 BK379 BK380 BK381 BK391 HB HO_392004; have HO_392002 := n0_; have BK379 := n1_; have BK380 := n2_; have BK381 := n3_; have BK391 := n4_; have HB := n5_; have HO401 := n6_; clear n0_ n1_ n2_ n3_ n4_ n5_ n6_ ho hb hg hat; obtain ⟨Ao128,co128,eo128⟩ := Kd.R_slice HO401.out; subst eo128; obtain ⟨_,_,_,_,_,_,_,_,_,_⟩ := cz5 BK391.out; obtain ⟨_,_,_,_,_,_,_,_,_,_⟩ := cz5 BK381.out))
           refine bodyPost_ret (results_ct rfl _ _ gb381 26 #[.int .i64 t382,.int .i64 t383,.slice Ao17 t384.length co17,.int .i64 (wrap64 (t387 + 1)),.slice Ao128 y399.length co128] (0,0) _ rfl (by (with_reducible repeat (first|refine zE ?_ _|refine zG ?_|refine zF ?_ _)); refine blk_put (cs := #[.int .i64 t382,.int .i64 t383,.slice Ao17 t384.length co17,.int .i64 (wrap64 (t387 + 1)),.slice none 0 0]) ?_ 4 _ rfl; (with_reducible repeat (first|refine zE ?_ _|refine zG ?_|refine zF ?_ _)); refine blk_put (cs := #[.int .i64 t382,.int .i64 t383,.slice Ao17 t384.length co17,.int .i64 0,.slice none 0 0]) ?_ 3 _ rfl; (with_reducible repeat (first|refine zE ?_ _|refine zG ?_|refine zF ?_ _)); refine blk_put (cs := #[.int .i64 t382,.int .i64 t383,.slice none 0 0,.int .i64 0,.slice none 0 0]) ?_ 2 _ rfl; (with_reducible repeat (first|refine zE ?_ _|refine zG ?_|refine zF ?_ _)); refine blk_put (cs := #[.int .i64 t382,.int .i64 0,.slice none 0 0,.int .i64 0,.slice none 0 0]) ?_ 1 _ rfl; (with_reducible repeat (first|refine zE ?_ _|refine zG ?_|refine zF ?_ _)); refine blk_put (cs := #[.int .i64 0,.int .i64 0,.slice none 0 0,.int .i64 0,.slice none 0 0]) ?_ 0 _ rfl; (with_reducible repeat (first|refine zE ?_ _|refine zG ?_|refine zF ?_ _)); refine blk_far ?_ NB381_391.out _; (with_reducible repeat (first|refine zE ?_ _|refine zG ?_|refine zF ?_ _)); refine blk_far ?_ NB381_391.out _; (with_reducible repeat (first|refine zE ?_ _|refine zG ?_|refine zF ?_ _)); exact BK381.out) Try.underlying26 rfl (by kernel_rfl)) rfl ?_
           exact ⟨_,_,by first|rfl|(simp [errW_none,errW_some] <;> rfl)|(simp [*,errW_none,errW_some] <;> rfl),by (with_reducible repeat (first|apply Kd.Q_alloc|apply Kd.Q_drewN|apply Kd.Q_drew)); exact Kd.Q_mono (Kd.Q_far (p := ⟨gb381,4,none⟩) (Kd.Q_far (p := ⟨gb381,3,none⟩) (Kd.Q_far (p := ⟨gb381,2,none⟩) (Kd.Q_far (p := ⟨gb381,1,none⟩) (Kd.Q_far (p := ⟨gb381,0,none⟩) (Kd.Q_far (p := ⟨gb391,3,none⟩) (Kd.Q_far (p := ⟨gb391,4,none⟩) (Kd.Q_types (Kd.Q_types HO_392002.out BK391.out (by decide)) BK381.out (by decide)) (fun _ hk => hk.1.2) (.slice Ao128 y399.length co128)) (fun _ hk => hk.1.2) (.int .i64 (wrap64 (t387 + 1)))) (fun _ h=>h.2) (.int .i64 t382)) (fun _ h=>h.2) (.int .i64 t383)) (fun _ h=>h.2) (.slice Ao17 t384.length co17)) (fun _ h=>h.2) (.int .i64 (wrap64 (t387 + 1)))) (fun _ h=>h.2) (.slice Ao128 y399.length co128)) (fun _ hk => hk.1.1.2),by (with_reducible repeat (first|apply Kd.R_alloc|apply Kd.R_drewN|apply Kd.R_drew)); exact zC (zB (p := ⟨gb381,4,none⟩) (zB (p := ⟨gb381,3,none⟩) (zB (p := ⟨gb381,2,none⟩) (zB (p := ⟨gb381,1,none⟩) (zB (p := ⟨gb381,0,none⟩) (zB (p := ⟨gb391,3,none⟩) (zB (p := ⟨gb391,4,none⟩) (zD (zD HO401.out BK391.out (by decide)) BK381.out (by decide)) (fun _ hk => hk.1.2) (.slice Ao128 y399.length co128)) (fun _ hk => hk.1.2) (.int .i64 (wrap64 (t387 + 1)))) (fun _ h=>h.2) (.int .i64 t382)) (fun _ h=>h.2) (.int .i64 t383)) (fun _ h=>h.2) (.slice Ao17 t384.length co17)) (fun _ h=>h.2) (.int .i64 (wrap64 (t387 + 1)))) (fun _ h=>h.2) (.slice Ao128 y399.length co128)) (fun _ hk => hk.1.1),bT HB⟩
          ·
           rw [if_neg c117] at H
           exact absurd H (by simp)
        ·
         rw [if_neg c105] at H
         have c105b0 : (a1_0 == (wrap64 (a0_3 + 1))) = false := beq_eq_false_iff_ne.mpr c105
         have c105b1 : (a1_0 != (wrap64 (a0_3 + 1))) = true := bne_iff_ne.mpr c105
         simp only [Option.some.injEq,Prod.mk.injEq] at H
         obtain ⟨rfl,rfl,rfl,rfl,rfl,rfl⟩ := H
         have hnb131 := NB380_379.out
         have hnc131 := NB379_380.out
         have hnb132 := NB380_381.out
         have hnc132 := NB381_380.out
         have hnb133 := NB380_391.out
         have hnc133 := NB391_380.out
         obtain ⟨_,_,_,_,_,_⟩ := cz3 BK380.out
         have hnb135 := NB379_381.out
         have hnc135 := NB381_379.out
         have hnb136 := NB379_391.out
         have hnc136 := NB391_379.out
         obtain ⟨_,_,_,_,_,_,_,_,_,_⟩ := cz5 BK379.out
         have hnb138 := NB391_381.out
         have hnc138 := NB381_391.out
         obtain ⟨_,_,_,_,_,_,_,_,_,_⟩ := cz5 BK391.out
         obtain ⟨_,_,_,_,_,_,_,_,_,_⟩ := cz5 BK381.out
         go_wp2
         refine bodyPost_ret (results_ct rfl _ _ gb381 26 #[.int .i64 t382,.int .i64 t383,.slice Ao17 t384.length co17,.int .i64 t387,.slice Ao18 t388.length co18] (0,0) _ rfl (by (with_reducible repeat (first|refine zE ?_ _|refine zG ?_|refine zF ?_ _)); refine blk_put (cs := #[.int .i64 t382,.int .i64 t383,.slice Ao17 t384.length co17,.int .i64 t387,.slice none 0 0]) ?_ 4 _ rfl; (with_reducible repeat (first|refine zE ?_ _|refine zG ?_|refine zF ?_ _)); refine blk_put (cs := #[.int .i64 t382,.int .i64 t383,.slice Ao17 t384.length co17,.int .i64 0,.slice none 0 0]) ?_ 3 _ rfl; (with_reducible repeat (first|refine zE ?_ _|refine zG ?_|refine zF ?_ _)); refine blk_put (cs := #[.int .i64 t382,.int .i64 t383,.slice none 0 0,.int .i64 0,.slice none 0 0]) ?_ 2 _ rfl; (with_reducible repeat (first|refine zE ?_ _|refine zG ?_|refine zF ?_ _)); refine blk_put (cs := #[.int .i64 t382,.int .i64 0,.slice none 0 0,.int .i64 0,.slice none 0 0]) ?_ 1 _ rfl; (with_reducible repeat (first|refine zE ?_ _|refine zG ?_|refine zF ?_ _)); refine blk_put (cs := #[.int .i64 0,.int .i64 0,.slice none 0 0,.int .i64 0,.slice none 0 0]) ?_ 0 _ rfl; (with_reducible repeat (first|refine zE ?_ _|refine zG ?_|refine zF ?_ _)); exact BK381.out) Try.underlying26 rfl (by kernel_rfl)) rfl ?_
         exact ⟨_,_,by first|rfl|(simp [errW_none,errW_some] <;> rfl)|(simp [*,errW_none,errW_some] <;> rfl),by (with_reducible repeat (first|apply Kd.Q_alloc|apply Kd.Q_drewN|apply Kd.Q_drew)); exact Kd.Q_mono (Kd.Q_far (p := ⟨gb381,4,none⟩) (Kd.Q_far (p := ⟨gb381,3,none⟩) (Kd.Q_far (p := ⟨gb381,2,none⟩) (Kd.Q_far (p := ⟨gb381,1,none⟩) (Kd.Q_far (p := ⟨gb381,0,none⟩) (Kd.Q_types HO_392002.out BK381.out (by decide)) (fun _ h=>h.2) (.int .i64 t382)) (fun _ h=>h.2) (.int .i64 t383)) (fun _ h=>h.2) (.slice Ao17 t384.length co17)) (fun _ h=>h.2) (.int .i64 t387)) (fun _ h=>h.2) (.slice Ao18 t388.length co18)) (fun _ hk => hk.1),by (with_reducible repeat (first|apply Kd.R_alloc|apply Kd.R_drewN|apply Kd.R_drew)); exact zC (zB (p := ⟨gb381,4,none⟩) (zB (p := ⟨gb381,3,none⟩) (zB (p := ⟨gb381,2,none⟩) (zB (p := ⟨gb381,1,none⟩) (zB (p := ⟨gb381,0,none⟩) (zD HO_392004.out BK381.out (by decide)) (fun _ h=>h.2) (.int .i64 t382)) (fun _ h=>h.2) (.int .i64 t383)) (fun _ h=>h.2) (.slice Ao17 t384.length co17)) (fun _ h=>h.2) (.int .i64 t387)) (fun _ h=>h.2) (.slice Ao18 t388.length co18)) (fun _ hk => hk.1),bT HB⟩

end Go.Proofs.Ytlidnobkkgcnlaa.PFnExactTalk
