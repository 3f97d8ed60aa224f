-- Written by a program out of the translation,for this claim.
import Derived.Test.YtlidnobkkgcnlaaPFnLinksx0
import Derived.Test.YtlidnobkkgcnlaaPFnLinksx6
import Derived.Test.YtlidnobkkgcnlaaPFnLinksx7
namespace Go.Proofs.Ytlidnobkkgcnlaa.PFnLinks
open Go.RowKit Go.Proofs.YtlidnobkkgcnlaaW.PrintWords Go.Proofs.YtlidnobkkgcnlaaW.PrintLast Go.Proofs.YtlidnobkkgcnlaaW.PrintMore
attribute [local go_sem] max2_int min2_int max_two min_two max_three min_three max_four min_four   -- for this text's walks alone
set_option linter.unusedVariables false
set_option linter.unusedSimpArgs false
theorem rrA8 {p q : Prop} (h : p) (f : p → q := by (intro h_; (with_reducible repeat (first | apply Kd.R_alloc | apply Kd.R_drewN | apply Kd.R_drew)); exact h_)) : q := f h
open Go.Proofs.YtlidnobkkgcnlaaW.PrintWords.Aside0 renaming mk → zA
open Go.Proofs.YtlidnobkkgcnlaaW.PrintWords.Kd renaming R_far → zB
open Go.Proofs.YtlidnobkkgcnlaaW.PrintWords.Kd renaming R_mono → zC
open Go.Proofs.YtlidnobkkgcnlaaW.PrintWords.Kd renaming R_types → zD
open Go.Proofs.YtlidnobkkgcnlaaW.PrintWords.Kd renaming R_alloc → zE
open Go.Proofs.YtlidnobkkgcnlaaW.PrintWords.Kd renaming R_drewN → zF
open Go.Proofs.YtlidnobkkgcnlaaW.PrintWords.Kd renaming R_drew → zG
open Go.Proofs.YtlidnobkkgcnlaaW.PrintWords renaming blk_drewN → zH
open Go.Proofs.YtlidnobkkgcnlaaW.PrintWords renaming blk_alloc → zI
open Go.Proofs.YtlidnobkkgcnlaaW.PrintWords renaming blk_drew → zJ
open Go.Proofs.YtlidnobkkgcnlaaW.PrintWords renaming blk_below → zK

/-! ### spec_Receive: function 21 -/
mutual
def spec_Receive.j0 : Nat → Bool → Int → Int → ByteArray → Int → Int → List ByteArray → Int → List ByteArray → Option (Int × Int × List ByteArray × Int × List ByteArray × Bool)
  | 0,_,_,_,_,_,_,_,_,_ => none
  | k + 1,x22,x216000,x216001,x216002,x227000,x227001,x227002,x227003,x227004 => if x22 = true then (some (x227000,x227001,x227002,x227003,x227004,false)) else (if x216001 > x227001 then (spec_Receive.j1 k (decide (x216001 ≤ x227000)) x216000 x216001 x216002 x227000 x227001 x227002 x227003 x227004) else (spec_Receive.j1 k false x216000 x216001 x216002 x227000 x227001 x227002 x227003 x227004))
def spec_Receive.j1 : Nat → Bool → Int → Int → ByteArray → Int → Int → List ByteArray → Int → List ByteArray → Option (Int × Int × List ByteArray × Int × List ByteArray × Bool)
  | 0,_,_,_,_,_,_,_,_,_ => none
  | k + 1,x35,x216000,x216001,x216002,x227000,x227001,x227002,x227003,x227004 => if x35 = true then ((some (([] : List ByteArray) : List ByteArray)).bind fun y228 => (if 0 ≤ (wrap64 (x216001 - x227001)) then (if (wrap64 (x216001 - x227001)) ≤ (x227002.length : Int) then ((some (x227002.drop ((wrap64 (x216001 - x227001)) : Int).toNat : List ByteArray)).bind fun y231 => (if y228.length + y231.length < 8796093022208 then ((some (y228 ++ y231 : List ByteArray)).bind fun y235 => (if x216000 = (wrap64 (x227003 + 1)) then (if x227003 ≥ 1000 then (some (x227000,x216001,y235,x227003,x227004,false)) else (if x227004.length < 8796093022208 then (some (x227000,x216001,y235,wrap64 (x227003 + 1),(x227004 ++ [x216002]),true)) else (none))) else (some (x227000,x216001,y235,x227003,x227004,false)))) else (none))) else (none)) else (none))) else (if x216000 = (wrap64 (x227003 + 1)) then (if x227003 ≥ 1000 then (some (x227000,x227001,x227002,x227003,x227004,false)) else (if x227004.length < 8796093022208 then (some (x227000,x227001,x227002,wrap64 (x227003 + 1),(x227004 ++ [x216002]),true)) else (none))) else (some (x227000,x227001,x227002,x227003,x227004,false)))
end
def spec_Receive.f (k : Nat) (a0_0 : Int) (a0_1 : Int) (l0_2 : List ByteArray) (a0_3 : Int) (l0_4 : List ByteArray) (a1_0 : Int) (a1_1 : Int) (a1_2 : ByteArray) : Option (Int × Int × List ByteArray × Int × List ByteArray × Bool) := (spec_l06Copy.f a0_0 a0_1 l0_2 a0_3 l0_4).bind fun bt217 => ((spec_EndOk.f k a0_0 a0_1 l0_2 a0_3 l0_4).bind fun t227 => (if t227 = true then (if a1_0 < 0 then (spec_Receive.j0 k true a1_0 a1_1 a1_2 bt217.1 bt217.2.1 bt217.2.2.1 bt217.2.2.2.1 bt217.2.2.2.2) else (spec_Receive.j0 k (decide ((a1_2.size : Int) > 60)) a1_0 a1_1 a1_2 bt217.1 bt217.2.1 bt217.2.2.1 bt217.2.2.2.1 bt217.2.2.2.2)) else (spec_Receive.j0 k true a1_0 a1_1 a1_2 bt217.1 bt217.2.1 bt217.2.2.1 bt217.2.2.2.1 bt217.2.2.2.2)))
theorem spec_Receive.mono_l : ∀ k,(∀ y0 y1 y2 y3 y4 y5 y6 y7 y8,LeO (spec_Receive.j0 k y0 y1 y2 y3 y4 y5 y6 y7 y8) (spec_Receive.j0 (k + 1) y0 y1 y2 y3 y4 y5 y6 y7 y8)) ∧ (∀ y0 y1 y2 y3 y4 y5 y6 y7 y8,LeO (spec_Receive.j1 k y0 y1 y2 y3 y4 y5 y6 y7 y8) (spec_Receive.j1 (k + 1) y0 y1 y2 y3 y4 y5 y6 y7 y8))
  | 0 => ⟨fun _ _ _ _ _ _ _ _ _ r h => by simp [spec_Receive.j0] at h,fun _ _ _ _ _ _ _ _ _ r h => by simp [spec_Receive.j1] at h⟩
  | k + 1 => by
   obtain ⟨ih0,ih1⟩ := spec_Receive.mono_l k
   refine ⟨?_,?_⟩
   ·
    intro y0 y1 y2 y3 y4 y5 y6 y7 y8
    unfold spec_Receive.j0
    repeat' first
   |(with_reducible exact ih0 _ _ _ _ _ _ _ _ _)
   |(with_reducible exact ih1 _ _ _ _ _ _ _ _ _)
   |(with_reducible exact spec_EndOk.mono _ _ _ _ _ _)
   |(with_reducible exact LeO.refl _)
   |(with_reducible exact LeO.none _)
   |(with_reducible refine LeO.ite ?_ ?_)
   |(with_reducible refine LeO.bind ?_ (fun _ => ?_))
   |exact ih0 _ _ _ _ _ _ _ _ _
   |exact ih1 _ _ _ _ _ _ _ _ _
   |exact spec_EndOk.mono _ _ _ _ _ _
   |exact LeO.none _
   |refine LeO.ite ?_ ?_
   |refine LeO.bind ?_ (fun _ => ?_)
   ·
    intro y0 y1 y2 y3 y4 y5 y6 y7 y8
    unfold spec_Receive.j1
    repeat' first
   |(with_reducible exact ih0 _ _ _ _ _ _ _ _ _)
   |(with_reducible exact ih1 _ _ _ _ _ _ _ _ _)
   |(with_reducible exact spec_EndOk.mono _ _ _ _ _ _)
   |(with_reducible exact LeO.refl _)
   |(with_reducible exact LeO.none _)
   |(with_reducible refine LeO.ite ?_ ?_)
   |(with_reducible refine LeO.bind ?_ (fun _ => ?_))
   |exact ih0 _ _ _ _ _ _ _ _ _
   |exact ih1 _ _ _ _ _ _ _ _ _
   |exact spec_EndOk.mono _ _ _ _ _ _
   |exact LeO.none _
   |refine LeO.ite ?_ ?_
   |refine LeO.bind ?_ (fun _ => ?_)
theorem spec_Receive.mono : ∀ a0 a1 a2 a3 a4 a5 a6 a7 k,LeO (spec_Receive.f k a0 a1 a2 a3 a4 a5 a6 a7) (spec_Receive.f (k + 1) a0 a1 a2 a3 a4 a5 a6 a7) := by
  intro a0 a1 a2 a3 a4 a5 a6 a7 k
  obtain ⟨ih0,ih1⟩ := spec_Receive.mono_l k
  unfold spec_Receive.f
  repeat' first
   |(with_reducible exact ih0 _ _ _ _ _ _ _ _ _)
   |(with_reducible exact ih1 _ _ _ _ _ _ _ _ _)
   |(with_reducible exact spec_EndOk.mono _ _ _ _ _ _)
   |(with_reducible exact LeO.refl _)
   |(with_reducible exact LeO.none _)
   |(with_reducible refine LeO.ite ?_ ?_)
   |(with_reducible refine LeO.bind ?_ (fun _ => ?_))
   |exact ih0 _ _ _ _ _ _ _ _ _
   |exact ih1 _ _ _ _ _ _ _ _ _
   |exact spec_EndOk.mono _ _ _ _ _ _
   |exact LeO.none _
   |refine LeO.ite ?_ ?_
   |refine LeO.bind ?_ (fun _ => ?_)
set_option maxHeartbeats 8000000 in
set_option maxRecDepth 100000 in
theorem spec_Receive.calls (k : Nat) (a0_0 : Int) (a0_1 : Int) (A0_2 : Option Addr) (c0_2 : Nat) (l0_2 : List ByteArray) (a0_3 : Int) (A0_4 : Option Addr) (c0_4 : Nat) (l0_4 : List ByteArray) (a1_0 : Int) (a1_1 : Int) (a1_2 : ByteArray) (r1 : Int) (r2 : Int) (r3 : List ByteArray) (r4 : Int) (r5 : List ByteArray) (r6 : Bool) (w : World) (hr0_2 : Kd.C Kd.string w A0_2 l0_2.length l0_2) (hc0_2 : l0_2.length ≤ c0_2) (hr0_4 : Kd.C Kd.string w A0_4 l0_4.length l0_4) (hc0_4 : l0_4.length ≤ c0_4) (h : spec_Receive.f k a0_0 a0_1 l0_2 a0_3 l0_4 a1_0 a1_1 a1_2 = some (r1,r2,r3,r4,r5,r6)) :
   Calls Try.prog 21 #[.agg #[.int .i64 a0_0,.int .i64 a0_1,.slice A0_2 l0_2.length c0_2,.int .i64 a0_3,.slice A0_4 l0_4.length c0_4],.agg #[.int .i64 a1_0,.int .i64 a1_1,.string a1_2]] w fun e w' => ∃ v2_ v4_ : Value,e = .returned (.tuple #[.agg #[.int .i64 r1,.int .i64 r2,v2_,.int .i64 r4,v4_],.bool r6]) ∧ Kd.R Kd.string 9 w' w.heap.size (fun k_ => some k_ ≠ (v4_ : Value).ownBlock) v2_ r3 ∧ Kd.R Kd.string 9 w' w.heap.size (fun k_ => some k_ ≠ (v2_ : Value).ownBlock) v4_ r5 ∧ Below w.heap.size w w' := by
  have hu26 := Try.underlying26
  have hu36 := Try.underlying36
  have HR0_2 := zA hr0_2
  have HC0_2 := zA hc0_2
  clear hr0_2 hc0_2
  have HR0_4 := zA hr0_4
  have HC0_4 := zA hc0_4
  clear hr0_4 hc0_4
  have HB := zA (Below.refl w.heap.size w)
  have H : ((spec_l06Copy.f a0_0 a0_1 l0_2 a0_3 l0_4).bind fun bt217 => ((spec_EndOk.f k a0_0 a0_1 l0_2 a0_3 l0_4).bind fun t227 => (if t227 = true then (if a1_0 < 0 then (spec_Receive.j0 k true a1_0 a1_1 a1_2 bt217.1 bt217.2.1 bt217.2.2.1 bt217.2.2.2.1 bt217.2.2.2.2) else (spec_Receive.j0 k (decide ((a1_2.size : Int) > 60)) a1_0 a1_1 a1_2 bt217.1 bt217.2.1 bt217.2.2.1 bt217.2.2.2.1 bt217.2.2.2.2)) else (spec_Receive.j0 k true a1_0 a1_1 a1_2 bt217.1 bt217.2.1 bt217.2.2.1 bt217.2.2.2.1 bt217.2.2.2.2)))) = some (r1,r2,r3,r4,r5,r6) := h
  clear h
  replace H := Option.bind_eq_some_iff.mp H
  obtain ⟨⟨t217,t218,t219,t222,t223⟩,A30,H⟩ := H
  replace H : ((spec_EndOk.f k a0_0 a0_1 l0_2 a0_3 l0_4).bind fun t227 => (if t227 = true then (if a1_0 < 0 then (spec_Receive.j0 k true a1_0 a1_1 a1_2 t217 t218 t219 t222 t223) else (spec_Receive.j0 k (decide ((a1_2.size : Int) > 60)) a1_0 a1_1 a1_2 t217 t218 t219 t222 t223)) else (spec_Receive.j0 k true a1_0 a1_1 a1_2 t217 t218 t219 t222 t223))) = some (r1,r2,r3,r4,r5,r6) := H
  have A3 := zA A30
  clear A30
  have HC4 := zA H
  clear H
  go_enter Try.func21,Try.ntmps21
  go_upto_region 2 with (first | ((with_reducible refine gate_dst (N := 2) rfl ?_); (try (refine gate_guard (by rfl) ?_; dsimp only)); refine box_event ?hg (N := 2) ?hd (cs := #[.int .i64 a0_0,.int .i64 a0_1,.slice A0_2 l0_2.length c0_2,.int .i64 a0_3,.slice A0_4 l0_4.length c0_4]) (t := 26) ?hr ?_; (case hd => rfl); (case hg => rfl); (case hr => first | (go_simp; done) | (go_simp; rfl)); intro gb214 hg w5 hbox hb; have n0_ := zA (below_step (bT HB) hb); have n1_ := zA (hbox); have n2_ := zA ((by rw [hg]; exact (below_size (bT HB)) : w.heap.size ≤ gb214)); have n3_ := zA ((by rw [hg]; exact (below_size (bT HB)) : w.heap.size ≤ gb214)); clear HB; have HB := n0_; have BK214 := n1_; have GW214 := n2_; have GE214 := n3_; clear n0_ n1_ n2_ n3_ hb hbox hg) | ((with_reducible refine gate_dst (N := 3) rfl ?_); (try (refine gate_guard (by rfl) ?_; dsimp only)); refine box_event ?hg (N := 3) ?hd (cs := #[.int .i64 a1_0,.int .i64 a1_1,.string a1_2]) (t := 36) ?hr ?_; (case hd => rfl); (case hg => rfl); (case hr => first | (go_simp; done) | (go_simp; rfl)); intro gb215 hg w6 hbox hb; have n0_ := zA (zK (bkT BK214.out) hb); have n1_ := zA (below_step (bT HB) hb); have n2_ := zA (hbox); have n3_ := zA ((by rw [hg]; exact (below_size (bT HB)) : w.heap.size ≤ gb215)); have n4_ := zA ((by rw [hg]; exact (below_size (bT HB)) : w.heap.size ≤ gb215)); have n5_ := zA ((by rw [hg]; exact Nat.ne_of_lt (blk_lt (g := gb214) (o := .cells #[.int .i64 a0_0,.int .i64 a0_1,.slice A0_2 l0_2.length c0_2,.int .i64 a0_3,.slice A0_4 l0_4.length c0_4] 26 (0,0)) (bkT BK214.out)) : gb214 ≠ gb215)); have n6_ := zA ((by rw [hg]; exact Nat.ne_of_gt (blk_lt (g := gb214) (o := .cells #[.int .i64 a0_0,.int .i64 a0_1,.slice A0_2 l0_2.length c0_2,.int .i64 a0_3,.slice A0_4 l0_4.length c0_4] 26 (0,0)) (bkT BK214.out)) : gb215 ≠ gb214)); clear BK214 HB; have BK214 := n0_; have HB := n1_; have BK215 := n2_; have GW215 := n3_; have GE215 := n4_; have NB214_215 := n5_; have NB215_214 := n6_; clear n0_ n1_ n2_ n3_ n4_ n5_ n6_ hb hbox hg) | ((with_reducible refine gate_dst (N := 4) rfl ?_); (try (refine gate_guard (by rfl) ?_; dsimp only)); refine box_event ?hg (N := 4) ?hd (cs := #[.int .i64 0,.int .i64 0,.slice none 0 0,.int .i64 0,.slice none 0 0]) (t := 26) ?hr ?_; (case hd => rfl); (case hg => rfl); (case hr => first | (go_simp; done) | (go_simp; rfl)); intro gb216 hg w7 hbox hb; have n0_ := zA (zK (bkT BK214.out) hb); have n1_ := zA (zK (bkT BK215.out) hb); have n2_ := zA (below_step (bT HB) hb); have n3_ := zA (hbox); have n4_ := zA ((by rw [hg]; exact (below_size (bT HB)) : w.heap.size ≤ gb216)); have n5_ := zA ((by rw [hg]; exact (below_size (bT HB)) : w.heap.size ≤ gb216)); have n6_ := zA ((by rw [hg]; exact Nat.ne_of_lt (blk_lt (g := gb214) (o := .cells #[.int .i64 a0_0,.int .i64 a0_1,.slice A0_2 l0_2.length c0_2,.int .i64 a0_3,.slice A0_4 l0_4.length c0_4] 26 (0,0)) (bkT BK214.out)) : gb214 ≠ gb216)); have n7_ := zA ((by rw [hg]; exact Nat.ne_of_gt (blk_lt (g := gb214) (o := .cells #[.int .i64 a0_0,.int .i64 a0_1,.slice A0_2 l0_2.length c0_2,.int .i64 a0_3,.slice A0_4 l0_4.length c0_4] 26 (0,0)) (bkT BK214.out)) : gb216 ≠ gb214)); have n8_ := zA ((by rw [hg]; exact Nat.ne_of_lt (blk_lt (g := gb215) (o := .cells #[.int .i64 a1_0,.int .i64 a1_1,.string a1_2] 36 (0,0)) (bkT BK215.out)) : gb215 ≠ gb216)); have n9_ := zA ((by rw [hg]; exact Nat.ne_of_gt (blk_lt (g := gb215) (o := .cells #[.int .i64 a1_0,.int .i64 a1_1,.string a1_2] 36 (0,0)) (bkT BK215.out)) : gb216 ≠ gb215)); clear BK214 BK215 HB; have BK214 := n0_; have BK215 := n1_; have HB := n2_; have BK216 := n3_; have GW216 := n4_; have GE216 := n5_; have NB214_216 := n6_; have NB216_214 := n7_; have NB215_216 := n8_; have NB216_215 := n9_; clear n0_ n1_ n2_ n3_ n4_ n5_ n6_ n7_ n8_ n9_ hb hbox hg; have hnb8 := NB214_215.out; have hnc8 := NB215_214.out; have hnb9 := NB214_216.out; have hnc9 := NB216_214.out; obtain ⟨_,_,_,_,_,_,_,_,_,_⟩ := cz5 BK214.out) | ((with_reducible refine gate_callee (f := 45) rfl ?_); refine goesL_ (some 8) rfl rfl Try.func45 (by kernel_rfl) rfl #[.agg #[.int .i64 a0_0,.int .i64 a0_1,.slice A0_2 l0_2.length c0_2,.int .i64 a0_3,.slice A0_4 l0_4.length c0_4]] rfl (by (try simp only [List.map_toArray,List.map_cons,List.map_nil]); first | done|rfl|(simp only [List.length_drop,List.length_take]; rfl)) ?_; (with_reducible refine (spec_l06Copy.calls a0_0 a0_1 _ _ l0_2 a0_3 _ _ l0_4 t217 t218 t219 t222 t223 _ ?side1 ?side2 ?side3 ?side4 A3.out).mono ?_); (case side1 => exact ccT (Kd.C_below HR0_2.out HB.out)); (case side2 => exact HC0_2.out); (case side3 => exact ccT (Kd.C_below HR0_4.out HB.out)); (case side4 => exact HC0_4.out); rintro e w11 ⟨v220,v224,rfl,ho0,ho1,hb⟩; refine ⟨_,rfl,?_⟩; have n0_ := zA (Kd.R_lower ho0 (below_size (bT HB))); have n1_ := zA (Kd.R_lower ho1 (below_size (bT HB))); have n2_ := zA (zK (bkT BK214.out) hb); have n3_ := zA (zK (bkT BK215.out) hb); have n4_ := zA (zK (bkT BK216.out) hb); have n5_ := zA (below_step (bT HB) hb); clear BK214 BK215 BK216 HB; have HO221 := n0_; have HO225 := n1_; have BK214 := n2_; have BK215 := n3_; have BK216 := n4_; have HB := n5_; clear n0_ n1_ n2_ n3_ n4_ n5_) | ((with_reducible refine gate_dst (N := 6) rfl ?_); (try (refine gate_guard (by rfl) ?_; dsimp only)); refine box_event ?hg (N := 6) ?hd (cs := #[.int .i64 0,.int .i64 0,.slice none 0 0,.int .i64 0,.slice none 0 0]) (t := 26) ?hr ?_; (case hd => rfl); (case hg => rfl); (case hr => first | (go_simp; done) | (go_simp; rfl)); intro gb226 hg w12 hbox hb; have n0_ := zA (Kd.R_below (rrA8 HO221.out) hb); have n1_ := zA (Kd.R_below (rrA8 HO225.out) hb); have n2_ := zA (zK (bkT BK214.out) hb); have n3_ := zA (zK (bkT BK215.out) hb); have n4_ := zA (zK (bkT BK216.out) hb); have n5_ := zA (below_step (bT HB) hb); have n6_ := zA (hbox); have n7_ := zA ((by rw [hg]; exact (below_size (bT HB)) : w.heap.size ≤ gb226)); have n8_ := zA ((by rw [hg]; exact (below_size (bT HB)) : w.heap.size ≤ gb226)); have n9_ := zA ((by rw [hg]; exact Nat.ne_of_lt (blk_lt (g := gb214) (o := .cells #[.int .i64 a0_0,.int .i64 a0_1,.slice A0_2 l0_2.length c0_2,.int .i64 a0_3,.slice A0_4 l0_4.length c0_4] 26 (0,0)) (bkT BK214.out)) : gb214 ≠ gb226)); have n10_ := zA ((by rw [hg]; exact Nat.ne_of_gt (blk_lt (g := gb214) (o := .cells #[.int .i64 a0_0,.int .i64 a0_1,.slice A0_2 l0_2.length c0_2,.int .i64 a0_3,.slice A0_4 l0_4.length c0_4] 26 (0,0)) (bkT BK214.out)) : gb226 ≠ gb214)); have n11_ := zA ((by rw [hg]; exact Nat.ne_of_lt (blk_lt (g := gb215) (o := .cells #[.int .i64 a1_0,.int .i64 a1_1,.string a1_2] 36 (0,0)) (bkT BK215.out)) : gb215 ≠ gb226)); have n12_ := zA ((by rw [hg]; exact Nat.ne_of_gt (blk_lt (g := gb215) (o := .cells #[.int .i64 a1_0,.int .i64 a1_1,.string a1_2] 36 (0,0)) (bkT BK215.out)) : gb226 ≠ gb215)); have n13_ := zA ((by rw [hg]; exact Nat.ne_of_lt (blk_lt (g := gb216) (o := .cells #[.int .i64 0,.int .i64 0,.slice none 0 0,.int .i64 0,.slice none 0 0] 26 (0,0)) (bkT BK216.out)) : gb216 ≠ gb226)); have n14_ := zA ((by rw [hg]; exact Nat.ne_of_gt (blk_lt (g := gb216) (o := .cells #[.int .i64 0,.int .i64 0,.slice none 0 0,.int .i64 0,.slice none 0 0] 26 (0,0)) (bkT BK216.out)) : gb226 ≠ gb216)); clear HO221 HO225 BK214 BK215 BK216 HB; have HO221 := n0_; have HO225 := n1_; have BK214 := n2_; have BK215 := n3_; have BK216 := n4_; have HB := n5_; have BK226 := n6_; have GW226 := n7_; have GE226 := n8_; have NB214_226 := n9_; have NB226_214 := n10_; have NB215_226 := n11_; have NB226_215 := n12_; have NB216_226 := n13_; have NB226_216 := n14_; clear n0_ n1_ n2_ n3_ n4_ n5_ n6_ n7_ n8_ n9_ n10_ n11_ n12_ n13_ n14_ hb hbox hg; have hnb13 := NB226_214.out; have hnc13 := NB214_226.out; have hnb14 := NB226_215.out; have hnc14 := NB215_226.out; have hnb15 := NB226_216.out; have hnc15 := NB216_226.out; obtain ⟨_,_,_,_,_,_,_,_,_,_⟩ := cz5 BK226.out; obtain ⟨Ao17,co17,eo17⟩ := Kd.R_slice HO221.out; subst eo17; obtain ⟨Ao18,co18,eo18⟩ := Kd.R_slice HO225.out; subst eo18))
  (try simp only [Act.put,List.setIfInBounds_toArray,List.set_cons_zero,List.set_cons_succ])
  go_cut [22] (fun v22 wc => ∃ (kq : Nat) (x22_3 : Bool),v22 = .bool x22_3 ∧ Aside0 (spec_Receive.j0 kq x22_3 a1_0 a1_1 a1_2 t217 t218 t219 t222 t223 = some (r1,r2,r3,r4,r5,r6)) ∧ Aside0 (kq ≤ k) ∧ Aside0 (Kd.R Kd.string 9 wc w.heap.size (fun k_ => some k_ ≠ ((.slice Ao18 t223.length co18) : Value).ownBlock) (.slice Ao17 t219.length co17) t219) ∧ Aside0 (Kd.R Kd.string 9 wc w.heap.size (fun k_ => some k_ ≠ ((.slice Ao17 t219.length co17) : Value).ownBlock) (.slice Ao18 t223.length co18) t223) ∧ Aside0 (wc.heap[gb214]? = some (.cells #[.int .i64 a0_0,.int .i64 a0_1,(.slice A0_2 l0_2.length c0_2),.int .i64 a0_3,(.slice A0_4 l0_4.length c0_4)] 26 (0,0))) ∧ Aside0 (wc.heap[gb215]? = some (.cells #[.int .i64 a1_0,.int .i64 a1_1,.string a1_2] 36 (0,0))) ∧ Aside0 (wc.heap[gb216]? = some (.cells #[.int .i64 0,.int .i64 0,(.slice none 0 0),.int .i64 0,(.slice none 0 0)] 26 (0,0))) ∧ Aside0 (wc.heap[gb226]? = some (.cells #[.int .i64 t217,.int .i64 t218,(.slice Ao17 t219.length co17),.int .i64 t222,(.slice Ao18 t223.length co18)] 26 (0,0))) ∧ Aside0 (Below w.heap.size w wc))
  case first =>
   have H := HC4.out
   clear HC4
   replace H := Option.bind_eq_some_iff.mp H
   obtain ⟨t227,A190,H⟩ := H
   replace H : (if t227 = true then (if a1_0 < 0 then (spec_Receive.j0 k true a1_0 a1_1 a1_2 t217 t218 t219 t222 t223) else (spec_Receive.j0 k (decide ((a1_2.size : Int) > 60)) a1_0 a1_1 a1_2 t217 t218 t219 t222 t223)) else (spec_Receive.j0 k true a1_0 a1_1 a1_2 t217 t218 t219 t222 t223)) = some (r1,r2,r3,r4,r5,r6) := H
   have A19 := zA A190
   clear A190
   by_cases c20 : t227 = true
   ·
    subst c20
    have H1 : (if a1_0 < 0 then (spec_Receive.j0 k true a1_0 a1_1 a1_2 t217 t218 t219 t222 t223) else (spec_Receive.j0 k (decide ((a1_2.size : Int) > 60)) a1_0 a1_1 a1_2 t217 t218 t219 t222 t223)) = some (r1,r2,r3,r4,r5,r6) := by rw [if_pos rfl] at H; exact H
    clear H; have H := H1; clear H1
    by_cases c21 : a1_0 < 0
    ·
     rw [if_pos c21] at H
     have c21b0 : decide (a1_0 < 0) = true := decide_eq_true c21
     clear c21
     (first | rw [c21b0]|(simp only [i64_w,i32_w]; rw [c21b0])|skip)
     have H' := zA H
     clear H
     have hnb22 := NB214_215.out
     have hnc22 := NB215_214.out
     have hnb23 := NB214_216.out
     have hnc23 := NB216_214.out
     have hnb24 := NB214_226.out
     have hnc24 := NB226_214.out
     obtain ⟨_,_,_,_,_,_,_,_,_,_⟩ := cz5 BK214.out
     go_wp2_with (first | ((with_reducible refine gate_callee (f := 22) rfl ?_); refine goesL_ (some 10) rfl rfl Try.func22 (by kernel_rfl) rfl #[.agg #[.int .i64 a0_0,.int .i64 a0_1,.slice A0_2 l0_2.length c0_2,.int .i64 a0_3,.slice A0_4 l0_4.length c0_4]] rfl (by (try simp only [List.map_toArray,List.map_cons,List.map_nil]); first | done|rfl|(simp only [List.length_drop,List.length_take]; rfl)) ?_; (with_reducible refine (spec_EndOk.calls k a0_0 a0_1 _ _ l0_2 a0_3 _ _ l0_4 true _ ?side1 ?side2 ?side3 ?side4 A19.out).mono ?_); (case side1 => exact Kd.C_below HR0_2.out (bT HB)); (case side2 => exact HC0_2.out); (case side3 => exact Kd.C_below HR0_4.out (bT HB)); (case side4 => exact HC0_4.out); rintro e w26 ⟨rfl,hb⟩; refine ⟨_,rfl,?_⟩; have n0_ := zA (Kd.R_below (rrA8 (zC (zB (p := ⟨gb226,4,none⟩) (zB (p := ⟨gb226,3,none⟩) (zB (p := ⟨gb226,2,none⟩) (zB (p := ⟨gb226,1,none⟩) (zB (p := ⟨gb226,0,none⟩) (zD HO221.out BK226.out (by decide)) (fun _ h=>h.2) (.int .i64 t217)) (fun _ h=>h.2) (.int .i64 t218)) (fun _ h=>h.2) (.slice Ao17 t219.length co17)) (fun _ h=>h.2) (.int .i64 t222)) (fun _ h=>h.2) (.slice Ao18 t223.length co18)) (fun _ h_ => h_.1))) hb); have n1_ := zA (Kd.R_below (rrA8 (zC (zB (p := ⟨gb226,4,none⟩) (zB (p := ⟨gb226,3,none⟩) (zB (p := ⟨gb226,2,none⟩) (zB (p := ⟨gb226,1,none⟩) (zB (p := ⟨gb226,0,none⟩) (zD HO225.out BK226.out (by decide)) (fun _ h=>h.2) (.int .i64 t217)) (fun _ h=>h.2) (.int .i64 t218)) (fun _ h=>h.2) (.slice Ao17 t219.length co17)) (fun _ h=>h.2) (.int .i64 t222)) (fun _ h=>h.2) (.slice Ao18 t223.length co18)) (fun _ h_ => h_.1))) hb); have n2_ := zA (zK (bkT BK214.out) hb); have n3_ := zA (zK (bkT BK215.out) hb); have n4_ := zA (zK (bkT BK216.out) hb); have n5_ := zA (zK (g := gb226) (o := .cells #[.int .i64 t217,.int .i64 t218,.slice Ao17 t219.length co17,.int .i64 t222,.slice Ao18 t223.length co18] 26 (0,0)) (by (with_reducible repeat (first|refine zH ?_ _|refine zJ ?_|refine zI ?_ _)); refine blk_put (cs := #[.int .i64 t217,.int .i64 t218,.slice Ao17 t219.length co17,.int .i64 t222,.slice none 0 0]) ?_ 4 _ rfl; (with_reducible repeat (first|refine zH ?_ _|refine zJ ?_|refine zI ?_ _)); refine blk_put (cs := #[.int .i64 t217,.int .i64 t218,.slice Ao17 t219.length co17,.int .i64 0,.slice none 0 0]) ?_ 3 _ rfl; (with_reducible repeat (first|refine zH ?_ _|refine zJ ?_|refine zI ?_ _)); refine blk_put (cs := #[.int .i64 t217,.int .i64 t218,.slice none 0 0,.int .i64 0,.slice none 0 0]) ?_ 2 _ rfl; (with_reducible repeat (first|refine zH ?_ _|refine zJ ?_|refine zI ?_ _)); refine blk_put (cs := #[.int .i64 t217,.int .i64 0,.slice none 0 0,.int .i64 0,.slice none 0 0]) ?_ 1 _ rfl; (with_reducible repeat (first|refine zH ?_ _|refine zJ ?_|refine zI ?_ _)); refine blk_put (cs := #[.int .i64 0,.int .i64 0,.slice none 0 0,.int .i64 0,.slice none 0 0]) ?_ 0 _ rfl; (with_reducible repeat (first|refine zH ?_ _|refine zJ ?_|refine zI ?_ _)); exact BK226.out) hb); have n6_ := zA (below_step (bT HB) hb); clear HO221 HO225 BK214 BK215 BK216 BK226 HB; have HO221 := n0_; have HO225 := n1_; have BK214 := n2_; have BK215 := n3_; have BK216 := n4_; have BK226 := n5_; have HB := n6_; clear n0_ n1_ n2_ n3_ n4_ n5_ n6_; have hnb27 := NB215_216.out; have hnc27 := NB216_215.out; have hnb28 := NB215_226.out; have hnc28 := NB226_215.out; obtain ⟨_,_,_,_,_,_⟩ := cz3 BK215.out))
     go_meet
     case rel => exact ⟨_,(true),(by first|rfl|(simp; done)|(simp [*]; done)),H',⟨by first|omega|exact Nat.le_refl _⟩,⟨(rrA8 HO221.out)⟩,⟨(rrA8 HO225.out)⟩,⟨(bkT BK214.out)⟩,⟨(bkT BK215.out)⟩,⟨(bkT BK216.out)⟩,⟨(bkT BK226.out)⟩,⟨bT HB⟩⟩
    ·
     rw [if_neg c21] at H
     have c21b0 : decide (a1_0 < 0) = false := decide_eq_false c21
     clear c21
     (first | rw [c21b0]|(simp only [i64_w,i32_w]; rw [c21b0])|skip)
     have H' := zA H
     clear H
     have hnb30 := NB214_215.out
     have hnc30 := NB215_214.out
     have hnb31 := NB214_216.out
     have hnc31 := NB216_214.out
     have hnb32 := NB214_226.out
     have hnc32 := NB226_214.out
     obtain ⟨_,_,_,_,_,_,_,_,_,_⟩ := cz5 BK214.out
     go_wp2_with (first | ((with_reducible refine gate_callee (f := 22) rfl ?_); refine goesL_ (some 10) rfl rfl Try.func22 (by kernel_rfl) rfl #[.agg #[.int .i64 a0_0,.int .i64 a0_1,.slice A0_2 l0_2.length c0_2,.int .i64 a0_3,.slice A0_4 l0_4.length c0_4]] rfl (by (try simp only [List.map_toArray,List.map_cons,List.map_nil]); first | done|rfl|(simp only [List.length_drop,List.length_take]; rfl)) ?_; (with_reducible refine (spec_EndOk.calls k a0_0 a0_1 _ _ l0_2 a0_3 _ _ l0_4 true _ ?side1 ?side2 ?side3 ?side4 A19.out).mono ?_); (case side1 => exact Kd.C_below HR0_2.out (bT HB)); (case side2 => exact HC0_2.out); (case side3 => exact Kd.C_below HR0_4.out (bT HB)); (case side4 => exact HC0_4.out); rintro e w34 ⟨rfl,hb⟩; refine ⟨_,rfl,?_⟩; have n0_ := zA (Kd.R_below (rrA8 (zC (zB (p := ⟨gb226,4,none⟩) (zB (p := ⟨gb226,3,none⟩) (zB (p := ⟨gb226,2,none⟩) (zB (p := ⟨gb226,1,none⟩) (zB (p := ⟨gb226,0,none⟩) (zD HO221.out BK226.out (by decide)) (fun _ h=>h.2) (.int .i64 t217)) (fun _ h=>h.2) (.int .i64 t218)) (fun _ h=>h.2) (.slice Ao17 t219.length co17)) (fun _ h=>h.2) (.int .i64 t222)) (fun _ h=>h.2) (.slice Ao18 t223.length co18)) (fun _ h_ => h_.1))) hb); have n1_ := zA (Kd.R_below (rrA8 (zC (zB (p := ⟨gb226,4,none⟩) (zB (p := ⟨gb226,3,none⟩) (zB (p := ⟨gb226,2,none⟩) (zB (p := ⟨gb226,1,none⟩) (zB (p := ⟨gb226,0,none⟩) (zD HO225.out BK226.out (by decide)) (fun _ h=>h.2) (.int .i64 t217)) (fun _ h=>h.2) (.int .i64 t218)) (fun _ h=>h.2) (.slice Ao17 t219.length co17)) (fun _ h=>h.2) (.int .i64 t222)) (fun _ h=>h.2) (.slice Ao18 t223.length co18)) (fun _ h_ => h_.1))) hb); have n2_ := zA (zK (bkT BK214.out) hb); have n3_ := zA (zK (bkT BK215.out) hb); have n4_ := zA (zK (bkT BK216.out) hb); have n5_ := zA (zK (g := gb226) (o := .cells #[.int .i64 t217,.int .i64 t218,.slice Ao17 t219.length co17,.int .i64 t222,.slice Ao18 t223.length co18] 26 (0,0)) (by (with_reducible repeat (first|refine zH ?_ _|refine zJ ?_|refine zI ?_ _)); refine blk_put (cs := #[.int .i64 t217,.int .i64 t218,.slice Ao17 t219.length co17,.int .i64 t222,.slice none 0 0]) ?_ 4 _ rfl; (with_reducible repeat (first|refine zH ?_ _|refine zJ ?_|refine zI ?_ _)); refine blk_put (cs := #[.int .i64 t217,.int .i64 t218,.slice Ao17 t219.length co17,.int .i64 0,.slice none 0 0]) ?_ 3 _ rfl; (with_reducible repeat (first|refine zH ?_ _|refine zJ ?_|refine zI ?_ _)); refine blk_put (cs := #[.int .i64 t217,.int .i64 t218,.slice none 0 0,.int .i64 0,.slice none 0 0]) ?_ 2 _ rfl; (with_reducible repeat (first|refine zH ?_ _|refine zJ ?_|refine zI ?_ _)); refine blk_put (cs := #[.int .i64 t217,.int .i64 0,.slice none 0 0,.int .i64 0,.slice none 0 0]) ?_ 1 _ rfl; (with_reducible repeat (first|refine zH ?_ _|refine zJ ?_|refine zI ?_ _)); refine blk_put (cs := #[.int .i64 0,.int .i64 0,.slice none 0 0,.int .i64 0,.slice none 0 0]) ?_ 0 _ rfl; (with_reducible repeat (first|refine zH ?_ _|refine zJ ?_|refine zI ?_ _)); exact BK226.out) hb); have n6_ := zA (below_step (bT HB) hb); clear HO221 HO225 BK214 BK215 BK216 BK226 HB; have HO221 := n0_; have HO225 := n1_; have BK214 := n2_; have BK215 := n3_; have BK216 := n4_; have BK226 := n5_; have HB := n6_; clear n0_ n1_ n2_ n3_ n4_ n5_ n6_; have hnb35 := NB215_216.out; have hnc35 := NB216_215.out; have hnb36 := NB215_226.out; have hnc36 := NB226_215.out; obtain ⟨_,_,_,_,_,_⟩ := cz3 BK215.out))
     go_meet
     case rel => exact ⟨_,(decide ((a1_2.size : Int) > 60)),(by first|rfl|(simp; done)|(simp [*]; done)),H',⟨by first|omega|exact Nat.le_refl _⟩,⟨(rrA8 HO221.out)⟩,⟨(rrA8 HO225.out)⟩,⟨(bkT BK214.out)⟩,⟨(bkT BK215.out)⟩,⟨(bkT BK216.out)⟩,⟨(bkT BK226.out)⟩,⟨bT HB⟩⟩
   ·
    replace c20 := Bool.eq_false_iff.mpr c20
    subst c20
    have H1 : (spec_Receive.j0 k true a1_0 a1_1 a1_2 t217 t218 t219 t222 t223) = some (r1,r2,r3,r4,r5,r6) := by rw [if_neg (show ¬ (false = true) by decide)] at H; exact H
    clear H; have H := H1; clear H1
    have H' := zA H
    clear H
    have hnb38 := NB214_215.out
    have hnc38 := NB215_214.out
    have hnb39 := NB214_216.out
    have hnc39 := NB216_214.out
    have hnb40 := NB214_226.out
    have hnc40 := NB226_214.out
    obtain ⟨_,_,_,_,_,_,_,_,_,_⟩ := cz5 BK214.out
    go_wp2_with (first | ((with_reducible refine gate_callee (f := 22) rfl ?_); refine goesL_ (some 10) rfl rfl Try.func22 (by kernel_rfl) rfl #[.agg #[.int .i64 a0_0,.int .i64 a0_1,.slice A0_2 l0_2.length c0_2,.int .i64 a0_3,.slice A0_4 l0_4.length c0_4]] rfl (by (try simp only [List.map_toArray,List.map_cons,List.map_nil]); first | done|rfl|(simp only [List.length_drop,List.length_take]; rfl)) ?_; (with_reducible refine (spec_EndOk.calls k a0_0 a0_1 _ _ l0_2 a0_3 _ _ l0_4 false _ ?side1 ?side2 ?side3 ?side4 A19.out).mono ?_); (case side1 => exact Kd.C_below HR0_2.out (bT HB)); (case side2 => exact HC0_2.out); (case side3 => exact Kd.C_below HR0_4.out (bT HB)); (case side4 => exact HC0_4.out); rintro e w42 ⟨rfl,hb⟩; refine ⟨_,rfl,?_⟩; have n0_ := zA (Kd.R_below (rrA8 (zC (zB (p := ⟨gb226,4,none⟩) (zB (p := ⟨gb226,3,none⟩) (zB (p := ⟨gb226,2,none⟩) (zB (p := ⟨gb226,1,none⟩) (zB (p := ⟨gb226,0,none⟩) (zD HO221.out BK226.out (by decide)) (fun _ h=>h.2) (.int .i64 t217)) (fun _ h=>h.2) (.int .i64 t218)) (fun _ h=>h.2) (.slice Ao17 t219.length co17)) (fun _ h=>h.2) (.int .i64 t222)) (fun _ h=>h.2) (.slice Ao18 t223.length co18)) (fun _ h_ => h_.1))) hb); have n1_ := zA (Kd.R_below (rrA8 (zC (zB (p := ⟨gb226,4,none⟩) (zB (p := ⟨gb226,3,none⟩) (zB (p := ⟨gb226,2,none⟩) (zB (p := ⟨gb226,1,none⟩) (zB (p := ⟨gb226,0,none⟩) (zD HO225.out BK226.out (by decide)) (fun _ h=>h.2) (.int .i64 t217)) (fun _ h=>h.2) (.int .i64 t218)) (fun _ h=>h.2) (.slice Ao17 t219.length co17)) (fun _ h=>h.2) (.int .i64 t222)) (fun _ h=>h.2) (.slice Ao18 t223.length co18)) (fun _ h_ => h_.1))) hb); have n2_ := zA (zK (bkT BK214.out) hb); have n3_ := zA (zK (bkT BK215.out) hb); have n4_ := zA (zK (bkT BK216.out) hb); have n5_ := zA (zK (g := gb226) (o := .cells #[.int .i64 t217,.int .i64 t218,.slice Ao17 t219.length co17,.int .i64 t222,.slice Ao18 t223.length co18] 26 (0,0)) (by (with_reducible repeat (first|refine zH ?_ _|refine zJ ?_|refine zI ?_ _)); refine blk_put (cs := #[.int .i64 t217,.int .i64 t218,.slice Ao17 t219.length co17,.int .i64 t222,.slice none 0 0]) ?_ 4 _ rfl; (with_reducible repeat (first|refine zH ?_ _|refine zJ ?_|refine zI ?_ _)); refine blk_put (cs := #[.int .i64 t217,.int .i64 t218,.slice Ao17 t219.length co17,.int .i64 0,.slice none 0 0]) ?_ 3 _ rfl; (with_reducible repeat (first|refine zH ?_ _|refine zJ ?_|refine zI ?_ _)); refine blk_put (cs := #[.int .i64 t217,.int .i64 t218,.slice none 0 0,.int .i64 0,.slice none 0 0]) ?_ 2 _ rfl; (with_reducible repeat (first|refine zH ?_ _|refine zJ ?_|refine zI ?_ _)); refine blk_put (cs := #[.int .i64 t217,.int .i64 0,.slice none 0 0,.int .i64 0,.slice none 0 0]) ?_ 1 _ rfl; (with_reducible repeat (first|refine zH ?_ _|refine zJ ?_|refine zI ?_ _)); refine blk_put (cs := #[.int .i64 0,.int .i64 0,.slice none 0 0,.int .i64 0,.slice none 0 0]) ?_ 0 _ rfl; (with_reducible repeat (first|refine zH ?_ _|refine zJ ?_|refine zI ?_ _)); exact BK226.out) hb); have n6_ := zA (below_step (bT HB) hb); clear HO221 HO225 BK214 BK215 BK216 BK226 HB; have HO221 := n0_; have HO225 := n1_; have BK214 := n2_; have BK215 := n3_; have BK216 := n4_; have BK226 := n5_; have HB := n6_; clear n0_ n1_ n2_ n3_ n4_ n5_ n6_))
    go_meet
    case rel => exact ⟨_,(true),(by first|rfl|(simp; done)|(simp [*]; done)),H',⟨by first|omega|exact Nat.le_refl _⟩,⟨(rrA8 HO221.out)⟩,⟨(rrA8 HO225.out)⟩,⟨(bkT BK214.out)⟩,⟨(bkT BK215.out)⟩,⟨(bkT BK216.out)⟩,⟨(bkT BK226.out)⟩,⟨bT HB⟩⟩
  case rest =>
   clear HC4
   obtain ⟨kq,x22_3,rfl,HA,HJ3,HO_227002,HO_227004,BK214,BK215,BK216,BK226,HB⟩ := hcut
   cases kq with
   | zero => exact absurd HA.out (by simp [spec_Receive.j0])
   | succ kj3 =>
    have H := HA.out
    clear HA
    simp only [spec_Receive.j0] at H
    by_cases c43 : x22_3 = true
    ·
     subst c43
     have H1 : (some (t217,t218,t219,t222,t223,false)) = some (r1,r2,r3,r4,r5,r6) := by rw [if_pos rfl] at H; exact H
     clear H; have H := H1; clear H1
     simp only [Option.some.injEq,Prod.mk.injEq] at H
     obtain ⟨rfl,rfl,rfl,rfl,rfl,rfl⟩ := H
     have hnb44 := NB226_214.out
     have hnc44 := NB214_226.out
     have hnb45 := NB226_215.out
     have hnc45 := NB215_226.out
     have hnb46 := NB226_216.out
     have hnc46 := NB216_226.out
     obtain ⟨_,_,_,_,_,_,_,_,_,_⟩ := cz5 BK226.out
     have hnb48 := NB216_214.out
     have hnc48 := NB214_216.out
     have hnb49 := NB216_215.out
     have hnc49 := NB215_216.out
     obtain ⟨_,_,_,_,_,_,_,_,_,_⟩ := cz5 BK216.out
     go_wp2
     refine bodyPost_ret (results_ct rfl _ _ gb216 26 #[.int .i64 t217,.int .i64 t218,.slice Ao17 t219.length co17,.int .i64 t222,.slice Ao18 t223.length co18] (0,0) _ rfl (by (with_reducible repeat (first|refine zH ?_ _|refine zJ ?_|refine zI ?_ _)); refine blk_put (cs := #[.int .i64 t217,.int .i64 t218,.slice Ao17 t219.length co17,.int .i64 t222,.slice none 0 0]) ?_ 4 _ rfl; (with_reducible repeat (first|refine zH ?_ _|refine zJ ?_|refine zI ?_ _)); refine blk_put (cs := #[.int .i64 t217,.int .i64 t218,.slice Ao17 t219.length co17,.int .i64 0,.slice none 0 0]) ?_ 3 _ rfl; (with_reducible repeat (first|refine zH ?_ _|refine zJ ?_|refine zI ?_ _)); refine blk_put (cs := #[.int .i64 t217,.int .i64 t218,.slice none 0 0,.int .i64 0,.slice none 0 0]) ?_ 2 _ rfl; (with_reducible repeat (first|refine zH ?_ _|refine zJ ?_|refine zI ?_ _)); refine blk_put (cs := #[.int .i64 t217,.int .i64 0,.slice none 0 0,.int .i64 0,.slice none 0 0]) ?_ 1 _ rfl; (with_reducible repeat (first|refine zH ?_ _|refine zJ ?_|refine zI ?_ _)); refine blk_put (cs := #[.int .i64 0,.int .i64 0,.slice none 0 0,.int .i64 0,.slice none 0 0]) ?_ 0 _ rfl; (with_reducible repeat (first|refine zH ?_ _|refine zJ ?_|refine zI ?_ _)); exact BK216.out) Try.underlying26 rfl (by kernel_rfl)) rfl ?_
     exact ⟨_,_,by first|rfl|(simp [errW_none,errW_some] <;> rfl)|(simp [*,errW_none,errW_some] <;> rfl),by (with_reducible repeat (first|apply zE|apply zF|apply zG)); exact zC (zB (p := ⟨gb216,4,none⟩) (zB (p := ⟨gb216,3,none⟩) (zB (p := ⟨gb216,2,none⟩) (zB (p := ⟨gb216,1,none⟩) (zB (p := ⟨gb216,0,none⟩) (zD HO_227002.out BK216.out (by decide)) (fun _ h=>h.2) (.int .i64 t217)) (fun _ h=>h.2) (.int .i64 t218)) (fun _ h=>h.2) (.slice Ao17 t219.length co17)) (fun _ h=>h.2) (.int .i64 t222)) (fun _ h=>h.2) (.slice Ao18 t223.length co18)) (fun _ hk => hk.1),by (with_reducible repeat (first|apply zE|apply zF|apply zG)); exact zC (zB (p := ⟨gb216,4,none⟩) (zB (p := ⟨gb216,3,none⟩) (zB (p := ⟨gb216,2,none⟩) (zB (p := ⟨gb216,1,none⟩) (zB (p := ⟨gb216,0,none⟩) (zD HO_227004.out BK216.out (by decide)) (fun _ h=>h.2) (.int .i64 t217)) (fun _ h=>h.2) (.int .i64 t218)) (fun _ h=>h.2) (.slice Ao17 t219.length co17)) (fun _ h=>h.2) (.int .i64 t222)) (fun _ h=>h.2) (.slice Ao18 t223.length co18)) (fun _ hk => hk.1),bT HB⟩
    ·
     replace c43 := Bool.eq_false_iff.mpr c43
     subst c43
     have H1 : (if a1_1 > t218 then (spec_Receive.j1 kj3 (decide (a1_1 ≤ t217)) a1_0 a1_1 a1_2 t217 t218 t219 t222 t223) else (spec_Receive.j1 kj3 false a1_0 a1_1 a1_2 t217 t218 t219 t222 t223)) = some (r1,r2,r3,r4,r5,r6) := by rw [if_neg (show ¬ (false = true) by decide)] at H; exact H
     clear H; have H := H1; clear H1
     have HC51 := zA H
     clear H
     go_upto_region 4 with (fail)
     go_cut [35] (fun v35 wc => ∃ (kq : Nat) (x35_50 : Bool),v35 = .bool x35_50 ∧ Aside0 (spec_Receive.j1 kq x35_50 a1_0 a1_1 a1_2 t217 t218 t219 t222 t223 = some (r1,r2,r3,r4,r5,r6)) ∧ Aside0 (kq ≤ kj3) ∧ Aside0 (Kd.R Kd.string 9 wc w.heap.size (fun k_ => some k_ ≠ ((.slice Ao18 t223.length co18) : Value).ownBlock) (.slice Ao17 t219.length co17) t219) ∧ Aside0 (Kd.R Kd.string 9 wc w.heap.size (fun k_ => some k_ ≠ ((.slice Ao17 t219.length co17) : Value).ownBlock) (.slice Ao18 t223.length co18) t223) ∧ Aside0 (wc.heap[gb214]? = some (.cells #[.int .i64 a0_0,.int .i64 a0_1,(.slice A0_2 l0_2.length c0_2),.int .i64 a0_3,(.slice A0_4 l0_4.length c0_4)] 26 (0,0))) ∧ Aside0 (wc.heap[gb215]? = some (.cells #[.int .i64 a1_0,.int .i64 a1_1,.string a1_2] 36 (0,0))) ∧ Aside0 (wc.heap[gb216]? = some (.cells #[.int .i64 0,.int .i64 0,(.slice none 0 0),.int .i64 0,(.slice none 0 0)] 26 (0,0))) ∧ Aside0 (wc.heap[gb226]? = some (.cells #[.int .i64 t217,.int .i64 t218,(.slice Ao17 t219.length co17),.int .i64 t222,(.slice Ao18 t223.length co18)] 26 (0,0))) ∧ Aside0 (Below w.heap.size w wc))
     case first =>
      have H := HC51.out
      clear HC51
      by_cases c52 : a1_1 > t218
      ·
       rw [if_pos c52] at H
       have c52b0 : decide (t218 < a1_1) = true := decide_eq_true c52
       clear c52
       (first | rw [c52b0]|(simp only [i64_w,i32_w]; rw [c52b0])|skip)
       have H' := zA H
       clear H
       have hnb53 := NB215_214.out
       have hnc53 := NB214_215.out
       have hnb54 := NB215_216.out
       have hnc54 := NB216_215.out
       have hnb55 := NB215_226.out
       have hnc55 := NB226_215.out
       obtain ⟨_,_,_,_,_,_⟩ := cz3 BK215.out
       have hnb57 := NB226_214.out
       have hnc57 := NB214_226.out
       have hnb58 := NB226_216.out
       have hnc58 := NB216_226.out
       obtain ⟨_,_,_,_,_,_,_,_,_,_⟩ := cz5 BK226.out
       go_wp2
       go_meet
       case rel => exact ⟨_,(decide (a1_1 ≤ t217)),(by first|rfl|(simp; done)|(simp [*]; done)),H',⟨by have := HJ3.out; first|omega|exact Nat.le_refl _⟩,⟨(rrA8 HO_227002.out)⟩,⟨(rrA8 HO_227004.out)⟩,⟨(bkT BK214.out)⟩,⟨(bkT BK215.out)⟩,⟨(bkT BK216.out)⟩,⟨(bkT BK226.out)⟩,⟨bT HB⟩⟩
      ·
       rw [if_neg c52] at H
       have c52b0 : decide (t218 < a1_1) = false := decide_eq_false c52
       clear c52
       (first | rw [c52b0]|(simp only [i64_w,i32_w]; rw [c52b0])|skip)
       have H' := zA H
       clear H
       have hnb60 := NB215_214.out
       have hnc60 := NB214_215.out
       have hnb61 := NB215_216.out
       have hnc61 := NB216_215.out
       have hnb62 := NB215_226.out
       have hnc62 := NB226_215.out
       obtain ⟨_,_,_,_,_,_⟩ := cz3 BK215.out
       have hnb64 := NB226_214.out
       have hnc64 := NB214_226.out
       have hnb65 := NB226_216.out
       have hnc65 := NB216_226.out
       obtain ⟨_,_,_,_,_,_,_,_,_,_⟩ := cz5 BK226.out
       go_wp2
       go_meet
       case rel => exact ⟨_,(false),(by first|rfl|(simp; done)|(simp [*]; done)),H',⟨by have := HJ3.out; first|omega|exact Nat.le_refl _⟩,⟨(rrA8 HO_227002.out)⟩,⟨(rrA8 HO_227004.out)⟩,⟨(bkT BK214.out)⟩,⟨(bkT BK215.out)⟩,⟨(bkT BK216.out)⟩,⟨(bkT BK226.out)⟩,⟨bT HB⟩⟩
     case rest =>
      clear HC51
      obtain ⟨kq,x35_50,rfl,HA,HJ50,HO_227002,HO_227004,BK214,BK215,BK216,BK226,HB⟩ := hcut
      cases kq with
      | zero => exact absurd HA.out (by simp [spec_Receive.j1])
      | succ kj50 =>
       have H := HA.out
       clear HA
       simp only [spec_Receive.j1] at H
       by_cases c67 : x35_50 = true
       ·
        subst c67
        have H1 : ((some (([] : List ByteArray) : List ByteArray)).bind fun y228 => (if 0 ≤ (wrap64 (a1_1 - t218)) then (if (wrap64 (a1_1 - t218)) ≤ (t219.length : Int) then ((some (t219.drop ((wrap64 (a1_1 - t218)) : Int).toNat : List ByteArray)).bind fun y231 => (if y228.length + y231.length < 8796093022208 then ((some (y228 ++ y231 : List ByteArray)).bind fun y235 => (if a1_0 = (wrap64 (t222 + 1)) then (if t222 ≥ 1000 then (some (t217,a1_1,y235,t222,t223,false)) else (if t223.length < 8796093022208 then (some (t217,a1_1,y235,wrap64 (t222 + 1),(t223 ++ [a1_2]),true)) else (none))) else (some (t217,a1_1,y235,t222,t223,false)))) else (none))) else (none)) else (none))) = some (r1,r2,r3,r4,r5,r6) := by rw [if_pos rfl] at H; exact H
        clear H; have H := H1; clear H1
        obtain ⟨y228,hy228⟩ : ∃ y_ : List ByteArray,y_ = (([] : List ByteArray)) := ⟨_,rfl⟩
        replace H : (if 0 ≤ (wrap64 (a1_1 - t218)) then (if (wrap64 (a1_1 - t218)) ≤ (t219.length : Int) then ((some (t219.drop ((wrap64 (a1_1 - t218)) : Int).toNat : List ByteArray)).bind fun y231 => (if y228.length + y231.length < 8796093022208 then ((some (y228 ++ y231 : List ByteArray)).bind fun y235 => (if a1_0 = (wrap64 (t222 + 1)) then (if t222 ≥ 1000 then (some (t217,a1_1,y235,t222,t223,false)) else (if t223.length < 8796093022208 then (some (t217,a1_1,y235,wrap64 (t222 + 1),(t223 ++ [a1_2]),true)) else (none))) else (some (t217,a1_1,y235,t222,t223,false)))) else (none))) else (none)) else (none)) = some (r1,r2,r3,r4,r5,r6) := by first | (rw [hy228]; with_reducible exact H) | (have H2_ := (Option.bind_some _ _).symm.trans H; rw [hy228]; with_reducible exact H2_) | (have H2_ := (Option.bind_some _ _).symm.trans H; with_reducible exact H2_)|with_reducible exact H | (rw [hy228]; exact H)|exact H
        have Ny228 := zA hy228
        clear hy228
        obtain ⟨ji68,hji68⟩ : ∃ j_ : Int,(wrap64 (a1_1 - t218)) = j_ := ⟨_,rfl⟩
        replace H : (if 0 ≤ (ji68) then (if (ji68) ≤ (t219.length : Int) then ((some (t219.drop ((ji68) : Int).toNat : List ByteArray)).bind fun y231 => (if y228.length + y231.length < 8796093022208 then ((some (y228 ++ y231 : List ByteArray)).bind fun y235 => (if a1_0 = (wrap64 (t222 + 1)) then (if t222 ≥ 1000 then (some (t217,a1_1,y235,t222,t223,false)) else (if t223.length < 8796093022208 then (some (t217,a1_1,y235,wrap64 (t222 + 1),(t223 ++ [a1_2]),true)) else (none))) else (some (t217,a1_1,y235,t222,t223,false)))) else (none))) else (none)) else (none)) = some (r1,r2,r3,r4,r5,r6) := by first | (rw [hji68] at H; exact H)|(simp only [hji68] at H ⊢; exact H)
        have hji68w : (IntKind.i64.wrap (a1_1 - t218)) = ji68 := (i64_w _).trans hji68
        by_cases c69 : 0 ≤ (ji68)
        ·
         rw [if_pos c69] at H
         have c69b0 := eq_true c69
         have c69b1 : decide (0 ≤ (ji68)) = true := decide_eq_true c69
         clear c69
         by_cases c70 : (ji68) ≤ (t219.length : Int)
         ·
          rw [if_pos c70] at H
          have c70b0 := eq_true c70
          have c70b1 : decide ((ji68) ≤ (t219.length : Int)) = true := decide_eq_true c70
          clear c70
          obtain ⟨y231,hy231⟩ : ∃ y_ : List ByteArray,y_ = (t219.drop ((ji68) : Int).toNat) := ⟨_,rfl⟩
          replace H : (if y228.length + y231.length < 8796093022208 then ((some (y228 ++ y231 : List ByteArray)).bind fun y235 => (if a1_0 = (wrap64 (t222 + 1)) then (if t222 ≥ 1000 then (some (t217,a1_1,y235,t222,t223,false)) else (if t223.length < 8796093022208 then (some (t217,a1_1,y235,wrap64 (t222 + 1),(t223 ++ [a1_2]),true)) else (none))) else (some (t217,a1_1,y235,t222,t223,false)))) else (none)) = some (r1,r2,r3,r4,r5,r6) := by first | (rw [hy231]; with_reducible exact H) | (have H2_ := (Option.bind_some _ _).symm.trans H; rw [hy231]; with_reducible exact H2_) | (have H2_ := (Option.bind_some _ _).symm.trans H; with_reducible exact H2_)|with_reducible exact H | (rw [hy231]; exact H)|exact H
          have Ny231 := zA hy231
          clear hy231
          by_cases c71 : y228.length + y231.length < 8796093022208
          ·
           rw [if_pos c71] at H
           have LMc71 := zA c71
           clear c71
           obtain ⟨y235,hy235⟩ : ∃ y_ : List ByteArray,y_ = (y228 ++ y231) := ⟨_,rfl⟩
           replace H : (if a1_0 = (wrap64 (t222 + 1)) then (if t222 ≥ 1000 then (some (t217,a1_1,y235,t222,t223,false)) else (if t223.length < 8796093022208 then (some (t217,a1_1,y235,wrap64 (t222 + 1),(t223 ++ [a1_2]),true)) else (none))) else (some (t217,a1_1,y235,t222,t223,false))) = some (r1,r2,r3,r4,r5,r6) := by first | (rw [hy235]; with_reducible exact H) | (have H2_ := (Option.bind_some _ _).symm.trans H; rw [hy235]; with_reducible exact H2_) | (have H2_ := (Option.bind_some _ _).symm.trans H; with_reducible exact H2_)|with_reducible exact H | (rw [hy235]; exact H)|exact H
           have Ny235 := zA hy235
           clear hy235
           by_cases c72 : a1_0 = (wrap64 (t222 + 1))
           ·
            rw [if_pos c72] at H
            have c72b0 : (a1_0 == (wrap64 (t222 + 1))) = true := beq_iff_eq.mpr c72
            have c72b1 : (a1_0 != (wrap64 (t222 + 1))) = false := bne_eq_false_iff_eq.mpr c72
            clear c72
            by_cases c73 : t222 ≥ 1000
            ·
             rw [if_pos c73] at H
             have c73b0 : decide (1000 ≤ t222) = true := decide_eq_true c73
             clear c73
             simp only [Option.some.injEq,Prod.mk.injEq] at H
             obtain ⟨rfl,rfl,rfl,rfl,rfl,rfl⟩ := H
             go_wp2_with (first | ((with_reducible refine gate_dst (N := 36) rfl ?_); (try (refine gate_guard (by rfl) ?_; dsimp only)); refine Kd.R_lit Kd.string _ 9 ?hg (N := 36) ?hd (xs := ([] : List ByteArray)) (inner := []) (ok := fun _ => True) (okp := fun _ => True) ?hr ?hp (fun _ hk => hk) trivial (Below.refl _ _) (Nat.le_refl _) (by simp) ?_; (case hd => rfl); (case hg => rfl); (case hr => first | (go_simp; done) | (go_simp; rfl)); (case hp => exact (Reps.none _ _)); intro v229 w74 ho75 hb hg_ hnew_; clear hg_ hnew_; (first | rw [← Ny228.out] at ho75|(simp only [Int.reduceToNat] at ho75; rw [← Ny228.out] at ho75)); have n0_ := zA (Kd.R_elder' (rrA8 HO_227002.out) (Kd.R_base ho75) hb); have n1_ := zA (Kd.R_elder' (rrA8 HO_227004.out) (Kd.R_base ho75) hb); have n2_ := zA (Kd.R_lower (Kd.R_new' (Kd.R_new' ho75 (Kd.R_lt (rrA8 HO_227002.out))) (Kd.R_lt (rrA8 HO_227004.out))) (below_size (bT HB))); have n3_ := zA (zK (bkT BK214.out) hb); have n4_ := zA (zK (bkT BK215.out) hb); have n5_ := zA (zK (bkT BK216.out) hb); have n6_ := zA (zK (bkT BK226.out) hb); have n7_ := zA (below_step (bT HB) hb); clear HO_227002 HO_227004 BK214 BK215 BK216 BK226 HB; have HO_227002 := n0_; have HO_227004 := n1_; have HO230 := n2_; have BK214 := n3_; have BK215 := n4_; have BK216 := n5_; have BK226 := n6_; have HB := n7_; clear n0_ n1_ n2_ n3_ n4_ n5_ n6_ n7_ hb ho75; have hnb76 := NB226_214.out; have hnc76 := NB214_226.out; have hnb77 := NB226_215.out; have hnc77 := NB215_226.out; have hnb78 := NB226_216.out; have hnc78 := NB216_226.out; obtain ⟨_,_,_,_,_,_,_,_,_,_⟩ := cz5 BK226.out; have hnb80 := NB215_214.out; have hnc80 := NB214_215.out; have hnb81 := NB215_216.out; have hnc81 := NB216_215.out; obtain ⟨_,_,_,_,_,_⟩ := cz3 BK215.out; have q83 : ((ji68) : Int) ≤ ((t219.length : Int) : Int) := of_decide_eq_true (by first|(with_reducible assumption) | assumption); obtain ⟨i083,hi083,_,hsz83,_⟩ := info_parts info9; have hroom83 : t219.length ≤ co17 := (Kd.R_reads' HO_227002.out).2.1; have hC83 : Kd.C Kd.string _ Ao17 t219.length t219 := (Kd.R_reads' HO_227002.out).2.2; have q083 : (0 : Int) ≤ ((ji68) : Int) := of_decide_eq_true (by first|(with_reducible assumption) | assumption); have hcut83 := cut_from (P := Try.prog) 22 9 .i64 Try.underlying22 hi083 1 hsz83 Ao17 t219.length co17 (ji68) q083 q83; have hr83 := Kd.C_drop (m := ((ji68) : Int).toNat) (c := co17) hC83 (by omega) hroom83; obtain ⟨A83,hA83⟩ : ∃ A1,A1 = (if co17 = ((ji68) : Int).toNat then Ao17 else (Ao17 : Option Addr).map (·.add (((ji68) : Int).toNat * 1))) := ⟨_,rfl⟩; obtain ⟨c83,hc83⟩ : ∃ c1,c1 = co17 - ((ji68) : Int).toNat := ⟨_,rfl⟩; have hy83 : y231.length = t219.length - ((ji68) : Int).toNat := (by rw [Ny231.out,List.length_drop] <;> omega); rw [show (t219).drop ((ji68) : Int).toNat = y231 from Ny231.out.symm] at hr83; replace hr83 : Kd.C Kd.string _ A83 y231.length y231 := (by rw [hA83]; exact hr83); rw [← hy83,← hA83,← hc83] at hcut83; have HR234 := zA hr83; have HC234 := zA (show y231.length ≤ c83 from by rw [hy83,hc83]; exact Nat.sub_le_sub_right hroom83 _); clear hr83 hC83 hroom83 hi083 hsz83 hc83; have KY83 := zA hy83; have KA83 := zA hA83; clear hy83 hA83; have KL83 := zA (show ((ji68) : Int).toNat ≤ t219.length from by omega); replace q83 := eq_true q83) | ((with_reducible refine gate_builtin (b := .append) (xs := #[.tmp 36,.tmp 44]) rfl ?_); (try (refine gate_guard (by rfl) ?_; dsimp only)); at_builtin; refine Kd.R_append_rows Kd.string (w0 := w) w.heap.size rfl (.tmp 36) (.tmp 44) 22 9 (.string ⟨#[]⟩) 16 rfl Try.underlying22 info9 rfl (by decide) (by omega) v229 y228 y231 _ _ _ (fun k_ => some k_ ≠ (.slice Ao17 t219.length co17 : Value).ownBlock ∧ some k_ ≠ (.slice Ao18 t223.length co18 : Value).ownBlock) (fun _ => False) rfl rfl ?aO ?aR (fun _ _ h => h) (fun _ h => h.elim) ?aF ?aB ?aS ?aL ?_; (case aR => exact ccT ((by repeat (first|(with_reducible exact HR234.out)|(with_reducible refine Kd.C_alloc ?_ _)|(with_reducible refine Kd.C_drewN ?_ _)|(with_reducible refine Kd.C_drew ?_)|exact HR234.out)))); (case aB => exact (bT HB)); (case aF => exact (fun k_ hk => ⟨Kd.fresh' (Kd.R_lt (rrA8 HO_227002.out)) k_ hk,Kd.fresh' (Kd.R_lt (rrA8 HO_227004.out)) k_ hk⟩)); (case aO => exact (by (with_reducible repeat (first|apply zE|apply zF|apply zG)); exact zC HO230.out (fun _ hk => ⟨hk.1.2,hk.2⟩))); (case aS => exact (below_size (bT HB))); (case aL => have := LMc71.out; omega); intro v236 w84 ho hb hg hat; rw [← Ny235.out] at ho; have n0_ := zA (Kd.R_after (ok := (fun k_ => some k_ ≠ (.slice Ao18 t223.length co18 : Value).ownBlock)) (rrA8 HO_227002.out) hg hat); have n1_ := zA (Kd.R_after (ok := (fun k_ => some k_ ≠ (.slice Ao17 t219.length co17 : Value).ownBlock)) (rrA8 HO_227004.out) hg hat); have n2_ := zA (blk_grown (bkT BK214.out) hg (Kd.R_ne HO230.out BK214.out (by decide))); have n3_ := zA (blk_grown (bkT BK215.out) hg (Kd.R_ne HO230.out BK215.out (by decide))); have n4_ := zA (blk_grown (bkT BK216.out) hg (Kd.R_ne HO230.out BK216.out (by decide))); have n5_ := zA (blk_grown (bkT BK226.out) hg (Kd.R_ne HO230.out BK226.out (by decide))); have n6_ := zA (hb); have n7_ := zA ((show Kd.C Kd.string w84 A83 y231.length y231 from by rw [Ny231.out,KA83.out]; exact Kd.C_drop (m := ((ji68) : Int).toNat) (c := co17) ((Kd.R_reads' (Kd.R_after (ok := (fun k_ => some k_ ≠ (.slice Ao18 t223.length co18 : Value).ownBlock)) (rrA8 HO_227002.out) hg hat)).2.2) KL83.out ((Kd.R_reads' (Kd.R_after (ok := (fun k_ => some k_ ≠ (.slice Ao18 t223.length co18 : Value).ownBlock)) (rrA8 HO_227002.out) hg hat)).2.1))); have n8_ := zA (ho); clear HO_227002 HO_227004 BK214 BK215 BK216 BK226 HB HR234 HO230; have HO_227002 := n0_; have HO_227004 := n1_; have BK214 := n2_; have BK215 := n3_; have BK216 := n4_; have BK226 := n5_; have HB := n6_; have HR234 := n7_; have HO237 := n8_; clear n0_ n1_ n2_ n3_ n4_ n5_ n6_ n7_ n8_ ho hb hg hat; obtain ⟨Ao85,co85,eo85⟩ := Kd.R_slice HO237.out; subst eo85; obtain ⟨_,_,_,_,_,_,_,_,_,_⟩ := cz5 BK226.out; obtain ⟨_,_,_,_,_,_⟩ := cz3 BK215.out; have hnb88 := NB216_214.out; have hnc88 := NB214_216.out; obtain ⟨_,_,_,_,_,_,_,_,_,_⟩ := cz5 BK216.out))
             refine bodyPost_ret (results_ct rfl _ _ gb216 26 #[.int .i64 t217,.int .i64 a1_1,.slice Ao85 y235.length co85,.int .i64 t222,.slice Ao18 t223.length co18] (0,0) _ rfl (by (with_reducible repeat (first|refine zH ?_ _|refine zJ ?_|refine zI ?_ _)); refine blk_put (cs := #[.int .i64 t217,.int .i64 a1_1,.slice Ao85 y235.length co85,.int .i64 t222,.slice none 0 0]) ?_ 4 _ rfl; (with_reducible repeat (first|refine zH ?_ _|refine zJ ?_|refine zI ?_ _)); refine blk_put (cs := #[.int .i64 t217,.int .i64 a1_1,.slice Ao85 y235.length co85,.int .i64 0,.slice none 0 0]) ?_ 3 _ rfl; (with_reducible repeat (first|refine zH ?_ _|refine zJ ?_|refine zI ?_ _)); refine blk_put (cs := #[.int .i64 t217,.int .i64 a1_1,.slice none 0 0,.int .i64 0,.slice none 0 0]) ?_ 2 _ rfl; (with_reducible repeat (first|refine zH ?_ _|refine zJ ?_|refine zI ?_ _)); refine blk_put (cs := #[.int .i64 t217,.int .i64 0,.slice none 0 0,.int .i64 0,.slice none 0 0]) ?_ 1 _ rfl; (with_reducible repeat (first|refine zH ?_ _|refine zJ ?_|refine zI ?_ _)); refine blk_put (cs := #[.int .i64 0,.int .i64 0,.slice none 0 0,.int .i64 0,.slice none 0 0]) ?_ 0 _ rfl; (with_reducible repeat (first|refine zH ?_ _|refine zJ ?_|refine zI ?_ _)); refine blk_far ?_ NB216_226.out _; (with_reducible repeat (first|refine zH ?_ _|refine zJ ?_|refine zI ?_ _)); refine blk_far ?_ NB216_226.out _; (with_reducible repeat (first|refine zH ?_ _|refine zJ ?_|refine zI ?_ _)); exact BK216.out) Try.underlying26 rfl (by kernel_rfl)) rfl ?_
             exact ⟨_,_,by first|rfl|(simp [errW_none,errW_some] <;> rfl)|(simp only [← hji68]; first|rfl|(simp [errW_none,errW_some] <;> rfl))|(simp [*,errW_none,errW_some] <;> rfl),by (with_reducible repeat (first|apply zE|apply zF|apply zG)); exact zC (zB (p := ⟨gb216,4,none⟩) (zB (p := ⟨gb216,3,none⟩) (zB (p := ⟨gb216,2,none⟩) (zB (p := ⟨gb216,1,none⟩) (zB (p := ⟨gb216,0,none⟩) (zB (p := ⟨gb226,1,none⟩) (zB (p := ⟨gb226,2,none⟩) (zD (zD HO237.out BK226.out (by decide)) BK216.out (by decide)) (fun _ hk => hk.1.2) (.slice Ao85 y235.length co85)) (fun _ hk => hk.1.2) (.int .i64 a1_1)) (fun _ h=>h.2) (.int .i64 t217)) (fun _ h=>h.2) (.int .i64 a1_1)) (fun _ h=>h.2) (.slice Ao85 y235.length co85)) (fun _ h=>h.2) (.int .i64 t222)) (fun _ h=>h.2) (.slice Ao18 t223.length co18)) (fun _ hk => hk.1.1.2),by (with_reducible repeat (first|apply zE|apply zF|apply zG)); exact zC (zB (p := ⟨gb216,4,none⟩) (zB (p := ⟨gb216,3,none⟩) (zB (p := ⟨gb216,2,none⟩) (zB (p := ⟨gb216,1,none⟩) (zB (p := ⟨gb216,0,none⟩) (zB (p := ⟨gb226,1,none⟩) (zB (p := ⟨gb226,2,none⟩) (zD (zD HO_227004.out BK226.out (by decide)) BK216.out (by decide)) (fun _ hk => hk.1.2) (.slice Ao85 y235.length co85)) (fun _ hk => hk.1.2) (.int .i64 a1_1)) (fun _ h=>h.2) (.int .i64 t217)) (fun _ h=>h.2) (.int .i64 a1_1)) (fun _ h=>h.2) (.slice Ao85 y235.length co85)) (fun _ h=>h.2) (.int .i64 t222)) (fun _ h=>h.2) (.slice Ao18 t223.length co18)) (fun _ hk => hk.1.1.2),bT HB⟩
            ·
             rw [if_neg c73] at H
             have c73b0 : decide (1000 ≤ t222) = false := decide_eq_false c73
             clear c73
             by_cases c90 : t223.length < 8796093022208
             ·
              rw [if_pos c90] at H
              have LMc90 := zA c90
              clear c90
              obtain ⟨y238,hy238⟩ : ∃ y_ : List ByteArray,y_ = (t223 ++ [a1_2]) := ⟨_,rfl⟩
              replace H : (some (t217,a1_1,y235,wrap64 (t222 + 1),y238,true)) = some (r1,r2,r3,r4,r5,r6) := by first | (rw [hy238]; with_reducible exact H) | (have H2_ := (Option.bind_some _ _).symm.trans H; rw [hy238]; with_reducible exact H2_) | (have H2_ := (Option.bind_some _ _).symm.trans H; with_reducible exact H2_)|with_reducible exact H | (rw [hy238]; exact H)|exact H
              have Ny238 := zA hy238
              clear hy238
              simp only [Option.some.injEq,Prod.mk.injEq] at H
              obtain ⟨rfl,rfl,rfl,rfl,rfl,rfl⟩ := H
              go_wp2_with (first | ((with_reducible refine gate_dst (N := 36) rfl ?_); (try (refine gate_guard (by rfl) ?_; dsimp only)); refine Kd.R_lit Kd.string _ 9 ?hg (N := 36) ?hd (xs := ([] : List ByteArray)) (inner := []) (ok := fun _ => True) (okp := fun _ => True) ?hr ?hp (fun _ hk => hk) trivial (Below.refl _ _) (Nat.le_refl _) (by simp) ?_; (case hd => rfl); (case hg => rfl); (case hr => first | (go_simp; done) | (go_simp; rfl)); (case hp => exact (Reps.none _ _)); intro v229 w91 ho92 hb hg_ hnew_; clear hg_ hnew_; (first | rw [← Ny228.out] at ho92|(simp only [Int.reduceToNat] at ho92; rw [← Ny228.out] at ho92)); have n0_ := zA (Kd.R_elder' (rrA8 HO_227002.out) (Kd.R_base ho92) hb); have n1_ := zA (Kd.R_elder' (rrA8 HO_227004.out) (Kd.R_base ho92) hb); have n2_ := zA (Kd.R_lower (Kd.R_new' (Kd.R_new' ho92 (Kd.R_lt (rrA8 HO_227002.out))) (Kd.R_lt (rrA8 HO_227004.out))) (below_size (bT HB))); have n3_ := zA (zK (bkT BK214.out) hb); have n4_ := zA (zK (bkT BK215.out) hb); have n5_ := zA (zK (bkT BK216.out) hb); have n6_ := zA (zK (bkT BK226.out) hb); have n7_ := zA (below_step (bT HB) hb); clear HO_227002 HO_227004 BK214 BK215 BK216 BK226 HB; have HO_227002 := n0_; have HO_227004 := n1_; have HO230 := n2_; have BK214 := n3_; have BK215 := n4_; have BK216 := n5_; have BK226 := n6_; have HB := n7_; clear n0_ n1_ n2_ n3_ n4_ n5_ n6_ n7_ hb ho92; have hnb93 := NB226_214.out; have hnc93 := NB214_226.out; have hnb94 := NB226_215.out; have hnc94 := NB215_226.out; have hnb95 := NB226_216.out; have hnc95 := NB216_226.out; obtain ⟨_,_,_,_,_,_,_,_,_,_⟩ := cz5 BK226.out; have hnb97 := NB215_214.out; have hnc97 := NB214_215.out; have hnb98 := NB215_216.out; have hnc98 := NB216_215.out; obtain ⟨_,_,_,_,_,_⟩ := cz3 BK215.out; have q100 : ((ji68) : Int) ≤ ((t219.length : Int) : Int) := of_decide_eq_true (by first|(with_reducible assumption) | assumption); obtain ⟨i0100,hi0100,_,hsz100,_⟩ := info_parts info9; have hroom100 : t219.length ≤ co17 := (Kd.R_reads' HO_227002.out).2.1; have hC100 : Kd.C Kd.string _ Ao17 t219.length t219 := (Kd.R_reads' HO_227002.out).2.2; have q0100 : (0 : Int) ≤ ((ji68) : Int) := of_decide_eq_true (by first|(with_reducible assumption) | assumption); have hcut100 := cut_from (P := Try.prog) 22 9 .i64 Try.underlying22 hi0100 1 hsz100 Ao17 t219.length co17 (ji68) q0100 q100; have hr100 := Kd.C_drop (m := ((ji68) : Int).toNat) (c := co17) hC100 (by omega) hroom100; obtain ⟨A100,hA100⟩ : ∃ A1,A1 = (if co17 = ((ji68) : Int).toNat then Ao17 else (Ao17 : Option Addr).map (·.add (((ji68) : Int).toNat * 1))) := ⟨_,rfl⟩; obtain ⟨c100,hc100⟩ : ∃ c1,c1 = co17 - ((ji68) : Int).toNat := ⟨_,rfl⟩; have hy100 : y231.length = t219.length - ((ji68) : Int).toNat := (by rw [Ny231.out,List.length_drop] <;> omega); rw [show (t219).drop ((ji68) : Int).toNat = y231 from Ny231.out.symm] at hr100; replace hr100 : Kd.C Kd.string _ A100 y231.length y231 := (by rw [hA100]; exact hr100); rw [← hy100,← hA100,← hc100] at hcut100; have HR234 := zA hr100; have HC234 := zA (show y231.length ≤ c100 from by rw [hy100,hc100]; exact Nat.sub_le_sub_right hroom100 _); clear hr100 hC100 hroom100 hi0100 hsz100 hc100; have KY100 := zA hy100; have KA100 := zA hA100; clear hy100 hA100; have KL100 := zA (show ((ji68) : Int).toNat ≤ t219.length from by omega); replace q100 := eq_true q100) | ((with_reducible refine gate_builtin (b := .append) (xs := #[.tmp 36,.tmp 44]) rfl ?_); (try (refine gate_guard (by rfl) ?_; dsimp only)); at_builtin; refine Kd.R_append_rows Kd.string (w0 := w) w.heap.size rfl (.tmp 36) (.tmp 44) 22 9 (.string ⟨#[]⟩) 16 rfl Try.underlying22 info9 rfl (by decide) (by omega) v229 y228 y231 _ _ _ (fun k_ => some k_ ≠ (.slice Ao17 t219.length co17 : Value).ownBlock ∧ some k_ ≠ (.slice Ao18 t223.length co18 : Value).ownBlock) (fun _ => False) rfl rfl ?aO ?aR (fun _ _ h => h) (fun _ h => h.elim) ?aF ?aB ?aS ?aL ?_; (case aR => exact ccT ((by repeat (first|(with_reducible exact HR234.out)|(with_reducible refine Kd.C_alloc ?_ _)|(with_reducible refine Kd.C_drewN ?_ _)|(with_reducible refine Kd.C_drew ?_)|exact HR234.out)))); (case aB => exact (bT HB)); (case aF => exact (fun k_ hk => ⟨Kd.fresh' (Kd.R_lt (rrA8 HO_227002.out)) k_ hk,Kd.fresh' (Kd.R_lt (rrA8 HO_227004.out)) k_ hk⟩)); (case aO => exact (by (with_reducible repeat (first|apply zE|apply zF|apply zG)); exact zC HO230.out (fun _ hk => ⟨hk.1.2,hk.2⟩))); (case aS => exact (below_size (bT HB))); (case aL => have := LMc71.out; omega); intro v236 w101 ho hb hg hat; rw [← Ny235.out] at ho; have n0_ := zA (Kd.R_after (ok := (fun k_ => some k_ ≠ (.slice Ao18 t223.length co18 : Value).ownBlock)) (rrA8 HO_227002.out) hg hat); have n1_ := zA (Kd.R_after (ok := (fun k_ => some k_ ≠ (.slice Ao17 t219.length co17 : Value).ownBlock)) (rrA8 HO_227004.out) hg hat); have n2_ := zA (blk_grown (bkT BK214.out) hg (Kd.R_ne HO230.out BK214.out (by decide))); have n3_ := zA (blk_grown (bkT BK215.out) hg (Kd.R_ne HO230.out BK215.out (by decide))); have n4_ := zA (blk_grown (bkT BK216.out) hg (Kd.R_ne HO230.out BK216.out (by decide))); have n5_ := zA (blk_grown (bkT BK226.out) hg (Kd.R_ne HO230.out BK226.out (by decide))); have n6_ := zA (hb); have n7_ := zA ((show Kd.C Kd.string w101 A100 y231.length y231 from by rw [Ny231.out,KA100.out]; exact Kd.C_drop (m := ((ji68) : Int).toNat) (c := co17) ((Kd.R_reads' (Kd.R_after (ok := (fun k_ => some k_ ≠ (.slice Ao18 t223.length co18 : Value).ownBlock)) (rrA8 HO_227002.out) hg hat)).2.2) KL100.out ((Kd.R_reads' (Kd.R_after (ok := (fun k_ => some k_ ≠ (.slice Ao18 t223.length co18 : Value).ownBlock)) (rrA8 HO_227002.out) hg hat)).2.1))); have n8_ := zA (ho); clear HO_227002 HO_227004 BK214 BK215 BK216 BK226 HB HR234 HO230; have HO_227002 := n0_; have HO_227004 := n1_; have BK214 := n2_; have BK215 := n3_; have BK216 := n4_; have BK226 := n5_; have HB := n6_; have HR234 := n7_; have HO237 := n8_; clear n0_ n1_ n2_ n3_ n4_ n5_ n6_ n7_ n8_ ho hb hg hat; obtain ⟨Ao102,co102,eo102⟩ := Kd.R_slice HO237.out; subst eo102; obtain ⟨_,_,_,_,_,_,_,_,_,_⟩ := cz5 BK226.out; obtain ⟨_,_,_,_,_,_⟩ := cz3 BK215.out) | ((with_reducible refine gate_builtin (b := .append) (xs := #[.tmp 63,.tmp 66]) rfl ?_); (try (refine gate_guard (by rfl) ?_; dsimp only)); at_builtin; refine Kd.R_append Kd.string (w0 := w) w.heap.size rfl (.tmp 63) (.tmp 66) 22 9 (.string ⟨#[]⟩) 16 rfl Try.underlying22 info9 rfl (by decide) (by omega) (.slice Ao18 t223.length co18) t223 a1_2 [.string a1_2] (fun k_ => some k_ ≠ (.slice Ao17 t219.length co17 : Value).ownBlock ∧ some k_ ≠ (.slice Ao102 y235.length co102 : Value).ownBlock) (fun _ => False) rfl (by first | (go_simp; done) | (go_simp; rfl)) ?aP (fun _ hk => hk.elim) ?aF ?aO ?aB ?aS ?aL ?_; (case aP => exact rfl); (case aB => exact (bT HB)); (case aF => exact (fun k_ hk => ⟨Kd.fresh' (Kd.R_lt (rrA8 (zC (zB (p := ⟨gb226,1,none⟩) (zB (p := ⟨gb226,2,none⟩) (zD HO_227002.out BK226.out (by decide)) (fun _ h=>h.2) (.slice Ao102 y235.length co102)) (fun _ h=>h.2) (.int .i64 a1_1)) (fun _ h_ => h_.1)))) k_ hk,Kd.fresh' (Kd.R_lt (rrA8 (zC (zB (p := ⟨gb226,1,none⟩) (zB (p := ⟨gb226,2,none⟩) (zD HO237.out BK226.out (by decide)) (fun _ h=>h.2) (.slice Ao102 y235.length co102)) (fun _ h=>h.2) (.int .i64 a1_1)) (fun _ h_ => h_.1)))) k_ hk⟩)); (case aO => exact (by (with_reducible repeat (first|apply zE|apply zF|apply zG)); exact zC (zB (p := ⟨gb226,1,none⟩) (zB (p := ⟨gb226,2,none⟩) (zD HO_227004.out BK226.out (by decide)) (fun _ h=>h.2) (.slice Ao102 y235.length co102)) (fun _ h=>h.2) (.int .i64 a1_1)) (fun _ hk => ⟨hk.1.1,hk.1.2⟩))); (case aS => exact (below_size (bT HB))); (case aL => have := LMc90.out; omega); intro v239 w105 ho hb hg hat; rw [← Ny238.out] at ho; have n0_ := zA (Kd.R_after (ok := (fun k_ => some k_ ≠ (.slice Ao102 y235.length co102 : Value).ownBlock)) (by (with_reducible repeat (first|apply zE|apply zF|apply zG)); exact zC (zB (p := ⟨gb226,1,none⟩) (zB (p := ⟨gb226,2,none⟩) (zD HO_227002.out BK226.out (by decide)) (fun _ h=>h.2) (.slice Ao102 y235.length co102)) (fun _ h=>h.2) (.int .i64 a1_1)) (fun _ hk => ⟨hk.1.2,hk.1.1⟩)) hg hat); have n1_ := zA (blk_grown (bkT BK214.out) hg (Kd.R_ne HO_227004.out BK214.out (by decide))); have n2_ := zA (blk_grown (bkT BK215.out) hg (Kd.R_ne HO_227004.out BK215.out (by decide))); have n3_ := zA (blk_grown (bkT BK216.out) hg (Kd.R_ne HO_227004.out BK216.out (by decide))); have n4_ := zA (blk_grown (g := gb226) (o := .cells #[.int .i64 t217,.int .i64 a1_1,.slice Ao102 y235.length co102,.int .i64 t222,.slice Ao18 t223.length co18] 26 (0,0)) (by (with_reducible repeat (first|refine zH ?_ _|refine zJ ?_|refine zI ?_ _)); refine blk_put (cs := #[.int .i64 t217,.int .i64 t218,.slice Ao102 y235.length co102,.int .i64 t222,.slice Ao18 t223.length co18]) ?_ 1 _ rfl; (with_reducible repeat (first|refine zH ?_ _|refine zJ ?_|refine zI ?_ _)); refine blk_put (cs := #[.int .i64 t217,.int .i64 t218,.slice Ao17 t219.length co17,.int .i64 t222,.slice Ao18 t223.length co18]) ?_ 2 _ rfl; (with_reducible repeat (first|refine zH ?_ _|refine zJ ?_|refine zI ?_ _)); exact BK226.out) hg (Kd.R_ne HO_227004.out BK226.out (by decide))); have n5_ := zA (Kd.R_after (ok := (fun k_ => some k_ ≠ (.slice Ao17 t219.length co17 : Value).ownBlock)) (by (with_reducible repeat (first|apply zE|apply zF|apply zG)); exact zC (zB (p := ⟨gb226,1,none⟩) (zB (p := ⟨gb226,2,none⟩) (zD HO237.out BK226.out (by decide)) (fun _ h=>h.2) (.slice Ao102 y235.length co102)) (fun _ h=>h.2) (.int .i64 a1_1)) (fun _ hk => ⟨hk.1.1,hk.1.2⟩)) hg hat); have n6_ := zA (hb); have n7_ := zA ((show Kd.C Kd.string w105 A100 y231.length y231 from by rw [Ny231.out,KA100.out]; exact Kd.C_drop (m := ((ji68) : Int).toNat) (c := co17) ((Kd.R_reads' (Kd.R_after (ok := (fun k_ => some k_ ≠ (.slice Ao102 y235.length co102 : Value).ownBlock)) (by (with_reducible repeat (first|apply zE|apply zF|apply zG)); exact zC (zB (p := ⟨gb226,1,none⟩) (zB (p := ⟨gb226,2,none⟩) (zD HO_227002.out BK226.out (by decide)) (fun _ h=>h.2) (.slice Ao102 y235.length co102)) (fun _ h=>h.2) (.int .i64 a1_1)) (fun _ hk => ⟨hk.1.2,hk.1.1⟩)) hg hat)).2.2) KL100.out ((Kd.R_reads' (Kd.R_after (ok := (fun k_ => some k_ ≠ (.slice Ao102 y235.length co102 : Value).ownBlock)) (by (with_reducible repeat (first|apply zE|apply zF|apply zG)); exact zC (zB (p := ⟨gb226,1,none⟩) (zB (p := ⟨gb226,2,none⟩) (zD HO_227002.out BK226.out (by decide)) (fun _ h=>h.2) (.slice Ao102 y235.length co102)) (fun _ h=>h.2) (.int .i64 a1_1)) (fun _ hk => ⟨hk.1.2,hk.1.1⟩)) hg hat)).2.1))); have n8_ := zA (ho); clear HO_227002 BK214 BK215 BK216 BK226 HO237 HB HR234 HO_227004; have HO_227002 := n0_; have BK214 := n1_; have BK215 := n2_; have BK216 := n3_; have BK226 := n4_; have HO237 := n5_; have HB := n6_; have HR234 := n7_; have HO240 := n8_; clear n0_ n1_ n2_ n3_ n4_ n5_ n6_ n7_ n8_ ho hb hg hat; obtain ⟨Ao106,co106,eo106⟩ := Kd.R_slice HO240.out; subst eo106; obtain ⟨_,_,_,_,_,_,_,_,_,_⟩ := cz5 BK226.out; have hnb108 := NB216_214.out; have hnc108 := NB214_216.out; obtain ⟨_,_,_,_,_,_,_,_,_,_⟩ := cz5 BK216.out))
              refine bodyPost_ret (results_ct rfl _ _ gb216 26 #[.int .i64 t217,.int .i64 a1_1,.slice Ao102 y235.length co102,.int .i64 (wrap64 (t222 + 1)),.slice Ao106 y238.length co106] (0,0) _ rfl (by (with_reducible repeat (first|refine zH ?_ _|refine zJ ?_|refine zI ?_ _)); refine blk_put (cs := #[.int .i64 t217,.int .i64 a1_1,.slice Ao102 y235.length co102,.int .i64 (wrap64 (t222 + 1)),.slice none 0 0]) ?_ 4 _ rfl; (with_reducible repeat (first|refine zH ?_ _|refine zJ ?_|refine zI ?_ _)); refine blk_put (cs := #[.int .i64 t217,.int .i64 a1_1,.slice Ao102 y235.length co102,.int .i64 0,.slice none 0 0]) ?_ 3 _ rfl; (with_reducible repeat (first|refine zH ?_ _|refine zJ ?_|refine zI ?_ _)); refine blk_put (cs := #[.int .i64 t217,.int .i64 a1_1,.slice none 0 0,.int .i64 0,.slice none 0 0]) ?_ 2 _ rfl; (with_reducible repeat (first|refine zH ?_ _|refine zJ ?_|refine zI ?_ _)); refine blk_put (cs := #[.int .i64 t217,.int .i64 0,.slice none 0 0,.int .i64 0,.slice none 0 0]) ?_ 1 _ rfl; (with_reducible repeat (first|refine zH ?_ _|refine zJ ?_|refine zI ?_ _)); refine blk_put (cs := #[.int .i64 0,.int .i64 0,.slice none 0 0,.int .i64 0,.slice none 0 0]) ?_ 0 _ rfl; (with_reducible repeat (first|refine zH ?_ _|refine zJ ?_|refine zI ?_ _)); refine blk_far ?_ NB216_226.out _; (with_reducible repeat (first|refine zH ?_ _|refine zJ ?_|refine zI ?_ _)); refine blk_far ?_ NB216_226.out _; (with_reducible repeat (first|refine zH ?_ _|refine zJ ?_|refine zI ?_ _)); exact BK216.out) Try.underlying26 rfl (by kernel_rfl)) rfl ?_
              exact ⟨_,_,by first|rfl|(simp [errW_none,errW_some] <;> rfl)|(simp only [← hji68]; first|rfl|(simp [errW_none,errW_some] <;> rfl))|(simp [*,errW_none,errW_some] <;> rfl),by (with_reducible repeat (first|apply zE|apply zF|apply zG)); exact zC (zB (p := ⟨gb216,4,none⟩) (zB (p := ⟨gb216,3,none⟩) (zB (p := ⟨gb216,2,none⟩) (zB (p := ⟨gb216,1,none⟩) (zB (p := ⟨gb216,0,none⟩) (zB (p := ⟨gb226,3,none⟩) (zB (p := ⟨gb226,4,none⟩) (zD (zD HO237.out BK226.out (by decide)) BK216.out (by decide)) (fun _ hk => hk.1.2) (.slice Ao106 y238.length co106)) (fun _ hk => hk.1.2) (.int .i64 (wrap64 (t222 + 1)))) (fun _ h=>h.2) (.int .i64 t217)) (fun _ h=>h.2) (.int .i64 a1_1)) (fun _ h=>h.2) (.slice Ao102 y235.length co102)) (fun _ h=>h.2) (.int .i64 (wrap64 (t222 + 1)))) (fun _ h=>h.2) (.slice Ao106 y238.length co106)) (fun _ hk => hk.1.1.2),by (with_reducible repeat (first|apply zE|apply zF|apply zG)); exact zC (zB (p := ⟨gb216,4,none⟩) (zB (p := ⟨gb216,3,none⟩) (zB (p := ⟨gb216,2,none⟩) (zB (p := ⟨gb216,1,none⟩) (zB (p := ⟨gb216,0,none⟩) (zB (p := ⟨gb226,3,none⟩) (zB (p := ⟨gb226,4,none⟩) (zD (zD HO240.out BK226.out (by decide)) BK216.out (by decide)) (fun _ hk => hk.1.2) (.slice Ao106 y238.length co106)) (fun _ hk => hk.1.2) (.int .i64 (wrap64 (t222 + 1)))) (fun _ h=>h.2) (.int .i64 t217)) (fun _ h=>h.2) (.int .i64 a1_1)) (fun _ h=>h.2) (.slice Ao102 y235.length co102)) (fun _ h=>h.2) (.int .i64 (wrap64 (t222 + 1)))) (fun _ h=>h.2) (.slice Ao106 y238.length co106)) (fun _ hk => hk.1.1.2),bT HB⟩
             ·
              rw [if_neg c90] at H
              exact absurd H (by simp)
           ·
            rw [if_neg c72] at H
            have c72b0 : (a1_0 == (wrap64 (t222 + 1))) = false := beq_eq_false_iff_ne.mpr c72
            have c72b1 : (a1_0 != (wrap64 (t222 + 1))) = true := bne_iff_ne.mpr c72
            simp only [Option.some.injEq,Prod.mk.injEq] at H
            obtain ⟨rfl,rfl,rfl,rfl,rfl,rfl⟩ := H
            go_wp2_with (first | ((with_reducible refine gate_dst (N := 36) rfl ?_); (try (refine gate_guard (by rfl) ?_; dsimp only)); refine Kd.R_lit Kd.string _ 9 ?hg (N := 36) ?hd (xs := ([] : List ByteArray)) (inner := []) (ok := fun _ => True) (okp := fun _ => True) ?hr ?hp (fun _ hk => hk) trivial (Below.refl _ _) (Nat.le_refl _) (by simp) ?_; (case hd => rfl); (case hg => rfl); (case hr => first | (go_simp; done) | (go_simp; rfl)); (case hp => exact (Reps.none _ _)); intro v229 w110 ho111 hb hg_ hnew_; clear hg_ hnew_; (first | rw [← Ny228.out] at ho111|(simp only [Int.reduceToNat] at ho111; rw [← Ny228.out] at ho111)); have n0_ := zA (Kd.R_elder' (rrA8 HO_227002.out) (Kd.R_base ho111) hb); have n1_ := zA (Kd.R_elder' (rrA8 HO_227004.out) (Kd.R_base ho111) hb); have n2_ := zA (Kd.R_lower (Kd.R_new' (Kd.R_new' ho111 (Kd.R_lt (rrA8 HO_227002.out))) (Kd.R_lt (rrA8 HO_227004.out))) (below_size (bT HB))); have n3_ := zA (zK (bkT BK214.out) hb); have n4_ := zA (zK (bkT BK215.out) hb); have n5_ := zA (zK (bkT BK216.out) hb); have n6_ := zA (zK (bkT BK226.out) hb); have n7_ := zA (below_step (bT HB) hb); clear HO_227002 HO_227004 BK214 BK215 BK216 BK226 HB; have HO_227002 := n0_; have HO_227004 := n1_; have HO230 := n2_; have BK214 := n3_; have BK215 := n4_; have BK216 := n5_; have BK226 := n6_; have HB := n7_; clear n0_ n1_ n2_ n3_ n4_ n5_ n6_ n7_ hb ho111; have hnb112 := NB226_214.out; have hnc112 := NB214_226.out; have hnb113 := NB226_215.out; have hnc113 := NB215_226.out; have hnb114 := NB226_216.out; have hnc114 := NB216_226.out; obtain ⟨_,_,_,_,_,_,_,_,_,_⟩ := cz5 BK226.out; have hnb116 := NB215_214.out; have hnc116 := NB214_215.out; have hnb117 := NB215_216.out; have hnc117 := NB216_215.out; obtain ⟨_,_,_,_,_,_⟩ := cz3 BK215.out; have q119 : ((ji68) : Int) ≤ ((t219.length : Int) : Int) := of_decide_eq_true (by first|(with_reducible assumption) | assumption); obtain ⟨i0119,hi0119,_,hsz119,_⟩ := info_parts info9; have hroom119 : t219.length ≤ co17 := (Kd.R_reads' HO_227002.out).2.1; have hC119 : Kd.C Kd.string _ Ao17 t219.length t219 := (Kd.R_reads' HO_227002.out).2.2; have q0119 : (0 : Int) ≤ ((ji68) : Int) := of_decide_eq_true (by first|(with_reducible assumption) | assumption); have hcut119 := cut_from (P := Try.prog) 22 9 .i64 Try.underlying22 hi0119 1 hsz119 Ao17 t219.length co17 (ji68) q0119 q119; have hr119 := Kd.C_drop (m := ((ji68) : Int).toNat) (c := co17) hC119 (by omega) hroom119; obtain ⟨A119,hA119⟩ : ∃ A1,A1 = (if co17 = ((ji68) : Int).toNat then Ao17 else (Ao17 : Option Addr).map (·.add (((ji68) : Int).toNat * 1))) := ⟨_,rfl⟩; obtain ⟨c119,hc119⟩ : ∃ c1,c1 = co17 - ((ji68) : Int).toNat := ⟨_,rfl⟩; have hy119 : y231.length = t219.length - ((ji68) : Int).toNat := (by rw [Ny231.out,List.length_drop] <;> omega); rw [show (t219).drop ((ji68) : Int).toNat = y231 from Ny231.out.symm] at hr119; replace hr119 : Kd.C Kd.string _ A119 y231.length y231 := (by rw [hA119]; exact hr119); rw [← hy119,← hA119,← hc119] at hcut119; have HR234 := zA hr119; have HC234 := zA (show y231.length ≤ c119 from by rw [hy119,hc119]; exact Nat.sub_le_sub_right hroom119 _); clear hr119 hC119 hroom119 hi0119 hsz119 hc119; have KY119 := zA hy119; have KA119 := zA hA119; clear hy119 hA119; have KL119 := zA (show ((ji68) : Int).toNat ≤ t219.length from by omega); replace q119 := eq_true q119) | ((with_reducible refine gate_builtin (b := .append) (xs := #[.tmp 36,.tmp 44]) rfl ?_); (try (refine gate_guard (by rfl) ?_; dsimp only)); at_builtin; refine Kd.R_append_rows Kd.string (w0 := w) w.heap.size rfl (.tmp 36) (.tmp 44) 22 9 (.string ⟨#[]⟩) 16 rfl Try.underlying22 info9 rfl (by decide) (by omega) v229 y228 y231 _ _ _ (fun k_ => some k_ ≠ (.slice Ao17 t219.length co17 : Value).ownBlock ∧ some k_ ≠ (.slice Ao18 t223.length co18 : Value).ownBlock) (fun _ => False) rfl rfl ?aO ?aR (fun _ _ h => h) (fun _ h => h.elim) ?aF ?aB ?aS ?aL ?_; (case aR => exact ccT ((by repeat (first|(with_reducible exact HR234.out)|(with_reducible refine Kd.C_alloc ?_ _)|(with_reducible refine Kd.C_drewN ?_ _)|(with_reducible refine Kd.C_drew ?_)|exact HR234.out)))); (case aB => exact (bT HB)); (case aF => exact (fun k_ hk => ⟨Kd.fresh' (Kd.R_lt (rrA8 HO_227002.out)) k_ hk,Kd.fresh' (Kd.R_lt (rrA8 HO_227004.out)) k_ hk⟩)); (case aO => exact (by (with_reducible repeat (first|apply zE|apply zF|apply zG)); exact zC HO230.out (fun _ hk => ⟨hk.1.2,hk.2⟩))); (case aS => exact (below_size (bT HB))); (case aL => have := LMc71.out; omega); intro v236 w120 ho hb hg hat; rw [← Ny235.out] at ho; have n0_ := zA (Kd.R_after (ok := (fun k_ => some k_ ≠ (.slice Ao18 t223.length co18 : Value).ownBlock)) (rrA8 HO_227002.out) hg hat); have n1_ := zA (Kd.R_after (ok := (fun k_ => some k_ ≠ (.slice Ao17 t219.length co17 : Value).ownBlock)) (rrA8 HO_227004.out) hg hat); have n2_ := zA (blk_grown (bkT BK214.out) hg (Kd.R_ne HO230.out BK214.out (by decide))); have n3_ := zA (blk_grown (bkT BK215.out) hg (Kd.R_ne HO230.out BK215.out (by decide))); have n4_ := zA (blk_grown (bkT BK216.out) hg (Kd.R_ne HO230.out BK216.out (by decide))); have n5_ := zA (blk_grown (bkT BK226.out) hg (Kd.R_ne HO230.out BK226.out (by decide))); have n6_ := zA (hb); have n7_ := zA ((show Kd.C Kd.string w120 A119 y231.length y231 from by rw [Ny231.out,KA119.out]; exact Kd.C_drop (m := ((ji68) : Int).toNat) (c := co17) ((Kd.R_reads' (Kd.R_after (ok := (fun k_ => some k_ ≠ (.slice Ao18 t223.length co18 : Value).ownBlock)) (rrA8 HO_227002.out) hg hat)).2.2) KL119.out ((Kd.R_reads' (Kd.R_after (ok := (fun k_ => some k_ ≠ (.slice Ao18 t223.length co18 : Value).ownBlock)) (rrA8 HO_227002.out) hg hat)).2.1))); have n8_ := zA (ho); clear HO_227002 HO_227004 BK214 BK215 BK216 BK226 HB HR234 HO230; have HO_227002 := n0_; have HO_227004 := n1_; have BK214 := n2_; have BK215 := n3_; have BK216 := n4_; have BK226 := n5_; have HB := n6_; have HR234 := n7_; have HO237 := n8_; clear n0_ n1_ n2_ n3_ n4_ n5_ n6_ n7_ n8_ ho hb hg hat; obtain ⟨Ao121,co121,eo121⟩ := Kd.R_slice HO237.out; subst eo121; obtain ⟨_,_,_,_,_,_,_,_,_,_⟩ := cz5 BK226.out; obtain ⟨_,_,_,_,_,_⟩ := cz3 BK215.out; have hnb124 := NB216_214.out; have hnc124 := NB214_216.out; obtain ⟨_,_,_,_,_,_,_,_,_,_⟩ := cz5 BK216.out))
            refine bodyPost_ret (results_ct rfl _ _ gb216 26 #[.int .i64 t217,.int .i64 a1_1,.slice Ao121 y235.length co121,.int .i64 t222,.slice Ao18 t223.length co18] (0,0) _ rfl (by (with_reducible repeat (first|refine zH ?_ _|refine zJ ?_|refine zI ?_ _)); refine blk_put (cs := #[.int .i64 t217,.int .i64 a1_1,.slice Ao121 y235.length co121,.int .i64 t222,.slice none 0 0]) ?_ 4 _ rfl; (with_reducible repeat (first|refine zH ?_ _|refine zJ ?_|refine zI ?_ _)); refine blk_put (cs := #[.int .i64 t217,.int .i64 a1_1,.slice Ao121 y235.length co121,.int .i64 0,.slice none 0 0]) ?_ 3 _ rfl; (with_reducible repeat (first|refine zH ?_ _|refine zJ ?_|refine zI ?_ _)); refine blk_put (cs := #[.int .i64 t217,.int .i64 a1_1,.slice none 0 0,.int .i64 0,.slice none 0 0]) ?_ 2 _ rfl; (with_reducible repeat (first|refine zH ?_ _|refine zJ ?_|refine zI ?_ _)); refine blk_put (cs := #[.int .i64 t217,.int .i64 0,.slice none 0 0,.int .i64 0,.slice none 0 0]) ?_ 1 _ rfl; (with_reducible repeat (first|refine zH ?_ _|refine zJ ?_|refine zI ?_ _)); refine blk_put (cs := #[.int .i64 0,.int .i64 0,.slice none 0 0,.int .i64 0,.slice none 0 0]) ?_ 0 _ rfl; (with_reducible repeat (first|refine zH ?_ _|refine zJ ?_|refine zI ?_ _)); refine blk_far ?_ NB216_226.out _; (with_reducible repeat (first|refine zH ?_ _|refine zJ ?_|refine zI ?_ _)); refine blk_far ?_ NB216_226.out _; (with_reducible repeat (first|refine zH ?_ _|refine zJ ?_|refine zI ?_ _)); exact BK216.out) Try.underlying26 rfl (by kernel_rfl)) rfl ?_
            exact ⟨_,_,by first|rfl|(simp [errW_none,errW_some] <;> rfl)|(simp only [← hji68]; first|rfl|(simp [errW_none,errW_some] <;> rfl))|(simp [*,errW_none,errW_some] <;> rfl),by (with_reducible repeat (first|apply zE|apply zF|apply zG)); exact zC (zB (p := ⟨gb216,4,none⟩) (zB (p := ⟨gb216,3,none⟩) (zB (p := ⟨gb216,2,none⟩) (zB (p := ⟨gb216,1,none⟩) (zB (p := ⟨gb216,0,none⟩) (zB (p := ⟨gb226,1,none⟩) (zB (p := ⟨gb226,2,none⟩) (zD (zD HO237.out BK226.out (by decide)) BK216.out (by decide)) (fun _ hk => hk.1.2) (.slice Ao121 y235.length co121)) (fun _ hk => hk.1.2) (.int .i64 a1_1)) (fun _ h=>h.2) (.int .i64 t217)) (fun _ h=>h.2) (.int .i64 a1_1)) (fun _ h=>h.2) (.slice Ao121 y235.length co121)) (fun _ h=>h.2) (.int .i64 t222)) (fun _ h=>h.2) (.slice Ao18 t223.length co18)) (fun _ hk => hk.1.1.2),by (with_reducible repeat (first|apply zE|apply zF|apply zG)); exact zC (zB (p := ⟨gb216,4,none⟩) (zB (p := ⟨gb216,3,none⟩) (zB (p := ⟨gb216,2,none⟩) (zB (p := ⟨gb216,1,none⟩) (zB (p := ⟨gb216,0,none⟩) (zB (p := ⟨gb226,1,none⟩) (zB (p := ⟨gb226,2,none⟩) (zD (zD HO_227004.out BK226.out (by decide)) BK216.out (by decide)) (fun _ hk => hk.1.2) (.slice Ao121 y235.length co121)) (fun _ hk => hk.1.2) (.int .i64 a1_1)) (fun _ h=>h.2) (.int .i64 t217)) (fun _ h=>h.2) (.int .i64 a1_1)) (fun _ h=>h.2) (.slice Ao121 y235.length co121)) (fun _ h=>h.2) (.int .i64 t222)) (fun _ h=>h.2) (.slice Ao18 t223.length co18)) (fun _ hk => hk.1.1.2),bT HB⟩
          ·
           rw [if_neg c71] at H
           exact absurd H (by simp)
         ·
          rw [if_neg c70] at H
          exact absurd H (by simp)
        ·
         rw [if_neg c69] at H
         exact absurd H (by simp)
       ·
        replace c67 := Bool.eq_false_iff.mpr c67
        subst c67
        have H1 : (if a1_0 = (wrap64 (t222 + 1)) then (if t222 ≥ 1000 then (some (t217,t218,t219,t222,t223,false)) else (if t223.length < 8796093022208 then (some (t217,t218,t219,wrap64 (t222 + 1),(t223 ++ [a1_2]),true)) else (none))) else (some (t217,t218,t219,t222,t223,false))) = some (r1,r2,r3,r4,r5,r6) := by rw [if_neg (show ¬ (false = true) by decide)] at H; exact H
        clear H; have H := H1; clear H1
        by_cases c126 : a1_0 = (wrap64 (t222 + 1))
        ·
         rw [if_pos c126] at H
         have c126b0 : (a1_0 == (wrap64 (t222 + 1))) = true := beq_iff_eq.mpr c126
         have c126b1 : (a1_0 != (wrap64 (t222 + 1))) = false := bne_eq_false_iff_eq.mpr c126
         clear c126
         by_cases c127 : t222 ≥ 1000
         ·
          rw [if_pos c127] at H
          have c127b0 : decide (1000 ≤ t222) = true := decide_eq_true c127
          clear c127
          simp only [Option.some.injEq,Prod.mk.injEq] at H
          obtain ⟨rfl,rfl,rfl,rfl,rfl,rfl⟩ := H
          have hnb128 := NB215_214.out
          have hnc128 := NB214_215.out
          have hnb129 := NB215_216.out
          have hnc129 := NB216_215.out
          have hnb130 := NB215_226.out
          have hnc130 := NB226_215.out
          obtain ⟨_,_,_,_,_,_⟩ := cz3 BK215.out
          have hnb132 := NB226_214.out
          have hnc132 := NB214_226.out
          have hnb133 := NB226_216.out
          have hnc133 := NB216_226.out
          obtain ⟨_,_,_,_,_,_,_,_,_,_⟩ := cz5 BK226.out
          have hnb135 := NB216_214.out
          have hnc135 := NB214_216.out
          obtain ⟨_,_,_,_,_,_,_,_,_,_⟩ := cz5 BK216.out
          go_wp2
          refine bodyPost_ret (results_ct rfl _ _ gb216 26 #[.int .i64 t217,.int .i64 t218,.slice Ao17 t219.length co17,.int .i64 t222,.slice Ao18 t223.length co18] (0,0) _ rfl (by (with_reducible repeat (first|refine zH ?_ _|refine zJ ?_|refine zI ?_ _)); refine blk_put (cs := #[.int .i64 t217,.int .i64 t218,.slice Ao17 t219.length co17,.int .i64 t222,.slice none 0 0]) ?_ 4 _ rfl; (with_reducible repeat (first|refine zH ?_ _|refine zJ ?_|refine zI ?_ _)); refine blk_put (cs := #[.int .i64 t217,.int .i64 t218,.slice Ao17 t219.length co17,.int .i64 0,.slice none 0 0]) ?_ 3 _ rfl; (with_reducible repeat (first|refine zH ?_ _|refine zJ ?_|refine zI ?_ _)); refine blk_put (cs := #[.int .i64 t217,.int .i64 t218,.slice none 0 0,.int .i64 0,.slice none 0 0]) ?_ 2 _ rfl; (with_reducible repeat (first|refine zH ?_ _|refine zJ ?_|refine zI ?_ _)); refine blk_put (cs := #[.int .i64 t217,.int .i64 0,.slice none 0 0,.int .i64 0,.slice none 0 0]) ?_ 1 _ rfl; (with_reducible repeat (first|refine zH ?_ _|refine zJ ?_|refine zI ?_ _)); refine blk_put (cs := #[.int .i64 0,.int .i64 0,.slice none 0 0,.int .i64 0,.slice none 0 0]) ?_ 0 _ rfl; (with_reducible repeat (first|refine zH ?_ _|refine zJ ?_|refine zI ?_ _)); exact BK216.out) Try.underlying26 rfl (by kernel_rfl)) rfl ?_
          exact ⟨_,_,by first|rfl|(simp [errW_none,errW_some] <;> rfl)|(simp [*,errW_none,errW_some] <;> rfl),by (with_reducible repeat (first|apply zE|apply zF|apply zG)); exact zC (zB (p := ⟨gb216,4,none⟩) (zB (p := ⟨gb216,3,none⟩) (zB (p := ⟨gb216,2,none⟩) (zB (p := ⟨gb216,1,none⟩) (zB (p := ⟨gb216,0,none⟩) (zD HO_227002.out BK216.out (by decide)) (fun _ h=>h.2) (.int .i64 t217)) (fun _ h=>h.2) (.int .i64 t218)) (fun _ h=>h.2) (.slice Ao17 t219.length co17)) (fun _ h=>h.2) (.int .i64 t222)) (fun _ h=>h.2) (.slice Ao18 t223.length co18)) (fun _ hk => hk.1),by (with_reducible repeat (first|apply zE|apply zF|apply zG)); exact zC (zB (p := ⟨gb216,4,none⟩) (zB (p := ⟨gb216,3,none⟩) (zB (p := ⟨gb216,2,none⟩) (zB (p := ⟨gb216,1,none⟩) (zB (p := ⟨gb216,0,none⟩) (zD HO_227004.out BK216.out (by decide)) (fun _ h=>h.2) (.int .i64 t217)) (fun _ h=>h.2) (.int .i64 t218)) (fun _ h=>h.2) (.slice Ao17 t219.length co17)) (fun _ h=>h.2) (.int .i64 t222)) (fun _ h=>h.2) (.slice Ao18 t223.length co18)) (fun _ hk => hk.1),bT HB⟩
         ·
          rw [if_neg c127] at H
          have c127b0 : decide (1000 ≤ t222) = false := decide_eq_false c127
          clear c127
          by_cases c137 : t223.length < 8796093022208
          ·
           rw [if_pos c137] at H
           have LMc137 := zA c137
           clear c137
           obtain ⟨y241,hy241⟩ : ∃ y_ : List ByteArray,y_ = (t223 ++ [a1_2]) := ⟨_,rfl⟩
           replace H : (some (t217,t218,t219,wrap64 (t222 + 1),y241,true)) = some (r1,r2,r3,r4,r5,r6) := by first | (rw [hy241]; with_reducible exact H) | (have H2_ := (Option.bind_some _ _).symm.trans H; rw [hy241]; with_reducible exact H2_) | (have H2_ := (Option.bind_some _ _).symm.trans H; with_reducible exact H2_)|with_reducible exact H | (rw [hy241]; exact H)|exact H
           have Ny241 := zA hy241
           clear hy241
           simp only [Option.some.injEq,Prod.mk.injEq] at H
           obtain ⟨rfl,rfl,rfl,rfl,rfl,rfl⟩ := H
           have hnb138 := NB215_214.out
           have hnc138 := NB214_215.out
           have hnb139 := NB215_216.out
           have hnc139 := NB216_215.out
           have hnb140 := NB215_226.out
           have hnc140 := NB226_215.out
           obtain ⟨_,_,_,_,_,_⟩ := cz3 BK215.out
           have hnb142 := NB226_214.out
           have hnc142 := NB214_226.out
           have hnb143 := NB226_216.out
           have hnc143 := NB216_226.out
           obtain ⟨_,_,_,_,_,_,_,_,_,_⟩ := cz5 BK226.out
           go_wp2_with (first | ((with_reducible refine gate_builtin (b := .append) (xs := #[.tmp 63,.tmp 66]) rfl ?_); (try (refine gate_guard (by rfl) ?_; dsimp only)); at_builtin; refine Kd.R_append Kd.string (w0 := w) w.heap.size rfl (.tmp 63) (.tmp 66) 22 9 (.string ⟨#[]⟩) 16 rfl Try.underlying22 info9 rfl (by decide) (by omega) (.slice Ao18 t223.length co18) t223 a1_2 [.string a1_2] (fun k_ => some k_ ≠ (.slice Ao17 t219.length co17 : Value).ownBlock) (fun _ => False) rfl rfl ?aP (fun _ hk => hk.elim) ?aF ?aO ?aB ?aS ?aL ?_; (case aP => exact rfl); (case aB => exact (bT HB)); (case aF => exact (fun k_ hk => Kd.fresh' (Kd.R_lt (rrA8 HO_227002.out)) k_ hk)); (case aO => exact (rrA8 HO_227004.out)); (case aS => exact (below_size (bT HB))); (case aL => have := LMc137.out; omega); intro v242 w145 ho hb hg hat; rw [← Ny241.out] at ho; have n0_ := zA (Kd.R_after (ok := (fun _ => True)) (by (with_reducible repeat (first|apply zE|apply zF|apply zG)); exact zC HO_227002.out (fun _ hk => ⟨trivial,hk⟩)) hg hat); have n1_ := zA (blk_grown (bkT BK214.out) hg (Kd.R_ne HO_227004.out BK214.out (by decide))); have n2_ := zA (blk_grown (bkT BK215.out) hg (Kd.R_ne HO_227004.out BK215.out (by decide))); have n3_ := zA (blk_grown (bkT BK216.out) hg (Kd.R_ne HO_227004.out BK216.out (by decide))); have n4_ := zA (blk_grown (bkT BK226.out) hg (Kd.R_ne HO_227004.out BK226.out (by decide))); have n5_ := zA (hb); have n6_ := zA (ho); clear HO_227002 BK214 BK215 BK216 BK226 HB HO_227004; have HO_227002 := n0_; have BK214 := n1_; have BK215 := n2_; have BK216 := n3_; have BK226 := n4_; have HB := n5_; have HO243 := n6_; clear n0_ n1_ n2_ n3_ n4_ n5_ n6_ ho hb hg hat; obtain ⟨Ao146,co146,eo146⟩ := Kd.R_slice HO243.out; subst eo146; obtain ⟨_,_,_,_,_,_,_,_,_,_⟩ := cz5 BK226.out; have hnb148 := NB216_214.out; have hnc148 := NB214_216.out; obtain ⟨_,_,_,_,_,_,_,_,_,_⟩ := cz5 BK216.out))
           refine bodyPost_ret (results_ct rfl _ _ gb216 26 #[.int .i64 t217,.int .i64 t218,.slice Ao17 t219.length co17,.int .i64 (wrap64 (t222 + 1)),.slice Ao146 y241.length co146] (0,0) _ rfl (by (with_reducible repeat (first|refine zH ?_ _|refine zJ ?_|refine zI ?_ _)); refine blk_put (cs := #[.int .i64 t217,.int .i64 t218,.slice Ao17 t219.length co17,.int .i64 (wrap64 (t222 + 1)),.slice none 0 0]) ?_ 4 _ rfl; (with_reducible repeat (first|refine zH ?_ _|refine zJ ?_|refine zI ?_ _)); refine blk_put (cs := #[.int .i64 t217,.int .i64 t218,.slice Ao17 t219.length co17,.int .i64 0,.slice none 0 0]) ?_ 3 _ rfl; (with_reducible repeat (first|refine zH ?_ _|refine zJ ?_|refine zI ?_ _)); refine blk_put (cs := #[.int .i64 t217,.int .i64 t218,.slice none 0 0,.int .i64 0,.slice none 0 0]) ?_ 2 _ rfl; (with_reducible repeat (first|refine zH ?_ _|refine zJ ?_|refine zI ?_ _)); refine blk_put (cs := #[.int .i64 t217,.int .i64 0,.slice none 0 0,.int .i64 0,.slice none 0 0]) ?_ 1 _ rfl; (with_reducible repeat (first|refine zH ?_ _|refine zJ ?_|refine zI ?_ _)); refine blk_put (cs := #[.int .i64 0,.int .i64 0,.slice none 0 0,.int .i64 0,.slice none 0 0]) ?_ 0 _ rfl; (with_reducible repeat (first|refine zH ?_ _|refine zJ ?_|refine zI ?_ _)); refine blk_far ?_ NB216_226.out _; (with_reducible repeat (first|refine zH ?_ _|refine zJ ?_|refine zI ?_ _)); refine blk_far ?_ NB216_226.out _; (with_reducible repeat (first|refine zH ?_ _|refine zJ ?_|refine zI ?_ _)); exact BK216.out) Try.underlying26 rfl (by kernel_rfl)) rfl ?_
           exact ⟨_,_,by first|rfl|(simp [errW_none,errW_some] <;> rfl)|(simp [*,errW_none,errW_some] <;> rfl),by (with_reducible repeat (first|apply zE|apply zF|apply zG)); exact zC (zB (p := ⟨gb216,4,none⟩) (zB (p := ⟨gb216,3,none⟩) (zB (p := ⟨gb216,2,none⟩) (zB (p := ⟨gb216,1,none⟩) (zB (p := ⟨gb216,0,none⟩) (zB (p := ⟨gb226,3,none⟩) (zB (p := ⟨gb226,4,none⟩) (zD (zD HO_227002.out BK226.out (by decide)) BK216.out (by decide)) (fun _ hk => hk.1.2) (.slice Ao146 y241.length co146)) (fun _ hk => hk.1.2) (.int .i64 (wrap64 (t222 + 1)))) (fun _ h=>h.2) (.int .i64 t217)) (fun _ h=>h.2) (.int .i64 t218)) (fun _ h=>h.2) (.slice Ao17 t219.length co17)) (fun _ h=>h.2) (.int .i64 (wrap64 (t222 + 1)))) (fun _ h=>h.2) (.slice Ao146 y241.length co146)) (fun _ hk => hk.1.1.2),by (with_reducible repeat (first|apply zE|apply zF|apply zG)); exact zC (zB (p := ⟨gb216,4,none⟩) (zB (p := ⟨gb216,3,none⟩) (zB (p := ⟨gb216,2,none⟩) (zB (p := ⟨gb216,1,none⟩) (zB (p := ⟨gb216,0,none⟩) (zB (p := ⟨gb226,3,none⟩) (zB (p := ⟨gb226,4,none⟩) (zD (zD HO243.out BK226.out (by decide)) BK216.out (by decide)) (fun _ hk => hk.1.2) (.slice Ao146 y241.length co146)) (fun _ hk => hk.1.2) (.int .i64 (wrap64 (t222 + 1)))) (fun _ h=>h.2) (.int .i64 t217)) (fun _ h=>h.2) (.int .i64 t218)) (fun _ h=>h.2) (.slice Ao17 t219.length co17)) (fun _ h=>h.2) (.int .i64 (wrap64 (t222 + 1)))) (fun _ h=>h.2) (.slice Ao146 y241.length co146)) (fun _ hk => hk.1.1),bT HB⟩
          ·
           rw [if_neg c137] at H
           exact absurd H (by simp)
        ·
         rw [if_neg c126] at H
         have c126b0 : (a1_0 == (wrap64 (t222 + 1))) = false := beq_eq_false_iff_ne.mpr c126
         have c126b1 : (a1_0 != (wrap64 (t222 + 1))) = true := bne_iff_ne.mpr c126
         simp only [Option.some.injEq,Prod.mk.injEq] at H
         obtain ⟨rfl,rfl,rfl,rfl,rfl,rfl⟩ := H
         have hnb150 := NB215_214.out
         have hnc150 := NB214_215.out
         have hnb151 := NB215_216.out
         have hnc151 := NB216_215.out
         have hnb152 := NB215_226.out
         have hnc152 := NB226_215.out
         obtain ⟨_,_,_,_,_,_⟩ := cz3 BK215.out
         have hnb154 := NB226_214.out
         have hnc154 := NB214_226.out
         have hnb155 := NB226_216.out
         have hnc155 := NB216_226.out
         obtain ⟨_,_,_,_,_,_,_,_,_,_⟩ := cz5 BK226.out
         have hnb157 := NB216_214.out
         have hnc157 := NB214_216.out
         obtain ⟨_,_,_,_,_,_,_,_,_,_⟩ := cz5 BK216.out
         go_wp2
         refine bodyPost_ret (results_ct rfl _ _ gb216 26 #[.int .i64 t217,.int .i64 t218,.slice Ao17 t219.length co17,.int .i64 t222,.slice Ao18 t223.length co18] (0,0) _ rfl (by (with_reducible repeat (first|refine zH ?_ _|refine zJ ?_|refine zI ?_ _)); refine blk_put (cs := #[.int .i64 t217,.int .i64 t218,.slice Ao17 t219.length co17,.int .i64 t222,.slice none 0 0]) ?_ 4 _ rfl; (with_reducible repeat (first|refine zH ?_ _|refine zJ ?_|refine zI ?_ _)); refine blk_put (cs := #[.int .i64 t217,.int .i64 t218,.slice Ao17 t219.length co17,.int .i64 0,.slice none 0 0]) ?_ 3 _ rfl; (with_reducible repeat (first|refine zH ?_ _|refine zJ ?_|refine zI ?_ _)); refine blk_put (cs := #[.int .i64 t217,.int .i64 t218,.slice none 0 0,.int .i64 0,.slice none 0 0]) ?_ 2 _ rfl; (with_reducible repeat (first|refine zH ?_ _|refine zJ ?_|refine zI ?_ _)); refine blk_put (cs := #[.int .i64 t217,.int .i64 0,.slice none 0 0,.int .i64 0,.slice none 0 0]) ?_ 1 _ rfl; (with_reducible repeat (first|refine zH ?_ _|refine zJ ?_|refine zI ?_ _)); refine blk_put (cs := #[.int .i64 0,.int .i64 0,.slice none 0 0,.int .i64 0,.slice none 0 0]) ?_ 0 _ rfl; (with_reducible repeat (first|refine zH ?_ _|refine zJ ?_|refine zI ?_ _)); exact BK216.out) Try.underlying26 rfl (by kernel_rfl)) rfl ?_
         exact ⟨_,_,by first|rfl|(simp [errW_none,errW_some] <;> rfl)|(simp [*,errW_none,errW_some] <;> rfl),by (with_reducible repeat (first|apply zE|apply zF|apply zG)); exact zC (zB (p := ⟨gb216,4,none⟩) (zB (p := ⟨gb216,3,none⟩) (zB (p := ⟨gb216,2,none⟩) (zB (p := ⟨gb216,1,none⟩) (zB (p := ⟨gb216,0,none⟩) (zD HO_227002.out BK216.out (by decide)) (fun _ h=>h.2) (.int .i64 t217)) (fun _ h=>h.2) (.int .i64 t218)) (fun _ h=>h.2) (.slice Ao17 t219.length co17)) (fun _ h=>h.2) (.int .i64 t222)) (fun _ h=>h.2) (.slice Ao18 t223.length co18)) (fun _ hk => hk.1),by (with_reducible repeat (first|apply zE|apply zF|apply zG)); exact zC (zB (p := ⟨gb216,4,none⟩) (zB (p := ⟨gb216,3,none⟩) (zB (p := ⟨gb216,2,none⟩) (zB (p := ⟨gb216,1,none⟩) (zB (p := ⟨gb216,0,none⟩) (zD HO_227004.out BK216.out (by decide)) (fun _ h=>h.2) (.int .i64 t217)) (fun _ h=>h.2) (.int .i64 t218)) (fun _ h=>h.2) (.slice Ao17 t219.length co17)) (fun _ h=>h.2) (.int .i64 t222)) (fun _ h=>h.2) (.slice Ao18 t223.length co18)) (fun _ hk => hk.1),bT HB⟩

end Go.Proofs.Ytlidnobkkgcnlaa.PFnLinks
